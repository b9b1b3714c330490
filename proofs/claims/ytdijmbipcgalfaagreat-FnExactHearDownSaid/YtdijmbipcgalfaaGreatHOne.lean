/- Steps of a region that draws its order, one for each kind of operation: what comes up is run, and the region goes on. -/
import Derived.Test.YtdijmbipcgalfaaGreatHM29
namespace Go.Proofs.YtdijmbipcgalfaaGreat
set_option linter.unusedVariables false
open Go.ChangeShapes Go.WideShapes Go.ChangeAt Go.RowKit
variable {T:TypeId}{z:Value}
section
variable {P:Program} {ops:Array Oper} {op:Oper} {a:Act} {w:World} {Q:Exit→Act→World→Prop} {S:World→Prop} {md:Region.Mode} {fuel:Nat} {listed:Array Bool} {i j:Nat}
def bE3(P:Program)(md:Region.Mode)(ops:Array Oper)(Q:Exit→Act→World→Prop)(S:World→Prop)(fuel:Nat)(listed:Array Bool)(a:Act)(w:World)(i:Nat):Prop :=
 wpOp P ops Q i (fun a' w'=>S w'∧wpAnyH P md ops Q S fuel (listed.setIfInBounds i true) a' w') a w
theorem W4(i:Nat)(hr:Region.ready md ops listed=[i])(h:bE3 P md ops Q S fuel listed a w i):wpAnyH P md ops Q S (fuel+1) listed a w :=
 wpAnyH_ready hr si (fun k hk=>by simp only[List.mem_cons,List.not_mem_nil,or_false]at hk;subst hk;exact h)
theorem aH2(i j:Nat)(hr:Region.ready md ops listed=[i,j])(h:bE3 P md ops Q S fuel listed a w i)(h2:bE3 P md ops Q S fuel listed a w j):wpAnyH P md ops Q S (fuel+1) listed a w :=
 wpAnyH_ready hr si (fun k hk=>by
  simp only[List.mem_cons,List.not_mem_nil,or_false]at hk
  rcases hk with rfl|rfl
  ·exact h
  ·exact h2)
theorem at4(ho1:ops[i]?=some op)(hw:Region.wanted op (yielded ops a.tmps)=true)(ty:TypeId)(x:Operand)(ho:op.op=.load ty x)(b o:Nat)(hx:a.eval x=.pointer (some ⟨b,o,none⟩)){cs:List Value}(H:j5 w b cs T)(v:Value)(hv:cs[o]?=some v)
  (d:TypeDesc) (hu:P.underlying ty=some d) (hd:d.isRow=false) (hS:S w) (h:wpAnyH P md ops Q S fuel (listed.setIfInBounds i true) (a.put op.dst v) w):bE3 P md ops Q S fuel listed a w i :=
 wpOp_step ho1 (fun _ hK=>bU7 hw ty x ho b o hx H v hv d hu hd (hK _ _ ⟨hS,h⟩))
theorem aP7(ho1:ops[i]?=some op)(hw:Region.wanted op (yielded ops a.tmps)=true){f:FuncId}{fn:Func}{xs:Array Operand}{ts:Array TypeId}(hop:op.op=.call { callee:=.value (.func f),args:=xs,argTypes:=ts })(hf:P.funcs[f]?=some fn)(hname:(fn.name == "runtime.NumGoroutine")=false)(hb:fn.body.isNone=false)
  (args:List Value) (hv:xs.toList.map a.eval=args) (hc:Calls P f args.toArray w fun e w'=>∃ v,e=.returned v∧S w'∧wpAnyH P md ops Q S fuel (listed.setIfInBounds i true) (a.put op.dst v) w'):bE3 P md ops Q S fuel listed a w i :=
 wpOp_step ho1 (fun _ hK=>bK7 hw hop hf hname hb args hv (hc.mono fun _ _ ⟨v,h1,h2⟩=>⟨v,h1,hK _ _ h2⟩))
theorem bU2(A:Array Value)(c0 c1 c2 c3:Value)(h:A.size=4):(((A.setIfInBounds 0 c0).setIfInBounds 1 c1).setIfInBounds 2 c2).setIfInBounds 3 c3=#[c0,c1,c2,c3]:=by
 obtain⟨l⟩:=A
 match l,h with
 | [_,_,_,_],_=>rfl
theorem aY9{t:TypeId}{c0 c1 c2 c3:Value}(ht:P.underlying t=some (.slice T))(hi:(P.info? T).map (fun i=>(i.zero,i.size))=some (some z,4)) :
  (Instr.buildSlice t 1 #[(0,.agg #[c0,c1,c2,c3])]).run P w=.ok (.slice (some ⟨w.heap.size,0,none⟩) 1 1) (w.alloc (.cells #[c0,c1,c2,c3] T)):=by
 obtain⟨ti,hti,h3⟩:=Option.map_eq_some_iff.1 hi
 simp only[Prod.mk.injEq]at h3
 obtain⟨h4,h5⟩:=h3
 simp[Instr.buildSlice,Sem.run_bind,run_underlying ht,sizeOf,typeInfo,hti,h4,h5,zeroValue,Instr.fill,newRow,Array.zipIdx,Array.range,go_sem]
 rw[bU2 _ _ _ _ _ (by simp[h5])]
theorem aq4(ho1:ops[i]?=some op)(hw:Region.wanted op (yielded ops a.tmps)=true)(t:TypeId)(x:Operand)(ho:op.op=.buildSlice t 1 #[(0,x)])(ht:P.underlying t=some (.slice T))(hi:(P.info? T).map (fun i=>(i.zero,i.size))=some (some z,4))
  {c0 c1 c2 c3:Value} (hx:a.eval x=.agg #[c0,c1,c2,c3]) (hS:S (w.alloc (.cells #[c0,c1,c2,c3] T))) (h:wpAnyH P md ops Q S fuel (listed.setIfInBounds i true) (a.put op.dst (.slice (some ⟨w.heap.size,0,none⟩) 1 1)) (w.alloc (.cells #[c0,c1,c2,c3] T))):bE3 P md ops Q S fuel listed a w i :=
 wpOp_step ho1 (fun _ hK=>by
  rw[if_pos hw]
  unfold Oper.wp execOp
  simp only[ho]
  have:=aY9 (P:=P) (w:=w) (c0:=c0) (c1:=c1) (c2:=c2) (c3:=c3) ht hi
  simp only[hx,List.map_toArray,List.map_cons,List.map_nil,this,Sem.run_bind,Result.andThen_ok,Sem.run_pure]
  exact hK _ _ ⟨hS,h⟩)
theorem ax7{α:Type}{enc:α→List Value}{T size:Nat}(ho1:ops[i]?=some op)(hw:Region.wanted op (yielded ops a.tmps)=true){w0:World}{T1:TypeId}{cs:Array Value}{t:TypeId}{bytes:Nat}(y:α)
  (s x:Operand) (ho:op.op=.call { callee:=.builtin .append,args:=#[s,x],argTypes:=#[t,t] })
  (ht:P.underlying t=some (.slice T)) (hinfo:(P.info? T).map (fun i=>(i.zero,i.size,i.bytes))=some (some z,size,bytes)) (hzs:z.cells.size=size) (hsz:0<size) (hby:bytes≤1000)
  {l:List α} {n:Nat} {sa:Option Addr} {sc:Nat} (hs:a.eval s=.slice sa n sc) {xb:Nat} (hx:a.eval x=.slice (some ⟨xb,0,none⟩) 1 1) (hn:l.length=n) {B:Nat} (hown:Own enc T size B w sa sc l)
  (hxc:w.heap[xb]?=some (.cells cs T1 (0,0))) (hy:cs.toList=enc y) (h1:∀ u∈enc y,u.oneCell'=true) (hb:n≤1000000000) (hB:B≤w.heap.size) (g:b8 w0 w) (hB0:w0.heap.size≤B)
  (h:∀ (sa':Option Addr) (sc':Nat) (x':b7 w0),Own enc T size B x'.w sa' sc' (l++[y])→w.grownBy x'.w (Value.ownBlock (.slice sa n sc))→(E9 sa'=E9 sa∨E9 sa'=some w.heap.size)→S x'.w∧wpAnyH P md ops Q S fuel (listed.setIfInBounds i true) (a.put op.dst (.slice sa' (n+1) sc')) x'.w):bE3 P md ops Q S fuel listed a w i :=
 wpOp_step ho1 (fun _ hK=>bU6 hw y s x ho ht hinfo hzs hsz hby hs hx hn hown hxc hy h1 hb hB g hB0 fun sa' sc' x' h2 h3 h4=>hK _ _ (h sa' sc' x' h2 h3 h4))
theorem ab0(i:Nat)(ho1:ops[i]?=some op)(hr:Region.ready md ops listed=[i])(hr2:Region.ready md ops (listed.setIfInBounds i true)=[])
  (hw:Region.wanted op (yielded ops a.tmps)=true) (ty:TypeId) (x y:Operand) (ho:op.op=.store ty x y) (b o:Nat) (hx:a.eval x=.pointer (some ⟨b,o,none⟩)) {cs us cs2:List Value}  (H:j5 w b cs T)
  (hv:(a.eval y).cells.toList=us) (hi:(P.info? ty).map (·.size)=some us.length) (h1:us.all (·.oneCell')=true) (hl:o+us.length≤cs.length) (hcs:ak0 cs o us=cs2) {w0:World} (g:b8 w0 w) (hb:w0.heap.size≤b)
  (h:∀ z:b7 w0,j5 z.w b cs2 T→w.grownBy z.w (some b)→S z.w∧Q .normal (a.put op.dst undef) z.w):wpAnyH P md ops Q S (fuel+1) listed a w :=
 W4 i hr (wpOp_step ho1 (fun _ hK=>bQ6 hw ty x y ho b o hx H hv hi h1 hl hcs g hb fun z h2 h3=>hK _ _ ⟨(h z h2 h3).1,wpAnyH_done hr2 (h z h2 h3).2 _⟩))
end
theorem Own.lowNe{α:Type}{enc:α→List Value}{T size B b n c2:Nat}{w:World}{a:Option Addr}{c:Nat}{l:List α}(h:Own enc T size B w a c l)(hb:b<B):some b≠Value.ownBlock (.slice a n c2):=by
 rw[I6]
 intro e
 have:=(h.blk b e.symm).1
 omega
theorem But.farO{b:Nat}{w0 w w':World}{row:Option Nat}(h:But b w0 w)(g:w.grownBy w' row)(hq:∀ q,row=some q→w0.heap.size≤q):But b w0 w' :=
 ⟨Nat.le_trans h.size g.size,fun k h1 h2=>(g.block k (Nat.lt_of_lt_of_le h2 h.size) (fun e=>by have:=hq k e.symm;omega)).trans (h.block k h1 h2)⟩
theorem But.here{b:Nat}{w0 w w':World}(h:But b w0 w)(g:w.grownBy w' (some b)):But b w0 w' :=
 ⟨Nat.le_trans h.size g.size,fun k h1 h2=>(g.block k (Nat.lt_of_lt_of_le h2 h.size) (by simpa using h1)).trans (h.block k h1 h2)⟩
theorem aG1{B b:Nat}{w w':World}(g:w.grownBy w' (some b))(hb:b<B):d7 B w w':=⟨g.size,fun k h1 h2=>g.block k h2 (by simp only[ne_eq,Option.some.injEq];omega)⟩
theorem Sl.rangeN{α β:Type}[N:ap4 α β]{w:World}{a:Option Addr}{l:List (N2 α)}(h:Sl (aa0 (α:=α)) w a l){k b off m:Nat}{r:N2 α}(hr:l[k]?=some r)(ha:a=some ⟨b,off,none⟩){row:List Value}(hrow:aa0 r=row)(hm:row.length=m)(W:World)(g:b8 w W):W.rangeAt b (off+k*m) row:=by
 subst hrow
 obtain⟨b',off',ha',hb,hc⟩:=h k r hr
 rw[ha]at ha'
 simp only[Option.some.injEq,Addr.mk.injEq,and_true]at ha'
 obtain⟨rfl,rfl⟩:=ha'
 intro j v hv
 subst hm
 exact j4 hb (hc j v hv) W
theorem M3.empty{α β:Type}[N:ap4 α β][F:D7 β]{B:Nat}{w:World}{a:Option Addr}{c:Nat}(h:Own (aa0 (α:=α)) N.ty N.size B w a c []):M3 B (fun _=>(0,0)) 0 w a c ([]:List (N2 α)):=⟨h,fun _ _=>rfl,fun k r hr=>by simp at hr⟩
