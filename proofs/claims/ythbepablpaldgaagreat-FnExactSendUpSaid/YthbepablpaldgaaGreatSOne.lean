/- Steps of a region that draws its order, one for each kind of operation: what comes up is run, and the region goes on. -/
import Derived.Test.YthbepablpaldgaaGreatSM34
namespace Go.Proofs.YthbepablpaldgaaGreat
set_option linter.unusedVariables false
open Go.ChangeShapes Go.WideShapes Go.ChangeAt Go.RowKit
section
variable {P:Program} {ops:Array Oper} {op:Oper} {a:Act} {w:World} {Q:Exit→Act→World→Prop} {S:World→Prop} {md:Region.Mode} {fuel:Nat} {listed:Array Bool} {i j:Nat}
def OneH(P:Program)(md:Region.Mode)(ops:Array Oper)(Q:Exit→Act→World→Prop)(S:World→Prop)(fuel:Nat)(listed:Array Bool)(a:Act)(w:World)(i:Nat):Prop :=
 wpOp P ops Q i (fun a' w'=>S w'∧wpAnyH P md ops Q S fuel (listed.setIfInBounds i true) a' w') a w
theorem wpAnyH_r1(i:Nat)(hr:Region.ready md ops listed=[i])(h:OneH P md ops Q S fuel listed a w i):wpAnyH P md ops Q S (fuel+1) listed a w :=
 wpAnyH_ready hr (by simp) (fun k hk=>by simp only[List.mem_cons,List.not_mem_nil,or_false]at hk;subst hk;exact h)
theorem wpAnyH_r2(i j:Nat)(hr:Region.ready md ops listed=[i,j])(h:OneH P md ops Q S fuel listed a w i)(h2:OneH P md ops Q S fuel listed a w j):wpAnyH P md ops Q S (fuel+1) listed a w :=
 wpAnyH_ready hr (by simp) (fun k hk=>by
  simp only[List.mem_cons,List.not_mem_nil,or_false]at hk
  rcases hk with rfl|rfl
  ·exact h
  ·exact h2)
theorem one_load1(ho1:ops[i]?=some op)(hw:Region.wanted op (yielded ops a.tmps)=true)(ty:TypeId)(x:Operand)(ho:op.op=.load ty x)(b o:Nat)(hx:a.eval x=.pointer (some ⟨b,o,none⟩)){cs:List Value}{T:TypeId}(H:Held w b cs T)(v:Value)(hv:cs[o]?=some v)
  (d:TypeDesc) (hu:P.underlying ty=some d) (hd:d.isRow=false) (hS:S w) (h:wpAnyH P md ops Q S fuel (listed.setIfInBounds i true) (a.put op.dst v) w):OneH P md ops Q S fuel listed a w i :=
 wpOp_step ho1 (fun _ hK=>st_load1 hw ty x ho b o hx H v hv d hu hd (hK _ _ ⟨hS,h⟩))
theorem one_loadH(ho1:ops[i]?=some op)(hw:Region.wanted op (yielded ops a.tmps)=true)(ty:TypeId)(x:Operand)(ho:op.op=.load ty x)(b o:Nat)(hx:a.eval x=.pointer (some ⟨b,o,none⟩)){cs row:List Value}{T:TypeId}(H:Held w b cs T)
  (d:TypeDesc) (hu:P.underlying ty=some d) (hd:d.isRow=true) (hi:(P.info? ty).map (·.size)=some row.length) (hr:(cs.drop o).take row.length=row)
  (hS:S w) (h:wpAnyH P md ops Q S fuel (listed.setIfInBounds i true) (a.put op.dst (.agg row.toArray)) w):OneH P md ops Q S fuel listed a w i :=
 wpOp_step ho1 (fun _ hK=>st_loadH hw ty x ho b o hx H d hu hd hi hr (hK _ _ ⟨hS,h⟩))
theorem one_call(ho1:ops[i]?=some op)(hw:Region.wanted op (yielded ops a.tmps)=true){f:FuncId}{fn:Func}{xs:Array Operand}{ts:Array TypeId}(hop:op.op=.call { callee:=.value (.func f),args:=xs,argTypes:=ts })(hf:P.funcs[f]?=some fn)(hname:(fn.name == "runtime.NumGoroutine")=false)(hb:fn.body.isNone=false)
  (args:List Value) (hv:xs.toList.map a.eval=args) (hc:Calls P f args.toArray w fun e w'=>∃ v,e=.returned v∧S w'∧wpAnyH P md ops Q S fuel (listed.setIfInBounds i true) (a.put op.dst v) w'):OneH P md ops Q S fuel listed a w i :=
 wpOp_step ho1 (fun _ hK=>step_callw hw hop hf hname hb args hv (hc.mono fun _ _ ⟨v,h1,h2⟩=>⟨v,h1,hK _ _ h2⟩))
theorem set4_all(A:Array Value)(c0 c1 c2 c3:Value)(h:A.size=4):(((A.setIfInBounds 0 c0).setIfInBounds 1 c1).setIfInBounds 2 c2).setIfInBounds 3 c3=#[c0,c1,c2,c3]:=by
 obtain⟨l⟩:=A
 match l,h with
 | [_,_,_,_],_=>rfl
theorem run_buildSlice4{t T:TypeId}{z:Value}{c0 c1 c2 c3:Value}(ht:P.underlying t=some (.slice T))(hi:(P.info? T).map (fun i=>(i.zero,i.size))=some (some z,4)) :
  (Instr.buildSlice t 1 #[(0,.agg #[c0,c1,c2,c3])]).run P w=.ok (.slice (some ⟨w.heap.size,0,none⟩) 1 1) (w.alloc (.cells #[c0,c1,c2,c3] T)):=by
 obtain⟨ti,hti,h3⟩:=Option.map_eq_some_iff.1 hi
 simp only[Prod.mk.injEq]at h3
 obtain⟨h4,h5⟩:=h3
 simp[Instr.buildSlice,Sem.run_bind,run_underlying ht,sizeOf,typeInfo,hti,h4,h5,zeroValue,Instr.fill,newRow,Array.zipIdx,Array.range,go_sem]
 rw[set4_all _ _ _ _ _ (by simp[h5])]
theorem one_build4(ho1:ops[i]?=some op)(hw:Region.wanted op (yielded ops a.tmps)=true)(t:TypeId)(x:Operand)(ho:op.op=.buildSlice t 1 #[(0,x)]){T:TypeId}{z:Value}(ht:P.underlying t=some (.slice T))(hi:(P.info? T).map (fun i=>(i.zero,i.size))=some (some z,4))
  {c0 c1 c2 c3:Value} (hx:a.eval x=.agg #[c0,c1,c2,c3]) (hS:S (w.alloc (.cells #[c0,c1,c2,c3] T))) (h:wpAnyH P md ops Q S fuel (listed.setIfInBounds i true) (a.put op.dst (.slice (some ⟨w.heap.size,0,none⟩) 1 1)) (w.alloc (.cells #[c0,c1,c2,c3] T))):OneH P md ops Q S fuel listed a w i :=
 wpOp_step ho1 (fun _ hK=>by
  rw[if_pos hw]
  unfold Oper.wp execOp
  simp only[ho]
  have:=run_buildSlice4 (P:=P) (w:=w) (c0:=c0) (c1:=c1) (c2:=c2) (c3:=c3) ht hi
  simp only[hx,List.map_toArray,List.map_cons,List.map_nil,this,Sem.run_bind,Result.andThen_ok,Sem.run_pure]
  exact hK _ _ ⟨hS,h⟩)
theorem one_app1{α:Type}{enc:α→List Value}{T size:Nat}(ho1:ops[i]?=some op)(hw:Region.wanted op (yielded ops a.tmps)=true){w0:World}{T1:TypeId}{cs:Array Value}{t:TypeId}{bytes:Nat}{z:Value}(y:α)
  (s x:Operand) (ho:op.op=.call { callee:=.builtin .append,args:=#[s,x],argTypes:=#[t,t] })
  (ht:P.underlying t=some (.slice T)) (hinfo:(P.info? T).map (fun i=>(i.zero,i.size,i.bytes))=some (some z,size,bytes)) (hzs:z.cells.size=size) (hsz:0<size) (hby:bytes≤1000)
  {l:List α} {n:Nat} {sa:Option Addr} {sc:Nat} (hs:a.eval s=.slice sa n sc) {xb:Nat} (hx:a.eval x=.slice (some ⟨xb,0,none⟩) 1 1) (hn:l.length=n) {B:Nat} (hown:Own enc T size B w sa sc l)
  (hxc:w.heap[xb]?=some (.cells cs T1 (0,0))) (hy:cs.toList=enc y) (h1:∀ u∈enc y,u.oneCell'=true) (hb:n≤1000000000) (hB:B≤w.heap.size) (g:Grows w0 w) (hB0:w0.heap.size≤B)
  (h:∀ (sa':Option Addr) (sc':Nat) (x':Later w0),Own enc T size B x'.w sa' sc' (l++[y])→w.grownBy x'.w (Value.ownBlock (.slice sa n sc))→(blkOf sa'=blkOf sa∨blkOf sa'=some w.heap.size)→S x'.w∧wpAnyH P md ops Q S fuel (listed.setIfInBounds i true) (a.put op.dst (.slice sa' (n+1) sc')) x'.w):OneH P md ops Q S fuel listed a w i :=
 wpOp_step ho1 (fun _ hK=>st_app1F hw y s x ho ht hinfo hzs hsz hby hs hx hn hown hxc hy h1 hb hB g hB0 fun sa' sc' x' h2 h3 h4=>hK _ _ (h sa' sc' x' h2 h3 h4))
theorem wpAnyH_storeEnd(i:Nat)(ho1:ops[i]?=some op)(hr:Region.ready md ops listed=[i])(hr2:Region.ready md ops (listed.setIfInBounds i true)=[])
  (hw:Region.wanted op (yielded ops a.tmps)=true) (ty:TypeId) (x y:Operand) (ho:op.op=.store ty x y) (b o:Nat) (hx:a.eval x=.pointer (some ⟨b,o,none⟩)) {cs us cs2:List Value} {T:TypeId} (H:Held w b cs T)
  (hv:(a.eval y).cells.toList=us) (hi:(P.info? ty).map (·.size)=some us.length) (h1:us.all (·.oneCell')=true) (hl:o+us.length≤cs.length) (hcs:splice cs o us=cs2) {w0:World} (g:Grows w0 w) (hb:w0.heap.size≤b)
  (h:∀ z:Later w0,Held z.w b cs2 T→w.grownBy z.w (some b)→S z.w∧Q .normal (a.put op.dst undef) z.w):wpAnyH P md ops Q S (fuel+1) listed a w :=
 wpAnyH_r1 i hr (wpOp_step ho1 (fun _ hK=>st_storeH hw ty x y ho b o hx H hv hi h1 hl hcs g hb fun z h2 h3=>hK _ _ ⟨(h z h2 h3).1,wpAnyH_done hr2 (h z h2 h3).2 _⟩))
end
theorem Own.lowNe{α:Type}{enc:α→List Value}{T size B b n c2:Nat}{w:World}{a:Option Addr}{c:Nat}{l:List α}(h:Own enc T size B w a c l)(hb:b<B):some b≠Value.ownBlock (.slice a n c2):=by
 rw[ownBlock_eq]
 intro e
 have:=(h.blk b e.symm).1
 omega
theorem But.farO{b:Nat}{w0 w w':World}{row:Option Nat}(h:But b w0 w)(g:w.grownBy w' row)(hq:∀ q,row=some q→w0.heap.size≤q):But b w0 w' :=
 ⟨Nat.le_trans h.size g.size,fun k h1 h2=>(g.block k (Nat.lt_of_lt_of_le h2 h.size) (fun e=>by have:=hq k e.symm;omega)).trans (h.block k h1 h2)⟩
theorem But.here{b:Nat}{w0 w w':World}(h:But b w0 w)(g:w.grownBy w' (some b)):But b w0 w' :=
 ⟨Nat.le_trans h.size g.size,fun k h1 h2=>(g.block k (Nat.lt_of_lt_of_le h2 h.size) (by simpa using h1)).trans (h.block k h1 h2)⟩
theorem keepsOf{B b:Nat}{w w':World}(g:w.grownBy w' (some b))(hb:b<B):Keeps B w w':=⟨g.size,fun k h1 h2=>g.block k h2 (by simp only[ne_eq,Option.some.injEq];omega)⟩
theorem Sl.rangeN{α β:Type}[N:Nest α β]{w:World}{a:Option Addr}{l:List (NRow α)}(h:Sl (encN (α:=α)) w a l){k b off m:Nat}{r:NRow α}(hr:l[k]?=some r)(ha:a=some ⟨b,off,none⟩){row:List Value}(hrow:encN r=row)(hm:row.length=m)(W:World)(g:Grows w W):W.rangeAt b (off+k*m) row:=by
 subst hrow
 obtain⟨b',off',ha',hb,hc⟩:=h k r hr
 rw[ha]at ha'
 simp only[Option.some.injEq,Addr.mk.injEq,and_true]at ha'
 obtain⟨rfl,rfl⟩:=ha'
 intro j v hv
 subst hm
 exact cell_grown hb (hc j v hv) W
theorem OwnN.empty{α β:Type}[N:Nest α β][F:Flat β]{B:Nat}{w:World}{a:Option Addr}{c:Nat}(h:Own (encN (α:=α)) N.ty N.size B w a c []):OwnN B (fun _=>(0,0)) 0 w a c ([]:List (NRow α)):=⟨h,fun _ _=>rfl,fun k r hr=>by simp at hr⟩
