/- AcceptOrder of the reference. No condition but on sizes. -/
import Derived.Test.YtdoilejecjaldaaGreatHM50
import Derived.Test.YtdoilejecjaldaaGreatHM44
import Derived.Test.YtdoilejecjaldaaGreatHStab5
import Derived.Test.YtdoilejecjaldaaGreatHM31
import Derived.Deep.CutRange
import Derived.Deep.CutBlock
namespace Go.Proofs.YtdoilejecjaldaaGreat
set_option maxRecDepth 100000
set_option maxHeartbeats 4000000
set_option linter.unusedVariables false
open Go.ChangeShapes Go.WideShapes Go.ChangeAt Go.RowKit
private abbrev ar5:=Tryz.underlying79
private abbrev am0:=Tryz.underlying84
def SQ(q:Nat)(y W:World):Prop:=∀ k,k<y.heap.size→k≠q→W.heap[k]?=y.heap[k]?
theorem bL2{w w':World}{b:Nat}{cs:List Value}{T:TypeId}(h:i9 w b cs T)(e:w'.heap[b]?=w.heap[b]?):i9 w' b cs T:=by unfold i9 at h ⊢;rw[e];exact h
theorem SQ.of{q:Nat}{y W:World}(g:d5 y W):SQ q y W:=fun k hk _=>g.out.block k hk
theorem SQ.by{q:Nat}{y W W2:World}(g:d5 y W)(k:W.grownBy W2 (some q)):SQ q y W2:=fun j hj hne=>(k.block j (Nat.lt_of_lt_of_le hj g.out.size) (fun e=>hne (by cases e;rfl))).trans (g.out.block j hj)
theorem bH2{w w':World}{b:Nat}{cs:List Value}{T:TypeId}{row:Option Nat}(h:i9 w b cs T)(g:w.grownBy w' row)(hne:some b≠row):i9 w' b cs T:=by
 have hl:=h.lt
 unfold i9 at h ⊢
 rw[g.block b hl hne];exact h
section
variable {P:Program} {ops:Array Oper} {op:Oper} {act:Act} {w w0:World} {Q:Exit→Act→World→Prop} {S:World→Prop} {md:Region.Mode} {fuel:Nat} {listed:Array Bool} {α β:Type} [E:S7 α] [E2:D9 β] {X:Nat→Prop} {B b:Nat} {x:α} {F:FS α β} {l:List β} {a:Option Addr} {c:Nat}
theorem bl7(i:Nat)(ho1:ops[i]?=some op)(hr:Region.ready md ops listed=[i])(hw:Region.wanted op (yielded ops act.tmps)=true)(ty:TypeId)(p v:Operand)(ho:op.op=.store ty p v)(h:GBp F X B b w x l a c)(hx:act.eval p=.pointer (some ⟨b,F.off,none⟩))(hv:act.eval v=.slice a l.length c)(hi:(P.info? ty).map (·.size)=some 1)
  (g:d5 w0 w) (hb:w0.heap.size≤B) (K:∀ z:b5 w0,GB X B b z.w (F.set x l)→w.grownBy z.w (some b)→S z.w∧wpAnyH P md ops Q S fuel (listed.setIfInBounds i true) (act.put op.dst undef) z.w):wpAnyH P md ops Q S (fuel+1) listed act w:=by
 obtain⟨χ,vs,h1,hl,h2,h3,h4,h5,h6⟩:=h
 exact bj2 i ho1 hr hw ty p v ho b F.off hx h1 (us:=[.slice a l.length c]) (cs2:=vs.set F.off (.slice a l.length c)) (by rw[hv];rfl) hi rfl (by have:=F.lt;rw[hl];exact this) rfl g (Nat.le_trans hb h5) fun z hz hk =>
  K z ⟨χ,_,hz,bo2 h2 h3 h5 hk,h3,h4.mono hk.size,h5,fun k hk'=>⟨(h6 k hk').1,(h6 k hk').2.1,Nat.lt_of_lt_of_le (h6 k hk').2.2 hk.size⟩⟩ hk
end
section
variable {α:Type} {enc:α→List Value} {T size:Nat} {P:Program} {ops:Array Oper} {o op:Oper} {a:Act} {w W w0:World} {Q:Exit→Act→World→Prop} {S:World→Prop} {md:Region.Mode} {fuel:Nat} {listed:Array Bool} {K:Act→World→Prop} {i:Nat}
theorem aw8{t:TypeId}{bytes:Nat}{z:Value}(ho1:ops[i]?=some op)(hw:Region.wanted op (yielded ops a.tmps)=true)
  (s x:Operand) (ho:op.op=.call { callee:=.builtin .append,args:=#[s,x],argTypes:=#[t,t] })
  (ht:P.underlying t=some (.slice T)) (hinfo:(P.info? T).map (fun i=>(i.zero,i.size,i.bytes))=some (some z,size,bytes)) (hzs:z.cells.size=size) (hsz:0<size) (hby:bytes≤1000)
  {l r:List α} {n m c:Nat} {sa ra:Option Addr} {sc:Nat} (hs:a.eval s=.slice sa n sc) (hx:a.eval x=.slice ra m c) (hnil:ra=none→c=0) (hn:l.length=n) (hm:r.length=m) (hown:Own enc T size w0.heap.size w sa sc l)
  (hr:Sl enc w ra r) (h1:∀ y,∀ u∈enc y,u.oneCell'=true) (hb:n+m≤1000000000) (g:d5 w0 w)
  (h:∀ (sa':Option Addr) (sc':Nat) (x':b5 w0),Own enc T size w0.heap.size x'.w sa' sc' (l++r)→w.grownBy x'.w (Value.ownBlock (.slice sa n sc))→S x'.w∧wpAnyH P md ops Q S fuel (listed.setIfInBounds i true) (a.put op.dst (.slice sa' (n+m) sc')) x'.w):be7 P md ops Q S fuel listed a w i :=
 wpOp_step ho1 (fun K hK=>by
  rw[if_pos hw]
  obtain⟨ti,hi,h3⟩:=Option.map_eq_some_iff.1 hinfo
  simp only[Prod.mk.injEq]at h3
  obtain⟨h4,h5,h6⟩:=h3
  subst hn;subst hm
  cases ra with
  | none =>
   obtain rfl:=hnil rfl
   have hr0:r=[]:=by
    cases r with
    | nil=>rfl
    | cons y r=>obtain⟨b,off,h0,-⟩:=hr 0 y rfl;cases h0
   subst hr0
   have hrun:=run_append_owned_none (P:=P) (w:=w) w0.heap.size t op.type T ti size ht hi _ l.length (l.flatMap enc) hown.2
   unfold Oper.wp
   simp[execOp,ho,resolve,invoke,builtin,hs,hx,hrun,Result.andThen]
   exact hK _ _ (h sa sc ⟨w,g.out⟩ (by rw[List.append_nil];exact hown) ⟨rfl,rfl,rfl,Nat.le_refl _,fun k hk hr=>rfl⟩)
  | some ad =>
   have hb':(l.length+r.length)*bytes≤140737488355328:=by
    have:(l.length+r.length)*bytes≤(l.length+r.length)*1000:=Nat.mul_le_mul_left _ hby
    omega
   refine wp_append_own (a:=a) (w:=w) s x t ho w0.heap.size T ti z size bytes ht hi h4 h5 h6 hzs hsz _ l.length (l.flatMap enc) hs hown.2 ad r.length c (r.flatMap enc) hx (F8 hown.1 r)
    (fun j u hj=>?_) (fun u hu=>?_) (by unfold maxLen;omega) hb' g.out.size ?_
   ·have hlt:j<r.length*size:=by rw[← F8 hown.1 r];exact(List.getElem?_eq_some_iff.1 hj).1
    have hq:j / size<r.length:=Nat.div_lt_of_lt_mul (by rw[Nat.mul_comm];exact hlt)
    have hy:=List.getElem?_eq_getElem hq
    have hmod:j % size<(enc r[j / size]).length:=by rw[hown.1];exact Nat.mod_lt _ hsz
    have hu:=List.getElem?_eq_getElem hmod
    have h8:=af6 hown.1 r _ _ _ _ hy hu
    have hj':j / size*size+j % size=j:=by rw[Nat.mul_comm];exact Nat.div_add_mod _ _
    rw[hj',hj]at h8
    obtain⟨b,off,hbo,-,hc⟩:=hr _ _ hy
    simp only[Option.some.injEq]at hbo
    subst hbo
    have h9:=hc _ _ hu
    rw[hown.1,Nat.add_assoc,hj']at h9
    simp only[Option.some.injEq]at h8
    rw[h8,ap7];exact h9
   ·exact bv5 h1 r u hu
   ·intro v' w' ho' hg' hnil'
    have hlt:=hown.2.lt
    have hbel:Below w0.heap.size w0 w':=g.out.grown hg' g.out.size (fun k hk=>(hlt k hk).1)
    have hf:aP0 v' (l.length+r.length):=by
     rcases ho'.2 with⟨hv,hn0⟩|⟨g',cap,cur,hv,-⟩
     ·exact⟨none,0,by rw[hn0];exact hv⟩
     ·exact⟨_,_,hv⟩
    obtain⟨sa',sc',rfl⟩:=hf
    refine hK _ _ (h sa' sc' ⟨w',hbel⟩ ⟨hown.1,?_⟩ hg')
    rw[List.flatMap_append,List.length_append];exact ho')
theorem bd4(ho1:ops[i]?=some op)(hw:Region.wanted op (yielded ops a.tmps)=true)(t:TypeId)(ho:op.op=.buildSlice t 0 #[]){z:Value}{n:Nat}(ht:P.underlying t=some (.slice T))(hi:(P.info? T).map (fun i=>(i.zero,i.size))=some (some z,n))
  (h:S (w.alloc (.cells #[] T))∧wpAnyH P md ops Q S fuel (listed.setIfInBounds i true) (a.put op.dst (.slice (some ⟨w.heap.size,0,none⟩) 0 0)) (w.alloc (.cells #[] T))):be7 P md ops Q S fuel listed a w i :=
 wpOp_step ho1 (fun _ hK=>by
  rw[if_pos hw]
  obtain⟨ti,hti,h3⟩:=Option.map_eq_some_iff.1 hi
  simp only[Prod.mk.injEq]at h3
  obtain⟨h4,h5⟩:=h3
  have:=hK _ _ h
  unfold Oper.wp execOp
  have hrun:(Instr.buildSlice t 0 #[]).run P w=.ok (.slice (some ⟨w.heap.size,0,none⟩) 0 0) (w.alloc (.cells #[] T)):=by
   simp[Instr.buildSlice,Sem.run_bind,run_underlying ht,sizeOf,typeInfo,hti,Instr.fill,newRow]
   first|rfl|(rw[show Array.range 0=#[]from rfl];rfl)|simp[Array.range]
  simp only[ho,List.map_toArray,List.map_nil,hrun,Sem.run_bind,Result.andThen_ok,Sem.run_pure]
  exact this)
theorem bO7(A:Array Value)(c0 c1 c2 c3 c4:Value)(h:A.size=5):((((A.setIfInBounds 0 c0).setIfInBounds 1 c1).setIfInBounds 2 c2).setIfInBounds 3 c3).setIfInBounds 4 c4=#[c0,c1,c2,c3,c4]:=by
 obtain⟨l⟩:=A
 match l,h with
 | [_,_,_,_,_],_=>rfl
theorem aW8{t:TypeId}{z:Value}{c0 c1 c2 c3 c4:Value}(ht:P.underlying t=some (.slice T))(hi:(P.info? T).map (fun i=>(i.zero,i.size))=some (some z,5)) :
  (Instr.buildSlice t 1 #[(0,.agg #[c0,c1,c2,c3,c4])]).run P w=.ok (.slice (some ⟨w.heap.size,0,none⟩) 1 1) (w.alloc (.cells #[c0,c1,c2,c3,c4] T)):=by
 obtain⟨ti,hti,h3⟩:=Option.map_eq_some_iff.1 hi
 simp only[Prod.mk.injEq]at h3
 obtain⟨h4,h5⟩:=h3
 simp[Instr.buildSlice,Sem.run_bind,run_underlying ht,sizeOf,typeInfo,hti,h4,h5,zeroValue,Instr.fill,newRow,Array.zipIdx,Array.range,go_sem]
 rw[bO7 _ _ _ _ _ _ (by simp[h5])]
theorem aJ3(ho1:ops[i]?=some op)(hw:Region.wanted op (yielded ops a.tmps)=true)(t:TypeId)(x:Operand)(ho:op.op=.buildSlice t 1 #[(0,x)]){z:Value}(ht:P.underlying t=some (.slice T))(hi:(P.info? T).map (fun i=>(i.zero,i.size))=some (some z,5))
  {c0 c1 c2 c3 c4:Value} (hx:a.eval x=.agg #[c0,c1,c2,c3,c4]) (h:S (w.alloc (.cells #[c0,c1,c2,c3,c4] T))∧wpAnyH P md ops Q S fuel (listed.setIfInBounds i true) (a.put op.dst (.slice (some ⟨w.heap.size,0,none⟩) 1 1)) (w.alloc (.cells #[c0,c1,c2,c3,c4] T))):be7 P md ops Q S fuel listed a w i :=
 wpOp_step ho1 (fun _ hK=>by
  rw[if_pos hw]
  unfold Oper.wp execOp
  simp only[ho]
  have:=aW8 (P:=P) (w:=w) (c0:=c0) (c1:=c1) (c2:=c2) (c3:=c3) (c4:=c4) ht hi
  simp only[hx,List.map_toArray,List.map_cons,List.map_nil,this,Sem.run_bind,Result.andThen_ok,Sem.run_pure]
  exact hK _ _ h)
end
section
variable {α:Type} {enc:α→List Value} {w:World} {a:Option Addr} {c j size:Nat} {l:List α}
theorem Sl.uptoA(h:Sl enc w a l):Sl enc w (if c=0 then a else a.map (·.add (0*size))) (l.take j):=fun i x hx=>by
 obtain⟨b,off,rfl,h2,h3⟩:=(h.take j) i x hx
 refine⟨b,off,?_,h2,h3⟩
 split
 ·rfl
 ·rw[Option.map_some,ap7,Nat.zero_mul,Nat.add_zero]
theorem Sl.fromA(h:Sl enc w a l)(hc:l.length≤c)(hs:∀ y,(enc y).length=size):Sl enc w (if c=j then a else a.map (·.add (j*size))) (l.drop j):=fun i x hx=>by
 have hx2:=hx
 rw[List.getElem?_drop]at hx2
 obtain⟨b,off,rfl,-,-⟩:=h (j+i) x hx2
 have h9:=h.from2 (j:=j) hc hs i x hx
 have e:(if c=j then some (⟨b,off,none⟩:Addr)else(some (⟨b,off,none⟩:Addr)).map (·.add (j*size)))=some ⟨b,if c=j then off else off+j*size,none⟩:=by
  split
  ·rfl
  ·rw[Option.map_some,ap7]
 rw[e];exact h9
theorem bP5(hn:a=none→c=0)(e:(if c=0 then a else a.map (·.add (0*size)))=none):c=0:=by
 by_cases hc:c=0
 ·exact hc
 ·rw[if_neg hc]at e
  cases a with
  | none=>exact hn rfl
  | some x=>simp at e
theorem bN0(hn:a=none→c=0)(e:(if c=j then a else a.map (·.add (j*size)))=none):c - j=0:=by
 by_cases hc:c=j
 ·omega
 ·rw[if_neg hc]at e
  cases a with
  | none=>have:=hn rfl;omega
  | some x=>simp at e
end
theorem bd0{B:Nat}{vs:List Value}{b:D5}{x:Z3}{w:World}(h:Enc.Rd B w vs b)(hx:aw6 x)(ht:Enc.tot b≤50000000) :
  Calls Tryz.prog 85 #[.agg vs.toArray,.agg #[.int .i64 x.Kind,.int .i64 x.At,.int .i64 x.A,.int .i64 x.B]] w (bG2 w (A7 b x).1 (A7 b x).2):=by
 have HL:=lH (Y3 h);have H1:=lH (aj0 h)
 have HM:=lH h
 have HT:=lH (show Enc.tot b≤100000000 by omega);have HT5:=lH ht;clear ht
 obtain⟨A,hvs,F⟩:=h
 have HV4:=lH (show vs[4]?=some (.slice A.a2 b.Orders.length A.c2)by rw[hvs];rfl)
 have HV10:=lH (show vs[10]?=some (.int .i64 b.Taken)by rw[hvs];rfl)
 have HV0:=lH (show vs[0]?=some (.int .i64 b.Clock)by rw[hvs];rfl)
 have HQ2:=lH F.q2
 have HXO:=lH hx
 clear hvs F hx
 have HB:=lH ((i9.new w vs 84 w.heap.size rfl).to (ii:d5 _ (((w.alloc (.cells vs.toArray 84)).alloc (.cells #[.int .i64 x.Kind,.int .i64 x.At,.int .i64 x.A,.int .i64 x.B] 169)).alloc (.cells L6.toArray 84))))
 have HW:=lH ((i9.new (w.alloc (.cells vs.toArray 84)) [.int .i64 x.Kind,.int .i64 x.At,.int .i64 x.A,.int .i64 x.B] 169 (w.heap.size+1) (by simp)).to (ii:d5 _ (((w.alloc (.cells vs.toArray 84)).alloc (.cells #[.int .i64 x.Kind,.int .i64 x.At,.int .i64 x.A,.int .i64 x.B] 169)).alloc (.cells L6.toArray 84))))
 have HR:=lH (i9.new ((w.alloc (.cells vs.toArray 84)).alloc (.cells #[.int .i64 x.Kind,.int .i64 x.At,.int .i64 x.A,.int .i64 x.B] 169)) L6 84 (w.heap.size+2) (by simp))
 have gW:d5 w (((w.alloc (.cells vs.toArray 84)).alloc (.cells #[.int .i64 x.Kind,.int .i64 x.At,.int .i64 x.A,.int .i64 x.B] 169)).alloc (.cells L6.toArray 84)):=inferInstance
 have hsz:((((w.alloc (.cells vs.toArray 84)).alloc (.cells #[.int .i64 x.Kind,.int .i64 x.At,.int .i64 x.A,.int .i64 x.B] 169)).alloc (.cells L6.toArray 84))).heap.size=w.heap.size+3:=by simp
 go_enter Tryz.func85,Tryz.ntmps85
 go_upto_region 1 with(first|((with_reducible refine rl ?_);refine rq ?_;intro x))
 generalize (((w.alloc (.cells vs.toArray 84)).alloc (.cells #[.int .i64 x.Kind,.int .i64 x.At,.int .i64 x.A,.int .i64 x.B] 169)).alloc (.cells L6.toArray 84))=W2 at HB HW HR gW hsz ⊢
 have iB:LtN w.heap.size W2.heap.size:=⟨by omega⟩
 have iW:LtN (w.heap.size+1) W2.heap.size:=⟨by omega⟩
 have iR:LtN (w.heap.size+2) W2.heap.size:=⟨by omega⟩
 have hW2:w.heap.size≤W2.heap.size:=by omega
 have f1:=HW.out.cellG 1 _ rfl
 go_wp2_with (first|((with_reducible refine rl ?_);refine rq ?_;intro x)|(refine sL rfl _ (.tmp 2) rfl (w.heap.size) rfl HB ii am0 HL ?_))
 refine(av0 (x:=b) (Enc.keep HM.out ii) HT.out).mono ?_
 rintro _ _ ⟨cs,χ,rfl,hO,y1,rfl⟩
 have HLC:=lH (Y3 (R8.toRd hO));have HOC:=lH (aj0 (R8.toRd hO));have HO:=lH hO;clear hO
 go_upto_region 2 with(first|((with_reducible refine rl ?_);refine rq ?_;intro x)|(refine sW rfl _ _ _ rfl _ rfl (us:=cs) (i9.new _ L6 84 _ rfl) HLC HOC (w0:=W2) ii LeN.out ?_;intro z1 HX1 KX1))
 (try simp only[Act.put])
 obtain⟨qb,hqb⟩:∃ qb,y1.w.heap.size=qb:=⟨_,rfl⟩
 rw[hqb]
 have HG:=lH (show GB (fun _=>False) W2.heap.size qb z1.w b from hqb▸GB.of HO.out (KX1.out.under ii nl) y1.size_le HX1.out)
 have hqB:W2.heap.size≤qb:=HG.out.le
 have hqlt:LtN qb z1.w.heap.size:=⟨HG.out.lt⟩
 clear hqb HX1 KX1 HO HLC HOC
 go_cut [19]from 10 (fun s wx=>s=.bool (!V8 b x)∧∃ y:b5 z1.w,wx=y.w)
 case first =>
  go_wp2_with (first|((with_reducible refine rl ?_);refine rq ?_;intro x)|(refine sL rfl _ (.tmp 2) rfl (w.heap.size) rfl HB ii am0 HL ?_))
  refine gm (aB2 (Enc.keep HM.out ii) HT.out) ?_
  intro y5
  cases c0:s9 b
  ·have HK:=lH (show V8 b x=false by rw[V8,c0];rfl)
   go_wp2_with (first|((with_reducible refine rl ?_);(repeat(first|go_big_quiet_step (first|fail)|simp only[c0]));refine wpQuiet_nil ?_;intro x))
   go_meet
   case rel=>exact⟨by rw[HK.out];rfl,b5.of⟩
  go_wp2_with (first|((with_reducible refine rl ?_);(repeat(first|go_big_quiet_step (first|fail)|simp only[c0]));refine wpQuiet_nil ?_;intro x)|(refine X1 kg _ _ rfl (w.heap.size+1) 0 kr (row:=[.int .i64 x.Kind,.int .i64 x.At,.int .i64 x.A,.int .i64 x.B]) (HW.out.to ii) _ Tryz.underlying169 rfl kr rfl ?_))
  refine gm (as7 (x:=x)) ?_
  intro y6
  have HK:=lH (show V8 b x=w8 x by rw[V8,c0];rfl)
  cases c1:w8 x
  ·go_wp2_with (first|((with_reducible refine rl ?_);(repeat(first|go_big_quiet_step (first|fail)|simp only[c0]|simp only[c1]));refine wpQuiet_nil ?_;intro x))
   go_meet
   case rel=>exact⟨by rw[HK.out,c1];rfl,b5.of⟩
  ·go_wp2_with (first|((with_reducible refine rl ?_);(repeat(first|go_big_quiet_step (first|fail)|simp only[c0]|simp only[c1]));refine wpQuiet_nil ?_;intro x))
   go_meet
   case rel=>exact⟨by rw[HK.out,c1];rfl,b5.of⟩
 case rest =>
  obtain⟨rfl,y0,rfl⟩:=hcut
  have HG0:=lH (HG.out.to (ii:d5 z1.w y0.w))
  clear HG hqlt
  obtain⟨yy,hyy⟩:∃ yy:b5 W2,y0.w=yy.w:=⟨z1.andThen y0,rfl⟩
  rw[hyy]at HG0 ⊢
  clear hyy y0
  have HG:=HG0
  clear HG0
  have hqlt:LtN qb yy.w.heap.size:=⟨HG.out.lt⟩
  cases hk:V8 b x
  ·have HK:=lH (show A7 b x=(b,false)by rw[A7,hk];rfl)
   clear hk
   obtain⟨vs9,hH9,hl9,h19,hrd9,χ9,hO9⟩:=HG.out.vs
   have HH9:=lH hH9;have HO9:=lH hO9;have H19:=lH h19;have HL9:=lH (show vs9.length=12 from hl9);have HRD9:=lH hrd9
   clear hO9 hH9 h19 hl9 hrd9
   go_wp2_with (first|((with_reducible refine rl ?_);refine rq ?_;intro x)|(refine sL rfl _ _ rfl (qb) kr HH9 ii am0 HL9 ?_)|(refine sW rfl _ _ _ rfl (w.heap.size+2) rfl (us:=vs9) (HR.out.to ii) HL9 H19 (w0:=w) ii (by omega) ?_;intro z7 HX7 KX7))
   refine bodyPost_ret (v:=.tuple #[.agg vs9.toArray,.bool false]) (L0 (P:=Tryz.prog) (u:=.bool false) rfl rfl HX7.out _ am0 rfl (by rw[HL9.out];kernel_rfl) rfl) rfl ?_
   rw[HK.out]
   exact⟨vs9,χ9,rfl,ac0 (ar4 HO9.out ii) KX7.out (show w.heap.size+2<W2.heap.size by omega) hW2,b5.of⟩
  ·have HK:=lH hk
   rw[V8,Bool.and_eq_true]at hk
   have HBP:=lH (aR7 hk.1)
   clear hk
   have e10:=HB.out.cellG 10 _ HV10.out
   go_upto_region 5 with(first|((with_reducible refine rl ?_);refine rq ?_;intro x)|(refine f7 rfl _ _ rfl (w.heap.size+1) 0 rfl (row:=[.int .i64 x.Kind,.int .i64 x.At,.int .i64 x.A,.int .i64 x.B]) (HW.out.to ii) _ Tryz.underlying169 rfl kr rfl ?_))
   (try simp only[Act.put])
   have HX5:=lH (i9.new yy.w [.int .i64 b.Taken,.int .i64 x.Kind,.int .i64 x.At,.int .i64 x.A,.int .i64 x.B] 254 yy.w.heap.size rfl)
   obtain⟨z5,hz5⟩:∃ z5:b5 yy.w,(yy.w.alloc (.cells #[.int .i64 b.Taken,.int .i64 x.Kind,.int .i64 x.At,.int .i64 x.A,.int .i64 x.B] 254))=z5.w:=b5.of
   rw[show([.int .i64 b.Taken,.int .i64 x.Kind,.int .i64 x.At,.int .i64 x.A,.int .i64 x.B]:List Value).toArray=#[.int .i64 b.Taken,.int .i64 x.Kind,.int .i64 x.At,.int .i64 x.A,.int .i64 x.B]from rfl,hz5]at HX5
   rw[hz5];clear hz5
   obtain⟨qo,hqo⟩:∃ qo,yy.w.heap.size=qo:=⟨_,rfl⟩
   rw[hqo]at HX5 ⊢
   have HP:=lH (GB.prot (P:=(·=qo)) HG.out (ii:d5 yy.w z5.w) (fun k hk=>by subst hk;exact⟨Nat.le_of_eq hqo,HX5.out.lt⟩))
   obtain⟨X,hX⟩:∃ X:Nat→Prop,(fun k=>False∨k=qo)=X:=⟨_,rfl⟩
   rw[hX]at HP
   have HXq:=lH (show X qo by rw[← hX];exact .inr rfl)
   clear hqo hX HG
   have hqlt5:LtN qb z5.w.heap.size:=⟨HP.out.lt⟩
   have hqo5:LtN qo z5.w.heap.size:=⟨HX5.out.lt⟩
   have gW5:d5 W2 z5.w:=S9 (ii:d5 W2 yy.w) ii
   have hW5:=gW5.out.size
   clear e10
   have HTB:=lH (show 0≤b.Taken∧b.Taken≤65535 from HBP.out.2.2.2.2.1)
   have htb0:=HTB.out.1;have htb1:=HTB.out.2
   have e10:∀ (W:World) [d5 z5.w W],W.cell? ⟨qb,10,none⟩=some (.int .i64 b.Taken):=by
    obtain⟨vs6,hH6,-,-,⟨A6,rfl,-⟩,-⟩:=HP.out.vs
    exact hH6.cellG 10 _ rfl
   go_upto_region 6 with(first|((with_reducible refine rl ?_);refine rq ?_;intro x)|(refine ax1 (o:=10) (us:=[.int .i64 (b.Taken+1)]) ({ b with Taken:=b.Taken+1 }:D5) rfl _ (.tmp 28) (.tmp 27) rfl (HP.out.to ii) rfl rfl kr rfl nb (by intros;rename_i h;obtain⟨A1,rfl,p⟩:=h;exact⟨A1,rfl,{ p with ok:=⟨p.ok.1,p.ok.2.1,p.ok.2.2.1,(show i64 (b.Taken+1)by unfold i64;omega),trivial⟩ }⟩) (w0:=W2) ii nl ?_;intro z6 hz6 hX6))
   (try simp only[Act.put])
   have HX6:=lH (show i9 z6.w qo [.int .i64 b.Taken,.int .i64 x.Kind,.int .i64 x.At,.int .i64 x.A,.int .i64 x.B] 254 by unfold i9;rw[hX6 qo HXq.out];exact HX5.out.to ii)
   have HZ6:=lH hz6
   clear hz6 hX6 HX5 HP e10 gW5 hqlt5 hqo5
   have hqb6:LtN qb z6.w.heap.size:=⟨HZ6.out.lt⟩
   have hqo6:LtN qo z6.w.heap.size:=⟨HX6.out.lt⟩
   obtain⟨n,hn⟩:∃ n,b.Orders.length=n:=⟨_,rfl⟩
   have HN:=lH hn
   have hn40:n≤40:=hn▸HBP.out.2.2.2.2.2.2.2.1
   have ea2:∀ (W:World) [d5 W2 W],W.cell? ⟨w.heap.size,4,none⟩=some (.slice A.a2 n A.c2):=HB.out.cellG 4 _ (hn▸HV4.out)
   have HRD:=lH (show RdS B z6.w A.a2 A.c2 b.Orders from HQ2.out.keep (ay3 (S9 gW ii)))
   clear hn
   cases c4:decide ((n:Int)<40)
   ·have HAR:=lH (show J1 b x={ b with Taken:=b.Taken+1,Done:=b.Done++[⟨b.Taken,b.Clock,0⟩] } by rw[J1,if_neg (by have:=of_decide_eq_false c4;have:=HN.out;omega)])
    have HRM:=lH (show decide (b.Orders.length<40)=false by have:=of_decide_eq_false c4;have:=HN.out;exact decide_eq_false (by omega))
    have g0:=HX6.out.cellG 0 _ rfl
    have ec:=HB.out.cellG 0 _ HV0.out
    obtain⟨sb,sD,eb,hownd,-,-⟩:=HZ6.out.own ay0
    obtain⟨n2,hn2⟩:∃ n,b.Done.length=n:=⟨_,rfl⟩
    have hnb2:n2≤5000:=hn2▸HBP.out.2.2.2.2.2.2.2.2.1
    have HED2:=lH (eb z6.w);have HN2:=lH hn2
    have eb2:∀ (W:World) [d5 z6.w W],W.cell? ⟨qb,5,none⟩=some (.slice sb n2 sD):=fun W g=>HN2.out▸eb W
    clear eb hn2
    have HGD:=lH (show i64 b.Taken∧i64 b.Clock∧i64 0∧True from⟨by unfold i64;omega,by have:=HBP.out.2.2.2.2.2.1;unfold i64;omega,by unfold i64;omega,trivial⟩)
    go_upto_region 13 with(first|((with_reducible refine rl ?_);(repeat(first|go_big_quiet_step (first|fail)|simp only[c4]));refine wpQuiet_nil ?_;intro x)|(at_builtin;refine X9 (enc:=ab0) (w0:=W2) (z:=.agg #[.int .i64 0,.int .i64 0,.int .i64 0]) (size:=3) (bytes:=24) (n:=n2) (⟨b.Taken,b.Clock,0⟩) rfl (.tmp 70) (.tmp 76) rfl Tryz.underlying80 kr rfl (by decide) (by decide) rfl rfl HN2.out (hownd.to ii) bk rfl (ar3 _) (by omega) LeN.out ii nl ?_;intro sa9 sc9 xa9 hown1 hgr1 hblk1;have hp9:=(GBp.app (F:=ay0) HZ6.out HED2.out ii hown1 hgr1 hblk1 HGD.out).1;clear hown1 hgr1 hblk1)|(refine by9 (aX4 HN2.out) rfl _ _ _ rfl hp9 rfl rfl kr ii nl ?_;intro z9 hz9))
    (try simp only[Act.put])
    have HZ9:=lH (show GB X W2.heap.size qb z9.w (J1 b x)by rw[HAR.out];exact hz9)
    have HTP:=lH (show Enc.tot (J1 b x)≤100000000 by rw[ap1];have:=HT5.out;omega)
    clear hz9 ec eb2 hownd g0 ea2
    have hqb9:LtN qb z9.w.heap.size:=⟨HZ9.out.lt⟩
    obtain⟨vs9,hH9,hl9,h19,hrd9,χ9,hO9⟩:=HZ9.out.vs
    have HH9:=lH hH9;have HO9:=lH hO9;have H19:=lH h19;have HL9:=lH (show vs9.length=12 from hl9);have HRD9:=lH hrd9
    clear hO9 hH9 h19 hl9 hrd9
    go_wp2_with (first|((with_reducible refine rl ?_);refine rq ?_;intro x)|(refine sL rfl _ _ rfl (qb) kr HH9 ii am0 HL9 ?_))
    refine gm (aB2 (Enc.keep HRD9.out ii) HTP.out) ?_
    intro y9
    cases hr:s9 (J1 b x)
    ·have HKR:=lH (show A7 b x=(b,false)by rw[A7,HK.out,if_pos rfl,hr];rfl)
     go_wp2_with (first|((with_reducible refine rl ?_);(repeat(first|go_big_quiet_step (first|fail)|simp only[hr]));refine wpQuiet_nil ?_;intro x)|(refine sL rfl _ (.tmp 2) rfl (w.heap.size) rfl HB ii am0 HL ?_))
     refine(av0 (x:=b) (Enc.keep HM.out ii) HT.out).mono ?_
     rintro _ _ ⟨cs8,χ8,rfl,hO8,y8,rfl⟩
     have HLC:=lH (Y3 (R8.toRd hO8));have HOC:=lH (aj0 (R8.toRd hO8));have HO:=lH hO8;clear hO8
     go_wp2_with (first|((with_reducible refine rl ?_);refine rq ?_;intro x)|(refine sW rfl _ _ _ rfl (w.heap.size+2) rfl (us:=cs8) (HR.out.to ii) HLC HOC (w0:=w) ii (by omega) ?_;intro z8 HX8 KX8))
     refine bodyPost_ret (v:=.tuple #[.agg cs8.toArray,.bool false]) (L0 (P:=Tryz.prog) (u:=.bool false) rfl rfl HX8.out _ am0 rfl (by rw[HLC.out];kernel_rfl) rfl) rfl ?_
     rw[HKR.out]
     exact⟨cs8,χ8,rfl,ac0 HO.out KX8.out LtN.out LeN.out,b5.of⟩
    ·have HKR:=lH (show A7 b x=(J1 b x,false)by rw[A7,HK.out,if_pos rfl,if_pos hr,HRM.out])
     go_wp2_with (first|((with_reducible refine rl ?_);(repeat(first|go_big_quiet_step (first|fail)|simp only[hr]));refine wpQuiet_nil ?_;intro x)|(refine sL rfl _ _ rfl (qb) kr HH9 ii am0 HL9 ?_)|(refine sW rfl _ _ _ rfl (w.heap.size+2) rfl (us:=vs9) (HR.out.to ii) HL9 H19 (w0:=w) ii (by omega) ?_;intro z7 HX7 KX7))
     refine bodyPost_ret (v:=.tuple #[.agg vs9.toArray,.bool false]) (L0 (P:=Tryz.prog) (u:=.bool false) rfl rfl HX7.out _ am0 rfl (by rw[HL9.out];kernel_rfl) rfl) rfl ?_
     rw[HKR.out]
     exact⟨vs9,χ9,rfl,ac0 (ar4 HO9.out ii) KX7.out (show w.heap.size+2<W2.heap.size by omega) hW2,b5.of⟩
   ·have HAR:=lH (show J1 b x={ b with Taken:=b.Taken+1,Orders:=ag4 b.Orders (X7 x.At b.Orders n) ⟨b.Taken,x⟩ } by rw[J1,if_pos (by have:=of_decide_eq_true c4;have:=HN.out;omega),HN.out])
    have HRM:=lH (show decide (b.Orders.length<40)=true by have:=of_decide_eq_true c4;have:=HN.out;exact decide_eq_true (by omega))
    go_upto_block 0 with(first|((with_reducible refine rl ?_);(repeat(first|go_big_quiet_step (first|fail)|simp only[c4]));refine wpQuiet_nil ?_;intro x))
    go_cut [9]from 10 (fun s wx=>s=.int .i64 ((X7 x.At b.Orders n:Nat):Int)∧∃ y:b5 z6.w,wx=y.w)
    case first =>
     go_wp2_with (first|((with_reducible refine rl ?_);refine rq ?_;intro x))
     go_loopw [9] (fun v wr=>∃ k:Nat,v=.int .i64 k∧k≤n∧Hid (X7 x.At b.Orders k=X7 x.At b.Orders n)∧∃ y:b5 z6.w,wr=y.w) (fun v _=>(intOf v).toNat)
     case atStart=>exact⟨n,rfl,Nat.le_refl _,rfl,b5.of⟩
     case round =>
      obtain⟨k,rfl,hk,HF,y,rfl⟩:=hrel
      cases k with
      | zero =>
       have kc:decide ((0:Int)<((0:Nat):Int))=false:=rfl
       go_wp2_with (first|((with_reducible refine rl ?_);(repeat(first|go_big_quiet_step (first|fail)|simp only[kc]));refine wpQuiet_nil ?_;intro x))
       go_meet
       case rel=>exact⟨by rw[← HF.out];rfl,b5.of⟩
      | succ j =>
       have kc:decide ((0:Int)<((j+1:Nat):Int))=true:=decide_eq_true (by omega)
       have kj:((j+1:Nat):Int) - 1=(j:Int):=by omega
       have hjn:j<n:=hk
       obtain⟨eb,eoff,es,heq,ehb,ehd,eok,eh0,eh1,eh2,eh3,eh4⟩:=(HRD.out.keep (ay3 (ii:d5 z6.w y.w))).atTWaiting (show j<b.Orders.length by rw[HN.out];exact hjn)
       have HAT:=lH (show bM5 b.Orders j=es.Order.At by have:=congrArg (fun l=>l[0]?) ehd.out;simp only[List.getElem?_drop,Nat.add_zero,List.getElem?_cons_zero]at this;rw[bM5,this])
       have HEQ:=lH heq
       clear ehd eok
       cases c5:decide (x.At<es.Order.At)
       ·have HB5:=lH (show X7 x.At b.Orders (j+1)=j+1 by rw[X7,HAT.out,if_neg (of_decide_eq_false c5)])
        go_wp2_with (first|((with_reducible refine rl ?_);(repeat(first|go_big_quiet_step (first|fail)|simp only[kc]|simp only[kj]|simp only[c5]));refine wpQuiet_nil ?_;intro x))
        go_meet
        case rel=>exact⟨by rw[← HF.out,HB5.out],b5.of⟩
       ·have HB5:=lH (show X7 x.At b.Orders (j+1)=X7 x.At b.Orders j by rw[X7,HAT.out,if_pos (of_decide_eq_true c5)])
        go_wp2_with (first|((with_reducible refine rl ?_);(repeat(first|go_big_quiet_step (first|fail)|simp only[kc]|simp only[kj]|simp only[c5]));refine wpQuiet_nil ?_;intro x))
        go_roundw
        case rel=>exact⟨j,by go_num,by omega,lH (by have:=HF.out;rw[HB5.out]at this;exact this),b5.of⟩
        case measure=>first|(simp[intOf];done)|(simp[intOf];omega)
    case rest =>
     obtain⟨-,-,-,-,hgood,-⟩:=HZ6.out.own ai9
     have HGO:=lH hgood
     clear hgood
     obtain⟨rfl,y7,rfl⟩:=hcut
     have hkb:=aP3 x.At b.Orders n
     obtain⟨k,hk⟩:∃ k,X7 x.At b.Orders n=k:=⟨_,rfl⟩
     rw[hk]at hkb HAR ⊢
     clear hk
     have HLE:=lH (show(ag4 b.Orders k (⟨b.Taken,x⟩:A4)).length=n+1 by rw[aw4,HN.out])
     have HGI:=lH (show ∀ p∈ag4 b.Orders k (⟨b.Taken,x⟩:A4),al7 p from fun p hp=>by
      rcases List.mem_append.1 hp with hp|hp
      ·exact HGO.out p (List.mem_of_mem_take hp)
      ·rcases List.mem_cons.1 hp with rfl|hp
       ·exact⟨show i64 b.Taken by unfold i64;omega,HXO.out,trivial⟩
       ·exact HGO.out p (List.mem_of_mem_drop hp))
     obtain⟨r1,hr1⟩:∃ r,(if A.c2=0 then A.a2 else A.a2.map (·.add (0*5)))=r:=⟨_,rfl⟩
     obtain⟨r2,hr2⟩:∃ r,(if A.c2=k then A.a2 else A.a2.map (·.add (k*5)))=r:=⟨_,rfl⟩
     have HSL:=lH (show Sl j6 y7.w A.a2 b.Orders from(RdS.slF HRD.out).to ii)
     have hnc:n≤A.c2:=by have:=HRD.out.cap;have:=HN.out;omega
     have hkc:k≤A.c2:=by omega
     have HNIL:=lH (show A.a2=none→A.c2=0 from HRD.out.nilcap)
     have HS1:=lH (show Sl j6 y7.w r1 (b.Orders.take k)from hr1▸HSL.out.uptoA)
     have HS2:=lH (show Sl j6 y7.w r2 (b.Orders.drop k)from hr2▸HSL.out.fromA (by rw[HN.out];exact hnc) I6)
     have HN1:=lH (show r1=none→A.c2=0 from fun e=>bP5 HNIL.out (hr1.trans e))
     have HN2:=lH (show r2=none→A.c2 - k=0 from fun e=>bN0 HNIL.out (hr2.trans e))
     have HR1:=lH hr1;have HR2:=lH hr2
     clear hr1 hr2
     have HTK:=lH (show(b.Orders.take k).length=k by rw[List.length_take,HN.out];omega)
     have HDR:=lH (show(b.Orders.drop k).length=n - k by rw[List.length_drop,HN.out])
     go_upto_region 11 with(first|((with_reducible refine rl ?_);refine rq ?_;intro x))
     go_cut [8]from 9 (fun s8 wx=>s8=.bool true∧GB X W2.heap.size qb wx (J1 b x)∧∃ z:b5 W2,wx=z.w)
     case first =>
      have hwy:w.heap.size<y7.w.heap.size:=by have h5:=(ii:d5 W2 y7.w).out.size;omega
      have hwq:w.heap.size≠qb:=by omega
      have hqoy:qo<y7.w.heap.size:=Nat.lt_of_lt_of_le HX6.out.lt (ii:d5 z6.w y7.w).out.size
      have hqoq:qo≠qb:=(HZ6.out.xs HXq.out).1
      have e7:=ea2 y7.w
      have HX7:=lH (HX6.out.to (ii:d5 z6.w y7.w))
      refine be6 (fun _ _ _ _ _ h=>h) fun KK hPK hKK=>?_
      refine wp_region_held_drew (S:=SQ qb y7.w) kr (SQ.of ii) (fun hH=>?_)
      refine wpAnyH_take (i:=1) (v:=?v1) rfl kr kr kr (fun _ _ _ h=>hPK.out _ _ _ _ _ h) (Or.inl ⟨by rfl,?y1⟩) (by assumption) ?r1
      case y1=>intro w hSw;clear hSw;go_simp;(try with_reducible rfl)
      (try simp only[List.getElem_toArray,List.getElem_cons_succ,List.getElem_cons_zero]);(try simp only[nrm])
      refine wpAnyH_take (i:=2) (v:=.slice A.a2 n A.c2) rfl kr kr kr (fun _ _ _ h=>hPK.out _ _ _ _ _ h) (aU9 (by rfl) _ _ rfl (w.heap.size) (4) kr (.slice A.a2 n A.c2) (fun W hW=>(bj7 (hW w.heap.size hwy hwq) _).trans e7) _ ar5 rfl) (by assumption) ?_
      (try simp only[List.getElem_toArray,List.getElem_cons_succ,List.getElem_cons_zero]);(try simp only[nrm])
      refine wpAnyH_take (i:=3) (v:=?v3) rfl kr kr kr (fun _ _ _ h=>hPK.out _ _ _ _ _ h) (Or.inl ⟨by rfl,?y3⟩) (by assumption) ?r3
      case y3=>intro w hSw;clear hSw;go_simp;(try with_reducible rfl)
      (try simp only[List.getElem_toArray,List.getElem_cons_succ,List.getElem_cons_zero]);(try simp only[nrm])
      refine wpAnyH_take (i:=4) (v:=?v4) rfl kr kr kr (fun _ _ _ h=>hPK.out _ _ _ _ _ h) (Or.inl ⟨by rfl,?y4⟩) (by assumption) ?r4
      case y4=>intro w hSw;clear hSw;go_simp;(try with_reducible rfl)
      (try simp only[List.getElem_toArray,List.getElem_cons_succ,List.getElem_cons_zero]);(try simp only[nrm])
      refine wpAnyH_take (i:=6) (v:=.agg #[.int .i64 b.Taken,.int .i64 x.Kind,.int .i64 x.At,.int .i64 x.A,.int .i64 x.B]) rfl kr kr kr (fun _ _ _ h=>hPK.out _ _ _ _ _ h) (yieldsIf_load_mid (by rfl) _ _ rfl qo 0 kr [.int .i64 b.Taken,.int .i64 x.Kind,.int .i64 x.At,.int .i64 x.A,.int .i64 x.B] _ (fun W hW=>(bL2 HX7.out (hW qo hqoy hqoq)).range (n:=5) rfl) Tryz.underlying254 rfl kr) (by assumption) ?_
      (try simp only[List.getElem_toArray,List.getElem_cons_succ,List.getElem_cons_zero]);(try simp only[nrm])
      refine wpAnyH_take (i:=9) (v:=?v9) rfl kr kr kr (fun _ _ _ h=>hPK.out _ _ _ _ _ h) (Or.inl ⟨by rfl,?y9⟩) (by assumption) ?r9
      case y9=>intro w hSw;clear hSw;go_simp;(try with_reducible rfl)
      (try simp only[List.getElem_toArray,List.getElem_cons_succ,List.getElem_cons_zero]);(try simp only[nrm])
      refine wpAnyH_take (i:=10) (v:=.slice A.a2 n A.c2) rfl kr kr kr (fun _ _ _ h=>hPK.out _ _ _ _ _ h) (aU9 (by rfl) _ _ rfl (w.heap.size) (4) kr (.slice A.a2 n A.c2) (fun W hW=>(bj7 (hW w.heap.size hwy hwq) _).trans e7) _ ar5 rfl) (by assumption) ?_
      (try simp only[List.getElem_toArray,List.getElem_cons_succ,List.getElem_cons_zero]);(try simp only[nrm])
      refine wpAnyH_take (i:=11) (v:=?v11) rfl kr kr kr (fun _ _ _ h=>hPK.out _ _ _ _ _ h) (Or.inl ⟨by rfl,?y11⟩) (by assumption) ?r11
      case y11=>intro w hSw;clear hSw;go_simp;(try with_reducible rfl)
      (try simp only[List.getElem_toArray,List.getElem_cons_succ,List.getElem_cons_zero]);(try simp only[nrm])
      refine wpAnyH_take (i:=12) (v:=?v12) rfl kr kr kr (fun _ _ _ h=>hPK.out _ _ _ _ _ h) (Or.inl ⟨by rfl,?y12⟩) (by assumption) ?r12
      case y12=>intro w hSw;clear hSw;go_simp;(try rw[if_pos HR2.out]);(try rw[HR2.out]);(try with_reducible rfl)
      (try simp only[List.getElem_toArray,List.getElem_cons_succ,List.getElem_cons_zero]);(try simp only[nrm])
      refine as2 0 7 kr ?_ ?_
      ·refine bd4 rfl kr _ rfl (T:=254) (z:=.agg #[.int .i64 0,.int .i64 0,.int .i64 0,.int .i64 0,.int .i64 0]) (n:=5) ar5 kr ⟨SQ.of ii,?_⟩
       (try simp only[List.getElem_toArray,List.getElem_cons_succ,List.getElem_cons_zero]);(try simp only[nrm])
       refine as2 5 7 kr ?_ ?_
       ·refine aw8 (enc:=j6) (T:=254) (size:=5) (w0:=y7.w) (z:=.agg #[.int .i64 0,.int .i64 0,.int .i64 0,.int .i64 0,.int .i64 0]) (bytes:=40) (l:=([]:List A4)) (r:=(b.Orders.take k)) (n:=0) (m:=k) (c:=A.c2) rfl kr (.tmp 54) (.tmp 58) rfl ar5 kr rfl (by decide) (by decide) kr kr HNIL.out rfl HTK.out (Own.emptyAt (W:=y7.w.drew) I6 nl rfl) ((HSL.out.take k).to ii) J5 (by omega) ii ?_
        intro a5 c5 x5 ho5 hg5
        refine⟨SQ.of ii,?_⟩
        (try simp only[List.getElem_toArray,List.getElem_cons_succ,List.getElem_cons_zero]);(try simp only[nrm])
        rw[List.nil_append]at ho5
        refine J8 7 kr ?_
        refine aJ3 rfl kr _ _ rfl (T:=254) (z:=.agg #[.int .i64 0,.int .i64 0,.int .i64 0,.int .i64 0,.int .i64 0]) ar5 kr rfl ⟨SQ.of ii,?_⟩
        (try simp only[List.getElem_toArray,List.getElem_cons_succ,List.getElem_cons_zero]);(try simp only[nrm])
        refine J8 8 kr ?_
        refine an4 (enc:=j6) (w0:=y7.w) (z:=.agg #[.int .i64 0,.int .i64 0,.int .i64 0,.int .i64 0,.int .i64 0]) (size:=5) (bytes:=40) (n:=0+k) rfl kr (⟨b.Taken,x⟩:A4) (.tmp 59) (.tmp 61) rfl ar5 kr rfl (by decide) (by decide) kr kr (by rw[HTK.out];omega) (ho5.to ii) (i9.new x5.w [.int .i64 b.Taken,.int .i64 x.Kind,.int .i64 x.At,.int .i64 x.A,.int .i64 x.B] 254 x5.w.heap.size rfl) rfl (J5 _) (by omega) LeN.out ii nl ?_
        intro a8 c8 x8 ho8 hg8 hb8
        refine⟨SQ.of ii,?_⟩
        (try simp only[List.getElem_toArray,List.getElem_cons_succ,List.getElem_cons_zero]);(try simp only[nrm])
        clear hg8 hb8
        refine J8 13 kr ?_
        refine aw8 (enc:=j6) (T:=254) (size:=5) (w0:=y7.w) (z:=.agg #[.int .i64 0,.int .i64 0,.int .i64 0,.int .i64 0,.int .i64 0]) (bytes:=40) (l:=(b.Orders.take k++[(⟨b.Taken,x⟩:A4)])) (r:=(b.Orders.drop k)) (n:=(0+k+1)) (m:=(n - k)) (c:=(A.c2 - k)) rfl kr (.tmp 62) (.tmp 66) rfl ar5 kr rfl (by decide) (by decide) kr kr HN2.out (by rw[List.length_append,HTK.out];simp) HDR.out ho8 (HS2.out.to ii) J5 (by omega) ii ?_
        intro a9 c9 x9 ho9 hg9
        refine⟨SQ.of ii,?_⟩
        (try simp only[List.getElem_toArray,List.getElem_cons_succ,List.getElem_cons_zero]);(try simp only[nrm])
        have ho9:Own j6 254 5 y7.w.heap.size x9.w a9 c9 (ag4 b.Orders k (⟨b.Taken,x⟩:A4)):=by rw[ag4,List.append_cons];exact ho9
        have hp9:=GBp.new (F:=ai9) (HZ6.out.to (ii:d5 z6.w y7.w)) (ii:d5 y7.w x9.w) (D0.of ho9 HGI.out (0,0))
        clear ho9 hg9
        have hS9:SQ qb y7.w x9.w:=SQ.of ii
        refine wpAnyH_take (i:=14) (v:=?vb14) rfl kr kr kr (fun _ _ _ h=>hPK.out _ _ _ _ _ h) (Or.inl ⟨by rfl,?yb14⟩) (by assumption) ?rb14
        case yb14=>intro w hSw;clear hSw;go_simp;(try with_reducible rfl)
        (try simp only[List.getElem_toArray,List.getElem_cons_succ,List.getElem_cons_zero]);(try simp only[nrm])
        refine bl7 15 rfl kr kr _ _ _ rfl hp9 rfl (by show Value.slice a9 (0+k+1+(n - k)) c9=_;rw[HLE.out];congr 1;omega) kr (w0:=W2) ii nl ?_
        intro z8 hz8 hk8
        refine⟨SQ.by (ii:d5 y7.w x9.w) hk8,?_⟩
        (try simp only[List.getElem_toArray,List.getElem_cons_succ,List.getElem_cons_zero]);(try simp only[nrm])
        refine wpAnyH_done kr ?_ _
        refine hKK.out _ _ _ ?_
        clear hKK hPK hH
        go_wp2_with (first|((with_reducible refine rl ?_);refine rq ?_;intro x))
        go_meet
        case rel=>exact⟨rfl,(by rw[HAR.out];exact hz8),b5.of⟩
       ·refine aJ3 rfl kr _ _ rfl (T:=254) (z:=.agg #[.int .i64 0,.int .i64 0,.int .i64 0,.int .i64 0,.int .i64 0]) ar5 kr rfl ⟨SQ.of ii,?_⟩
        (try simp only[List.getElem_toArray,List.getElem_cons_succ,List.getElem_cons_zero]);(try simp only[nrm])
        have hB7:=(i9.new (y7.w.drew.alloc (.cells #[] 254)) [.int .i64 b.Taken,.int .i64 x.Kind,.int .i64 x.At,.int .i64 x.A,.int .i64 x.B] 254 (y7.w.drew.alloc (.cells #[] 254)).heap.size rfl)
        refine J8 5 kr ?_
        refine aw8 (enc:=j6) (T:=254) (size:=5) (w0:=y7.w) (z:=.agg #[.int .i64 0,.int .i64 0,.int .i64 0,.int .i64 0,.int .i64 0]) (bytes:=40) (l:=([]:List A4)) (r:=(b.Orders.take k)) (n:=0) (m:=k) (c:=A.c2) rfl kr (.tmp 54) (.tmp 58) rfl ar5 kr rfl (by decide) (by decide) kr kr HNIL.out rfl HTK.out ((Own.emptyAt (W:=y7.w.drew) I6 nl rfl).to ii) ((HSL.out.take k).to ii) J5 (by omega) ii ?_
        intro a5 c5 x5 ho5 hg5
        refine⟨SQ.of ii,?_⟩
        (try simp only[List.getElem_toArray,List.getElem_cons_succ,List.getElem_cons_zero]);(try simp only[nrm])
        rw[List.nil_append]at ho5
        have hB7:=bH2 hB7 hg5 (by rw[E8];simp[I5])
        refine J8 8 kr ?_
        refine an4 (enc:=j6) (w0:=y7.w) (z:=.agg #[.int .i64 0,.int .i64 0,.int .i64 0,.int .i64 0,.int .i64 0]) (size:=5) (bytes:=40) (n:=0+k) rfl kr (⟨b.Taken,x⟩:A4) (.tmp 59) (.tmp 61) rfl ar5 kr rfl (by decide) (by decide) kr kr (by rw[HTK.out];omega) (ho5) (hB7) rfl (J5 _) (by omega) LeN.out ii nl ?_
        intro a8 c8 x8 ho8 hg8 hb8
        refine⟨SQ.of ii,?_⟩
        (try simp only[List.getElem_toArray,List.getElem_cons_succ,List.getElem_cons_zero]);(try simp only[nrm])
        clear hg8 hb8
        refine J8 13 kr ?_
        refine aw8 (enc:=j6) (T:=254) (size:=5) (w0:=y7.w) (z:=.agg #[.int .i64 0,.int .i64 0,.int .i64 0,.int .i64 0,.int .i64 0]) (bytes:=40) (l:=(b.Orders.take k++[(⟨b.Taken,x⟩:A4)])) (r:=(b.Orders.drop k)) (n:=(0+k+1)) (m:=(n - k)) (c:=(A.c2 - k)) rfl kr (.tmp 62) (.tmp 66) rfl ar5 kr rfl (by decide) (by decide) kr kr HN2.out (by rw[List.length_append,HTK.out];simp) HDR.out ho8 (HS2.out.to ii) J5 (by omega) ii ?_
        intro a9 c9 x9 ho9 hg9
        refine⟨SQ.of ii,?_⟩
        (try simp only[List.getElem_toArray,List.getElem_cons_succ,List.getElem_cons_zero]);(try simp only[nrm])
        have ho9:Own j6 254 5 y7.w.heap.size x9.w a9 c9 (ag4 b.Orders k (⟨b.Taken,x⟩:A4)):=by rw[ag4,List.append_cons];exact ho9
        have hp9:=GBp.new (F:=ai9) (HZ6.out.to (ii:d5 z6.w y7.w)) (ii:d5 y7.w x9.w) (D0.of ho9 HGI.out (0,0))
        clear ho9 hg9
        have hS9:SQ qb y7.w x9.w:=SQ.of ii
        refine wpAnyH_take (i:=14) (v:=?vc14) rfl kr kr kr (fun _ _ _ h=>hPK.out _ _ _ _ _ h) (Or.inl ⟨by rfl,?yc14⟩) (by assumption) ?rc14
        case yc14=>intro w hSw;clear hSw;go_simp;(try with_reducible rfl)
        (try simp only[List.getElem_toArray,List.getElem_cons_succ,List.getElem_cons_zero]);(try simp only[nrm])
        refine bl7 15 rfl kr kr _ _ _ rfl hp9 rfl (by show Value.slice a9 (0+k+1+(n - k)) c9=_;rw[HLE.out];congr 1;omega) kr (w0:=W2) ii nl ?_
        intro z8 hz8 hk8
        refine⟨SQ.by (ii:d5 y7.w x9.w) hk8,?_⟩
        (try simp only[List.getElem_toArray,List.getElem_cons_succ,List.getElem_cons_zero]);(try simp only[nrm])
        refine wpAnyH_done kr ?_ _
        refine hKK.out _ _ _ ?_
        clear hKK hPK hH
        go_wp2_with (first|((with_reducible refine rl ?_);refine rq ?_;intro x))
        go_meet
        case rel=>exact⟨rfl,(by rw[HAR.out];exact hz8),b5.of⟩
      ·refine aJ3 rfl kr _ _ rfl (T:=254) (z:=.agg #[.int .i64 0,.int .i64 0,.int .i64 0,.int .i64 0,.int .i64 0]) ar5 kr rfl ⟨SQ.of ii,?_⟩
       (try simp only[List.getElem_toArray,List.getElem_cons_succ,List.getElem_cons_zero]);(try simp only[nrm])
       have hB7:=(i9.new y7.w.drew [.int .i64 b.Taken,.int .i64 x.Kind,.int .i64 x.At,.int .i64 x.A,.int .i64 x.B] 254 y7.w.drew.heap.size rfl)
       refine J8 0 kr ?_
       refine bd4 rfl kr _ rfl (T:=254) (z:=.agg #[.int .i64 0,.int .i64 0,.int .i64 0,.int .i64 0,.int .i64 0]) (n:=5) ar5 kr ⟨SQ.of ii,?_⟩
       (try simp only[List.getElem_toArray,List.getElem_cons_succ,List.getElem_cons_zero]);(try simp only[nrm])
       have hB7:=hB7.to (ii:d5 _ ((y7.w.drew.alloc (.cells #[.int .i64 b.Taken,.int .i64 x.Kind,.int .i64 x.At,.int .i64 x.A,.int .i64 x.B] 254)).alloc (.cells #[] 254)))
       refine J8 5 kr ?_
       refine aw8 (enc:=j6) (T:=254) (size:=5) (w0:=y7.w) (z:=.agg #[.int .i64 0,.int .i64 0,.int .i64 0,.int .i64 0,.int .i64 0]) (bytes:=40) (l:=([]:List A4)) (r:=(b.Orders.take k)) (n:=0) (m:=k) (c:=A.c2) rfl kr (.tmp 54) (.tmp 58) rfl ar5 kr rfl (by decide) (by decide) kr kr HNIL.out rfl HTK.out (Own.emptyAt (W:=y7.w.drew.alloc (.cells #[.int .i64 b.Taken,.int .i64 x.Kind,.int .i64 x.At,.int .i64 x.A,.int .i64 x.B] 254)) I6 LeN.out rfl) ((HSL.out.take k).to ii) J5 (by omega) ii ?_
       intro a5 c5 x5 ho5 hg5
       refine⟨SQ.of ii,?_⟩
       (try simp only[List.getElem_toArray,List.getElem_cons_succ,List.getElem_cons_zero]);(try simp only[nrm])
       rw[List.nil_append]at ho5
       have hB7:=bH2 hB7 hg5 (by rw[E8];simp[I5])
       refine J8 8 kr ?_
       refine an4 (enc:=j6) (w0:=y7.w) (z:=.agg #[.int .i64 0,.int .i64 0,.int .i64 0,.int .i64 0,.int .i64 0]) (size:=5) (bytes:=40) (n:=0+k) rfl kr (⟨b.Taken,x⟩:A4) (.tmp 59) (.tmp 61) rfl ar5 kr rfl (by decide) (by decide) kr kr (by rw[HTK.out];omega) (ho5) (hB7) rfl (J5 _) (by omega) LeN.out ii nl ?_
       intro a8 c8 x8 ho8 hg8 hb8
       refine⟨SQ.of ii,?_⟩
       (try simp only[List.getElem_toArray,List.getElem_cons_succ,List.getElem_cons_zero]);(try simp only[nrm])
       clear hg8 hb8
       refine J8 13 kr ?_
       refine aw8 (enc:=j6) (T:=254) (size:=5) (w0:=y7.w) (z:=.agg #[.int .i64 0,.int .i64 0,.int .i64 0,.int .i64 0,.int .i64 0]) (bytes:=40) (l:=(b.Orders.take k++[(⟨b.Taken,x⟩:A4)])) (r:=(b.Orders.drop k)) (n:=(0+k+1)) (m:=(n - k)) (c:=(A.c2 - k)) rfl kr (.tmp 62) (.tmp 66) rfl ar5 kr rfl (by decide) (by decide) kr kr HN2.out (by rw[List.length_append,HTK.out];simp) HDR.out ho8 (HS2.out.to ii) J5 (by omega) ii ?_
       intro a9 c9 x9 ho9 hg9
       refine⟨SQ.of ii,?_⟩
       (try simp only[List.getElem_toArray,List.getElem_cons_succ,List.getElem_cons_zero]);(try simp only[nrm])
       have ho9:Own j6 254 5 y7.w.heap.size x9.w a9 c9 (ag4 b.Orders k (⟨b.Taken,x⟩:A4)):=by rw[ag4,List.append_cons];exact ho9
       have hp9:=GBp.new (F:=ai9) (HZ6.out.to (ii:d5 z6.w y7.w)) (ii:d5 y7.w x9.w) (D0.of ho9 HGI.out (0,0))
       clear ho9 hg9
       have hS9:SQ qb y7.w x9.w:=SQ.of ii
       refine wpAnyH_take (i:=14) (v:=?va14) rfl kr kr kr (fun _ _ _ h=>hPK.out _ _ _ _ _ h) (Or.inl ⟨by rfl,?ya14⟩) (by assumption) ?ra14
       case ya14=>intro w hSw;clear hSw;go_simp;(try with_reducible rfl)
       (try simp only[List.getElem_toArray,List.getElem_cons_succ,List.getElem_cons_zero]);(try simp only[nrm])
       refine bl7 15 rfl kr kr _ _ _ rfl hp9 rfl (by show Value.slice a9 (0+k+1+(n - k)) c9=_;rw[HLE.out];congr 1;omega) kr (w0:=W2) ii nl ?_
       intro z8 hz8 hk8
       refine⟨SQ.by (ii:d5 y7.w x9.w) hk8,?_⟩
       (try simp only[List.getElem_toArray,List.getElem_cons_succ,List.getElem_cons_zero]);(try simp only[nrm])
       refine wpAnyH_done kr ?_ _
       refine hKK.out _ _ _ ?_
       clear hKK hPK hH
       go_wp2_with (first|((with_reducible refine rl ?_);refine rq ?_;intro x))
       go_meet
       case rel=>exact⟨rfl,(by rw[HAR.out];exact hz8),b5.of⟩
     case rest =>
      obtain⟨rfl,hz9,z9,rfl⟩:=hcut
      have HZ9:=lH hz9
      have HTP:=lH (show Enc.tot (J1 b x)≤100000000 by rw[ap1];have:=HT5.out;omega)
      clear hz9
      have hqb9:LtN qb z9.w.heap.size:=⟨HZ9.out.lt⟩
      obtain⟨vs9,hH9,hl9,h19,hrd9,χ9,hO9⟩:=HZ9.out.vs
      have HH9:=lH hH9;have HO9:=lH hO9;have H19:=lH h19;have HL9:=lH (show vs9.length=12 from hl9);have HRD9:=lH hrd9
      clear hO9 hH9 h19 hl9 hrd9
      go_wp2_with (first|((with_reducible refine rl ?_);refine rq ?_;intro x)|(refine sL rfl _ _ rfl (qb) kr HH9 ii am0 HL9 ?_))
      refine gm (aB2 (Enc.keep HRD9.out ii) HTP.out) ?_
      intro y9
      cases hr:s9 (J1 b x)
      ·have HKR:=lH (show A7 b x=(b,false)by rw[A7,HK.out,if_pos rfl,hr];rfl)
       go_wp2_with (first|((with_reducible refine rl ?_);(repeat(first|go_big_quiet_step (first|fail)|simp only[hr]));refine wpQuiet_nil ?_;intro x)|(refine sL rfl _ (.tmp 2) rfl (w.heap.size) rfl HB ii am0 HL ?_))
       refine(av0 (x:=b) (Enc.keep HM.out ii) HT.out).mono ?_
       rintro _ _ ⟨cs8,χ8,rfl,hO8,y8,rfl⟩
       have HLC:=lH (Y3 (R8.toRd hO8));have HOC:=lH (aj0 (R8.toRd hO8));have HO:=lH hO8;clear hO8
       go_wp2_with (first|((with_reducible refine rl ?_);refine rq ?_;intro x)|(refine sW rfl _ _ _ rfl (w.heap.size+2) rfl (us:=cs8) (HR.out.to ii) HLC HOC (w0:=w) ii (by omega) ?_;intro z8 HX8 KX8))
       refine bodyPost_ret (v:=.tuple #[.agg cs8.toArray,.bool false]) (L0 (P:=Tryz.prog) (u:=.bool false) rfl rfl HX8.out _ am0 rfl (by rw[HLC.out];kernel_rfl) rfl) rfl ?_
       rw[HKR.out]
       exact⟨cs8,χ8,rfl,ac0 HO.out KX8.out LtN.out LeN.out,b5.of⟩
      ·have HKR:=lH (show A7 b x=(J1 b x,true)by rw[A7,HK.out,if_pos rfl,if_pos hr,HRM.out])
       go_wp2_with (first|((with_reducible refine rl ?_);(repeat(first|go_big_quiet_step (first|fail)|simp only[hr]));refine wpQuiet_nil ?_;intro x)|(refine sL rfl _ _ rfl (qb) kr HH9 ii am0 HL9 ?_)|(refine sW rfl _ _ _ rfl (w.heap.size+2) rfl (us:=vs9) (HR.out.to ii) HL9 H19 (w0:=w) ii (by omega) ?_;intro z7 HX7 KX7))
       refine bodyPost_ret (v:=.tuple #[.agg vs9.toArray,.bool true]) (L0 (P:=Tryz.prog) (u:=.bool true) rfl rfl HX7.out _ am0 rfl (by rw[HL9.out];kernel_rfl) rfl) rfl ?_
       rw[HKR.out]
       exact⟨vs9,χ9,rfl,ac0 (ar4 HO9.out ii) KX7.out (show w.heap.size+2<W2.heap.size by omega) hW2,b5.of⟩
