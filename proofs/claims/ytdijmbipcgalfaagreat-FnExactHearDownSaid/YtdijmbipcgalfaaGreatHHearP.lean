/- The contract of HearPart, both sides. No condition but on sizes. -/
import Derived.Test.YtdijmbipcgalfaaGreatHM18
namespace Go.Proofs.YtdijmbipcgalfaaGreat
set_option maxRecDepth 100000
set_option maxHeartbeats 2000000
set_option linter.unusedVariables false
open Go.ChangeShapes Go.WideShapes Go.ChangeAt Go.RowKit
variable {s:ByteArray}{f k z:Int}
def aE6(p:List ByteArray)(k:Int):ByteArray:=p.getD k.toNat ⟨#[]⟩
def br7(f:Int)(p:List ByteArray)(q:Int × Int × ByteArray × Bool):Bool:=q.2.2.2 && (q.1 == f && ((aE6 p q.2.1).toList == []))
def br4(f z:Int)(e:Int × Int × Int × Bool):Bool:=e.2.2.2 && (e.1 == f && (z == -1))
def aj1(f z k:Int)(p:List ByteArray)(s:ByteArray):Int:=if (J9 f z k p && (!br7 f p (U8 s) && br4 f z (N9 s)))=true then(N9 s).2.1 else z
def aj0(f z k:Int)(p:List ByteArray)(s:ByteArray):Int:=if (J9 f z k p && (!br7 f p (U8 s) && br4 f z (N9 s)))=true then(N9 s).2.2.1 else k
def ae3(f z k:Int)(p:List ByteArray)(s:ByteArray):List ByteArray:=if (J9 f z k p && br7 f p (U8 s))=true then p.set (U8 s).2.1.toNat (U8 s).2.2.1 else p
theorem bl3(s:ByteArray):0≤(U8 s).2.1∧(U8 s).2.1≤24:=by
 unfold U8
 split
 ·rename_i h
  simp only[aw6,aA4,Bool.and_eq_true,decide_eq_true_eq]at h
  have:=J5 s 2
  exact⟨this.1,h.2.2.2⟩
 ·simp
theorem bi3(f z k:Int)(p:List ByteArray)(s:ByteArray):(ae3 f z k p s).length=p.length:=by
 unfold ae3;split<;>simp
theorem aM9{p:List ByteArray}(h:J9 f z k p=true):p.length=25:=by
 simp only[J9,Bool.and_eq_true,decide_eq_true_eq]at h
 exact h.2.2.2.2.1
theorem bA0{p:List ByteArray}(c0:J9 f z k p=true){qf qk:Int}{qd:ByteArray}{qo:Bool}(hq:U8 s=(qf,qk,qd,qo)){ef ez ek:Int}{eo:Bool}(he:N9 s=(ef,ez,ek,eo)) :
  aj1 f z k p s=(if (!(qo && (qf == f && ((aE6 p qk).toList == []))) && (eo && (ef == f && (z == -1))))=true then ez else z) ∧
  aj0 f z k p s=(if (!(qo && (qf == f && ((aE6 p qk).toList == []))) && (eo && (ef == f && (z == -1))))=true then ek else k) ∧
  ae3 f z k p s=(if (qo && (qf == f && ((aE6 p qk).toList == [])))=true then p.set qk.toNat qd else p):=by
 unfold aj1 aj0 ae3
 rw[hq,he,c0]
 exact⟨rfl,rfl,rfl⟩
theorem bW5(a b c:Bool):((a && (b && c))=false∧(a=false∨(a=true∧b=false)∨(a=true∧b=true∧c=false)))∨((a && (b && c))=true∧a=true∧b=true∧c=true):=by
 cases a<;>cases b<;>cases c<;>simp
theorem bw5{a:Option Addr}{n c:Nat}{p:List ByteArray}{w:World}(hs:Sl L4 w a p)(hn:p.length=n)(hm:n≤100000000)(hsz:∀ t∈p,t.size≤100000000)(hz:s.size≤100000000) :
  Calls Tryz.prog 165 #[.agg #[I f,I z,I k,.slice a n c],.string s] w (aZ3 w f (aj1 f z k p s) (aj0 f z k p s) (ae3 f z k p s)):=by
 have HS:=lH hsz;clear hsz
 go_enter Tryz.func165,Tryz.ntmps165
 go_wp2_with (fail)
 refine(bb1 (hs.to ii) hn om).mono ?_
 rintro _ _ ⟨a1,c1,rfl,o1,y1,rfl⟩
 rw[hn]
 have O1:=lH (o1.mono (B':=w.heap.size+2) si);clear o1
 go_wp2_with (fail)
 refine gm (aT5 (hs.to ii) hn om HS.out) ?_
 intro y2
 cases c0:J9 f z k p
 ·have HV:=lH (show aj1 f z k p s=z∧aj0 f z k p s=k∧ae3 f z k p s=p by unfold aj1 aj0 ae3;rw[c0];simp)
  go_wp2_with (fail)
  refine bodyPost_ret (v:=.agg #[I f,I z,I k,.slice a1 n c1]) ?_ rfl ⟨a1,c1,by rw[HV.out.1,HV.out.2.1,HV.out.2.2];simp[hn],?_,?_⟩
  ·simp[results,Tryz.results165,go_sem]
  ·rw[HV.out.2.2]
   refine Own.mono (B:=w.heap.size+2) ?_ om
   have O2:=O1.out.to (ii:b8 y1.w y2.w)
   repeat(first|(with_reducible exact O2)|(with_reducible refine Own.lowS ?_ om _ _))
  ·exact b7.of
 have h25:=aM9 c0
 obtain⟨⟨qf,qk,qd,qo⟩,hq⟩:∃ q,U8 s=q:=⟨_,rfl⟩
 obtain⟨⟨ef,ez,ek,eo⟩,he⟩:∃ q,N9 s=q:=⟨_,rfl⟩
 have hqb:=bl3 s
 rw[hq]at hqb
 obtain⟨hq1,hq2⟩:=hqb
 obtain⟨j,rfl⟩:=Int.eq_ofNat_of_zero_le (show 0≤qk from hq1)
 have hj:j<n:=by have:(j:Int)≤24:=hq2;omega
 clear hq1 hq2
 have HV0:=lH (bA0 c0 hq he)
 obtain⟨b,off,t,ha,hb,hd,h0⟩:=hs.str (show j<p.length by omega)
 have ht:aE6 p (j:Int)=t:=by
  have:=congrArg (fun m=>m[0]?) hd.out
  simp only[List.getElem?_drop,Nat.add_zero,List.getElem?_cons_zero]at this
  simp[aE6,this]
 rw[ht]at HV0
 have HD:=lH (And.intro hq he);clear hq he hd ht h25
 subst ha
 go_wp2_with (fail)
 refine gm (aR0 hz) ?_
 intro y3
 rw[HD.out.1];simp only[bv2]
 rcases bW5 qo (qf == f) (t.toList == [])with⟨k1,h⟩|⟨k1,h,g1,g2⟩
 rotate_left
 ·rw[k1]at HV0
  subst h
  have HV:=lH (show aj1 f z k p s=z∧aj0 f z k p s=k∧ae3 f z k p s=p.set j qd from HV0.out)
  clear HV0 k1
  obtain⟨g,rfl,hB,hlt⟩:=O1.out.open (n:=n) om
  have hB':LeN (w.heap.size+2) g:=⟨hB⟩
  have hlt':LtN g y1.w.heap.size:=⟨hlt⟩
  have O3:=O1.out.to (ii:b8 y1.w (y2.andThen y3).w)
  obtain⟨o0,g0⟩:=O3.cells (j:=j) om
  have f0:=O3.free j
  have hB2:LeN w.heap.size g:=⟨by omega⟩
  have OP:=lH (show Own L4 9 1 (w.heap.size+2) ((y2.andThen y3).set ⟨g,j,none⟩ (.string qd)).w (some ⟨g,0,none⟩) c1 (p.set j qd)from(O3.put1 (j:=j) (y:=qd) om rfl).1)
  clear O3 O1
  go_wp2_with (fail)
  refine bodyPost_ret (v:=.agg #[I f,I z,I k,.slice (some ⟨g,0,none⟩) n c1]) ?_ rfl ⟨(some ⟨g,0,none⟩),c1,by rw[HV.out.1,HV.out.2.1,HV.out.2.2];simp[hn],?_,?_⟩
  ·simp[results,Tryz.results165,go_sem]
  ·rw[HV.out.2.2]
   refine Own.mono (B:=w.heap.size+2) ?_ om
   have O2:=OP.out
   repeat(first|(with_reducible exact O2)|(with_reducible refine Own.lowS ?_ om _ _))
  ·exact b7.of
 rw[k1]at HV0
 clear k1
 rcases h with h|⟨h,g1⟩|⟨h,g1,g2⟩
 all_goals
  subst h
  go_wp2_with (fail)
  refine gm (bo1 hz) ?_
  intro y4
  rw[HD.out.2];simp only[bv1]
  rcases bW5 eo (ef == f) (z == -1)with⟨k2,h⟩|⟨k2,h,g4,g5⟩
  rotate_left
  ·rw[k2]at HV0
   subst h
   have HV:=lH (show aj1 f z k p s=ez∧aj0 f z k p s=ek∧ae3 f z k p s=p from HV0.out)
   clear HV0 k2
   go_wp2_with (fail)
   refine bodyPost_ret (v:=.agg #[I f,I ez,I ek,.slice a1 n c1]) ?_ rfl ⟨a1,c1,by rw[HV.out.1,HV.out.2.1,HV.out.2.2];simp[hn],?_,?_⟩
   ·simp[results,Tryz.results165,go_sem]
   ·rw[HV.out.2.2]
    refine Own.mono (B:=w.heap.size+2) ?_ om
    have K:=(j5.new y1.w [I f,I z,I k,.slice a1 n c1] 179 _ rfl).to (ii:b8 _ ((y2.andThen y3).andThen y4).w)
    have O2:=(show Own L4 9 1 (w.heap.size+2) ((((y2.andThen y3).andThen y4).set ⟨y1.w.heap.size,1,none⟩ (I ez)).set ⟨y1.w.heap.size,2,none⟩ (I ek)).w a1 c1 p from((O1.out.to (ii:b8 y1.w ((y2.andThen y3).andThen y4).w)).set K de 1 (I ez)).set (K.set 1 (I ez)) de 2 (I ek))
    repeat(first|(with_reducible exact O2)|(with_reducible refine Own.lowS ?_ om _ _))
   ·exact b7.of
  rw[k2]at HV0
  have HV:=lH (show aj1 f z k p s=z∧aj0 f z k p s=k∧ae3 f z k p s=p from HV0.out)
  clear HV0 k2
  rcases h with h|⟨h,g4⟩|⟨h,g4,g5⟩
  all_goals
   subst h
   go_wp2_with (fail)
   refine bodyPost_ret (v:=.agg #[I f,I z,I k,.slice a1 n c1]) ?_ rfl ⟨a1,c1,by rw[HV.out.1,HV.out.2.1,HV.out.2.2];simp[hn],?_,?_⟩
   ·simp[results,Tryz.results165,go_sem]
   ·rw[HV.out.2.2]
    refine Own.mono (B:=w.heap.size+2) ?_ om
    have O2:=O1.out.to (ii:b8 y1.w ((y2.andThen y3).andThen y4).w)
    repeat(first|(with_reducible exact O2)|(with_reducible refine Own.lowS ?_ om _ _))
   ·exact b7.of
theorem bx2{a:Option Addr}{n c:Nat}{p:List ByteArray}{w:World}(hs:Sl L4 w a p)(hnil:a=none→c=0)(hn:p.length=n)(hm:n≤100000000)(hsz:∀ t∈p,t.size≤100000000)(hz:s.size≤100000000) :
  Calls Tryz.prog 119 #[.agg #[I f,I z,I k,.slice a n c],.string s] w (aZ3 w f (aj1 f z k p s) (aj0 f z k p s) (ae3 f z k p s)):=by
 have HS:=lH hsz;clear hsz
 have HNIL:=lH hnil;clear hnil
 go_enter Tryz.func119,Tryz.ntmps119
 go_wp2_with (fail)
 refine(bp6 (hs.to ii) HNIL.out hn om).mono ?_
 rintro _ _ ⟨a1,c1,rfl,o1,y1,rfl⟩
 rw[hn]
 have O1:=lH (o1.mono (B':=w.heap.size+2) si);clear o1
 go_wp2_with (fail)
 refine gm (aT8 (hs.to ii) hn om HS.out) ?_
 intro y2
 cases c0:J9 f z k p
 ·have HV:=lH (show aj1 f z k p s=z∧aj0 f z k p s=k∧ae3 f z k p s=p by unfold aj1 aj0 ae3;rw[c0];simp)
  go_wp2_with (fail)
  refine bodyPost_ret (v:=.agg #[I f,I z,I k,.slice a1 n c1]) ?_ rfl ⟨a1,c1,by rw[HV.out.1,HV.out.2.1,HV.out.2.2];simp[hn],?_,?_⟩
  ·simp[results,Tryz.results119,go_sem]
  ·rw[HV.out.2.2]
   refine Own.mono (B:=w.heap.size+2) ?_ om
   have O2:=O1.out.to (ii:b8 y1.w y2.w)
   repeat(first|(with_reducible exact O2)|(with_reducible refine Own.lowS ?_ om _ _))
  ·exact b7.of
 have h25:=aM9 c0
 obtain⟨⟨qf,qk,qd,qo⟩,hq⟩:∃ q,U8 s=q:=⟨_,rfl⟩
 obtain⟨⟨ef,ez,ek,eo⟩,he⟩:∃ q,N9 s=q:=⟨_,rfl⟩
 have hqb:=bl3 s
 rw[hq]at hqb
 obtain⟨hq1,hq2⟩:=hqb
 obtain⟨j,rfl⟩:=Int.eq_ofNat_of_zero_le (show 0≤qk from hq1)
 have hj:j<n:=by have:(j:Int)≤24:=hq2;omega
 clear hq1 hq2
 have HV0:=lH (bA0 c0 hq he)
 obtain⟨b,off,t,ha,hb,hd,h0⟩:=hs.str (show j<p.length by omega)
 have ht:aE6 p (j:Int)=t:=by
  have:=congrArg (fun m=>m[0]?) hd.out
  simp only[List.getElem?_drop,Nat.add_zero,List.getElem?_cons_zero]at this
  simp[aE6,this]
 rw[ht]at HV0
 have HD:=lH (And.intro hq he);clear hq he hd ht h25
 subst ha
 go_wp2_with (fail)
 refine gm (aR3 hz) ?_
 intro y3
 rw[HD.out.1];simp only[bv2]
 rcases bW5 qo (qf == f) (t.toList == [])with⟨k1,h⟩|⟨k1,h,g1,g2⟩
 rotate_left
 ·rw[k1]at HV0
  subst h
  have HV:=lH (show aj1 f z k p s=z∧aj0 f z k p s=k∧ae3 f z k p s=p.set j qd from HV0.out)
  clear HV0 k1
  obtain⟨g,rfl,hB,hlt⟩:=O1.out.open (n:=n) om
  have hB':LeN (w.heap.size+2) g:=⟨hB⟩
  have hlt':LtN g y1.w.heap.size:=⟨hlt⟩
  have O3:=O1.out.to (ii:b8 y1.w (y2.andThen y3).w)
  obtain⟨o0,g0⟩:=O3.cells (j:=j) om
  have f0:=O3.free j
  have hB2:LeN w.heap.size g:=⟨by omega⟩
  have OP:=lH (show Own L4 9 1 (w.heap.size+2) ((y2.andThen y3).set ⟨g,j,none⟩ (.string qd)).w (some ⟨g,0,none⟩) c1 (p.set j qd)from(O3.put1 (j:=j) (y:=qd) om rfl).1)
  clear O3 O1
  go_wp2_with (fail)
  refine bodyPost_ret (v:=.agg #[I f,I z,I k,.slice (some ⟨g,0,none⟩) n c1]) ?_ rfl ⟨(some ⟨g,0,none⟩),c1,by rw[HV.out.1,HV.out.2.1,HV.out.2.2];simp[hn],?_,?_⟩
  ·simp[results,Tryz.results119,go_sem]
  ·rw[HV.out.2.2]
   refine Own.mono (B:=w.heap.size+2) ?_ om
   have O2:=OP.out
   repeat(first|(with_reducible exact O2)|(with_reducible refine Own.lowS ?_ om _ _))
  ·exact b7.of
 rw[k1]at HV0
 clear k1
 rcases h with h|⟨h,g1⟩|⟨h,g1,g2⟩
 all_goals
  subst h
  go_wp2_with (fail)
  refine gm (bp1 hz) ?_
  intro y4
  rw[HD.out.2];simp only[bv1]
  rcases bW5 eo (ef == f) (z == -1)with⟨k2,h⟩|⟨k2,h,g4,g5⟩
  rotate_left
  ·rw[k2]at HV0
   subst h
   have HV:=lH (show aj1 f z k p s=ez∧aj0 f z k p s=ek∧ae3 f z k p s=p from HV0.out)
   clear HV0 k2
   go_wp2_with (fail)
   refine bodyPost_ret (v:=.agg #[I f,I ez,I ek,.slice a1 n c1]) ?_ rfl ⟨a1,c1,by rw[HV.out.1,HV.out.2.1,HV.out.2.2];simp[hn],?_,?_⟩
   ·simp[results,Tryz.results119,go_sem]
   ·rw[HV.out.2.2]
    refine Own.mono (B:=w.heap.size+2) ?_ om
    have K:=(j5.new y1.w [I f,I z,I k,.slice a1 n c1] 179 _ rfl).to (ii:b8 _ ((y2.andThen y3).andThen y4).w)
    have O2:=(show Own L4 9 1 (w.heap.size+2) ((((y2.andThen y3).andThen y4).set ⟨y1.w.heap.size,1,none⟩ (I ez)).set ⟨y1.w.heap.size,2,none⟩ (I ek)).w a1 c1 p from((O1.out.to (ii:b8 y1.w ((y2.andThen y3).andThen y4).w)).set K de 1 (I ez)).set (K.set 1 (I ez)) de 2 (I ek))
    repeat(first|(with_reducible exact O2)|(with_reducible refine Own.lowS ?_ om _ _))
   ·exact b7.of
  rw[k2]at HV0
  have HV:=lH (show aj1 f z k p s=z∧aj0 f z k p s=k∧ae3 f z k p s=p from HV0.out)
  clear HV0 k2
  rcases h with h|⟨h,g4⟩|⟨h,g4,g5⟩
  all_goals
   subst h
   go_wp2_with (fail)
   refine bodyPost_ret (v:=.agg #[I f,I z,I k,.slice a1 n c1]) ?_ rfl ⟨a1,c1,by rw[HV.out.1,HV.out.2.1,HV.out.2.2];simp[hn],?_,?_⟩
   ·simp[results,Tryz.results119,go_sem]
   ·rw[HV.out.2.2]
    refine Own.mono (B:=w.heap.size+2) ?_ om
    have O2:=O1.out.to (ii:b8 y1.w ((y2.andThen y3).andThen y4).w)
    repeat(first|(with_reducible exact O2)|(with_reducible refine Own.lowS ?_ om _ _))
   ·exact b7.of
