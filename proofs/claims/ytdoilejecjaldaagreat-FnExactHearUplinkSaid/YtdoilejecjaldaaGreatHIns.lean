/- slices. No condition but on sizes. -/
import Derived.Test.YtdoilejecjaldaaGreatHM26
import Derived.Test.YtdoilejecjaldaaGreatHM44
import Derived.Test.YtdoilejecjaldaaGreatHM31
import Derived.Deep.CutRange
import Derived.Shelf.Spec.SlicesInsertGrow
import Derived.Deep.Upon
namespace Go.Proofs.YtdoilejecjaldaaGreat
set_option maxRecDepth 100000
set_option maxHeartbeats 4000000
set_option linter.unusedVariables false
open Go.ChangeShapes Go.WideShapes Go.ChangeAt Go.RowKit
private abbrev ar5:=Tryz.underlying79
section
variable {α:Type} {enc:α→List Value} {T size B:Nat} {w w':World} {c:Nat} {l:List α}
theorem bI1{g:Nat}{R:List Value}(hs:∀ x:α,(enc x).length=size)(hl:R.length=c*size)(ht:R.take (l.length*size)=l.flatMap enc)(hc:l.length≤c)(hm:c≤maxLen)(hB:B≤g)(H:i9 w g R T):Own enc T size B w (some ⟨g,0,none⟩) c l :=
 ⟨hs,by rw[F8 hs],.inr ⟨g,c,R.toArray,rfl,hB,H,hc,hm,by rw[List.size_toArray,hl],by simpa using ht⟩⟩
theorem bw0{D E R:List Value}{k:Nat}{x:α}(hs:∀ x:α,(enc x).length=size)(hk:k≤l.length)(h:R=(l.take k).flatMap enc++(enc x++((l.drop k).flatMap enc++E))):R.take ((ag4 l k x).length*size)=(ag4 l k x).flatMap enc:=by
 have e:(ag4 l k x).flatMap enc=(l.take k).flatMap enc++(enc x++(l.drop k).flatMap enc):=by rw[ag4,List.flatMap_append,List.flatMap_cons]
 have hl:=F8 hs (ag4 l k x)
 rw[h,← hl,e,← List.append_assoc,← List.append_assoc,← List.append_assoc,List.take_append_of_le_length nl,List.take_of_length_le nl]
theorem Own.insRoom{g k:Nat}{x:α}(h:Own enc T size B w (some ⟨g,0,none⟩) c l)(hk:k<l.length)(hc:l.length+1≤c) :
  ∃ cs:List Value,i9 w g cs T∧cs.length=c*size∧cs.take (l.length*size)=l.flatMap enc∧c≤9223372036854775807∧B≤g ∧
   ∀ w',i9 w' g (S6 (S6 cs ((k+1)*size) ((l.drop k).flatMap enc)) (k*size) (enc x)) T→Own enc T size B w' (some ⟨g,0,none⟩) c (ag4 l k x):=by
 obtain⟨hs,hlen,⟨hv,hn0⟩|⟨g',cap,cur,hv,hB,hheap,hle,hmax,hcs,ht⟩⟩:=h
 ·omega
 ·simp only[Value.slice.injEq,Option.some.injEq,Addr.mk.injEq]at hv
  obtain⟨⟨rfl,-,-⟩,-,rfl⟩:=hv
  have hL:cur.toList.length=c*size:=by rw[Array.length_toList];exact hcs
  have htake:cur.toList.take (l.length*size)=l.flatMap enc:=ht
  refine⟨cur.toList,by unfold i9;simpa using hheap,hL,htake,by unfold maxLen at hmax;omega,hB,fun w' hH=>?_⟩
  have hdl:((l.drop k).flatMap enc).length=(l.length - k)*size:=by rw[F8 hs,List.length_drop]
  have e0:(l.length+1)*size≤c*size:=Nat.mul_le_mul_right _ hc
  have e1:(k+1)*size+(l.length - k)*size=(l.length+1)*size:=by rw[← Nat.add_mul];congr 1;omega
  have e2:(k+1)*size=k*size+size:=by rw[Nat.add_mul];omega
  have e3:k*size≤l.length*size:=Nat.mul_le_mul_right _ (Nat.le_of_lt hk)
  have l1:(S6 cur.toList ((k+1)*size) ((l.drop k).flatMap enc)).length=c*size:=by rw[ao9 (by rw[hdl,hL];omega),hL]
  refine bI1 hs ?_ ?_ (by rw[aw4];exact hc) hmax hB hH
  ·rw[ao9 (by rw[l1,hs];omega),l1]
  ·refine bw0 (D:=[]) (E:=cur.toList.drop ((k+1)*size+((l.drop k).flatMap enc).length)) hs (Nat.le_of_lt hk) ?_
   have hT:cur.toList.take (k*size)=(l.take k).flatMap enc:=by rw[← ay1 (n:=k) hs,← htake,List.take_take,Nat.min_eq_left e3]
   have hz:(cur.toList.take ((k+1)*size)).length=k*size+size:=by rw[List.length_take,hL];omega
   rw[as1 (enc x) _ _ (by rw[l1,hs];omega),as1 _ cur.toList _ (by rw[hdl,hL];omega),hs,List.append_assoc (cur.toList.take ((k+1)*size)),List.take_append_of_le_length (by rw[hz];omega),List.take_take,Nat.min_eq_left (by omega),hT,List.drop_append,hz,Nat.sub_self,List.drop_zero,List.drop_of_length_le (by rw[hz];exact Nat.le_refl _),List.nil_append,List.append_assoc]
theorem Own.insNew{g k c2:Nat}{x:α}{Z:List Value}(hs:∀ x:α,(enc x).length=size)(hk:k<l.length)(hl:((l.take k).flatMap enc++Z).length=c2*size)(hc:l.length+1≤c2)(hm:c2≤maxLen)(hB:B≤g)
  (H:i9 w' g (S6 (S6 ((l.take k).flatMap enc++Z) (k*size) (enc x)) ((k+1)*size) ((l.drop k).flatMap enc)) T):Own enc T size B w' (some ⟨g,0,none⟩) c2 (ag4 l k x):=by
 have hdl:((l.drop k).flatMap enc).length=(l.length - k)*size:=by rw[F8 hs,List.length_drop]
 have htl:((l.take k).flatMap enc).length=k*size:=by rw[F8 hs,List.length_take,Nat.min_eq_left (Nat.le_of_lt hk)]
 have e0:(l.length+1)*size≤c2*size:=Nat.mul_le_mul_right _ hc
 have e1:(k+1)*size+(l.length - k)*size=(l.length+1)*size:=by rw[← Nat.add_mul];congr 1;omega
 have e2:(k+1)*size=k*size+size:=by rw[Nat.add_mul];omega
 have l1:(S6 ((l.take k).flatMap enc++Z) (k*size) (enc x)).length=c2*size:=by rw[ao9 (by rw[hl,hs];omega),hl]
 refine bI1 hs ?_ ?_ (by rw[aw4];exact hc) hm hB H
 ·rw[ao9 (by rw[l1,hdl];omega),l1]
 ·refine bw0 (D:=[]) (E:=(S6 ((l.take k).flatMap enc++Z) (k*size) (enc x)).drop ((k+1)*size+((l.drop k).flatMap enc).length)) hs (Nat.le_of_lt hk) ?_
  rw[as1 ((l.drop k).flatMap enc) _ _ (by rw[l1,hdl];omega),as1 (enc x) _ _ (by rw[hl,hs];omega)]
  have h1:((l.take k).flatMap enc++Z).take (k*size)=(l.take k).flatMap enc:=by rw[List.take_append_of_le_length (by rw[htl];exact Nat.le_refl _),List.take_of_length_le (by rw[htl];exact Nat.le_refl _)]
  have h2:((l.take k).flatMap enc++enc x).length=(k+1)*size:=by rw[List.length_append,htl,hs];omega
  rw[h1,List.take_append_of_le_length (by rw[h2];exact Nat.le_refl _),List.take_of_length_le (by rw[h2];exact Nat.le_refl _),List.append_assoc,List.append_assoc]
end
theorem ap7(b o k:Nat):(⟨b,o,none⟩:Addr).add k=⟨b,o+k,none⟩:=by
 unfold Addr.add;split
 ·rename_i h0;rw[h0];simp
 ·simp
theorem aF4{P:Program}(w:World)(dT sT ty elem:TypeId)(size b o dLen dCap:Nat)(a:Addr)(sLen sCap:Nat)(cs:List Value)
  (hu:P.underlying dT=some (.slice elem)) (hs:(P.info? elem).map (·.size)=some size) (hn:cs.length=Nat.min sLen dLen*size)
  (hsrc:∀ j v,cs[j]?=some v→w.cell? (a.add j)=some v) (hc:∀ j,j<cs.length→(w.cell? ⟨b,o+j,none⟩).isSome=true) (hf:∀ j,j<cs.length→w.frozen? ⟨b,o+j,none⟩=false) (h1:∀ v∈cs,v.oneCell'=true) :
  (Builtin.copy_ #[dT,sT] ty #[.slice (some ⟨b,o,none⟩) dLen dCap,.slice (some a) sLen sCap]).run P w=.ok (goInt (Nat.min sLen dLen)) (w.setCells b o cs):=by
 have hl:=run_firstCells_some (P:=P) (w:=w) size (Nat.min sLen dLen) a sLen sCap cs hn hsrc
 have hst:=run_storeCells_cells (P:=P) b o cs 0 w (by simpa using hc) (by simpa using hf) h1
 obtain⟨i,hq,hi⟩:=Option.map_eq_some_iff.1 hs
 simp[Builtin.copy_,run_underlying hu,Builtin.lenOf,sizeOf,typeInfo,hq,hi,hl,hst]
theorem bb5{w:World}{b:Nat}{cs:List Value}{T:TypeId}(h:i9 w b cs T):w.shape? b=some (T,cs.length):=by
 unfold i9 at h
 simp[World.shape?,h]
theorem bw7{w0 w w':World}{row:Option Nat}(g0:d5 w0 w)(hg:w.grownBy w' row)(hb:∀ j,row=some j→w0.heap.size≤j):∃ z:b5 w0,w'=z.w :=
 ⟨⟨w',hg.os.trans g0.out.os,hg.tape.trans g0.out.tape,hg.output.trans g0.out.output,Nat.le_trans g0.out.size hg.size,fun k hk=>(hg.block k (Nat.lt_of_lt_of_le hk g0.out.size) (fun e=>by have:=hb k e.symm;omega)).trans (g0.out.block k hk)⟩,rfl⟩
theorem Own.taken{α:Type}{enc:α→List Value}{T size B g c:Nat}{w:World}{l:List α}{cs:List Value}(h:Own enc T size B w (some ⟨g,0,none⟩) c l)(hH:i9 w g cs T):cs.take (l.length*size)=l.flatMap enc:=by
 obtain⟨hs,hlen,⟨hv,hn0⟩|⟨g',cap,cur,hv,hB,hheap,hle,hmax,hcs,ht⟩⟩:=h
 ·simp at hv
 ·simp only[Value.slice.injEq,Option.some.injEq,Addr.mk.injEq]at hv
  obtain⟨⟨rfl,-,-⟩,-,rfl⟩:=hv
  unfold i9 at hH
  rw[hheap]at hH
  simp only[Option.some.injEq,Obj.cells.injEq]at hH
  rw[show cs=cur.toList by rw[hH.1]]
  exact ht
theorem bL1{w:World}{b:Nat}{cs:List Value}{T:TypeId}(h:i9 w b cs T):i9 w.drew b cs T:=h
theorem bG6{α:Type}{enc:α→List Value}{size:Nat}(hs:∀ x:α,(enc x).length=size){l:List α}{cs:List Value}(h:cs.take (l.length*size)=l.flatMap enc){k j:Nat}{v:Value}(hj:((l.drop k).flatMap enc)[j]?=some v):cs[k*size+j]?=some v:=by
 rw[← aL5 hs,List.getElem?_drop,← h,List.getElem?_take]at hj
 split at hj
 ·exact hj
 ·cases hj
theorem bv5{α:Type}{enc:α→List Value}(h1:∀ x,∀ u∈enc x,u.oneCell'=true)(l:List α):∀ v∈l.flatMap enc,v.oneCell'=true:=fun u hu=>by
 obtain⟨y,_,hy⟩:=List.mem_flatMap.1 hu
 exact h1 y u hy
theorem aV0{B k vb:Nat}{a:Option Addr}{c n:Nat}{l:List A4}{x:A4}{w0 w:World}(h:Own j6 254 5 B w a c l)(hn:l.length=n)(hk:k≤n)(hm:n≤1000)(hV:i9 w vb (j6 x) 254)(hvb:∀ j,I5 a=some j→j<vb)(g0:d5 w0 w)(hB:w0.heap.size≤B)(hBw:B≤w.heap.size) :
  Calls Tryz.prog 217 #[.slice a n c,.int .i64 k,.slice (some ⟨vb,0,none⟩) 1 1] w (fun e w'=>∃ (a':Option Addr) (c':Nat),e=.returned (.slice a' (n+1) c')∧Own j6 254 5 B w' a' c' (ag4 l k x)∧w.grownBy w' (I5 a)∧(∀ j,I5 a'=some j→I5 a=some j∨w.heap.size≤j)∧∃ z:b5 w0,w'=z.w):=by
 by_cases hkn:k=n
 ·subst hkn
  have HI:=lH (show ag4 l k x=l++[x]by rw[ag4,List.take_of_length_le (by omega),List.drop_of_length_le (by omega)])
  have hV0:w.heap[vb]?=some (.cells (j6 x).toArray 254 (0,0)):=hV
  clear hV
  go_enter Tryz.func217,Tryz.ntmps217
  go_wp2_with (first|((with_reducible refine rl ?_);refine rq ?_;intro x)|(at_builtin;refine X9 (enc:=j6) (w0:=w0) (z:=.agg #[.int .i64 0,.int .i64 0,.int .i64 0,.int .i64 0,.int .i64 0]) (size:=5) (bytes:=40) (n:=k) x rfl (.tmp 23) (.tmp 24) rfl ar5 kr rfl (by decide) (by decide) rfl rfl hn h hV0 rfl (J5 _) (by omega) hBw g0 hB ?_;intro sa6 sc6 z6 ho6 hg6 hb6))
  all_goals
   go_ret
   exact⟨sa6,sc6,rfl,by rw[HI.out];exact ho6,by rw[← E8];exact hg6,fun j hj=>hb6.elim (fun e=>.inl (e▸hj)) (fun e=>.inr (by rw[e]at hj;cases hj;exact Nat.le_refl _)),b5.of⟩
 have hkl:k<l.length:=by omega
 have hkn2:k<n:=by omega
 obtain⟨g,rfl⟩:∃ g,a=some ⟨g,0,none⟩:=by
  obtain⟨-,-,⟨hv,hn0⟩|⟨g,cap,cur,hv,-⟩⟩:=h
  ·omega
  ·simp only[Value.slice.injEq]at hv;exact⟨g,hv.1⟩
 have hvg:vb≠g:=by have:=hvb g rfl;omega
 obtain⟨D,hD⟩:∃ D,(l.drop k).flatMap j6=D:=⟨_,rfl⟩
 have hDl:D.length=(n - k)*5:=by rw[← hD,F8 I6,List.length_drop,hn]
 have hD1:∀ v∈D,v.oneCell'=true:=hD▸bv5 J5 _
 have hx1:=J5 x
 have hw1:IntKind.i64.wrap ((k:Int)+1)=(k:Int)+1:=by rw[IntKind.wrap_i64];omega
 have hb1:(0:Int)≤(k:Int)+1:=by omega
 have hin:k≤n:=by omega
 have htn:((k:Int)+1).toNat=k+1:=by omega
 have hz2:¬ ((k:Int)=(n:Int)):=by omega
 by_cases hroom:n+1≤c
 ·obtain⟨cs,hH,hcl,htk,hc63,hBg,hO⟩:=h.insRoom (x:=x) hkl (by omega)
  rw[hD]at hO
  have HO:=lH hO;clear hO
  have hDc:∀ j v,D[j]?=some v→cs[k*5+j]?=some v:=fun j v hj=>bG6 I6 htk (hD▸hj)
  have hcl5:n*5+5≤cs.length:=by rw[hcl];have:=Nat.mul_le_mul_right 5 hroom;omega
  have hcp1:∀ ty dc sc,(Builtin.copy_ #[79,79] ty #[.slice (some ⟨g,(k+1)*5,none⟩) (n - k) dc,.slice (some ⟨g,k*5,none⟩) (n+1 - k) sc]).run Tryz.prog w.drew=.ok (goInt (Nat.min (n+1 - k) (n - k))) (w.drew.setCells g ((k+1)*5) D):=fun ty dc sc =>
   aF4 (P:=Tryz.prog) w.drew 79 79 ty 254 5 g ((k+1)*5) (n - k) dc ⟨g,k*5,none⟩ (n+1 - k) sc D ar5 kr (by rw[hDl];congr 1;simp only[Nat.min_def];split<;>omega)
    (fun j v hj=>by rw[ap7];exact(hH.cell _).trans (hDc j v hj)) (fun j hj=>((hH.there (o:=(k+1)*5) (n:=(n - k)*5) (by omega)) j (hDl▸hj)).1) (fun j hj=>((hH.there (o:=(k+1)*5) (n:=(n - k)*5) (by omega)) j (hDl▸hj)).2) hD1
  obtain⟨W1,hW1⟩:∃ W1,W1=w.drew.setCells g ((k+1)*5) D:=⟨_,rfl⟩
  have hH1:i9 W1 g (S6 cs ((k+1)*5) D) 254:=by rw[hW1];exact i9.setCells D ((k+1)*5) hH
  have hL1:(S6 cs ((k+1)*5) D).length=cs.length:=ao9 (by rw[hDl];omega)
  have hV1:i9 W1 vb (j6 x) 254:=by rw[hW1];unfold i9;rw[World.heap_setCells_other w.drew _ _ _ hV.lt hvg];exact hV
  have hcp2:∀ (W:World),W.heap=W1.heap→∀ ty dc,(Builtin.copy_ #[79,79] ty #[.slice (some ⟨g,k*5,none⟩) (n+1 - k) dc,.slice (some ⟨vb,0,none⟩) 1 1]).run Tryz.prog W=.ok (goInt (Nat.min 1 (n+1 - k))) (W.setCells g (k*5) (j6 x)):=fun W hW ty dc=>by
   have hHW:i9 W g (S6 cs ((k+1)*5) D) 254:=by unfold i9 at hH1 ⊢;rw[hW];exact hH1
   have hVW:i9 W vb (j6 x) 254:=by unfold i9 at hV1 ⊢;rw[hW];exact hV1
   exact aF4 (P:=Tryz.prog) W 79 79 ty 254 5 g (k*5) (n+1 - k) dc ⟨vb,0,none⟩ 1 1 (j6 x) ar5 kr (by rw[I6];simp only[Nat.min_def];split<;>omega)
    (fun j v hj=>by rw[ap7,Nat.zero_add];exact(hVW.cell _).trans hj) (fun j hj=>((hHW.there (o:=k*5) (n:=5) (by rw[hL1];omega)) j hj).1) (fun j hj=>((hHW.there (o:=k*5) (n:=5) (by rw[hL1];omega)) j hj).2) hx1
  have hov:∀ lb cb,(callFunc 258 #[.slice (some ⟨vb,0,none⟩) 1 1,.slice (some ⟨g,(k+1)*5,none⟩) lb cb]).run Tryz.prog w=.ok (.value (.bool false)) w:=fun lb cb=>by
   rw[run_callFunc_extern Tryz.func258 kr kr kr (e:=Extern.SlicesOverlaps.overlaps #[79,79] #[4]) kr,
    Lib.run_overlaps_apart w 79 4 254 ar5 5 (fun w=>by kernel_rfl) ⟨vb,0,none⟩ ⟨g,(k+1)*5,none⟩ 1 1 lb cb hvg 254 254 5 cs.length (bb5 hV) (bb5 hH) (by omega) (hV.free _) (hV.free _)]
   rfl
  have hb2:¬ (c=k+1):=by omega
  have hb3:(k:Int)≤(n:Int)+1:=by omega
  have hb4:¬ (c=k):=by omega
  rw[← hW1]at hcp1
  go_enter Tryz.func217,Tryz.ntmps217
  go_wp2_with (simp only[hov])
  have ag5:Tryz.prog.follows Departure.mixedOrders=true:=by kernel_rfl
  go_region_law_o (refine step_copy_runI rfl _ _ 79 79 rfl _ _ (by simp[Act.eval,Act.put]) (by simp[Act.eval,Act.put]) (hcp1 _ _ _) ?_)
  go_wp2_with (at_builtin;refine wpList_copy_runI _ rfl _ _ 79 79 rfl _ _ rfl rfl (hcp2 _ rfl _ _) ?_)
  go_ret
  rw[← hW1]
  have HWg:w.grownBy (W1.setCells g (k*5) (j6 x)) (some g):=by
   have hb:Below g w (W1.setCells g (k*5) (j6 x)):=S3 (Nat.le_refl g) _ _ (hW1▸S3 (Nat.le_refl g) _ _ (Below.refl g w).drew)
   have hu:But g w (W1.setCells g (k*5) (j6 x)):=But.setCells _ _ (hW1▸But.setCells _ _ ⟨Nat.le_refl _,fun _ _ _=>rfl⟩)
   exact⟨hb.os,hb.tape,hb.output,hb.size,fun q h1 h2=>hu.block q (fun e=>h2 (by rw[e])) h1⟩
  have hO2:=HO.out _ (i9.setCells (j6 x) (k*5) hH1)
  have hLt:=bw7 g0 HWg (fun j e=>by cases e;omega)
  exact⟨some ⟨g,0,none⟩,c,rfl,hO2,HWg,fun j hj=>.inl hj,hLt⟩
 ·have hcap:=h.cap
  have hBg:=(h.blk g rfl).1
  have hOs:=Own.sl h
  obtain⟨cs,hH,hle5⟩:=Own.heldB h
  obtain⟨i0,hi0,hq3⟩:=Option.map_eq_some_iff.1 (show(Tryz.prog.info? 254).map (fun i=>(i.zero,i.size,i.bytes))=some (some (.agg #[.int .i64 0,.int .i64 0,.int .i64 0,.int .i64 0,.int .i64 0]),5,40)by kernel_rfl)
  simp only[Prod.mk.injEq]at hq3
  obtain⟨hz0,hzs,hzb⟩:=hq3
  have htk:cs.take (l.length*5)=l.flatMap j6:=h.taken hH
  have hgw:g<w.heap.size:=hH.lt
  have hvw:vb<w.heap.size:=hV.lt
  obtain⟨E,hE⟩:∃ E,(l.take k).flatMap j6=E:=⟨_,rfl⟩
  have hEl:E.length=k*5:=by rw[← hE,F8 I6,List.length_take,Nat.min_eq_left (by omega)]
  have hEc:∀ j v,E[j]?=some v→cs[j]?=some v:=fun j v hj=>by
   rw[← hE,← ay1 (n:=k) I6,← htk,List.getElem?_take]at hj
   split at hj
   ·rw[List.getElem?_take]at hj
    split at hj
    ·exact hj
    ·cases hj
   ·cases hj
  have hDc:∀ j v,D[j]?=some v→cs[k*5+j]?=some v:=fun j v hj=>bG6 I6 htk (hD▸hj)
  have hold:(Builtin.firstCells i0.size k (.slice (some ⟨g,0,none⟩) k c)).run Tryz.prog w.drew=.ok E.toArray w.drew:=by
   rw[hzs]
   exact run_firstCells_some (w:=w.drew) 5 k ⟨g,0,none⟩ k c E hEl (fun j v hj=>by rw[ap7,Nat.zero_add];exact(hH.cell _).trans (hEc j v hj))
  have hkk:(n:Int)+1 - (k:Int)=((n+1 - k:Nat):Int):=by omega
  obtain⟨G,hG⟩:∃ G,G=grownCap w (n+1) c 254:=⟨_,rfl⟩
  obtain⟨ZR,hZR⟩:∃ ZR:Array Value,ZR=Builtin.zeroCells (Value.agg #[.int .i64 0,.int .i64 0,.int .i64 0,.int .i64 0,.int .i64 0]).cells (n+1 - k)++Builtin.zeroCells (Value.agg #[.int .i64 0,.int .i64 0,.int .i64 0,.int .i64 0,.int .i64 0]).cells (G - (n+1)):=⟨_,rfl⟩
  have hGn:n+1≤G:=by rw[hG];exact grownCap_ge w _ _ _
  have hGm:G≤maxLen:=by rw[hG];exact grownCap_le_maxLen w (n+1) c 254 (by unfold maxLen;omega)
  have hZl:ZR.size=(G - k)*5:=by
   rw[hZR]
   simp[Builtin.zeroCells,Value.cells]
   omega
  have hrz:∀ ty,(Builtin.append_ #[79,3] ty #[.slice (some ⟨g,0,none⟩) k c,.int .i64 ((n:Int)+1 - (k:Int))]).run Tryz.prog w=.ok (.slice (some ⟨w.heap.size,0,none⟩) (n+1) G) (w.drew.alloc (.cells (E.toArray++ZR) 254)):=fun ty=>by
   have h9:=Lib.run_append_grow_zeros w 79 3 ty 254 i0 _ .i64 .i64 ar5 Tryz.underlying3 hi0 hz0 (some ⟨g,0,none⟩) k c E hold (n+1 - k) (by omega) (by omega) (by omega) (by omega) (by rw[hzb];omega) (by rw[hzb,show k+(n+1 - k)=n+1 by omega];exact growslice_fits (by omega) (by omega))
   rw[show k+(n+1 - k)=n+1 by omega,← hG,Array.append_assoc,← hZR]at h9
   rw[hkk]
   exact h9
  obtain⟨R0,hR0⟩:∃ R0:List Value,R0=E++ZR.toList:=⟨_,rfl⟩
  have hRl:R0.length=G*5:=by rw[hR0,List.length_append,hEl,Array.length_toList,hZl,← Nat.add_mul];congr 1;omega
  obtain⟨W1,hW1⟩:∃ W1,W1=w.drew.alloc (.cells (E.toArray++ZR) 254):=⟨_,rfl⟩
  have hH1:i9 W1 w.heap.size R0 254:=by
   rw[hW1];unfold i9
   show(w.heap.push _)[w.heap.size]?=_
   rw[hR0];simp
  have hg1:W1.heap[g]?=w.heap[g]?:=by rw[hW1];show(w.heap.push _)[g]?=_;rw[Array.getElem?_push_lt hgw,Array.getElem?_eq_getElem hgw]
  have hv1:W1.heap[vb]?=w.heap[vb]?:=by rw[hW1];show(w.heap.push _)[vb]?=_;rw[Array.getElem?_push_lt hvw,Array.getElem?_eq_getElem hvw]
  have hG5:(n+1)*5≤G*5:=Nat.mul_le_mul_right 5 hGn
  have hcpA:∀ (W:World),W.heap=W1.heap→∀ ty dc,(Builtin.copy_ #[79,79] ty #[.slice (some ⟨w.heap.size,k*5,none⟩) (n+1 - k) dc,.slice (some ⟨vb,0,none⟩) 1 1]).run Tryz.prog W=.ok (goInt (Nat.min 1 (n+1 - k))) (W.setCells w.heap.size (k*5) (j6 x)):=fun W hW ty dc=>by
   have hHW:i9 W w.heap.size R0 254:=by unfold i9 at hH1 ⊢;rw[hW];exact hH1
   have hVW:i9 W vb (j6 x) 254:=by unfold i9 at hV ⊢;rw[hW,hv1];exact hV
   exact aF4 (P:=Tryz.prog) W 79 79 ty 254 5 w.heap.size (k*5) (n+1 - k) dc ⟨vb,0,none⟩ 1 1 (j6 x) ar5 kr (by rw[I6];simp only[Nat.min_def];split<;>omega)
    (fun j v hj=>by rw[ap7,Nat.zero_add];exact(hVW.cell _).trans hj) (fun j hj=>((hHW.there (o:=k*5) (n:=5) (by rw[hRl];omega)) j hj).1) (fun j hj=>((hHW.there (o:=k*5) (n:=5) (by rw[hRl];omega)) j hj).2) hx1
  obtain⟨R1,hR1⟩:∃ R1,R1=S6 R0 (k*5) (j6 x):=⟨_,rfl⟩
  have hR1l:R1.length=G*5:=by rw[hR1,ao9 (by rw[hRl,I6];omega),hRl]
  have hcpB:∀ (W:World),W.heap=(W1.setCells w.heap.size (k*5) (j6 x)).heap→∀ ty dc sc,(Builtin.copy_ #[79,79] ty #[.slice (some ⟨w.heap.size,(k+1)*5,none⟩) (n - k) dc,.slice (some ⟨g,k*5,none⟩) (n - k) sc]).run Tryz.prog W=.ok (goInt (Nat.min (n - k) (n - k))) (W.setCells w.heap.size ((k+1)*5) D):=fun W hW ty dc sc=>by
   have hHW:i9 W w.heap.size R1 254:=by have h5:=i9.setCells (j6 x) (k*5) hH1;unfold i9 at h5 ⊢;rw[hW,h5,hR1]
   have hHg:i9 W g cs 254:=by unfold i9 at hH ⊢;rw[hW,World.heap_setCells_other W1 _ _ _ (by rw[hW1];show g<(w.heap.push _).size;simp;omega) (by omega),hg1];exact hH
   exact aF4 (P:=Tryz.prog) W 79 79 ty 254 5 w.heap.size ((k+1)*5) (n - k) dc ⟨g,k*5,none⟩ (n - k) sc D ar5 kr (by rw[hDl];congr 1;exact(Nat.min_self _).symm)
    (fun j v hj=>by rw[ap7];exact(hHg.cell _).trans (hDc j v hj)) (fun j hj=>((hHW.there (o:=(k+1)*5) (n:=(n - k)*5) (by rw[hR1l];omega)) j (hDl▸hj)).1) (fun j hj=>((hHW.there (o:=(k+1)*5) (n:=(n - k)*5) (by rw[hR1l];omega)) j (hDl▸hj)).2) hD1
  have hHO:=lH (fun(W:World) (hW:i9 W w.heap.size (S6 R1 ((k+1)*5) D) 254)=>Own.insNew (B:=B) (T:=254) (g:=w.heap.size) (c2:=G) (x:=x) (Z:=ZR.toList) I6 hkl (by rw[hE,← hR0];exact hRl) (by omega) hGm hBw (w':=W) (by rw[hE,hD,← hR0,← hR1];exact hW))
  have hGi:¬ (G=k):=by omega
  have hGim:¬ (G=k+1):=by omega
  have hci:¬ (c=k):=by omega
  have hz3:(c:Int)<(n:Int)+1:=by omega
  have hb3:(k:Int)≤(n:Int):=by omega
  have hG63:G≤9223372036854775807:=by unfold maxLen at hGm;exact hGm
  rw[← hW1]at hrz
  have hB1:Below w.heap.size w W1:=by rw[hW1];exact(ii:d5 w (w.drew.alloc (.cells (E.toArray++ZR) 254))).out
  have HH1:=lH hH1
  have ag5:Tryz.prog.follows Departure.mixedOrders=true:=by kernel_rfl
  clear hkk hold hE hEc hEl hZl hZR hOs htk hle5 hW1 hg1 hv1 hG
  go_enter Tryz.func217,Tryz.ntmps217
  go_wp2_with (first
   | (at_builtin;refine Lib.wpList_append_run _ rfl _ _ _ _ rfl _ _ rfl rfl _ _ (hrz _) ?_)
   | (at_builtin;refine wpList_copy_runI _ rfl _ _ 79 79 rfl _ _ rfl rfl (hcpA _ rfl _ _) ?_))
  go_region_law_o (refine step_copy_runI rfl _ _ 79 79 rfl (.slice (some ⟨w.heap.size,(k+1)*5,none⟩) (n - k) (G - (k+1))) (.slice (some ⟨g,k*5,none⟩) (n - k) (c - k)) (by simp[Act.eval,Act.put]) (by simp[Act.eval,Act.put]) (hcpB (W1.setCells w.heap.size (k*5) (j6 x)).drew rfl _ _ _) ?_)
  go_wp2
  go_ret
  have hF:Below w.heap.size w ((W1.setCells w.heap.size (k*5) (j6 x)).drew.setCells w.heap.size ((k+1)*5) D):=S3 nl _ _ (S3 nl _ _ hB1).drew
  have hH1b:=i9.setCells (j6 x) (k*5) HH1.out
  rw[← hR1]at hH1b
  have hH2:=bL1 hH1b
  have hO2:=hHO.out _ (i9.setCells D ((k+1)*5) hH2)
  have hGb:w.grownBy ((W1.setCells w.heap.size (k*5) (j6 x)).drew.setCells w.heap.size ((k+1)*5) D) (some g):=⟨hF.os,hF.tape,hF.output,hF.size,fun j hj _=>hF.block j hj⟩
  have hLt:=bw7 g0 hGb (fun j e=>by cases e;omega)
  exact⟨some ⟨w.heap.size,0,none⟩,G,rfl,hO2,hGb,fun j hj=>.inr (by cases hj;exact Nat.le_refl _),hLt⟩
