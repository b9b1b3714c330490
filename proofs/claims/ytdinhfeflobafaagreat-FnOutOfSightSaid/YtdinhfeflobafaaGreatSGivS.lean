/- GiveOrder of the reference. No condition but on sizes. -/
import Derived.Test.YtdinhfeflobafaaGreatSM35
import Derived.Deep.CutRange
namespace Go.Proofs.YtdinhfeflobafaaGreat
set_option linter.unusedVariables false
open Go.ChangeShapes Go.WideShapes Go.ChangeAt Go.RowKit
set_option maxRecDepth 100000 in
set_option maxHeartbeats 16000000 in
theorem o_sGiveOrder{B:Nat}{vs:List Value}{m:TMission}{q:TOrder}{w:World}(h:Enc.Rd B w vs m)(ht:Enc.tot m≤99999990) :
  Calls Tryz.prog 17 #[.agg vs.toArray,.agg #[.int .i64 q.Kind,.int .i64 q.At,.int .i64 q.A,.int .i64 q.B]] w (GivesOB w (giveOrder m q).1 (giveOrder m q).2):=by
 have HL:=lH (len_mission h)
 have HM:=lH h;clear h
 have HT8:=lH (show Enc.tot m≤100000000 by omega)
 have HT9:=lH (show Enc.tot (offer m (payOrder q))≤100000000 by have h1:=offer_tot m (payOrder q);have h2:=payOrder_size q;omega)
 have HLO:=lH (show m.Ground.Offers.length≤1000000000 by
  have h:=(mbounds HT8.out).2.2.1
  have h1:Enc.tot m.Ground=totL m.Ground.Offers+Enc.tot m.Ground.Sender+Enc.tot m.Ground.Unpacker+totL m.Ground.Pairs+totL m.Ground.Records+totL m.Ground.Files+totL m.Ground.Told:=rfl
  have:=totL_len m.Ground.Offers;have:=Enc.tot_nonneg m.Ground.Sender;have:=Enc.tot_nonneg m.Ground.Unpacker;have:=totL_nonneg m.Ground.Pairs;have:=totL_nonneg m.Ground.Records;have:=totL_nonneg m.Ground.Files;have:=totL_nonneg m.Ground.Told
  omega)
 clear ht
 have HB:=lH (Held.new w vs 90 w.heap.size rfl)
 have HXo:=lH (Held.new (w.alloc (.cells vs.toArray 90)) [.int .i64 q.Kind,.int .i64 q.At,.int .i64 q.A,.int .i64 q.B] 104 (w.heap.size+1) (by simp))
 have HR:=lH (Held.new ((w.alloc (.cells vs.toArray 90)).alloc (.cells #[.int .i64 q.Kind,.int .i64 q.At,.int .i64 q.A,.int .i64 q.B] 104)) [.int .i64 0,.int .i64 0,.int .i64 0,.int .i64 0,.int .i64 0,.int .i64 0,.int .i64 0,.slice none 0 0,.int .i64 0,.int .i64 0,.int .i64 0,.int .i64 0,.int .i64 0,.int .i64 0,.slice none 0 0,.slice none 0 0,.slice none 0 0,.int .i64 0,.int .i64 0,.slice none 0 0,.int .i64 0,.int .i64 0,.bool false,.bool false,.int .i64 0,.int .i64 0,.bool false,.string ⟨#[]⟩,.int .i64 0,.slice none 0 0,.slice none 0 0,.slice none 0 0,.slice none 0 0,.int .i64 0,.bool false,.bool false,.int .i64 0,.int .i64 0,.slice none 0 0,.bool false,.slice none 0 0,.slice none 0 0,.slice none 0 0,.int .i64 0,.slice none 0 0,.slice none 0 0,.int .i64 0,.int .i64 0,.slice none 0 0,.int .i64 0,.int .i64 0,.string ⟨#[]⟩,.slice none 0 0,.int .i64 0,.slice none 0 0,.slice none 0 0,.int .i64 0,.slice none 0 0,.slice none 0 0,.slice none 0 0,.int .i64 0] 90 (w.heap.size+2) (by simp))
 go_enter Tryz.func17,Tryz.ntmps17
 go_wp2_with (first|(refine stepLoad rfl _ _ rfl w.heap.size 0 rfl (row:=vs) (HB.out.to inferInstance) _ Tryz.underlying90 rfl (by rw[HL.out];kernel_rfl) (by rw[List.drop_zero,List.take_length]) ?_))
 refine(o_copyMission (x:=m) (Enc.keep HM.out inferInstance) HT8.out).mono ?_
 rintro _ _ ⟨cs,χ,rfl,hO,y1,rfl⟩
 have HLcs:=lH (len_mission (EncO.toRd hO));have HOcs:=lH (one_mission (EncO.toRd hO))
 have HOo:=lH hO
 obtain⟨A,hcs,hT⟩:=om_old (U:=y1.w.heap.size) hO (Nat.le_refl _);clear hO
 obtain⟨B0,hB0,hB1,hT0⟩:∃ B0,w.heap.size+3≤B0∧B0≤y1.w.heap.size∧TMissionO B0 (paint y1.w.heap.size χ (fun _=>(0,0)) (fun _=>(1000,0))) 0 y1.w A m:=⟨_,LeN.out,y1.size_le,hT⟩
 have HT0:=lH hT0;have HCS:=lH hcs;clear hT hT0 hcs
 have HCo:=lH (show cs[16]?=some (.slice A.a3 m.Ground.Offers.length A.c3)by rw[HCS.out];rfl)
 go_wp2_with (first|(refine stepStore2 rfl _ _ _ rfl _ 0 rfl (us:=cs) (cs2:=cs) (Held.new _ [.int .i64 0,.int .i64 0,.int .i64 0,.int .i64 0,.int .i64 0,.int .i64 0,.int .i64 0,.slice none 0 0,.int .i64 0,.int .i64 0,.int .i64 0,.int .i64 0,.int .i64 0,.int .i64 0,.slice none 0 0,.slice none 0 0,.slice none 0 0,.int .i64 0,.int .i64 0,.slice none 0 0,.int .i64 0,.int .i64 0,.bool false,.bool false,.int .i64 0,.int .i64 0,.bool false,.string ⟨#[]⟩,.int .i64 0,.slice none 0 0,.slice none 0 0,.slice none 0 0,.slice none 0 0,.int .i64 0,.bool false,.bool false,.int .i64 0,.int .i64 0,.slice none 0 0,.bool false,.slice none 0 0,.slice none 0 0,.slice none 0 0,.int .i64 0,.slice none 0 0,.slice none 0 0,.int .i64 0,.int .i64 0,.slice none 0 0,.int .i64 0,.int .i64 0,.string ⟨#[]⟩,.slice none 0 0,.int .i64 0,.slice none 0 0,.slice none 0 0,.int .i64 0,.slice none 0 0,.slice none 0 0,.slice none 0 0,.int .i64 0] 90 _ rfl) ?a11 ?a12 ?a13 ?a14 ?a15 (w0:=w) inferInstance LeN.out ?_;(case a11=>rfl);(case a12=>(rw[HLcs.out];kernel_rfl));(case a13=>exact HOcs.out);(case a14=>(rw[HLcs.out];exact Nat.le_of_ble_eq_true rfl));(case a15=>exact splice_all HLcs.out);intro z1 hx kx;have HX1:=lH hx;clear hx;have KX1:=lH kx;clear kx)|(refine stepLoad rfl _ _ rfl w.heap.size 0 rfl (row:=vs) ((HB.out.past (u:=(w.alloc (.cells vs.toArray 90))) inferInstance KX1.out LeN.out).to inferInstance) _ Tryz.underlying90 rfl (by rw[HL.out];kernel_rfl) (by rw[List.drop_zero,List.take_length]) ?_))
 have HOz:=lH (om_keep HOo.out (KX1.out.under inferInstance (Nat.le_refl _)));clear HOo
 have HC:=lH (show Held z1.w y1.w.heap.size cs 90 from HX1.out);clear HX1
 have hBz:B0≤z1.w.heap.size:=Nat.le_trans hB1 (Nat.le_of_lt HC.out.lt)
 have HT1:=lH (HT0.out.keep (KX1.out.under inferInstance (Nat.le_refl _)));clear HT0
 have HXz:=lH (HXo.out.past (u:=((w.alloc (.cells vs.toArray 90)).alloc (.cells #[.int .i64 q.Kind,.int .i64 q.At,.int .i64 q.A,.int .i64 q.B] 104))) (inferInstance) KX1.out LeN.out)
 have HRz:=lH (HR.out.past (u:=(((w.alloc (.cells vs.toArray 90)).alloc (.cells #[.int .i64 q.Kind,.int .i64 q.At,.int .i64 q.A,.int .i64 q.B] 104)).alloc (.cells #[.int .i64 0,.int .i64 0,.int .i64 0,.int .i64 0,.int .i64 0,.int .i64 0,.int .i64 0,.slice none 0 0,.int .i64 0,.int .i64 0,.int .i64 0,.int .i64 0,.int .i64 0,.int .i64 0,.slice none 0 0,.slice none 0 0,.slice none 0 0,.int .i64 0,.int .i64 0,.slice none 0 0,.int .i64 0,.int .i64 0,.bool false,.bool false,.int .i64 0,.int .i64 0,.bool false,.string ⟨#[]⟩,.int .i64 0,.slice none 0 0,.slice none 0 0,.slice none 0 0,.slice none 0 0,.int .i64 0,.bool false,.bool false,.int .i64 0,.int .i64 0,.slice none 0 0,.bool false,.slice none 0 0,.slice none 0 0,.slice none 0 0,.int .i64 0,.slice none 0 0,.slice none 0 0,.int .i64 0,.int .i64 0,.slice none 0 0,.int .i64 0,.int .i64 0,.string ⟨#[]⟩,.slice none 0 0,.int .i64 0,.slice none 0 0,.slice none 0 0,.int .i64 0,.slice none 0 0,.slice none 0 0,.slice none 0 0,.int .i64 0] 90))) (inferInstance) KX1.out LeN.out)
 have HBz:=lH (HB.out.past (u:=(w.alloc (.cells vs.toArray 90))) (inferInstance) KX1.out LeN.out)
 have HGw:=lH (inferInstance:Grows w z1.w)
 clear HXo HR HB KX1
 refine(c_sMissionOk (m:=m) (Enc.keep HM.out inferInstance) HT8.out).mono ?_
 rintro _ _ ⟨rfl,y0,rfl⟩
 cases g2:missionOk m
 ·have HV2:=lH g2;clear g2
  have HG:=lH (show giveOrder m q=(m,false)by simp[giveOrder,HV2.out])
  go_wp2_with (first|(refine stepLoad rfl _ _ rfl y1.w.heap.size 0 rfl (row:=cs) (HC.out.to inferInstance) _ Tryz.underlying90 rfl (by rw[HLcs.out];kernel_rfl) (by rw[List.drop_zero,List.take_length]) ?_)|(refine stepStore2 rfl _ _ _ rfl (w.heap.size+2) 0 rfl (us:=cs) (cs2:=cs) (HRz.out.to inferInstance) ?a9a1 ?a9a2 ?a9a3 ?a9a4 ?a9a5 (w0:=w) inferInstance (by simp) ?_;(case a9a1=>rfl);(case a9a2=>(rw[HLcs.out];kernel_rfl));(case a9a3=>exact HOcs.out);(case a9a4=>(rw[HLcs.out];exact Nat.le_of_ble_eq_true rfl));(case a9a5=>exact splice_all HLcs.out);intro z9a hx kx;have HX9a:=lH hx;clear hx;have KX9a:=lH kx;clear kx))
  refine bodyPost_ret (v:=.tuple #[.agg cs.toArray,.bool false]) (results_cell2 (P:=Tryz.prog) rfl rfl HX9a.out _ Tryz.underlying90 rfl (by rw[HLcs.out];kernel_rfl) rfl) rfl ⟨cs,χ,by rw[HG.out],?_,Later.of⟩
  rw[HG.out]
  refine om_mono (om_keep (om_to HOz.out ?ga) (KX9a.out.above.more ?la)) ?ma
  case ga=>infer_instance
  case la=>exact LeN.out
  case ma=>exact LeN.out
 have HV2:=lH g2;clear g2
 cases g1:orderOk q
 ·have HV1:=lH g1
  have HG:=lH (show giveOrder m q=(m,false)by simp[giveOrder,HV1.out])
  go_wp2_with (first|(go_at_call 82;refine(k_sOrderOk).mono ?_;rintro _ _ ⟨rfl,x,rfl⟩)|(refine stepLoadG (by go_simp) _ _ rfl (w.heap.size+1) 0 rfl (row:=[.int .i64 q.Kind,.int .i64 q.At,.int .i64 q.A,.int .i64 q.B]) (HXz.out.to inferInstance) _ Tryz.underlying104 rfl (by kernel_rfl) (by kernel_rfl) ?_)|(refine stepLoad rfl _ _ rfl y1.w.heap.size 0 rfl (row:=cs) (HC.out.to inferInstance) _ Tryz.underlying90 rfl (by rw[HLcs.out];kernel_rfl) (by rw[List.drop_zero,List.take_length]) ?_)|(refine stepStore2 rfl _ _ _ rfl (w.heap.size+2) 0 rfl (us:=cs) (cs2:=cs) (HRz.out.to inferInstance) ?a9b1 ?a9b2 ?a9b3 ?a9b4 ?a9b5 (w0:=w) inferInstance (by simp) ?_;(case a9b1=>rfl);(case a9b2=>(rw[HLcs.out];kernel_rfl));(case a9b3=>exact HOcs.out);(case a9b4=>(rw[HLcs.out];exact Nat.le_of_ble_eq_true rfl));(case a9b5=>exact splice_all HLcs.out);intro z9b hx kx;have HX9b:=lH hx;clear hx;have KX9b:=lH kx;clear kx))
  refine bodyPost_ret (v:=.tuple #[.agg cs.toArray,.bool false]) (results_cell2 (P:=Tryz.prog) rfl rfl HX9b.out _ Tryz.underlying90 rfl (by rw[HLcs.out];kernel_rfl) rfl) rfl ⟨cs,χ,by rw[HG.out],?_,Later.of⟩
  rw[HG.out]
  refine om_mono (om_keep (om_to HOz.out ?gb) (KX9b.out.above.more ?lb)) ?mb
  case gb=>infer_instance
  case lb=>exact LeN.out
  case mb=>exact LeN.out
 have HV1:=lH g1
 go_wp2_with (first|(go_at_call 82;refine(k_sOrderOk).mono ?_;rintro _ _ ⟨rfl,x,rfl⟩)|(refine stepLoadG (by go_simp) _ _ rfl (w.heap.size+1) 0 rfl (row:=[.int .i64 q.Kind,.int .i64 q.At,.int .i64 q.A,.int .i64 q.B]) (HXz.out.to inferInstance) _ Tryz.underlying104 rfl (by kernel_rfl) (by kernel_rfl) ?_))
 (try simp only[Act.put])
 go_cut []from 18 (fun wx=>∃ (z:Later w) (sa:Option Addr) (sc:Nat) (χ2:Nat→Col),wx=z.w∧Held z.w y1.w.heap.size (cs.set 16 (.slice sa (m.Ground.Offers.length+1) sc)) 90∧TMissionO B0 χ2 0 z.w { A with a3:=sa,c3:=sc } (offer m (payOrder q))∧Held z.w (w.heap.size+2) [.int .i64 0,.int .i64 0,.int .i64 0,.int .i64 0,.int .i64 0,.int .i64 0,.int .i64 0,.slice none 0 0,.int .i64 0,.int .i64 0,.int .i64 0,.int .i64 0,.int .i64 0,.int .i64 0,.slice none 0 0,.slice none 0 0,.slice none 0 0,.int .i64 0,.int .i64 0,.slice none 0 0,.int .i64 0,.int .i64 0,.bool false,.bool false,.int .i64 0,.int .i64 0,.bool false,.string ⟨#[]⟩,.int .i64 0,.slice none 0 0,.slice none 0 0,.slice none 0 0,.slice none 0 0,.int .i64 0,.bool false,.bool false,.int .i64 0,.int .i64 0,.slice none 0 0,.bool false,.slice none 0 0,.slice none 0 0,.slice none 0 0,.int .i64 0,.slice none 0 0,.slice none 0 0,.int .i64 0,.int .i64 0,.slice none 0 0,.int .i64 0,.int .i64 0,.string ⟨#[]⟩,.slice none 0 0,.int .i64 0,.slice none 0 0,.slice none 0 0,.int .i64 0,.slice none 0 0,.slice none 0 0,.slice none 0 0,.int .i64 0] 90∧Held z.w w.heap.size vs 90)
 have hes:¬ 9223372036854775807<1+(encOrder q).size:=by have:=encOrder_size q;omega
 case first =>
  refine wp_abs (fun _ _ _ _ _ h=>h) fun KK hPK hKK=>?_
  refine wp_region_held_drew (S:=fun W=>Grows w W∧Held W (w.heap.size+1) [.int .i64 q.Kind,.int .i64 q.At,.int .i64 q.A,.int .i64 q.B] 104) (by kernel_rfl) ⟨inferInstance,HXz.out.to inferInstance⟩ (fun hH=>?_)
  refine wpAnyH_take (i:=0) (v:=?vgs0) rfl (by kernel_rfl) (by kernel_rfl) (by kernel_rfl) (fun _ _ _ h=>hPK.out _ _ _ _ _ h) (Or.inl ⟨by rfl,?ygs0⟩) (by assumption) ?rgs0
  case ygs0=>intro w hSw;clear hSw;go_simp;(try with_reducible rfl)
  (try simp only[Act.put]);(try simp only[List.setIfInBounds_toArray]);(try simp only[List.set_cons_succ]);(try simp only[List.set_cons_zero])
  refine wpAnyH_take (i:=1) (v:=?vgs1) rfl (by kernel_rfl) (by kernel_rfl) (by kernel_rfl) (fun _ _ _ h=>hPK.out _ _ _ _ _ h) (Or.inl ⟨by rfl,?ygs1⟩) (by assumption) ?rgs1
  case ygs1=>intro w hSw;clear hSw;go_simp;(try with_reducible rfl)
  (try simp only[Act.put]);(try simp only[List.setIfInBounds_toArray]);(try simp only[List.set_cons_succ]);(try simp only[List.set_cons_zero])
  refine wpAnyH_take (i:=4) (v:=_) rfl (by kernel_rfl) (by kernel_rfl) (by kernel_rfl) (fun _ _ _ h=>hPK.out _ _ _ _ _ h) (yieldsIf_load_mid (by rfl) _ _ rfl (w.heap.size+1) 0 (by kernel_rfl) [.int .i64 q.Kind,.int .i64 q.At,.int .i64 q.A,.int .i64 q.B] _ (fun W hW=>hW.2.range (n:=4) rfl) Tryz.underlying104 rfl (by kernel_rfl)) (by assumption) ?_
  (try simp only[Act.put]);(try simp only[List.setIfInBounds_toArray]);(try simp only[List.set_cons_succ]);(try simp only[List.set_cons_zero])
  refine wpAnyH_r2 2 3 (by kernel_rfl) ?_ ?_
  ·refine one_load1 rfl (by kernel_rfl) _ _ rfl y1.w.heap.size 16 (by kernel_rfl) (HC.out.to inferInstance) (.slice A.a3 m.Ground.Offers.length A.c3) HCo.out _ Tryz.underlying30 rfl ⟨inferInstance,HXz.out.to inferInstance⟩ ?_
   (try simp only[Act.put]);(try simp only[List.setIfInBounds_toArray]);(try simp only[List.set_cons_succ]);(try simp only[List.set_cons_zero])
   refine wpAnyH_r1 3 (by kernel_rfl) (one_call rfl (by kernel_rfl) (f:=83) rfl Tryz.func83 (by kernel_rfl) (by kernel_rfl) [.int .i64 0,.int .i64 1] (by kernel_rfl) ((c_sPutWordN (by omega) (by omega)).mono ?_))
   rintro _ _ ⟨rfl,yp,rfl⟩
   have hSyp:Grows w yp.w∧Held yp.w (w.heap.size+1) [.int .i64 q.Kind,.int .i64 q.At,.int .i64 q.A,.int .i64 q.B] 104:=⟨inferInstance,HXz.out.to inferInstance⟩
   refine⟨_,rfl,hSyp,?_⟩
   (try simp only[Act.put]);(try simp only[List.setIfInBounds_toArray]);(try simp only[List.set_cons_succ]);(try simp only[List.set_cons_zero])
   refine wpAnyH_r1 5 (by kernel_rfl) (one_call rfl (by kernel_rfl) (f:=84) rfl Tryz.func84 (by kernel_rfl) (by kernel_rfl) [.agg #[.int .i64 q.Kind,.int .i64 q.At,.int .i64 q.A,.int .i64 q.B]] (by kernel_rfl) ((c_sEncodeOrder (x:=q)).mono ?_))
   rintro _ _ ⟨rfl,ye,rfl⟩
   have hSye:Grows w ye.w∧Held ye.w (w.heap.size+1) [.int .i64 q.Kind,.int .i64 q.At,.int .i64 q.A,.int .i64 q.B] 104:=⟨inferInstance,HXz.out.to inferInstance⟩
   refine⟨_,rfl,hSye,?_⟩
   (try simp only[Act.put]);(try simp only[List.setIfInBounds_toArray]);(try simp only[List.set_cons_succ]);(try simp only[List.set_cons_zero])
   refine wpAnyH_take (i:=6) (v:=?vgsA6) rfl (by kernel_rfl) (by kernel_rfl) (by kernel_rfl) (fun _ _ _ h=>hPK.out _ _ _ _ _ h) (Or.inl ⟨by rfl,?ygsA6⟩) (by assumption) ?rgsA6
   case ygsA6=>intro w hSw;clear hSw;go_simp;(try with_reducible rfl)
   (try simp only[Act.put]);(try simp only[List.setIfInBounds_toArray]);(try simp only[List.set_cons_succ]);(try simp only[List.set_cons_zero])
   refine wpAnyH_r1 7 (by kernel_rfl) (one_build1 rfl (by kernel_rfl) _ _ rfl (z:=.string ⟨#[]⟩) Tryz.underlying30 (by kernel_rfl) (s0:=payOrder q) rfl ⟨inferInstance,HXz.out.to inferInstance⟩ ?_)
   (try simp only[Act.put]);(try simp only[List.setIfInBounds_toArray]);(try simp only[List.set_cons_succ]);(try simp only[List.set_cons_zero])
   refine wpAnyH_r1 8 (by kernel_rfl) (one_app1 (enc:=encStr) (w0:=w) (z:=.string ⟨#[]⟩) (size:=1) (bytes:=16) (n:=m.Ground.Offers.length) (B:=B0) rfl (by kernel_rfl) (payOrder q) _ _ rfl Tryz.underlying30 (by kernel_rfl) rfl (by decide) (by decide) (by kernel_rfl) (by kernel_rfl) rfl (Own.to HT1.out.o3.own inferInstance) (blk_alloc _ _ _ rfl) rfl (encStr_one _) HLO.out (Nat.le_trans hBz LeN.out) inferInstance (by omega) ?_)
   intro sa sc xw hown hgr hblk
   obtain⟨hFr,hput⟩:=offer_app HT1.out hown hgr hblk (by have:=payOrder_size q;omega) inferInstance
   have hC1:Held xw.w y1.w.heap.size cs 90:=(Fr.keepsU hFr (by simp)).ofU _ _ _ (Nat.le_refl _) (HC.out.to inferInstance)
   have hX1:Held xw.w (w.heap.size+1) [.int .i64 q.Kind,.int .i64 q.At,.int .i64 q.A,.int .i64 q.B] 104:=blk_grown hgr (HXz.out.to inferInstance) (HT1.out.o3.own.lowNe (n:=m.Ground.Offers.length) (c2:=A.c3) (b:=w.heap.size+1) (by omega))
   have hR1:Held xw.w (w.heap.size+2) [.int .i64 0,.int .i64 0,.int .i64 0,.int .i64 0,.int .i64 0,.int .i64 0,.int .i64 0,.slice none 0 0,.int .i64 0,.int .i64 0,.int .i64 0,.int .i64 0,.int .i64 0,.int .i64 0,.slice none 0 0,.slice none 0 0,.slice none 0 0,.int .i64 0,.int .i64 0,.slice none 0 0,.int .i64 0,.int .i64 0,.bool false,.bool false,.int .i64 0,.int .i64 0,.bool false,.string ⟨#[]⟩,.int .i64 0,.slice none 0 0,.slice none 0 0,.slice none 0 0,.slice none 0 0,.int .i64 0,.bool false,.bool false,.int .i64 0,.int .i64 0,.slice none 0 0,.bool false,.slice none 0 0,.slice none 0 0,.slice none 0 0,.int .i64 0,.slice none 0 0,.slice none 0 0,.int .i64 0,.int .i64 0,.slice none 0 0,.int .i64 0,.int .i64 0,.string ⟨#[]⟩,.slice none 0 0,.int .i64 0,.slice none 0 0,.slice none 0 0,.int .i64 0,.slice none 0 0,.slice none 0 0,.slice none 0 0,.int .i64 0] 90:=blk_grown hgr (HRz.out.to inferInstance) (HT1.out.o3.own.lowNe (n:=m.Ground.Offers.length) (c2:=A.c3) (b:=w.heap.size+2) (by omega))
   have hB1:Held xw.w w.heap.size vs 90:=blk_grown hgr (HBz.out.to inferInstance) (HT1.out.o3.own.lowNe (n:=m.Ground.Offers.length) (c2:=A.c3) (b:=w.heap.size) (by omega))
   have hH1:Grows w xw.w∧Held xw.w (w.heap.size+1) [.int .i64 q.Kind,.int .i64 q.At,.int .i64 q.A,.int .i64 q.B] 104:=⟨inferInstance,hX1⟩
   refine⟨hH1,?_⟩
   (try simp only[Act.put]);(try simp only[List.setIfInBounds_toArray]);(try simp only[List.set_cons_succ]);(try simp only[List.set_cons_zero])
   refine wpAnyH_take (i:=9) (v:=?vgsa9) rfl (by kernel_rfl) (by kernel_rfl) (by kernel_rfl) (fun _ _ _ h=>hPK.out _ _ _ _ _ h) (Or.inl ⟨by rfl,?ygsa9⟩) (by assumption) ?rgsa9
   case ygsa9=>intro w hSw;clear hSw;go_simp;(try with_reducible rfl)
   (try simp only[Act.put]);(try simp only[List.setIfInBounds_toArray]);(try simp only[List.set_cons_succ]);(try simp only[List.set_cons_zero])
   refine wpAnyH_take (i:=10) (v:=?vgsa10) rfl (by kernel_rfl) (by kernel_rfl) (by kernel_rfl) (fun _ _ _ h=>hPK.out _ _ _ _ _ h) (Or.inl ⟨by rfl,?ygsa10⟩) (by assumption) ?rgsa10
   case ygsa10=>intro w hSw;clear hSw;go_simp;(try with_reducible rfl)
   (try simp only[Act.put]);(try simp only[List.setIfInBounds_toArray]);(try simp only[List.set_cons_succ]);(try simp only[List.set_cons_zero])
   refine wpAnyH_storeEnd 11 rfl (by kernel_rfl) (by kernel_rfl) (by kernel_rfl) _ _ _ rfl y1.w.heap.size 16 (by kernel_rfl) hC1 (us:=[(.slice sa (m.Ground.Offers.length+1) sc)]) (cs2:=cs.set 16 (.slice sa (m.Ground.Offers.length+1) sc)) (by kernel_rfl) (by kernel_rfl) rfl (by simp only[List.length_cons,List.length_nil];have:=HLcs.out;omega) rfl (w0:=w) inferInstance (by omega) ?_
   intro z hz hgz
   refine⟨⟨inferInstance,hX1.at hgz (by omega)⟩,?_⟩
   (try simp only[Act.put]);(try simp only[List.setIfInBounds_toArray]);(try simp only[List.set_cons_succ]);(try simp only[List.set_cons_zero])
   refine hKK.out _ _ _ ?_
   have hT2:=hput.box hgz (by rw[paint,if_pos (Nat.lt_of_lt_of_le HC.out.lt LeN.out),paint,if_neg (Nat.lt_irrefl _)]) (by omega) (by omega)
   have hR2:=hR1.at hgz (by omega);have hB2:=hB1.at hgz (by omega)
   clear hKK hPK hH
   go_wp2_with fail
   go_meet
   case rel=>exact⟨z,sa,sc,_,rfl,hz,hT2,hR2,hB2⟩
  ·refine one_call rfl (by kernel_rfl) (f:=83) rfl Tryz.func83 (by kernel_rfl) (by kernel_rfl) [.int .i64 0,.int .i64 1] (by kernel_rfl) ((c_sPutWordN (by omega) (by omega)).mono ?_)
   rintro _ _ ⟨rfl,yp,rfl⟩
   have hSyp:Grows w yp.w∧Held yp.w (w.heap.size+1) [.int .i64 q.Kind,.int .i64 q.At,.int .i64 q.A,.int .i64 q.B] 104:=⟨inferInstance,HXz.out.to inferInstance⟩
   refine⟨_,rfl,hSyp,?_⟩
   (try simp only[Act.put]);(try simp only[List.setIfInBounds_toArray]);(try simp only[List.set_cons_succ]);(try simp only[List.set_cons_zero])
   refine wpAnyH_r2 2 5 (by kernel_rfl) ?_ ?_
   ·refine one_load1 rfl (by kernel_rfl) _ _ rfl y1.w.heap.size 16 (by kernel_rfl) (HC.out.to inferInstance) (.slice A.a3 m.Ground.Offers.length A.c3) HCo.out _ Tryz.underlying30 rfl ⟨inferInstance,HXz.out.to inferInstance⟩ ?_
    (try simp only[Act.put]);(try simp only[List.setIfInBounds_toArray]);(try simp only[List.set_cons_succ]);(try simp only[List.set_cons_zero])
    refine wpAnyH_r1 5 (by kernel_rfl) (one_call rfl (by kernel_rfl) (f:=84) rfl Tryz.func84 (by kernel_rfl) (by kernel_rfl) [.agg #[.int .i64 q.Kind,.int .i64 q.At,.int .i64 q.A,.int .i64 q.B]] (by kernel_rfl) ((c_sEncodeOrder (x:=q)).mono ?_))
    rintro _ _ ⟨rfl,ye,rfl⟩
    have hSye:Grows w ye.w∧Held ye.w (w.heap.size+1) [.int .i64 q.Kind,.int .i64 q.At,.int .i64 q.A,.int .i64 q.B] 104:=⟨inferInstance,HXz.out.to inferInstance⟩
    refine⟨_,rfl,hSye,?_⟩
    (try simp only[Act.put]);(try simp only[List.setIfInBounds_toArray]);(try simp only[List.set_cons_succ]);(try simp only[List.set_cons_zero])
    refine wpAnyH_take (i:=6) (v:=?vgsB6) rfl (by kernel_rfl) (by kernel_rfl) (by kernel_rfl) (fun _ _ _ h=>hPK.out _ _ _ _ _ h) (Or.inl ⟨by rfl,?ygsB6⟩) (by assumption) ?rgsB6
    case ygsB6=>intro w hSw;clear hSw;go_simp;(try with_reducible rfl)
    (try simp only[Act.put]);(try simp only[List.setIfInBounds_toArray]);(try simp only[List.set_cons_succ]);(try simp only[List.set_cons_zero])
    refine wpAnyH_r1 7 (by kernel_rfl) (one_build1 rfl (by kernel_rfl) _ _ rfl (z:=.string ⟨#[]⟩) Tryz.underlying30 (by kernel_rfl) (s0:=payOrder q) rfl ⟨inferInstance,HXz.out.to inferInstance⟩ ?_)
    (try simp only[Act.put]);(try simp only[List.setIfInBounds_toArray]);(try simp only[List.set_cons_succ]);(try simp only[List.set_cons_zero])
    refine wpAnyH_r1 8 (by kernel_rfl) (one_app1 (enc:=encStr) (w0:=w) (z:=.string ⟨#[]⟩) (size:=1) (bytes:=16) (n:=m.Ground.Offers.length) (B:=B0) rfl (by kernel_rfl) (payOrder q) _ _ rfl Tryz.underlying30 (by kernel_rfl) rfl (by decide) (by decide) (by kernel_rfl) (by kernel_rfl) rfl (Own.to HT1.out.o3.own inferInstance) (blk_alloc _ _ _ rfl) rfl (encStr_one _) HLO.out (Nat.le_trans hBz LeN.out) inferInstance (by omega) ?_)
    intro sa sc xw hown hgr hblk
    obtain⟨hFr,hput⟩:=offer_app HT1.out hown hgr hblk (by have:=payOrder_size q;omega) inferInstance
    have hC1:Held xw.w y1.w.heap.size cs 90:=(Fr.keepsU hFr (by simp)).ofU _ _ _ (Nat.le_refl _) (HC.out.to inferInstance)
    have hX1:Held xw.w (w.heap.size+1) [.int .i64 q.Kind,.int .i64 q.At,.int .i64 q.A,.int .i64 q.B] 104:=blk_grown hgr (HXz.out.to inferInstance) (HT1.out.o3.own.lowNe (n:=m.Ground.Offers.length) (c2:=A.c3) (b:=w.heap.size+1) (by omega))
    have hR1:Held xw.w (w.heap.size+2) [.int .i64 0,.int .i64 0,.int .i64 0,.int .i64 0,.int .i64 0,.int .i64 0,.int .i64 0,.slice none 0 0,.int .i64 0,.int .i64 0,.int .i64 0,.int .i64 0,.int .i64 0,.int .i64 0,.slice none 0 0,.slice none 0 0,.slice none 0 0,.int .i64 0,.int .i64 0,.slice none 0 0,.int .i64 0,.int .i64 0,.bool false,.bool false,.int .i64 0,.int .i64 0,.bool false,.string ⟨#[]⟩,.int .i64 0,.slice none 0 0,.slice none 0 0,.slice none 0 0,.slice none 0 0,.int .i64 0,.bool false,.bool false,.int .i64 0,.int .i64 0,.slice none 0 0,.bool false,.slice none 0 0,.slice none 0 0,.slice none 0 0,.int .i64 0,.slice none 0 0,.slice none 0 0,.int .i64 0,.int .i64 0,.slice none 0 0,.int .i64 0,.int .i64 0,.string ⟨#[]⟩,.slice none 0 0,.int .i64 0,.slice none 0 0,.slice none 0 0,.int .i64 0,.slice none 0 0,.slice none 0 0,.slice none 0 0,.int .i64 0] 90:=blk_grown hgr (HRz.out.to inferInstance) (HT1.out.o3.own.lowNe (n:=m.Ground.Offers.length) (c2:=A.c3) (b:=w.heap.size+2) (by omega))
    have hB1:Held xw.w w.heap.size vs 90:=blk_grown hgr (HBz.out.to inferInstance) (HT1.out.o3.own.lowNe (n:=m.Ground.Offers.length) (c2:=A.c3) (b:=w.heap.size) (by omega))
    have hH1:Grows w xw.w∧Held xw.w (w.heap.size+1) [.int .i64 q.Kind,.int .i64 q.At,.int .i64 q.A,.int .i64 q.B] 104:=⟨inferInstance,hX1⟩
    refine⟨hH1,?_⟩
    (try simp only[Act.put]);(try simp only[List.setIfInBounds_toArray]);(try simp only[List.set_cons_succ]);(try simp only[List.set_cons_zero])
    refine wpAnyH_take (i:=9) (v:=?vgsb9) rfl (by kernel_rfl) (by kernel_rfl) (by kernel_rfl) (fun _ _ _ h=>hPK.out _ _ _ _ _ h) (Or.inl ⟨by rfl,?ygsb9⟩) (by assumption) ?rgsb9
    case ygsb9=>intro w hSw;clear hSw;go_simp;(try with_reducible rfl)
    (try simp only[Act.put]);(try simp only[List.setIfInBounds_toArray]);(try simp only[List.set_cons_succ]);(try simp only[List.set_cons_zero])
    refine wpAnyH_take (i:=10) (v:=?vgsb10) rfl (by kernel_rfl) (by kernel_rfl) (by kernel_rfl) (fun _ _ _ h=>hPK.out _ _ _ _ _ h) (Or.inl ⟨by rfl,?ygsb10⟩) (by assumption) ?rgsb10
    case ygsb10=>intro w hSw;clear hSw;go_simp;(try with_reducible rfl)
    (try simp only[Act.put]);(try simp only[List.setIfInBounds_toArray]);(try simp only[List.set_cons_succ]);(try simp only[List.set_cons_zero])
    refine wpAnyH_storeEnd 11 rfl (by kernel_rfl) (by kernel_rfl) (by kernel_rfl) _ _ _ rfl y1.w.heap.size 16 (by kernel_rfl) hC1 (us:=[(.slice sa (m.Ground.Offers.length+1) sc)]) (cs2:=cs.set 16 (.slice sa (m.Ground.Offers.length+1) sc)) (by kernel_rfl) (by kernel_rfl) rfl (by simp only[List.length_cons,List.length_nil];have:=HLcs.out;omega) rfl (w0:=w) inferInstance (by omega) ?_
    intro z hz hgz
    refine⟨⟨inferInstance,hX1.at hgz (by omega)⟩,?_⟩
    (try simp only[Act.put]);(try simp only[List.setIfInBounds_toArray]);(try simp only[List.set_cons_succ]);(try simp only[List.set_cons_zero])
    refine hKK.out _ _ _ ?_
    have hT2:=hput.box hgz (by rw[paint,if_pos (Nat.lt_of_lt_of_le HC.out.lt LeN.out),paint,if_neg (Nat.lt_irrefl _)]) (by omega) (by omega)
    have hR2:=hR1.at hgz (by omega);have hB2:=hB1.at hgz (by omega)
    clear hKK hPK hH
    go_wp2_with fail
    go_meet
    case rel=>exact⟨z,sa,sc,_,rfl,hz,hT2,hR2,hB2⟩
   ·refine one_call rfl (by kernel_rfl) (f:=84) rfl Tryz.func84 (by kernel_rfl) (by kernel_rfl) [.agg #[.int .i64 q.Kind,.int .i64 q.At,.int .i64 q.A,.int .i64 q.B]] (by kernel_rfl) ((c_sEncodeOrder (x:=q)).mono ?_)
    rintro _ _ ⟨rfl,ye,rfl⟩
    have hSye:Grows w ye.w∧Held ye.w (w.heap.size+1) [.int .i64 q.Kind,.int .i64 q.At,.int .i64 q.A,.int .i64 q.B] 104:=⟨inferInstance,HXz.out.to inferInstance⟩
    refine⟨_,rfl,hSye,?_⟩
    (try simp only[Act.put]);(try simp only[List.setIfInBounds_toArray]);(try simp only[List.set_cons_succ]);(try simp only[List.set_cons_zero])
    refine wpAnyH_take (i:=6) (v:=?vgsC6) rfl (by kernel_rfl) (by kernel_rfl) (by kernel_rfl) (fun _ _ _ h=>hPK.out _ _ _ _ _ h) (Or.inl ⟨by rfl,?ygsC6⟩) (by assumption) ?rgsC6
    case ygsC6=>intro w hSw;clear hSw;go_simp;(try with_reducible rfl)
    (try simp only[Act.put]);(try simp only[List.setIfInBounds_toArray]);(try simp only[List.set_cons_succ]);(try simp only[List.set_cons_zero])
    refine wpAnyH_r2 2 7 (by kernel_rfl) ?_ ?_
    ·refine one_load1 rfl (by kernel_rfl) _ _ rfl y1.w.heap.size 16 (by kernel_rfl) (HC.out.to inferInstance) (.slice A.a3 m.Ground.Offers.length A.c3) HCo.out _ Tryz.underlying30 rfl ⟨inferInstance,HXz.out.to inferInstance⟩ ?_
     (try simp only[Act.put]);(try simp only[List.setIfInBounds_toArray]);(try simp only[List.set_cons_succ]);(try simp only[List.set_cons_zero])
     refine wpAnyH_r1 7 (by kernel_rfl) (one_build1 rfl (by kernel_rfl) _ _ rfl (z:=.string ⟨#[]⟩) Tryz.underlying30 (by kernel_rfl) (s0:=payOrder q) rfl ⟨inferInstance,HXz.out.to inferInstance⟩ ?_)
     (try simp only[Act.put]);(try simp only[List.setIfInBounds_toArray]);(try simp only[List.set_cons_succ]);(try simp only[List.set_cons_zero])
     refine wpAnyH_r1 8 (by kernel_rfl) (one_app1 (enc:=encStr) (w0:=w) (z:=.string ⟨#[]⟩) (size:=1) (bytes:=16) (n:=m.Ground.Offers.length) (B:=B0) rfl (by kernel_rfl) (payOrder q) _ _ rfl Tryz.underlying30 (by kernel_rfl) rfl (by decide) (by decide) (by kernel_rfl) (by kernel_rfl) rfl (Own.to HT1.out.o3.own inferInstance) (blk_alloc _ _ _ rfl) rfl (encStr_one _) HLO.out (Nat.le_trans hBz LeN.out) inferInstance (by omega) ?_)
     intro sa sc xw hown hgr hblk
     obtain⟨hFr,hput⟩:=offer_app HT1.out hown hgr hblk (by have:=payOrder_size q;omega) inferInstance
     have hC1:Held xw.w y1.w.heap.size cs 90:=(Fr.keepsU hFr (by simp)).ofU _ _ _ (Nat.le_refl _) (HC.out.to inferInstance)
     have hX1:Held xw.w (w.heap.size+1) [.int .i64 q.Kind,.int .i64 q.At,.int .i64 q.A,.int .i64 q.B] 104:=blk_grown hgr (HXz.out.to inferInstance) (HT1.out.o3.own.lowNe (n:=m.Ground.Offers.length) (c2:=A.c3) (b:=w.heap.size+1) (by omega))
     have hR1:Held xw.w (w.heap.size+2) [.int .i64 0,.int .i64 0,.int .i64 0,.int .i64 0,.int .i64 0,.int .i64 0,.int .i64 0,.slice none 0 0,.int .i64 0,.int .i64 0,.int .i64 0,.int .i64 0,.int .i64 0,.int .i64 0,.slice none 0 0,.slice none 0 0,.slice none 0 0,.int .i64 0,.int .i64 0,.slice none 0 0,.int .i64 0,.int .i64 0,.bool false,.bool false,.int .i64 0,.int .i64 0,.bool false,.string ⟨#[]⟩,.int .i64 0,.slice none 0 0,.slice none 0 0,.slice none 0 0,.slice none 0 0,.int .i64 0,.bool false,.bool false,.int .i64 0,.int .i64 0,.slice none 0 0,.bool false,.slice none 0 0,.slice none 0 0,.slice none 0 0,.int .i64 0,.slice none 0 0,.slice none 0 0,.int .i64 0,.int .i64 0,.slice none 0 0,.int .i64 0,.int .i64 0,.string ⟨#[]⟩,.slice none 0 0,.int .i64 0,.slice none 0 0,.slice none 0 0,.int .i64 0,.slice none 0 0,.slice none 0 0,.slice none 0 0,.int .i64 0] 90:=blk_grown hgr (HRz.out.to inferInstance) (HT1.out.o3.own.lowNe (n:=m.Ground.Offers.length) (c2:=A.c3) (b:=w.heap.size+2) (by omega))
     have hB1:Held xw.w w.heap.size vs 90:=blk_grown hgr (HBz.out.to inferInstance) (HT1.out.o3.own.lowNe (n:=m.Ground.Offers.length) (c2:=A.c3) (b:=w.heap.size) (by omega))
     have hH1:Grows w xw.w∧Held xw.w (w.heap.size+1) [.int .i64 q.Kind,.int .i64 q.At,.int .i64 q.A,.int .i64 q.B] 104:=⟨inferInstance,hX1⟩
     refine⟨hH1,?_⟩
     (try simp only[Act.put]);(try simp only[List.setIfInBounds_toArray]);(try simp only[List.set_cons_succ]);(try simp only[List.set_cons_zero])
     refine wpAnyH_take (i:=9) (v:=?vgsc9) rfl (by kernel_rfl) (by kernel_rfl) (by kernel_rfl) (fun _ _ _ h=>hPK.out _ _ _ _ _ h) (Or.inl ⟨by rfl,?ygsc9⟩) (by assumption) ?rgsc9
     case ygsc9=>intro w hSw;clear hSw;go_simp;(try with_reducible rfl)
     (try simp only[Act.put]);(try simp only[List.setIfInBounds_toArray]);(try simp only[List.set_cons_succ]);(try simp only[List.set_cons_zero])
     refine wpAnyH_take (i:=10) (v:=?vgsc10) rfl (by kernel_rfl) (by kernel_rfl) (by kernel_rfl) (fun _ _ _ h=>hPK.out _ _ _ _ _ h) (Or.inl ⟨by rfl,?ygsc10⟩) (by assumption) ?rgsc10
     case ygsc10=>intro w hSw;clear hSw;go_simp;(try with_reducible rfl)
     (try simp only[Act.put]);(try simp only[List.setIfInBounds_toArray]);(try simp only[List.set_cons_succ]);(try simp only[List.set_cons_zero])
     refine wpAnyH_storeEnd 11 rfl (by kernel_rfl) (by kernel_rfl) (by kernel_rfl) _ _ _ rfl y1.w.heap.size 16 (by kernel_rfl) hC1 (us:=[(.slice sa (m.Ground.Offers.length+1) sc)]) (cs2:=cs.set 16 (.slice sa (m.Ground.Offers.length+1) sc)) (by kernel_rfl) (by kernel_rfl) rfl (by simp only[List.length_cons,List.length_nil];have:=HLcs.out;omega) rfl (w0:=w) inferInstance (by omega) ?_
     intro z hz hgz
     refine⟨⟨inferInstance,hX1.at hgz (by omega)⟩,?_⟩
     (try simp only[Act.put]);(try simp only[List.setIfInBounds_toArray]);(try simp only[List.set_cons_succ]);(try simp only[List.set_cons_zero])
     refine hKK.out _ _ _ ?_
     have hT2:=hput.box hgz (by rw[paint,if_pos (Nat.lt_of_lt_of_le HC.out.lt LeN.out),paint,if_neg (Nat.lt_irrefl _)]) (by omega) (by omega)
     have hR2:=hR1.at hgz (by omega);have hB2:=hB1.at hgz (by omega)
     clear hKK hPK hH
     go_wp2_with fail
     go_meet
     case rel=>exact⟨z,sa,sc,_,rfl,hz,hT2,hR2,hB2⟩
    ·refine one_build1 rfl (by kernel_rfl) _ _ rfl (z:=.string ⟨#[]⟩) Tryz.underlying30 (by kernel_rfl) (s0:=payOrder q) rfl ⟨inferInstance,HXz.out.to inferInstance⟩ ?_
     (try simp only[Act.put]);(try simp only[List.setIfInBounds_toArray]);(try simp only[List.set_cons_succ]);(try simp only[List.set_cons_zero])
     refine wpAnyH_r1 2 (by kernel_rfl) (one_load1 rfl (by kernel_rfl) _ _ rfl y1.w.heap.size 16 (by kernel_rfl) (HC.out.to inferInstance) (.slice A.a3 m.Ground.Offers.length A.c3) HCo.out _ Tryz.underlying30 rfl ⟨inferInstance,HXz.out.to inferInstance⟩ ?_)
     (try simp only[Act.put]);(try simp only[List.setIfInBounds_toArray]);(try simp only[List.set_cons_succ]);(try simp only[List.set_cons_zero])
     refine wpAnyH_r1 8 (by kernel_rfl) (one_app1 (enc:=encStr) (w0:=w) (z:=.string ⟨#[]⟩) (size:=1) (bytes:=16) (n:=m.Ground.Offers.length) (B:=B0) rfl (by kernel_rfl) (payOrder q) _ _ rfl Tryz.underlying30 (by kernel_rfl) rfl (by decide) (by decide) (by kernel_rfl) (by kernel_rfl) rfl (Own.to HT1.out.o3.own inferInstance) (blk_alloc _ _ _ rfl) rfl (encStr_one _) HLO.out (Nat.le_trans hBz LeN.out) inferInstance (by omega) ?_)
     intro sa sc xw hown hgr hblk
     obtain⟨hFr,hput⟩:=offer_app HT1.out hown hgr hblk (by have:=payOrder_size q;omega) inferInstance
     have hC1:Held xw.w y1.w.heap.size cs 90:=(Fr.keepsU hFr (by simp)).ofU _ _ _ (Nat.le_refl _) (HC.out.to inferInstance)
     have hX1:Held xw.w (w.heap.size+1) [.int .i64 q.Kind,.int .i64 q.At,.int .i64 q.A,.int .i64 q.B] 104:=blk_grown hgr (HXz.out.to inferInstance) (HT1.out.o3.own.lowNe (n:=m.Ground.Offers.length) (c2:=A.c3) (b:=w.heap.size+1) (by omega))
     have hR1:Held xw.w (w.heap.size+2) [.int .i64 0,.int .i64 0,.int .i64 0,.int .i64 0,.int .i64 0,.int .i64 0,.int .i64 0,.slice none 0 0,.int .i64 0,.int .i64 0,.int .i64 0,.int .i64 0,.int .i64 0,.int .i64 0,.slice none 0 0,.slice none 0 0,.slice none 0 0,.int .i64 0,.int .i64 0,.slice none 0 0,.int .i64 0,.int .i64 0,.bool false,.bool false,.int .i64 0,.int .i64 0,.bool false,.string ⟨#[]⟩,.int .i64 0,.slice none 0 0,.slice none 0 0,.slice none 0 0,.slice none 0 0,.int .i64 0,.bool false,.bool false,.int .i64 0,.int .i64 0,.slice none 0 0,.bool false,.slice none 0 0,.slice none 0 0,.slice none 0 0,.int .i64 0,.slice none 0 0,.slice none 0 0,.int .i64 0,.int .i64 0,.slice none 0 0,.int .i64 0,.int .i64 0,.string ⟨#[]⟩,.slice none 0 0,.int .i64 0,.slice none 0 0,.slice none 0 0,.int .i64 0,.slice none 0 0,.slice none 0 0,.slice none 0 0,.int .i64 0] 90:=blk_grown hgr (HRz.out.to inferInstance) (HT1.out.o3.own.lowNe (n:=m.Ground.Offers.length) (c2:=A.c3) (b:=w.heap.size+2) (by omega))
     have hB1:Held xw.w w.heap.size vs 90:=blk_grown hgr (HBz.out.to inferInstance) (HT1.out.o3.own.lowNe (n:=m.Ground.Offers.length) (c2:=A.c3) (b:=w.heap.size) (by omega))
     have hH1:Grows w xw.w∧Held xw.w (w.heap.size+1) [.int .i64 q.Kind,.int .i64 q.At,.int .i64 q.A,.int .i64 q.B] 104:=⟨inferInstance,hX1⟩
     refine⟨hH1,?_⟩
     (try simp only[Act.put]);(try simp only[List.setIfInBounds_toArray]);(try simp only[List.set_cons_succ]);(try simp only[List.set_cons_zero])
     refine wpAnyH_take (i:=9) (v:=?vgsd9) rfl (by kernel_rfl) (by kernel_rfl) (by kernel_rfl) (fun _ _ _ h=>hPK.out _ _ _ _ _ h) (Or.inl ⟨by rfl,?ygsd9⟩) (by assumption) ?rgsd9
     case ygsd9=>intro w hSw;clear hSw;go_simp;(try with_reducible rfl)
     (try simp only[Act.put]);(try simp only[List.setIfInBounds_toArray]);(try simp only[List.set_cons_succ]);(try simp only[List.set_cons_zero])
     refine wpAnyH_take (i:=10) (v:=?vgsd10) rfl (by kernel_rfl) (by kernel_rfl) (by kernel_rfl) (fun _ _ _ h=>hPK.out _ _ _ _ _ h) (Or.inl ⟨by rfl,?ygsd10⟩) (by assumption) ?rgsd10
     case ygsd10=>intro w hSw;clear hSw;go_simp;(try with_reducible rfl)
     (try simp only[Act.put]);(try simp only[List.setIfInBounds_toArray]);(try simp only[List.set_cons_succ]);(try simp only[List.set_cons_zero])
     refine wpAnyH_storeEnd 11 rfl (by kernel_rfl) (by kernel_rfl) (by kernel_rfl) _ _ _ rfl y1.w.heap.size 16 (by kernel_rfl) hC1 (us:=[(.slice sa (m.Ground.Offers.length+1) sc)]) (cs2:=cs.set 16 (.slice sa (m.Ground.Offers.length+1) sc)) (by kernel_rfl) (by kernel_rfl) rfl (by simp only[List.length_cons,List.length_nil];have:=HLcs.out;omega) rfl (w0:=w) inferInstance (by omega) ?_
     intro z hz hgz
     refine⟨⟨inferInstance,hX1.at hgz (by omega)⟩,?_⟩
     (try simp only[Act.put]);(try simp only[List.setIfInBounds_toArray]);(try simp only[List.set_cons_succ]);(try simp only[List.set_cons_zero])
     refine hKK.out _ _ _ ?_
     have hT2:=hput.box hgz (by rw[paint,if_pos (Nat.lt_of_lt_of_le HC.out.lt LeN.out),paint,if_neg (Nat.lt_irrefl _)]) (by omega) (by omega)
     have hR2:=hR1.at hgz (by omega);have hB2:=hB1.at hgz (by omega)
     clear hKK hPK hH
     go_wp2_with fail
     go_meet
     case rel=>exact⟨z,sa,sc,_,rfl,hz,hT2,hR2,hB2⟩
 case rest =>
  obtain⟨z,sa,sc,χ2,rfl,hC,hT,hR,hB⟩:=hcut
  obtain⟨ds,hds⟩:∃ ds,cs.set 16 (.slice sa (m.Ground.Offers.length+1) sc)=ds:=⟨_,rfl⟩
  have HO2:=lH (offer_cells HCS.out hT);rw[hds]at hC HO2
  have HLds:=lH (len_mission (EncO.toRd HO2.out));have HOds:=lH (one_mission (EncO.toRd HO2.out))
  have HCd:=lH hC;have hzL:LeN (w.heap.size+2+1) z.w.heap.size:=⟨by have:=HCd.out.lt;omega⟩;have HRd:=lH hR;have HBd:=lH hB;have HMd:=lH (Enc.keep HM.out (inferInstance:Keeps B w z.w));clear hC hT hR hB hds
  go_wp2_with (first|(refine stepLoad rfl _ _ rfl y1.w.heap.size 0 rfl (row:=ds) (HCd.out.to inferInstance) _ Tryz.underlying90 rfl (by rw[HLds.out];kernel_rfl) (by rw[List.drop_zero,List.take_length]) ?_))
  refine(c_sMissionOk (m:=offer m (payOrder q)) (EncO.toRd HO2.out) HT9.out).mono ?_
  rintro _ _ ⟨rfl,y2,rfl⟩
  cases hv:missionOk (offer m (payOrder q))
  ·have HV:=lH hv;clear hv
   go_wp2_with (first|(refine stepLoad rfl _ _ rfl w.heap.size 0 rfl (row:=vs) (HBd.out.to inferInstance) _ Tryz.underlying90 rfl (by rw[HL.out];kernel_rfl) (by rw[List.drop_zero,List.take_length]) ?_))
   refine(o_copyMission (x:=m) (Enc.keep HMd.out inferInstance) HT8.out).mono ?_
   rintro _ _ ⟨csc,χc,rfl,hOc,ycc,rfl⟩
   have HLcsc:=lH (len_mission (EncO.toRd hOc));have HOcsc:=lH (one_mission (EncO.toRd hOc));have HOc:=lH hOc;clear hOc
   have HG:=lH (show giveOrder m q=(m,false)by simp[giveOrder,HV.out])
   go_wp2_with (first|(refine stepStore2 rfl _ _ _ rfl (w.heap.size+2) 0 rfl (us:=csc) (cs2:=csc) (HRd.out.to inferInstance) ?a9c1 ?a9c2 ?a9c3 ?a9c4 ?a9c5 (w0:=w) inferInstance (by simp) ?_;(case a9c1=>rfl);(case a9c2=>(rw[HLcsc.out];kernel_rfl));(case a9c3=>exact HOcsc.out);(case a9c4=>(rw[HLcsc.out];exact Nat.le_of_ble_eq_true rfl));(case a9c5=>exact splice_all HLcsc.out);intro z9c hx kx;have HX9c:=lH hx;clear hx;have KX9c:=lH kx;clear kx))
   refine bodyPost_ret (v:=.tuple #[.agg csc.toArray,.bool false]) (results_cell2 (P:=Tryz.prog) rfl rfl HX9c.out _ Tryz.underlying90 rfl (by rw[HLcsc.out];kernel_rfl) rfl) rfl ⟨csc,χc,by rw[HG.out],?_,Later.of⟩
   rw[HG.out]
   refine om_mono (om_keep (om_to HOc.out ?gc) (KX9c.out.above.more ?lc)) ?mc
   case gc=>infer_instance
   case lc=>exact LeN.out
   case mc=>exact LeN.out
  ·have HV:=lH hv;clear hv
   have HG:=lH (show giveOrder m q=(offer m (payOrder q),true)by simp[giveOrder,HV1.out,HV2.out,HV.out])
   go_wp2_with (first|(refine stepLoad rfl _ _ rfl y1.w.heap.size 0 rfl (row:=ds) (HCd.out.to inferInstance) _ Tryz.underlying90 rfl (by rw[HLds.out];kernel_rfl) (by rw[List.drop_zero,List.take_length]) ?_)|(refine stepStore2 rfl _ _ _ rfl (w.heap.size+2) 0 rfl (us:=ds) (cs2:=ds) (HRd.out.to inferInstance) ?a9e1 ?a9e2 ?a9e3 ?a9e4 ?a9e5 (w0:=w) inferInstance (by simp) ?_;(case a9e1=>rfl);(case a9e2=>(rw[HLds.out];kernel_rfl));(case a9e3=>exact HOds.out);(case a9e4=>(rw[HLds.out];exact Nat.le_of_ble_eq_true rfl));(case a9e5=>exact splice_all HLds.out);intro z9e hx kx;have HX9e:=lH hx;clear hx;have KX9e:=lH kx;clear kx))
   refine bodyPost_ret (v:=.tuple #[.agg ds.toArray,.bool true]) (results_cell2 (P:=Tryz.prog) rfl rfl HX9e.out _ Tryz.underlying90 rfl (by rw[HLds.out];kernel_rfl) rfl) rfl ⟨ds,χ2,by rw[HG.out],?_,Later.of⟩
   rw[HG.out]
   refine om_mono (om_keep (om_to HO2.out ?ge) (KX9e.out.above.more ?le)) ?me
   case ge=>infer_instance
   case le=>exact(show w.heap.size+2+1≤B0 by omega)
   case me=>exact(by omega)
end Go.Proofs.YtdinhfeflobafaaGreat
