/- SendUp of both sides. No condition but on sizes. -/
import Derived.Test.YthbepablpaldgaaGreatSSdS
import Derived.Test.YthbepablpaldgaaGreatSM47
import Derived.Test.YthbepablpaldgaaGreatSDOf
import Derived.Test.YthbepablpaldgaaGreatSM0
namespace Go.Proofs.YthbepablpaldgaaGreat
set_option maxRecDepth 100000
set_option maxHeartbeats 4000000
set_option linter.unusedVariables false
open Go.ChangeShapes Go.WideShapes Go.ChangeAt Go.RowKit
private abbrev u60:=Tryz.underlying60
private abbrev u90:=Tryz.underlying90
theorem o_iSendUpW{B:Nat}{vs:List Value}{m:TMission}{w:World}(h:Enc.Rd B w vs m)(ht:Enc.tot m≤4000000):Calls Tryz.prog 13 #[.agg vs.toArray] w (GivesO w (sendUp m)):=o_iSendUp h (by omega) (by omega)
theorem o_sSendUpW{B:Nat}{vs:List Value}{m:TMission}{w:World}(h:Enc.Rd B w vs m)(ht:Enc.tot m≤4000000):Calls Tryz.prog 12 #[.agg vs.toArray] w (GivesO w (sendUp m)):=o_sSendUp5 h (by omega) (by omega)
theorem c_lFnExactSendUp{vs:List Value}{m:TMission}{w:World}(hm:Enc.Rd 0 w vs m) :
  Calls Tryz.prog 4 #[.agg vs.toArray] w (Gives w (.bool true)):=by
 have HL:=lH (len_mission hm)
 have HM:=lH hm;clear hm
 have HB:=lH (Held.new w vs 60 w.heap.size rfl)
 by_cases ht:(1048576:Int) - Enc.tot m<0
 ·have HSZ:=lH (szD_neg ht);clear ht
  go_enter Tryz.func4,Tryz.ntmps4
  go_wp2_with (first|((with_reducible refine rl ?_);refine rq ?_;intro x)|(refine sL rfl _ _ rfl w.heap.size rfl HB ii u60 HL ?_))
  refine gm (d_lszMission (x:=m) (Enc.keep HM.out ii) (by omega) (by omega)) ?_
  intro y0
  rw[HSZ.out]
  go_wp2_with (first|((with_reducible refine rl ?_);refine rq ?_;intro x))
  go_ret
  exact Gives.mk rfl
 have HSZ:=lH (szD_pos ht)
 have hle:0≤(1048576:Int) - Enc.tot m:=by omega
 have HT:=lH (show Enc.tot m≤1048576 by omega)
 have HT8:=lH (show Enc.tot m≤100000000 by omega)
 have HTS:=lH (show Enc.tot m≤4000000 by omega)
 clear ht
 have HTF:=lH (show Enc.tot (sendUp m)≤100000000 from by have h1:=sendUp_tot m;have h2:=HT.out;omega)
 obtain⟨fm,hfm⟩:∃ fm,sendUp m=fm:=⟨_,rfl⟩
 have HF:=lH hfm;clear hfm
 rw[HF.out]at HTF
 obtain⟨K,hK⟩:∃ K,mnMMission fm 1=K:=⟨_,rfl⟩
 have hKb:=mnMMission_le fm 1
 rw[hK]at hKb
 have hK1:1≤K:=hKb.1
 have hK2:¬ K<0:=by omega
 have HK:=lH hK;clear hK hKb
 obtain⟨J,hJ⟩:∃ J,mnMMission m 1=J:=⟨_,rfl⟩
 have hJb:=mnMMission_le m 1
 rw[hJ]at hJb
 have hJ1:1≤J:=hJb.1
 have hJ2:¬ J<0:=by omega
 have HJ:=lH hJ;clear hJ hJb
 have kb:(K != K)=false:=by simp
 go_enter Tryz.func4,Tryz.ntmps4
 go_wp2_with (first|((with_reducible refine rl ?_);refine rq ?_;intro x)|(refine sL rfl _ _ rfl w.heap.size rfl HB ii u60 HL ?_))
 refine gm (d_lszMission (x:=m) (Enc.keep HM.out ii) (by omega) (by omega)) ?_
 intro y0
 rw[HSZ.out]
 go_wp2_with (first|((with_reducible refine rl ?_);refine rq ?_;intro x)|(refine sL rfl _ _ rfl w.heap.size rfl HB ii u60 HL ?_))
 refine(dl_toMission (x:=m) (Enc.keep HM.out ii) HT.out).mono ?_
 rintro _ _ ⟨os,rfl,hR1,y1,rfl⟩
 have HR1:=lH hR1;clear hR1
 go_wp2_with (first|((with_reducible refine rl ?_);refine rq ?_;intro x))
 refine(o_sSendUpW (m:=m) HR1.out HTS.out).mono ?_
 rintro _ _ ⟨ws,χw,rfl,hW,y2,rfl⟩
 rw[HF.out]at hW
 have HLW:=lH (len_mission (EncO.toRd hW))
 have HOW:=lH (one_mission (EncO.toRd hW))
 have HW0:=lH (Enc.mono (EncO.toRd hW) (Nat.zero_le _));clear hW HR1
 go_wp2_with (first|((with_reducible refine rl ?_);refine rq ?_;intro x)|(refine sW rfl _ _ _ rfl _ rfl (us:=ws) (Held.new _ zMission 90 _ rfl) HLW HOW (w0:=(w.alloc (.cells vs.toArray 60))) ii LeN.out ?_;intro z1 HX1 KX1)|(refine sL rfl _ _ rfl w.heap.size rfl HB ii u60 HL ?_))
 have HW1:=lH (Enc.keep HW0.out (KX1.out.under ii nl));clear HW0 KX1
 have HWb1:=lH HX1.out;clear HX1
 have HB1:=lH (HB.out.to (ii:Grows _ z1.w))
 have HM1:=lH (Enc.keep HM.out (ii:Keeps _ _ z1.w));clear HB HM
 refine(o_ltoMission (x:=m) (Enc.keep HM1.out ii) HT.out).mono ?_
 rintro _ _ ⟨xs,χx,rfl,hX,y3,rfl⟩
 have HLX:=lH (len_mission (EncO.toRd hX))
 have HOX:=lH (one_mission (EncO.toRd hX))
 have HX0:=lH (om_old hX nl);clear hX
 go_wp2_with (first|((with_reducible refine rl ?_);refine rq ?_;intro x)|(refine sW rfl _ _ _ rfl _ rfl (us:=xs) (Held.new _ zMission 90 _ rfl) HLX HOX (w0:=(w.alloc (.cells vs.toArray 60))) ii LeN.out ?_;intro z2 HX2 KX2)|(refine sL rfl _ _ rfl _ rfl HX2 ii u90 HLX ?_))
 have HG12:=lH (growsOf z1 z2 (KX2.out.under ii y3.size_le))
 have HXO2:=lH (om_keep HX0.out (KX2.out.under ii nl));clear HX0 KX2
 have HWb2:=lH (HWb1.out.to HG12.out)
 have HU2:=lH (show y3.w.heap.size≤z2.w.heap.size from Nat.le_of_lt HX2.out.lt)
 refine(o_iSendUpW (m:=m) (EncO.toRd HXO2.out) HTS.out).mono ?_
 rintro _ _ ⟨gs,χg,rfl,hG,y4,rfl⟩
 rw[HF.out]at hG
 have HLG:=lH (len_mission (EncO.toRd hG))
 have HOG:=lH (one_mission (EncO.toRd hG))
 have HG0:=lH (om_old hG nl);clear hG
 go_wp2_with (first|((with_reducible refine rl ?_);refine rq ?_;intro x)|(refine sW rfl _ _ _ rfl _ rfl (us:=gs) (Held.new _ zMission 90 _ rfl) HLG HOG (w0:=(w.alloc (.cells vs.toArray 60))) ii LeN.out ?_;intro z3 HX3 KX3)|(refine sL rfl _ _ rfl _ rfl HX3 ii u90 HLG ?_)|(refine stepLoad rfl _ _ rfl _ 0 rfl (row:=ws) ((HWb2.out.past ii KX3.out y4.size_le).to ii) _ u90 rfl (by rw[HLW.out];kernel_rfl) dt ?_))
 have HG23:=lH (growsOf z2 z3 (KX3.out.under ii y4.size_le))
 have HGO3:=lH (om_keep HG0.out (KX3.out.under ii nl));clear HG0 KX3
 have HG13:=lH (growsTr HG12.out HG23.out)
 have HW3:=lH (Enc.keep HW1.out (@Keeps.grows 0 _ _ HG13.out))
 have HUg:=lH (show y4.w.heap.size≤z3.w.heap.size from Nat.le_of_lt HX3.out.lt)
 refine gm (d_leqMission (x:=fm) (EncO.toRd HGO3.out) HW3.out) ?_
 intro y5
 go_wp2_with (first|((with_reducible refine rl ?_);refine rq ?_;intro x))
 have HGV:=lH (ii:Grows z3.w (z3.andThen y5).w)
 obtain⟨V,hV⟩:∃ V:Later (w.alloc (.cells vs.toArray 60)),(z3.andThen y5).w=V.w:=⟨_,rfl⟩
 rw[hV]at HGV ⊢
 clear hV
 have HG1V:=lH (growsTr HG13.out HGV.out);have HG2V:=lH (growsTr HG23.out HGV.out)
 have HBV:=lH (HB1.out.to HG1V.out);have HMV:=lH (Enc.keep HM1.out (@Keeps.grows 0 _ _ HG1V.out))
 have HXV:=lH (HX2.out.to HG2V.out);have HXOV:=lH (om_to HXO2.out HG2V.out)
 have HGbV:=lH (HX3.out.to HGV.out);have HGOV:=lH (om_to HGO3.out HGV.out)
 refine wp_region_held_drew (S:=fun W=>Below V.w.heap.size V.w W) kr (Below.refl _ _).drew (fun hH=>?_)
 refine wpAnyH_take (i:=0) (v:=_) rfl kr kr kr (fun _ _ _ h=>h) (yieldsIf_load_mid (by rfl) _ _ rfl _ _ rfl xs _ (fun W hW=>(HXV.out.to ⟨hW⟩).range (n:=xs.length) dt) u90 rfl (by rw[HLX.out];kernel_rfl)) (by assumption) ?_
 (try simp only[nrm])
 refine wpAnyH_take (i:=1) (v:=_) rfl kr kr kr (fun _ _ _ h=>h) (yieldsIf_load_mid (by rfl) _ _ rfl _ _ rfl vs _ (fun W hW=>(HBV.out.to ⟨hW⟩).range (n:=vs.length) dt) u60 rfl (by rw[HL.out];kernel_rfl)) (by assumption) ?_
 (try simp only[nrm])
 refine wpAnyH_ready (rs:=[2]) kr (by simp) ?_
 refine AllReadyH.cons rfl (fun K2 hQ=>?_) AllReadyH.nil
 refine step_call rfl (f:=7) rfl Tryz.func7 kr kr [.agg vs.toArray] rfl ((dl_toMission (x:=m) (Enc.keep HMV.out ⟨hH.size,fun b _ h2=>hH.block b h2⟩) HT.out).mono ?_)
 rintro _ _ ⟨qs,rfl,hR3,y6,rfl⟩
 refine⟨_,rfl,hQ.out _ _ (hH.trans (y6.h.mono hH.size)) (fun hH2=>?_)⟩
 (try simp only[nrm])
 clear hQ K2
 refine wpAnyH_ready (rs:=[3]) kr (by simp) ?_
 refine AllReadyH.cons rfl (fun K2 hQ=>?_) AllReadyH.nil
 refine step_call rfl (f:=9) rfl Tryz.func9 kr kr [.agg xs.toArray,.agg qs.toArray] rfl ((d_leqMission (x:=m) (Enc.keep (EncO.toRd HXOV.out) ⟨hH2.size,fun b _ h2=>hH2.block b h2⟩) hR3).mono ?_)
 rintro _ _ ⟨rfl,y7,rfl⟩
 refine⟨_,rfl,hQ.out _ _ (hH2.trans (y7.h.mono hH2.size)) (fun hH3=>?_)⟩
 (try simp only[nrm])
 clear hQ K2
 have HGZ:=lH (show Grows V.w y7.w from⟨hH3⟩)
 obtain⟨Z,hZ⟩:∃ Z:Later (w.alloc (.cells vs.toArray 60)),y7.w=Z.w:=Later.ofG (growsTr (ii:Grows _ V.w) HGZ.out)
 rw[hZ]at hH3 HGZ ⊢
 refine wpAnyH_ready (rs:=[4]) kr (by simp) ?_
 refine AllReadyH.cons rfl (fun K2 hQ=>?_) AllReadyH.nil
 go_simp
 refine hQ.out _ _ hH3 (fun hH4=>?_)
 clear hQ K2
 refine wpAnyH_done kr ?_ _
 clear hH hH2 hH3 hH4 hR3 hZ
 have HG1Z:=lH (growsTr HG1V.out HGZ.out);have HG2Z:=lH (growsTr HG2V.out HGZ.out)
 have HXZ:=lH (HXV.out.to HGZ.out);have HXOZ:=lH (om_to HXOV.out HGZ.out)
 have HGbZ:=lH (HGbV.out.to HGZ.out);have HGOZ:=lH (om_to HGOV.out HGZ.out)
 clear HGV HG1V HG2V HBV HMV HXV HXOV HGbV HGOV
 go_wp2_with (first|((with_reducible refine rl ?_);refine rq ?_;intro x)|(refine sL rfl _ _ rfl _ rfl HXZ ii u90 HLX ?_))
 refine(o_markM (k:=1) HXOZ.out (freshU (Nat.le_of_lt HXZ.out.lt)) HG1Z.out.out.size HT8.out (by omega) (by omega)).mono ?_
 intro e5 Z5 hq5
 obtain⟨he,-,hF⟩:=hq5
 obtain rfl:e5=.returned (.int .i64 J):=he.trans (by rw[HJ.out])
 have HG5:=lH (hF.below HG1Z.out nl)
 have HK5:=lH (hF.keepsU (Rng.out (.inr (by decide))));clear he hF
 obtain⟨V5,rfl⟩:∃ x:Later (w.alloc (.cells vs.toArray 60)),Z5=x.w:=Later.ofG (growsTr (ii:Grows _ z1.w) HG5.out)
 have HW5:=lH (Enc.keep HW1.out (@Keeps.grows 0 _ _ HG5.out));have HWb5:=lH (HWb1.out.to HG5.out)
 have HUb:=lH (show y3.w.heap.size≤(z2.andThen y4).w.heap.size from Nat.le_trans HU2.out y4.size_le)
 have HGb5:=lH (HK5.out.ofU _ _ _ HUb.out HGbZ.out);have HGO5:=lH (om_keep HGOZ.out (HK5.out.more HU2.out))
 go_wp2_with (first|((with_reducible refine rl ?_);refine rq ?_;intro x)|(refine stepLoadG (by go_simp) _ _ rfl _ 0 rfl (row:=gs) (HGb5.out.to ii) _ u90 rfl (by rw[HLG.out];kernel_rfl) dt ?_)|(refine stepLoadG (by go_simp) _ _ rfl _ 0 rfl (row:=ws) (HWb5.out.to ii) _ u90 rfl (by rw[HLW.out];kernel_rfl) dt ?_))
 refine gm (d_leqMission (x:=fm) (EncO.toRd HGO5.out) HW5.out) ?_
 intro y8
 go_wp2_with (first|((with_reducible refine rl ?_);refine rq ?_;intro x)|(refine sL rfl _ _ rfl _ rfl HGb5 ii u90 HLG ?_))
 have HGb7:=lH (HGb5.out.to (ii:Grows _ (V5.andThen y8).w))
 refine(o_markM (k:=1) (om_to HGO5.out ii) (freshU (Nat.le_of_lt HGb7.out.lt)) (Nat.le_trans y4.size_le (Nat.le_of_lt HGb7.out.lt)) HTF.out (by omega) (by omega)).mono ?_
 intro e6 Z6 hq6
 obtain⟨he,hO6,hF⟩:=hq6
 obtain rfl:e6=.returned (.int .i64 K):=he.trans (by rw[HK.out])
 have HG6:=lH (hF.below (growsTr HG5.out (ii:Grows _ (V5.andThen y8).w)) HG12.out.out.size)
 have HK6:=lH (hF.keepsU (Rng.out (.inr (by decide))));have HGO6:=lH hO6;clear he hF hO6
 obtain⟨V6,rfl⟩:∃ x:Later (w.alloc (.cells vs.toArray 60)),Z6=x.w:=Later.ofG (growsTr (ii:Grows _ z1.w) HG6.out)
 have HB6:=lH (HB1.out.to HG6.out);have HM6:=lH (Enc.keep HM1.out (@Keeps.grows 0 _ _ HG6.out))
 have HW6:=lH (Enc.keep HW1.out (@Keeps.grows 0 _ _ HG6.out));have HWb6:=lH (HWb1.out.to HG6.out)
 have HGb6:=lH (HK6.out.ofU _ _ _ nl HGb7.out)
 go_wp2_with (first|((with_reducible refine rl ?_);refine rq ?_;intro x)|(refine sL rfl _ _ rfl _ rfl HGb6 ii u90 HLG ?_))
 refine(o_heldM (k:=1) (EncO.toRd HGO6.out) HTF.out (by omega) (by omega)).mono ?_
 intro e7 Z7 hq7
 obtain⟨he,y9,hw⟩:=hq7
 obtain rfl:e7=.returned (.int .i64 K):=he.trans (by rw[HK.out])
 clear he;subst hw
 go_wp2_with (first|((with_reducible refine rl ?_);(repeat(first|go_big_quiet_step (first|fail)|simp only[kb]));refine wpQuiet_nil ?_;intro x)|(refine sL rfl _ _ rfl w.heap.size rfl HB6 ii u60 HL ?_))
 refine(dl_toMission (x:=m) (Enc.keep HM6.out ii) HT.out).mono ?_
 rintro _ _ ⟨os2,rfl,hR4,y10,rfl⟩
 have HR4:=lH hR4;clear hR4
 go_wp2_with (first|((with_reducible refine rl ?_);refine rq ?_;intro x))
 refine(o_iSendUpW (m:=m) HR4.out HTS.out).mono ?_
 rintro _ _ ⟨hs,χh,rfl,hH,y11,rfl⟩
 rw[HF.out]at hH
 have HLH:=lH (len_mission (EncO.toRd hH))
 have HOH:=lH (one_mission (EncO.toRd hH))
 have HH0:=lH (Enc.mono (EncO.toRd hH) (Nat.zero_le _));clear hH HR4
 go_wp2_with (first|((with_reducible refine rl ?_);refine rq ?_;intro x)|(refine sW rfl _ _ _ rfl _ rfl (us:=hs) (Held.new _ zMission 90 _ rfl) HLH HOH (w0:=(w.alloc (.cells vs.toArray 60))) ii LeN.out ?_;intro z4 HX4 KX4)|(refine sL rfl _ _ rfl _ rfl HX4 ii u90 HLH ?_)|(refine stepLoad rfl _ _ rfl _ 0 rfl (row:=ws) ((HWb6.out.past ii KX4.out LeN.out).to ii) _ u90 rfl (by rw[HLW.out];kernel_rfl) dt ?_))
 have HH4:=lH (Enc.keep HH0.out (KX4.out.under ii nl));clear HH0
 have HW4:=lH (Enc.keep HW6.out (KX4.out.under (ii:Keeps 0 V6.w _) LeN.out))
 have HGb4:=lH (HGb6.out.past (ii:Keeps 0 V6.w _) KX4.out LeN.out)
 have HGR4:=lH (Enc.keep (Enc.mono (EncO.toRd HGO6.out) (Nat.zero_le _)) (KX4.out.under (ii:Keeps 0 V6.w _) LeN.out))
 refine gm (d_leqMission (x:=fm) HH4.out HW4.out) ?_
 intro y12
 go_wp2_with (first|((with_reducible refine rl ?_);refine rq ?_;intro x)|(refine sL rfl _ _ rfl _ rfl HGb4 ii u90 HLG ?_))
 refine(o_heldM (k:=1) (Enc.keep HGR4.out ii) HTF.out (by omega) (by omega)).mono ?_
 intro e8 Z8 hq8
 obtain⟨he,y13,hw⟩:=hq8
 obtain rfl:e8=.returned (.int .i64 K):=he.trans (by rw[HK.out])
 clear he;subst hw
 go_wp2_with (first|((with_reducible refine rl ?_);(repeat(first|go_big_quiet_step (first|fail)|simp only[kb]));refine wpQuiet_nil ?_;intro x))
 go_ret
 exact Gives.mk rfl
theorem FnExactSendUp_lifted(os:Os)(started:os.Started)(H:Type)(enc:TypeId × Value→H) :
  ReturnsInHanded {} Tryz.checked os 4 .any (Rows.fnExactSendUpSpec.pre6 enc Tryz.prog Tryz.f4 Rows.fnExactSendUpRow.domain false) (Rows.fnExactSendUpSpec.post enc Tryz.prog Tryz.f4 false true false false):=by
 refine returnsInHanded_of_change (C:=Tryz.checked) own started kr Tryz.func4
  (ChangeSpec.witness6 (enc:=enc) (C:=Tryz.checked) false ⟨#[],#[.agg zMission.toArray],[]⟩ 8 kr kr kr kr) ?_
 intro W base args ds gs before hval0 hW hcnd _
 have hval:∀ (j:Nat) t v,Tryz.f4.params[j]?=some t→args[j]?=some v→Value.okWide Tryz.prog W .any base t v:=hval0
 have hW':=hW
 obtain⟨p,q,hA0,hV,rfl,hfz,hnd⟩:=hW
 have hA:DataW.TrodAll enc Tryz.prog W 0 (fun _=>true) true Tryz.f4.params.toList args.toList ds p:=hA0
 rw[Tryz.params4]at hA hval
 obtain⟨rfl,rfl⟩:=trodVars_none hV
 obtain⟨v0,vs0,d0,ds0,p0,q0,hargs,rfl,rfl,h0,r0⟩:=trodAll_cons hA
 obtain⟨rfl,rfl,rfl⟩:=trodAll_nil r0
 obtain rfl:args=#[v0]:=by cases args;simp_all
 obtain⟨cb0,rfl,hcz0⟩:=okWide_struct u60 (hval 0 60 v0 rfl rfl)
 obtain⟨ca0,rfl⟩:∃ ca:List Value,cb0=ca.toArray:=⟨cb0.toList,by simp⟩
 obtain⟨f0,t0⟩:=h0
 obtain⟨hl0,rd0⟩:=codes_sound 10 _ _ _ _ _ (show codes Tryz.prog 10 60=some [.int,.int,.int,.int,.int,.int,.int,.sl [.int,.int],.int,.int,.int,.int,.int,.int,.sl [.int,.str],.sl [.int,.str],.sl [.str],.int,.int,.sl [.int,.str],.int,.int,.bool,.bool,.int,.int,.bool,.str,.int,.sl [.int,.int],.sl [.int,.int,.int,.str],.sl [.int,.int,.int,.sl [.str]],.sl [.bool],.int,.bool,.bool,.int,.int,.sl [.int],.bool,.sl [.int,.int,.int],.sl [.int,.int,.int,.int,.int],.sl [.int,.int,.int],.int,.sl [.int,.int,.int,.str],.sl [.int],.int,.int,.sl [.int],.int,.int,.str,.sl [.int],.int,.sl [.str],.sl [.int,.str,.sl [.int],.bool],.int,.sl [.int,.int,.int,.str],.sl [.str],.sl [.str],.int]by kernel_rfl) t0
 obtain⟨x0,hx0⟩:=ofTMission _ hl0 rd0
 clear hA0 hval0
 refine(Gives.below (c_lFnExactSendUp hx0)).mono fun e W' ⟨he,hb⟩=>?_
 subst he
 exact⟨_,rfl,law_post laidOut kr rfl rfl rfl Tryz.underlying4 hW' hb⟩
