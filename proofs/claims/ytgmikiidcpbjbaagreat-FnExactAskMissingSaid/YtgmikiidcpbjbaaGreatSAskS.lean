/- AskMissing of the reference. No condition but on sizes. -/
import Derived.Test.YtgmikiidcpbjbaaGreatSM48
import Derived.Test.YtgmikiidcpbjbaaGreatSAskI
import Derived.Test.YtgmikiidcpbjbaaGreatSM21
import Derived.Test.YtgmikiidcpbjbaaGreatSM46
namespace Go.Proofs.YtgmikiidcpbjbaaGreat
set_option linter.unusedVariables false
open Go.ChangeShapes Go.WideShapes Go.ChangeAt Go.RowKit
theorem whole_miss{f:TFileIn}(h:wholeF f=true):missL f.File f.Size f.Check f.Parts=[]:=by
 simp only[wholeF,textIs,Bool.and_eq_true]at h
 unfold missL
 split
 ·exact(missGo_none _ 0 19).2 h.2.2.1
 ·rfl
theorem askStep_at(k j:Nat)(f:TFileIn)(s:List ByteArray × List Bool)(h:k≠j):(askStep k f s).2.getD j false=s.2.getD j false:=by
 unfold askStep
 split
 ·simp[List.getD_eq_getElem?_getD,List.getElem?_set_ne h]
 ·split<;>rfl
theorem askFrom_at(j:Nat):∀ (l:List TFileIn) (k:Nat) (s:List ByteArray × List Bool),k+l.length≤j→(askFrom k l s).2.getD j false=s.2.getD j false
 | [],_,_,_=>rfl
 | f::r,k,s,h=>by
  rw[List.length_cons]at h
  rw[askFrom,askFrom_at j r (k+1) _ (by omega),askStep_at k j f s (by omega)]
theorem askSt_at(m:TMission)(k:Nat):(askSt m k).2.getD k false=m.Ground.Told.getD k false:=askFrom_at k _ 0 _ (by simp;omega)
theorem ask_tell2{m:TMission}{k:Nat}{f:TFileIn}{wf b:Bool}{r:List TFileIn}(hd:m.Ground.Files.drop k=f::r)(hw:wholeF f=wf)(hb:m.Ground.Told.getD k false=b)(h:(!b && wf)=true):tellM m (askSt m (k+1))=fGOffers.set (fGTold.set (tellM m (askSt m k)) ((askSt m k).2.set k true)) ((askSt m k).1++[wordN 1 1++encMiss k (missL f.File f.Size f.Check f.Parts)]):=by
 have hwf:wf=true:=by cases wf<;>simp_all
 rw[ask_tell hd hw ((askSt_at m k).trans hb) (by rw[Bool.and_comm];exact h),whole_miss (hw.trans hwf)];rfl
set_option maxRecDepth 100000 in
set_option maxHeartbeats 4000000 in
theorem o_sAskMissing{B:Nat}{vs:List Value}{m:TMission}{w:World}(h:Enc.Rd B w vs m)(ht:Enc.tot m≤4000000) :
  Calls Tryz.prog 16 #[.agg vs.toArray] w (GivesO w (askMissing m)):=by
 have HL:=lH (len_mission h)
 have HM:=lH h
 obtain⟨Am,hvs,hF⟩:=h
 have HFm:=lH hF;clear hF
 have HV7:=lH (show vs[31]?=some (.slice Am.a7 m.Ground.Files.length Am.c7)by rw[hvs];rfl)
 have HV8:=lH (show vs[32]?=some (.slice Am.a8 m.Ground.Told.length Am.c8)by rw[hvs];rfl)
 have HV0:=lH (show vs[0]?=some (.int .i64 m.Time)by rw[hvs];rfl)
 have HV3:=lH (show vs[16]?=some (.slice Am.a3 m.Ground.Offers.length Am.c3)by rw[hvs];rfl)
 have HV4:=lH (show vs[19]?=some (.slice Am.a4 m.Ground.Sender.Waiting.length Am.c4)by rw[hvs];rfl)
 clear hvs
 have HT8:=lH (show Enc.tot m≤100000000 by omega)
 have HT4:=lH ht;clear ht
 have HB:=lH ((Held.new w vs 90 w.heap.size rfl).to (inferInstance:Grows _ ((w.alloc (.cells vs.toArray 90)).alloc (.cells zMission.toArray 90))))
 have HR:=lH (Held.new (w.alloc (.cells vs.toArray 90)) zMission 90 (w.heap.size+1) (by simp))
 go_enter Tryz.func16,Tryz.ntmps16
 go_wp2_with (first|((with_reducible refine wp_region_later (by kernel_rfl) (by kernel_rfl) ?_);(repeat(first|go_big_quiet_step (first|fail)));refine wpQuiet_nil ?_;rintro _ ⟨x,rfl⟩)|(refine stepLoad rfl _ (.tmp 1) rfl (w.heap.size) 0 (by kernel_rfl) (row:=vs) (HB.out.to inferInstance) _ Tryz.underlying90 rfl (by rw[HL.out];kernel_rfl) (by rw[List.drop_zero,List.take_length]) ?_))
 refine(o_copyMission (x:=m) (Enc.keep HM.out inferInstance) HT8.out).mono ?_
 rintro _ _ ⟨cs,χ,rfl,hO,y1,rfl⟩
 have HLcs:=lH (len_mission (EncO.toRd hO));have HOcs:=lH (one_mission (EncO.toRd hO));have HOo:=lH hO;clear hO
 go_upto_region 2 with(first|(refine stepStore2 rfl _ (.tmp 3) _ rfl (y1.w.heap.size) 0 (by kernel_rfl) (us:=cs) (cs2:=cs) (Held.new _ zMission 90 _ rfl) ?a11 ?a12 ?a13 ?a14 ?a15 (w0:=((w.alloc (.cells vs.toArray 90)).alloc (.cells zMission.toArray 90))) inferInstance (LeN.out) ?_;(case a11=>kernel_rfl);(case a12=>(rw[HLcs.out];kernel_rfl));(case a13=>exact HOcs.out);(case a14=>(rw[HLcs.out];exact Nat.le_of_ble_eq_true rfl));(case a15=>exact splice_all (by rw[HLcs.out];rfl));intro z1 hx kx;have HX1:=lH hx;clear hx;have KX1:=lH kx;clear kx)|(refine stepLoad rfl _ (.tmp 1) rfl (w.heap.size) 0 (by kernel_rfl) (row:=vs) (HB.out.to inferInstance) _ Tryz.underlying90 rfl (by rw[HL.out];kernel_rfl) (by rw[List.drop_zero,List.take_length]) ?_))
 obtain⟨A,rfl,hMB⟩:=MB.of HOo.out (KX1.out.under inferInstance (Nat.le_refl _)) y1.size_le HX1.out
 obtain⟨B0,hB2,hB0,hMB⟩:∃ B0,((w.alloc (.cells vs.toArray 90)).alloc (.cells zMission.toArray 90)).heap.size≤B0∧w.heap.size+2≤B0∧MB (fun _=>False) B0 y1.w.heap.size z1.w A m:=⟨_,Nat.le_refl _,LeN.out,hMB⟩
 have HMB:=lH hMB
 clear hMB HX1 KX1 HOo HLcs HOcs
 (try simp only[Act.put])
 go_cut [33]from 8 (fun s1 wx=>s1=.bool (!askNow m)∧∃ y:Later z1.w,wx=y.w)
 case first =>
  go_wp2_with (first|((with_reducible refine wp_region_later (by kernel_rfl) (by kernel_rfl) ?_);(repeat(first|go_big_quiet_step (first|fail)));refine wpQuiet_nil ?_;rintro _ ⟨x,rfl⟩)|(refine stepLoad rfl _ (.tmp 1) rfl (w.heap.size) 0 (by kernel_rfl) (row:=vs) (HB.out.to inferInstance) _ Tryz.underlying90 rfl (by rw[HL.out];kernel_rfl) (by rw[List.drop_zero,List.take_length]) ?_))
  refine(c_sMissionOk (m:=m) (Enc.keep HM.out inferInstance) HT8.out).mono ?_
  rintro _ _ ⟨rfl,y0,rfl⟩
  rcases ask_cases m with⟨hn,⟨g1,g2,g3,g4⟩|⟨g1,g2,g3,g4⟩|⟨g1,g2,g3,g4⟩|⟨g1,g2,g3,g4⟩⟩|⟨hn,g1,g2,g3,g4⟩
  ·rw[g1]
   go_wp2_with (first|((with_reducible refine wp_region_later (by kernel_rfl) (by kernel_rfl) ?_);(repeat(first|go_big_quiet_step (first|fail)|simp only[g1]|simp only[g2]|simp only[g3]|simp only[g4]));refine wpQuiet_nil ?_;rintro _ ⟨x,rfl⟩))
   go_meet
   case rel=>exact⟨by rw[hn];rfl,y0,rfl⟩
  ·rw[g1]
   go_wp2_with (first|((with_reducible refine wp_region_later (by kernel_rfl) (by kernel_rfl) ?_);(repeat(first|go_big_quiet_step (first|fail)|simp only[g1]|simp only[g2]|simp only[g3]|simp only[g4]));refine wpQuiet_nil ?_;rintro _ ⟨x,rfl⟩)|(refine stepLoad1Q (by(go_simp;done)) _ (.tmp 14) rfl (w.heap.size) 0 (by kernel_rfl) (HB.out.to inferInstance) (.int .i64 m.Time) (HV0.out) _ Tryz.underlying3 rfl ?_))
   go_meet
   case rel=>exact⟨by rw[hn];rfl,y0,rfl⟩
  ·rw[g1]
   go_wp2_with (first|((with_reducible refine wp_region_later (by kernel_rfl) (by kernel_rfl) ?_);(repeat(first|go_big_quiet_step (first|fail)|simp only[g1]|simp only[g2]|simp only[g3]|simp only[g4]));refine wpQuiet_nil ?_;rintro _ ⟨x,rfl⟩)|(refine stepLoad1Q (by(go_simp;done)) _ (.tmp 14) rfl (w.heap.size) 0 (by kernel_rfl) (HB.out.to inferInstance) (.int .i64 m.Time) (HV0.out) _ Tryz.underlying3 rfl ?_)|(refine stepLoad1Q (by(go_simp;done)) _ (.tmp 21) rfl (w.heap.size) 16 (by kernel_rfl) (HB.out.to inferInstance) (.slice Am.a3 m.Ground.Offers.length Am.c3) (HV3.out) _ Tryz.underlying30 rfl ?_))
   go_meet
   case rel=>exact⟨by rw[hn];rfl,y0,rfl⟩
  ·rw[g1]
   go_wp2_with (first|((with_reducible refine wp_region_later (by kernel_rfl) (by kernel_rfl) ?_);(repeat(first|go_big_quiet_step (first|fail)|simp only[g1]|simp only[g2]|simp only[g3]|simp only[g4]));refine wpQuiet_nil ?_;rintro _ ⟨x,rfl⟩)|(refine stepLoad1Q (by(go_simp;done)) _ (.tmp 14) rfl (w.heap.size) 0 (by kernel_rfl) (HB.out.to inferInstance) (.int .i64 m.Time) (HV0.out) _ Tryz.underlying3 rfl ?_)|(refine stepLoad1Q (by(go_simp;done)) _ (.tmp 21) rfl (w.heap.size) 16 (by kernel_rfl) (HB.out.to inferInstance) (.slice Am.a3 m.Ground.Offers.length Am.c3) (HV3.out) _ Tryz.underlying30 rfl ?_)|(refine stepLoad1Q (by(go_simp;done)) _ (.tmp 29) rfl (w.heap.size) 19 (by kernel_rfl) (HB.out.to inferInstance) (.slice Am.a4 m.Ground.Sender.Waiting.length Am.c4) (HV4.out) _ Tryz.underlying67 rfl ?_))
   go_meet
   case rel=>exact⟨by rw[hn];rfl,y0,rfl⟩
  ·rw[g1]
   go_wp2_with (first|((with_reducible refine wp_region_later (by kernel_rfl) (by kernel_rfl) ?_);(repeat(first|go_big_quiet_step (first|fail)|simp only[g1]|simp only[g2]|simp only[g3]|simp only[g4]));refine wpQuiet_nil ?_;rintro _ ⟨x,rfl⟩)|(refine stepLoad1Q (by(go_simp;done)) _ (.tmp 14) rfl (w.heap.size) 0 (by kernel_rfl) (HB.out.to inferInstance) (.int .i64 m.Time) (HV0.out) _ Tryz.underlying3 rfl ?_)|(refine stepLoad1Q (by(go_simp;done)) _ (.tmp 21) rfl (w.heap.size) 16 (by kernel_rfl) (HB.out.to inferInstance) (.slice Am.a3 m.Ground.Offers.length Am.c3) (HV3.out) _ Tryz.underlying30 rfl ?_)|(refine stepLoad1Q (by(go_simp;done)) _ (.tmp 29) rfl (w.heap.size) 19 (by kernel_rfl) (HB.out.to inferInstance) (.slice Am.a4 m.Ground.Sender.Waiting.length Am.c4) (HV4.out) _ Tryz.underlying67 rfl ?_))
   go_meet
   case rel=>exact⟨by rw[hn];rfl,y0,rfl⟩
 case rest =>
  obtain⟨rfl,y0,rfl⟩:=hcut
  cases hn:askNow m
  ·have hnn:(!askNow m)=true:=by rw[hn];rfl
   go_wp2_with (first|((with_reducible refine wp_region_later (by kernel_rfl) (by kernel_rfl) ?_);(repeat(first|go_big_quiet_step (first|fail)|simp only[hn]|simp only[hnn]));refine wpQuiet_nil ?_;rintro _ ⟨x,rfl⟩)|(refine stepLoad rfl _ (.tmp 3) rfl (y1.w.heap.size) 0 (by kernel_rfl) (row:=(cM m A)) (HMB.out.held.to inferInstance) _ Tryz.underlying90 rfl (by rw[cM_len];kernel_rfl) (by rw[List.drop_zero,List.take_length]) ?_)|(refine stepStore2 rfl _ (.tmp 2) _ rfl (w.heap.size+1) 0 (by kernel_rfl) (us:=(cM m A)) (cs2:=(cM m A)) (HR.out.to inferInstance) ?a91 ?a92 ?a93 ?a94 ?a95 (w0:=w) inferInstance (by simp) ?_;(case a91=>kernel_rfl);(case a92=>(rw[cM_len];kernel_rfl));(case a93=>exact cM_one _ _);(case a94=>(rw[cM_len];exact Nat.le_of_ble_eq_true rfl));(case a95=>exact splice_all (by rw[cM_len];rfl));intro z9 hx kx;have HX9:=lH hx;clear hx;have KX9:=lH kx;clear kx))
   refine bodyPost_ret (v:=.agg (cM m A).toArray) (results_cell (P:=Tryz.prog) rfl rfl HX9.out _ Tryz.underlying90 rfl (by kernel_rfl)) rfl ?_
   rw[ask_no hn]
   obtain⟨χ9,hO9⟩:=(HMB.out.to (inferInstance:Grows _ y0.w)).o
   exact⟨_,χ9,rfl,om_mono (om_keep hO9 (KX9.out.above.more (by omega))) (by omega),Later.of⟩
  have hnn:(!askNow m)=false:=by rw[hn];rfl
  have g1:missionOk m=true:=by unfold askNow at hn;rw[Bool.and_eq_true]at hn;exact hn.1
  obtain⟨h8,h8t⟩:=ask_len g1
  have H8:=lH h8;have H8t:=lH h8t;have HN:=lH hn;clear h8 h8t g1
  go_wp2_with (first|((with_reducible refine wp_region_later (by kernel_rfl) (by kernel_rfl) ?_);(repeat(first|go_big_quiet_step (first|fail)|simp only[hnn]));refine wpQuiet_nil ?_;rintro _ ⟨x,rfl⟩))
  clear hn hnn
  (try simp only[Bool.not_true])
  go_loopw [4] (fun v wr=>∃ (k:Nat) (z:Later ((w.alloc (.cells vs.toArray 90)).alloc (.cells zMission.toArray 90))) (A1:TMissionA),v=.int .i64 k∧k≤8∧wr=z.w∧Hid (MB (fun _=>False) B0 y1.w.heap.size z.w A1 (tellM m (askSt m k)))) (fun v _=>(8 - intOf v).toNat)
  case atStart=>exact⟨0,z1.andThen y0,A,rfl,Nat.zero_le _,rfl,show MB (fun _=>False) B0 y1.w.heap.size y0.w A m from HMB.out.to inferInstance⟩
  case round =>
   obtain⟨k,z,A1,rfl,hk,rfl,hM⟩:=hrel
   by_cases h:k<8
   ·have hkF:k<m.Ground.Files.length:=by rw[H8.out];exact h
    have hkT:k<m.Ground.Told.length:=by rw[H8t.out];exact h
    have hT8:k<(tellM m (askSt m k)).Ground.Told.length:=by show k<(askSt m k).2.length;rw[askSt_told,H8t.out];exact h
    obtain⟨eb,eoff,ex,ea0,ec0,he,ehb,ehd,eq0,eok,eh0,eh1,eh2,eh3⟩:=RdS.atTFileIn (k:=k) (l:=m.Ground.Files) HFm.out.q7 hkF
    obtain⟨tb,toff,ht8,htb,ht0⟩:=RdS.atB (k:=k) HFm.out.q8 hkT
    obtain⟨tg,htg,-,-⟩:=(hM.out.own fGTold).open (n:=0) (Nat.lt_of_le_of_lt (Nat.zero_le k) hT8)
    have HT8a:=lH hT8;have HTg:=lH htg;have HEP:=lH (ask_parts HT4.out (List.mem_of_mem_drop (by rw[ehd.out];exact List.mem_cons_self ..)))
    have HEQ:=lH eq0;have HEOK:=lH eok;clear hT8 htg eq0 eok
    have HLT:=lH h
    have hv7:vs[31]?=some (.slice (some ⟨eb,eoff,none⟩) m.Ground.Files.length Am.c7):=by rw[HV7.out,he]
    have hv8:vs[32]?=some (.slice (some ⟨tb,toff,none⟩) m.Ground.Told.length Am.c8):=by rw[HV8.out,ht8]
    have HV7e:=lH hv7;have HV8e:=lH hv8;clear hv7 hv8 he ht8
    go_wp2_with (first|((with_reducible refine wp_region_later (by kernel_rfl) (by kernel_rfl) ?_);(repeat(first|go_big_quiet_step (first|fail)));refine wpQuiet_nil ?_;rintro _ ⟨x,rfl⟩)|(refine stepLoad1Q (by kernel_rfl) _ (.tmp 41) rfl (w.heap.size) 31 (by kernel_rfl) (HB.out.to inferInstance) (.slice (some ⟨eb,eoff,none⟩) m.Ground.Files.length Am.c7) (HV7e.out) _ Tryz.underlying74 rfl ?_))
    refine(c_sFileText (HEQ.out.toSlStr.to inferInstance) rfl HEP.out.1 HEP.out.2).mono ?_
    rintro _ _ ⟨rfl,yf,rfl⟩
    obtain⟨wf,hwf⟩:∃ b,wholeF ex=b:=⟨_,rfl⟩
    rw[show textIs ex.File ex.Size ex.Check ex.Parts=wf from hwf]
    simp only[tupText]
    have HWF:=lH hwf;clear hwf
    go_wp2_with (first|((with_reducible refine wp_region_later (by kernel_rfl) (by kernel_rfl) ?_);(repeat(first|go_big_quiet_step (first|fail)));refine wpQuiet_nil ?_;rintro _ ⟨x,rfl⟩)|(refine stepLoad1Q (by kernel_rfl) _ (.tmp 50) rfl (w.heap.size) 31 (by kernel_rfl) (HB.out.to inferInstance) (.slice (some ⟨eb,eoff,none⟩) m.Ground.Files.length Am.c7) (HV7e.out) _ Tryz.underlying74 rfl ?_))
    refine(c_sMissingOf (HEQ.out.toSlStr.to inferInstance) rfl HEP.out.1 HEP.out.2).mono ?_
    rintro _ _ ⟨am,cm,rfl,om,ym,rfl⟩
    have HOM:=lH om;clear om
    obtain⟨V,hV⟩:∃ V,ym.w=V:=⟨_,rfl⟩
    have HGz:=lH (show Grows z.w V from hV▸inferInstance)
    have HGw:=lH (show Grows w V from hV▸inferInstance)
    rw[hV]at HOM ⊢;clear hV
    haveI:Grows ((w.alloc (.cells vs.toArray 90)).alloc (.cells zMission.toArray 90)) V:=growsTr (inferInstance:Grows ((w.alloc (.cells vs.toArray 90)).alloc (.cells zMission.toArray 90)) z.w) HGz.out;haveI:Grows z.w V:=HGz.out;haveI:Grows w V:=HGw.out
    have HMV:=lH (hM.out.to HGz.out);have HOV:=HOM
    have HT0:∀ (W:World) [Grows V W],W.cell? ⟨tb,toff+k,none⟩=some (.bool (m.Ground.Told.getD k false)):=fun W g=>@ht0 W (growsTr HGw.out g)
    clear ht0 eh0 eh1 eh2 eh3 HEQ HOM
    have hk8:k<(askSt m k).2.length:=HT8a.out
    obtain⟨b8,hb8⟩:∃ b,m.Ground.Told.getD k false=b:=⟨_,rfl⟩
    rw[hb8]at HT0
    have HB8:=lH hb8;clear hb8
    have HLO:=lH (ask_offers HT4.out k)
    have HML:=lH (show(missL ex.File ex.Size ex.Check ex.Parts).length≤1000000000 from ask_miss ex HEP.out.1)
    go_upto_region 9 with fail
    go_cut [65]from 39 to 85 (fun s1 wx=>s1=.bool (!b8 && wf)∧wx=V)
    case first =>
     cases b8
     ·go_wp2_with (first|((with_reducible refine wp_region_later (by kernel_rfl) (by kernel_rfl) ?_);(repeat(first|go_big_quiet_step (first|fail)));refine wpQuiet_nil ?_;rintro _ ⟨x,rfl⟩)|(refine stepLoad1Q (by kernel_rfl) _ (.tmp 57) rfl (w.heap.size) 32 (by kernel_rfl) (HB.out.to inferInstance) (.slice (some ⟨tb,toff,none⟩) m.Ground.Told.length Am.c8) (HV8e.out) _ Tryz.underlying41 rfl ?_))
      go_meet
      case rel=>exact⟨rfl,rfl⟩
     ·go_wp2_with (first|((with_reducible refine wp_region_later (by kernel_rfl) (by kernel_rfl) ?_);(repeat(first|go_big_quiet_step (first|fail)));refine wpQuiet_nil ?_;rintro _ ⟨x,rfl⟩)|(refine stepLoad1Q (by kernel_rfl) _ (.tmp 57) rfl (w.heap.size) 32 (by kernel_rfl) (HB.out.to inferInstance) (.slice (some ⟨tb,toff,none⟩) m.Ground.Told.length Am.c8) (HV8e.out) _ Tryz.underlying41 rfl ?_))
      go_meet
      case rel=>exact⟨rfl,rfl⟩
    case rest =>
     obtain⟨rfl,hwc⟩:=hcut
     rw[hwc];clear hwc
     cases hA:(!b8 && wf)
     ·have HA:=lH hA;clear hA
      by_cases hmi:(missL ex.File ex.Size ex.Check ex.Parts).length=0
      ·go_wp2_with (first|((with_reducible refine wp_region_later (by kernel_rfl) (by kernel_rfl) ?_);(repeat(first|go_big_quiet_step (first|fail)|simp only[hmi]));refine wpQuiet_nil ?_;rintro _ ⟨x,rfl⟩))
       have hw64:=lH (ask_w HLT.out rfl)
       go_roundw
       case rel=>exact⟨k+1,⟨V,(inferInstance:Grows ((w.alloc (.cells vs.toArray 90)).alloc (.cells zMission.toArray 90)) V).out⟩,A1,(by first|rfl|rw[hw64.out]),HLT.out,rfl,(show MB _ _ _ _ _ _ from by rw[ask_same ehd.out HWF.out ((askSt_at m k).trans HB8.out) (by rw[Bool.and_comm];exact HA.out) (by omega)];exact HMV.out)⟩
       case measure=>(try rw[hw64.out]);simp only[intOf];have:=HLT.out;omega
      ·go_wp2_with (first|((with_reducible refine wp_region_later (by kernel_rfl) (by kernel_rfl) ?_);(repeat(first|go_big_quiet_step (first|fail)|simp only[hmi]));refine wpQuiet_nil ?_;rintro _ ⟨x,rfl⟩))
       refine wp_region_stabZ (by kernel_rfl) (T:=[9,10,11,12]) (Zs:=[]) (H:=[(2,[]),(3,[]),(6,[]),(7,[]),(8,[])]) (C:=[8]) (Fs:=[(some 74,.v (.pointer (some ⟨y1.w.heap.size,16,none⟩))),(some 75,.v (.pointer (some ⟨y1.w.heap.size,16,none⟩))),(some 76,.v (.slice A1.a3 (askSt m k).1.length A1.c3)),(some 77,.v (.string (wordN 1 1))),(some 78,.v (.int .i64 k)),(some 79,.v (.slice am (missL ex.File ex.Size ex.Check ex.Parts).length cm)),(some 80,.v (.string (encMiss k (missL ex.File ex.Size ex.Check ex.Parts)))),(some 81,.v (.string (wordN 1 1++encMiss k (missL ex.File ex.Size ex.Check ex.Parts)))),(some 82,.sl V.heap.size 1 [.string (wordN 1 1++encMiss k (missL ex.File ex.Size ex.Check ex.Parts))] 9),(none,.v undef),(none,.v undef),(none,.v undef),(none,.v undef)]) (by kernel_rfl) (fun val W=>by kernel_rfl) ?obb ?lzb ?pnb ?tlb
       case obb =>
        refine⟨fun x=>?_,fun x=>?_,fun x=>?_,fun x=>?_,fun x=>?_,trivial⟩
        ·exact g_one (o:=16) (v:=.slice A1.a3 (askSt m k).1.length A1.c3) (HMV.out.held.to (inferInstance:Grows V x.w)) rfl (by kernel_rfl) rfl _ Tryz.underlying30 rfl
        ·refine g_call (f:=63) (args:=[.int .i64 1,.int .i64 1]) Tryz.func63 (by kernel_rfl) (by kernel_rfl) ((c_sPutWordN (by omega) (by omega)).mono ?_)
         rintro _ _ ⟨rfl,y,rfl⟩
         exact⟨_,rfl,⟨y,rfl⟩,rfl⟩
        ·refine g_call (f:=64) (args:=[.int .i64 k,.slice am (missL ex.File ex.Size ex.Check ex.Parts).length cm]) Tryz.func64 (by kernel_rfl) (by kernel_rfl) ((c_sEncodeMissing (l:=(missL ex.File ex.Size ex.Check ex.Parts)) (HOV.out.sl.to (inferInstance:Grows V x.w)) rfl HML.out).mono ?_)
         rintro _ _ ⟨rfl,y,rfl⟩
         exact⟨_,rfl,⟨y,rfl⟩,rfl⟩
        ·exact g_fn (k:=7) (by kernel_rfl) (run_add (by kernel_rfl) (pay_le k (missL ex.File ex.Size ex.Check ex.Parts)))
        ·exact g_sl rfl (by kernel_rfl) LeN.out
       case lzb =>
        exact trivial
       case pnb=>exact fun _ _ _ _ _ _ h=>h
       case tlb =>
        intro x
        refine chain1 fun v9 q9=>?_
        obtain⟨sb,rfl,hsb,hH⟩:=(show ∃ b,v9=.slice (some ⟨b,0,none⟩) 1 1∧V.heap.size≤b∧Held x.w b [.string (wordN 1 1++encMiss k (missL ex.File ex.Size ex.Check ex.Parts))] 9 from q9)
        clear q9
        have hMx:=HMV.out.to (inferInstance:Grows V x.w)
        refine tail4 rfl rfl rfl rfl ?_
        simp only[put_nrm,put_nrm2]
        simp only[Act.put,List.setIfInBounds_toArray,List.set_cons_succ,List.set_cons_zero,if_true]
        refine wpList_app1F (enc:=encStr) (w0:=((w.alloc (.cells vs.toArray 90)).alloc (.cells zMission.toArray 90))) (z:=.string ⟨#[]⟩) (size:=1) (bytes:=16) (n:=(askSt m k).1.length) (B:=B0) (wordN 1 1++encMiss k (missL ex.File ex.Size ex.Check ex.Parts)) rfl (.tmp 76) (.tmp 82) rfl Tryz.underlying30 (by kernel_rfl) rfl (by decide) (by decide) (by kernel_rfl) (by kernel_rfl) rfl (hMx.own fGOffers) hH rfl (encStr_one _) HLO.out (Nat.le_trans hMx.le (Nat.le_of_lt hMx.lt)) (growsTr (inferInstance:Grows ((w.alloc (.cells vs.toArray 90)).alloc (.cells zMission.toArray 90)) V) (inferInstance:Grows V x.w)) hB2 ?_
        intro sa sc xw hown hgr hblk
        have hp:=(MBp.app (F:=fGOffers) HMV.out (inferInstance:Grows V x.w) hown hgr hblk (pay_good k (missL ex.File ex.Size ex.Check ex.Parts))).1
        (try simp only[Act.put,List.setIfInBounds_toArray])
        (try simp only[List.set_cons_succ])
        (try simp only[List.set_cons_zero])
        go_wp2_with (first|((with_reducible refine wp_region_later (by kernel_rfl) (by kernel_rfl) ?_);(repeat(first|go_big_quiet_step (first|fail)));refine wpQuiet_nil ?_;rintro _ ⟨x,rfl⟩)|(refine step_mbS rfl _ (.tmp 85) (.tmp 83) rfl hp (by kernel_rfl) (by rw[show(fGOffers.get (tellM m (askSt m k))++[(wordN 1 1++encMiss k (missL ex.File ex.Size ex.Check ex.Parts))]).length=(askSt m k).1.length+1 from List.length_append];kernel_rfl) (by kernel_rfl) (w0:=((w.alloc (.cells vs.toArray 90)).alloc (.cells zMission.toArray 90))) inferInstance hB2 ?_;intro z1 hz1 hX1))
        have hw64:=lH (ask_w HLT.out rfl)
        go_roundw
        case rel=>exact⟨k+1,z1,fGOffers.sa A1 sa sc,(by first|rfl|rw[hw64.out]),HLT.out,rfl,(show MB _ _ _ _ _ _ from by rw[ask_offer ehd.out HWF.out ((askSt_at m k).trans HB8.out) (by rw[Bool.and_comm];exact HA.out) (by omega)];exact hz1)⟩
        case measure=>(try rw[hw64.out]);simp only[intOf];have:=HLT.out;omega
     ·have HA:=lH hA;clear hA
      have hml:missL ex.File ex.Size ex.Check ex.Parts=[]:=whole_miss (HWF.out.trans (by have:=HA.out;cases wf<;>simp_all))
      have HMN:=lH hml
      rw[hml]
      rw[hml]at HOV HML;clear hml
      go_wp2_with (first|((with_reducible refine wp_region_later (by kernel_rfl) (by kernel_rfl) ?_);(repeat(first|go_big_quiet_step (first|fail)));refine wpQuiet_nil ?_;rintro _ ⟨x,rfl⟩)|(refine stepLoad1Q (by kernel_rfl) _ (.tmp 67) rfl (y1.w.heap.size) 32 (by kernel_rfl) (HMV.out.held.to inferInstance) (.slice (some ⟨tg,0,none⟩) (askSt m k).2.length A1.c8) ((by rw[← HTg.out];rfl)) _ Tryz.underlying41 rfl ?_)|(refine step_mbE rfl _ (.tmp 70) _ rfl fGTold HMV.out HTg.out rfl (by kernel_rfl) (v0:=.bool true) (by kernel_rfl) (by kernel_rfl) rfl hk8 (y0:=true) rfl trivial (w0:=((w.alloc (.cells vs.toArray 90)).alloc (.cells zMission.toArray 90))) inferInstance hB2 ?_;intro z2 hz2 hX2))
      obtain⟨V2,hV2⟩:∃ V2,z2.w=V2:=⟨_,rfl⟩
      have HM2:=lH (show MB (fun _=>False) B0 y1.w.heap.size V2 A1 (fGTold.set (tellM m (askSt m k)) ((askSt m k).2.set k true))from hV2▸hz2)
      haveI:Grows ((w.alloc (.cells vs.toArray 90)).alloc (.cells zMission.toArray 90)) V2:=hV2▸(inferInstance:Grows ((w.alloc (.cells vs.toArray 90)).alloc (.cells zMission.toArray 90)) z2.w)
      rw[hV2];clear hV2 hz2 hX2
      refine wp_region_stabZ (by kernel_rfl) (T:=[9,10,11,12]) (Zs:=[]) (H:=[(2,[]),(3,[]),(6,[]),(7,[]),(8,[])]) (C:=[8]) (Fs:=[(some 74,.v (.pointer (some ⟨y1.w.heap.size,16,none⟩))),(some 75,.v (.pointer (some ⟨y1.w.heap.size,16,none⟩))),(some 76,.v (.slice A1.a3 (askSt m k).1.length A1.c3)),(some 77,.v (.string (wordN 1 1))),(some 78,.v (.int .i64 k)),(some 79,.v (.slice am 0 cm)),(some 80,.v (.string (encMiss k []))),(some 81,.v (.string (wordN 1 1++encMiss k []))),(some 82,.sl V2.heap.size 1 [.string (wordN 1 1++encMiss k [])] 9),(none,.v undef),(none,.v undef),(none,.v undef),(none,.v undef)]) (by kernel_rfl) (fun val W=>by kernel_rfl) ?oba ?lza ?pna ?tla
      case oba =>
       refine⟨fun x=>?_,fun x=>?_,fun x=>?_,fun x=>?_,fun x=>?_,trivial⟩
       ·exact g_one (o:=16) (v:=.slice A1.a3 (askSt m k).1.length A1.c3) (HM2.out.held.to (inferInstance:Grows V2 x.w)) rfl (by kernel_rfl) rfl _ Tryz.underlying30 rfl
       ·refine g_call (f:=63) (args:=[.int .i64 1,.int .i64 1]) Tryz.func63 (by kernel_rfl) (by kernel_rfl) ((c_sPutWordN (by omega) (by omega)).mono ?_)
        rintro _ _ ⟨rfl,y,rfl⟩
        exact⟨_,rfl,⟨y,rfl⟩,rfl⟩
       ·refine g_call (f:=64) (args:=[.int .i64 k,.slice am 0 cm]) Tryz.func64 (by kernel_rfl) (by kernel_rfl) ((c_sEncodeMissing (l:=[]) (fun i x hx=>by simp at hx) rfl (by decide)).mono ?_)
        rintro _ _ ⟨rfl,y,rfl⟩
        exact⟨_,rfl,⟨y,rfl⟩,rfl⟩
       ·exact g_fn (k:=7) (by kernel_rfl) (run_add (by kernel_rfl) (pay_le k []))
       ·exact g_sl rfl (by kernel_rfl) LeN.out
      case lza =>
       exact trivial
      case pna=>exact fun _ _ _ _ _ _ h=>h
      case tla =>
       intro x
       refine chain1 fun v9 q9=>?_
       obtain⟨sb,rfl,hsb,hH⟩:=(show ∃ b,v9=.slice (some ⟨b,0,none⟩) 1 1∧V2.heap.size≤b∧Held x.w b [.string (wordN 1 1++encMiss k [])] 9 from q9)
       clear q9
       have hMx:=HM2.out.to (inferInstance:Grows V2 x.w)
       refine tail4 rfl rfl rfl rfl ?_
       simp only[put_nrm,put_nrm2]
       simp only[Act.put,List.setIfInBounds_toArray,List.set_cons_succ,List.set_cons_zero,if_true]
       refine wpList_app1F (enc:=encStr) (w0:=((w.alloc (.cells vs.toArray 90)).alloc (.cells zMission.toArray 90))) (z:=.string ⟨#[]⟩) (size:=1) (bytes:=16) (n:=(askSt m k).1.length) (B:=B0) (wordN 1 1++encMiss k []) rfl (.tmp 76) (.tmp 82) rfl Tryz.underlying30 (by kernel_rfl) rfl (by decide) (by decide) (by kernel_rfl) (by kernel_rfl) rfl (hMx.own fGOffers) hH rfl (encStr_one _) HLO.out (Nat.le_trans hMx.le (Nat.le_of_lt hMx.lt)) (growsTr (inferInstance:Grows ((w.alloc (.cells vs.toArray 90)).alloc (.cells zMission.toArray 90)) V2) (inferInstance:Grows V2 x.w)) hB2 ?_
       intro sa sc xw hown hgr hblk
       have hp:=(MBp.app (F:=fGOffers) HM2.out (inferInstance:Grows V2 x.w) hown hgr hblk (pay_good k [])).1
       (try simp only[Act.put,List.setIfInBounds_toArray])
       (try simp only[List.set_cons_succ])
       (try simp only[List.set_cons_zero])
       go_wp2_with (first|((with_reducible refine wp_region_later (by kernel_rfl) (by kernel_rfl) ?_);(repeat(first|go_big_quiet_step (first|fail)));refine wpQuiet_nil ?_;rintro _ ⟨x,rfl⟩)|(refine step_mbS rfl _ (.tmp 85) (.tmp 83) rfl hp (by kernel_rfl) (by rw[show(fGOffers.get (fGTold.set (tellM m (askSt m k)) ((askSt m k).2.set k true))++[(wordN 1 1++encMiss k [])]).length=(askSt m k).1.length+1 from List.length_append];kernel_rfl) (by kernel_rfl) (w0:=((w.alloc (.cells vs.toArray 90)).alloc (.cells zMission.toArray 90))) inferInstance hB2 ?_;intro z1 hz1 hX1))
       have hw64:=lH (ask_w HLT.out rfl)
       go_roundw
       case rel=>exact⟨k+1,z1,fGOffers.sa A1 sa sc,(by first|rfl|rw[hw64.out]),HLT.out,rfl,(show MB _ _ _ _ _ _ from by rw[ask_tell2 ehd.out HWF.out HB8.out HA.out,HMN.out];exact hz1)⟩
       case measure=>(try rw[hw64.out]);simp only[intOf];have:=HLT.out;omega
   ·obtain rfl:k=8:=by omega
    rw[show askSt m 8=askFrom 0 m.Ground.Files (m.Ground.Offers,m.Ground.Told)by unfold askSt;rw[List.take_of_length_le (by rw[H8.out];exact Nat.le_refl _)]]at hM
    have HTF:=lH (show Enc.tot (tellM m (askFrom 0 m.Ground.Files (m.Ground.Offers,m.Ground.Told)))≤100000000 from ask_tot HT4.out)
    go_wp2_with (first|((with_reducible refine wp_region_later (by kernel_rfl) (by kernel_rfl) ?_);(repeat(first|go_big_quiet_step (first|fail)));refine wpQuiet_nil ?_;rintro _ ⟨x,rfl⟩)|(refine stepLoad rfl _ (.tmp 3) rfl (y1.w.heap.size) 0 (by kernel_rfl) (row:=(cM (tellM m (askFrom 0 m.Ground.Files (m.Ground.Offers,m.Ground.Told))) A1)) (hM.out.held.to inferInstance) _ Tryz.underlying90 rfl (by rw[cM_len];kernel_rfl) (by rw[List.drop_zero,List.take_length]) ?_))
    refine(c_sMissionOk (m:=(tellM m (askFrom 0 m.Ground.Files (m.Ground.Offers,m.Ground.Told)))) (Enc.keep hM.out.rd (@Keeps.grows _ _ _ inferInstance)) HTF.out).mono ?_
    rintro _ _ ⟨rfl,y5,rfl⟩
    cases g5:missionOk (tellM m (askFrom 0 m.Ground.Files (m.Ground.Offers,m.Ground.Told)))
    ·go_wp2_with (first|((with_reducible refine wp_region_later (by kernel_rfl) (by kernel_rfl) ?_);(repeat(first|go_big_quiet_step (first|fail)));refine wpQuiet_nil ?_;rintro _ ⟨x,rfl⟩)|(refine stepLoad rfl _ (.tmp 1) rfl (w.heap.size) 0 (by kernel_rfl) (row:=vs) (HB.out.to inferInstance) _ Tryz.underlying90 rfl (by rw[HL.out];kernel_rfl) (by rw[List.drop_zero,List.take_length]) ?_))
     refine(o_copyMission (x:=m) (Enc.keep HM.out inferInstance) HT8.out).mono ?_
     rintro _ _ ⟨cs2,χ2,rfl,hO2,y6,rfl⟩
     have HL2:=lH (len_mission (EncO.toRd hO2));have HO2:=lH (one_mission (EncO.toRd hO2));have HOO2:=lH hO2;clear hO2
     go_wp2_with (first|((with_reducible refine wp_region_later (by kernel_rfl) (by kernel_rfl) ?_);(repeat(first|go_big_quiet_step (first|fail)));refine wpQuiet_nil ?_;rintro _ ⟨x,rfl⟩)|(refine stepStore2 rfl _ (.tmp 2) _ rfl (w.heap.size+1) 0 (by kernel_rfl) (us:=cs2) (cs2:=cs2) (HR.out.to inferInstance) ?a81 ?a82 ?a83 ?a84 ?a85 (w0:=w) inferInstance (by simp) ?_;(case a81=>kernel_rfl);(case a82=>(rw[HL2.out];kernel_rfl));(case a83=>exact HO2.out);(case a84=>(rw[HL2.out];exact Nat.le_of_ble_eq_true rfl));(case a85=>exact splice_all (by rw[HL2.out];rfl));intro z8 hx kx;have HX8:=lH hx;clear hx;have KX8:=lH kx;clear kx))
     refine bodyPost_ret (v:=.agg cs2.toArray) (results_cell (P:=Tryz.prog) rfl rfl HX8.out _ Tryz.underlying90 rfl (by rw[HL2.out];kernel_rfl)) rfl ?_
     rw[show askMissing m=m by unfold askMissing;rw[if_pos HN.out,if_neg (by rw[g5];decide)]]
     exact⟨_,χ2,rfl,om_mono (om_keep HOO2.out (KX8.out.above.more LeN.out)) LeN.out,Later.of⟩
    ·go_wp2_with (first|((with_reducible refine wp_region_later (by kernel_rfl) (by kernel_rfl) ?_);(repeat(first|go_big_quiet_step (first|fail)));refine wpQuiet_nil ?_;rintro _ ⟨x,rfl⟩)|(refine stepLoad rfl _ (.tmp 3) rfl (y1.w.heap.size) 0 (by kernel_rfl) (row:=(cM (tellM m (askFrom 0 m.Ground.Files (m.Ground.Offers,m.Ground.Told))) A1)) (hM.out.held.to inferInstance) _ Tryz.underlying90 rfl (by rw[cM_len];kernel_rfl) (by rw[List.drop_zero,List.take_length]) ?_)|(refine stepStore2 rfl _ (.tmp 2) _ rfl (w.heap.size+1) 0 (by kernel_rfl) (us:=(cM (tellM m (askFrom 0 m.Ground.Files (m.Ground.Offers,m.Ground.Told))) A1)) (cs2:=(cM (tellM m (askFrom 0 m.Ground.Files (m.Ground.Offers,m.Ground.Told))) A1)) (HR.out.to inferInstance) ?a71 ?a72 ?a73 ?a74 ?a75 (w0:=w) inferInstance (by simp) ?_;(case a71=>kernel_rfl);(case a72=>(rw[cM_len];kernel_rfl));(case a73=>exact cM_one _ _);(case a74=>(rw[cM_len];exact Nat.le_of_ble_eq_true rfl));(case a75=>exact splice_all (by rw[cM_len];rfl));intro z7 hx kx;have HX7:=lH hx;clear hx;have KX7:=lH kx;clear kx))
     refine bodyPost_ret (v:=.agg (cM (tellM m (askFrom 0 m.Ground.Files (m.Ground.Offers,m.Ground.Told))) A1).toArray) (results_cell (P:=Tryz.prog) rfl rfl HX7.out _ Tryz.underlying90 rfl (by kernel_rfl)) rfl ?_
     rw[show askMissing m=(tellM m (askFrom 0 m.Ground.Files (m.Ground.Offers,m.Ground.Told)))by unfold askMissing;rw[if_pos HN.out,if_pos g5]]
     obtain⟨χ9,hO9⟩:=(hM.out.to (inferInstance:Grows z.w y5.w)).o
     exact⟨_,χ9,rfl,om_mono (om_keep hO9 (KX7.out.above.more (by omega))) (by omega),Later.of⟩
end Go.Proofs.YtgmikiidcpbjbaaGreat
