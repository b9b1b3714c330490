/- AskMissing of the program. No condition but on sizes. -/
import Derived.Test.YtdinhfeflobafaaGreatSM35
import Derived.Test.YtdinhfeflobafaaGreatSWholeN
import Derived.Test.YtdinhfeflobafaaGreatSM12
import Derived.Test.YtdinhfeflobafaaGreatSM39
import Derived.Test.YtdinhfeflobafaaGreatSM19
import Derived.Deep.CutRange
namespace Go.Proofs.YtdinhfeflobafaaGreat
set_option linter.unusedVariables false
open Go.ChangeShapes Go.WideShapes Go.ChangeAt Go.RowKit
theorem stepLoad1Q{P:Program}{ops:Array Oper}{rest:List Oper}{op:Oper}{a:Act}{w:World}{Q:Exit→Act→World→Prop}(hw:Region.wanted op (yielded ops a.tmps)=true)(ty:TypeId)(x:Operand)(ho:op.op=.load ty x)(b o:Nat)(hx:a.eval x=.pointer (some ⟨b,o,none⟩)){cs:List Value}{T:TypeId}(H:Held w b cs T)(v:Value)(hv:cs[o]?=some v)
  (d:TypeDesc) (hu:P.underlying ty=some d) (hd:d.isRow=false) (h:wpList P ops Q rest (a.put op.dst v) w):wpList P ops Q (op::rest) a w :=
 wpList_step fun K hK=>st_load1 hw ty x ho b o hx H v hv d hu hd (hK _ _ h)
set_option maxRecDepth 100000 in
set_option maxHeartbeats 4000000 in
theorem o_iAskMissing{B:Nat}{vs:List Value}{m:TMission}{w:World}(h:Enc.Rd B w vs m)(ht:Enc.tot m≤4000000) :
  Calls Tryz.prog 205 #[.agg vs.toArray] w (GivesO w (askMissing m)):=by
 have HL:=lH (len_mission h)
 have HM:=lH h
 obtain⟨Am,hvs,-⟩:=h
 have HV0:=lH (show vs[0]?=some (.int .i64 m.Time)by rw[hvs];rfl)
 have HV3:=lH (show vs[16]?=some (.slice Am.a3 m.Ground.Offers.length Am.c3)by rw[hvs];rfl)
 have HV4:=lH (show vs[19]?=some (.slice Am.a4 m.Ground.Sender.Waiting.length Am.c4)by rw[hvs];rfl)
 clear hvs
 have HT8:=lH (show Enc.tot m≤100000000 by omega)
 have HT4:=lH ht;clear ht
 have HB:=lH ((Held.new w vs 90 w.heap.size rfl).to (inferInstance:Grows _ ((w.alloc (.cells vs.toArray 90)).alloc (.cells zMission.toArray 90))))
 have HR:=lH (Held.new (w.alloc (.cells vs.toArray 90)) zMission 90 (w.heap.size+1) (by simp))
 go_enter Tryz.func205,Tryz.ntmps205
 go_wp2_with (first|((with_reducible refine wp_region_later (by kernel_rfl) (by kernel_rfl) ?_);(repeat(first|go_big_quiet_step (first|fail)));refine wpQuiet_nil ?_;rintro _ ⟨x,rfl⟩)|(refine stepLoad rfl _ (.tmp 1) rfl (w.heap.size) 0 (by kernel_rfl) (row:=vs) (HB.out.to inferInstance) _ Tryz.underlying90 rfl (by rw[HL.out];kernel_rfl) (by rw[List.drop_zero,List.take_length]) ?_))
 refine(o_cloneMission (x:=m) (Enc.keep HM.out inferInstance) HT8.out).mono ?_
 rintro _ _ ⟨cs,χ,rfl,hO,y1,rfl⟩
 have HLcs:=lH (len_mission (EncO.toRd hO));have HOcs:=lH (one_mission (EncO.toRd hO));have HOo:=lH hO;clear hO
 go_upto_region 2 with(first|(refine stepStore2 rfl _ (.tmp 3) _ rfl (y1.w.heap.size) 0 (by kernel_rfl) (us:=cs) (cs2:=cs) (Held.new _ zMission 90 _ rfl) ?a11 ?a12 ?a13 ?a14 ?a15 (w0:=((w.alloc (.cells vs.toArray 90)).alloc (.cells zMission.toArray 90))) inferInstance (LeN.out) ?_;(case a11=>kernel_rfl);(case a12=>(rw[HLcs.out];kernel_rfl));(case a13=>exact HOcs.out);(case a14=>(rw[HLcs.out];exact Nat.le_of_ble_eq_true rfl));(case a15=>exact splice_all (by rw[HLcs.out];rfl));intro z1 hx kx;have HX1:=lH hx;clear hx;have KX1:=lH kx;clear kx)|(refine stepLoad rfl _ (.tmp 1) rfl (w.heap.size) 0 (by kernel_rfl) (row:=vs) (HB.out.to inferInstance) _ Tryz.underlying90 rfl (by rw[HL.out];kernel_rfl) (by rw[List.drop_zero,List.take_length]) ?_))
 obtain⟨A,rfl,hMB⟩:=MB.of HOo.out (KX1.out.under inferInstance (Nat.le_refl _)) y1.size_le HX1.out
 obtain⟨B0,hB2,hB0,hMB⟩:∃ B0,((w.alloc (.cells vs.toArray 90)).alloc (.cells zMission.toArray 90)).heap.size≤B0∧w.heap.size+2≤B0∧MB (fun _=>False) B0 y1.w.heap.size z1.w A m:=⟨_,Nat.le_refl _,LeN.out,hMB⟩
 have HMB:=lH hMB
 clear hMB HX1 KX1 HOo HLcs HOcs
 (try simp only[Act.put])
 go_cut [35]from 10 (fun s1 wx=>s1=.bool (!askNow m)∧∃ y:Later z1.w,wx=y.w)
 case first =>
  go_wp2_with (first|((with_reducible refine wp_region_later (by kernel_rfl) (by kernel_rfl) ?_);(repeat(first|go_big_quiet_step (first|fail)));refine wpQuiet_nil ?_;rintro _ ⟨x,rfl⟩)|(refine stepLoad rfl _ (.tmp 1) rfl (w.heap.size) 0 (by kernel_rfl) (row:=vs) (HB.out.to inferInstance) _ Tryz.underlying90 rfl (by rw[HL.out];kernel_rfl) (by rw[List.drop_zero,List.take_length]) ?_))
  refine(c_iMissionOk (m:=m) (Enc.keep HM.out inferInstance) HT8.out).mono ?_
  rintro _ _ ⟨rfl,y0,rfl⟩
  rcases ask_cases m with⟨hn,⟨g1,g2,g3,g4⟩|⟨g1,g2,g3,g4⟩|⟨g1,g2,g3,g4⟩|⟨g1,g2,g3,g4⟩⟩|⟨hn,g1,g2,g3,g4⟩
  ·rw[g1]
   go_wp2_with (first|((with_reducible refine wp_region_later (by kernel_rfl) (by kernel_rfl) ?_);(repeat(first|go_big_quiet_step (first|fail)|simp only[g1]|simp only[g2]|simp only[g3]|simp only[g4]));refine wpQuiet_nil ?_;rintro _ ⟨x,rfl⟩))
   go_meet
   case rel=>exact⟨by rw[hn];rfl,y0,rfl⟩
  ·rw[g1]
   go_wp2_with (first|((with_reducible refine wp_region_later (by kernel_rfl) (by kernel_rfl) ?_);(repeat(first|go_big_quiet_step (first|fail)|simp only[g1]|simp only[g2]|simp only[g3]|simp only[g4]));refine wpQuiet_nil ?_;rintro _ ⟨x,rfl⟩)|(refine stepLoad1Q (by(go_simp;done)) _ (.tmp 16) rfl (w.heap.size) 0 (by kernel_rfl) (HB.out.to inferInstance) (.int .i64 m.Time) (HV0.out) _ Tryz.underlying3 rfl ?_))
   go_meet
   case rel=>exact⟨by rw[hn];rfl,y0,rfl⟩
  ·rw[g1]
   go_wp2_with (first|((with_reducible refine wp_region_later (by kernel_rfl) (by kernel_rfl) ?_);(repeat(first|go_big_quiet_step (first|fail)|simp only[g1]|simp only[g2]|simp only[g3]|simp only[g4]));refine wpQuiet_nil ?_;rintro _ ⟨x,rfl⟩)|(refine stepLoad1Q (by(go_simp;done)) _ (.tmp 16) rfl (w.heap.size) 0 (by kernel_rfl) (HB.out.to inferInstance) (.int .i64 m.Time) (HV0.out) _ Tryz.underlying3 rfl ?_)|(refine stepLoad1Q (by(go_simp;done)) _ (.tmp 23) rfl (w.heap.size) 16 (by kernel_rfl) (HB.out.to inferInstance) (.slice Am.a3 m.Ground.Offers.length Am.c3) (HV3.out) _ Tryz.underlying30 rfl ?_))
   go_meet
   case rel=>exact⟨by rw[hn];rfl,y0,rfl⟩
  ·rw[g1]
   go_wp2_with (first|((with_reducible refine wp_region_later (by kernel_rfl) (by kernel_rfl) ?_);(repeat(first|go_big_quiet_step (first|fail)|simp only[g1]|simp only[g2]|simp only[g3]|simp only[g4]));refine wpQuiet_nil ?_;rintro _ ⟨x,rfl⟩)|(refine stepLoad1Q (by(go_simp;done)) _ (.tmp 16) rfl (w.heap.size) 0 (by kernel_rfl) (HB.out.to inferInstance) (.int .i64 m.Time) (HV0.out) _ Tryz.underlying3 rfl ?_)|(refine stepLoad1Q (by(go_simp;done)) _ (.tmp 23) rfl (w.heap.size) 16 (by kernel_rfl) (HB.out.to inferInstance) (.slice Am.a3 m.Ground.Offers.length Am.c3) (HV3.out) _ Tryz.underlying30 rfl ?_)|(refine stepLoad1Q (by(go_simp;done)) _ (.tmp 31) rfl (w.heap.size) 19 (by kernel_rfl) (HB.out.to inferInstance) (.slice Am.a4 m.Ground.Sender.Waiting.length Am.c4) (HV4.out) _ Tryz.underlying67 rfl ?_))
   go_meet
   case rel=>exact⟨by rw[hn];rfl,y0,rfl⟩
  ·rw[g1]
   go_wp2_with (first|((with_reducible refine wp_region_later (by kernel_rfl) (by kernel_rfl) ?_);(repeat(first|go_big_quiet_step (first|fail)|simp only[g1]|simp only[g2]|simp only[g3]|simp only[g4]));refine wpQuiet_nil ?_;rintro _ ⟨x,rfl⟩)|(refine stepLoad1Q (by(go_simp;done)) _ (.tmp 16) rfl (w.heap.size) 0 (by kernel_rfl) (HB.out.to inferInstance) (.int .i64 m.Time) (HV0.out) _ Tryz.underlying3 rfl ?_)|(refine stepLoad1Q (by(go_simp;done)) _ (.tmp 23) rfl (w.heap.size) 16 (by kernel_rfl) (HB.out.to inferInstance) (.slice Am.a3 m.Ground.Offers.length Am.c3) (HV3.out) _ Tryz.underlying30 rfl ?_)|(refine stepLoad1Q (by(go_simp;done)) _ (.tmp 31) rfl (w.heap.size) 19 (by kernel_rfl) (HB.out.to inferInstance) (.slice Am.a4 m.Ground.Sender.Waiting.length Am.c4) (HV4.out) _ Tryz.underlying67 rfl ?_))
   go_meet
   case rel=>exact⟨by rw[hn];rfl,y0,rfl⟩
 case rest =>
  obtain⟨rfl,y0,rfl⟩:=hcut
  cases hn:askNow m
  ·have hnn:(!askNow m)=true:=by rw[hn];rfl
   go_wp2_with (first|((with_reducible refine wp_region_later (by kernel_rfl) (by kernel_rfl) ?_);(repeat(first|go_big_quiet_step (first|fail)|simp only[hn]|simp only[hnn]));refine wpQuiet_nil ?_;rintro _ ⟨x,rfl⟩)|(refine stepLoad rfl _ (.tmp 3) rfl (y1.w.heap.size) 0 (by kernel_rfl) (row:=(cM m A)) (HMB.out.held.to inferInstance) _ Tryz.underlying90 rfl (by rw[cM_len];kernel_rfl) (by rw[List.drop_zero,List.take_length]) ?_)|(refine stepStore2 rfl _ (.tmp 2) _ rfl (w.heap.size+1) 0 (by kernel_rfl) (us:=(cM m A)) (cs2:=(cM m A)) (HR.out.to inferInstance) ?a91 ?a92 ?a93 ?a94 ?a95 (w0:=w) inferInstance (by simp) ?_;(case a91=>kernel_rfl);(case a92=>(rw[cM_len];kernel_rfl));(case a93=>exact cM_one _ _);(case a94=>(rw[cM_len];exact Nat.le_of_ble_eq_true rfl));(case a95=>exact splice_all (by rw[cM_len];rfl));intro z9 hx kx;have HX9:=lH hx;clear hx;have KX9:=lH kx;clear kx))
   refine bodyPost_ret (v:=.agg (cM m A).toArray) (results_cell (P:=Tryz.prog) rfl rfl HX9.out _ Tryz.underlying90 rfl (by kernel_rfl)) rfl ?_
   rw[ask_no hn]
   obtain⟨χ9,hO9⟩:=(HMB.out.to (inferInstance:Grows _ y0.w)).o
   exact⟨_,χ9,rfl,om_mono (om_keep hO9 (KX9.out.above.more (by omega))) (by omega),Later.of⟩
  have hnn:(!askNow m)=false:=by rw[hn];rfl
  have g1:missionOk m=true:=by unfold askNow at hn;rw[Bool.and_eq_true]at hn;exact hn.1
  obtain⟨h8,h8t⟩:=ask_len g1
  have H8:=lH h8;have H8t:=lH h8t;have HN:=lH hn;clear h8 h8t g1
  go_wp2_with (first|((with_reducible refine wp_region_later (by kernel_rfl) (by kernel_rfl) ?_);(repeat(first|go_big_quiet_step (first|fail)|simp only[hnn]));refine wpQuiet_nil ?_;rintro _ ⟨x,rfl⟩)|(refine stepLoad1Q (by kernel_rfl) _ (.tmp 40) rfl (y1.w.heap.size) 31 (by kernel_rfl) (HMB.out.held.to inferInstance) (.slice A.a7 m.Ground.Files.length A.c7) (rfl) _ Tryz.underlying74 rfl ?_))
  clear hn hnn
  go_loopw [43] (fun v wr=>∃ (k:Nat) (z:Later ((w.alloc (.cells vs.toArray 90)).alloc (.cells zMission.toArray 90))) (A1:TMissionA),v=.int .i64 k∧k≤m.Ground.Files.length∧wr=z.w∧Hid (MB (fun _=>False) B0 y1.w.heap.size z.w A1 (tellM m (askSt m k)))∧Hid (A1.a7=A.a7∧A1.c7=A.c7)) (fun v _=>(m.Ground.Files.length - intOf v).toNat)
  case atStart=>exact⟨0,z1.andThen y0,A,rfl,Nat.zero_le _,rfl,show MB (fun _=>False) B0 y1.w.heap.size y0.w A m from HMB.out.to inferInstance,rfl,rfl⟩
  case round =>
   obtain⟨k,z,A1,rfl,hk,rfl,hM,h7⟩:=hrel
   by_cases h:k<m.Ground.Files.length
   ·have hT8:k<(tellM m (askSt m k)).Ground.Told.length:=by show k<(askSt m k).2.length;rw[askSt_told,H8t.out];have:=H8.out;omega
    obtain⟨eb,eoff,ex,ea0,ec0,he,ehb,ehd,eq0,eok,eh0,eh1,eh2,eh3⟩:=RdS.atTFileIn (k:=k) (l:=m.Ground.Files) hM.out.f.q7 h
    obtain⟨tb,toff,ht8,htb,ht0⟩:=RdS.atB (k:=k) hM.out.f.q8 hT8
    obtain⟨tg,htg,-,-⟩:=(hM.out.own fGTold).open (n:=0) (Nat.lt_of_le_of_lt (Nat.zero_le k) hT8)
    obtain⟨rfl,rfl⟩:tg=tb∧toff=0:=by have e:A1.a8=some ⟨tg,0,none⟩:=htg;rw[ht8]at e;simp at e;exact⟨e.1.symm,e.2⟩
    simp only[Nat.zero_add]at ht0
    have HT8a:=lH hT8;have HTg:=lH ht8;have HEP:=lH (ask_parts HT4.out (List.mem_of_mem_drop (by rw[ehd.out];exact List.mem_cons_self ..)))
    rw[h7.out.1]at he
    have HEQ:=lH eq0;have HEOK:=lH eok;clear hT8 ht8 htg eq0 eok
    have HLT:=lH h
    have HF:=lH (Held.new z.w [.int .i64 ex.File,.int .i64 ex.Size,.int .i64 ex.Check,.slice ea0 ex.Parts.length ec0] 172 z.w.heap.size rfl)
    have HE7:=lH he
    rw[he];clear he
    go_wp2_with (first|((with_reducible refine wp_region_later (by kernel_rfl) (by kernel_rfl) ?_);(repeat(first|go_big_quiet_step (first|fail)));refine wpQuiet_nil ?_;rintro _ ⟨x,rfl⟩))
    refine(c_iMissingOf (HEQ.out.toSlStr.to inferInstance) rfl HEP.out.1 HEP.out.2).mono ?_
    rintro _ _ ⟨am,cm,rfl,om,ym,rfl⟩
    have HOM:=lH om;clear om
    go_wp2_with (first|((with_reducible refine wp_region_later (by kernel_rfl) (by kernel_rfl) ?_);(repeat(first|go_big_quiet_step (first|fail)));refine wpQuiet_nil ?_;rintro _ ⟨x,rfl⟩)|(refine stepLoad rfl _ (.tmp 51) rfl (z.w.heap.size) 0 (by kernel_rfl) (row:=[.int .i64 ex.File,.int .i64 ex.Size,.int .i64 ex.Check,.slice ea0 ex.Parts.length ec0]) (HF.out.to inferInstance) _ Tryz.underlying172 rfl (by rw[show([.int .i64 ex.File,.int .i64 ex.Size,.int .i64 ex.Check,.slice ea0 ex.Parts.length ec0]:List Value).length=4 from rfl];kernel_rfl) (by rw[List.drop_zero,List.take_length]) ?_))
    refine(c_iFileText (HEQ.out.toSlStr.to inferInstance) rfl HEP.out.1 HEP.out.2).mono ?_
    rintro _ _ ⟨rfl,yf,rfl⟩
    obtain⟨V,hV⟩:∃ V,yf.w=V:=⟨_,rfl⟩
    have HGz:=lH (show Grows z.w V from hV▸inferInstance)
    have HGm:=lH (show Grows ym.w V from hV▸inferInstance)
    rw[hV];clear hV
    haveI:Grows ((w.alloc (.cells vs.toArray 90)).alloc (.cells zMission.toArray 90)) V:=growsTr (inferInstance:Grows ((w.alloc (.cells vs.toArray 90)).alloc (.cells zMission.toArray 90)) z.w) HGz.out;haveI:Grows z.w V:=HGz.out;haveI:Grows ym.w V:=HGm.out
    have HMV:=lH (hM.out.to HGz.out);have HOV:=lH (HOM.out.to HGm.out)
    have HT0:∀ (W:World) [Grows V W],W.cell? ⟨tg,k,none⟩=some (.bool ((askSt m k).2.getD k false)):=fun W g=>@ht0 W (growsTr HGz.out g)
    clear ht0 eh0 eh1 eh2 eh3 HEQ HOM
    obtain⟨wf,hwf⟩:∃ b,wholeF ex=b:=⟨_,rfl⟩
    rw[show textIs ex.File ex.Size ex.Check ex.Parts=wf from hwf]
    simp only[tupText]
    have HWF:=lH hwf;clear hwf
    have HTC:=lH (show(cM (tellM m (askSt m k)) A1)[32]?=some (.slice (some ⟨tg,0,none⟩) (askSt m k).2.length A1.c8)by rw[← HTg.out];rfl)
    have hk8:k<(askSt m k).2.length:=HT8a.out
    obtain⟨b8,hb8⟩:∃ b,(askSt m k).2.getD k false=b:=⟨_,rfl⟩
    rw[hb8]at HT0
    have HB8:=lH hb8;clear hb8
    go_upto_region 10 with fail
    go_cut [65]from 44 to 102 (fun s1 wx=>s1=.bool (wf && !b8)∧wx=V)
    case first =>
     cases wf
     ·go_wp2_with (first|((with_reducible refine wp_region_later (by kernel_rfl) (by kernel_rfl) ?_);(repeat(first|go_big_quiet_step (first|fail)));refine wpQuiet_nil ?_;rintro _ ⟨x,rfl⟩))
      go_meet
      case rel=>exact⟨rfl,rfl⟩
     ·go_wp2_with (first|((with_reducible refine wp_region_later (by kernel_rfl) (by kernel_rfl) ?_);(repeat(first|go_big_quiet_step (first|fail)));refine wpQuiet_nil ?_;rintro _ ⟨x,rfl⟩)|(refine stepLoad1Q (by(go_simp;done)) _ (.tmp 59) rfl (y1.w.heap.size) 32 (by kernel_rfl) (HMV.out.held.to inferInstance) (.slice (some ⟨tg,0,none⟩) (askSt m k).2.length A1.c8) (HTC.out) _ Tryz.underlying41 rfl ?_))
      go_meet
      case rel=>exact⟨rfl,rfl⟩
    case rest =>
     obtain⟨rfl,hwc⟩:=hcut
     rw[hwc];clear hwc
     cases hA:(wf && !b8)
     ·have HA:=lH hA;clear hA
      have HLO:=lH (ask_offers HT4.out k)
      have HML:=lH (show(missL ex.File ex.Size ex.Check ex.Parts).length≤1000000000 from ask_miss ex HEP.out.1)
      by_cases hmi:0<(missL ex.File ex.Size ex.Check ex.Parts).length
      ·go_wp2_with (first|((with_reducible refine wp_region_later (by kernel_rfl) (by kernel_rfl) ?_);(repeat(first|go_big_quiet_step (first|fail)|simp only[hmi]));refine wpQuiet_nil ?_;rintro _ ⟨x,rfl⟩))
       refine wp_region_stabZ (by kernel_rfl) (T:=[11,12,13,14]) (Zs:=[(0,[])]) (H:=[(4,[]),(5,[]),(8,[]),(9,[]),(10,[])]) (C:=[10]) (Fs:=[(some 88,.v (.pointer (some ⟨y1.w.heap.size,16,none⟩))),(some 89,.v (.pointer (some ⟨y1.w.heap.size,16,none⟩))),(some 90,.v (.pointer (some ⟨y1.w.heap.size,16,none⟩))),(some 91,.v (.pointer (some ⟨y1.w.heap.size,16,none⟩))),(some 92,.v (.slice A1.a3 (askSt m k).1.length A1.c3)),(some 93,.v (.string (wordN 1 1))),(some 94,.v (.int .i64 k)),(some 95,.v (.slice am (missL ex.File ex.Size ex.Check ex.Parts).length cm)),(some 96,.v (.string (encMiss k (missL ex.File ex.Size ex.Check ex.Parts)))),(some 97,.v (.string (wordN 1 1++encMiss k (missL ex.File ex.Size ex.Check ex.Parts)))),(some 98,.sl V.heap.size 1 [.string (wordN 1 1++encMiss k (missL ex.File ex.Size ex.Check ex.Parts))] 9),(none,.v undef),(none,.v undef),(none,.v undef),(none,.v undef)]) (by kernel_rfl) (fun val W=>by kernel_rfl) ?obb ?lzb ?pnb ?tlb
       case obb =>
        refine⟨fun x=>?_,fun x=>?_,fun x=>?_,fun x=>?_,fun x=>?_,trivial⟩
        ·exact g_one (o:=16) (v:=.slice A1.a3 (askSt m k).1.length A1.c3) (HMV.out.held.to (inferInstance:Grows V x.w)) rfl (by kernel_rfl) rfl _ Tryz.underlying30 rfl
        ·refine g_call (f:=194) (args:=[.int .i64 1,.int .i64 1]) Tryz.func194 (by kernel_rfl) (by kernel_rfl) ((c_iPutWordN (by omega) (by omega)).mono ?_)
         rintro _ _ ⟨rfl,y,rfl⟩
         exact⟨_,rfl,⟨y,rfl⟩,rfl⟩
        ·refine g_call (f:=296) (args:=[.int .i64 k,.slice am (missL ex.File ex.Size ex.Check ex.Parts).length cm]) Tryz.func296 (by kernel_rfl) (by kernel_rfl) ((c_iEncodeMissing (l:=(missL ex.File ex.Size ex.Check ex.Parts)) (HOV.out.sl.to (inferInstance:Grows V x.w)) rfl HML.out).mono ?_)
         rintro _ _ ⟨rfl,y,rfl⟩
         exact⟨_,rfl,⟨y,rfl⟩,rfl⟩
        ·exact g_fn (k:=9) (by kernel_rfl) (run_add (by kernel_rfl) (pay_le k (missL ex.File ex.Size ex.Check ex.Parts)))
        ·exact g_sl rfl (by kernel_rfl) LeN.out
       case lzb =>
        refine⟨fun W hW=>chain0 ?_,trivial⟩
        intro W2
        kernel_rfl
       case pnb=>exact fun _ _ _ _ _ _ h=>h
       case tlb =>
        intro x
        refine chain1 fun v9 q9=>?_
        obtain⟨sb,rfl,hsb,hH⟩:=(show ∃ b,v9=.slice (some ⟨b,0,none⟩) 1 1∧V.heap.size≤b∧Held x.w b [.string (wordN 1 1++encMiss k (missL ex.File ex.Size ex.Check ex.Parts))] 9 from q9)
        clear q9
        have hMx:=HMV.out.to (inferInstance:Grows V x.w)
        refine tail4 rfl rfl rfl rfl ?_
        simp only[put_nrm,put_nrm2]
        simp only[Act.put,List.setIfInBounds_toArray,List.set_cons_succ,List.set_cons_zero,if_true]
        refine wpList_app1F (enc:=encStr) (w0:=((w.alloc (.cells vs.toArray 90)).alloc (.cells zMission.toArray 90))) (z:=.string ⟨#[]⟩) (size:=1) (bytes:=16) (n:=(askSt m k).1.length) (B:=B0) (wordN 1 1++encMiss k (missL ex.File ex.Size ex.Check ex.Parts)) rfl (.tmp 92) (.tmp 98) rfl Tryz.underlying30 (by kernel_rfl) rfl (by decide) (by decide) (by kernel_rfl) (by kernel_rfl) rfl (hMx.own fGOffers) hH rfl (encStr_one _) HLO.out (Nat.le_trans hMx.le (Nat.le_of_lt hMx.lt)) (growsTr (inferInstance:Grows ((w.alloc (.cells vs.toArray 90)).alloc (.cells zMission.toArray 90)) V) (inferInstance:Grows V x.w)) hB2 ?_
        intro sa sc xw hown hgr hblk
        have hp:=(MBp.app (F:=fGOffers) HMV.out (inferInstance:Grows V x.w) hown hgr hblk (pay_good k (missL ex.File ex.Size ex.Check ex.Parts))).1
        (try simp only[Act.put,List.setIfInBounds_toArray])
        (try simp only[List.set_cons_succ])
        (try simp only[List.set_cons_zero])
        go_wp2_with (first|((with_reducible refine wp_region_later (by kernel_rfl) (by kernel_rfl) ?_);(repeat(first|go_big_quiet_step (first|fail)));refine wpQuiet_nil ?_;rintro _ ⟨x,rfl⟩)|(refine step_mbS rfl _ (.tmp 101) (.tmp 99) rfl hp (by kernel_rfl) (by rw[show(fGOffers.get (tellM m (askSt m k))++[(wordN 1 1++encMiss k (missL ex.File ex.Size ex.Check ex.Parts))]).length=(askSt m k).1.length+1 from List.length_append];kernel_rfl) (by kernel_rfl) (w0:=((w.alloc (.cells vs.toArray 90)).alloc (.cells zMission.toArray 90))) inferInstance hB2 ?_;intro z1 hz1 hX1))
        have hw64:=lH (ask_w HLT.out H8.out)
        go_roundw
        case rel=>exact⟨k+1,z1,fGOffers.sa A1 sa sc,by rw[hw64.out],HLT.out,rfl,(show MB _ _ _ _ _ _ from by rw[ask_offer ehd.out HWF.out HB8.out HA.out hmi];exact hz1),⟨h7.out.1.trans HE7.out,h7.out.2⟩⟩
        case measure=>rw[hw64.out];exact ask_m HLT.out
      ·go_wp2_with (first|((with_reducible refine wp_region_later (by kernel_rfl) (by kernel_rfl) ?_);(repeat(first|go_big_quiet_step (first|fail)|simp only[hmi]));refine wpQuiet_nil ?_;rintro _ ⟨x,rfl⟩))
       have hw64:=lH (ask_w HLT.out H8.out)
       go_roundw
       case rel=>exact⟨k+1,⟨V,(inferInstance:Grows ((w.alloc (.cells vs.toArray 90)).alloc (.cells zMission.toArray 90)) V).out⟩,A1,by rw[hw64.out],HLT.out,rfl,(show MB _ _ _ _ _ _ from by rw[ask_same ehd.out HWF.out HB8.out HA.out hmi];exact HMV.out),⟨h7.out.1.trans HE7.out,h7.out.2⟩⟩
       case measure=>rw[hw64.out];exact ask_m HLT.out
     go_wp2_with (first|((with_reducible refine wp_region_later (by kernel_rfl) (by kernel_rfl) ?_);(repeat(first|go_big_quiet_step (first|fail)));refine wpQuiet_nil ?_;rintro _ ⟨x,rfl⟩))
     have HLO:=lH (ask_offers HT4.out k)
     refine wp_region_stabZ (by kernel_rfl) (T:=[10,11,12,13]) (Zs:=[(0,[])]) (H:=[(4,[]),(5,[]),(7,[]),(8,[]),(9,[])]) (C:=[9]) (Fs:=[(some 66,.v (.pointer (some ⟨y1.w.heap.size,16,none⟩))),(some 67,.v (.pointer (some ⟨y1.w.heap.size,16,none⟩))),(some 68,.v (.pointer (some ⟨y1.w.heap.size,16,none⟩))),(some 69,.v (.pointer (some ⟨y1.w.heap.size,16,none⟩))),(some 70,.v (.slice A1.a3 (askSt m k).1.length A1.c3)),(some 71,.v (.string (wordN 1 1))),(some 72,.v (.int .i64 k)),(some 73,.v (.string (encMiss k []))),(some 74,.v (.string (wordN 1 1++encMiss k []))),(some 75,.sl V.heap.size 1 [.string (wordN 1 1++encMiss k [])] 9),(none,.v undef),(none,.v undef),(none,.v undef),(none,.v undef)]) (by kernel_rfl) (fun val W=>by kernel_rfl) ?oba ?lza ?pna ?tla
     case oba =>
      refine⟨fun x=>?_,fun x=>?_,fun x=>?_,fun x=>?_,fun x=>?_,trivial⟩
      ·exact g_one (o:=16) (v:=.slice A1.a3 (askSt m k).1.length A1.c3) (HMV.out.held.to (inferInstance:Grows V x.w)) rfl (by kernel_rfl) rfl _ Tryz.underlying30 rfl
      ·refine g_call (f:=194) (args:=[.int .i64 1,.int .i64 1]) Tryz.func194 (by kernel_rfl) (by kernel_rfl) ((c_iPutWordN (by omega) (by omega)).mono ?_)
       rintro _ _ ⟨rfl,y,rfl⟩
       exact⟨_,rfl,⟨y,rfl⟩,rfl⟩
      ·refine g_call (f:=296) (args:=[.int .i64 k,.slice none 0 0]) Tryz.func296 (by kernel_rfl) (by kernel_rfl) ((c_iEncodeMissing (l:=[]) (fun i x hx=>by simp at hx) rfl (by decide)).mono ?_)
       rintro _ _ ⟨rfl,y,rfl⟩
       exact⟨_,rfl,⟨y,rfl⟩,rfl⟩
      ·exact g_fn (k:=8) (by kernel_rfl) (run_add (by kernel_rfl) (pay_le k []))
      ·exact g_sl rfl (by kernel_rfl) LeN.out
     case lza =>
      refine⟨fun W hW=>chain0 ?_,trivial⟩
      intro W2
      kernel_rfl
     case pna=>exact fun _ _ _ _ _ _ h=>h
     case tla =>
      intro x
      refine chain1 fun v9 q9=>?_
      obtain⟨sb,rfl,hsb,hH⟩:=(show ∃ b,v9=.slice (some ⟨b,0,none⟩) 1 1∧V.heap.size≤b∧Held x.w b [.string (wordN 1 1++encMiss k [])] 9 from q9)
      clear q9
      have hMx:=HMV.out.to (inferInstance:Grows V x.w)
      refine tail4 rfl rfl rfl rfl ?_
      simp only[put_nrm,put_nrm2]
      simp only[Act.put,List.setIfInBounds_toArray,List.set_cons_succ,List.set_cons_zero,if_true]
      refine wpList_app1F (enc:=encStr) (w0:=((w.alloc (.cells vs.toArray 90)).alloc (.cells zMission.toArray 90))) (z:=.string ⟨#[]⟩) (size:=1) (bytes:=16) (n:=(askSt m k).1.length) (B:=B0) (wordN 1 1++encMiss k []) rfl (.tmp 70) (.tmp 75) rfl Tryz.underlying30 (by kernel_rfl) rfl (by decide) (by decide) (by kernel_rfl) (by kernel_rfl) rfl (hMx.own fGOffers) hH rfl (encStr_one _) HLO.out (Nat.le_trans hMx.le (Nat.le_of_lt hMx.lt)) (growsTr (inferInstance:Grows ((w.alloc (.cells vs.toArray 90)).alloc (.cells zMission.toArray 90)) V) (inferInstance:Grows V x.w)) hB2 ?_
      intro sa sc xw hown hgr hblk
      have hp:=(MBp.app (F:=fGOffers) HMV.out (inferInstance:Grows V x.w) hown hgr hblk (pay_good k [])).1
      (try simp only[Act.put,List.setIfInBounds_toArray])
      (try simp only[List.set_cons_succ])
      (try simp only[List.set_cons_zero])
      go_wp2_with (first|((with_reducible refine wp_region_later (by kernel_rfl) (by kernel_rfl) ?_);(repeat(first|go_big_quiet_step (first|fail)));refine wpQuiet_nil ?_;rintro _ ⟨x,rfl⟩)|(refine step_mbS rfl _ (.tmp 78) (.tmp 76) rfl hp (by kernel_rfl) (by rw[show(fGOffers.get (tellM m (askSt m k))++[(wordN 1 1++encMiss k [])]).length=(askSt m k).1.length+1 from List.length_append];kernel_rfl) (by kernel_rfl) (w0:=((w.alloc (.cells vs.toArray 90)).alloc (.cells zMission.toArray 90))) inferInstance hB2 ?_;intro z1 hz1 hX1)|(refine stepLoad1Q (by kernel_rfl) _ (.tmp 81) rfl (y1.w.heap.size) 32 (by kernel_rfl) (hz1.held.to inferInstance) (.slice (some ⟨tg,0,none⟩) (askSt m k).2.length A1.c8) ((by rw[← HTg.out];rfl)) _ Tryz.underlying41 rfl ?_)|(refine step_mbE rfl _ (.tmp 84) _ rfl fGTold hz1 HTg.out rfl (by kernel_rfl) (v0:=.bool true) (by kernel_rfl) (by kernel_rfl) rfl hk8 (y0:=true) rfl trivial (w0:=((w.alloc (.cells vs.toArray 90)).alloc (.cells zMission.toArray 90))) inferInstance hB2 ?_;intro z2 hz2 hX2))
      have hw64:=lH (ask_w HLT.out H8.out)
      go_roundw
      case rel=>exact⟨k+1,z2,fGOffers.sa A1 sa sc,by rw[hw64.out],HLT.out,rfl,(show MB _ _ _ _ _ _ from by rw[ask_tell ehd.out HWF.out HB8.out hA];exact hz2),⟨h7.out.1.trans HE7.out,h7.out.2⟩⟩
      case measure=>rw[hw64.out];exact ask_m HLT.out
   ·obtain rfl:k=m.Ground.Files.length:=by omega
    rw[show askSt m m.Ground.Files.length=askFrom 0 m.Ground.Files (m.Ground.Offers,m.Ground.Told)by unfold askSt;rw[List.take_length]]at hM
    have HTF:=lH (show Enc.tot (tellM m (askFrom 0 m.Ground.Files (m.Ground.Offers,m.Ground.Told)))≤100000000 from ask_tot HT4.out)
    go_wp2_with (first|((with_reducible refine wp_region_later (by kernel_rfl) (by kernel_rfl) ?_);(repeat(first|go_big_quiet_step (first|fail)));refine wpQuiet_nil ?_;rintro _ ⟨x,rfl⟩)|(refine stepLoad rfl _ (.tmp 3) rfl (y1.w.heap.size) 0 (by kernel_rfl) (row:=(cM (tellM m (askFrom 0 m.Ground.Files (m.Ground.Offers,m.Ground.Told))) A1)) (hM.out.held.to inferInstance) _ Tryz.underlying90 rfl (by rw[cM_len];kernel_rfl) (by rw[List.drop_zero,List.take_length]) ?_))
    refine(c_iMissionOk (m:=(tellM m (askFrom 0 m.Ground.Files (m.Ground.Offers,m.Ground.Told)))) (Enc.keep hM.out.rd (@Keeps.grows _ _ _ inferInstance)) HTF.out).mono ?_
    rintro _ _ ⟨rfl,y5,rfl⟩
    cases g5:missionOk (tellM m (askFrom 0 m.Ground.Files (m.Ground.Offers,m.Ground.Told)))
    ·go_wp2_with (first|((with_reducible refine wp_region_later (by kernel_rfl) (by kernel_rfl) ?_);(repeat(first|go_big_quiet_step (first|fail)));refine wpQuiet_nil ?_;rintro _ ⟨x,rfl⟩)|(refine stepLoad rfl _ (.tmp 1) rfl (w.heap.size) 0 (by kernel_rfl) (row:=vs) (HB.out.to inferInstance) _ Tryz.underlying90 rfl (by rw[HL.out];kernel_rfl) (by rw[List.drop_zero,List.take_length]) ?_))
     refine(o_cloneMission (x:=m) (Enc.keep HM.out inferInstance) HT8.out).mono ?_
     rintro _ _ ⟨cs2,χ2,rfl,hO2,y6,rfl⟩
     have HL2:=lH (len_mission (EncO.toRd hO2));have HO2:=lH (one_mission (EncO.toRd hO2));have HOO2:=lH hO2;clear hO2
     go_wp2_with (first|((with_reducible refine wp_region_later (by kernel_rfl) (by kernel_rfl) ?_);(repeat(first|go_big_quiet_step (first|fail)));refine wpQuiet_nil ?_;rintro _ ⟨x,rfl⟩)|(refine stepStore2 rfl _ (.tmp 2) _ rfl (w.heap.size+1) 0 (by kernel_rfl) (us:=cs2) (cs2:=cs2) (HR.out.to inferInstance) ?a81 ?a82 ?a83 ?a84 ?a85 (w0:=w) inferInstance (by simp) ?_;(case a81=>kernel_rfl);(case a82=>(rw[HL2.out];kernel_rfl));(case a83=>exact HO2.out);(case a84=>(rw[HL2.out];exact Nat.le_of_ble_eq_true rfl));(case a85=>exact splice_all (by rw[HL2.out];rfl));intro z8 hx kx;have HX8:=lH hx;clear hx;have KX8:=lH kx;clear kx))
     refine bodyPost_ret (v:=.agg cs2.toArray) (results_cell (P:=Tryz.prog) rfl rfl HX8.out _ Tryz.underlying90 rfl (by rw[HL2.out];kernel_rfl)) rfl ?_
     rw[show askMissing m=m by unfold askMissing;rw[if_pos HN.out,if_neg (by rw[g5];decide)]]
     exact⟨_,χ2,rfl,om_mono (om_keep HOO2.out (KX8.out.above.more LeN.out)) LeN.out,Later.of⟩
    ·go_wp2_with (first|((with_reducible refine wp_region_later (by kernel_rfl) (by kernel_rfl) ?_);(repeat(first|go_big_quiet_step (first|fail)));refine wpQuiet_nil ?_;rintro _ ⟨x,rfl⟩)|(refine stepLoad rfl _ (.tmp 3) rfl (y1.w.heap.size) 0 (by kernel_rfl) (row:=(cM (tellM m (askFrom 0 m.Ground.Files (m.Ground.Offers,m.Ground.Told))) A1)) (hM.out.held.to inferInstance) _ Tryz.underlying90 rfl (by rw[cM_len];kernel_rfl) (by rw[List.drop_zero,List.take_length]) ?_)|(refine stepStore2 rfl _ (.tmp 2) _ rfl (w.heap.size+1) 0 (by kernel_rfl) (us:=(cM (tellM m (askFrom 0 m.Ground.Files (m.Ground.Offers,m.Ground.Told))) A1)) (cs2:=(cM (tellM m (askFrom 0 m.Ground.Files (m.Ground.Offers,m.Ground.Told))) A1)) (HR.out.to inferInstance) ?a71 ?a72 ?a73 ?a74 ?a75 (w0:=w) inferInstance (by simp) ?_;(case a71=>kernel_rfl);(case a72=>(rw[cM_len];kernel_rfl));(case a73=>exact cM_one _ _);(case a74=>(rw[cM_len];exact Nat.le_of_ble_eq_true rfl));(case a75=>exact splice_all (by rw[cM_len];rfl));intro z7 hx kx;have HX7:=lH hx;clear hx;have KX7:=lH kx;clear kx))
     refine bodyPost_ret (v:=.agg (cM (tellM m (askFrom 0 m.Ground.Files (m.Ground.Offers,m.Ground.Told))) A1).toArray) (results_cell (P:=Tryz.prog) rfl rfl HX7.out _ Tryz.underlying90 rfl (by kernel_rfl)) rfl ?_
     rw[show askMissing m=(tellM m (askFrom 0 m.Ground.Files (m.Ground.Offers,m.Ground.Told)))by unfold askMissing;rw[if_pos HN.out,if_pos g5]]
     obtain⟨χ9,hO9⟩:=(hM.out.to (inferInstance:Grows z.w y5.w)).o
     exact⟨_,χ9,rfl,om_mono (om_keep hO9 (KX7.out.above.more (by omega))) (by omega),Later.of⟩
end Go.Proofs.YtdinhfeflobafaaGreat
