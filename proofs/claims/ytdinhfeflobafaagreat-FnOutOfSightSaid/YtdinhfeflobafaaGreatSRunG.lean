/- RunBoard of the reference, RunMission of the program. No condition but on sizes. -/
import Derived.Test.YtdinhfeflobafaaGreatSM39
import Derived.Deep.CutRange
namespace Go.Proofs.YtdinhfeflobafaaGreat
set_option linter.unusedVariables false
open Go.ChangeShapes Go.WideShapes Go.ChangeAt Go.RowKit
set_option maxRecDepth 100000 in
set_option maxHeartbeats 4000000 in
theorem o_sRunBoardG{B n:Nat}{vs:List Value}{m:TBoard}{w:World}(f:Nat→TBoard)(h:Enc.Rd B w vs m)(ht:Enc.tot m≤100000000)(h0:f 0=m)(hn:n≤5000)(HS:∀ k,k<n→∀ {B:Nat} {vs:List Value} {w:World},Enc.Rd B w vs (f k)→Calls Tryz.prog 33 #[.agg vs.toArray] w (GivesO w (f (k+1)))) :
  Calls Tryz.prog 19 #[.agg vs.toArray,.int .i64 n] w (GivesO w (f n)):=by
 have HL:=lH (len_board h)
 have HM:=lH h;clear h
 have HT:=lH ht;clear ht
 have H0:=lH h0;clear h0
 have HB:=lH ((Held.new w vs 84 w.heap.size rfl).to (inferInstance:Grows _ ((w.alloc (.cells vs.toArray 84)).alloc (.cells zBoard.toArray 84))))
 have HR:=lH (Held.new (w.alloc (.cells vs.toArray 84)) zBoard 84 (w.heap.size+1) (by simp))
 have gW:Grows w ((w.alloc (.cells vs.toArray 84)).alloc (.cells zBoard.toArray 84)):=inferInstance
 have hsz:((w.alloc (.cells vs.toArray 84)).alloc (.cells zBoard.toArray 84)).heap.size=w.heap.size+2:=by simp
 go_enter Tryz.func19,Tryz.ntmps19
 go_upto_region 1 with(first|((with_reducible refine wp_region_later (by kernel_rfl) (by kernel_rfl) ?_);(repeat(first|go_big_quiet_step (first|fail)));refine wpQuiet_nil ?_;rintro _ ⟨x,rfl⟩))
 generalize ((w.alloc (.cells vs.toArray 84)).alloc (.cells zBoard.toArray 84))=W2 at HB HR gW hsz ⊢
 have iB:LtN w.heap.size W2.heap.size:=⟨by omega⟩
 have iR:LtN (w.heap.size+1) W2.heap.size:=⟨by omega⟩
 have hW2:w.heap.size≤W2.heap.size:=by omega
 go_wp2_with (first|(refine stepLoad rfl _ (.tmp 2) rfl (w.heap.size) 0 (by kernel_rfl) (row:=vs) (HB.out.to inferInstance) _ Tryz.underlying84 rfl (by rw[HL.out];kernel_rfl) (by rw[List.drop_zero,List.take_length]) ?_))
 refine(o_copyBoard (x:=m) (Enc.keep HM.out inferInstance) HT.out).mono ?_
 rintro _ _ ⟨cs,χ,rfl,hO,y1,rfl⟩
 have HLC:=lH (len_board (EncO.toRd hO));have HOC:=lH (one_board (EncO.toRd hO));have HO:=lH hO;clear hO
 go_upto_region 2 with(first|((with_reducible refine wp_region_later (by kernel_rfl) (by kernel_rfl) ?_);(repeat(first|go_big_quiet_step (first|fail)));refine wpQuiet_nil ?_;rintro _ ⟨x,rfl⟩)|(refine stepStore2 rfl _ _ _ rfl _ 0 rfl (us:=cs) (cs2:=cs) (Held.new _ zBoard 84 _ rfl) ?a11 ?a12 ?a13 ?a14 ?a15 (w0:=W2) inferInstance LeN.out ?_;(case a11=>rfl);(case a12=>(rw[HLC.out];kernel_rfl));(case a13=>exact HOC.out);(case a14=>(rw[HLC.out];exact Nat.le_of_ble_eq_true rfl));(case a15=>exact splice_all HLC.out);intro z1 hx kx;have HX1:=lH hx;clear hx;have KX1:=lH kx;clear kx))
 (try simp only[Act.put])
 obtain⟨qb,hqb⟩:∃ qb,y1.w.heap.size=qb:=⟨_,rfl⟩
 rw[hqb]
 have hq1:W2.heap.size≤qb:=hqb▸y1.size_le
 have HQ:=lH (show EncO.O W2.heap.size χ 0 z1.w cs m∧Held z1.w qb cs 84 from hqb▸⟨OBox.map HO.out (.keep (KX1.out.under inferInstance (Nat.le_refl _))),HX1.out⟩)
 clear hqb HX1 KX1 HO HLC HOC
 go_wp2_with fail
 refine(c_sl01In).mono ?_
 rintro _ _ ⟨rfl,y2,rfl⟩
 rw[show inB (n:Int) 0 5000=true from inB_iff.2 ⟨by omega,by omega⟩]
 go_wp2_with fail
 go_loopw [6] (fun v wr=>∃ k:Nat,v=.int .i64 k∧k≤n∧(∃ (vs1:List Value) (χ1:Nat→Col),Hid (EncO.O W2.heap.size χ1 0 wr vs1 (f k))∧Hid (Held wr qb vs1 84))∧∃ y:Later W2,wr=y.w) (fun v _=>(n - intOf v).toNat)
 case atStart=>exact⟨0,rfl,Nat.zero_le _,⟨cs,χ,by rw[H0.out];exact OBox.map HQ.out.1 (.to inferInstance),HQ.out.2.to inferInstance⟩,Later.of⟩
 case round =>
  obtain⟨k,rfl,hk,⟨vs1,χ1,HO1,HH1⟩,y,rfl⟩:=hrel
  have HL1:=lH (len_board (EncO.toRd HO1.out));have H11:=lH (one_board (EncO.toRd HO1.out))
  by_cases hkn:k<n
  ·have kc:decide ((k:Int)<(n:Int))=true:=by simp;omega
   go_wp2_with (first|((with_reducible refine wp_region_later (by kernel_rfl) (by kernel_rfl) ?_);(repeat(first|go_big_quiet_step (first|fail)|simp only[kc]));refine wpQuiet_nil ?_;rintro _ ⟨x,rfl⟩)|(refine stepLoad rfl _ (.tmp 5) rfl (qb) 0 (by kernel_rfl) (row:=vs1) (HH1.out.to inferInstance) _ Tryz.underlying84 rfl (by rw[HL1.out];kernel_rfl) (by rw[List.drop_zero,List.take_length]) ?_))
   refine(HS k hkn (Enc.keep (EncO.toRd HO1.out) inferInstance)).mono ?_
   rintro _ _ ⟨vs2,χ2,rfl,hO2,y3,rfl⟩
   have HL2:=lH (len_board (EncO.toRd hO2));have H12:=lH (one_board (EncO.toRd hO2));have HO2:=lH hO2;clear hO2
   have hql:=HH1.out.lt
   go_upto_region 6 with(first|((with_reducible refine wp_region_later (by kernel_rfl) (by kernel_rfl) ?_);(repeat(first|go_big_quiet_step (first|fail)));refine wpQuiet_nil ?_;rintro _ ⟨x,rfl⟩)|(refine stepStore2 rfl _ (.tmp 5) _ rfl (qb) 0 rfl (us:=vs2) (cs2:=vs2) (HH1.out.to inferInstance) ?a51 ?a52 ?a53 ?a54 ?a55 (w0:=W2) inferInstance hq1 ?_;(case a51=>rfl);(case a52=>(rw[HL2.out];kernel_rfl));(case a53=>exact H12.out);(case a54=>(rw[HL2.out,HL1.out];exact Nat.le_of_ble_eq_true rfl));(case a55=>exact splice_all (HL2.out.trans HL1.out.symm));intro z5 hx kx;have HX5:=lH hx;clear hx;have KX5:=lH kx;clear kx))
   (try simp only[Act.put])
   have HO5:=lH (obox_fin HO2.out KX5.out (Nat.lt_of_lt_of_le hql (Nat.le_refl _)) (Nat.le_trans hq1 (Nat.le_of_lt hql)))
   have HH5:=lH HX5.out
   go_wp2_with fail
   go_roundw
   case rel=>exact⟨k+1,by go_num,by omega,⟨vs2,χ2,obox_to HO5.out inferInstance,HH5.out.to inferInstance⟩,Later.of⟩
   case measure=>simp[intOf];omega
  ·obtain rfl:k=n:=by omega
   have kc:decide ((k:Int)<(k:Int))=false:=by simp
   go_wp2_with (first|((with_reducible refine wp_region_later (by kernel_rfl) (by kernel_rfl) ?_);(repeat(first|go_big_quiet_step (first|fail)|simp only[kc]));refine wpQuiet_nil ?_;rintro _ ⟨x,rfl⟩)|(refine stepLoad rfl _ (.tmp 5) rfl (qb) 0 (by kernel_rfl) (row:=vs1) (HH1.out.to inferInstance) _ Tryz.underlying84 rfl (by rw[HL1.out];kernel_rfl) (by rw[List.drop_zero,List.take_length]) ?_)|(refine stepStore2 rfl _ _ _ rfl (w.heap.size+1) 0 rfl (us:=vs1) (cs2:=vs1) (HR.out.to inferInstance) ?a91 ?a92 ?a93 ?a94 ?a95 (w0:=w) inferInstance (by omega) ?_;(case a91=>rfl);(case a92=>(rw[HL1.out];kernel_rfl));(case a93=>exact H11.out);(case a94=>(rw[HL1.out];exact Nat.le_of_ble_eq_true rfl));(case a95=>exact splice_all HL1.out);intro z9 hx kx;have HX9:=lH hx;clear hx;have KX9:=lH kx;clear kx))
   refine bodyPost_ret (v:=.agg vs1.toArray) (results_cell (P:=Tryz.prog) rfl rfl HX9.out _ Tryz.underlying84 rfl (by rw[HL1.out];kernel_rfl)) rfl ?_
   exact⟨vs1,χ1,rfl,obox_fin (obox_to HO1.out inferInstance) KX9.out (show w.heap.size+1<W2.heap.size by omega) hW2,Later.of⟩
set_option maxRecDepth 100000 in
set_option maxHeartbeats 4000000 in
theorem o_iRunMissionG{B n:Nat}{vs:List Value}{m:TMission}{w:World}(f:Nat→TMission)(h:Enc.Rd B w vs m)(ht:Enc.tot m≤100000000)(h0:f 0=m)(hn:n≤1000)(HS:∀ k,k<n→∀ {B:Nat} {vs:List Value} {w:World},Enc.Rd B w vs (f k)→Calls Tryz.prog 86 #[.agg vs.toArray] w (GivesO w (f (k+1)))) :
  Calls Tryz.prog 18 #[.agg vs.toArray,.int .i64 n] w (GivesO w (f n)):=by
 have HL:=lH (len_mission h)
 have HM:=lH h;clear h
 have HT:=lH ht;clear ht
 have H0:=lH h0;clear h0
 have HB:=lH ((Held.new w vs 90 w.heap.size rfl).to (inferInstance:Grows _ ((w.alloc (.cells vs.toArray 90)).alloc (.cells zMission.toArray 90))))
 have HR:=lH (Held.new (w.alloc (.cells vs.toArray 90)) zMission 90 (w.heap.size+1) (by simp))
 have gW:Grows w ((w.alloc (.cells vs.toArray 90)).alloc (.cells zMission.toArray 90)):=inferInstance
 have hsz:((w.alloc (.cells vs.toArray 90)).alloc (.cells zMission.toArray 90)).heap.size=w.heap.size+2:=by simp
 go_enter Tryz.func18,Tryz.ntmps18
 go_upto_region 1 with(first|((with_reducible refine wp_region_later (by kernel_rfl) (by kernel_rfl) ?_);(repeat(first|go_big_quiet_step (first|fail)));refine wpQuiet_nil ?_;rintro _ ⟨x,rfl⟩))
 generalize ((w.alloc (.cells vs.toArray 90)).alloc (.cells zMission.toArray 90))=W2 at HB HR gW hsz ⊢
 have iB:LtN w.heap.size W2.heap.size:=⟨by omega⟩
 have iR:LtN (w.heap.size+1) W2.heap.size:=⟨by omega⟩
 have hW2:w.heap.size≤W2.heap.size:=by omega
 go_wp2_with (first|(refine stepLoad rfl _ (.tmp 2) rfl (w.heap.size) 0 (by kernel_rfl) (row:=vs) (HB.out.to inferInstance) _ Tryz.underlying90 rfl (by rw[HL.out];kernel_rfl) (by rw[List.drop_zero,List.take_length]) ?_))
 refine(o_cloneMission (x:=m) (Enc.keep HM.out inferInstance) HT.out).mono ?_
 rintro _ _ ⟨cs,χ,rfl,hO,y1,rfl⟩
 have HLC:=lH (len_mission (EncO.toRd hO));have HOC:=lH (one_mission (EncO.toRd hO));have HO:=lH hO;clear hO
 go_upto_region 2 with(first|((with_reducible refine wp_region_later (by kernel_rfl) (by kernel_rfl) ?_);(repeat(first|go_big_quiet_step (first|fail)));refine wpQuiet_nil ?_;rintro _ ⟨x,rfl⟩)|(refine stepStore2 rfl _ _ _ rfl _ 0 rfl (us:=cs) (cs2:=cs) (Held.new _ zMission 90 _ rfl) ?a11 ?a12 ?a13 ?a14 ?a15 (w0:=W2) inferInstance LeN.out ?_;(case a11=>rfl);(case a12=>(rw[HLC.out];kernel_rfl));(case a13=>exact HOC.out);(case a14=>(rw[HLC.out];exact Nat.le_of_ble_eq_true rfl));(case a15=>exact splice_all HLC.out);intro z1 hx kx;have HX1:=lH hx;clear hx;have KX1:=lH kx;clear kx))
 (try simp only[Act.put])
 obtain⟨qb,hqb⟩:∃ qb,y1.w.heap.size=qb:=⟨_,rfl⟩
 rw[hqb]
 have hq1:W2.heap.size≤qb:=hqb▸y1.size_le
 have HQ:=lH (show EncO.O W2.heap.size χ 0 z1.w cs m∧Held z1.w qb cs 90 from hqb▸⟨OBox.map HO.out (.keep (KX1.out.under inferInstance (Nat.le_refl _))),HX1.out⟩)
 clear hqb HX1 KX1 HO HLC HOC
 go_wp2_with fail
 refine(c_ibetween).mono ?_
 rintro _ _ ⟨rfl,y2,rfl⟩
 rw[show inB (n:Int) 0 1000=true from inB_iff.2 ⟨by omega,by omega⟩]
 go_wp2_with fail
 go_loopw [13] (fun v wr=>∃ k:Nat,v=.int .i64 k∧k≤n∧(∃ (vs1:List Value) (χ1:Nat→Col),Hid (EncO.O W2.heap.size χ1 0 wr vs1 (f k))∧Hid (Held wr qb vs1 90))∧∃ y:Later W2,wr=y.w) (fun v _=>(n - intOf v).toNat)
 case atStart=>exact⟨0,rfl,Nat.zero_le _,⟨cs,χ,by rw[H0.out];exact OBox.map HQ.out.1 (.to inferInstance),HQ.out.2.to inferInstance⟩,Later.of⟩
 case round =>
  obtain⟨k,rfl,hk,⟨vs1,χ1,HO1,HH1⟩,y,rfl⟩:=hrel
  have HL1:=lH (len_mission (EncO.toRd HO1.out));have H11:=lH (one_mission (EncO.toRd HO1.out))
  by_cases hkn:k<n
  ·have kc:decide ((k:Int)<(n:Int))=true:=by simp;omega
   go_wp2_with (first|((with_reducible refine wp_region_later (by kernel_rfl) (by kernel_rfl) ?_);(repeat(first|go_big_quiet_step (first|fail)|simp only[kc]));refine wpQuiet_nil ?_;rintro _ ⟨x,rfl⟩)|(refine stepLoad rfl _ (.tmp 5) rfl (qb) 0 (by kernel_rfl) (row:=vs1) (HH1.out.to inferInstance) _ Tryz.underlying90 rfl (by rw[HL1.out];kernel_rfl) (by rw[List.drop_zero,List.take_length]) ?_))
   refine(HS k hkn (Enc.keep (EncO.toRd HO1.out) inferInstance)).mono ?_
   rintro _ _ ⟨vs2,χ2,rfl,hO2,y3,rfl⟩
   have HL2:=lH (len_mission (EncO.toRd hO2));have H12:=lH (one_mission (EncO.toRd hO2));have HO2:=lH hO2;clear hO2
   have hql:=HH1.out.lt
   go_upto_region 7 with(first|((with_reducible refine wp_region_later (by kernel_rfl) (by kernel_rfl) ?_);(repeat(first|go_big_quiet_step (first|fail)));refine wpQuiet_nil ?_;rintro _ ⟨x,rfl⟩)|(refine stepStore2 rfl _ (.tmp 5) _ rfl (qb) 0 rfl (us:=vs2) (cs2:=vs2) (HH1.out.to inferInstance) ?a51 ?a52 ?a53 ?a54 ?a55 (w0:=W2) inferInstance hq1 ?_;(case a51=>rfl);(case a52=>(rw[HL2.out];kernel_rfl));(case a53=>exact H12.out);(case a54=>(rw[HL2.out,HL1.out];exact Nat.le_of_ble_eq_true rfl));(case a55=>exact splice_all (HL2.out.trans HL1.out.symm));intro z5 hx kx;have HX5:=lH hx;clear hx;have KX5:=lH kx;clear kx))
   (try simp only[Act.put])
   have HO5:=lH (obox_fin HO2.out KX5.out (Nat.lt_of_lt_of_le hql (Nat.le_refl _)) (Nat.le_trans hq1 (Nat.le_of_lt hql)))
   have HH5:=lH HX5.out
   go_wp2_with fail
   go_roundw
   case rel=>exact⟨k+1,by go_num,by omega,⟨vs2,χ2,obox_to HO5.out inferInstance,HH5.out.to inferInstance⟩,Later.of⟩
   case measure=>simp[intOf];omega
  ·obtain rfl:k=n:=by omega
   have kc:decide ((k:Int)<(k:Int))=false:=by simp
   go_wp2_with (first|((with_reducible refine wp_region_later (by kernel_rfl) (by kernel_rfl) ?_);(repeat(first|go_big_quiet_step (first|fail)|simp only[kc]));refine wpQuiet_nil ?_;rintro _ ⟨x,rfl⟩)|(refine stepLoad rfl _ (.tmp 5) rfl (qb) 0 (by kernel_rfl) (row:=vs1) (HH1.out.to inferInstance) _ Tryz.underlying90 rfl (by rw[HL1.out];kernel_rfl) (by rw[List.drop_zero,List.take_length]) ?_)|(refine stepStore2 rfl _ _ _ rfl (w.heap.size+1) 0 rfl (us:=vs1) (cs2:=vs1) (HR.out.to inferInstance) ?a91 ?a92 ?a93 ?a94 ?a95 (w0:=w) inferInstance (by omega) ?_;(case a91=>rfl);(case a92=>(rw[HL1.out];kernel_rfl));(case a93=>exact H11.out);(case a94=>(rw[HL1.out];exact Nat.le_of_ble_eq_true rfl));(case a95=>exact splice_all HL1.out);intro z9 hx kx;have HX9:=lH hx;clear hx;have KX9:=lH kx;clear kx))
   refine bodyPost_ret (v:=.agg vs1.toArray) (results_cell (P:=Tryz.prog) rfl rfl HX9.out _ Tryz.underlying90 rfl (by rw[HL1.out];kernel_rfl)) rfl ?_
   exact⟨vs1,χ1,rfl,obox_fin (obox_to HO1.out inferInstance) KX9.out (show w.heap.size+1<W2.heap.size by omega) hW2,Later.of⟩
end Go.Proofs.YtdinhfeflobafaaGreat
