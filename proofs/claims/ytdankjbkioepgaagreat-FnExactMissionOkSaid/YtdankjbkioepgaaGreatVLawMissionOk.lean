/- The walk of the law on MissionOk. No condition but on sizes. -/
import Derived.Test.YtdankjbkioepgaaGreatVM24
import Derived.Test.YtdankjbkioepgaaGreatVM36
namespace Go.Proofs.YtdankjbkioepgaaGreat
set_option linter.unusedVariables false
open Go.ChangeShapes Go.WideShapes Go.ChangeAt Go.RowKit

set_option maxRecDepth 100000 in
set_option maxHeartbeats 2000000 in
theorem c_lFnExactMissionOk {vs : List Value} {m : TMission} {w : World} (hm : Enc.Rd 0 w vs m) :
    Calls Tryz.prog 8 #[.agg vs.toArray] w (Gives w (.bool true)) := by
  have HL := Lib.hid (show vs.length = 61 from Enc.len hm)
  have HM := Lib.hid hm; clear hm
  have HB := Lib.hid (Held.new w vs 60 w.heap.size rfl)
  by_cases ht : (1048576 : Int) - Enc.tot m < 0
  · have HSZ := Lib.hid (szD_neg ht); clear ht
    go_enter Tryz.func8, Tryz.ntmps8
    go_wp2_with (first | ((with_reducible refine wp_region_later (by kernel_rfl) (by kernel_rfl) ?_); (repeat (first | go_big_quiet_step (first | fail))); refine wpQuiet_nil ?_; rintro _ ⟨x, rfl⟩) | (refine stepLoad rfl _ _ rfl w.heap.size 0 rfl (row := vs) (HB.out.to inferInstance) _ Tryz.underlying60 rfl (by rw [HL.out]; kernel_rfl) (by rw [List.drop_zero, List.take_length]) ?_))
    refine (d_lszMission (x := m) (Enc.keep HM.out inferInstance) (by omega) (by omega)).mono ?_
    rintro _ _ ⟨rfl, y0, rfl⟩
    rw [HSZ.out]
    go_wp2_with (first | ((with_reducible refine wp_region_later (by kernel_rfl) (by kernel_rfl) ?_); (repeat (first | go_big_quiet_step (first | fail))); refine wpQuiet_nil ?_; rintro _ ⟨x, rfl⟩))
    go_ret
    exact Gives.mk rfl
  have HSZ := Lib.hid (szD_pos ht)
  have hle : 0 ≤ (1048576 : Int) - Enc.tot m := by omega
  have HT := Lib.hid (show Enc.tot m ≤ 1048576 by omega)
  clear ht
  obtain ⟨v, hv⟩ : ∃ v, missionOk m = v := ⟨_, rfl⟩
  have HV := Lib.hid hv; clear hv
  have kb : (v != v) = false := by simp
  go_enter Tryz.func8, Tryz.ntmps8
  go_wp2_with (first | ((with_reducible refine wp_region_later (by kernel_rfl) (by kernel_rfl) ?_); (repeat (first | go_big_quiet_step (first | fail))); refine wpQuiet_nil ?_; rintro _ ⟨x, rfl⟩) | (refine stepLoad rfl _ _ rfl w.heap.size 0 rfl (row := vs) (HB.out.to inferInstance) _ Tryz.underlying60 rfl (by rw [HL.out]; kernel_rfl) (by rw [List.drop_zero, List.take_length]) ?_))
  refine (d_lszMission (x := m) (Enc.keep HM.out inferInstance) (by omega) (by omega)).mono ?_
  rintro _ _ ⟨rfl, y0, rfl⟩
  rw [HSZ.out]
  go_wp2_with (first | ((with_reducible refine wp_region_later (by kernel_rfl) (by kernel_rfl) ?_); (repeat (first | go_big_quiet_step (first | fail))); refine wpQuiet_nil ?_; rintro _ ⟨x, rfl⟩) | (refine stepLoad rfl _ _ rfl w.heap.size 0 rfl (row := vs) (HB.out.to inferInstance) _ Tryz.underlying60 rfl (by rw [HL.out]; kernel_rfl) (by rw [List.drop_zero, List.take_length]) ?_))
  refine (d_ltoMission (x := m) (Enc.keep HM.out inferInstance) HT.out).mono ?_
  rintro _ _ ⟨os, rfl, hR1, y1, rfl⟩
  have HR1 := Lib.hid hR1; clear hR1
  go_wp2_with (first | ((with_reducible refine wp_region_later (by kernel_rfl) (by kernel_rfl) ?_); (repeat (first | go_big_quiet_step (first | fail))); refine wpQuiet_nil ?_; rintro _ ⟨x, rfl⟩))
  refine (c_sMissionOk (m := m) HR1.out HT.out).mono ?_
  rintro _ _ ⟨rfl, y2, rfl⟩
  rw [HV.out]
  clear HR1
  go_wp2_with (first | ((with_reducible refine wp_region_later (by kernel_rfl) (by kernel_rfl) ?_); (repeat (first | go_big_quiet_step (first | fail))); refine wpQuiet_nil ?_; rintro _ ⟨x, rfl⟩) | (refine stepLoad rfl _ _ rfl w.heap.size 0 rfl (row := vs) (HB.out.to inferInstance) _ Tryz.underlying60 rfl (by rw [HL.out]; kernel_rfl) (by rw [List.drop_zero, List.take_length]) ?_))
  refine (d_ltoMission (x := m) (Enc.keep HM.out inferInstance) HT.out).mono ?_
  rintro _ _ ⟨ps, rfl, hR2, y3, rfl⟩
  have HLP := Lib.hid (show ps.length = 61 from Enc.len hR2)
  have HOP := Lib.hid (one_mission hR2)
  have HPF := Lib.hid hR2; clear hR2
  go_wp2_with (first | ((with_reducible refine wp_region_later (by kernel_rfl) (by kernel_rfl) ?_); (repeat (first | go_big_quiet_step (first | fail))); refine wpQuiet_nil ?_; rintro _ ⟨x, rfl⟩) | (refine stepStore2 rfl _ _ _ rfl _ 0 rfl (us := ps) (cs2 := ps) (Held.new _ [.int .i64 0, .int .i64 0, .int .i64 0, .int .i64 0, .int .i64 0, .int .i64 0, .int .i64 0, .slice none 0 0, .int .i64 0, .int .i64 0, .int .i64 0, .int .i64 0, .int .i64 0, .int .i64 0, .slice none 0 0, .slice none 0 0, .slice none 0 0, .int .i64 0, .int .i64 0, .slice none 0 0, .int .i64 0, .int .i64 0, .bool false, .bool false, .int .i64 0, .int .i64 0, .bool false, .string ⟨#[]⟩, .int .i64 0, .slice none 0 0, .slice none 0 0, .slice none 0 0, .slice none 0 0, .int .i64 0, .bool false, .bool false, .int .i64 0, .int .i64 0, .slice none 0 0, .bool false, .slice none 0 0, .slice none 0 0, .slice none 0 0, .int .i64 0, .slice none 0 0, .slice none 0 0, .int .i64 0, .int .i64 0, .slice none 0 0, .int .i64 0, .int .i64 0, .string ⟨#[]⟩, .slice none 0 0, .int .i64 0, .slice none 0 0, .slice none 0 0, .int .i64 0, .slice none 0 0, .slice none 0 0, .slice none 0 0, .int .i64 0] 91 _ rfl) ?a1 ?a2 ?a3 ?a4 ?a5 (w0 := (w.alloc (.cells vs.toArray 60))) inferInstance LeN.out ?a6; (case a1 => rfl); (case a2 => (rw [HLP.out]; kernel_rfl)); (case a3 => exact HOP.out); (case a4 => (rw [HLP.out]; exact Nat.le_of_ble_eq_true rfl)); (case a5 => exact splice_all HLP.out); intro zx hx kx; have HX := Lib.hid hx; clear hx; have KX := Lib.hid kx; clear kx) | (refine stepLoad rfl _ _ rfl _ 0 rfl (row := ps) (HX.out.to inferInstance) _ Tryz.underlying91 rfl (by rw [HLP.out]; kernel_rfl) (by rw [List.drop_zero, List.take_length]) ?_))
  have HPZ := Lib.hid (Enc.keep HPF.out (KX.out.under inferInstance (Nat.le_refl _)))
  refine (c_iMissionOk (m := m) (Enc.keep HPZ.out inferInstance) HT.out).mono ?_
  rintro _ _ ⟨rfl, y4, rfl⟩
  rw [HV.out]
  go_wp2_with (first | ((with_reducible refine wp_region_later (by kernel_rfl) (by kernel_rfl) ?_); (repeat (first | go_big_quiet_step (first | fail) | simp only [kb])); refine wpQuiet_nil ?_; rintro _ ⟨x, rfl⟩))
  have HXV := Lib.hid (HX.out.to (inferInstance : Grows _ (zx.andThen y4).w))
  have HBV := Lib.hid (HB.out.to (inferInstance : Grows _ (zx.andThen y4).w))
  have HPV := Lib.hid (Enc.keep HPZ.out (inferInstance : Keeps _ _ (zx.andThen y4).w))
  have HMV := Lib.hid (Enc.keep HM.out (inferInstance : Keeps _ _ (zx.andThen y4).w))
  obtain ⟨V, hV⟩ : ∃ V : Later (w.alloc (.cells vs.toArray 60)), (zx.andThen y4).w = V.w := ⟨_, rfl⟩
  rw [hV] at HXV HBV HPV HMV ⊢
  clear hV HX HB HPZ HM KX HPF
  refine wp_region_held_drew (S := fun W => Below V.w.heap.size V.w W) (by kernel_rfl) (Below.refl _ _).drew (fun hH => ?_)
  refine wpAnyH_take (i := 0) (v := _) rfl (by kernel_rfl) (by kernel_rfl) (by kernel_rfl) (fun _ _ _ h => h) (yieldsIf_load_mid (by rfl) _ _ rfl _ _ rfl ps _ (fun W hW => (HXV.out.to ⟨hW⟩).range (n := ps.length) (by rw [List.drop_zero, List.take_length])) Tryz.underlying91 rfl (by rw [HLP.out]; kernel_rfl)) (by assumption) ?_
  (try simp only [Act.put]); (try simp only [List.setIfInBounds_toArray]); (try simp only [List.set_cons_succ]); (try simp only [List.set_cons_zero])
  refine wpAnyH_take (i := 1) (v := _) rfl (by kernel_rfl) (by kernel_rfl) (by kernel_rfl) (fun _ _ _ h => h) (yieldsIf_load_mid (by rfl) _ _ rfl _ _ rfl vs _ (fun W hW => (HBV.out.to ⟨hW⟩).range (n := vs.length) (by rw [List.drop_zero, List.take_length])) Tryz.underlying60 rfl (by rw [HL.out]; kernel_rfl)) (by assumption) ?_
  (try simp only [Act.put]); (try simp only [List.setIfInBounds_toArray]); (try simp only [List.set_cons_succ]); (try simp only [List.set_cons_zero])
  refine wpAnyH_ready (rs := [2]) (by kernel_rfl) (by simp) ?_
  refine AllReadyH.cons rfl (fun K hK => ?_) AllReadyH.nil
  refine step_call rfl (f := 12) rfl Tryz.func12 (by kernel_rfl) (by kernel_rfl) [.agg vs.toArray] rfl ((d_ltoMission (x := m) (Enc.keep HMV.out inferInstance) HT.out).mono ?_)
  rintro _ _ ⟨qs, rfl, hR3, y5, rfl⟩
  refine ⟨_, rfl, hK.out _ _ (hH.trans y5.h) (fun hH2 => ?_)⟩
  (try simp only [Act.put]); (try simp only [List.setIfInBounds_toArray]); (try simp only [List.set_cons_succ]); (try simp only [List.set_cons_zero])
  clear hK K
  refine wpAnyH_ready (rs := [3]) (by kernel_rfl) (by simp) ?_
  refine AllReadyH.cons rfl (fun K hK => ?_) AllReadyH.nil
  refine step_call rfl (f := 14) rfl Tryz.func14 (by kernel_rfl) (by kernel_rfl) [.agg ps.toArray, .agg qs.toArray] rfl ((d_leqMission (x := m) (Enc.keep HPV.out ⟨hH2.size, fun b _ h2 => hH2.block b h2⟩) hR3).mono ?_)
  rintro _ _ ⟨rfl, y6, rfl⟩
  refine ⟨_, rfl, hK.out _ _ (hH2.trans (y6.h.mono hH2.size)) (fun hH3 => ?_)⟩
  (try simp only [Act.put]); (try simp only [List.setIfInBounds_toArray]); (try simp only [List.set_cons_succ]); (try simp only [List.set_cons_zero])
  clear hK K
  obtain ⟨Z, hZ⟩ : ∃ Z : Later w, y6.w = Z.w := ⟨⟨y6.w, (inferInstance : Grows w V.w).out.trans (hH3.mono (inferInstance : LeN w.heap.size V.w.heap.size).out)⟩, rfl⟩
  rw [hZ] at hH3 ⊢
  refine wpAnyH_ready (rs := [4]) (by kernel_rfl) (by simp) ?_
  refine AllReadyH.cons rfl (fun K hK => ?_) AllReadyH.nil
  go_simp
  refine hK.out _ _ hH3 (fun hH4 => ?_)
  clear hK K
  refine wpAnyH_done (by kernel_rfl) ?_ _
  go_wp2_with (first | ((with_reducible refine wp_region_later (by kernel_rfl) (by kernel_rfl) ?_); (repeat (first | go_big_quiet_step (first | fail))); refine wpQuiet_nil ?_; rintro _ ⟨x, rfl⟩))
  go_ret
  exact Gives.mk rfl

end Go.Proofs.YtdankjbkioepgaaGreat
