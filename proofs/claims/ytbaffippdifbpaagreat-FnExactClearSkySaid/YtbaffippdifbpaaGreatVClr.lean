/- ClearSky. No condition but on sizes. -/
import Derived.Test.YtbaffippdifbpaaGreatVM44
namespace Go.Proofs.YtbaffippdifbpaaGreat
set_option linter.unusedVariables false
open Go.ChangeShapes Go.WideShapes Go.ChangeAt Go.RowKit
def clearSky (m : TMission) : TMission := if missionOk m = true then { m with Up := { m.Up with Loss := 0, Burst := 0 }, Down := { m.Down with Loss := 0, Burst := 0 }, Orbit := { m.Orbit with Length := m.Orbit.Period } } else m
theorem clearSky_tot (m : TMission) : Enc.tot (clearSky m) = Enc.tot m := by unfold clearSky; split <;> rfl
set_option maxRecDepth 100000 in
set_option maxHeartbeats 2000000 in
theorem o_iClearSky {B : Nat} {vs : List Value} {m : TMission} {w : World} (h : Enc.Rd B w vs m) (ht : Enc.tot m ≤ 100000000) :
    Calls Tryz.prog 36 #[.agg vs.toArray] w (GivesO w (clearSky m)) := by
  have HL := Lib.hid (len_mission h)
  have HM := Lib.hid h; clear h
  have HT := Lib.hid ht; clear ht
  have HB := Lib.hid (Held.new w vs 62 w.heap.size rfl)
  have HR := Lib.hid (Held.new (w.alloc (.cells vs.toArray 62)) zMission 62 (w.heap.size + 1) (by simp))
  go_enter Tryz.func36, Tryz.ntmps36
  go_wp2_with (first | (refine stepLoad rfl _ _ rfl w.heap.size 0 rfl (row := vs) (HB.out.to inferInstance) _ Tryz.underlying62 rfl (by rw [HL.out]; kernel_rfl) (by rw [List.drop_zero, List.take_length]) ?_))
  refine (o_cloneMission (x := m) (Enc.keep HM.out inferInstance) HT.out).mono ?_
  rintro _ _ ⟨cs, χ, rfl, hO, y1, rfl⟩
  have HLC := Lib.hid (len_mission (EncO.toRd hO))
  have HOC := Lib.hid (one_mission (EncO.toRd hO))
  have HO := Lib.hid hO; clear hO
  go_wp2_with (first | (refine stepStore2 rfl _ _ _ rfl _ 0 rfl (us := cs) (cs2 := cs) (Held.new _ zMission 62 _ rfl) ?a11 ?a12 ?a13 ?a14 ?a15 (w0 := y1.w) inferInstance LeN.out ?_; (case a11 => rfl); (case a12 => (rw [HLC.out]; kernel_rfl)); (case a13 => exact HOC.out); (case a14 => (rw [HLC.out]; exact Nat.le_of_ble_eq_true rfl)); (case a15 => exact splice_all HLC.out); intro z1 hx kx; have HX1 := Lib.hid hx; clear hx; have KX1 := Lib.hid kx; clear kx) | (refine stepLoad rfl _ _ rfl w.heap.size 0 rfl (row := vs) (HB.out.to inferInstance) _ Tryz.underlying62 rfl (by rw [HL.out]; kernel_rfl) (by rw [List.drop_zero, List.take_length]) ?_))
  refine (c_iMissionOk (m := m) (Enc.keep HM.out inferInstance) HT.out).mono ?_
  rintro _ _ ⟨rfl, y2, rfl⟩
  cases hv : missionOk m
  · have HV := Lib.hid hv; clear hv
    go_wp2_with (first | (refine stepLoad rfl _ _ rfl y1.w.heap.size 0 rfl (row := cs) (HX1.out.to inferInstance) _ Tryz.underlying62 rfl (by rw [HLC.out]; kernel_rfl) (by rw [List.drop_zero, List.take_length]) ?_) | (refine stepStore2 rfl _ _ _ rfl (w.heap.size + 1) 0 rfl (us := cs) (cs2 := cs) (HR.out.to inferInstance) ?a91 ?a92 ?a93 ?a94 ?a95 (w0 := w) inferInstance (by simp) ?_; (case a91 => rfl); (case a92 => (rw [HLC.out]; kernel_rfl)); (case a93 => exact HOC.out); (case a94 => (rw [HLC.out]; exact Nat.le_of_ble_eq_true rfl)); (case a95 => exact splice_all HLC.out); intro z9 hx kx; have HX9 := Lib.hid hx; clear hx; have KX9 := Lib.hid kx; clear kx))
    refine bodyPost_ret (v := .agg cs.toArray) (results_cell (P := Tryz.prog) rfl rfl HX9.out _ Tryz.underlying62 rfl (by rw [HLC.out]; kernel_rfl)) rfl ⟨cs, χ, rfl, ?_, Later.of⟩
    rw [clearSky, if_neg (by rw [HV.out]; decide)]
    exact om_mono (om_keep (om_to HO.out (inferInstance : Grows y1.w ((y1.andThen z1).andThen y2).w)) (by rw [show ((w.alloc (.cells vs.toArray 62)).alloc (.cells zMission.toArray 62)).heap.size = w.heap.size + 1 + 1 by simp]; exact KX9.out.above)) (by simp; omega)
  · have HV := Lib.hid hv; clear hv
    have HP := Lib.hid (show cs[4]? = some (.int .i64 m.Orbit.Period) by obtain ⟨A, h0, -⟩ := HO.out; rw [h0]; rfl)
    obtain ⟨ds, hds⟩ : ∃ ds, (((((cs.set 10 (.int .i64 0)).set 9 (.int .i64 0)).set 13 (.int .i64 0)).set 12 (.int .i64 0)).set 6 (.int .i64 m.Orbit.Period)) = ds := ⟨_, rfl⟩
    have HD := Lib.hid hds; clear hds
    have HLD := Lib.hid (show ds.length = 61 by rw [← HD.out]; simp only [List.length_set]; exact HLC.out)
    have hO2 : EncO.O ((w.alloc (.cells vs.toArray 62)).alloc (.cells zMission.toArray 62)).heap.size χ 0 y1.w ds (clearSky m) := by
      rw [clearSky, if_pos HV.out, ← HD.out]
      obtain ⟨A, h0, h1⟩ := HO.out
      exact ⟨A, by rw [h0]; rfl, { h1 with ok := by obtain ⟨k0, k1, k2, ⟨p1, p2, p3, p4⟩, ⟨q1, q2, q3, q4⟩, ⟨r1, r2, r3, r4⟩, kr⟩ := h1.ok; exact ⟨k0, k1, k2, ⟨p1, p2, p1, p4⟩, ⟨q1, (show i64 0 by unfold i64; decide), (show i64 0 by unfold i64; decide), q4⟩, ⟨r1, (show i64 0 by unfold i64; decide), (show i64 0 by unfold i64; decide), r4⟩, kr⟩ }⟩
    have HOD := Lib.hid (one_mission (EncO.toRd hO2))
    have HO2 := Lib.hid hO2; clear hO2
    go_wp2_with (first | (refine stepStore2 rfl _ _ _ rfl (y1.w.heap.size) 10 rfl (us := [.int .i64 0]) (cs2 := cs.set 10 (.int .i64 0)) (HX1.out.to inferInstance) rfl (by kernel_rfl) rfl (by simp only [List.length_cons, List.length_nil]; have := HLC.out; omega) rfl (w0 := y1.w) inferInstance (Nat.le_refl _) ?_; intro z2 hx kx; have HX2 := Lib.hid hx; clear hx kx) | (refine stepStore2 rfl _ _ _ rfl (y1.w.heap.size) 9 rfl (us := [.int .i64 0]) (cs2 := (cs.set 10 (.int .i64 0)).set 9 (.int .i64 0)) (HX2.out.to inferInstance) rfl (by kernel_rfl) rfl (by simp only [List.length_set, List.length_cons, List.length_nil]; have := HLC.out; omega) rfl (w0 := y1.w) inferInstance (Nat.le_refl _) ?_; intro z3 hx kx; have HX3 := Lib.hid hx; clear hx kx) | (refine stepStore2 rfl _ _ _ rfl (y1.w.heap.size) 13 rfl (us := [.int .i64 0]) (cs2 := ((cs.set 10 (.int .i64 0)).set 9 (.int .i64 0)).set 13 (.int .i64 0)) (HX3.out.to inferInstance) rfl (by kernel_rfl) rfl (by simp only [List.length_set, List.length_cons, List.length_nil]; have := HLC.out; omega) rfl (w0 := y1.w) inferInstance (Nat.le_refl _) ?_; intro z4 hx kx; have HX4 := Lib.hid hx; clear hx kx) | (refine stepStore2 rfl _ _ _ rfl (y1.w.heap.size) 12 rfl (us := [.int .i64 0]) (cs2 := (((cs.set 10 (.int .i64 0)).set 9 (.int .i64 0)).set 13 (.int .i64 0)).set 12 (.int .i64 0)) (HX4.out.to inferInstance) rfl (by kernel_rfl) rfl (by simp only [List.length_set, List.length_cons, List.length_nil]; have := HLC.out; omega) rfl (w0 := y1.w) inferInstance (Nat.le_refl _) ?_; intro z5 hx kx; have HX5 := Lib.hid hx; clear hx kx) | (refine stepLoad1 rfl _ _ rfl y1.w.heap.size 4 rfl (HX5.out.to inferInstance) (.int .i64 m.Orbit.Period) (by simp [HP.out]) _ Tryz.underlying3 rfl ?_) | (refine stepStore2 rfl _ _ _ rfl (y1.w.heap.size) 6 rfl (us := [.int .i64 m.Orbit.Period]) (cs2 := ((((cs.set 10 (.int .i64 0)).set 9 (.int .i64 0)).set 13 (.int .i64 0)).set 12 (.int .i64 0)).set 6 (.int .i64 m.Orbit.Period)) (HX5.out.to inferInstance) rfl (by kernel_rfl) rfl (by simp only [List.length_set, List.length_cons, List.length_nil]; have := HLC.out; omega) rfl (w0 := y1.w) inferInstance (Nat.le_refl _) ?_; intro z6 hx kx; have HX6 := Lib.hid hx; clear hx kx) | (refine stepLoad rfl _ _ rfl y1.w.heap.size 0 rfl (row := ds) ((heldCast HX6.out HD.out).to inferInstance) _ Tryz.underlying62 rfl (by rw [HLD.out]; kernel_rfl) (by rw [List.drop_zero, List.take_length]) ?_) | (refine stepStore2 rfl _ _ _ rfl (w.heap.size + 1) 0 rfl (us := ds) (cs2 := ds) (HR.out.to inferInstance) ?a91 ?a92 ?a93 ?a94 ?a95 (w0 := w) inferInstance (by simp) ?_; (case a91 => rfl); (case a92 => (rw [HLD.out]; kernel_rfl)); (case a93 => exact HOD.out); (case a94 => (rw [HLD.out]; exact Nat.le_of_ble_eq_true rfl)); (case a95 => exact splice_all HLD.out); intro z9 hx kx; have HX9 := Lib.hid hx; clear hx; have KX9 := Lib.hid kx; clear kx))
    refine bodyPost_ret (v := .agg ds.toArray) (results_cell (P := Tryz.prog) rfl rfl HX9.out _ Tryz.underlying62 rfl (by rw [HLD.out]; kernel_rfl)) rfl ⟨ds, χ, rfl, ?_, Later.of⟩
    exact om_mono (om_keep (om_to HO2.out (inferInstance : Grows y1.w z6.w)) (by rw [show ((w.alloc (.cells vs.toArray 62)).alloc (.cells zMission.toArray 62)).heap.size = w.heap.size + 1 + 1 by simp]; exact KX9.out.above)) (by simp; omega)
set_option maxRecDepth 100000 in
set_option maxHeartbeats 2000000 in
theorem o_sClearSky {B : Nat} {vs : List Value} {m : TMission} {w : World} (h : Enc.Rd B w vs m) (ht : Enc.tot m ≤ 100000000) :
    Calls Tryz.prog 34 #[.agg vs.toArray] w (GivesO w (clearSky m)) := by
  have HL := Lib.hid (len_mission h)
  have HM := Lib.hid h; clear h
  have HT := Lib.hid ht; clear ht
  have HB := Lib.hid (Held.new w vs 62 w.heap.size rfl)
  have HR := Lib.hid (Held.new (w.alloc (.cells vs.toArray 62)) zMission 62 (w.heap.size + 1) (by simp))
  go_enter Tryz.func34, Tryz.ntmps34
  go_wp2_with (first | (refine stepLoad rfl _ _ rfl w.heap.size 0 rfl (row := vs) (HB.out.to inferInstance) _ Tryz.underlying62 rfl (by rw [HL.out]; kernel_rfl) (by rw [List.drop_zero, List.take_length]) ?_))
  refine (o_copyMission (x := m) (Enc.keep HM.out inferInstance) HT.out).mono ?_
  rintro _ _ ⟨cs, χ, rfl, hO, y1, rfl⟩
  have HLC := Lib.hid (len_mission (EncO.toRd hO))
  have HOC := Lib.hid (one_mission (EncO.toRd hO))
  have HO := Lib.hid hO; clear hO
  go_wp2_with (first | (refine stepStore2 rfl _ _ _ rfl _ 0 rfl (us := cs) (cs2 := cs) (Held.new _ zMission 62 _ rfl) ?a11 ?a12 ?a13 ?a14 ?a15 (w0 := y1.w) inferInstance LeN.out ?_; (case a11 => rfl); (case a12 => (rw [HLC.out]; kernel_rfl)); (case a13 => exact HOC.out); (case a14 => (rw [HLC.out]; exact Nat.le_of_ble_eq_true rfl)); (case a15 => exact splice_all HLC.out); intro z1 hx kx; have HX1 := Lib.hid hx; clear hx; have KX1 := Lib.hid kx; clear kx) | (refine stepLoad rfl _ _ rfl w.heap.size 0 rfl (row := vs) (HB.out.to inferInstance) _ Tryz.underlying62 rfl (by rw [HL.out]; kernel_rfl) (by rw [List.drop_zero, List.take_length]) ?_))
  refine (c_sMissionOk (m := m) (Enc.keep HM.out inferInstance) HT.out).mono ?_
  rintro _ _ ⟨rfl, y2, rfl⟩
  cases hv : missionOk m
  · have HV := Lib.hid hv; clear hv
    go_wp2_with (first | (refine stepLoad rfl _ _ rfl y1.w.heap.size 0 rfl (row := cs) (HX1.out.to inferInstance) _ Tryz.underlying62 rfl (by rw [HLC.out]; kernel_rfl) (by rw [List.drop_zero, List.take_length]) ?_) | (refine stepStore2 rfl _ _ _ rfl (w.heap.size + 1) 0 rfl (us := cs) (cs2 := cs) (HR.out.to inferInstance) ?a91 ?a92 ?a93 ?a94 ?a95 (w0 := w) inferInstance (by simp) ?_; (case a91 => rfl); (case a92 => (rw [HLC.out]; kernel_rfl)); (case a93 => exact HOC.out); (case a94 => (rw [HLC.out]; exact Nat.le_of_ble_eq_true rfl)); (case a95 => exact splice_all HLC.out); intro z9 hx kx; have HX9 := Lib.hid hx; clear hx; have KX9 := Lib.hid kx; clear kx))
    refine bodyPost_ret (v := .agg cs.toArray) (results_cell (P := Tryz.prog) rfl rfl HX9.out _ Tryz.underlying62 rfl (by rw [HLC.out]; kernel_rfl)) rfl ⟨cs, χ, rfl, ?_, Later.of⟩
    rw [clearSky, if_neg (by rw [HV.out]; decide)]
    exact om_mono (om_keep (om_to HO.out (inferInstance : Grows y1.w ((y1.andThen z1).andThen y2).w)) (by rw [show ((w.alloc (.cells vs.toArray 62)).alloc (.cells zMission.toArray 62)).heap.size = w.heap.size + 1 + 1 by simp]; exact KX9.out.above)) (by simp; omega)
  · have HV := Lib.hid hv; clear hv
    have HP := Lib.hid (show cs[4]? = some (.int .i64 m.Orbit.Period) by obtain ⟨A, h0, -⟩ := HO.out; rw [h0]; rfl)
    obtain ⟨ds, hds⟩ : ∃ ds, (((((cs.set 10 (.int .i64 0)).set 9 (.int .i64 0)).set 13 (.int .i64 0)).set 12 (.int .i64 0)).set 6 (.int .i64 m.Orbit.Period)) = ds := ⟨_, rfl⟩
    have HD := Lib.hid hds; clear hds
    have HLD := Lib.hid (show ds.length = 61 by rw [← HD.out]; simp only [List.length_set]; exact HLC.out)
    have hO2 : EncO.O ((w.alloc (.cells vs.toArray 62)).alloc (.cells zMission.toArray 62)).heap.size χ 0 y1.w ds (clearSky m) := by
      rw [clearSky, if_pos HV.out, ← HD.out]
      obtain ⟨A, h0, h1⟩ := HO.out
      exact ⟨A, by rw [h0]; rfl, { h1 with ok := by obtain ⟨k0, k1, k2, ⟨p1, p2, p3, p4⟩, ⟨q1, q2, q3, q4⟩, ⟨r1, r2, r3, r4⟩, kr⟩ := h1.ok; exact ⟨k0, k1, k2, ⟨p1, p2, p1, p4⟩, ⟨q1, (show i64 0 by unfold i64; decide), (show i64 0 by unfold i64; decide), q4⟩, ⟨r1, (show i64 0 by unfold i64; decide), (show i64 0 by unfold i64; decide), r4⟩, kr⟩ }⟩
    have HOD := Lib.hid (one_mission (EncO.toRd hO2))
    have HO2 := Lib.hid hO2; clear hO2
    go_wp2_with (first | (refine stepStore2 rfl _ _ _ rfl (y1.w.heap.size) 10 rfl (us := [.int .i64 0]) (cs2 := cs.set 10 (.int .i64 0)) (HX1.out.to inferInstance) rfl (by kernel_rfl) rfl (by simp only [List.length_cons, List.length_nil]; have := HLC.out; omega) rfl (w0 := y1.w) inferInstance (Nat.le_refl _) ?_; intro z2 hx kx; have HX2 := Lib.hid hx; clear hx kx) | (refine stepStore2 rfl _ _ _ rfl (y1.w.heap.size) 9 rfl (us := [.int .i64 0]) (cs2 := (cs.set 10 (.int .i64 0)).set 9 (.int .i64 0)) (HX2.out.to inferInstance) rfl (by kernel_rfl) rfl (by simp only [List.length_set, List.length_cons, List.length_nil]; have := HLC.out; omega) rfl (w0 := y1.w) inferInstance (Nat.le_refl _) ?_; intro z3 hx kx; have HX3 := Lib.hid hx; clear hx kx) | (refine stepStore2 rfl _ _ _ rfl (y1.w.heap.size) 13 rfl (us := [.int .i64 0]) (cs2 := ((cs.set 10 (.int .i64 0)).set 9 (.int .i64 0)).set 13 (.int .i64 0)) (HX3.out.to inferInstance) rfl (by kernel_rfl) rfl (by simp only [List.length_set, List.length_cons, List.length_nil]; have := HLC.out; omega) rfl (w0 := y1.w) inferInstance (Nat.le_refl _) ?_; intro z4 hx kx; have HX4 := Lib.hid hx; clear hx kx) | (refine stepStore2 rfl _ _ _ rfl (y1.w.heap.size) 12 rfl (us := [.int .i64 0]) (cs2 := (((cs.set 10 (.int .i64 0)).set 9 (.int .i64 0)).set 13 (.int .i64 0)).set 12 (.int .i64 0)) (HX4.out.to inferInstance) rfl (by kernel_rfl) rfl (by simp only [List.length_set, List.length_cons, List.length_nil]; have := HLC.out; omega) rfl (w0 := y1.w) inferInstance (Nat.le_refl _) ?_; intro z5 hx kx; have HX5 := Lib.hid hx; clear hx kx) | (refine stepLoad1 rfl _ _ rfl y1.w.heap.size 4 rfl (HX5.out.to inferInstance) (.int .i64 m.Orbit.Period) (by simp [HP.out]) _ Tryz.underlying3 rfl ?_) | (refine stepStore2 rfl _ _ _ rfl (y1.w.heap.size) 6 rfl (us := [.int .i64 m.Orbit.Period]) (cs2 := ((((cs.set 10 (.int .i64 0)).set 9 (.int .i64 0)).set 13 (.int .i64 0)).set 12 (.int .i64 0)).set 6 (.int .i64 m.Orbit.Period)) (HX5.out.to inferInstance) rfl (by kernel_rfl) rfl (by simp only [List.length_set, List.length_cons, List.length_nil]; have := HLC.out; omega) rfl (w0 := y1.w) inferInstance (Nat.le_refl _) ?_; intro z6 hx kx; have HX6 := Lib.hid hx; clear hx kx) | (refine stepLoad rfl _ _ rfl y1.w.heap.size 0 rfl (row := ds) ((heldCast HX6.out HD.out).to inferInstance) _ Tryz.underlying62 rfl (by rw [HLD.out]; kernel_rfl) (by rw [List.drop_zero, List.take_length]) ?_) | (refine stepStore2 rfl _ _ _ rfl (w.heap.size + 1) 0 rfl (us := ds) (cs2 := ds) (HR.out.to inferInstance) ?a91 ?a92 ?a93 ?a94 ?a95 (w0 := w) inferInstance (by simp) ?_; (case a91 => rfl); (case a92 => (rw [HLD.out]; kernel_rfl)); (case a93 => exact HOD.out); (case a94 => (rw [HLD.out]; exact Nat.le_of_ble_eq_true rfl)); (case a95 => exact splice_all HLD.out); intro z9 hx kx; have HX9 := Lib.hid hx; clear hx; have KX9 := Lib.hid kx; clear kx))
    refine bodyPost_ret (v := .agg ds.toArray) (results_cell (P := Tryz.prog) rfl rfl HX9.out _ Tryz.underlying62 rfl (by rw [HLD.out]; kernel_rfl)) rfl ⟨ds, χ, rfl, ?_, Later.of⟩
    exact om_mono (om_keep (om_to HO2.out (inferInstance : Grows y1.w z6.w)) (by rw [show ((w.alloc (.cells vs.toArray 62)).alloc (.cells zMission.toArray 62)).heap.size = w.heap.size + 1 + 1 by simp]; exact KX9.out.above)) (by simp; omega)
end Go.Proofs.YtbaffippdifbpaaGreat
