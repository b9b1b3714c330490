/- The contracts of the mirror, size and equality of a board. No condition but on sizes. -/
import Derived.Test.YtdankjbkioepgaaGreatVM9
import Derived.Test.YtdankjbkioepgaaGreatVDM1
import Derived.Test.YtdankjbkioepgaaGreatVM2
namespace Go.Proofs.YtdankjbkioepgaaGreat
set_option linter.unusedVariables false
open Go.ChangeShapes Go.WideShapes Go.ChangeAt Go.RowKit

set_option maxRecDepth 100000 in
set_option maxHeartbeats 2000000 in
theorem d_ltoBoard {B : Nat} {vs : List Value} {x : TBoard} {w : World} (h : Enc.Rd B w vs x) (ht : Enc.tot x ≤ 1048576) :
    Calls Tryz.prog 96 #[.agg vs.toArray] w (GivesD w x) := by
  obtain ⟨A, rfl, F⟩ := h
  have HT := Lib.hid (show totL x.Params ≤ 1048576 ∧ totL x.Limits ≤ 1048576 ∧ totL x.Orders ≤ 1048576 ∧ totL x.Done ≤ 1048576 ∧ Enc.tot x.Recorder ≤ 1048576 ∧ totL x.Asked ≤ 1048576 ∧ True from by
    have ht2 : totL x.Params + totL x.Limits + totL x.Orders + totL x.Done + Enc.tot x.Recorder + totL x.Asked ≤ 1048576 := ht
    have n0 := totL_nonneg x.Params
    have n1 := totL_nonneg x.Limits
    have n2 := totL_nonneg x.Orders
    have n3 := totL_nonneg x.Done
    have n4 := Enc.tot_nonneg x.Recorder
    have n5 := totL_nonneg x.Asked
    refine ⟨?_, ?_, ?_, ?_, ?_, ?_, trivial⟩ <;> omega)
  clear ht
  have HOK := Lib.hid F.ok
  have HFF := Lib.hid F; clear F
  have H0 := Lib.hid (Held.new ((w.alloc (.cells #[.int .i64 x.Clock, .slice A.a0 x.Params.length A.c0, .bool x.Safe, .slice A.a1 x.Limits.length A.c1, .slice A.a2 x.Orders.length A.c2, .slice A.a3 x.Done.length A.c3, .int .i64 x.Recorder.Room, .slice A.a4 x.Recorder.Records.length A.c4, .slice A.a5 x.Recorder.Dropped.length A.c5, .int .i64 x.Made, .int .i64 x.Taken, .slice A.a6 x.Asked.length A.c6] 53)).alloc (.cells #[.int .i64 0, .slice none 0 0, .bool false, .slice none 0 0, .slice none 0 0, .slice none 0 0, .int .i64 0, .slice none 0 0, .slice none 0 0, .int .i64 0, .int .i64 0, .slice none 0 0] 85)) [.int .i64 0, .slice none 0 0, .bool false, .slice none 0 0, .slice none 0 0, .slice none 0 0, .int .i64 0, .slice none 0 0, .slice none 0 0, .int .i64 0, .int .i64 0, .slice none 0 0] 85 (w.heap.size + 2) (by simp))
  have R0 := Lib.hid ((Held.new (w.alloc (.cells #[.int .i64 x.Clock, .slice A.a0 x.Params.length A.c0, .bool x.Safe, .slice A.a1 x.Limits.length A.c1, .slice A.a2 x.Orders.length A.c2, .slice A.a3 x.Done.length A.c3, .int .i64 x.Recorder.Room, .slice A.a4 x.Recorder.Records.length A.c4, .slice A.a5 x.Recorder.Dropped.length A.c5, .int .i64 x.Made, .int .i64 x.Taken, .slice A.a6 x.Asked.length A.c6] 53)) [.int .i64 0, .slice none 0 0, .bool false, .slice none 0 0, .slice none 0 0, .slice none 0 0, .int .i64 0, .slice none 0 0, .slice none 0 0, .int .i64 0, .int .i64 0, .slice none 0 0] 85 (w.heap.size + 1) (by simp)).to (inferInstance : Grows _ (((w.alloc (.cells #[.int .i64 x.Clock, .slice A.a0 x.Params.length A.c0, .bool x.Safe, .slice A.a1 x.Limits.length A.c1, .slice A.a2 x.Orders.length A.c2, .slice A.a3 x.Done.length A.c3, .int .i64 x.Recorder.Room, .slice A.a4 x.Recorder.Records.length A.c4, .slice A.a5 x.Recorder.Dropped.length A.c5, .int .i64 x.Made, .int .i64 x.Taken, .slice A.a6 x.Asked.length A.c6] 53)).alloc (.cells #[.int .i64 0, .slice none 0 0, .bool false, .slice none 0 0, .slice none 0 0, .slice none 0 0, .int .i64 0, .slice none 0 0, .slice none 0 0, .int .i64 0, .int .i64 0, .slice none 0 0] 85)).alloc (.cells #[.int .i64 0, .slice none 0 0, .bool false, .slice none 0 0, .slice none 0 0, .slice none 0 0, .int .i64 0, .slice none 0 0, .slice none 0 0, .int .i64 0, .int .i64 0, .slice none 0 0] 85))))
  have HB := Lib.hid ((Held.new w [.int .i64 x.Clock, .slice A.a0 x.Params.length A.c0, .bool x.Safe, .slice A.a1 x.Limits.length A.c1, .slice A.a2 x.Orders.length A.c2, .slice A.a3 x.Done.length A.c3, .int .i64 x.Recorder.Room, .slice A.a4 x.Recorder.Records.length A.c4, .slice A.a5 x.Recorder.Dropped.length A.c5, .int .i64 x.Made, .int .i64 x.Taken, .slice A.a6 x.Asked.length A.c6] 53 w.heap.size rfl).to (inferInstance : Grows _ ((w.alloc (.cells #[.int .i64 x.Clock, .slice A.a0 x.Params.length A.c0, .bool x.Safe, .slice A.a1 x.Limits.length A.c1, .slice A.a2 x.Orders.length A.c2, .slice A.a3 x.Done.length A.c3, .int .i64 x.Recorder.Room, .slice A.a4 x.Recorder.Records.length A.c4, .slice A.a5 x.Recorder.Dropped.length A.c5, .int .i64 x.Made, .int .i64 x.Taken, .slice A.a6 x.Asked.length A.c6] 53)).alloc (.cells #[.int .i64 0, .slice none 0 0, .bool false, .slice none 0 0, .slice none 0 0, .slice none 0 0, .int .i64 0, .slice none 0 0, .slice none 0 0, .int .i64 0, .int .i64 0, .slice none 0 0] 85))))
  go_enter Tryz.func96, Tryz.ntmps96
  go_wp2_with (first | ((with_reducible refine wp_region_later (by kernel_rfl) (by kernel_rfl) ?_); (repeat (first | go_big_quiet_step (first | fail))); refine wpQuiet_nil ?_; rintro _ ⟨x, rfl⟩) | (refine stepStore rfl _ _ _ rfl (w.heap.size + 2) 0 rfl (us := [.int .i64 x.Clock]) (cs2 := [.int .i64 x.Clock, .slice none 0 0, .bool false, .slice none 0 0, .slice none 0 0, .slice none 0 0, .int .i64 0, .slice none 0 0, .slice none 0 0, .int .i64 0, .int .i64 0, .slice none 0 0]) (H0.out.to inferInstance) rfl (by kernel_rfl) rfl (Nat.le_of_ble_eq_true rfl) (by kernel_rfl) (w0 := ((w.alloc (.cells #[.int .i64 x.Clock, .slice A.a0 x.Params.length A.c0, .bool x.Safe, .slice A.a1 x.Limits.length A.c1, .slice A.a2 x.Orders.length A.c2, .slice A.a3 x.Done.length A.c3, .int .i64 x.Recorder.Room, .slice A.a4 x.Recorder.Records.length A.c4, .slice A.a5 x.Recorder.Dropped.length A.c5, .int .i64 x.Made, .int .i64 x.Taken, .slice A.a6 x.Asked.length A.c6] 53)).alloc (.cells #[.int .i64 0, .slice none 0 0, .bool false, .slice none 0 0, .slice none 0 0, .slice none 0 0, .int .i64 0, .slice none 0 0, .slice none 0 0, .int .i64 0, .int .i64 0, .slice none 0 0] 85))) inferInstance (by simp) ?_; intro z1 h1 k1; have H1 := Lib.hid h1; clear h1 H0; have e1 : LeN (w.heap.size + 3) z1.w.heap.size := ⟨H1.out.lt⟩; have K1 := Lib.hid k1; clear k1))
  refine (d_ltoIntS (HFF.out.q0.keep inferInstance) (HT.out.1)).mono ?_
  rintro _ _ ⟨na0, nc0, rfl, nq0, y1, rfl⟩
  have Q0 := Lib.hid (nq0.mono (B' := w.heap.size + 3) LeN.out)
  clear nq0
  go_wp2_with (first | ((with_reducible refine wp_region_later (by kernel_rfl) (by kernel_rfl) ?_); (repeat (first | go_big_quiet_step (first | fail))); refine wpQuiet_nil ?_; rintro _ ⟨x, rfl⟩) | (refine stepStore rfl _ _ _ rfl (w.heap.size + 2) 1 rfl (us := [.slice na0 x.Params.length nc0]) (cs2 := [.int .i64 x.Clock, .slice na0 x.Params.length nc0, .bool false, .slice none 0 0, .slice none 0 0, .slice none 0 0, .int .i64 0, .slice none 0 0, .slice none 0 0, .int .i64 0, .int .i64 0, .slice none 0 0]) (H1.out.to inferInstance) rfl (by kernel_rfl) rfl (Nat.le_of_ble_eq_true rfl) (by kernel_rfl) (w0 := ((w.alloc (.cells #[.int .i64 x.Clock, .slice A.a0 x.Params.length A.c0, .bool x.Safe, .slice A.a1 x.Limits.length A.c1, .slice A.a2 x.Orders.length A.c2, .slice A.a3 x.Done.length A.c3, .int .i64 x.Recorder.Room, .slice A.a4 x.Recorder.Records.length A.c4, .slice A.a5 x.Recorder.Dropped.length A.c5, .int .i64 x.Made, .int .i64 x.Taken, .slice A.a6 x.Asked.length A.c6] 53)).alloc (.cells #[.int .i64 0, .slice none 0 0, .bool false, .slice none 0 0, .slice none 0 0, .slice none 0 0, .int .i64 0, .slice none 0 0, .slice none 0 0, .int .i64 0, .int .i64 0, .slice none 0 0] 85))) inferInstance (by simp) ?_; intro z2 h2 k2; have H2 := Lib.hid h2; clear h2 H1; have e2 : LeN (w.heap.size + 3) z2.w.heap.size := ⟨H2.out.lt⟩; have K2 := Lib.hid k2; clear k2) | (refine stepStore rfl _ _ _ rfl (w.heap.size + 2) 2 rfl (us := [.bool x.Safe]) (cs2 := [.int .i64 x.Clock, .slice na0 x.Params.length nc0, .bool x.Safe, .slice none 0 0, .slice none 0 0, .slice none 0 0, .int .i64 0, .slice none 0 0, .slice none 0 0, .int .i64 0, .int .i64 0, .slice none 0 0]) (H2.out.to inferInstance) rfl (by kernel_rfl) rfl (Nat.le_of_ble_eq_true rfl) (by kernel_rfl) (w0 := ((w.alloc (.cells #[.int .i64 x.Clock, .slice A.a0 x.Params.length A.c0, .bool x.Safe, .slice A.a1 x.Limits.length A.c1, .slice A.a2 x.Orders.length A.c2, .slice A.a3 x.Done.length A.c3, .int .i64 x.Recorder.Room, .slice A.a4 x.Recorder.Records.length A.c4, .slice A.a5 x.Recorder.Dropped.length A.c5, .int .i64 x.Made, .int .i64 x.Taken, .slice A.a6 x.Asked.length A.c6] 53)).alloc (.cells #[.int .i64 0, .slice none 0 0, .bool false, .slice none 0 0, .slice none 0 0, .slice none 0 0, .int .i64 0, .slice none 0 0, .slice none 0 0, .int .i64 0, .int .i64 0, .slice none 0 0] 85))) inferInstance (by simp) ?_; intro z3 h3 k3; have H3 := Lib.hid h3; clear h3 H2; have e3 : LeN (w.heap.size + 3) z3.w.heap.size := ⟨H3.out.lt⟩; have K3 := Lib.hid k3; clear k3))
  refine (d_ltoLimitS (HFF.out.q1.keep inferInstance) (HT.out.2.1)).mono ?_
  rintro _ _ ⟨na1, nc1, rfl, nq1, y3, rfl⟩
  have Q1 := Lib.hid (nq1.mono (B' := w.heap.size + 3) LeN.out)
  clear nq1
  go_wp2_with (first | ((with_reducible refine wp_region_later (by kernel_rfl) (by kernel_rfl) ?_); (repeat (first | go_big_quiet_step (first | fail))); refine wpQuiet_nil ?_; rintro _ ⟨x, rfl⟩) | (refine stepStore rfl _ _ _ rfl (w.heap.size + 2) 3 rfl (us := [.slice na1 x.Limits.length nc1]) (cs2 := [.int .i64 x.Clock, .slice na0 x.Params.length nc0, .bool x.Safe, .slice na1 x.Limits.length nc1, .slice none 0 0, .slice none 0 0, .int .i64 0, .slice none 0 0, .slice none 0 0, .int .i64 0, .int .i64 0, .slice none 0 0]) (H3.out.to inferInstance) rfl (by kernel_rfl) rfl (Nat.le_of_ble_eq_true rfl) (by kernel_rfl) (w0 := ((w.alloc (.cells #[.int .i64 x.Clock, .slice A.a0 x.Params.length A.c0, .bool x.Safe, .slice A.a1 x.Limits.length A.c1, .slice A.a2 x.Orders.length A.c2, .slice A.a3 x.Done.length A.c3, .int .i64 x.Recorder.Room, .slice A.a4 x.Recorder.Records.length A.c4, .slice A.a5 x.Recorder.Dropped.length A.c5, .int .i64 x.Made, .int .i64 x.Taken, .slice A.a6 x.Asked.length A.c6] 53)).alloc (.cells #[.int .i64 0, .slice none 0 0, .bool false, .slice none 0 0, .slice none 0 0, .slice none 0 0, .int .i64 0, .slice none 0 0, .slice none 0 0, .int .i64 0, .int .i64 0, .slice none 0 0] 85))) inferInstance (by simp) ?_; intro z4 h4 k4; have H4 := Lib.hid h4; clear h4 H3; have e4 : LeN (w.heap.size + 3) z4.w.heap.size := ⟨H4.out.lt⟩; have K4 := Lib.hid k4; clear k4))
  refine (d_ltoWaitingS (HFF.out.q2.keep inferInstance) (HT.out.2.2.1)).mono ?_
  rintro _ _ ⟨na2, nc2, rfl, nq2, y4, rfl⟩
  have Q2 := Lib.hid (nq2.mono (B' := w.heap.size + 3) LeN.out)
  clear nq2
  go_wp2_with (first | ((with_reducible refine wp_region_later (by kernel_rfl) (by kernel_rfl) ?_); (repeat (first | go_big_quiet_step (first | fail))); refine wpQuiet_nil ?_; rintro _ ⟨x, rfl⟩) | (refine stepStore rfl _ _ _ rfl (w.heap.size + 2) 4 rfl (us := [.slice na2 x.Orders.length nc2]) (cs2 := [.int .i64 x.Clock, .slice na0 x.Params.length nc0, .bool x.Safe, .slice na1 x.Limits.length nc1, .slice na2 x.Orders.length nc2, .slice none 0 0, .int .i64 0, .slice none 0 0, .slice none 0 0, .int .i64 0, .int .i64 0, .slice none 0 0]) (H4.out.to inferInstance) rfl (by kernel_rfl) rfl (Nat.le_of_ble_eq_true rfl) (by kernel_rfl) (w0 := ((w.alloc (.cells #[.int .i64 x.Clock, .slice A.a0 x.Params.length A.c0, .bool x.Safe, .slice A.a1 x.Limits.length A.c1, .slice A.a2 x.Orders.length A.c2, .slice A.a3 x.Done.length A.c3, .int .i64 x.Recorder.Room, .slice A.a4 x.Recorder.Records.length A.c4, .slice A.a5 x.Recorder.Dropped.length A.c5, .int .i64 x.Made, .int .i64 x.Taken, .slice A.a6 x.Asked.length A.c6] 53)).alloc (.cells #[.int .i64 0, .slice none 0 0, .bool false, .slice none 0 0, .slice none 0 0, .slice none 0 0, .int .i64 0, .slice none 0 0, .slice none 0 0, .int .i64 0, .int .i64 0, .slice none 0 0] 85))) inferInstance (by simp) ?_; intro z5 h5 k5; have H5 := Lib.hid h5; clear h5 H4; have e5 : LeN (w.heap.size + 3) z5.w.heap.size := ⟨H5.out.lt⟩; have K5 := Lib.hid k5; clear k5))
  refine (d_ltoDoneS (HFF.out.q3.keep inferInstance) (HT.out.2.2.2.1)).mono ?_
  rintro _ _ ⟨na3, nc3, rfl, nq3, y5, rfl⟩
  have Q3 := Lib.hid (nq3.mono (B' := w.heap.size + 3) LeN.out)
  clear nq3
  go_wp2_with (first | ((with_reducible refine wp_region_later (by kernel_rfl) (by kernel_rfl) ?_); (repeat (first | go_big_quiet_step (first | fail))); refine wpQuiet_nil ?_; rintro _ ⟨x, rfl⟩) | (refine stepStore rfl _ _ _ rfl (w.heap.size + 2) 5 rfl (us := [.slice na3 x.Done.length nc3]) (cs2 := [.int .i64 x.Clock, .slice na0 x.Params.length nc0, .bool x.Safe, .slice na1 x.Limits.length nc1, .slice na2 x.Orders.length nc2, .slice na3 x.Done.length nc3, .int .i64 0, .slice none 0 0, .slice none 0 0, .int .i64 0, .int .i64 0, .slice none 0 0]) (H5.out.to inferInstance) rfl (by kernel_rfl) rfl (Nat.le_of_ble_eq_true rfl) (by kernel_rfl) (w0 := ((w.alloc (.cells #[.int .i64 x.Clock, .slice A.a0 x.Params.length A.c0, .bool x.Safe, .slice A.a1 x.Limits.length A.c1, .slice A.a2 x.Orders.length A.c2, .slice A.a3 x.Done.length A.c3, .int .i64 x.Recorder.Room, .slice A.a4 x.Recorder.Records.length A.c4, .slice A.a5 x.Recorder.Dropped.length A.c5, .int .i64 x.Made, .int .i64 x.Taken, .slice A.a6 x.Asked.length A.c6] 53)).alloc (.cells #[.int .i64 0, .slice none 0 0, .bool false, .slice none 0 0, .slice none 0 0, .slice none 0 0, .int .i64 0, .slice none 0 0, .slice none 0 0, .int .i64 0, .int .i64 0, .slice none 0 0] 85))) inferInstance (by simp) ?_; intro z6 h6 k6; have H6 := Lib.hid h6; clear h6 H5; have e6 : LeN (w.heap.size + 3) z6.w.heap.size := ⟨H6.out.lt⟩; have K6 := Lib.hid k6; clear k6) | (refine stepLoad rfl _ _ rfl (w.heap.size) 6 rfl (row := [.int .i64 x.Recorder.Room, .slice A.a4 x.Recorder.Records.length A.c4, .slice A.a5 x.Recorder.Dropped.length A.c5]) (HB.out.to inferInstance) _ Tryz.underlying51 rfl (by kernel_rfl) (by kernel_rfl) ?_))
  refine (d_ltoRecorder (x := x.Recorder) ⟨A.a4, A.c4, A.a5, A.c5, rfl, HFF.out.q4.keep inferInstance, HFF.out.q5.keep inferInstance, HOK.out.2.1⟩ (HT.out.2.2.2.2.1)).mono ?_
  rintro _ _ ⟨_, rfl, ⟨n6a0, n6c0, n6a1, n6c1, rfl, n6q0, n6q1, -⟩, y6, rfl⟩
  have Q4 := Lib.hid (n6q0.mono (B' := w.heap.size + 3) LeN.out)
  clear n6q0
  have Q5 := Lib.hid (n6q1.mono (B' := w.heap.size + 3) LeN.out)
  clear n6q1
  go_wp2_with (first | ((with_reducible refine wp_region_later (by kernel_rfl) (by kernel_rfl) ?_); (repeat (first | go_big_quiet_step (first | fail))); refine wpQuiet_nil ?_; rintro _ ⟨x, rfl⟩) | (refine stepStore rfl _ _ _ rfl (w.heap.size + 2) 6 rfl (us := [.int .i64 x.Recorder.Room, .slice n6a0 x.Recorder.Records.length n6c0, .slice n6a1 x.Recorder.Dropped.length n6c1]) (cs2 := [.int .i64 x.Clock, .slice na0 x.Params.length nc0, .bool x.Safe, .slice na1 x.Limits.length nc1, .slice na2 x.Orders.length nc2, .slice na3 x.Done.length nc3, .int .i64 x.Recorder.Room, .slice n6a0 x.Recorder.Records.length n6c0, .slice n6a1 x.Recorder.Dropped.length n6c1, .int .i64 0, .int .i64 0, .slice none 0 0]) (H6.out.to inferInstance) rfl (by kernel_rfl) rfl (Nat.le_of_ble_eq_true rfl) (by kernel_rfl) (w0 := ((w.alloc (.cells #[.int .i64 x.Clock, .slice A.a0 x.Params.length A.c0, .bool x.Safe, .slice A.a1 x.Limits.length A.c1, .slice A.a2 x.Orders.length A.c2, .slice A.a3 x.Done.length A.c3, .int .i64 x.Recorder.Room, .slice A.a4 x.Recorder.Records.length A.c4, .slice A.a5 x.Recorder.Dropped.length A.c5, .int .i64 x.Made, .int .i64 x.Taken, .slice A.a6 x.Asked.length A.c6] 53)).alloc (.cells #[.int .i64 0, .slice none 0 0, .bool false, .slice none 0 0, .slice none 0 0, .slice none 0 0, .int .i64 0, .slice none 0 0, .slice none 0 0, .int .i64 0, .int .i64 0, .slice none 0 0] 85))) inferInstance (by simp) ?_; intro z7 h7 k7; have H7 := Lib.hid h7; clear h7 H6; have e7 : LeN (w.heap.size + 3) z7.w.heap.size := ⟨H7.out.lt⟩; have K7 := Lib.hid k7; clear k7) | (refine stepStore rfl _ _ _ rfl (w.heap.size + 2) 9 rfl (us := [.int .i64 x.Made]) (cs2 := [.int .i64 x.Clock, .slice na0 x.Params.length nc0, .bool x.Safe, .slice na1 x.Limits.length nc1, .slice na2 x.Orders.length nc2, .slice na3 x.Done.length nc3, .int .i64 x.Recorder.Room, .slice n6a0 x.Recorder.Records.length n6c0, .slice n6a1 x.Recorder.Dropped.length n6c1, .int .i64 x.Made, .int .i64 0, .slice none 0 0]) (H7.out.to inferInstance) rfl (by kernel_rfl) rfl (Nat.le_of_ble_eq_true rfl) (by kernel_rfl) (w0 := ((w.alloc (.cells #[.int .i64 x.Clock, .slice A.a0 x.Params.length A.c0, .bool x.Safe, .slice A.a1 x.Limits.length A.c1, .slice A.a2 x.Orders.length A.c2, .slice A.a3 x.Done.length A.c3, .int .i64 x.Recorder.Room, .slice A.a4 x.Recorder.Records.length A.c4, .slice A.a5 x.Recorder.Dropped.length A.c5, .int .i64 x.Made, .int .i64 x.Taken, .slice A.a6 x.Asked.length A.c6] 53)).alloc (.cells #[.int .i64 0, .slice none 0 0, .bool false, .slice none 0 0, .slice none 0 0, .slice none 0 0, .int .i64 0, .slice none 0 0, .slice none 0 0, .int .i64 0, .int .i64 0, .slice none 0 0] 85))) inferInstance (by simp) ?_; intro z8 h8 k8; have H8 := Lib.hid h8; clear h8 H7; have e8 : LeN (w.heap.size + 3) z8.w.heap.size := ⟨H8.out.lt⟩; have K8 := Lib.hid k8; clear k8) | (refine stepStore rfl _ _ _ rfl (w.heap.size + 2) 10 rfl (us := [.int .i64 x.Taken]) (cs2 := [.int .i64 x.Clock, .slice na0 x.Params.length nc0, .bool x.Safe, .slice na1 x.Limits.length nc1, .slice na2 x.Orders.length nc2, .slice na3 x.Done.length nc3, .int .i64 x.Recorder.Room, .slice n6a0 x.Recorder.Records.length n6c0, .slice n6a1 x.Recorder.Dropped.length n6c1, .int .i64 x.Made, .int .i64 x.Taken, .slice none 0 0]) (H8.out.to inferInstance) rfl (by kernel_rfl) rfl (Nat.le_of_ble_eq_true rfl) (by kernel_rfl) (w0 := ((w.alloc (.cells #[.int .i64 x.Clock, .slice A.a0 x.Params.length A.c0, .bool x.Safe, .slice A.a1 x.Limits.length A.c1, .slice A.a2 x.Orders.length A.c2, .slice A.a3 x.Done.length A.c3, .int .i64 x.Recorder.Room, .slice A.a4 x.Recorder.Records.length A.c4, .slice A.a5 x.Recorder.Dropped.length A.c5, .int .i64 x.Made, .int .i64 x.Taken, .slice A.a6 x.Asked.length A.c6] 53)).alloc (.cells #[.int .i64 0, .slice none 0 0, .bool false, .slice none 0 0, .slice none 0 0, .slice none 0 0, .int .i64 0, .slice none 0 0, .slice none 0 0, .int .i64 0, .int .i64 0, .slice none 0 0] 85))) inferInstance (by simp) ?_; intro z9 h9 k9; have H9 := Lib.hid h9; clear h9 H8; have e9 : LeN (w.heap.size + 3) z9.w.heap.size := ⟨H9.out.lt⟩; have K9 := Lib.hid k9; clear k9))
  refine (d_ltoIntS (HFF.out.q6.keep inferInstance) (HT.out.2.2.2.2.2.1)).mono ?_
  rintro _ _ ⟨na6, nc6, rfl, nq6, y9, rfl⟩
  have Q6 := Lib.hid (nq6.mono (B' := w.heap.size + 3) LeN.out)
  clear nq6
  go_wp2_with (first | ((with_reducible refine wp_region_later (by kernel_rfl) (by kernel_rfl) ?_); (repeat (first | go_big_quiet_step (first | fail))); refine wpQuiet_nil ?_; rintro _ ⟨x, rfl⟩) | (refine stepStore rfl _ _ _ rfl (w.heap.size + 2) 11 rfl (us := [.slice na6 x.Asked.length nc6]) (cs2 := [.int .i64 x.Clock, .slice na0 x.Params.length nc0, .bool x.Safe, .slice na1 x.Limits.length nc1, .slice na2 x.Orders.length nc2, .slice na3 x.Done.length nc3, .int .i64 x.Recorder.Room, .slice n6a0 x.Recorder.Records.length n6c0, .slice n6a1 x.Recorder.Dropped.length n6c1, .int .i64 x.Made, .int .i64 x.Taken, .slice na6 x.Asked.length nc6]) (H9.out.to inferInstance) rfl (by kernel_rfl) rfl (Nat.le_of_ble_eq_true rfl) (by kernel_rfl) (w0 := ((w.alloc (.cells #[.int .i64 x.Clock, .slice A.a0 x.Params.length A.c0, .bool x.Safe, .slice A.a1 x.Limits.length A.c1, .slice A.a2 x.Orders.length A.c2, .slice A.a3 x.Done.length A.c3, .int .i64 x.Recorder.Room, .slice A.a4 x.Recorder.Records.length A.c4, .slice A.a5 x.Recorder.Dropped.length A.c5, .int .i64 x.Made, .int .i64 x.Taken, .slice A.a6 x.Asked.length A.c6] 53)).alloc (.cells #[.int .i64 0, .slice none 0 0, .bool false, .slice none 0 0, .slice none 0 0, .slice none 0 0, .int .i64 0, .slice none 0 0, .slice none 0 0, .int .i64 0, .int .i64 0, .slice none 0 0] 85))) inferInstance (by simp) ?_; intro z10 h10 k10; have H10 := Lib.hid h10; clear h10 H9; have e10 : LeN (w.heap.size + 3) z10.w.heap.size := ⟨H10.out.lt⟩; have K10 := Lib.hid k10; clear k10) | (refine stepLoad rfl _ _ rfl (w.heap.size + 2) 0 rfl (row := [.int .i64 x.Clock, .slice na0 x.Params.length nc0, .bool x.Safe, .slice na1 x.Limits.length nc1, .slice na2 x.Orders.length nc2, .slice na3 x.Done.length nc3, .int .i64 x.Recorder.Room, .slice n6a0 x.Recorder.Records.length n6c0, .slice n6a1 x.Recorder.Dropped.length n6c1, .int .i64 x.Made, .int .i64 x.Taken, .slice na6 x.Asked.length nc6]) H10.out _ Tryz.underlying85 rfl (by kernel_rfl) (by kernel_rfl) ?_) | (refine stepStore rfl _ _ _ rfl (w.heap.size + 1) 0 rfl (us := [.int .i64 x.Clock, .slice na0 x.Params.length nc0, .bool x.Safe, .slice na1 x.Limits.length nc1, .slice na2 x.Orders.length nc2, .slice na3 x.Done.length nc3, .int .i64 x.Recorder.Room, .slice n6a0 x.Recorder.Records.length n6c0, .slice n6a1 x.Recorder.Dropped.length n6c1, .int .i64 x.Made, .int .i64 x.Taken, .slice na6 x.Asked.length nc6]) (cs2 := [.int .i64 x.Clock, .slice na0 x.Params.length nc0, .bool x.Safe, .slice na1 x.Limits.length nc1, .slice na2 x.Orders.length nc2, .slice na3 x.Done.length nc3, .int .i64 x.Recorder.Room, .slice n6a0 x.Recorder.Records.length n6c0, .slice n6a1 x.Recorder.Dropped.length n6c1, .int .i64 x.Made, .int .i64 x.Taken, .slice na6 x.Asked.length nc6]) ((Held.new (w.alloc (.cells #[.int .i64 x.Clock, .slice A.a0 x.Params.length A.c0, .bool x.Safe, .slice A.a1 x.Limits.length A.c1, .slice A.a2 x.Orders.length A.c2, .slice A.a3 x.Done.length A.c3, .int .i64 x.Recorder.Room, .slice A.a4 x.Recorder.Records.length A.c4, .slice A.a5 x.Recorder.Dropped.length A.c5, .int .i64 x.Made, .int .i64 x.Taken, .slice A.a6 x.Asked.length A.c6] 53)) [.int .i64 0, .slice none 0 0, .bool false, .slice none 0 0, .slice none 0 0, .slice none 0 0, .int .i64 0, .slice none 0 0, .slice none 0 0, .int .i64 0, .int .i64 0, .slice none 0 0] 85 (w.heap.size + 1) (by simp)).to inferInstance) rfl (by kernel_rfl) rfl (Nat.le_of_ble_eq_true rfl) (by kernel_rfl) (w0 := (w.alloc (.cells #[.int .i64 x.Clock, .slice A.a0 x.Params.length A.c0, .bool x.Safe, .slice A.a1 x.Limits.length A.c1, .slice A.a2 x.Orders.length A.c2, .slice A.a3 x.Done.length A.c3, .int .i64 x.Recorder.Room, .slice A.a4 x.Recorder.Records.length A.c4, .slice A.a5 x.Recorder.Dropped.length A.c5, .int .i64 x.Made, .int .i64 x.Taken, .slice A.a6 x.Asked.length A.c6] 53))) inferInstance (by simp) ?_; intro zr hr kr; have HR := Lib.hid hr; clear hr; have KR := Lib.hid kr; clear kr))
  have G10 : Keeps (w.heap.size + 3) z10.w zr.w := ⟨KR.out.size, fun b h1 h2 => KR.out.block b (by omega) h2⟩
  have GY9 : Keeps (w.heap.size + 3) y9.w zr.w := Keeps.trans K10.out G10
  have G9 : Keeps (w.heap.size + 3) z9.w zr.w := Keeps.trans inferInstance GY9
  have G8 : Keeps (w.heap.size + 3) z8.w zr.w := Keeps.trans K9.out G9
  have G7 : Keeps (w.heap.size + 3) z7.w zr.w := Keeps.trans K8.out G8
  have GY6 : Keeps (w.heap.size + 3) y6.w zr.w := Keeps.trans K7.out G7
  have G6 : Keeps (w.heap.size + 3) z6.w zr.w := Keeps.trans inferInstance GY6
  have GY5 : Keeps (w.heap.size + 3) y5.w zr.w := Keeps.trans K6.out G6
  have G5 : Keeps (w.heap.size + 3) z5.w zr.w := Keeps.trans inferInstance GY5
  have GY4 : Keeps (w.heap.size + 3) y4.w zr.w := Keeps.trans K5.out G5
  have G4 : Keeps (w.heap.size + 3) z4.w zr.w := Keeps.trans inferInstance GY4
  have GY3 : Keeps (w.heap.size + 3) y3.w zr.w := Keeps.trans K4.out G4
  have G3 : Keeps (w.heap.size + 3) z3.w zr.w := Keeps.trans inferInstance GY3
  have G2 : Keeps (w.heap.size + 3) z2.w zr.w := Keeps.trans K3.out G3
  have GY1 : Keeps (w.heap.size + 3) y1.w zr.w := Keeps.trans K2.out G2
  have G1 : Keeps (w.heap.size + 3) z1.w zr.w := Keeps.trans inferInstance GY1
  have G0 : Keeps (w.heap.size + 3) (((w.alloc (.cells #[.int .i64 x.Clock, .slice A.a0 x.Params.length A.c0, .bool x.Safe, .slice A.a1 x.Limits.length A.c1, .slice A.a2 x.Orders.length A.c2, .slice A.a3 x.Done.length A.c3, .int .i64 x.Recorder.Room, .slice A.a4 x.Recorder.Records.length A.c4, .slice A.a5 x.Recorder.Dropped.length A.c5, .int .i64 x.Made, .int .i64 x.Taken, .slice A.a6 x.Asked.length A.c6] 53)).alloc (.cells #[.int .i64 0, .slice none 0 0, .bool false, .slice none 0 0, .slice none 0 0, .slice none 0 0, .int .i64 0, .slice none 0 0, .slice none 0 0, .int .i64 0, .int .i64 0, .slice none 0 0] 85)).alloc (.cells #[.int .i64 0, .slice none 0 0, .bool false, .slice none 0 0, .slice none 0 0, .slice none 0 0, .int .i64 0, .slice none 0 0, .slice none 0 0, .int .i64 0, .int .i64 0, .slice none 0 0] 85)) zr.w := Keeps.trans K1.out G1
  refine bodyPost_ret (v := .agg #[.int .i64 x.Clock, .slice na0 x.Params.length nc0, .bool x.Safe, .slice na1 x.Limits.length nc1, .slice na2 x.Orders.length nc2, .slice na3 x.Done.length nc3, .int .i64 x.Recorder.Room, .slice n6a0 x.Recorder.Records.length n6c0, .slice n6a1 x.Recorder.Dropped.length n6c1, .int .i64 x.Made, .int .i64 x.Taken, .slice na6 x.Asked.length nc6]) (results_cell (P := Tryz.prog) rfl rfl HR.out _ Tryz.underlying85 rfl (by kernel_rfl)) rfl ⟨[.int .i64 x.Clock, .slice na0 x.Params.length nc0, .bool x.Safe, .slice na1 x.Limits.length nc1, .slice na2 x.Orders.length nc2, .slice na3 x.Done.length nc3, .int .i64 x.Recorder.Room, .slice n6a0 x.Recorder.Records.length n6c0, .slice n6a1 x.Recorder.Dropped.length n6c1, .int .i64 x.Made, .int .i64 x.Taken, .slice na6 x.Asked.length nc6], rfl, ⟨⟨na0, nc0, na1, nc1, na2, nc2, na3, nc3, n6a0, n6c0, n6a1, n6c1, na6, nc6⟩, rfl, ⟨(Q0.out.keep GY1).mono (by omega), (Q1.out.keep GY3).mono (by omega), (Q2.out.keep GY4).mono (by omega), (Q3.out.keep GY5).mono (by omega), (Q4.out.keep GY6).mono (by omega), (Q5.out.keep GY6).mono (by omega), (Q6.out.keep GY9).mono (by omega), HOK.out⟩⟩, Later.of⟩

set_option maxRecDepth 100000 in
set_option maxHeartbeats 2000000 in
theorem d_lszBoard {B : Nat} {vs : List Value} {x : TBoard} {left : Int} {w : World} (h : Enc.Rd B w vs x) (hl : 0 ≤ left) (hl2 : left ≤ 1048576) :
    Calls Tryz.prog 83 #[.agg vs.toArray, .int .i64 left] w (Gives w (.int .i64 (szD left (Enc.tot x)))) := by
  obtain ⟨A, rfl, F⟩ := h
  have n0 := totL_nonneg x.Params
  have n1 := totL_nonneg x.Limits
  have n2 := totL_nonneg x.Orders
  have n3 := totL_nonneg x.Done
  have n4 := Enc.tot_nonneg x.Recorder
  have n5 := totL_nonneg x.Asked
  have HOK := Lib.hid F.ok
  have htot : Enc.tot x = totL x.Params + totL x.Limits + totL x.Orders + totL x.Done + Enc.tot x.Recorder + totL x.Asked := rfl
  have HTOT := Lib.hid htot; clear htot
  have HB := Lib.hid (Held.new w [.int .i64 x.Clock, .slice A.a0 x.Params.length A.c0, .bool x.Safe, .slice A.a1 x.Limits.length A.c1, .slice A.a2 x.Orders.length A.c2, .slice A.a3 x.Done.length A.c3, .int .i64 x.Recorder.Room, .slice A.a4 x.Recorder.Records.length A.c4, .slice A.a5 x.Recorder.Dropped.length A.c5, .int .i64 x.Made, .int .i64 x.Taken, .slice A.a6 x.Asked.length A.c6] 53 w.heap.size rfl)
  have HFF := Lib.hid F; clear F
  go_enter Tryz.func83, Tryz.ntmps83
  go_wp2_with (first | ((with_reducible refine wp_region_later (by kernel_rfl) (by kernel_rfl) ?_); (repeat (first | go_big_quiet_step (first | fail))); refine wpQuiet_nil ?_; rintro _ ⟨x, rfl⟩))
  refine (d_lszIntS (HFF.out.q0.keep inferInstance) (by omega) (by omega)).mono ?_
  rintro _ _ ⟨rfl, y0, rfl⟩
  by_cases h0 : left - totL x.Params < 0
  · have HV := Lib.hid (show szD left (Enc.tot x) = -1 from szD_neg (by rw [HTOT.out]; omega))
    rw [szD_neg h0]
    go_wp2_with (first | ((with_reducible refine wp_region_later (by kernel_rfl) (by kernel_rfl) ?_); (repeat (first | go_big_quiet_step (first | fail))); refine wpQuiet_nil ?_; rintro _ ⟨x, rfl⟩))
    go_ret
    exact Gives.mk (by rw [HV.out]; rfl)
  rw [szD_pos h0]
  go_wp2_with (first | ((with_reducible refine wp_region_later (by kernel_rfl) (by kernel_rfl) ?_); (repeat (first | go_big_quiet_step (first | fail))); refine wpQuiet_nil ?_; rintro _ ⟨x, rfl⟩))
  refine (d_lszLimitS (HFF.out.q1.keep inferInstance) (by omega) (by omega)).mono ?_
  rintro _ _ ⟨rfl, y1, rfl⟩
  by_cases h1 : left - totL x.Params - totL x.Limits < 0
  · have HV := Lib.hid (show szD left (Enc.tot x) = -1 from szD_neg (by rw [HTOT.out]; omega))
    rw [szD_neg h1]
    go_wp2_with (first | ((with_reducible refine wp_region_later (by kernel_rfl) (by kernel_rfl) ?_); (repeat (first | go_big_quiet_step (first | fail))); refine wpQuiet_nil ?_; rintro _ ⟨x, rfl⟩))
    go_ret
    exact Gives.mk (by rw [HV.out]; rfl)
  rw [szD_pos h1]
  go_wp2_with (first | ((with_reducible refine wp_region_later (by kernel_rfl) (by kernel_rfl) ?_); (repeat (first | go_big_quiet_step (first | fail))); refine wpQuiet_nil ?_; rintro _ ⟨x, rfl⟩))
  refine (d_lszWaitingS (HFF.out.q2.keep inferInstance) (by omega) (by omega)).mono ?_
  rintro _ _ ⟨rfl, y2, rfl⟩
  by_cases h2 : left - totL x.Params - totL x.Limits - totL x.Orders < 0
  · have HV := Lib.hid (show szD left (Enc.tot x) = -1 from szD_neg (by rw [HTOT.out]; omega))
    rw [szD_neg h2]
    go_wp2_with (first | ((with_reducible refine wp_region_later (by kernel_rfl) (by kernel_rfl) ?_); (repeat (first | go_big_quiet_step (first | fail))); refine wpQuiet_nil ?_; rintro _ ⟨x, rfl⟩))
    go_ret
    exact Gives.mk (by rw [HV.out]; rfl)
  rw [szD_pos h2]
  go_wp2_with (first | ((with_reducible refine wp_region_later (by kernel_rfl) (by kernel_rfl) ?_); (repeat (first | go_big_quiet_step (first | fail))); refine wpQuiet_nil ?_; rintro _ ⟨x, rfl⟩))
  refine (d_lszDoneS (HFF.out.q3.keep inferInstance) (by omega) (by omega)).mono ?_
  rintro _ _ ⟨rfl, y3, rfl⟩
  by_cases h3 : left - totL x.Params - totL x.Limits - totL x.Orders - totL x.Done < 0
  · have HV := Lib.hid (show szD left (Enc.tot x) = -1 from szD_neg (by rw [HTOT.out]; omega))
    rw [szD_neg h3]
    go_wp2_with (first | ((with_reducible refine wp_region_later (by kernel_rfl) (by kernel_rfl) ?_); (repeat (first | go_big_quiet_step (first | fail))); refine wpQuiet_nil ?_; rintro _ ⟨x, rfl⟩))
    go_ret
    exact Gives.mk (by rw [HV.out]; rfl)
  rw [szD_pos h3]
  go_wp2_with (first | ((with_reducible refine wp_region_later (by kernel_rfl) (by kernel_rfl) ?_); (repeat (first | go_big_quiet_step (first | fail))); refine wpQuiet_nil ?_; rintro _ ⟨x, rfl⟩) | (refine stepLoad rfl _ _ rfl (w.heap.size) 6 rfl (row := [.int .i64 x.Recorder.Room, .slice A.a4 x.Recorder.Records.length A.c4, .slice A.a5 x.Recorder.Dropped.length A.c5]) (HB.out.to inferInstance) _ Tryz.underlying51 rfl (by kernel_rfl) (by kernel_rfl) ?_))
  refine (d_lszRecorder (x := x.Recorder) ⟨A.a4, A.c4, A.a5, A.c5, rfl, HFF.out.q4.keep inferInstance, HFF.out.q5.keep inferInstance, HOK.out.2.1⟩ (by omega) (by omega)).mono ?_
  rintro _ _ ⟨rfl, y4, rfl⟩
  by_cases h4 : left - totL x.Params - totL x.Limits - totL x.Orders - totL x.Done - Enc.tot x.Recorder < 0
  · have HV := Lib.hid (show szD left (Enc.tot x) = -1 from szD_neg (by rw [HTOT.out]; omega))
    rw [szD_neg h4]
    go_wp2_with (first | ((with_reducible refine wp_region_later (by kernel_rfl) (by kernel_rfl) ?_); (repeat (first | go_big_quiet_step (first | fail))); refine wpQuiet_nil ?_; rintro _ ⟨x, rfl⟩))
    go_ret
    exact Gives.mk (by rw [HV.out]; rfl)
  rw [szD_pos h4]
  go_wp2_with (first | ((with_reducible refine wp_region_later (by kernel_rfl) (by kernel_rfl) ?_); (repeat (first | go_big_quiet_step (first | fail))); refine wpQuiet_nil ?_; rintro _ ⟨x, rfl⟩))
  refine (d_lszIntS (HFF.out.q6.keep inferInstance) (by omega) (by omega)).mono ?_
  rintro _ _ ⟨rfl, y5, rfl⟩
  by_cases h5 : left - totL x.Params - totL x.Limits - totL x.Orders - totL x.Done - Enc.tot x.Recorder - totL x.Asked < 0
  · have HV := Lib.hid (show szD left (Enc.tot x) = -1 from szD_neg (by rw [HTOT.out]; omega))
    rw [szD_neg h5]
    go_wp2_with (first | ((with_reducible refine wp_region_later (by kernel_rfl) (by kernel_rfl) ?_); (repeat (first | go_big_quiet_step (first | fail))); refine wpQuiet_nil ?_; rintro _ ⟨x, rfl⟩))
    go_ret
    exact Gives.mk (by rw [HV.out]; rfl)
  rw [szD_pos h5]
  have HV := Lib.hid (show szD left (Enc.tot x) = left - totL x.Params - totL x.Limits - totL x.Orders - totL x.Done - Enc.tot x.Recorder - totL x.Asked by rw [szD_pos (by rw [HTOT.out]; omega), HTOT.out] <;> omega)
  go_wp2_with (first | ((with_reducible refine wp_region_later (by kernel_rfl) (by kernel_rfl) ?_); (repeat (first | go_big_quiet_step (first | fail))); refine wpQuiet_nil ?_; rintro _ ⟨x, rfl⟩))
  go_ret
  exact Gives.mk (by rw [HV.out]; rfl)

theorem d_leqBoard {B B2 : Nat} {vs vs2 : List Value} {x : TBoard} {w : World} (h : Enc.Rd B w vs x) (h2 : Enc.Rd B2 w vs2 x) :
    Calls Tryz.prog 109 #[.agg vs.toArray, .agg vs2.toArray] w (Gives w (.bool true)) := by
  obtain ⟨A, rfl, F⟩ := h
  obtain ⟨mA, rfl, mF⟩ := h2
  have HOK := Lib.hid F.ok
  have HB := Lib.hid ((Held.new w [.int .i64 x.Clock, .slice A.a0 x.Params.length A.c0, .bool x.Safe, .slice A.a1 x.Limits.length A.c1, .slice A.a2 x.Orders.length A.c2, .slice A.a3 x.Done.length A.c3, .int .i64 x.Recorder.Room, .slice A.a4 x.Recorder.Records.length A.c4, .slice A.a5 x.Recorder.Dropped.length A.c5, .int .i64 x.Made, .int .i64 x.Taken, .slice A.a6 x.Asked.length A.c6] 85 w.heap.size rfl).to (inferInstance : Grows _ ((w.alloc (.cells #[.int .i64 x.Clock, .slice A.a0 x.Params.length A.c0, .bool x.Safe, .slice A.a1 x.Limits.length A.c1, .slice A.a2 x.Orders.length A.c2, .slice A.a3 x.Done.length A.c3, .int .i64 x.Recorder.Room, .slice A.a4 x.Recorder.Records.length A.c4, .slice A.a5 x.Recorder.Dropped.length A.c5, .int .i64 x.Made, .int .i64 x.Taken, .slice A.a6 x.Asked.length A.c6] 85)).alloc (.cells #[.int .i64 x.Clock, .slice mA.a0 x.Params.length mA.c0, .bool x.Safe, .slice mA.a1 x.Limits.length mA.c1, .slice mA.a2 x.Orders.length mA.c2, .slice mA.a3 x.Done.length mA.c3, .int .i64 x.Recorder.Room, .slice mA.a4 x.Recorder.Records.length mA.c4, .slice mA.a5 x.Recorder.Dropped.length mA.c5, .int .i64 x.Made, .int .i64 x.Taken, .slice mA.a6 x.Asked.length mA.c6] 85))))
  have HC := Lib.hid (Held.new (w.alloc (.cells #[.int .i64 x.Clock, .slice A.a0 x.Params.length A.c0, .bool x.Safe, .slice A.a1 x.Limits.length A.c1, .slice A.a2 x.Orders.length A.c2, .slice A.a3 x.Done.length A.c3, .int .i64 x.Recorder.Room, .slice A.a4 x.Recorder.Records.length A.c4, .slice A.a5 x.Recorder.Dropped.length A.c5, .int .i64 x.Made, .int .i64 x.Taken, .slice A.a6 x.Asked.length A.c6] 85)) [.int .i64 x.Clock, .slice mA.a0 x.Params.length mA.c0, .bool x.Safe, .slice mA.a1 x.Limits.length mA.c1, .slice mA.a2 x.Orders.length mA.c2, .slice mA.a3 x.Done.length mA.c3, .int .i64 x.Recorder.Room, .slice mA.a4 x.Recorder.Records.length mA.c4, .slice mA.a5 x.Recorder.Dropped.length mA.c5, .int .i64 x.Made, .int .i64 x.Taken, .slice mA.a6 x.Asked.length mA.c6] 85 (w.heap.size + 1) (by simp))
  have HFF := Lib.hid F; clear F
  have HMF := Lib.hid mF; clear mF
  go_enter Tryz.func109, Tryz.ntmps109
  go_wp2_with (first | ((with_reducible refine wp_region_later (by kernel_rfl) (by kernel_rfl) ?_); (repeat (first | go_big_quiet_step (first | fail))); refine wpQuiet_nil ?_; rintro _ ⟨x, rfl⟩))
  refine (d_leqIntS (HFF.out.q0.keep inferInstance) (HMF.out.q0.keep inferInstance)).mono ?_
  rintro _ _ ⟨rfl, y0, rfl⟩
  go_wp2_with (first | ((with_reducible refine wp_region_later (by kernel_rfl) (by kernel_rfl) ?_); (repeat (first | go_big_quiet_step (first | fail))); refine wpQuiet_nil ?_; rintro _ ⟨x, rfl⟩))
  refine (d_leqLimitS (HFF.out.q1.keep inferInstance) (HMF.out.q1.keep inferInstance)).mono ?_
  rintro _ _ ⟨rfl, y1, rfl⟩
  go_wp2_with (first | ((with_reducible refine wp_region_later (by kernel_rfl) (by kernel_rfl) ?_); (repeat (first | go_big_quiet_step (first | fail))); refine wpQuiet_nil ?_; rintro _ ⟨x, rfl⟩))
  refine (d_leqWaitingS (HFF.out.q2.keep inferInstance) (HMF.out.q2.keep inferInstance)).mono ?_
  rintro _ _ ⟨rfl, y2, rfl⟩
  go_wp2_with (first | ((with_reducible refine wp_region_later (by kernel_rfl) (by kernel_rfl) ?_); (repeat (first | go_big_quiet_step (first | fail))); refine wpQuiet_nil ?_; rintro _ ⟨x, rfl⟩))
  refine (d_leqDoneS (HFF.out.q3.keep inferInstance) (HMF.out.q3.keep inferInstance)).mono ?_
  rintro _ _ ⟨rfl, y3, rfl⟩
  go_wp2_with (first | ((with_reducible refine wp_region_later (by kernel_rfl) (by kernel_rfl) ?_); (repeat (first | go_big_quiet_step (first | fail))); refine wpQuiet_nil ?_; rintro _ ⟨x, rfl⟩) | (refine stepLoad rfl _ _ rfl (w.heap.size) 6 rfl (row := [.int .i64 x.Recorder.Room, .slice A.a4 x.Recorder.Records.length A.c4, .slice A.a5 x.Recorder.Dropped.length A.c5]) (HB.out.to inferInstance) _ Tryz.underlying83 rfl (by kernel_rfl) (by kernel_rfl) ?_) | (refine stepLoad rfl _ _ rfl (w.heap.size + 1) 6 rfl (row := [.int .i64 x.Recorder.Room, .slice mA.a4 x.Recorder.Records.length mA.c4, .slice mA.a5 x.Recorder.Dropped.length mA.c5]) (HC.out.to inferInstance) _ Tryz.underlying83 rfl (by kernel_rfl) (by kernel_rfl) ?_))
  refine (d_leqRecorder (x := x.Recorder) ⟨A.a4, A.c4, A.a5, A.c5, rfl, HFF.out.q4.keep inferInstance, HFF.out.q5.keep inferInstance, HOK.out.2.1⟩ ⟨mA.a4, mA.c4, mA.a5, mA.c5, rfl, HMF.out.q4.keep inferInstance, HMF.out.q5.keep inferInstance, HOK.out.2.1⟩).mono ?_
  rintro _ _ ⟨rfl, y4, rfl⟩
  go_wp2_with (first | ((with_reducible refine wp_region_later (by kernel_rfl) (by kernel_rfl) ?_); (repeat (first | go_big_quiet_step (first | fail))); refine wpQuiet_nil ?_; rintro _ ⟨x, rfl⟩))
  refine (d_leqIntS (HFF.out.q6.keep inferInstance) (HMF.out.q6.keep inferInstance)).mono ?_
  rintro _ _ ⟨rfl, y5, rfl⟩
  go_wp2_with (first | ((with_reducible refine wp_region_later (by kernel_rfl) (by kernel_rfl) ?_); (repeat (first | go_big_quiet_step (first | fail))); refine wpQuiet_nil ?_; rintro _ ⟨x, rfl⟩))
  go_ret
  exact Gives.mk rfl

end Go.Proofs.YtdankjbkioepgaaGreat
