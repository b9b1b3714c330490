/- The contracts of the mirror, size and equality of a board. No condition but on sizes. -/
import Derived.Test.YtbaffippdifbpaaGreatVM9
import Derived.Test.YtbaffippdifbpaaGreatVDM1
import Derived.Test.YtbaffippdifbpaaGreatVM0
namespace Go.Proofs.YtbaffippdifbpaaGreat
set_option linter.unusedVariables false
open Go.ChangeShapes Go.WideShapes Go.ChangeAt Go.RowKit
set_option maxRecDepth 100000 in
set_option maxHeartbeats 2000000 in
theorem d_lszBoard {B : Nat} {vs : List Value} {x : TBoard} {left : Int} {w : World} (h : Enc.Rd B w vs x) (hl : 0 ≤ left) (hl2 : left ≤ 1048576) :
    Calls Tryz.prog 194 #[.agg vs.toArray, .int .i64 left] w (Gives w (.int .i64 (szD left (Enc.tot x)))) := by
  obtain ⟨A, rfl, F⟩ := h
  have n0 := totL_nonneg x.Params
  have n1 := totL_nonneg x.Limits
  have n2 := totL_nonneg x.Orders
  have n3 := totL_nonneg x.Done
  have n4 := Enc.tot_nonneg x.Recorder
  have n5 := totL_nonneg x.Asked
  have HOK := Lib.hid F.ok
  have htot : Enc.tot x = totL x.Params + totL x.Limits + totL x.Orders + totL x.Done + Enc.tot x.Recorder + totL x.Asked := rfl
  have HTOT := Lib.hid htot; clear htot
  have HB := Lib.hid (Held.new w (cBoard x A.a0 A.c0 A.a1 A.c1 A.a2 A.c2 A.a3 A.c3 A.a4 A.c4 A.a5 A.c5 A.a6 A.c6) 110 w.heap.size rfl)
  have HFF := Lib.hid F; clear F
  go_enter Tryz.func194, Tryz.ntmps194
  go_wp2_with fail
  refine (d_lszIntS (HFF.out.q0.keep inferInstance) (by omega) (by omega)).mono ?_
  rintro _ _ ⟨rfl, y0, rfl⟩
  by_cases h0 : left - totL x.Params < 0
  · have HV := Lib.hid (show szD left (Enc.tot x) = -1 from szD_neg (by rw [HTOT.out]; omega))
    rw [szD_neg h0]
    go_wp2_with fail
    go_ret
    exact Gives.mk (by rw [HV.out]; rfl)
  rw [szD_pos h0]
  go_wp2_with fail
  refine (d_lszLimitS (HFF.out.q1.keep inferInstance) (by omega) (by omega)).mono ?_
  rintro _ _ ⟨rfl, y1, rfl⟩
  by_cases h1 : left - totL x.Params - totL x.Limits < 0
  · have HV := Lib.hid (show szD left (Enc.tot x) = -1 from szD_neg (by rw [HTOT.out]; omega))
    rw [szD_neg h1]
    go_wp2_with fail
    go_ret
    exact Gives.mk (by rw [HV.out]; rfl)
  rw [szD_pos h1]
  go_wp2_with fail
  refine (d_lszWaitingS (HFF.out.q2.keep inferInstance) (by omega) (by omega)).mono ?_
  rintro _ _ ⟨rfl, y2, rfl⟩
  by_cases h2 : left - totL x.Params - totL x.Limits - totL x.Orders < 0
  · have HV := Lib.hid (show szD left (Enc.tot x) = -1 from szD_neg (by rw [HTOT.out]; omega))
    rw [szD_neg h2]
    go_wp2_with fail
    go_ret
    exact Gives.mk (by rw [HV.out]; rfl)
  rw [szD_pos h2]
  go_wp2_with fail
  refine (d_lszDoneS (HFF.out.q3.keep inferInstance) (by omega) (by omega)).mono ?_
  rintro _ _ ⟨rfl, y3, rfl⟩
  by_cases h3 : left - totL x.Params - totL x.Limits - totL x.Orders - totL x.Done < 0
  · have HV := Lib.hid (show szD left (Enc.tot x) = -1 from szD_neg (by rw [HTOT.out]; omega))
    rw [szD_neg h3]
    go_wp2_with fail
    go_ret
    exact Gives.mk (by rw [HV.out]; rfl)
  rw [szD_pos h3]
  go_wp2_with (first | (refine stepLoad rfl _ _ rfl (w.heap.size) 6 rfl (row := [.int .i64 x.Recorder.Room, .slice A.a4 x.Recorder.Records.length A.c4, .slice A.a5 x.Recorder.Dropped.length A.c5]) (HB.out.to inferInstance) _ Tryz.underlying108 rfl (by kernel_rfl) (by kernel_rfl) ?_))
  refine (d_lszRecorder (x := x.Recorder) ⟨A.a4, A.c4, A.a5, A.c5, rfl, HFF.out.q4.keep inferInstance, HFF.out.q5.keep inferInstance, HOK.out.2.1⟩ (by omega) (by omega)).mono ?_
  rintro _ _ ⟨rfl, y4, rfl⟩
  by_cases h4 : left - totL x.Params - totL x.Limits - totL x.Orders - totL x.Done - Enc.tot x.Recorder < 0
  · have HV := Lib.hid (show szD left (Enc.tot x) = -1 from szD_neg (by rw [HTOT.out]; omega))
    rw [szD_neg h4]
    go_wp2_with fail
    go_ret
    exact Gives.mk (by rw [HV.out]; rfl)
  rw [szD_pos h4]
  go_wp2_with fail
  refine (d_lszIntS (HFF.out.q6.keep inferInstance) (by omega) (by omega)).mono ?_
  rintro _ _ ⟨rfl, y5, rfl⟩
  by_cases h5 : left - totL x.Params - totL x.Limits - totL x.Orders - totL x.Done - Enc.tot x.Recorder - totL x.Asked < 0
  · have HV := Lib.hid (show szD left (Enc.tot x) = -1 from szD_neg (by rw [HTOT.out]; omega))
    rw [szD_neg h5]
    go_wp2_with fail
    go_ret
    exact Gives.mk (by rw [HV.out]; rfl)
  rw [szD_pos h5]
  have HV := Lib.hid (show szD left (Enc.tot x) = left - totL x.Params - totL x.Limits - totL x.Orders - totL x.Done - Enc.tot x.Recorder - totL x.Asked by rw [szD_pos (by rw [HTOT.out]; omega), HTOT.out] <;> omega)
  go_wp2_with fail
  go_ret
  exact Gives.mk (by rw [HV.out]; rfl)
theorem d_leqBoard {B B2 : Nat} {vs vs2 : List Value} {x : TBoard} {w : World} (h : Enc.Rd B w vs x) (h2 : Enc.Rd B2 w vs2 x) :
    Calls Tryz.prog 168 #[.agg vs.toArray, .agg vs2.toArray] w (Gives w (.bool true)) := by
  obtain ⟨A, rfl, F⟩ := h
  obtain ⟨mA, rfl, mF⟩ := h2
  have HOK := Lib.hid F.ok
  have HB := Lib.hid ((Held.new w (cBoard x A.a0 A.c0 A.a1 A.c1 A.a2 A.c2 A.a3 A.c3 A.a4 A.c4 A.a5 A.c5 A.a6 A.c6) 55 w.heap.size rfl).to (inferInstance : Grows _ ((w.alloc (.cells (cBoard x A.a0 A.c0 A.a1 A.c1 A.a2 A.c2 A.a3 A.c3 A.a4 A.c4 A.a5 A.c5 A.a6 A.c6).toArray 55)).alloc (.cells (cBoard x mA.a0 mA.c0 mA.a1 mA.c1 mA.a2 mA.c2 mA.a3 mA.c3 mA.a4 mA.c4 mA.a5 mA.c5 mA.a6 mA.c6).toArray 55))))
  have HC := Lib.hid (Held.new (w.alloc (.cells (cBoard x A.a0 A.c0 A.a1 A.c1 A.a2 A.c2 A.a3 A.c3 A.a4 A.c4 A.a5 A.c5 A.a6 A.c6).toArray 55)) (cBoard x mA.a0 mA.c0 mA.a1 mA.c1 mA.a2 mA.c2 mA.a3 mA.c3 mA.a4 mA.c4 mA.a5 mA.c5 mA.a6 mA.c6) 55 (w.heap.size + 1) (by simp))
  have HFF := Lib.hid F; clear F
  have HMF := Lib.hid mF; clear mF
  go_enter Tryz.func168, Tryz.ntmps168
  go_wp2_with fail
  refine (d_leqIntS (HFF.out.q0.keep inferInstance) (HMF.out.q0.keep inferInstance)).mono ?_
  rintro _ _ ⟨rfl, y0, rfl⟩
  go_wp2_with fail
  refine (d_leqLimitS (HFF.out.q1.keep inferInstance) (HMF.out.q1.keep inferInstance)).mono ?_
  rintro _ _ ⟨rfl, y1, rfl⟩
  go_wp2_with fail
  refine (d_leqWaitingS (HFF.out.q2.keep inferInstance) (HMF.out.q2.keep inferInstance)).mono ?_
  rintro _ _ ⟨rfl, y2, rfl⟩
  go_wp2_with fail
  refine (d_leqDoneS (HFF.out.q3.keep inferInstance) (HMF.out.q3.keep inferInstance)).mono ?_
  rintro _ _ ⟨rfl, y3, rfl⟩
  go_wp2_with (first | (refine stepLoad rfl _ _ rfl (w.heap.size) 6 rfl (row := [.int .i64 x.Recorder.Room, .slice A.a4 x.Recorder.Records.length A.c4, .slice A.a5 x.Recorder.Dropped.length A.c5]) (HB.out.to inferInstance) _ Tryz.underlying53 rfl (by kernel_rfl) (by kernel_rfl) ?_) | (refine stepLoad rfl _ _ rfl (w.heap.size + 1) 6 rfl (row := [.int .i64 x.Recorder.Room, .slice mA.a4 x.Recorder.Records.length mA.c4, .slice mA.a5 x.Recorder.Dropped.length mA.c5]) (HC.out.to inferInstance) _ Tryz.underlying53 rfl (by kernel_rfl) (by kernel_rfl) ?_))
  refine (d_leqRecorder (x := x.Recorder) ⟨A.a4, A.c4, A.a5, A.c5, rfl, HFF.out.q4.keep inferInstance, HFF.out.q5.keep inferInstance, HOK.out.2.1⟩ ⟨mA.a4, mA.c4, mA.a5, mA.c5, rfl, HMF.out.q4.keep inferInstance, HMF.out.q5.keep inferInstance, HOK.out.2.1⟩).mono ?_
  rintro _ _ ⟨rfl, y4, rfl⟩
  go_wp2_with fail
  refine (d_leqIntS (HFF.out.q6.keep inferInstance) (HMF.out.q6.keep inferInstance)).mono ?_
  rintro _ _ ⟨rfl, y5, rfl⟩
  go_wp2_with fail
  go_ret
  exact Gives.mk rfl
end Go.Proofs.YtbaffippdifbpaaGreat
