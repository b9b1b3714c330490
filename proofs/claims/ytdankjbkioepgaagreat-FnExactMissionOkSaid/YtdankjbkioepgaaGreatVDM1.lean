/- The contracts of the mirrors, sizes and equalities of structs with slices (1). No condition but on sizes. -/
import Derived.Test.YtdankjbkioepgaaGreatVDF1
import Derived.Test.YtdankjbkioepgaaGreatVM2
namespace Go.Proofs.YtdankjbkioepgaaGreat
set_option linter.unusedVariables false
open Go.ChangeShapes Go.WideShapes Go.ChangeAt Go.RowKit

theorem d_ltoPacker {B : Nat} {vs : List Value} {x : TPacker} {w : World} (h : Enc.Rd B w vs x) (ht : Enc.tot x ≤ 1048576) :
    Calls Tryz.prog 97 #[.agg vs.toArray] w (GivesD w x) := by
  obtain ⟨a0, c0, rfl, q0, hok⟩ := h
  have HT := Lib.hid (show totL x.Starts ≤ 1048576 ∧ True from by
    have ht2 : (x.Rest.size : Int) + totL x.Starts ≤ 1048576 := ht
    have n0 := totL_nonneg x.Starts
    refine ⟨?_, trivial⟩ <;> omega)
  clear ht
  have HOK := Lib.hid hok; clear hok
  go_enter Tryz.func97, Tryz.ntmps97
  go_wp2_with (first | ((with_reducible refine wp_region_later (by kernel_rfl) (by kernel_rfl) ?_); (repeat (first | go_big_quiet_step (first | fail))); refine wpQuiet_nil ?_; rintro _ ⟨x, rfl⟩))
  refine (d_ltoIntS (q0.keep inferInstance) (HT.out.1)).mono ?_
  rintro _ _ ⟨na0, nc0, rfl, nq0, y0, rfl⟩
  have Q0 := Lib.hid (nq0.mono (B' := w.heap.size + 3) LeN.out); clear nq0
  go_wp2_with (first | ((with_reducible refine wp_region_later (by kernel_rfl) (by kernel_rfl) ?_); (repeat (first | go_big_quiet_step (first | fail))); refine wpQuiet_nil ?_; rintro _ ⟨x, rfl⟩))
  refine bodyPost_ret (v := .agg #[.int .i64 x.Channel, .int .i64 x.Count, .string x.Rest, .slice na0 x.Starts.length nc0]) ?_ rfl ⟨[.int .i64 x.Channel, .int .i64 x.Count, .string x.Rest, .slice na0 x.Starts.length nc0], rfl, ⟨na0, nc0, rfl, (Q0.out.keep inferInstance).mono (by omega), HOK.out⟩, Later.of⟩
  simp [results, Tryz.results97, go_sem]

theorem d_lszPacker {B : Nat} {vs : List Value} {x : TPacker} {left : Int} {w : World} (h : Enc.Rd B w vs x) (hl : 0 ≤ left) (hl2 : left ≤ 1048576) :
    Calls Tryz.prog 84 #[.agg vs.toArray, .int .i64 left] w (Gives w (.int .i64 (szD left (Enc.tot x)))) := by
  obtain ⟨a0, c0, rfl, q0, hok⟩ := h
  have n0 : (0 : Int) ≤ x.Rest.size := by omega
  have z0 : x.Rest.size ≤ 9223372036854775807 := hok.2.2.1
  have n1 := totL_nonneg x.Starts
  have HOK := Lib.hid hok; clear hok
  have htot : Enc.tot x = (x.Rest.size : Int) + totL x.Starts := rfl
  have HTOT := Lib.hid htot; clear htot
  go_enter Tryz.func84, Tryz.ntmps84
  by_cases h0 : left - (x.Rest.size : Int) < 0
  · have HV := Lib.hid (show szD left (Enc.tot x) = -1 from szD_neg (by rw [HTOT.out]; omega))
    go_wp2_with (first | ((with_reducible refine wp_region_later (by kernel_rfl) (by kernel_rfl) ?_); (repeat (first | go_big_quiet_step (first | fail))); refine wpQuiet_nil ?_; rintro _ ⟨x, rfl⟩))
    go_ret
    exact Gives.mk (by rw [HV.out]; rfl)
  go_wp2_with (first | ((with_reducible refine wp_region_later (by kernel_rfl) (by kernel_rfl) ?_); (repeat (first | go_big_quiet_step (first | fail))); refine wpQuiet_nil ?_; rintro _ ⟨x, rfl⟩))
  refine (d_lszIntS (q0.keep inferInstance) (by omega) (by omega)).mono ?_
  rintro _ _ ⟨rfl, y1, rfl⟩
  by_cases h1 : left - (x.Rest.size : Int) - totL x.Starts < 0
  · have HV := Lib.hid (show szD left (Enc.tot x) = -1 from szD_neg (by rw [HTOT.out]; omega))
    rw [szD_neg h1]
    go_wp2_with (first | ((with_reducible refine wp_region_later (by kernel_rfl) (by kernel_rfl) ?_); (repeat (first | go_big_quiet_step (first | fail))); refine wpQuiet_nil ?_; rintro _ ⟨x, rfl⟩))
    go_ret
    exact Gives.mk (by rw [HV.out]; rfl)
  rw [szD_pos h1]
  have HV := Lib.hid (show szD left (Enc.tot x) = left - (x.Rest.size : Int) - totL x.Starts by rw [szD_pos (by rw [HTOT.out]; omega), HTOT.out] <;> omega)
  go_wp2_with (first | ((with_reducible refine wp_region_later (by kernel_rfl) (by kernel_rfl) ?_); (repeat (first | go_big_quiet_step (first | fail))); refine wpQuiet_nil ?_; rintro _ ⟨x, rfl⟩))
  go_ret
  exact Gives.mk (by rw [HV.out]; rfl)

theorem d_leqPacker {B B2 : Nat} {vs vs2 : List Value} {x : TPacker} {w : World} (h : Enc.Rd B w vs x) (h2 : Enc.Rd B2 w vs2 x) :
    Calls Tryz.prog 110 #[.agg vs.toArray, .agg vs2.toArray] w (Gives w (.bool true)) := by
  obtain ⟨a0, c0, rfl, q0, hok⟩ := h
  obtain ⟨ma0, mc0, rfl, mq0, -⟩ := h2
  have HOK := Lib.hid hok; clear hok
  go_enter Tryz.func110, Tryz.ntmps110
  go_wp2_with (first | ((with_reducible refine wp_region_later (by kernel_rfl) (by kernel_rfl) ?_); (repeat (first | go_big_quiet_step (first | fail))); refine wpQuiet_nil ?_; rintro _ ⟨x, rfl⟩))
  refine (d_leqIntS (q0.keep inferInstance) (mq0.keep inferInstance)).mono ?_
  rintro _ _ ⟨rfl, y0, rfl⟩
  go_wp2_with (first | ((with_reducible refine wp_region_later (by kernel_rfl) (by kernel_rfl) ?_); (repeat (first | go_big_quiet_step (first | fail))); refine wpQuiet_nil ?_; rintro _ ⟨x, rfl⟩))
  go_ret
  exact Gives.mk rfl

theorem d_ltoSender {B : Nat} {vs : List Value} {x : TSender} {w : World} (h : Enc.Rd B w vs x) (ht : Enc.tot x ≤ 1048576) :
    Calls Tryz.prog 88 #[.agg vs.toArray] w (GivesD w x) := by
  obtain ⟨a0, c0, rfl, q0, hok⟩ := h
  have HT := Lib.hid (show totL x.Waiting ≤ 1048576 ∧ True from by
    have ht2 : totL x.Waiting ≤ 1048576 := ht
    have n0 := totL_nonneg x.Waiting
    refine ⟨?_, trivial⟩ <;> omega)
  clear ht
  have HOK := Lib.hid hok; clear hok
  go_enter Tryz.func88, Tryz.ntmps88
  go_wp2_with (first | ((with_reducible refine wp_region_later (by kernel_rfl) (by kernel_rfl) ?_); (repeat (first | go_big_quiet_step (first | fail))); refine wpQuiet_nil ?_; rintro _ ⟨x, rfl⟩))
  refine (d_ltoSentS (q0.keep inferInstance) (HT.out.1)).mono ?_
  rintro _ _ ⟨na0, nc0, rfl, nq0, y0, rfl⟩
  have Q0 := Lib.hid (nq0.mono (B' := w.heap.size + 3) LeN.out); clear nq0
  go_wp2_with (first | ((with_reducible refine wp_region_later (by kernel_rfl) (by kernel_rfl) ?_); (repeat (first | go_big_quiet_step (first | fail))); refine wpQuiet_nil ?_; rintro _ ⟨x, rfl⟩))
  refine bodyPost_ret (v := .agg #[.int .i64 x.Next, .int .i64 x.Window, .slice na0 x.Waiting.length nc0, .int .i64 x.Done]) ?_ rfl ⟨[.int .i64 x.Next, .int .i64 x.Window, .slice na0 x.Waiting.length nc0, .int .i64 x.Done], rfl, ⟨na0, nc0, rfl, (Q0.out.keep inferInstance).mono (by omega), HOK.out⟩, Later.of⟩
  simp [results, Tryz.results88, go_sem]

theorem d_lszSender {B : Nat} {vs : List Value} {x : TSender} {left : Int} {w : World} (h : Enc.Rd B w vs x) (hl : 0 ≤ left) (hl2 : left ≤ 1048576) :
    Calls Tryz.prog 77 #[.agg vs.toArray, .int .i64 left] w (Gives w (.int .i64 (szD left (Enc.tot x)))) := by
  obtain ⟨a0, c0, rfl, q0, hok⟩ := h
  have n0 := totL_nonneg x.Waiting
  have HOK := Lib.hid hok; clear hok
  have htot : Enc.tot x = totL x.Waiting := rfl
  have HTOT := Lib.hid htot; clear htot
  go_enter Tryz.func77, Tryz.ntmps77
  go_wp2_with (first | ((with_reducible refine wp_region_later (by kernel_rfl) (by kernel_rfl) ?_); (repeat (first | go_big_quiet_step (first | fail))); refine wpQuiet_nil ?_; rintro _ ⟨x, rfl⟩))
  refine (d_lszSentS (q0.keep inferInstance) (by omega) (by omega)).mono ?_
  rintro _ _ ⟨rfl, y0, rfl⟩
  by_cases h0 : left - totL x.Waiting < 0
  · have HV := Lib.hid (show szD left (Enc.tot x) = -1 from szD_neg (by rw [HTOT.out]; omega))
    rw [szD_neg h0]
    go_wp2_with (first | ((with_reducible refine wp_region_later (by kernel_rfl) (by kernel_rfl) ?_); (repeat (first | go_big_quiet_step (first | fail))); refine wpQuiet_nil ?_; rintro _ ⟨x, rfl⟩))
    go_ret
    exact Gives.mk (by rw [HV.out]; rfl)
  rw [szD_pos h0]
  have HV := Lib.hid (show szD left (Enc.tot x) = left - totL x.Waiting by rw [szD_pos (by rw [HTOT.out]; omega), HTOT.out] <;> omega)
  go_wp2_with (first | ((with_reducible refine wp_region_later (by kernel_rfl) (by kernel_rfl) ?_); (repeat (first | go_big_quiet_step (first | fail))); refine wpQuiet_nil ?_; rintro _ ⟨x, rfl⟩))
  go_ret
  exact Gives.mk (by rw [HV.out]; rfl)

theorem d_leqSender {B B2 : Nat} {vs vs2 : List Value} {x : TSender} {w : World} (h : Enc.Rd B w vs x) (h2 : Enc.Rd B2 w vs2 x) :
    Calls Tryz.prog 101 #[.agg vs.toArray, .agg vs2.toArray] w (Gives w (.bool true)) := by
  obtain ⟨a0, c0, rfl, q0, hok⟩ := h
  obtain ⟨ma0, mc0, rfl, mq0, -⟩ := h2
  have HOK := Lib.hid hok; clear hok
  go_enter Tryz.func101, Tryz.ntmps101
  go_wp2_with (first | ((with_reducible refine wp_region_later (by kernel_rfl) (by kernel_rfl) ?_); (repeat (first | go_big_quiet_step (first | fail))); refine wpQuiet_nil ?_; rintro _ ⟨x, rfl⟩))
  refine (d_leqSentS (q0.keep inferInstance) (mq0.keep inferInstance)).mono ?_
  rintro _ _ ⟨rfl, y0, rfl⟩
  go_wp2_with (first | ((with_reducible refine wp_region_later (by kernel_rfl) (by kernel_rfl) ?_); (repeat (first | go_big_quiet_step (first | fail))); refine wpQuiet_nil ?_; rintro _ ⟨x, rfl⟩))
  go_ret
  exact Gives.mk rfl

theorem d_ltoRecorder {B : Nat} {vs : List Value} {x : TRecorder} {w : World} (h : Enc.Rd B w vs x) (ht : Enc.tot x ≤ 1048576) :
    Calls Tryz.prog 155 #[.agg vs.toArray] w (GivesD w x) := by
  obtain ⟨a0, c0, a1, c1, rfl, q0, q1, hok⟩ := h
  have HT := Lib.hid (show totL x.Records ≤ 1048576 ∧ totL x.Dropped ≤ 1048576 ∧ True from by
    have ht2 : totL x.Records + totL x.Dropped ≤ 1048576 := ht
    have n0 := totL_nonneg x.Records
    have n1 := totL_nonneg x.Dropped
    refine ⟨?_, ?_, trivial⟩ <;> omega)
  clear ht
  have HOK := Lib.hid hok; clear hok
  go_enter Tryz.func155, Tryz.ntmps155
  go_wp2_with (first | ((with_reducible refine wp_region_later (by kernel_rfl) (by kernel_rfl) ?_); (repeat (first | go_big_quiet_step (first | fail))); refine wpQuiet_nil ?_; rintro _ ⟨x, rfl⟩))
  refine (d_ltoRecordS (q0.keep inferInstance) (HT.out.1)).mono ?_
  rintro _ _ ⟨na0, nc0, rfl, nq0, y0, rfl⟩
  have Q0 := Lib.hid (nq0.mono (B' := w.heap.size + 3) LeN.out); clear nq0
  go_wp2_with (first | ((with_reducible refine wp_region_later (by kernel_rfl) (by kernel_rfl) ?_); (repeat (first | go_big_quiet_step (first | fail))); refine wpQuiet_nil ?_; rintro _ ⟨x, rfl⟩))
  refine (d_ltoIntS (q1.keep inferInstance) (HT.out.2.1)).mono ?_
  rintro _ _ ⟨na1, nc1, rfl, nq1, y1, rfl⟩
  have Q1 := Lib.hid (nq1.mono (B' := w.heap.size + 3) LeN.out); clear nq1
  go_wp2_with (first | ((with_reducible refine wp_region_later (by kernel_rfl) (by kernel_rfl) ?_); (repeat (first | go_big_quiet_step (first | fail))); refine wpQuiet_nil ?_; rintro _ ⟨x, rfl⟩))
  refine bodyPost_ret (v := .agg #[.int .i64 x.Room, .slice na0 x.Records.length nc0, .slice na1 x.Dropped.length nc1]) ?_ rfl ⟨[.int .i64 x.Room, .slice na0 x.Records.length nc0, .slice na1 x.Dropped.length nc1], rfl, ⟨na0, nc0, na1, nc1, rfl, (Q0.out.keep inferInstance).mono (by omega), (Q1.out.keep inferInstance).mono (by omega), HOK.out⟩, Later.of⟩
  simp [results, Tryz.results155, go_sem]

theorem d_lszRecorder {B : Nat} {vs : List Value} {x : TRecorder} {left : Int} {w : World} (h : Enc.Rd B w vs x) (hl : 0 ≤ left) (hl2 : left ≤ 1048576) :
    Calls Tryz.prog 145 #[.agg vs.toArray, .int .i64 left] w (Gives w (.int .i64 (szD left (Enc.tot x)))) := by
  obtain ⟨a0, c0, a1, c1, rfl, q0, q1, hok⟩ := h
  have n0 := totL_nonneg x.Records
  have n1 := totL_nonneg x.Dropped
  have HOK := Lib.hid hok; clear hok
  have htot : Enc.tot x = totL x.Records + totL x.Dropped := rfl
  have HTOT := Lib.hid htot; clear htot
  go_enter Tryz.func145, Tryz.ntmps145
  go_wp2_with (first | ((with_reducible refine wp_region_later (by kernel_rfl) (by kernel_rfl) ?_); (repeat (first | go_big_quiet_step (first | fail))); refine wpQuiet_nil ?_; rintro _ ⟨x, rfl⟩))
  refine (d_lszRecordS (q0.keep inferInstance) (by omega) (by omega)).mono ?_
  rintro _ _ ⟨rfl, y0, rfl⟩
  by_cases h0 : left - totL x.Records < 0
  · have HV := Lib.hid (show szD left (Enc.tot x) = -1 from szD_neg (by rw [HTOT.out]; omega))
    rw [szD_neg h0]
    go_wp2_with (first | ((with_reducible refine wp_region_later (by kernel_rfl) (by kernel_rfl) ?_); (repeat (first | go_big_quiet_step (first | fail))); refine wpQuiet_nil ?_; rintro _ ⟨x, rfl⟩))
    go_ret
    exact Gives.mk (by rw [HV.out]; rfl)
  rw [szD_pos h0]
  go_wp2_with (first | ((with_reducible refine wp_region_later (by kernel_rfl) (by kernel_rfl) ?_); (repeat (first | go_big_quiet_step (first | fail))); refine wpQuiet_nil ?_; rintro _ ⟨x, rfl⟩))
  refine (d_lszIntS (q1.keep inferInstance) (by omega) (by omega)).mono ?_
  rintro _ _ ⟨rfl, y1, rfl⟩
  by_cases h1 : left - totL x.Records - totL x.Dropped < 0
  · have HV := Lib.hid (show szD left (Enc.tot x) = -1 from szD_neg (by rw [HTOT.out]; omega))
    rw [szD_neg h1]
    go_wp2_with (first | ((with_reducible refine wp_region_later (by kernel_rfl) (by kernel_rfl) ?_); (repeat (first | go_big_quiet_step (first | fail))); refine wpQuiet_nil ?_; rintro _ ⟨x, rfl⟩))
    go_ret
    exact Gives.mk (by rw [HV.out]; rfl)
  rw [szD_pos h1]
  have HV := Lib.hid (show szD left (Enc.tot x) = left - totL x.Records - totL x.Dropped by rw [szD_pos (by rw [HTOT.out]; omega), HTOT.out] <;> omega)
  go_wp2_with (first | ((with_reducible refine wp_region_later (by kernel_rfl) (by kernel_rfl) ?_); (repeat (first | go_big_quiet_step (first | fail))); refine wpQuiet_nil ?_; rintro _ ⟨x, rfl⟩))
  go_ret
  exact Gives.mk (by rw [HV.out]; rfl)

theorem d_leqRecorder {B B2 : Nat} {vs vs2 : List Value} {x : TRecorder} {w : World} (h : Enc.Rd B w vs x) (h2 : Enc.Rd B2 w vs2 x) :
    Calls Tryz.prog 165 #[.agg vs.toArray, .agg vs2.toArray] w (Gives w (.bool true)) := by
  obtain ⟨a0, c0, a1, c1, rfl, q0, q1, hok⟩ := h
  obtain ⟨ma0, mc0, ma1, mc1, rfl, mq0, mq1, -⟩ := h2
  have HOK := Lib.hid hok; clear hok
  go_enter Tryz.func165, Tryz.ntmps165
  go_wp2_with (first | ((with_reducible refine wp_region_later (by kernel_rfl) (by kernel_rfl) ?_); (repeat (first | go_big_quiet_step (first | fail))); refine wpQuiet_nil ?_; rintro _ ⟨x, rfl⟩))
  refine (d_leqRecordS (q0.keep inferInstance) (mq0.keep inferInstance)).mono ?_
  rintro _ _ ⟨rfl, y0, rfl⟩
  go_wp2_with (first | ((with_reducible refine wp_region_later (by kernel_rfl) (by kernel_rfl) ?_); (repeat (first | go_big_quiet_step (first | fail))); refine wpQuiet_nil ?_; rintro _ ⟨x, rfl⟩))
  refine (d_leqIntS (q1.keep inferInstance) (mq1.keep inferInstance)).mono ?_
  rintro _ _ ⟨rfl, y1, rfl⟩
  go_wp2_with (first | ((with_reducible refine wp_region_later (by kernel_rfl) (by kernel_rfl) ?_); (repeat (first | go_big_quiet_step (first | fail))); refine wpQuiet_nil ?_; rintro _ ⟨x, rfl⟩))
  go_ret
  exact Gives.mk rfl

end Go.Proofs.YtdankjbkioepgaaGreat
