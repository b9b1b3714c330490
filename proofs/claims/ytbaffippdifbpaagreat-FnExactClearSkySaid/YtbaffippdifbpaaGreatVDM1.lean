/- The contracts of the mirrors, sizes and equalities of structs with slices (1). No condition but on sizes. -/
import Derived.Test.YtbaffippdifbpaaGreatVDF1
import Derived.Test.YtbaffippdifbpaaGreatVM0
namespace Go.Proofs.YtbaffippdifbpaaGreat
set_option linter.unusedVariables false
open Go.ChangeShapes Go.WideShapes Go.ChangeAt Go.RowKit
theorem d_lszPacker {B : Nat} {vs : List Value} {x : TPacker} {left : Int} {w : World} (h : Enc.Rd B w vs x) (hl : 0 ≤ left) (hl2 : left ≤ 1048576) :
    Calls Tryz.prog 195 #[.agg vs.toArray, .int .i64 left] w (Gives w (.int .i64 (szD left (Enc.tot x)))) := by
  obtain ⟨a0, c0, rfl, q0, hok⟩ := h
  have n0 : (0 : Int) ≤ x.Rest.size := by omega
  have z0 : x.Rest.size ≤ 9223372036854775807 := hok.2.2.1
  have n1 := totL_nonneg x.Starts
  have HOK := Lib.hid hok; clear hok
  have htot : Enc.tot x = (x.Rest.size : Int) + totL x.Starts := rfl
  have HTOT := Lib.hid htot; clear htot
  go_enter Tryz.func195, Tryz.ntmps195
  by_cases h0 : left - (x.Rest.size : Int) < 0
  · have HV := Lib.hid (show szD left (Enc.tot x) = -1 from szD_neg (by rw [HTOT.out]; omega))
    go_wp2_with fail
    go_ret
    exact Gives.mk (by rw [HV.out]; rfl)
  go_wp2_with fail
  refine (d_lszIntS (q0.keep inferInstance) (by omega) (by omega)).mono ?_
  rintro _ _ ⟨rfl, y1, rfl⟩
  by_cases h1 : left - (x.Rest.size : Int) - totL x.Starts < 0
  · have HV := Lib.hid (show szD left (Enc.tot x) = -1 from szD_neg (by rw [HTOT.out]; omega))
    rw [szD_neg h1]
    go_wp2_with fail
    go_ret
    exact Gives.mk (by rw [HV.out]; rfl)
  rw [szD_pos h1]
  have HV := Lib.hid (show szD left (Enc.tot x) = left - (x.Rest.size : Int) - totL x.Starts by rw [szD_pos (by rw [HTOT.out]; omega), HTOT.out] <;> omega)
  go_wp2_with fail
  go_ret
  exact Gives.mk (by rw [HV.out]; rfl)
theorem d_leqPacker {B B2 : Nat} {vs vs2 : List Value} {x : TPacker} {w : World} (h : Enc.Rd B w vs x) (h2 : Enc.Rd B2 w vs2 x) :
    Calls Tryz.prog 169 #[.agg vs.toArray, .agg vs2.toArray] w (Gives w (.bool true)) := by
  obtain ⟨a0, c0, rfl, q0, hok⟩ := h
  obtain ⟨ma0, mc0, rfl, mq0, -⟩ := h2
  have HOK := Lib.hid hok; clear hok
  go_enter Tryz.func169, Tryz.ntmps169
  go_wp2_with fail
  refine (d_leqIntS (q0.keep inferInstance) (mq0.keep inferInstance)).mono ?_
  rintro _ _ ⟨rfl, y0, rfl⟩
  go_wp2_with fail
  go_ret
  exact Gives.mk rfl
theorem d_lszSender {B : Nat} {vs : List Value} {x : TSender} {left : Int} {w : World} (h : Enc.Rd B w vs x) (hl : 0 ≤ left) (hl2 : left ≤ 1048576) :
    Calls Tryz.prog 188 #[.agg vs.toArray, .int .i64 left] w (Gives w (.int .i64 (szD left (Enc.tot x)))) := by
  obtain ⟨a0, c0, rfl, q0, hok⟩ := h
  have n0 := totL_nonneg x.Waiting
  have HOK := Lib.hid hok; clear hok
  have htot : Enc.tot x = totL x.Waiting := rfl
  have HTOT := Lib.hid htot; clear htot
  go_enter Tryz.func188, Tryz.ntmps188
  go_wp2_with fail
  refine (d_lszSentS (q0.keep inferInstance) (by omega) (by omega)).mono ?_
  rintro _ _ ⟨rfl, y0, rfl⟩
  by_cases h0 : left - totL x.Waiting < 0
  · have HV := Lib.hid (show szD left (Enc.tot x) = -1 from szD_neg (by rw [HTOT.out]; omega))
    rw [szD_neg h0]
    go_wp2_with fail
    go_ret
    exact Gives.mk (by rw [HV.out]; rfl)
  rw [szD_pos h0]
  have HV := Lib.hid (show szD left (Enc.tot x) = left - totL x.Waiting by rw [szD_pos (by rw [HTOT.out]; omega), HTOT.out] <;> omega)
  go_wp2_with fail
  go_ret
  exact Gives.mk (by rw [HV.out]; rfl)
theorem d_leqSender {B B2 : Nat} {vs vs2 : List Value} {x : TSender} {w : World} (h : Enc.Rd B w vs x) (h2 : Enc.Rd B2 w vs2 x) :
    Calls Tryz.prog 160 #[.agg vs.toArray, .agg vs2.toArray] w (Gives w (.bool true)) := by
  obtain ⟨a0, c0, rfl, q0, hok⟩ := h
  obtain ⟨ma0, mc0, rfl, mq0, -⟩ := h2
  have HOK := Lib.hid hok; clear hok
  go_enter Tryz.func160, Tryz.ntmps160
  go_wp2_with fail
  refine (d_leqSentS (q0.keep inferInstance) (mq0.keep inferInstance)).mono ?_
  rintro _ _ ⟨rfl, y0, rfl⟩
  go_wp2_with fail
  go_ret
  exact Gives.mk rfl
theorem d_lszRecorder {B : Nat} {vs : List Value} {x : TRecorder} {left : Int} {w : World} (h : Enc.Rd B w vs x) (hl : 0 ≤ left) (hl2 : left ≤ 1048576) :
    Calls Tryz.prog 279 #[.agg vs.toArray, .int .i64 left] w (Gives w (.int .i64 (szD left (Enc.tot x)))) := by
  obtain ⟨a0, c0, a1, c1, rfl, q0, q1, hok⟩ := h
  have n0 := totL_nonneg x.Records
  have n1 := totL_nonneg x.Dropped
  have HOK := Lib.hid hok; clear hok
  have htot : Enc.tot x = totL x.Records + totL x.Dropped := rfl
  have HTOT := Lib.hid htot; clear htot
  go_enter Tryz.func279, Tryz.ntmps279
  go_wp2_with fail
  refine (d_lszRecordS (q0.keep inferInstance) (by omega) (by omega)).mono ?_
  rintro _ _ ⟨rfl, y0, rfl⟩
  by_cases h0 : left - totL x.Records < 0
  · have HV := Lib.hid (show szD left (Enc.tot x) = -1 from szD_neg (by rw [HTOT.out]; omega))
    rw [szD_neg h0]
    go_wp2_with fail
    go_ret
    exact Gives.mk (by rw [HV.out]; rfl)
  rw [szD_pos h0]
  go_wp2_with fail
  refine (d_lszIntS (q1.keep inferInstance) (by omega) (by omega)).mono ?_
  rintro _ _ ⟨rfl, y1, rfl⟩
  by_cases h1 : left - totL x.Records - totL x.Dropped < 0
  · have HV := Lib.hid (show szD left (Enc.tot x) = -1 from szD_neg (by rw [HTOT.out]; omega))
    rw [szD_neg h1]
    go_wp2_with fail
    go_ret
    exact Gives.mk (by rw [HV.out]; rfl)
  rw [szD_pos h1]
  have HV := Lib.hid (show szD left (Enc.tot x) = left - totL x.Records - totL x.Dropped by rw [szD_pos (by rw [HTOT.out]; omega), HTOT.out] <;> omega)
  go_wp2_with fail
  go_ret
  exact Gives.mk (by rw [HV.out]; rfl)
theorem d_leqRecorder {B B2 : Nat} {vs vs2 : List Value} {x : TRecorder} {w : World} (h : Enc.Rd B w vs x) (h2 : Enc.Rd B2 w vs2 x) :
    Calls Tryz.prog 260 #[.agg vs.toArray, .agg vs2.toArray] w (Gives w (.bool true)) := by
  obtain ⟨a0, c0, a1, c1, rfl, q0, q1, hok⟩ := h
  obtain ⟨ma0, mc0, ma1, mc1, rfl, mq0, mq1, -⟩ := h2
  have HOK := Lib.hid hok; clear hok
  go_enter Tryz.func260, Tryz.ntmps260
  go_wp2_with fail
  refine (d_leqRecordS (q0.keep inferInstance) (mq0.keep inferInstance)).mono ?_
  rintro _ _ ⟨rfl, y0, rfl⟩
  go_wp2_with fail
  refine (d_leqIntS (q1.keep inferInstance) (mq1.keep inferInstance)).mono ?_
  rintro _ _ ⟨rfl, y1, rfl⟩
  go_wp2_with fail
  go_ret
  exact Gives.mk rfl
end Go.Proofs.YtbaffippdifbpaaGreat
