/- The contracts of the functions on clocks and passes that only reckon: each gives one value, the same for the program's and the reference's. No condition. -/
import Derived.Test.YtbaffippdifbpaaGreatVM0
namespace Go.Proofs.YtbaffippdifbpaaGreat
set_option linter.unusedVariables false
open Go.ChangeShapes Go.WideShapes Go.ChangeAt Go.RowKit
def inB (x lo hi : Int) : Bool := decide (lo ≤ x) && decide (x ≤ hi)
theorem inB_iff {x lo hi : Int} : inB x lo hi = true ↔ lo ≤ x ∧ x ≤ hi := by simp [inB]
theorem c_sl01In {x lo hi : Int} {w : World} :
    Calls Tryz.prog 151 #[.int .i64 x, .int .i64 lo, .int .i64 hi] w (Gives w (.bool (inB x lo hi))) := by
  by_cases h1 : lo ≤ x
  · go_enter Tryz.func151, Tryz.ntmps151
    go_wp2
    go_ret
    exact Gives.mk (by simp [inB, h1])
  · have h2 : decide (lo ≤ x) = false := by simpa using h1
    go_enter Tryz.func151, Tryz.ntmps151
    go_wp2
    go_ret
    exact Gives.mk (by simp [inB, h2])
theorem c_ibetween {x lo hi : Int} {w : World} :
    Calls Tryz.prog 127 #[.int .i64 x, .int .i64 lo, .int .i64 hi] w (Gives w (.bool (inB x lo hi))) := by
  by_cases h1 : lo ≤ x
  · go_enter Tryz.func127, Tryz.ntmps127
    go_wp2
    go_ret
    exact Gives.mk (by simp [inB, h1])
  · have h2 : decide (lo ≤ x) = false := by simpa using h1
    go_enter Tryz.func127, Tryz.ntmps127
    go_wp2
    go_ret
    exact Gives.mk (by simp [inB, h2])
/-! ### Drift, BoardTime -/
def driftOk (r o : Int) : Bool := inB r (-100) 100 && inB o 0 1000
theorem c_sDriftOk {r o : Int} {w : World} :
    Calls Tryz.prog 150 #[.agg #[.int .i64 r, .int .i64 o]] w (Gives w (.bool (driftOk r o))) := by
  cases h1 : inB r (-100) 100
  all_goals
    go_enter Tryz.func150, Tryz.ntmps150
    go_wp2_with (first | ((with_reducible refine wp_region_later (by kernel_rfl) (by kernel_rfl) ?_); (repeat (first | go_big_quiet_step (first | (go_at_call 151; exact Gives.quiet (c_sl01In))) | simp only [h1])); refine wpQuiet_nil ?_; rintro _ ⟨x, rfl⟩) | (go_at_call 151; refine (c_sl01In).mono ?_; rintro _ _ ⟨rfl, x, rfl⟩))
    go_ret
    exact Gives.mk (by simp [driftOk, h1])
theorem c_iDriftOk {r o : Int} {w : World} :
    Calls Tryz.prog 126 #[.agg #[.int .i64 r, .int .i64 o]] w (Gives w (.bool (driftOk r o))) := by
  cases h1 : inB r (-100) 100
  all_goals
    go_enter Tryz.func126, Tryz.ntmps126
    go_wp2_with (first | ((with_reducible refine wp_region_later (by kernel_rfl) (by kernel_rfl) ?_); (repeat (first | go_big_quiet_step (first | (go_at_call 127; exact Gives.quiet (c_ibetween))) | simp only [h1])); refine wpQuiet_nil ?_; rintro _ ⟨x, rfl⟩) | (go_at_call 127; refine (c_ibetween).mono ?_; rintro _ _ ⟨rfl, x, rfl⟩))
    go_ret
    exact Gives.mk (by simp [driftOk, h1])
def orbitOk (p s l : Int) : Bool := inB p 1 1000 && (inB s 0 (p - 1) && inB l 1 p)
theorem c_sOrbitOk {p s l : Int} {w : World} :
    Calls Tryz.prog 145 #[.agg #[.int .i64 p, .int .i64 s, .int .i64 l]] w (Gives w (.bool (orbitOk p s l))) := by
  cases h1 : inB p 1 1000
  · go_enter Tryz.func145, Tryz.ntmps145
    go_wp2_with (first | ((with_reducible refine wp_region_later (by kernel_rfl) (by kernel_rfl) ?_); (repeat (first | go_big_quiet_step (first | (go_at_call 151; exact Gives.quiet (c_sl01In))) | simp only [h1])); refine wpQuiet_nil ?_; rintro _ ⟨x, rfl⟩) | (go_at_call 151; refine (c_sl01In).mono ?_; rintro _ _ ⟨rfl, x, rfl⟩))
    go_ret
    exact Gives.mk (by simp [orbitOk, h1])
  · have ⟨k1, k2⟩ := inB_iff.1 h1
    cases h2 : inB s 0 (p - 1)
    all_goals
      go_enter Tryz.func145, Tryz.ntmps145
      go_wp2_with (first | ((with_reducible refine wp_region_later (by kernel_rfl) (by kernel_rfl) ?_); (repeat (first | go_big_quiet_step (first | (go_at_call 151; exact Gives.quiet (c_sl01In))) | simp only [h1] | simp only [h2])); refine wpQuiet_nil ?_; rintro _ ⟨x, rfl⟩) | (go_at_call 151; refine (c_sl01In).mono ?_; rintro _ _ ⟨rfl, x, rfl⟩))
      go_ret
      exact Gives.mk (by simp [orbitOk, h1, h2])
theorem c_iOrbitOk {p s l : Int} {w : World} :
    Calls Tryz.prog 129 #[.agg #[.int .i64 p, .int .i64 s, .int .i64 l]] w (Gives w (.bool (orbitOk p s l))) := by
  cases h1 : inB p 1 1000
  · go_enter Tryz.func129, Tryz.ntmps129
    go_wp2_with (first | ((with_reducible refine wp_region_later (by kernel_rfl) (by kernel_rfl) ?_); (repeat (first | go_big_quiet_step (first | (go_at_call 127; exact Gives.quiet (c_ibetween))) | simp only [h1])); refine wpQuiet_nil ?_; rintro _ ⟨x, rfl⟩) | (go_at_call 127; refine (c_ibetween).mono ?_; rintro _ _ ⟨rfl, x, rfl⟩))
    go_ret
    exact Gives.mk (by simp [orbitOk, h1])
  · have ⟨k1, k2⟩ := inB_iff.1 h1
    cases h2 : inB s 0 (p - 1)
    all_goals
      go_enter Tryz.func129, Tryz.ntmps129
      go_wp2_with (first | ((with_reducible refine wp_region_later (by kernel_rfl) (by kernel_rfl) ?_); (repeat (first | go_big_quiet_step (first | (go_at_call 127; exact Gives.quiet (c_ibetween))) | simp only [h1] | simp only [h2])); refine wpQuiet_nil ?_; rintro _ ⟨x, rfl⟩) | (go_at_call 127; refine (c_ibetween).mono ?_; rintro _ _ ⟨rfl, x, rfl⟩))
      go_ret
      exact Gives.mk (by simp [orbitOk, h1, h2])
end Go.Proofs.YtbaffippdifbpaaGreat
