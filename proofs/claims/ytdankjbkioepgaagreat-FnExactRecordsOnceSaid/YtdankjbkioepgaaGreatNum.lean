/- The contracts of the functions on clocks and passes that only reckon: each gives one value, the same for the program's and the reference's. No condition. -/
import Derived.Test.YtdankjbkioepgaaGreatBase
namespace Go.Proofs.YtdankjbkioepgaaGreat
set_option linter.unusedVariables false
open Go.ChangeShapes Go.WideShapes Go.ChangeAt Go.RowKit

/-- x lies from lo to hi. -/
def inB (x lo hi : Int) : Bool := decide (lo ≤ x) && decide (x ≤ hi)
theorem inB_iff {x lo hi : Int} : inB x lo hi = true ↔ lo ≤ x ∧ x ≤ hi := by simp [inB]

theorem c_sl01In {x lo hi : Int} {w : World} :
    Calls Tryz.prog 62 #[.int .i64 x, .int .i64 lo, .int .i64 hi] w (Gives w (.bool (inB x lo hi))) := by
  by_cases h1 : lo ≤ x
  · go_enter Tryz.func62, Tryz.ntmps62
    go_wp2
    go_ret
    exact Gives.mk (by simp [inB, h1])
  · have h2 : decide (lo ≤ x) = false := by simpa using h1
    go_enter Tryz.func62, Tryz.ntmps62
    go_wp2
    go_ret
    exact Gives.mk (by simp [inB, h2])

theorem c_ibetween {x lo hi : Int} {w : World} :
    Calls Tryz.prog 69 #[.int .i64 x, .int .i64 lo, .int .i64 hi] w (Gives w (.bool (inB x lo hi))) := by
  by_cases h1 : lo ≤ x
  · go_enter Tryz.func69, Tryz.ntmps69
    go_wp2
    go_ret
    exact Gives.mk (by simp [inB, h1])
  · have h2 : decide (lo ≤ x) = false := by simpa using h1
    go_enter Tryz.func69, Tryz.ntmps69
    go_wp2
    go_ret
    exact Gives.mk (by simp [inB, h2])

/-! ### Drift, BoardTime -/
def driftOk (r o : Int) : Bool := inB r (-100) 100 && inB o 0 1000

theorem c_sDriftOk {r o : Int} {w : World} :
    Calls Tryz.prog 63 #[.agg #[.int .i64 r, .int .i64 o]] w (Gives w (.bool (driftOk r o))) := by
  cases h1 : inB r (-100) 100
  all_goals
    go_enter Tryz.func63, Tryz.ntmps63
    go_wp2_with (first | ((with_reducible refine wp_region_later (by kernel_rfl) (by kernel_rfl) ?_); (repeat (first | go_big_quiet_step (first | (go_at_call 62; exact Gives.quiet (c_sl01In))) | simp only [h1])); refine wpQuiet_nil ?_; rintro _ ⟨x, rfl⟩) | (go_at_call 62; refine (c_sl01In).mono ?_; rintro _ _ ⟨rfl, x, rfl⟩))
    go_ret
    exact Gives.mk (by simp [driftOk, h1])

theorem c_iDriftOk {r o : Int} {w : World} :
    Calls Tryz.prog 70 #[.agg #[.int .i64 r, .int .i64 o]] w (Gives w (.bool (driftOk r o))) := by
  cases h1 : inB r (-100) 100
  all_goals
    go_enter Tryz.func70, Tryz.ntmps70
    go_wp2_with (first | ((with_reducible refine wp_region_later (by kernel_rfl) (by kernel_rfl) ?_); (repeat (first | go_big_quiet_step (first | (go_at_call 69; exact Gives.quiet (c_ibetween))) | simp only [h1])); refine wpQuiet_nil ?_; rintro _ ⟨x, rfl⟩) | (go_at_call 69; refine (c_ibetween).mono ?_; rintro _ _ ⟨rfl, x, rfl⟩))
    go_ret
    exact Gives.mk (by simp [driftOk, h1])

theorem floor_t (a b : Int) (hb : 1 ≤ b) : a / b = if a.tmod b < 0 then a.tdiv b - 1 else a.tdiv b := by
  have h1 := Int.tmod_add_mul_tdiv a b
  have h2 : a.tmod b < b := Int.tmod_lt_of_pos a (by omega)
  have h3 : -b < a.tmod b := by
    have := Int.lt_tmod_of_pos a (show 0 < b by omega)
    omega
  split
  · have := (Int.ediv_emod_unique (a := a) (b := b) (r := a.tmod b + b) (q := a.tdiv b - 1) (by omega)).2 ⟨by rw [Int.mul_sub]; omega, by omega, by omega⟩
    exact this.1
  · have := (Int.ediv_emod_unique (a := a) (b := b) (r := a.tmod b) (q := a.tdiv b) (by omega)).2 ⟨by omega, by omega, by omega⟩
    exact this.1
theorem tdiv_bd (a b : Int) (hb : 1 ≤ b) (ha : -1000000000000000 ≤ a) (ha' : a ≤ 1000000000000000) : -1000000000000000 ≤ a.tdiv b ∧ a.tdiv b ≤ 1000000000000000 := by
  have h0 : a.tdiv b = a / b + if b ∣ a ∨ 0 ≤ a then 0 else 1 := by
    rw [Int.tdiv_eq_ediv]
    simp only [Int.sign_eq_one_of_pos (show 0 < b by omega)]
    congr 1
    by_cases h : 0 ≤ a <;> by_cases h' : b ∣ a <;> simp [h, h']
  have h1 : -1000000000000000 ≤ a / b := by
    rw [Int.le_ediv_iff_mul_le (by omega)]
    have : (-1000000000000000 : Int) * b ≤ -1000000000000000 * 1 := by
      apply Int.mul_le_mul_of_nonpos_left <;> omega
    omega
  by_cases h : 0 ≤ a
  · have h2 : a / b ≤ a := Int.ediv_le_self b h
    rw [h0]; simp only [h, or_true, if_true]; omega
  · have h2 : a / b ≤ -1 := by
      have := Int.ediv_lt_of_lt_mul (a := a) (b := 0) (c := b) (by omega) (by omega)
      omega
    rw [h0]; split <;> omega

theorem c_sl07Floor {a b : Int} {w : World} (ha : -1000000000000000 ≤ a) (ha' : a ≤ 1000000000000000) (hb : 1 ≤ b) :
    Calls Tryz.prog 120 #[.int .i64 a, .int .i64 b] w (Gives w (.int .i64 (a / b))) := by
  have hd := tdiv_bd a b hb ha ha'
  have HF := Lib.hid (floor_t a b hb)
  go_enter Tryz.func120, Tryz.ntmps120
  go_wp2
  all_goals go_ret
  all_goals
    refine Gives.mk ?_
    rw [HF.out]
    first | (rw [if_pos (by assumption)]; rfl) | (rw [if_neg (by omega)]; rfl)

theorem c_ifloorDiv {a b : Int} {w : World} (ha : -1000000000000000 ≤ a) (ha' : a ≤ 1000000000000000) (hb : 1 ≤ b) :
    Calls Tryz.prog 122 #[.int .i64 a, .int .i64 b] w (Gives w (.int .i64 (a / b))) := by
  have hd := tdiv_bd a b hb ha ha'
  have HF := Lib.hid (floor_t a b hb)
  go_enter Tryz.func122, Tryz.ntmps122
  go_wp2
  all_goals go_ret
  all_goals
    refine Gives.mk ?_
    rw [HF.out]
    first | (rw [if_pos (by assumption)]; rfl) | (rw [if_neg (by omega)]; rfl)

def boardTime (r o t : Int) : Int := if (driftOk r o && inB t 0 1000000) = true then t + o + t * r / 1000 else -1

theorem bd_mul {t r : Int} (h : 0 ≤ t) (h' : t ≤ 1000000) (k : -100 ≤ r) (k' : r ≤ 100) : -100000000 ≤ t * r ∧ t * r ≤ 100000000 := by
  constructor
  · have := Int.mul_le_mul_of_nonneg_left k h
    omega
  · have := Int.mul_le_mul_of_nonneg_left k' h
    omega

theorem c_sBoardTime {r o t : Int} {w : World} :
    Calls Tryz.prog 55 #[.agg #[.int .i64 r, .int .i64 o], .int .i64 t] w (Gives w (.int .i64 (boardTime r o t))) := by
  cases h1 : driftOk r o
  · go_enter Tryz.func55, Tryz.ntmps55
    go_wp2_with (first | ((with_reducible refine wp_region_later (by kernel_rfl) (by kernel_rfl) ?_); (repeat (first | go_big_quiet_step (first | (go_at_call 63; exact Gives.quiet (c_sDriftOk)) | (go_at_call 62; exact Gives.quiet (c_sl01In))) | simp only [h1])); refine wpQuiet_nil ?_; rintro _ ⟨x, rfl⟩) | (go_at_call 63; refine (c_sDriftOk).mono ?_; rintro _ _ ⟨rfl, x, rfl⟩) | (go_at_call 62; refine (c_sl01In).mono ?_; rintro _ _ ⟨rfl, x, rfl⟩))
    go_ret
    exact Gives.mk (by simp [boardTime, h1])
  · cases h2 : inB t 0 1000000
    · go_enter Tryz.func55, Tryz.ntmps55
      go_wp2_with (first | ((with_reducible refine wp_region_later (by kernel_rfl) (by kernel_rfl) ?_); (repeat (first | go_big_quiet_step (first | (go_at_call 63; exact Gives.quiet (c_sDriftOk)) | (go_at_call 62; exact Gives.quiet (c_sl01In))) | simp only [h1] | simp only [h2])); refine wpQuiet_nil ?_; rintro _ ⟨x, rfl⟩) | (go_at_call 63; refine (c_sDriftOk).mono ?_; rintro _ _ ⟨rfl, x, rfl⟩) | (go_at_call 62; refine (c_sl01In).mono ?_; rintro _ _ ⟨rfl, x, rfl⟩))
      go_ret
      exact Gives.mk (by simp [boardTime, h1, h2])
    · have ⟨k1, k2⟩ : (-100 ≤ r ∧ r ≤ 100) ∧ (0 ≤ o ∧ o ≤ 1000) := by simpa [driftOk, inB] using h1
      have ⟨k3, k4⟩ := inB_iff.1 h2
      have k5 := bd_mul k3 k4 k1.1 k1.2
      go_enter Tryz.func55, Tryz.ntmps55
      go_wp2_with (first | ((with_reducible refine wp_region_later (by kernel_rfl) (by kernel_rfl) ?_); (repeat (first | go_big_quiet_step (first | (go_at_call 63; exact Gives.quiet (c_sDriftOk)) | (go_at_call 62; exact Gives.quiet (c_sl01In)) | (go_at_call 120; exact Gives.quiet (c_sl07Floor (by omega) (by omega) (by omega)))) | simp only [h1] | simp only [h2])); refine wpQuiet_nil ?_; rintro _ ⟨x, rfl⟩) | (go_at_call 63; refine (c_sDriftOk).mono ?_; rintro _ _ ⟨rfl, x, rfl⟩) | (go_at_call 62; refine (c_sl01In).mono ?_; rintro _ _ ⟨rfl, x, rfl⟩) | (go_at_call 120; refine (c_sl07Floor (by omega) (by omega) (by omega)).mono ?_; rintro _ _ ⟨rfl, x, rfl⟩))
      go_ret
      exact Gives.mk (by simp [boardTime, h1, h2])

theorem c_iBoardTime {r o t : Int} {w : World} :
    Calls Tryz.prog 58 #[.agg #[.int .i64 r, .int .i64 o], .int .i64 t] w (Gives w (.int .i64 (boardTime r o t))) := by
  cases h1 : driftOk r o
  · go_enter Tryz.func58, Tryz.ntmps58
    go_wp2_with (first | ((with_reducible refine wp_region_later (by kernel_rfl) (by kernel_rfl) ?_); (repeat (first | go_big_quiet_step (first | (go_at_call 70; exact Gives.quiet (c_iDriftOk)) | (go_at_call 69; exact Gives.quiet (c_ibetween))) | simp only [h1])); refine wpQuiet_nil ?_; rintro _ ⟨x, rfl⟩) | (go_at_call 70; refine (c_iDriftOk).mono ?_; rintro _ _ ⟨rfl, x, rfl⟩) | (go_at_call 69; refine (c_ibetween).mono ?_; rintro _ _ ⟨rfl, x, rfl⟩))
    go_ret
    exact Gives.mk (by simp [boardTime, h1])
  · cases h2 : inB t 0 1000000
    · go_enter Tryz.func58, Tryz.ntmps58
      go_wp2_with (first | ((with_reducible refine wp_region_later (by kernel_rfl) (by kernel_rfl) ?_); (repeat (first | go_big_quiet_step (first | (go_at_call 70; exact Gives.quiet (c_iDriftOk)) | (go_at_call 69; exact Gives.quiet (c_ibetween))) | simp only [h1] | simp only [h2])); refine wpQuiet_nil ?_; rintro _ ⟨x, rfl⟩) | (go_at_call 70; refine (c_iDriftOk).mono ?_; rintro _ _ ⟨rfl, x, rfl⟩) | (go_at_call 69; refine (c_ibetween).mono ?_; rintro _ _ ⟨rfl, x, rfl⟩))
      go_ret
      exact Gives.mk (by simp [boardTime, h1, h2])
    · have ⟨k1, k2⟩ : (-100 ≤ r ∧ r ≤ 100) ∧ (0 ≤ o ∧ o ≤ 1000) := by simpa [driftOk, inB] using h1
      have ⟨k3, k4⟩ := inB_iff.1 h2
      have k5 := bd_mul k3 k4 k1.1 k1.2
      go_enter Tryz.func58, Tryz.ntmps58
      go_wp2_with (first | ((with_reducible refine wp_region_later (by kernel_rfl) (by kernel_rfl) ?_); (repeat (first | go_big_quiet_step (first | (go_at_call 70; exact Gives.quiet (c_iDriftOk)) | (go_at_call 69; exact Gives.quiet (c_ibetween)) | (go_at_call 122; exact Gives.quiet (c_ifloorDiv (by omega) (by omega) (by omega)))) | simp only [h1] | simp only [h2])); refine wpQuiet_nil ?_; rintro _ ⟨x, rfl⟩) | (go_at_call 70; refine (c_iDriftOk).mono ?_; rintro _ _ ⟨rfl, x, rfl⟩) | (go_at_call 69; refine (c_ibetween).mono ?_; rintro _ _ ⟨rfl, x, rfl⟩) | (go_at_call 122; refine (c_ifloorDiv (by omega) (by omega) (by omega)).mono ?_; rintro _ _ ⟨rfl, x, rfl⟩))
      go_ret
      exact Gives.mk (by simp [boardTime, h1, h2])

/-! ### TicksDue -/
def ticksDue (r o t : Int) : Int := if (inB t 0 999999 && driftOk r o) = true then boardTime r o (t + 1) - boardTime r o t else 0

theorem boardTime_bd {r o t : Int} : -1 ≤ boardTime r o t ∧ boardTime r o t ≤ 1101000 := by
  unfold boardTime
  split
  · rename_i h
    have ⟨⟨⟨a1, a2⟩, a3, a4⟩, a5, a6⟩ : ((-100 ≤ r ∧ r ≤ 100) ∧ 0 ≤ o ∧ o ≤ 1000) ∧ 0 ≤ t ∧ t ≤ 1000000 := by simpa [driftOk, inB] using h
    have h1 : -(t * 100) ≤ t * r := by have := Int.mul_le_mul_of_nonneg_left a1 a5; omega
    have h2 : t * r ≤ t * 100 := Int.mul_le_mul_of_nonneg_left a2 a5
    omega
  · omega

/-! ### Orbits -/
def orbitOk (p s l : Int) : Bool := inB p 1 1000 && (inB s 0 (p - 1) && inB l 1 p)
theorem orbitOk_iff {p s l : Int} : orbitOk p s l = true ↔ (1 ≤ p ∧ p ≤ 1000) ∧ (0 ≤ s ∧ s ≤ p - 1) ∧ 1 ≤ l ∧ l ≤ p := by simp [orbitOk, inB]

theorem c_sOrbitOk {p s l : Int} {w : World} :
    Calls Tryz.prog 64 #[.agg #[.int .i64 p, .int .i64 s, .int .i64 l]] w (Gives w (.bool (orbitOk p s l))) := by
  cases h1 : inB p 1 1000
  · go_enter Tryz.func64, Tryz.ntmps64
    go_wp2_with (first | ((with_reducible refine wp_region_later (by kernel_rfl) (by kernel_rfl) ?_); (repeat (first | go_big_quiet_step (first | (go_at_call 62; exact Gives.quiet (c_sl01In))) | simp only [h1])); refine wpQuiet_nil ?_; rintro _ ⟨x, rfl⟩) | (go_at_call 62; refine (c_sl01In).mono ?_; rintro _ _ ⟨rfl, x, rfl⟩))
    go_ret
    exact Gives.mk (by simp [orbitOk, h1])
  · have ⟨k1, k2⟩ := inB_iff.1 h1
    cases h2 : inB s 0 (p - 1)
    all_goals
      go_enter Tryz.func64, Tryz.ntmps64
      go_wp2_with (first | ((with_reducible refine wp_region_later (by kernel_rfl) (by kernel_rfl) ?_); (repeat (first | go_big_quiet_step (first | (go_at_call 62; exact Gives.quiet (c_sl01In))) | simp only [h1] | simp only [h2])); refine wpQuiet_nil ?_; rintro _ ⟨x, rfl⟩) | (go_at_call 62; refine (c_sl01In).mono ?_; rintro _ _ ⟨rfl, x, rfl⟩))
      go_ret
      exact Gives.mk (by simp [orbitOk, h1, h2])

theorem c_iOrbitOk {p s l : Int} {w : World} :
    Calls Tryz.prog 71 #[.agg #[.int .i64 p, .int .i64 s, .int .i64 l]] w (Gives w (.bool (orbitOk p s l))) := by
  cases h1 : inB p 1 1000
  · go_enter Tryz.func71, Tryz.ntmps71
    go_wp2_with (first | ((with_reducible refine wp_region_later (by kernel_rfl) (by kernel_rfl) ?_); (repeat (first | go_big_quiet_step (first | (go_at_call 69; exact Gives.quiet (c_ibetween))) | simp only [h1])); refine wpQuiet_nil ?_; rintro _ ⟨x, rfl⟩) | (go_at_call 69; refine (c_ibetween).mono ?_; rintro _ _ ⟨rfl, x, rfl⟩))
    go_ret
    exact Gives.mk (by simp [orbitOk, h1])
  · have ⟨k1, k2⟩ := inB_iff.1 h1
    cases h2 : inB s 0 (p - 1)
    all_goals
      go_enter Tryz.func71, Tryz.ntmps71
      go_wp2_with (first | ((with_reducible refine wp_region_later (by kernel_rfl) (by kernel_rfl) ?_); (repeat (first | go_big_quiet_step (first | (go_at_call 69; exact Gives.quiet (c_ibetween))) | simp only [h1] | simp only [h2])); refine wpQuiet_nil ?_; rintro _ ⟨x, rfl⟩) | (go_at_call 69; refine (c_ibetween).mono ?_; rintro _ _ ⟨rfl, x, rfl⟩))
      go_ret
      exact Gives.mk (by simp [orbitOk, h1, h2])

def visible (p s l t : Int) : Bool := orbitOk p s l && (inB t s 1000000 && decide ((t - s) % p < l))

end Go.Proofs.YtdankjbkioepgaaGreat
