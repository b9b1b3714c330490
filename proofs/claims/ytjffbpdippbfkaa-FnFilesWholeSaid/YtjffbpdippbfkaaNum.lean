/- The contracts of the functions on clocks and passes that only reckon: each gives one value, the same for the program's and the reference's. No condition. -/
import Derived.Test.YtjffbpdippbfkaaBase
namespace Go.Proofs.Ytjffbpdippbfkaa
set_option linter.unusedVariables false
open Go.ChangeShapes Go.WideShapes Go.ChangeAt Go.RowKit

/-- x lies from lo to hi. -/
def inB (x lo hi : Int) : Bool := decide (lo ≤ x) && decide (x ≤ hi)
theorem inB_iff {x lo hi : Int} : inB x lo hi = true ↔ lo ≤ x ∧ x ≤ hi := by simp [inB]

theorem c_sl01In {x lo hi : Int} {w : World} :
    Calls Try.prog 54 #[.int .i64 x, .int .i64 lo, .int .i64 hi] w (Gives w (.bool (inB x lo hi))) := by
  by_cases h1 : lo ≤ x
  · go_enter Try.func54, Try.ntmps54
    go_wp2
    go_ret
    exact Gives.mk (by simp [inB, h1])
  · have h2 : decide (lo ≤ x) = false := by simpa using h1
    go_enter Try.func54, Try.ntmps54
    go_wp2
    go_ret
    exact Gives.mk (by simp [inB, h2])

theorem c_ibetween {x lo hi : Int} {w : World} :
    Calls Try.prog 44 #[.int .i64 x, .int .i64 lo, .int .i64 hi] w (Gives w (.bool (inB x lo hi))) := by
  by_cases h1 : lo ≤ x
  · go_enter Try.func44, Try.ntmps44
    go_wp2
    go_ret
    exact Gives.mk (by simp [inB, h1])
  · have h2 : decide (lo ≤ x) = false := by simpa using h1
    go_enter Try.func44, Try.ntmps44
    go_wp2
    go_ret
    exact Gives.mk (by simp [inB, h2])

/-! ### Drift, BoardTime -/
def driftOk (r o : Int) : Bool := inB r (-100) 100 && inB o 0 1000

theorem floor_t (a b : Int) (hb : 1 ≤ b) : a / b = if a.tmod b < 0 then a.tdiv b - 1 else a.tdiv b := by
  have h1 := Int.tmod_add_mul_tdiv a b
  have h2 : a.tmod b < b := Int.tmod_lt_of_pos a (by omega)
  have h3 : -b < a.tmod b := by
    have := Int.lt_tmod_of_pos a (show 0 < b by omega)
    omega
  split
  · have := (Int.ediv_emod_unique (a := a) (b := b) (r := a.tmod b + b) (q := a.tdiv b - 1) (by omega)).2 ⟨by rw [Int.mul_sub]; omega, by omega, by omega⟩
    exact this.1
  · have := (Int.ediv_emod_unique (a := a) (b := b) (r := a.tmod b) (q := a.tdiv b) (by omega)).2 ⟨by omega, by omega, by omega⟩
    exact this.1
theorem tdiv_bd (a b : Int) (hb : 1 ≤ b) (ha : -1000000000000000 ≤ a) (ha' : a ≤ 1000000000000000) : -1000000000000000 ≤ a.tdiv b ∧ a.tdiv b ≤ 1000000000000000 := by
  have h0 : a.tdiv b = a / b + if b ∣ a ∨ 0 ≤ a then 0 else 1 := by
    rw [Int.tdiv_eq_ediv]
    simp only [Int.sign_eq_one_of_pos (show 0 < b by omega)]
    congr 1
    by_cases h : 0 ≤ a <;> by_cases h' : b ∣ a <;> simp [h, h']
  have h1 : -1000000000000000 ≤ a / b := by
    rw [Int.le_ediv_iff_mul_le (by omega)]
    have : (-1000000000000000 : Int) * b ≤ -1000000000000000 * 1 := by
      apply Int.mul_le_mul_of_nonpos_left <;> omega
    omega
  by_cases h : 0 ≤ a
  · have h2 : a / b ≤ a := Int.ediv_le_self b h
    rw [h0]; simp only [h, or_true, if_true]; omega
  · have h2 : a / b ≤ -1 := by
      have := Int.ediv_lt_of_lt_mul (a := a) (b := 0) (c := b) (by omega) (by omega)
      omega
    rw [h0]; split <;> omega

def boardTime (r o t : Int) : Int := if (driftOk r o && inB t 0 1000000) = true then t + o + t * r / 1000 else -1

theorem bd_mul {t r : Int} (h : 0 ≤ t) (h' : t ≤ 1000000) (k : -100 ≤ r) (k' : r ≤ 100) : -100000000 ≤ t * r ∧ t * r ≤ 100000000 := by
  constructor
  · have := Int.mul_le_mul_of_nonneg_left k h
    omega
  · have := Int.mul_le_mul_of_nonneg_left k' h
    omega

/-! ### TicksDue -/
def ticksDue (r o t : Int) : Int := if (inB t 0 999999 && driftOk r o) = true then boardTime r o (t + 1) - boardTime r o t else 0

theorem boardTime_bd {r o t : Int} : -1 ≤ boardTime r o t ∧ boardTime r o t ≤ 1101000 := by
  unfold boardTime
  split
  · rename_i h
    have ⟨⟨⟨a1, a2⟩, a3, a4⟩, a5, a6⟩ : ((-100 ≤ r ∧ r ≤ 100) ∧ 0 ≤ o ∧ o ≤ 1000) ∧ 0 ≤ t ∧ t ≤ 1000000 := by simpa [driftOk, inB] using h
    have h1 : -(t * 100) ≤ t * r := by have := Int.mul_le_mul_of_nonneg_left a1 a5; omega
    have h2 : t * r ≤ t * 100 := Int.mul_le_mul_of_nonneg_left a2 a5
    omega
  · omega

/-! ### Orbits -/
def orbitOk (p s l : Int) : Bool := inB p 1 1000 && (inB s 0 (p - 1) && inB l 1 p)
theorem orbitOk_iff {p s l : Int} : orbitOk p s l = true ↔ (1 ≤ p ∧ p ≤ 1000) ∧ (0 ≤ s ∧ s ≤ p - 1) ∧ 1 ≤ l ∧ l ≤ p := by simp [orbitOk, inB]

def visible (p s l t : Int) : Bool := orbitOk p s l && (inB t s 1000000 && decide ((t - s) % p < l))

end Go.Proofs.Ytjffbpdippbfkaa
