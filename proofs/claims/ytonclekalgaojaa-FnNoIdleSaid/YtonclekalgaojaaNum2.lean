/- The contracts of PassOf, VisibleCount, NextVisible, and of the mirrors of Drift and Orbit. No condition. -/
import Derived.Test.YtonclekalgaojaaNum
namespace Go.Proofs.Ytonclekalgaojaa
set_option linter.unusedVariables false
open Go.ChangeShapes Go.WideShapes Go.ChangeAt Go.RowKit

theorem visible_iff {p s l t : Int} : visible p s l t = true ↔ ((1 ≤ p ∧ p ≤ 1000) ∧ (0 ≤ s ∧ s ≤ p - 1) ∧ 1 ≤ l ∧ l ≤ p) ∧ (s ≤ t ∧ t ≤ 1000000) ∧ (t - s) % p < l := by
  simp [visible, orbitOk, inB]

def passOf (p s l t : Int) : Int := if visible p s l t = true then (t - s) / p else -1

theorem c_iPassOf {p s l t : Int} {w : World} :
    Calls Try.prog 34 #[.agg #[.int .i64 p, .int .i64 s, .int .i64 l], .int .i64 t] w (Gives w (.int .i64 (passOf p s l t))) := by
  cases h1 : visible p s l t
  · go_enter Try.func34, Try.ntmps34
    go_wp2_with (first | ((with_reducible refine wp_region_later (by kernel_rfl) (by kernel_rfl) ?_); (repeat (first | go_big_quiet_step (first | (go_at_call 33; exact Gives.quiet (c_iVisible))) | simp only [h1])); refine wpQuiet_nil ?_; rintro _ ⟨x, rfl⟩) | (go_at_call 33; refine (c_iVisible).mono ?_; rintro _ _ ⟨rfl, x, rfl⟩))
    go_ret
    exact Gives.mk (by simp [passOf, h1])
  · have ⟨k1, k2, k3⟩ := visible_iff.1 h1
    go_enter Try.func34, Try.ntmps34
    go_wp2_with (first | ((with_reducible refine wp_region_later (by kernel_rfl) (by kernel_rfl) ?_); (repeat (first | go_big_quiet_step (first | (go_at_call 33; exact Gives.quiet (c_iVisible))) | simp only [h1])); refine wpQuiet_nil ?_; rintro _ ⟨x, rfl⟩) | (go_at_call 33; refine (c_iVisible).mono ?_; rintro _ _ ⟨rfl, x, rfl⟩))
    go_ret
    exact Gives.mk (by simp [passOf, h1])

/-! ### VisibleCount -/
/-- The number of visible times before t. -/
def visBefore (p s l t : Int) : Int := if t - s ≤ 0 then 0 else (t - s) / p * l + min ((t - s) % p) l
theorem emod_succ (n p : Int) (hp : 1 ≤ p) : ((n % p + 1 < p) ∧ (n + 1) % p = n % p + 1 ∧ (n + 1) / p = n / p) ∨ (n % p + 1 = p ∧ (n + 1) % p = 0 ∧ (n + 1) / p = n / p + 1) := by
  have h1 := Int.emod_add_mul_ediv n p
  have h2 := Int.emod_nonneg n (show p ≠ 0 by omega)
  have h3 := Int.emod_lt_of_pos n (show 0 < p by omega)
  by_cases h : n % p + 1 < p
  · have := (Int.ediv_emod_unique (a := n + 1) (b := p) (r := n % p + 1) (q := n / p) (by omega)).2 ⟨by omega, by omega, by omega⟩
    exact .inl ⟨h, this.2, this.1⟩
  · have := (Int.ediv_emod_unique (a := n + 1) (b := p) (r := 0) (q := n / p + 1) (by omega)).2 ⟨by rw [Int.mul_add]; omega, by omega, by omega⟩
    exact .inr ⟨by omega, this.2, this.1⟩
theorem visBefore_up {p s l t : Int} (hp : 1 ≤ p) (hl : 1 ≤ l) (hlp : l ≤ p) : visBefore p s l (t + 1) = if t < s then 0 else (t - s) / p * l + min l ((t - s) % p + 1) := by
  unfold visBefore
  by_cases h : t < s
  · rw [if_pos (by omega), if_pos h]
  · rw [if_neg (by omega), if_neg h]
    have e : t + 1 - s = (t - s) + 1 := by omega
    rw [e]
    rcases emod_succ (t - s) p hp with ⟨a, b, c⟩ | ⟨a, b, c⟩
    · rw [b, c]; omega
    · rw [b, c, Int.add_mul]; omega
theorem visBefore_bd {p s l t : Int} (hp : 1 ≤ p) (hl : 1 ≤ l) (hlp : l ≤ p) (hs : 0 ≤ s) (ht : t ≤ 1000001) : 0 ≤ visBefore p s l t ∧ visBefore p s l t ≤ 1000001 := by
  unfold visBefore
  split
  · omega
  · have h1 := Int.emod_add_mul_ediv (t - s) p
    have h2 := Int.emod_nonneg (t - s) (show p ≠ 0 by omega)
    have h0 : 0 ≤ (t - s) / p := Int.ediv_nonneg (by omega) (by omega)
    have h3 : (t - s) / p * l ≤ p * ((t - s) / p) := by rw [Int.mul_comm]; exact Int.mul_le_mul_of_nonneg_right hlp h0
    have h4 : 0 ≤ (t - s) / p * l := Int.mul_nonneg h0 (by omega)
    omega

theorem vb_facts {p s l t : Int} (hp : 1 ≤ p) (hlp : l ≤ p) (hl : 1 ≤ l) (h : s ≤ t) (hs : 0 ≤ s) (ht' : t ≤ 1000001) :
    0 ≤ (t - s) / p ∧ (t - s) / p ≤ 1000001 ∧ 0 ≤ (t - s) % p ∧ (t - s) % p < p ∧ 0 ≤ (t - s) / p * l ∧ (t - s) / p * l ≤ 1000001 := by
  have h0 : 0 ≤ (t - s) / p := Int.ediv_nonneg (by omega) (by omega)
  have h1 := Int.emod_add_mul_ediv (t - s) p
  have h2 := Int.emod_nonneg (t - s) (show p ≠ 0 by omega)
  have h7 := Int.emod_lt_of_pos (t - s) (show 0 < p by omega)
  have h3 : (t - s) / p * l ≤ p * ((t - s) / p) := by rw [Int.mul_comm]; exact Int.mul_le_mul_of_nonneg_right hlp h0
  have h4 : 0 ≤ (t - s) / p * l := Int.mul_nonneg h0 (by omega)
  have h5 : (t - s) / p ≤ 1000001 := by have := Int.ediv_le_self p (show 0 ≤ t - s by omega); omega
  exact ⟨h0, h5, h2, h7, h4, by omega⟩

theorem c_sl08Before {p s l t : Int} {w : World} (hp : 1 ≤ p) (hp' : p ≤ 1000) (hl : 1 ≤ l) (hlp : l ≤ p) (hs : 0 ≤ s) (hs' : s < 1000) (ht : -1 ≤ t) (ht' : t ≤ 1000000) :
    Calls Try.prog 97 #[.agg #[.int .i64 p, .int .i64 s, .int .i64 l], .int .i64 t] w (Gives w (.int .i64 (visBefore p s l (t + 1)))) := by
  have HV := Lib.hid (visBefore_up (s := s) (t := t) hp hl hlp)
  by_cases h : t < s
  · go_enter Try.func97, Try.ntmps97
    go_wp2_with (first | ((with_reducible refine wp_region_later (by kernel_rfl) (by kernel_rfl) ?_); (repeat (first | go_big_quiet_step (first | fail))); refine wpQuiet_nil ?_; rintro _ ⟨x, rfl⟩))
    go_ret
    exact Gives.mk (by rw [HV.out, if_pos h]; rfl)
  · have ⟨h0, h5, h2, h7, h4, h6⟩ := vb_facts hp hlp hl (show s ≤ t by omega) hs (by omega)
    by_cases hm : l ≤ (t - s) % p + 1
    all_goals
      go_enter Try.func97, Try.ntmps97
      go_wp2_with (first | ((with_reducible refine wp_region_later (by kernel_rfl) (by kernel_rfl) ?_); (repeat (first | go_big_quiet_step (first | fail))); refine wpQuiet_nil ?_; rintro _ ⟨x, rfl⟩))
      go_ret
      refine Gives.mk ?_
      rw [HV.out, if_neg (by omega)]
      first | (rw [Int.min_eq_left hm]; rfl) | (rw [Int.min_eq_right (by omega)]; rfl)

theorem c_ivisibleBefore {p s l t : Int} {w : World} (hp : 1 ≤ p) (hp' : p ≤ 1000) (hl : 1 ≤ l) (hlp : l ≤ p) (hs : 0 ≤ s) (hs' : s < 1000) (ht : 0 ≤ t) (ht' : t ≤ 1000001) :
    Calls Try.prog 83 #[.agg #[.int .i64 p, .int .i64 s, .int .i64 l], .int .i64 t] w (Gives w (.int .i64 (visBefore p s l t))) := by
  by_cases h : t - s ≤ 0
  · go_enter Try.func83, Try.ntmps83
    go_wp2_with (first | ((with_reducible refine wp_region_later (by kernel_rfl) (by kernel_rfl) ?_); (repeat (first | go_big_quiet_step (first | fail))); refine wpQuiet_nil ?_; rintro _ ⟨x, rfl⟩))
    go_ret
    exact Gives.mk (by rw [visBefore, if_pos h]; rfl)
  · have ⟨h0, h5, h2, h7, h4, h6⟩ := vb_facts hp hlp hl (show s ≤ t by omega) hs (by omega)
    by_cases hm : (t - s) % p ≤ l
    all_goals
      go_enter Try.func83, Try.ntmps83
      go_wp2_with (first | ((with_reducible refine wp_region_later (by kernel_rfl) (by kernel_rfl) ?_); (repeat (first | go_big_quiet_step (first | fail))); refine wpQuiet_nil ?_; rintro _ ⟨x, rfl⟩))
      go_ret
      refine Gives.mk ?_
      rw [visBefore, if_neg (by omega)]
      first | (rw [Int.min_eq_left hm]; rfl) | (rw [Int.min_eq_right (by omega)]; rfl)

def visCount (p s l a b : Int) : Int := if (orbitOk p s l && (inB a 0 1000000 && inB b a 1000000)) = true then visBefore p s l (b + 1) - visBefore p s l a else 0

theorem c_sVisibleCount {p s l a b : Int} {w : World} :
    Calls Try.prog 91 #[.agg #[.int .i64 p, .int .i64 s, .int .i64 l], .int .i64 a, .int .i64 b] w (Gives w (.int .i64 (visCount p s l a b))) := by
  cases h1 : orbitOk p s l
  · go_enter Try.func91, Try.ntmps91
    go_wp2_with (first | ((with_reducible refine wp_region_later (by kernel_rfl) (by kernel_rfl) ?_); (repeat (first | go_big_quiet_step (first | (go_at_call 90; exact Gives.quiet (c_sOrbitOk)) | (go_at_call 72; exact Gives.quiet (c_sl01In))) | simp only [h1])); refine wpQuiet_nil ?_; rintro _ ⟨x, rfl⟩) | (go_at_call 90; refine (c_sOrbitOk).mono ?_; rintro _ _ ⟨rfl, x, rfl⟩) | (go_at_call 72; refine (c_sl01In).mono ?_; rintro _ _ ⟨rfl, x, rfl⟩))
    go_ret
    exact Gives.mk (by simp [visCount, h1])
  · have ⟨⟨k1, k2⟩, ⟨k3, k4⟩, k5, k6⟩ := orbitOk_iff.1 h1
    cases h2 : inB a 0 1000000
    · go_enter Try.func91, Try.ntmps91
      go_wp2_with (first | ((with_reducible refine wp_region_later (by kernel_rfl) (by kernel_rfl) ?_); (repeat (first | go_big_quiet_step (first | (go_at_call 90; exact Gives.quiet (c_sOrbitOk)) | (go_at_call 72; exact Gives.quiet (c_sl01In))) | simp only [h1] | simp only [h2])); refine wpQuiet_nil ?_; rintro _ ⟨x, rfl⟩) | (go_at_call 90; refine (c_sOrbitOk).mono ?_; rintro _ _ ⟨rfl, x, rfl⟩) | (go_at_call 72; refine (c_sl01In).mono ?_; rintro _ _ ⟨rfl, x, rfl⟩))
      go_ret
      exact Gives.mk (by simp [visCount, h1, h2])
    · have ⟨k7, k8⟩ := inB_iff.1 h2
      cases h3 : inB b a 1000000
      · go_enter Try.func91, Try.ntmps91
        go_wp2_with (first | ((with_reducible refine wp_region_later (by kernel_rfl) (by kernel_rfl) ?_); (repeat (first | go_big_quiet_step (first | (go_at_call 90; exact Gives.quiet (c_sOrbitOk)) | (go_at_call 72; exact Gives.quiet (c_sl01In))) | simp only [h1] | simp only [h2] | simp only [h3])); refine wpQuiet_nil ?_; rintro _ ⟨x, rfl⟩) | (go_at_call 90; refine (c_sOrbitOk).mono ?_; rintro _ _ ⟨rfl, x, rfl⟩) | (go_at_call 72; refine (c_sl01In).mono ?_; rintro _ _ ⟨rfl, x, rfl⟩))
        go_ret
        exact Gives.mk (by simp [visCount, h1, h2, h3])
      · have ⟨k9, k10⟩ := inB_iff.1 h3
        have b1 := visBefore_bd k1 k5 k6 k3 (show b + 1 ≤ 1000001 by omega)
        have b2 := visBefore_bd k1 k5 k6 k3 (show a ≤ 1000001 by omega)
        go_enter Try.func91, Try.ntmps91
        go_wp2_with (first | ((with_reducible refine wp_region_later (by kernel_rfl) (by kernel_rfl) ?_); (repeat (first | go_big_quiet_step (first | (go_at_call 90; exact Gives.quiet (c_sOrbitOk)) | (go_at_call 72; exact Gives.quiet (c_sl01In)) | (go_at_call 97; exact Gives.quiet (c_sl08Before (by omega) (by omega) (by omega) (by omega) (by omega) (by omega) (by omega) (by omega)))) | simp only [h1] | simp only [h2] | simp only [h3])); refine wpQuiet_nil ?_; rintro _ ⟨x, rfl⟩) | (go_at_call 90; refine (c_sOrbitOk).mono ?_; rintro _ _ ⟨rfl, x, rfl⟩) | (go_at_call 72; refine (c_sl01In).mono ?_; rintro _ _ ⟨rfl, x, rfl⟩) | (go_at_call 97; refine (c_sl08Before (by omega) (by omega) (by omega) (by omega) (by omega) (by omega) (by omega) (by omega)).mono ?_; rintro _ _ ⟨rfl, x, rfl⟩))
        go_ret
        exact Gives.mk (by simp [visCount, h1, h2, h3])

set_option maxRecDepth 100000 in
set_option maxHeartbeats 2000000 in
theorem c_iVisibleCount {p s l a b : Int} {w : World} :
    Calls Try.prog 36 #[.agg #[.int .i64 p, .int .i64 s, .int .i64 l], .int .i64 a, .int .i64 b] w (Gives w (.int .i64 (visCount p s l a b))) := by
  cases h1 : orbitOk p s l
  · go_enter Try.func36, Try.ntmps36
    go_wp2_with (first | ((with_reducible refine wp_region_later (by kernel_rfl) (by kernel_rfl) ?_); (repeat (first | go_big_quiet_step (first | (go_at_call 37; exact Gives.quiet (c_iOrbitOk)) | (go_at_call 74; exact Gives.quiet (c_ibetween))) | simp only [h1])); refine wpQuiet_nil ?_; rintro _ ⟨x, rfl⟩) | (go_at_call 37; refine (c_iOrbitOk).mono ?_; rintro _ _ ⟨rfl, x, rfl⟩) | (go_at_call 74; refine (c_ibetween).mono ?_; rintro _ _ ⟨rfl, x, rfl⟩))
    go_ret
    exact Gives.mk (by simp [visCount, h1])
  · have ⟨⟨k1, k2⟩, ⟨k3, k4⟩, k5, k6⟩ := orbitOk_iff.1 h1
    cases h2 : inB a 0 1000000
    · go_enter Try.func36, Try.ntmps36
      go_wp2_with (first | ((with_reducible refine wp_region_later (by kernel_rfl) (by kernel_rfl) ?_); (repeat (first | go_big_quiet_step (first | (go_at_call 37; exact Gives.quiet (c_iOrbitOk)) | (go_at_call 74; exact Gives.quiet (c_ibetween))) | simp only [h1] | simp only [h2])); refine wpQuiet_nil ?_; rintro _ ⟨x, rfl⟩) | (go_at_call 37; refine (c_iOrbitOk).mono ?_; rintro _ _ ⟨rfl, x, rfl⟩) | (go_at_call 74; refine (c_ibetween).mono ?_; rintro _ _ ⟨rfl, x, rfl⟩))
      go_ret
      exact Gives.mk (by simp [visCount, h1, h2])
    · have ⟨k7, k8⟩ := inB_iff.1 h2
      cases h3 : inB b 0 1000000
      · have h5 : inB b a 1000000 = false := by simp [inB] at h3 ⊢; omega
        go_enter Try.func36, Try.ntmps36
        go_wp2_with (first | ((with_reducible refine wp_region_later (by kernel_rfl) (by kernel_rfl) ?_); (repeat (first | go_big_quiet_step (first | (go_at_call 37; exact Gives.quiet (c_iOrbitOk)) | (go_at_call 74; exact Gives.quiet (c_ibetween))) | simp only [h1] | simp only [h2] | simp only [h3])); refine wpQuiet_nil ?_; rintro _ ⟨x, rfl⟩) | (go_at_call 37; refine (c_iOrbitOk).mono ?_; rintro _ _ ⟨rfl, x, rfl⟩) | (go_at_call 74; refine (c_ibetween).mono ?_; rintro _ _ ⟨rfl, x, rfl⟩))
        go_ret
        exact Gives.mk (by simp [visCount, h1, h2, h5])
      · have ⟨k9, k10⟩ := inB_iff.1 h3
        by_cases h4 : b < a
        · have h5 : inB b a 1000000 = false := by simp [inB]; omega
          go_enter Try.func36, Try.ntmps36
          go_wp2_with (first | ((with_reducible refine wp_region_later (by kernel_rfl) (by kernel_rfl) ?_); (repeat (first | go_big_quiet_step (first | (go_at_call 37; exact Gives.quiet (c_iOrbitOk)) | (go_at_call 74; exact Gives.quiet (c_ibetween))) | simp only [h1] | simp only [h2] | simp only [h3])); refine wpQuiet_nil ?_; rintro _ ⟨x, rfl⟩) | (go_at_call 37; refine (c_iOrbitOk).mono ?_; rintro _ _ ⟨rfl, x, rfl⟩) | (go_at_call 74; refine (c_ibetween).mono ?_; rintro _ _ ⟨rfl, x, rfl⟩))
          go_ret
          exact Gives.mk (by simp [visCount, h1, h2, h5])
        · have h5 : inB b a 1000000 = true := by simp [inB]; omega
          have b1 := visBefore_bd k1 k5 k6 k3 (show b + 1 ≤ 1000001 by omega)
          have b2 := visBefore_bd k1 k5 k6 k3 (show a ≤ 1000001 by omega)
          go_enter Try.func36, Try.ntmps36
          go_wp2_with (first | ((with_reducible refine wp_region_later (by kernel_rfl) (by kernel_rfl) ?_); (repeat (first | go_big_quiet_step (first | (go_at_call 37; exact Gives.quiet (c_iOrbitOk)) | (go_at_call 74; exact Gives.quiet (c_ibetween)) | (go_at_call 83; exact Gives.quiet (c_ivisibleBefore (by omega) (by omega) (by omega) (by omega) (by omega) (by omega) (by omega) (by omega)))) | simp only [h1] | simp only [h2] | simp only [h3])); refine wpQuiet_nil ?_; rintro _ ⟨x, rfl⟩) | (go_at_call 37; refine (c_iOrbitOk).mono ?_; rintro _ _ ⟨rfl, x, rfl⟩) | (go_at_call 74; refine (c_ibetween).mono ?_; rintro _ _ ⟨rfl, x, rfl⟩) | (go_at_call 83; refine (c_ivisibleBefore (by omega) (by omega) (by omega) (by omega) (by omega) (by omega) (by omega) (by omega)).mono ?_; rintro _ _ ⟨rfl, x, rfl⟩))
          go_ret
          exact Gives.mk (by simp [visCount, h1, h2, h5])

/-! ### NextVisible -/
/-- Where the search ends, if no time were too late. -/
def nextAt (p s l t : Int) : Int := if t < s then s else if l ≤ (t - s) % p then t + (p - (t - s) % p) else t
def nextVis (p s l t : Int) : Int := if (orbitOk p s l && (decide (0 ≤ t) && (decide (t ≤ 1000000) && decide (nextAt p s l t ≤ 1000000)))) = true then nextAt p s l t else -1

theorem nextAt_ge {p s l t : Int} (hp : 1 ≤ p) : t ≤ nextAt p s l t := by
  have h7 := Int.emod_lt_of_pos (t - s) (show 0 < p by omega)
  unfold nextAt; split
  · omega
  · split <;> omega
theorem nextAt_lt {p s l t : Int} (ht : 0 ≤ t) (ok : orbitOk p s l = true) : nextAt p s l t < t + 2 * p := by
  have ⟨⟨k1, k2⟩, ⟨k3, k4⟩, k5, k6⟩ := orbitOk_iff.1 ok
  have h2 := Int.emod_nonneg (t - s) (show p ≠ 0 by omega)
  unfold nextAt; split
  · omega
  · split <;> omega
theorem nextAt_not {p s l t u : Int} (ok : orbitOk p s l = true) (hu : t ≤ u) (hu' : u < nextAt p s l t) : visible p s l u = false := by
  have ⟨⟨k1, k2⟩, ⟨k3, k4⟩, k5, k6⟩ := orbitOk_iff.1 ok
  have : ¬ visible p s l u = true := by
    intro hv
    have ⟨_, ⟨a1, a2⟩, a3⟩ := visible_iff.1 hv
    unfold nextAt at hu'
    split at hu'
    · omega
    · split at hu'
      · have h1 := Int.emod_add_mul_ediv (t - s) p
        have := (Int.ediv_emod_unique (a := u - s) (b := p) (r := (t - s) % p + (u - t)) (q := (t - s) / p) (by omega)).2 ⟨by omega, by omega, by omega⟩
        omega
      · omega
  simpa using this
theorem nextAt_yes {p s l t : Int} (ok : orbitOk p s l = true) (hM : nextAt p s l t ≤ 1000000) : visible p s l (nextAt p s l t) = true := by
  have ⟨⟨k1, k2⟩, ⟨k3, k4⟩, k5, k6⟩ := orbitOk_iff.1 ok
  refine visible_iff.2 ⟨⟨⟨k1, k2⟩, ⟨k3, k4⟩, k5, k6⟩, ?_⟩
  have h2 := Int.emod_nonneg (t - s) (show p ≠ 0 by omega)
  have h7 := Int.emod_lt_of_pos (t - s) (show 0 < p by omega)
  unfold nextAt at *
  split
  · rename_i h; rw [if_pos h] at hM; refine ⟨by omega, ?_⟩; simp; omega
  · rename_i h; rw [if_neg h] at hM
    split
    · rename_i h'; rw [if_pos h'] at hM
      have h1 := Int.emod_add_mul_ediv (t - s) p
      have := (Int.ediv_emod_unique (a := t + (p - (t - s) % p) - s) (b := p) (r := 0) (q := (t - s) / p + 1) (by omega)).2 ⟨by rw [Int.mul_add]; omega, by omega, by omega⟩
      omega
    · rename_i h'; rw [if_neg h'] at hM; omega

set_option maxRecDepth 100000 in
set_option maxHeartbeats 2000000 in
theorem c_iNextVisible {p s l t : Int} {w : World} :
    Calls Try.prog 35 #[.agg #[.int .i64 p, .int .i64 s, .int .i64 l], .int .i64 t] w (Gives w (.int .i64 (nextVis p s l t))) := by
  cases h1 : orbitOk p s l
  · go_enter Try.func35, Try.ntmps35
    go_wp2_with (first | ((with_reducible refine wp_region_later (by kernel_rfl) (by kernel_rfl) ?_); (repeat (first | go_big_quiet_step (first | (go_at_call 37; exact Gives.quiet (c_iOrbitOk))) | simp only [h1])); refine wpQuiet_nil ?_; rintro _ ⟨x, rfl⟩) | (go_at_call 37; refine (c_iOrbitOk).mono ?_; rintro _ _ ⟨rfl, x, rfl⟩))
    go_ret
    exact Gives.mk (by simp [nextVis, h1])
  · have ⟨⟨k1, k2⟩, ⟨k3, k4⟩, k5, k6⟩ := orbitOk_iff.1 h1
    by_cases h2 : t < 0
    · have h3 : decide (t < 0) = true := by simpa using h2
      go_enter Try.func35, Try.ntmps35
      go_wp2_with (first | ((with_reducible refine wp_region_later (by kernel_rfl) (by kernel_rfl) ?_); (repeat (first | go_big_quiet_step (first | (go_at_call 37; exact Gives.quiet (c_iOrbitOk))) | simp only [h1] | simp only [h3])); refine wpQuiet_nil ?_; rintro _ ⟨x, rfl⟩) | (go_at_call 37; refine (c_iOrbitOk).mono ?_; rintro _ _ ⟨rfl, x, rfl⟩))
      go_ret
      refine Gives.mk ?_
      have : decide (0 ≤ t) = false := by simp; omega
      simp [nextVis, this]
    · have h3 : decide (t < 0) = false := by simpa using h2
      by_cases h4 : 1000000 < t
      · go_enter Try.func35, Try.ntmps35
        go_wp2_with (first | ((with_reducible refine wp_region_later (by kernel_rfl) (by kernel_rfl) ?_); (repeat (first | go_big_quiet_step (first | (go_at_call 37; exact Gives.quiet (c_iOrbitOk))) | simp only [h1] | simp only [h3])); refine wpQuiet_nil ?_; rintro _ ⟨x, rfl⟩) | (go_at_call 37; refine (c_iOrbitOk).mono ?_; rintro _ _ ⟨rfl, x, rfl⟩))
        go_ret
        refine Gives.mk ?_
        have : decide (t ≤ 1000000) = false := by simp; omega
        simp [nextVis, this]
      · have c2 : 0 ≤ t := by omega
        have c4 : t ≤ 1000000 := by omega
        have hf : nextVis p s l t = if nextAt p s l t ≤ 1000000 then nextAt p s l t else -1 := by simp [nextVis, h1, c2, c4]
        by_cases h5 : t < s
        · have e : nextAt p s l t = s := by simp [nextAt, h5]
          have HF := Lib.hid hf; have HE := Lib.hid e; clear hf e
          go_enter Try.func35, Try.ntmps35
          go_wp2_with (first | ((with_reducible refine wp_region_later (by kernel_rfl) (by kernel_rfl) ?_); (repeat (first | go_big_quiet_step (first | (go_at_call 37; exact Gives.quiet (c_iOrbitOk))) | simp only [h1] | simp only [h3])); refine wpQuiet_nil ?_; rintro _ ⟨x, rfl⟩) | (go_at_call 37; refine (c_iOrbitOk).mono ?_; rintro _ _ ⟨rfl, x, rfl⟩))
          go_ret
          exact Gives.mk (by rw [HF.out, HE.out, if_pos (by omega)]; rfl)
        · have h2 := Int.emod_nonneg (t - s) (show p ≠ 0 by omega)
          have h7 := Int.emod_lt_of_pos (t - s) (show 0 < p by omega)
          by_cases h6 : l ≤ (t - s) % p
          · have e : nextAt p s l t = t + (p - (t - s) % p) := by simp [nextAt, h5, h6]
            have HF := Lib.hid hf; have HE := Lib.hid e; clear hf e
            by_cases h8 : 1000000 < t + (p - (t - s) % p)
            · go_enter Try.func35, Try.ntmps35
              go_wp2_with (first | ((with_reducible refine wp_region_later (by kernel_rfl) (by kernel_rfl) ?_); (repeat (first | go_big_quiet_step (first | (go_at_call 37; exact Gives.quiet (c_iOrbitOk))) | simp only [h1] | simp only [h3])); refine wpQuiet_nil ?_; rintro _ ⟨x, rfl⟩) | (go_at_call 37; refine (c_iOrbitOk).mono ?_; rintro _ _ ⟨rfl, x, rfl⟩))
              go_ret
              exact Gives.mk (by rw [HF.out, HE.out, if_neg (by omega)]; rfl)
            · go_enter Try.func35, Try.ntmps35
              go_wp2_with (first | ((with_reducible refine wp_region_later (by kernel_rfl) (by kernel_rfl) ?_); (repeat (first | go_big_quiet_step (first | (go_at_call 37; exact Gives.quiet (c_iOrbitOk))) | simp only [h1] | simp only [h3])); refine wpQuiet_nil ?_; rintro _ ⟨x, rfl⟩) | (go_at_call 37; refine (c_iOrbitOk).mono ?_; rintro _ _ ⟨rfl, x, rfl⟩))
              go_ret
              exact Gives.mk (by rw [HF.out, HE.out, if_pos (by omega)]; rfl)
          · have e : nextAt p s l t = t := by simp [nextAt, h5, h6]
            have HF := Lib.hid hf; have HE := Lib.hid e; clear hf e
            go_enter Try.func35, Try.ntmps35
            go_wp2_with (first | ((with_reducible refine wp_region_later (by kernel_rfl) (by kernel_rfl) ?_); (repeat (first | go_big_quiet_step (first | (go_at_call 37; exact Gives.quiet (c_iOrbitOk))) | simp only [h1] | simp only [h3])); refine wpQuiet_nil ?_; rintro _ ⟨x, rfl⟩) | (go_at_call 37; refine (c_iOrbitOk).mono ?_; rintro _ _ ⟨rfl, x, rfl⟩))
            go_ret
            exact Gives.mk (by rw [HF.out, HE.out, if_pos (by omega)]; rfl)
end Go.Proofs.Ytonclekalgaojaa
