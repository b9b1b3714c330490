/- The plain facts of FnVisible. No program in sight. -/
import Derived.Test.YtonclekalgaojaaNum2
namespace Go.Proofs.Ytonclekalgaojaa
set_option linter.unusedVariables false
open Go.ChangeShapes Go.WideShapes Go.ChangeAt Go.RowKit

theorem visBefore_step {p s l t : Int} (ok : orbitOk p s l = true) (ht : 0 ≤ t) (ht' : t ≤ 1000000) : visBefore p s l (t + 1) = visBefore p s l t + (if visible p s l t = true then 1 else 0) := by
  have ⟨⟨h1, h2⟩, ⟨h3, h4⟩, h5, h6⟩ := orbitOk_iff.1 ok
  rw [visBefore_up h1 h5 h6]
  have hv := @visible_iff p s l t
  have hm := Int.emod_nonneg (t - s) (show p ≠ 0 by omega)
  have hm' := Int.emod_lt_of_pos (t - s) (show 0 < p by omega)
  unfold visBefore
  by_cases c1 : t < s
  · rw [if_pos c1, if_pos (by omega), if_neg (by rw [hv]; omega)]; rfl
  · rw [if_neg c1]
    by_cases c2 : t - s ≤ 0
    · have e : t - s = 0 := by omega
      rw [if_pos c2, e]
      have : visible p s l t = true := by rw [hv, e]; simp; omega
      rw [if_pos this]; simp; omega
    · rw [if_neg c2]
      by_cases c3 : (t - s) % p < l
      · rw [if_pos (hv.2 (by omega))]; omega
      · rw [if_neg (fun h => c3 (hv.1 h).2.2)]; omega
theorem visible_pass {p s l t : Int} : visible p s l t = decide (0 ≤ passOf p s l t) := by
  unfold passOf
  by_cases h : visible p s l t = true
  · obtain ⟨⟨⟨h1, h2⟩, -⟩, ⟨h3, -⟩, -⟩ := visible_iff.1 h
    rw [if_pos h, h]
    have := Int.ediv_nonneg (show 0 ≤ t - s by omega) (show 0 ≤ p by omega)
    simpa using this
  · rw [if_neg h]; simpa using h
theorem visible_again {p s l t : Int} (ht : s ≤ t) (h : t + p ≤ 1000000) (ok : orbitOk p s l = true) : visible p s l t = visible p s l (t + p) := by
  have ⟨⟨h1, h2⟩, ⟨h3, h4⟩, h5, h6⟩ := orbitOk_iff.1 ok
  rw [Bool.eq_iff_iff, visible_iff, visible_iff, show t + p - s = t - s + p by omega, Int.add_emod_right]
  omega
end Go.Proofs.Ytonclekalgaojaa
