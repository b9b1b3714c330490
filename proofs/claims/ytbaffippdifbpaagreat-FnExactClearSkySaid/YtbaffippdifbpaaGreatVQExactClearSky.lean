/- FnExactClearSky: whatever the mission, the program's function and the reference's return the same mission; the result shares no memory with the argument, which reads as it did. No condition. -/
import Derived.Test.YtbaffippdifbpaaGreatVQLClearSky
import Derived.Test.YtbaffippdifbpaaGreatVQJaClearSky
import Derived.Test.YtbaffippdifbpaaGreatVQJbClearSky
import Derived.Test.YtbaffippdifbpaaGreatVQJcClearSky
import Derived.Test.YtbaffippdifbpaaGreatVQJdClearSky
namespace Go.Proofs.YtbaffippdifbpaaGreat
set_option linter.unusedVariables false
open Go.ChangeShapes Go.WideShapes Go.ChangeAt Go.RowKit
set_option maxRecDepth 100000 in
theorem FnExactClearSky_closed : joinedFacts Tryz.pinned.checked.prog 5 Tryz.f5 Rows.fnExactClearSkySpec Rows.fnExactClearSkyRow = true := by
  simp only [joinedFacts, Bool.and_eq_true]
  repeat' apply And.intro
  all_goals first | (with_reducible exact FnExactClearSky_inPlace) | (with_reducible exact FnExactClearSky_unfollowed) | (with_reducible exact FnExactClearSky_recurses) | (with_reducible exact FnExactClearSky_varsNamed) | (with_reducible exact laidOut) | kernel_rfl
theorem FnExactClearSky_holds : Rows.FnExactClearSkySaid :=
  OpenClaim.holds_of_wide 5 Tryz.f5 rfl rfl rfl rfl rfl rfl rfl ⟨rfl, rfl, rfl, rfl, rfl⟩ rfl rfl rfl rfl rfl (by kernel_rfl) Tryz.func5 FnExactClearSky_closed
    (of_decide_eq_true (by kernel_rfl)) (by unfold Func.isWrapper; first | (rw [if_pos (by decide +kernel)]; kernel_rfl) | (rw [if_neg (by decide +kernel)]; exact ⟨rfl, rfl⟩))
    (fun os started H enc _ => FnExactClearSky_lifted os started H enc)
end Go.Proofs.YtbaffippdifbpaaGreat
