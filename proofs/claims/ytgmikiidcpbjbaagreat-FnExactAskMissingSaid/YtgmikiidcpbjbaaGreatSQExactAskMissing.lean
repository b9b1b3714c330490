/- FnExactAskMissing: whatever the mission, the program's function and the reference's return the same mission; the result shares no memory with the argument, which reads as it did. No condition. -/
import Derived.Test.YtgmikiidcpbjbaaGreatSM53
import Derived.Test.YtgmikiidcpbjbaaGreatSM0
import Derived.Test.YtgmikiidcpbjbaaGreatSQJfAskMissing
namespace Go.Proofs.YtgmikiidcpbjbaaGreat
set_option linter.unusedVariables false
open Go.ChangeShapes Go.WideShapes Go.ChangeAt Go.RowKit
theorem FnExactAskMissing_laid:laidOutB Tryz.pinned.checked.prog=true:=laidOut
set_option maxRecDepth 100000 in
theorem FnExactAskMissing_closed:joinedFacts Tryz.pinned.checked.prog 3 Tryz.f3 Rows.fnExactAskMissingSpec Rows.fnExactAskMissingRow=true:=by
 simp only[joinedFacts,Bool.and_eq_true]
 repeat' apply And.intro
 all_goals first|(with_reducible exact FnExactAskMissing_inPlace)|(with_reducible exact FnExactAskMissing_unfollowed)|(with_reducible exact FnExactAskMissing_recurses)|(with_reducible exact FnExactAskMissing_varsNamed)|(with_reducible exact laidOut)|(with_reducible exact FnExactAskMissing_mapsRowed)|(with_reducible exact FnExactAskMissing_stopsHeard)|(with_reducible exact FnExactAskMissing_mayEnter)|(with_reducible exact FnExactAskMissing_liftsEq)|(with_reducible exact FnExactAskMissing_loops)|(with_reducible exact FnExactAskMissing_loopsOut)|(with_reducible exact FnExactAskMissing_laid)|kernel_rfl
theorem FnExactAskMissing_holds:Rows.FnExactAskMissingSaid :=
 OpenClaim.holds_of_wide 3 Tryz.f3 rfl rfl rfl rfl rfl rfl rfl ⟨rfl,rfl,rfl,rfl,rfl⟩ rfl rfl rfl rfl rfl (by kernel_rfl) Tryz.func3 FnExactAskMissing_closed
  (of_decide_eq_true (by kernel_rfl)) (by unfold Func.isWrapper;first|(rw[if_pos (by decide +kernel)];kernel_rfl)|(rw[if_neg (by decide +kernel)];exact⟨rfl,rfl⟩))
  (fun os started H enc _=>FnExactAskMissing_lifted os started H enc)
end Go.Proofs.YtgmikiidcpbjbaaGreat
