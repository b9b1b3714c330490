/- FnExactHearDown: whatever the mission, the program's function and the reference's return the same mission; the result shares no memory with the argument, which reads as it did. -/
import Derived.Test.YtdijmbipcgalfaaGreatHM52
import Derived.Test.YtdijmbipcgalfaaGreatHM0
namespace Go.Proofs.YtdijmbipcgalfaaGreat
set_option maxRecDepth 100000
set_option linter.unusedVariables false
open Go.ChangeShapes Go.WideShapes Go.ChangeAt Go.RowKit
theorem FnExactHearDown_closed:joinedFacts Tryz.pinned.checked.prog 3 Tryz.f3 Rows.fnExactHearDownSpec Rows.fnExactHearDownRow=true:=by
 simp only[joinedFacts,Bool.and_eq_true]
 repeat' apply And.intro
 all_goals first|(with_reducible exact FnExactHearDown_inPlace)|(with_reducible exact FnExactHearDown_unfollowed)|(with_reducible exact FnExactHearDown_recurses)|(with_reducible exact FnExactHearDown_varsNamed)|(with_reducible exact bM3)|kernel_rfl
theorem FnExactHearDown_holds:Rows.FnExactHearDownSaid :=
 OpenClaim.holds_of_wide 3 Tryz.f3 rfl rfl rfl rfl rfl rfl rfl ⟨rfl,rfl,rfl,rfl,rfl⟩ rfl rfl rfl rfl rfl kr Tryz.func3 FnExactHearDown_closed
  (of_decide_eq_true kr) (by unfold Func.isWrapper;first|(rw[if_pos (by decide +kernel)];kernel_rfl)|(rw[if_neg (by decide +kernel)];exact⟨rfl,rfl⟩))
  (fun os started H enc _=>FnExactHearDown_lifted os started H enc)
end Go.Proofs.YtdijmbipcgalfaaGreat
