/- FnExactHearUplink: whatever the mission, the program's function and the reference's return the same mission; the result shares no memory with the argument, which reads as it did. -/
import Derived.Test.YtdoilejecjaldaaGreatHM53
import Derived.Test.YtdoilejecjaldaaGreatHM0
namespace Go.Proofs.YtdoilejecjaldaaGreat
set_option maxRecDepth 100000
set_option linter.unusedVariables false
open Go.ChangeShapes Go.WideShapes Go.ChangeAt Go.RowKit
theorem FnExactHearUplink_closed:joinedFacts Tryz.pinned.checked.prog 3 Tryz.f3 Rows.fnExactHearUplinkSpec Rows.fnExactHearUplinkRow=true:=by
 simp only[joinedFacts,Bool.and_eq_true]
 repeat' apply And.intro
 all_goals first|(with_reducible exact FnExactHearUplink_inPlace)|(with_reducible exact FnExactHearUplink_unfollowed)|(with_reducible exact FnExactHearUplink_recurses)|(with_reducible exact FnExactHearUplink_varsNamed)|(with_reducible exact bH3)|kernel_rfl
theorem FnExactHearUplink_holds:Rows.FnExactHearUplinkSaid :=
 OpenClaim.holds_of_wide 3 Tryz.f3 rfl rfl rfl rfl rfl rfl rfl ⟨rfl,rfl,rfl,rfl,rfl⟩ rfl rfl rfl rfl rfl kr Tryz.func3 FnExactHearUplink_closed
  (of_decide_eq_true kr) (by unfold Func.isWrapper;first|(rw[if_pos (by decide +kernel)];kernel_rfl)|(rw[if_neg (by decide +kernel)];exact⟨rfl,rfl⟩))
  (fun os started H enc _=>FnExactHearUplink_lifted os started H enc)
end Go.Proofs.YtdoilejecjaldaaGreat
