/- FnExactSendUp: whatever the mission, the program's function and the reference's return the same mission; the result shares no memory with the argument, which reads as it did. -/
import Derived.Test.YthbepablpaldgaaGreatSM52
import Derived.Test.YthbepablpaldgaaGreatSM0
namespace Go.Proofs.YthbepablpaldgaaGreat
set_option maxRecDepth 100000
set_option linter.unusedVariables false
open Go.ChangeShapes Go.WideShapes Go.ChangeAt Go.RowKit
theorem FnExactSendUp_closed:joinedFacts Tryz.pinned.checked.prog 4 Tryz.f4 Rows.fnExactSendUpSpec Rows.fnExactSendUpRow=true:=by
 simp only[joinedFacts,Bool.and_eq_true]
 repeat' apply And.intro
 all_goals first|(with_reducible exact FnExactSendUp_inPlace)|(with_reducible exact FnExactSendUp_unfollowed)|(with_reducible exact FnExactSendUp_recurses)|(with_reducible exact FnExactSendUp_varsNamed)|(with_reducible exact laidOut)|kernel_rfl
theorem FnExactSendUp_holds:Rows.FnExactSendUpSaid :=
 OpenClaim.holds_of_wide 4 Tryz.f4 rfl rfl rfl rfl rfl rfl rfl ⟨rfl,rfl,rfl,rfl,rfl⟩ rfl rfl rfl rfl rfl kr Tryz.func4 FnExactSendUp_closed
  (of_decide_eq_true kr) (by unfold Func.isWrapper;first|(rw[if_pos (by decide +kernel)];kernel_rfl)|(rw[if_neg (by decide +kernel)];exact⟨rfl,rfl⟩))
  (fun os started H enc _=>FnExactSendUp_lifted os started H enc)
end Go.Proofs.YthbepablpaldgaaGreat
