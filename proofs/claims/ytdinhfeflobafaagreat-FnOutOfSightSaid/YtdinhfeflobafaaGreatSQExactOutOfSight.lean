/- FnOutOfSight: whatever the code, the law holds: while the satellite is out of sight nothing is sent, and what is on board goes on; the argument reads as it did. No condition. -/
import Derived.Test.YtdinhfeflobafaaGreatSM43
import Derived.Test.YtdinhfeflobafaaGreatSM0
namespace Go.Proofs.YtdinhfeflobafaaGreat
set_option linter.unusedVariables false
open Go.ChangeShapes Go.WideShapes Go.ChangeAt Go.RowKit
set_option maxRecDepth 100000 in
theorem FnOutOfSight_closed:joinedFacts Tryz.pinned.checked.prog 5 Tryz.f5 Rows.fnOutOfSightSpec Rows.fnOutOfSightRow=true:=by
 simp only[joinedFacts,Bool.and_eq_true]
 repeat' apply And.intro
 all_goals first|(with_reducible exact FnOutOfSight_inPlace)|(with_reducible exact FnOutOfSight_unfollowed)|(with_reducible exact FnOutOfSight_recurses)|(with_reducible exact FnOutOfSight_varsNamed)|(with_reducible exact laidOut)|kernel_rfl
theorem FnOutOfSight_holds:Rows.FnOutOfSightSaid :=
 OpenClaim.holds_of_wide 5 Tryz.f5 rfl rfl rfl rfl rfl rfl rfl ⟨rfl,rfl,rfl,rfl,rfl⟩ rfl rfl rfl rfl rfl (by kernel_rfl) Tryz.func5 FnOutOfSight_closed
  (of_decide_eq_true (by kernel_rfl)) (by unfold Func.isWrapper;first|(rw[if_pos (by decide +kernel)];kernel_rfl)|(rw[if_neg (by decide +kernel)];exact⟨rfl,rfl⟩))
  (fun os started H enc _=>FnOutOfSight_lifted os started H enc)
end Go.Proofs.YtdinhfeflobafaaGreat
