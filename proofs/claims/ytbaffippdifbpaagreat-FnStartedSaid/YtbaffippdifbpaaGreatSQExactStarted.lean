/- FnStarted: whatever the code, the law holds: a mission begins with what it is given; the argument reads as it did. No condition. -/
import Derived.Test.YtbaffippdifbpaaGreatSQLStarted
import Derived.Test.YtbaffippdifbpaaGreatSM0
namespace Go.Proofs.YtbaffippdifbpaaGreat
set_option linter.unusedVariables false
open Go.ChangeShapes Go.WideShapes Go.ChangeAt Go.RowKit
set_option maxRecDepth 100000 in
theorem FnStarted_closed:joinedFacts Tryz.pinned.checked.prog 3 Tryz.f3 Rows.fnStartedSpec Rows.fnStartedRow=true:=by
 simp only[joinedFacts,Bool.and_eq_true]
 repeat' apply And.intro
 all_goals first|(with_reducible exact FnStarted_inPlace)|(with_reducible exact FnStarted_unfollowed)|(with_reducible exact FnStarted_recurses)|(with_reducible exact FnStarted_varsNamed)|(with_reducible exact laidOut)|kernel_rfl
theorem FnStarted_holds:Rows.FnStartedSaid :=
 OpenClaim.holds_of_wide 3 Tryz.f3 rfl rfl rfl rfl rfl rfl rfl ⟨rfl,rfl,rfl,rfl,rfl⟩ rfl rfl rfl rfl rfl (by kernel_rfl) Tryz.func3 FnStarted_closed
  (of_decide_eq_true (by kernel_rfl)) (by unfold Func.isWrapper;first|(rw[if_pos (by decide +kernel)];kernel_rfl)|(rw[if_neg (by decide +kernel)];exact⟨rfl,rfl⟩))
  (fun os started H enc _=>FnStarted_lifted os started H enc)
end Go.Proofs.YtbaffippdifbpaaGreat
