/- FnExactGiveOrder: whatever the mission and the order, the program's function and the reference's return the same mission and the same Boolean; the result shares no memory with the arguments, which read as they did. No condition. -/
import Derived.Test.YtbaffippdifbpaaGreatWQLGiveOrder
import Derived.Test.YtbaffippdifbpaaGreatWM0
import Derived.Test.YtbaffippdifbpaaGreatWQJbGiveOrder
import Derived.Test.YtbaffippdifbpaaGreatWQJcGiveOrder
import Derived.Test.YtbaffippdifbpaaGreatWQJdGiveOrder
namespace Go.Proofs.YtbaffippdifbpaaGreat
set_option linter.unusedVariables false
open Go.ChangeShapes Go.WideShapes Go.ChangeAt Go.RowKit
set_option maxRecDepth 100000 in
theorem FnExactGiveOrder_closed:joinedFacts Tryz.pinned.checked.prog 6 Tryz.f6 Rows.fnExactGiveOrderSpec Rows.fnExactGiveOrderRow=true:=by
 simp only[joinedFacts,Bool.and_eq_true]
 repeat' apply And.intro
 all_goals first|(with_reducible exact FnExactGiveOrder_inPlace)|(with_reducible exact FnExactGiveOrder_unfollowed)|(with_reducible exact FnExactGiveOrder_recurses)|(with_reducible exact FnExactGiveOrder_varsNamed)|(with_reducible exact laidOut)|kernel_rfl
theorem FnExactGiveOrder_holds:Rows.FnExactGiveOrderSaid :=
 OpenClaim.holds_of_wide 6 Tryz.f6 rfl rfl rfl rfl rfl rfl rfl ⟨rfl,rfl,rfl,rfl,rfl⟩ rfl rfl rfl rfl rfl (by kernel_rfl) Tryz.func6 FnExactGiveOrder_closed
  (of_decide_eq_true (by kernel_rfl)) (by unfold Func.isWrapper;first|(rw[if_pos (by decide +kernel)];kernel_rfl)|(rw[if_neg (by decide +kernel)];exact⟨rfl,rfl⟩))
  (fun os started H enc _=>FnExactGiveOrder_lifted os started H enc)
end Go.Proofs.YtbaffippdifbpaaGreat
