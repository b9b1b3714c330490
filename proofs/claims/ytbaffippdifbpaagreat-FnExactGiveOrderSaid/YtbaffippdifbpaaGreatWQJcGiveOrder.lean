/- A closed fact of the program at the law on GiveOrder. No condition. -/
import Derived.Test.YtbaffippdifbpaaGreatWM0
namespace Go.Proofs.YtbaffippdifbpaaGreat
set_option linter.unusedVariables false
open Go.ChangeShapes Go.WideShapes Go.ChangeAt Go.RowKit
theorem FnExactGiveOrder_recurses:(Rows.fnExactGiveOrderRow.recurses == Tryz.pinned.checked.prog.recurses 6)=true:=by kernel_rfl
end Go.Proofs.YtbaffippdifbpaaGreat
