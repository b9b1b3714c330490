/- A closed fact of the program at the law on AskMissing. No condition. -/
import Derived.Test.YtgmikiidcpbjbaaGreatSM0
namespace Go.Proofs.YtgmikiidcpbjbaaGreat
set_option linter.unusedVariables false
open Go.ChangeShapes Go.WideShapes Go.ChangeAt Go.RowKit
theorem FnExactAskMissing_liftsEq:(Rows.fnExactAskMissingRow.lifted == Tryz.pinned.checked.prog.liftsFinal)=true:=by kernel_rfl
theorem FnExactAskMissing_loops:(Rows.fnExactAskMissingRow.loops == (Tryz.f3.params.toList++DataSpec.varTypes Tryz.pinned.checked.prog Rows.fnExactAskMissingSpec.plain).any fun x=>Tryz.pinned.checked.prog.loopsFrom x)=true:=by kernel_rfl
end Go.Proofs.YtgmikiidcpbjbaaGreat
