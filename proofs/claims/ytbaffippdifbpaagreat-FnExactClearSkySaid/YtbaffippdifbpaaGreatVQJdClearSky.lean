/- A closed fact of the program at the law on ClearSky. No condition. -/
import Derived.Test.YtbaffippdifbpaaGreatVM0
namespace Go.Proofs.YtbaffippdifbpaaGreat
set_option linter.unusedVariables false
open Go.ChangeShapes Go.WideShapes Go.ChangeAt Go.RowKit
theorem FnExactClearSky_varsNamed : (Rows.fnExactClearSkyRow.named == Tryz.pinned.checked.prog.varsNamed 5) = true := by kernel_rfl
end Go.Proofs.YtbaffippdifbpaaGreat
