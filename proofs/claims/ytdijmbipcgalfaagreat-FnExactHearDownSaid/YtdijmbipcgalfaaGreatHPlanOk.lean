/- The contracts of PlanOk. No condition but on sizes. -/
import Derived.Test.YtdijmbipcgalfaaGreatHM7
namespace Go.Proofs.YtdijmbipcgalfaaGreat
set_option linter.unusedVariables false
open Go.ChangeShapes Go.WideShapes Go.ChangeAt Go.RowKit
