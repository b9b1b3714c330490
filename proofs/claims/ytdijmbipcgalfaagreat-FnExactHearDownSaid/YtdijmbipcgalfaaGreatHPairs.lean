/- The contracts of BoundsOf, RateOf and GuessTrue. No condition but on sizes. -/
import Derived.Test.YtdijmbipcgalfaaGreatHSlots2
namespace Go.Proofs.YtdijmbipcgalfaaGreat
set_option linter.unusedVariables false
open Go.ChangeShapes Go.WideShapes Go.ChangeAt Go.RowKit
