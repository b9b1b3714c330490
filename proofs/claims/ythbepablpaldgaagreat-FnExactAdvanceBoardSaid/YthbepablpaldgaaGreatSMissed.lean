/- The contracts of MissedOf. No condition but on sizes. -/
import Derived.Test.YthbepablpaldgaaGreatSM0
import Derived.Test.YthbepablpaldgaaGreatSSlots2
namespace Go.Proofs.YthbepablpaldgaaGreat
set_option linter.unusedVariables false
open Go.ChangeShapes Go.WideShapes Go.ChangeAt Go.RowKit
