/- The contract of the mirror of a mission. No condition but on sizes. -/
import Derived.Test.YthbepablpaldgaaGreatSM16
namespace Go.Proofs.YthbepablpaldgaaGreat
set_option linter.unusedVariables false
open Go.ChangeShapes Go.WideShapes Go.ChangeAt Go.RowKit
