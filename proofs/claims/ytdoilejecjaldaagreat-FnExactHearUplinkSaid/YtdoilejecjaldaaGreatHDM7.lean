/- The contract of the mirror of a mission. No condition but on sizes. -/
import Derived.Test.YtdoilejecjaldaaGreatHM15
namespace Go.Proofs.YtdoilejecjaldaaGreat
set_option linter.unusedVariables false
open Go.ChangeShapes Go.WideShapes Go.ChangeAt Go.RowKit
