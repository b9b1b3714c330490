/- A mission out of sight: what it is while time passes. -/
import Derived.Test.YtdoilejecjaldaaGreatHM44
import Derived.Test.YtdoilejecjaldaaGreatHM38
namespace Go.Proofs.YtdoilejecjaldaaGreat
set_option linter.unusedVariables false
open Go.ChangeShapes Go.WideShapes Go.ChangeAt Go.RowKit

