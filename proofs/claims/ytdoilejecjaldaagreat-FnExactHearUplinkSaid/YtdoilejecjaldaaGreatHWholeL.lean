/- What a file's sender and receiver come to, plain: segments and ends as they are read, and what is whole. -/
import Derived.Test.YtdoilejecjaldaaGreatHM15
namespace Go.Proofs.YtdoilejecjaldaaGreat
set_option linter.unusedVariables false
open Go.ChangeShapes Go.WideShapes Go.ChangeAt Go.RowKit

