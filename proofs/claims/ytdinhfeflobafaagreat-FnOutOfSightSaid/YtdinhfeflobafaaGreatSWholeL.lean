/- What a file's sender and receiver come to, plain: segments and ends as they are read, and what is whole. No program in sight. -/
import Derived.Test.YtdinhfeflobafaaGreatSM12
namespace Go.Proofs.YtdinhfeflobafaaGreat
set_option linter.unusedVariables false
open Go.ChangeShapes Go.WideShapes Go.ChangeAt Go.RowKit

end Go.Proofs.YtdinhfeflobafaaGreat
