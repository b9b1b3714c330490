/- laws.toX of the board, the ground, the satellite, the mission: all their slices the call's own. No condition but on sizes. -/
import Derived.Test.YtdinhfeflobafaaGreatSM29
import Derived.Test.YtdinhfeflobafaaGreatSM5
namespace Go.Proofs.YtdinhfeflobafaaGreat
set_option linter.unusedVariables false
open Go.ChangeShapes Go.WideShapes Go.ChangeAt Go.RowKit
end Go.Proofs.YtdinhfeflobafaaGreat
