/- laws.toX of the board, the ground, the satellite, the mission: all their slices the call's own. No condition but on sizes. -/
import Derived.Test.YtbaffippdifbpaaGreatSM25
import Derived.Test.YtbaffippdifbpaaGreatSDM6
import Derived.Test.YtbaffippdifbpaaGreatSDM7
namespace Go.Proofs.YtbaffippdifbpaaGreat
set_option linter.unusedVariables false
open Go.ChangeShapes Go.WideShapes Go.ChangeAt Go.RowKit
end Go.Proofs.YtbaffippdifbpaaGreat
