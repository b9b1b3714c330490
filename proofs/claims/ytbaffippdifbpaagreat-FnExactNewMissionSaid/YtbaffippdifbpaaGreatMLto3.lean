/- laws.toX of the board, the ground, the satellite, the mission: all their slices the call's own. No condition but on sizes. -/
import Derived.Test.YtbaffippdifbpaaGreatMM21
import Derived.Test.YtbaffippdifbpaaGreatMDM6
import Derived.Test.YtbaffippdifbpaaGreatMDM7
namespace Go.Proofs.YtbaffippdifbpaaGreat
set_option linter.unusedVariables false
open Go.ChangeShapes Go.WideShapes Go.ChangeAt Go.RowKit
end Go.Proofs.YtbaffippdifbpaaGreat
