/- The contract of the mirror of a mission. No condition but on sizes. -/
import Derived.Test.YtbaffippdifbpaaGreatMM21
namespace Go.Proofs.YtbaffippdifbpaaGreat
set_option linter.unusedVariables false
open Go.ChangeShapes Go.WideShapes Go.ChangeAt Go.RowKit
end Go.Proofs.YtbaffippdifbpaaGreat
