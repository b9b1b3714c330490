/- The contracts of what draws a mission's parts: channels, limits, orders. No condition. -/
import Derived.Test.YtbaffippdifbpaaGreatMM8
import Derived.Test.YtbaffippdifbpaaGreatMM13
namespace Go.Proofs.YtbaffippdifbpaaGreat
set_option linter.unusedVariables false
open Go.ChangeShapes Go.WideShapes Go.ChangeAt Go.RowKit
end Go.Proofs.YtbaffippdifbpaaGreat
