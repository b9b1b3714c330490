/- The plain facts of FnVisible. No program in sight. -/
import Derived.Test.YtbaffippdifbpaaGreatMM0
namespace Go.Proofs.YtbaffippdifbpaaGreat
set_option linter.unusedVariables false
open Go.ChangeShapes Go.WideShapes Go.ChangeAt Go.RowKit
end Go.Proofs.YtbaffippdifbpaaGreat
