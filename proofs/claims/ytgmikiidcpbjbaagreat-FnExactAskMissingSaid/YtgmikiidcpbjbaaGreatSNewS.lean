/- NewMission of the reference. No condition but on sizes. -/
import Derived.Test.YtgmikiidcpbjbaaGreatSM48
import Derived.Test.YtgmikiidcpbjbaaGreatSPlanS
namespace Go.Proofs.YtgmikiidcpbjbaaGreat
set_option linter.unusedVariables false
open Go.ChangeShapes Go.WideShapes Go.ChangeAt Go.RowKit
end Go.Proofs.YtgmikiidcpbjbaaGreat
