/- The contracts of the reference's PlanPasses. No condition but on lengths. -/
import Derived.Test.YtgmikiidcpbjbaaGreatSM4
import Derived.Test.YtgmikiidcpbjbaaGreatSM0
namespace Go.Proofs.YtgmikiidcpbjbaaGreat
set_option linter.unusedVariables false
open Go.ChangeShapes Go.WideShapes Go.ChangeAt Go.RowKit
end Go.Proofs.YtgmikiidcpbjbaaGreat
