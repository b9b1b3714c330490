/- The contract of HearPart, both sides. No condition but on lengths. -/
import Derived.Test.YtgmikiidcpbjbaaGreatSM14
namespace Go.Proofs.YtgmikiidcpbjbaaGreat
set_option linter.unusedVariables false
open Go.ChangeShapes Go.WideShapes Go.ChangeAt Go.RowKit
end Go.Proofs.YtgmikiidcpbjbaaGreat
