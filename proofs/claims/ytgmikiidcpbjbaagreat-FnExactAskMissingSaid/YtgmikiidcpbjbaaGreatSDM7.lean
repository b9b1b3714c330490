/- The contract of the mirror of a mission. No condition but on sizes. -/
import Derived.Test.YtgmikiidcpbjbaaGreatSM14
namespace Go.Proofs.YtgmikiidcpbjbaaGreat
set_option linter.unusedVariables false
open Go.ChangeShapes Go.WideShapes Go.ChangeAt Go.RowKit
end Go.Proofs.YtgmikiidcpbjbaaGreat
