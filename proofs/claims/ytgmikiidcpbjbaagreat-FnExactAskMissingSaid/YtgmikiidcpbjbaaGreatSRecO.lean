/- The contracts of RecordsOnce, both sides. No condition but on sizes. -/
import Derived.Test.YtgmikiidcpbjbaaGreatSM4
import Derived.Test.YtgmikiidcpbjbaaGreatSM21
import Derived.Test.YtgmikiidcpbjbaaGreatSM14
namespace Go.Proofs.YtgmikiidcpbjbaaGreat
set_option linter.unusedVariables false
open Go.ChangeShapes Go.WideShapes Go.ChangeAt Go.RowKit
end Go.Proofs.YtgmikiidcpbjbaaGreat
