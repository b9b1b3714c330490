/- The contracts of TimesTrue, both sides. No condition but on sizes. -/
import Derived.Test.YtgmikiidcpbjbaaGreatSM9
import Derived.Test.YtgmikiidcpbjbaaGreatSOkN
import Derived.Test.YtgmikiidcpbjbaaGreatSM21
import Derived.Laws.ByValue
namespace Go.Proofs.YtgmikiidcpbjbaaGreat
set_option linter.unusedVariables false
open Go.ChangeShapes Go.WideShapes Go.ChangeAt Go.RowKit
end Go.Proofs.YtgmikiidcpbjbaaGreat
