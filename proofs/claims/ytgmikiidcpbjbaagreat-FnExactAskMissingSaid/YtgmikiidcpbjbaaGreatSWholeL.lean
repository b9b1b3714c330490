/- What a file's sender and receiver come to, plain: segments and ends as they are read, and what is whole. No program in sight. -/
import Derived.Test.YtgmikiidcpbjbaaGreatSHearP
import Derived.Test.YtgmikiidcpbjbaaGreatSM9
import Derived.Test.YtgmikiidcpbjbaaGreatSM21
namespace Go.Proofs.YtgmikiidcpbjbaaGreat
set_option linter.unusedVariables false
open Go.ChangeShapes Go.WideShapes Go.ChangeAt Go.RowKit

end Go.Proofs.YtgmikiidcpbjbaaGreat
