/- The contracts of the size and the equality of a mission. No condition but on sizes. -/
import Derived.Test.YtbaffippdifbpaaGreatSM25
namespace Go.Proofs.YtbaffippdifbpaaGreat
set_option linter.unusedVariables false
open Go.ChangeShapes Go.WideShapes Go.ChangeAt Go.RowKit
end Go.Proofs.YtbaffippdifbpaaGreat
