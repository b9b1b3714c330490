/- The contracts of the mirrors, sizes and equalities of flat structs (1). No condition but on sizes. -/
import Derived.Test.YtbaffippdifbpaaGreatSDTy
namespace Go.Proofs.YtbaffippdifbpaaGreat
set_option linter.unusedVariables false
open Go.ChangeShapes Go.WideShapes Go.ChangeAt Go.RowKit
end Go.Proofs.YtbaffippdifbpaaGreat
