/- The link of the reference: a block through a channel. No condition but on sizes. -/
import Derived.Test.YtdijmbipcgalfaaGreatHM37
import Derived.Test.YtdijmbipcgalfaaGreatHBox2
import Derived.Test.YtdijmbipcgalfaaGreatHStepH
import Derived.Test.YtdijmbipcgalfaaGreatHOkF
import Derived.Test.YtdijmbipcgalfaaGreatHM29
import Derived.Test.YtdijmbipcgalfaaGreatHOne
import Derived.Deep.CutRange
namespace Go.Proofs.YtdijmbipcgalfaaGreat
set_option linter.unusedVariables false
open Go.ChangeShapes Go.WideShapes Go.ChangeAt Go.RowKit
section
variable {P:Program} {ops:Array Oper} {op:Oper} {a:Act} {w:World} {Q:Exit→Act→World→Prop} {S:World→Prop} {md:Region.Mode} {fuel:Nat} {listed:Array Bool}
end
