/- Regions that draw their order: parts of slices, sums. No condition but on sizes. -/
import Derived.Test.YtdoilejecjaldaaGreatHM15
import Derived.Test.YtdoilejecjaldaaGreatHM44
namespace Go.Proofs.YtdoilejecjaldaaGreat
set_option linter.unusedVariables false
open Go.ChangeShapes Go.WideShapes Go.ChangeAt Go.RowKit
section
variable {P:Program} {ops:Array Oper} {b:Act} {w:World} {i:Nat}
end
theorem Sl.take{α:Type}{enc:α→List Value}{w:World}{a:Option Addr}{l:List α}(h:Sl enc w a l)(k:Nat):Sl enc w a (l.take k):=fun i x hx=>h i x (by
 have hl:=(List.getElem?_eq_some_iff.1 hx).1
 rw[List.length_take]at hl
 rwa[List.getElem?_take_of_lt (by omega)]at hx)
theorem Sl.from2{α:Type}{enc:α→List Value}{w:World}{bb o c j size:Nat}{l:List α}(h:Sl enc w (some ⟨bb,o,none⟩) l)(hc:l.length≤c)(hs:∀ y,(enc y).length=size):Sl enc w (some ⟨bb,if c=j then o else o+j*size,none⟩) (l.drop j):=fun i x hx=>by
 rw[List.getElem?_drop]at hx
 have hl:=(List.getElem?_eq_some_iff.1 hx).1
 obtain⟨b,off,h1,h2,h3⟩:=h (j+i) x hx
 cases h1
 refine⟨bb,o+j*size,by rw[if_neg (by omega)],h2,fun q v hv=>?_⟩
 have:=h3 q v hv
 rw[hs,Nat.add_mul]at this
 rw[hs,show o+j*size+i*size+q=o+(j*size+i*size)+q by omega];exact this
section
variable {P:Program} {ops:Array Oper} {C:World→Prop} {Q:Act→Prop} {o:Oper} {rest:List Oper} {a:Act}
end
