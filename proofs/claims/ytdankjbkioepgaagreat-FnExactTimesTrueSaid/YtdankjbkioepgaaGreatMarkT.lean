/- The contracts on marks that are texts. No condition but on numbers. -/
import Derived.Test.YtdankjbkioepgaaGreatStr
import Derived.Test.YtdankjbkioepgaaGreatWord
import Derived.Test.YtdankjbkioepgaaGreatMark
namespace Go.Proofs.YtdankjbkioepgaaGreat
set_option linter.unusedVariables false
open Go.ChangeShapes Go.WideShapes Go.ChangeAt Go.RowKit

/-- The decimal digits of a number, ahead of what stands. -/
def digs (k : Nat) (acc : ByteArray) : ByteArray := if h : k = 0 then acc else digs (k / 10) (strOfNums [48 + (k : Int) % 10] ++ acc)
termination_by k
decreasing_by omega
/-- The mark of a number. -/
def markTx (k : Int) : ByteArray := if k ≤ 0 then ⟨#[109, 48]⟩ else ⟨#[109]⟩ ++ digs k.toNat ⟨#[]⟩

def mkStr (k0 : Int) (i : Nat) : ByteArray := markTx (k0 + i)
theorem grownBy_laterR {w : World} (x : Later w) (row : Option Nat) : w.grownBy x.w row := ⟨x.h.os, x.h.tape, x.h.output, x.h.size, fun i hi _ => x.h.block i hi⟩
end Go.Proofs.YtdankjbkioepgaaGreat
