/- The contracts of marks in slices of flat elements. No condition but on lengths and numbers. -/
import Derived.Test.YtbaffippdifbpaaGreatSM16
import Derived.Test.YtbaffippdifbpaaGreatSM9
namespace Go.Proofs.YtbaffippdifbpaaGreat
set_option linter.unusedVariables false
open Go.ChangeShapes Go.WideShapes Go.ChangeAt Go.RowKit
def mkTWaiting(k0:Int)(i:Nat):TWaiting:=(⟨k0+i*5,k0+i*5+1,k0+i*5+1+1,k0+i*5+1+1+1,k0+i*5+1+1+1+1⟩:TWaiting)
def mkTLimit(k0:Int)(i:Nat):TLimit:=(⟨k0+i*3,k0+i*3+1,k0+i*3+1+1⟩:TLimit)
def mkTDone(k0:Int)(i:Nat):TDone:=(⟨k0+i*3,k0+i*3+1,k0+i*3+1+1⟩:TDone)
def mkTFlight(k0:Int)(i:Nat):TFlight:=⟨k0+i*2,markTx (k0+i*2+1)⟩
def mkTSent(k0:Int)(i:Nat):TSent:=⟨k0+i*2,markTx (k0+i*2+1)⟩
def mkTRecord(k0:Int)(i:Nat):TRecord:=⟨k0+i*4,k0+i*4+1,k0+i*4+1+1,markTx (k0+i*4+1+1+1)⟩
end Go.Proofs.YtbaffippdifbpaaGreat
