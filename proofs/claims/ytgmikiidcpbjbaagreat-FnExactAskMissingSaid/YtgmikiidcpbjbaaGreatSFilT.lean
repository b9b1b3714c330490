/- The contracts of FilesTrue, both sides. No condition but on sizes. -/
import Derived.Test.YtgmikiidcpbjbaaGreatSM21
namespace Go.Proofs.YtgmikiidcpbjbaaGreat
set_option linter.unusedVariables false
open Go.ChangeShapes Go.WideShapes Go.ChangeAt Go.RowKit
theorem RdS.atB{B:Nat}{w:World}{a:Option Addr}{c:Nat}{l:List Bool}(h:RdS B w a c l){k:Nat}(hk:k<l.length) :
  ∃ b off,a=some ⟨b,off,none⟩∧LtN b w.heap.size∧(∀ (W:World) [Grows w W],W.cell? ⟨b,off+k,none⟩=some (.bool (l.getD k false))):=by
 obtain⟨b,off,x,h0,h1,h2,h3⟩:=h.atBool hk
 have:l.getD k false=x:=by
  have:=congrArg (fun m=>m[0]?) h2.out
  simp only[List.getElem?_drop,Nat.add_zero,List.getElem?_cons_zero]at this
  simp[this]
 exact⟨b,off,h0,h1,by rw[this];exact h3⟩
end Go.Proofs.YtgmikiidcpbjbaaGreat
