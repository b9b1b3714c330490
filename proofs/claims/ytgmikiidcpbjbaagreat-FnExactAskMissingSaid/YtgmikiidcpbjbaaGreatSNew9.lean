/- The contracts of what draws a mission that begins: l09New. No condition. -/
import Derived.Test.YtgmikiidcpbjbaaGreatSNewS
import Derived.Test.YtgmikiidcpbjbaaGreatSM21
import Derived.Test.YtgmikiidcpbjbaaGreatSM46
namespace Go.Proofs.YtgmikiidcpbjbaaGreat
set_option linter.unusedVariables false
open Go.ChangeShapes Go.WideShapes Go.ChangeAt Go.RowKit
def CurR(p:Nat)(a:Option Addr)(n c:Nat)(l:List Int):World→World→Prop:=fun u v=>u.grownBy v (some p)∧((∃ i,IsCur u p a n c l i)→∃ i,IsCur v p a n c l i)
theorem CurR.refl{p:Nat}{a:Option Addr}{n c:Nat}{l:List Int}(w:World):CurR p a n c l w w:=⟨grownBy_refl _ _,id⟩
theorem CurR.trans{p:Nat}{a:Option Addr}{n c:Nat}{l:List Int}(u v w:World)(h:CurR p a n c l u v)(k:CurR p a n c l v w):CurR p a n c l u w:=⟨grownBy_trans h.1 k.1,fun x=>k.2 (h.2 x)⟩
theorem CurR.drew{p:Nat}{a:Option Addr}{n c:Nat}{l:List Int}(w W:World)(h:CurR p a n c l w.drew W):CurR p a n c l w W :=
 ⟨⟨h.1.os,h.1.tape,h.1.output,h.1.size,h.1.block⟩,fun⟨i,x⟩=>h.2 ⟨i,x.drew⟩⟩
section
variable {p B:Nat} {a:Option Addr} {n c:Nat} {l:List Int}
end
theorem chain0{R:World→World→Prop}{Fs:EntL R}{w:World}{G:(Nat→Value)→Prop}{val:Nat→Value}(h:G val):chain Fs w G [] val:=h
theorem chain1{R:World→World→Prop}{Fs:EntL R}{w:World}{G:(Nat→Value)→Prop}{val:Nat→Value}{i:Nat}{r:List Nat}(h:∀ v,(entAt Fs i).p v w→chain Fs w G r (upd i v val)):chain Fs w G (i::r) val:=h
end Go.Proofs.YtgmikiidcpbjbaaGreat
