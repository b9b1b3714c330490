/- The contract of MissingOf, the reference's. No condition but on lengths. -/
import Derived.Test.YtjffbpdippbfkaaFileT
namespace Go.Proofs.Ytjffbpdippbfkaa
set_option linter.unusedVariables false
open Go.ChangeShapes Go.WideShapes Go.ChangeAt Go.RowKit

/-! ### What is missing -/
def missGo (i : Nat) (cnt : Nat) : List ByteArray → List Int
  | [] => []
  | s :: r => if cnt = 0 then [] else if (s.toList == []) = true then (i : Int) :: missGo (i + 1) (cnt - 1) r else missGo (i + 1) cnt r
def missL (f z k : Int) (p : List ByteArray) : List Int := if (fileInOk f z k p && !(z == -1)) = true then missGo 0 20 (segsIn z p) else []
theorem missGo_none : ∀ (p : List ByteArray) (i cnt : Nat), (missGo i (cnt + 1) p = []) ↔ noEmpty p = true
  | [], i, cnt => by simp [missGo, noEmpty]
  | s :: r, i, cnt => by
    have ih := missGo_none r (i + 1) cnt
    rw [missGo, if_neg (by omega), noEmpty_cons]
    cases h : (s.toList == [])
    · simpa using ih
    · simp
end Go.Proofs.Ytjffbpdippbfkaa
