/-
  No cell of these rows narrows 'for every input' (looked for: loops, veiled, ifaces, maps, wideKeys, modest, calm, conditions, laid).
  DERIVED. THE GIVEN ROWS OF THIS SEAT. 4 by the template 'for every input the law returns true; each argument reads behind the call as it read before'; 0 by the template 'total and deterministic' (their statements: YtjffbpdippbfkaaTotals.lean).
  GIVEN WITH THE SEED: the statements are not yours to turn. If you find one false, say at which input.
  Laid BY PROGRAM, IN A SANDBOX (cutbox-rows.mjs): the forced cells as the released guide's own fill.sh prints them over the translation 173bf53b1c9ceb5d… (all of the seat's roots in one cut). By AI agents, Wed Nov 11 2026. No macro, syntax, notation, axiom, sorry.
-/
import Derived.Test.YtjffbpdippbfkaaChecked
import GoSem.Claim
import GoSem.ClaimJoined
import GoSem.ClaimMapViews
import Derived.JoinedTies
import Derived.KernelRfl
namespace Go.Proofs.Ytjffbpdippbfkaa
/- THE CELL 'sum', in the pinned program and in every row, IS THE sha256 OF THE DUMP (.gsa) THAT YtjffbpdippbfkaaProg.lean LOADS. Nothing in Lean hashes anything: it is a label: what it is worth is what the hold of that sum in a sandbox is worth. -/
noncomputable def Try.pinned : Pinned := { name := "ytjffbpdippbfkaa", sum := "173bf53b1c9ceb5d780838b2280bb05d5f25e61e4d293e74cb781c3d9698ec44", checked := Try.checked }
namespace Rows
def none {H : Type} : Left H := { results := [], args := [] }

/-- 'laws.FnFilesWhole': WHATEVER THE INPUT: true; the input reads as it did. -/
def fnFilesWholeSpec : ChangeSpec := { name := "fnFilesWhole", fn := fun _ => fun
  | [d] => { results := [.lit (.bool true)], args := [d] }
  | _ => none }
def fnFilesWholeRow : OpenClaim := { program := "ytjffbpdippbfkaa", sum := "173bf53b1c9ceb5d780838b2280bb05d5f25e61e4d293e74cb781c3d9698ec44", func := "loop.example/g03316/laws.FnFilesWhole", spec := "fnFilesWhole", apart := false }
def FnFilesWholeSaid : Prop := fnFilesWholeRow.holds Try.pinned (OpenSpec.ofChange fnFilesWholeSpec)

/-- ITS FALSE NEIGHBOUR: 'it returns false'. Refute it at one input. -/
def fnFilesWholeWrong : ChangeSpec := { name := "fnFilesWhole", fn := fun _ => fun
  | [d] => { results := [.lit (.bool false)], args := [d] }
  | _ => none }
def FnFilesWholeWrongFalsely : Prop := fnFilesWholeRow.holds Try.pinned (OpenSpec.ofChange fnFilesWholeWrong)

/-- 'laws.FnExactHearMissing': WHATEVER THE INPUT: true; the input reads as it did. -/
def fnExactHearMissingSpec : ChangeSpec := { name := "fnExactHearMissing", fn := fun _ => fun
  | [d1, d2, d3] => { results := [.lit (.bool true)], args := [d1, d2, d3] }
  | _ => none }
def fnExactHearMissingRow : OpenClaim := { program := "ytjffbpdippbfkaa", sum := "173bf53b1c9ceb5d780838b2280bb05d5f25e61e4d293e74cb781c3d9698ec44", func := "loop.example/g03316/laws.FnExactHearMissing", spec := "fnExactHearMissing", apart := false }
def FnExactHearMissingSaid : Prop := fnExactHearMissingRow.holds Try.pinned (OpenSpec.ofChange fnExactHearMissingSpec)

/-- ITS FALSE NEIGHBOUR: 'it returns false'. Refute it at one input. -/
def fnExactHearMissingWrong : ChangeSpec := { name := "fnExactHearMissing", fn := fun _ => fun
  | [d1, d2, d3] => { results := [.lit (.bool false)], args := [d1, d2, d3] }
  | _ => none }
def FnExactHearMissingWrongFalsely : Prop := fnExactHearMissingRow.holds Try.pinned (OpenSpec.ofChange fnExactHearMissingWrong)

/-- 'laws.FnExactHearPart': WHATEVER THE INPUT: true; the input reads as it did. -/
def fnExactHearPartSpec : ChangeSpec := { name := "fnExactHearPart", fn := fun _ => fun
  | [d1, d2] => { results := [.lit (.bool true)], args := [d1, d2] }
  | _ => none }
def fnExactHearPartRow : OpenClaim := { program := "ytjffbpdippbfkaa", sum := "173bf53b1c9ceb5d780838b2280bb05d5f25e61e4d293e74cb781c3d9698ec44", func := "loop.example/g03316/laws.FnExactHearPart", spec := "fnExactHearPart", apart := false }
def FnExactHearPartSaid : Prop := fnExactHearPartRow.holds Try.pinned (OpenSpec.ofChange fnExactHearPartSpec)

/-- ITS FALSE NEIGHBOUR: 'it returns false'. Refute it at one input. -/
def fnExactHearPartWrong : ChangeSpec := { name := "fnExactHearPart", fn := fun _ => fun
  | [d1, d2] => { results := [.lit (.bool false)], args := [d1, d2] }
  | _ => none }
def FnExactHearPartWrongFalsely : Prop := fnExactHearPartRow.holds Try.pinned (OpenSpec.ofChange fnExactHearPartWrong)

/-- 'laws.FnExactNextPart': WHATEVER THE INPUT: true; the input reads as it did. -/
def fnExactNextPartSpec : ChangeSpec := { name := "fnExactNextPart", fn := fun _ => fun
  | [d] => { results := [.lit (.bool true)], args := [d] }
  | _ => none }
def fnExactNextPartRow : OpenClaim := { program := "ytjffbpdippbfkaa", sum := "173bf53b1c9ceb5d780838b2280bb05d5f25e61e4d293e74cb781c3d9698ec44", func := "loop.example/g03316/laws.FnExactNextPart", spec := "fnExactNextPart", apart := false }
def FnExactNextPartSaid : Prop := fnExactNextPartRow.holds Try.pinned (OpenSpec.ofChange fnExactNextPartSpec)

/-- ITS FALSE NEIGHBOUR: 'it returns false'. Refute it at one input. -/
def fnExactNextPartWrong : ChangeSpec := { name := "fnExactNextPart", fn := fun _ => fun
  | [d] => { results := [.lit (.bool false)], args := [d] }
  | _ => none }
def FnExactNextPartWrongFalsely : Prop := fnExactNextPartRow.holds Try.pinned (OpenSpec.ofChange fnExactNextPartWrong)

/- THE SECOND FORM. 'bulk': how many values and letters a reading holds, each counted each time it is reached (what is shared counts as often as it is met; a slice's spare places count too). A statement '..UptoSaid' is the law's where the arguments, and the package variables that the reading takes, are together of bulk at most 1048576: NARROWER than '..Said'. Prove '..Said' where nothing that the law and all that it calls make is longer than what came in: it says more and counts as full. Else prove '..UptoSaid'. A law counts once. -/
mutual
def uptoBulk {H : Type} : DataW H → Nat
  | .lit (.string bytes) => bytes.length + 1
  | .lit _ => 1
  | .nil => 1
  | .ptr d => uptoBulk d + 1
  | .slice elems spare => uptoBulkAll elems + uptoBulkAll spare + 1
  | .agg parts => uptoBulkAll parts + 1
  | .iface _ d => uptoBulk d + 1
  | .map entries => uptoBulkEntries entries + 1
  | .held _ => 1
def uptoBulkAll {H : Type} : List (DataW H) → Nat
  | [] => 0
  | d :: r => uptoBulk d + uptoBulkAll r
def uptoBulkEntries {H : Type} : List (Lit × DataW H) → Nat
  | [] => 0
  | x :: r => uptoBulkEntry x + uptoBulkEntries r
def uptoBulkEntry {H : Type} : Lit × DataW H → Nat
  | (.string bytes, d) => bytes.length + uptoBulk d + 1
  | (_, d) => uptoBulk d + 1
 end
def uptoSmall : (H : Type) → List (DataW H) → Bool := fun _ ds => decide (uptoBulkAll ds ≤ 1048576)
def OpenSpec.upto (s : _root_.Go.ChangeSpec) : _root_.Go.OpenSpec := { _root_.Go.OpenSpec.ofChange s with cond := some uptoSmall }

/-- 'laws.FnFilesWhole', WHERE WHAT IT READS IS OF BULK AT MOST 1048576: true; the input reads as it did. -/
def fnFilesWholeUptoRow : OpenClaim := { program := "ytjffbpdippbfkaa", sum := "173bf53b1c9ceb5d780838b2280bb05d5f25e61e4d293e74cb781c3d9698ec44", func := "loop.example/g03316/laws.FnFilesWhole", spec := "fnFilesWhole", apart := false, narrowed := true }
def FnFilesWholeUptoSaid : Prop := fnFilesWholeUptoRow.holds Try.pinned (OpenSpec.upto fnFilesWholeSpec)

/-- 'laws.FnExactHearMissing', WHERE WHAT IT READS IS OF BULK AT MOST 1048576: true; the input reads as it did. -/
def fnExactHearMissingUptoRow : OpenClaim := { program := "ytjffbpdippbfkaa", sum := "173bf53b1c9ceb5d780838b2280bb05d5f25e61e4d293e74cb781c3d9698ec44", func := "loop.example/g03316/laws.FnExactHearMissing", spec := "fnExactHearMissing", apart := false, narrowed := true }
def FnExactHearMissingUptoSaid : Prop := fnExactHearMissingUptoRow.holds Try.pinned (OpenSpec.upto fnExactHearMissingSpec)

/-- 'laws.FnExactHearPart', WHERE WHAT IT READS IS OF BULK AT MOST 1048576: true; the input reads as it did. -/
def fnExactHearPartUptoRow : OpenClaim := { program := "ytjffbpdippbfkaa", sum := "173bf53b1c9ceb5d780838b2280bb05d5f25e61e4d293e74cb781c3d9698ec44", func := "loop.example/g03316/laws.FnExactHearPart", spec := "fnExactHearPart", apart := false, narrowed := true }
def FnExactHearPartUptoSaid : Prop := fnExactHearPartUptoRow.holds Try.pinned (OpenSpec.upto fnExactHearPartSpec)

/-- 'laws.FnExactNextPart', WHERE WHAT IT READS IS OF BULK AT MOST 1048576: true; the input reads as it did. -/
def fnExactNextPartUptoRow : OpenClaim := { program := "ytjffbpdippbfkaa", sum := "173bf53b1c9ceb5d780838b2280bb05d5f25e61e4d293e74cb781c3d9698ec44", func := "loop.example/g03316/laws.FnExactNextPart", spec := "fnExactNextPart", apart := false, narrowed := true }
def FnExactNextPartUptoSaid : Prop := fnExactNextPartUptoRow.holds Try.pinned (OpenSpec.upto fnExactNextPartSpec)

end Rows
end Go.Proofs.Ytjffbpdippbfkaa
