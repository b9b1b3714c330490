/-
  No cell of these rows narrows 'for every input' (looked for: loops, veiled, ifaces, maps, wideKeys, modest, calm, conditions, laid).
  DERIVED. THE GIVEN ROWS OF THIS SEAT. 12 by the template 'for every input the law returns true; each argument reads behind the call as it read before'; 0 by the template 'total and deterministic' (their statements: YtjhchiabifnjaaaTotals.lean).
  GIVEN WITH THE SEED: the statements are not yours to turn. If you find one false, say at which input.
  Laid BY PROGRAM, IN A SANDBOX (cutbox-rows.mjs): the forced cells as the released guide's own fill.sh prints them over the translation d65e78ef65d95e0f… (all of the seat's roots in one cut). By AI agents, Wed Nov 11 2026. No macro, syntax, notation, axiom, sorry.
-/
import Derived.Test.YtjhchiabifnjaaaChecked
import GoSem.Claim
import GoSem.ClaimJoined
import GoSem.ClaimMapViews
import Derived.JoinedTies
import Derived.KernelRfl
namespace Go.Proofs.Ytjhchiabifnjaaa
/- THE CELL 'sum', in the pinned program and in every row, IS THE sha256 OF THE DUMP (.gsa) THAT YtjhchiabifnjaaaProg.lean LOADS. Nothing in Lean hashes anything: it is a label: what it is worth is what the hold of that sum in a sandbox is worth. -/
noncomputable def Try.pinned : Pinned := { name := "ytjhchiabifnjaaa", sum := "d65e78ef65d95e0f212f1cdb32fc5a1bca4a4358bfada59faf00ba2923e3d1f6", checked := Try.checked }
namespace Rows
def none {H : Type} : Left H := { results := [], args := [] }

/-- 'laws.FnExactDriftOk': WHATEVER THE INPUT: true; the input reads as it did. -/
def fnExactDriftOkSpec : ChangeSpec := { name := "fnExactDriftOk", fn := fun _ => fun
  | [d] => { results := [.lit (.bool true)], args := [d] }
  | _ => none }
def fnExactDriftOkRow : OpenClaim := { program := "ytjhchiabifnjaaa", sum := "d65e78ef65d95e0f212f1cdb32fc5a1bca4a4358bfada59faf00ba2923e3d1f6", func := "loop.example/g03316/laws.FnExactDriftOk", spec := "fnExactDriftOk", apart := false }
def FnExactDriftOkSaid : Prop := fnExactDriftOkRow.holds Try.pinned (OpenSpec.ofChange fnExactDriftOkSpec)

/-- ITS FALSE NEIGHBOUR: 'it returns false'. Refute it at one input. -/
def fnExactDriftOkWrong : ChangeSpec := { name := "fnExactDriftOk", fn := fun _ => fun
  | [d] => { results := [.lit (.bool false)], args := [d] }
  | _ => none }
def FnExactDriftOkWrongFalsely : Prop := fnExactDriftOkRow.holds Try.pinned (OpenSpec.ofChange fnExactDriftOkWrong)

/-- 'laws.FnExactOrbitOk': WHATEVER THE INPUT: true; the input reads as it did. -/
def fnExactOrbitOkSpec : ChangeSpec := { name := "fnExactOrbitOk", fn := fun _ => fun
  | [d] => { results := [.lit (.bool true)], args := [d] }
  | _ => none }
def fnExactOrbitOkRow : OpenClaim := { program := "ytjhchiabifnjaaa", sum := "d65e78ef65d95e0f212f1cdb32fc5a1bca4a4358bfada59faf00ba2923e3d1f6", func := "loop.example/g03316/laws.FnExactOrbitOk", spec := "fnExactOrbitOk", apart := false }
def FnExactOrbitOkSaid : Prop := fnExactOrbitOkRow.holds Try.pinned (OpenSpec.ofChange fnExactOrbitOkSpec)

/-- ITS FALSE NEIGHBOUR: 'it returns false'. Refute it at one input. -/
def fnExactOrbitOkWrong : ChangeSpec := { name := "fnExactOrbitOk", fn := fun _ => fun
  | [d] => { results := [.lit (.bool false)], args := [d] }
  | _ => none }
def FnExactOrbitOkWrongFalsely : Prop := fnExactOrbitOkRow.holds Try.pinned (OpenSpec.ofChange fnExactOrbitOkWrong)

/-- 'laws.FnExactVisible': WHATEVER THE INPUT: true; the input reads as it did. -/
def fnExactVisibleSpec : ChangeSpec := { name := "fnExactVisible", fn := fun _ => fun
  | [d1, d2] => { results := [.lit (.bool true)], args := [d1, d2] }
  | _ => none }
def fnExactVisibleRow : OpenClaim := { program := "ytjhchiabifnjaaa", sum := "d65e78ef65d95e0f212f1cdb32fc5a1bca4a4358bfada59faf00ba2923e3d1f6", func := "loop.example/g03316/laws.FnExactVisible", spec := "fnExactVisible", apart := false }
def FnExactVisibleSaid : Prop := fnExactVisibleRow.holds Try.pinned (OpenSpec.ofChange fnExactVisibleSpec)

/-- ITS FALSE NEIGHBOUR: 'it returns false'. Refute it at one input. -/
def fnExactVisibleWrong : ChangeSpec := { name := "fnExactVisible", fn := fun _ => fun
  | [d1, d2] => { results := [.lit (.bool false)], args := [d1, d2] }
  | _ => none }
def FnExactVisibleWrongFalsely : Prop := fnExactVisibleRow.holds Try.pinned (OpenSpec.ofChange fnExactVisibleWrong)

/-- 'laws.FnExactPassOf': WHATEVER THE INPUT: true; the input reads as it did. -/
def fnExactPassOfSpec : ChangeSpec := { name := "fnExactPassOf", fn := fun _ => fun
  | [d1, d2] => { results := [.lit (.bool true)], args := [d1, d2] }
  | _ => none }
def fnExactPassOfRow : OpenClaim := { program := "ytjhchiabifnjaaa", sum := "d65e78ef65d95e0f212f1cdb32fc5a1bca4a4358bfada59faf00ba2923e3d1f6", func := "loop.example/g03316/laws.FnExactPassOf", spec := "fnExactPassOf", apart := false }
def FnExactPassOfSaid : Prop := fnExactPassOfRow.holds Try.pinned (OpenSpec.ofChange fnExactPassOfSpec)

/-- ITS FALSE NEIGHBOUR: 'it returns false'. Refute it at one input. -/
def fnExactPassOfWrong : ChangeSpec := { name := "fnExactPassOf", fn := fun _ => fun
  | [d1, d2] => { results := [.lit (.bool false)], args := [d1, d2] }
  | _ => none }
def FnExactPassOfWrongFalsely : Prop := fnExactPassOfRow.holds Try.pinned (OpenSpec.ofChange fnExactPassOfWrong)

/-- 'laws.FnExactBoardTime': WHATEVER THE INPUT: true; the input reads as it did. -/
def fnExactBoardTimeSpec : ChangeSpec := { name := "fnExactBoardTime", fn := fun _ => fun
  | [d1, d2] => { results := [.lit (.bool true)], args := [d1, d2] }
  | _ => none }
def fnExactBoardTimeRow : OpenClaim := { program := "ytjhchiabifnjaaa", sum := "d65e78ef65d95e0f212f1cdb32fc5a1bca4a4358bfada59faf00ba2923e3d1f6", func := "loop.example/g03316/laws.FnExactBoardTime", spec := "fnExactBoardTime", apart := false }
def FnExactBoardTimeSaid : Prop := fnExactBoardTimeRow.holds Try.pinned (OpenSpec.ofChange fnExactBoardTimeSpec)

/-- ITS FALSE NEIGHBOUR: 'it returns false'. Refute it at one input. -/
def fnExactBoardTimeWrong : ChangeSpec := { name := "fnExactBoardTime", fn := fun _ => fun
  | [d1, d2] => { results := [.lit (.bool false)], args := [d1, d2] }
  | _ => none }
def FnExactBoardTimeWrongFalsely : Prop := fnExactBoardTimeRow.holds Try.pinned (OpenSpec.ofChange fnExactBoardTimeWrong)

/-- 'laws.FnExactVisibleCount': WHATEVER THE INPUT: true; the input reads as it did. -/
def fnExactVisibleCountSpec : ChangeSpec := { name := "fnExactVisibleCount", fn := fun _ => fun
  | [d1, d2, d3] => { results := [.lit (.bool true)], args := [d1, d2, d3] }
  | _ => none }
def fnExactVisibleCountRow : OpenClaim := { program := "ytjhchiabifnjaaa", sum := "d65e78ef65d95e0f212f1cdb32fc5a1bca4a4358bfada59faf00ba2923e3d1f6", func := "loop.example/g03316/laws.FnExactVisibleCount", spec := "fnExactVisibleCount", apart := false }
def FnExactVisibleCountSaid : Prop := fnExactVisibleCountRow.holds Try.pinned (OpenSpec.ofChange fnExactVisibleCountSpec)

/-- ITS FALSE NEIGHBOUR: 'it returns false'. Refute it at one input. -/
def fnExactVisibleCountWrong : ChangeSpec := { name := "fnExactVisibleCount", fn := fun _ => fun
  | [d1, d2, d3] => { results := [.lit (.bool false)], args := [d1, d2, d3] }
  | _ => none }
def FnExactVisibleCountWrongFalsely : Prop := fnExactVisibleCountRow.holds Try.pinned (OpenSpec.ofChange fnExactVisibleCountWrong)

/-- 'laws.FnExactNextVisible': WHATEVER THE INPUT: true; the input reads as it did. -/
def fnExactNextVisibleSpec : ChangeSpec := { name := "fnExactNextVisible", fn := fun _ => fun
  | [d1, d2] => { results := [.lit (.bool true)], args := [d1, d2] }
  | _ => none }
def fnExactNextVisibleRow : OpenClaim := { program := "ytjhchiabifnjaaa", sum := "d65e78ef65d95e0f212f1cdb32fc5a1bca4a4358bfada59faf00ba2923e3d1f6", func := "loop.example/g03316/laws.FnExactNextVisible", spec := "fnExactNextVisible", apart := false }
def FnExactNextVisibleSaid : Prop := fnExactNextVisibleRow.holds Try.pinned (OpenSpec.ofChange fnExactNextVisibleSpec)

/-- ITS FALSE NEIGHBOUR: 'it returns false'. Refute it at one input. -/
def fnExactNextVisibleWrong : ChangeSpec := { name := "fnExactNextVisible", fn := fun _ => fun
  | [d1, d2] => { results := [.lit (.bool false)], args := [d1, d2] }
  | _ => none }
def FnExactNextVisibleWrongFalsely : Prop := fnExactNextVisibleRow.holds Try.pinned (OpenSpec.ofChange fnExactNextVisibleWrong)

/-- 'laws.FnExactTicksDue': WHATEVER THE INPUT: true; the input reads as it did. -/
def fnExactTicksDueSpec : ChangeSpec := { name := "fnExactTicksDue", fn := fun _ => fun
  | [d1, d2] => { results := [.lit (.bool true)], args := [d1, d2] }
  | _ => none }
def fnExactTicksDueRow : OpenClaim := { program := "ytjhchiabifnjaaa", sum := "d65e78ef65d95e0f212f1cdb32fc5a1bca4a4358bfada59faf00ba2923e3d1f6", func := "loop.example/g03316/laws.FnExactTicksDue", spec := "fnExactTicksDue", apart := false }
def FnExactTicksDueSaid : Prop := fnExactTicksDueRow.holds Try.pinned (OpenSpec.ofChange fnExactTicksDueSpec)

/-- ITS FALSE NEIGHBOUR: 'it returns false'. Refute it at one input. -/
def fnExactTicksDueWrong : ChangeSpec := { name := "fnExactTicksDue", fn := fun _ => fun
  | [d1, d2] => { results := [.lit (.bool false)], args := [d1, d2] }
  | _ => none }
def FnExactTicksDueWrongFalsely : Prop := fnExactTicksDueRow.holds Try.pinned (OpenSpec.ofChange fnExactTicksDueWrong)

/-- 'laws.FnExactSlotAt': WHATEVER THE INPUT: true; the input reads as it did. -/
def fnExactSlotAtSpec : ChangeSpec := { name := "fnExactSlotAt", fn := fun _ => fun
  | [d1, d2] => { results := [.lit (.bool true)], args := [d1, d2] }
  | _ => none }
def fnExactSlotAtRow : OpenClaim := { program := "ytjhchiabifnjaaa", sum := "d65e78ef65d95e0f212f1cdb32fc5a1bca4a4358bfada59faf00ba2923e3d1f6", func := "loop.example/g03316/laws.FnExactSlotAt", spec := "fnExactSlotAt", apart := false }
def FnExactSlotAtSaid : Prop := fnExactSlotAtRow.holds Try.pinned (OpenSpec.ofChange fnExactSlotAtSpec)

/-- ITS FALSE NEIGHBOUR: 'it returns false'. Refute it at one input. -/
def fnExactSlotAtWrong : ChangeSpec := { name := "fnExactSlotAt", fn := fun _ => fun
  | [d1, d2] => { results := [.lit (.bool false)], args := [d1, d2] }
  | _ => none }
def FnExactSlotAtWrongFalsely : Prop := fnExactSlotAtRow.holds Try.pinned (OpenSpec.ofChange fnExactSlotAtWrong)

/-- 'laws.FnExactSlotsOf': WHATEVER THE INPUT: true; the input reads as it did. -/
def fnExactSlotsOfSpec : ChangeSpec := { name := "fnExactSlotsOf", fn := fun _ => fun
  | [d1, d2] => { results := [.lit (.bool true)], args := [d1, d2] }
  | _ => none }
def fnExactSlotsOfRow : OpenClaim := { program := "ytjhchiabifnjaaa", sum := "d65e78ef65d95e0f212f1cdb32fc5a1bca4a4358bfada59faf00ba2923e3d1f6", func := "loop.example/g03316/laws.FnExactSlotsOf", spec := "fnExactSlotsOf", apart := false }
def FnExactSlotsOfSaid : Prop := fnExactSlotsOfRow.holds Try.pinned (OpenSpec.ofChange fnExactSlotsOfSpec)

/-- ITS FALSE NEIGHBOUR: 'it returns false'. Refute it at one input. -/
def fnExactSlotsOfWrong : ChangeSpec := { name := "fnExactSlotsOf", fn := fun _ => fun
  | [d1, d2] => { results := [.lit (.bool false)], args := [d1, d2] }
  | _ => none }
def FnExactSlotsOfWrongFalsely : Prop := fnExactSlotsOfRow.holds Try.pinned (OpenSpec.ofChange fnExactSlotsOfWrong)

/-- 'laws.FnClocks': WHATEVER THE INPUT: true; the input reads as it did. -/
def fnClocksSpec : ChangeSpec := { name := "fnClocks", fn := fun _ => fun
  | [d] => { results := [.lit (.bool true)], args := [d] }
  | _ => none }
def fnClocksRow : OpenClaim := { program := "ytjhchiabifnjaaa", sum := "d65e78ef65d95e0f212f1cdb32fc5a1bca4a4358bfada59faf00ba2923e3d1f6", func := "loop.example/g03316/laws.FnClocks", spec := "fnClocks", apart := false }
def FnClocksSaid : Prop := fnClocksRow.holds Try.pinned (OpenSpec.ofChange fnClocksSpec)

/-- ITS FALSE NEIGHBOUR: 'it returns false'. Refute it at one input. -/
def fnClocksWrong : ChangeSpec := { name := "fnClocks", fn := fun _ => fun
  | [d] => { results := [.lit (.bool false)], args := [d] }
  | _ => none }
def FnClocksWrongFalsely : Prop := fnClocksRow.holds Try.pinned (OpenSpec.ofChange fnClocksWrong)

/-- 'laws.FnExactPairsOk': WHATEVER THE INPUT: true; the input reads as it did. -/
def fnExactPairsOkSpec : ChangeSpec := { name := "fnExactPairsOk", fn := fun _ => fun
  | [d] => { results := [.lit (.bool true)], args := [d] }
  | _ => none }
def fnExactPairsOkRow : OpenClaim := { program := "ytjhchiabifnjaaa", sum := "d65e78ef65d95e0f212f1cdb32fc5a1bca4a4358bfada59faf00ba2923e3d1f6", func := "loop.example/g03316/laws.FnExactPairsOk", spec := "fnExactPairsOk", apart := false }
def FnExactPairsOkSaid : Prop := fnExactPairsOkRow.holds Try.pinned (OpenSpec.ofChange fnExactPairsOkSpec)

/-- ITS FALSE NEIGHBOUR: 'it returns false'. Refute it at one input. -/
def fnExactPairsOkWrong : ChangeSpec := { name := "fnExactPairsOk", fn := fun _ => fun
  | [d] => { results := [.lit (.bool false)], args := [d] }
  | _ => none }
def FnExactPairsOkWrongFalsely : Prop := fnExactPairsOkRow.holds Try.pinned (OpenSpec.ofChange fnExactPairsOkWrong)

/- THE SECOND FORM. 'bulk': how many values and letters a reading holds, each counted each time it is reached (what is shared counts as often as it is met; a slice's spare places count too). A statement '..UptoSaid' is the law's where the arguments, and the package variables that the reading takes, are together of bulk at most 1048576: NARROWER than '..Said'. Prove '..Said' where nothing that the law and all that it calls make is longer than what came in: it says more and counts as full. Else prove '..UptoSaid'. A law counts once. -/
mutual
def uptoBulk {H : Type} : DataW H → Nat
  | .lit (.string bytes) => bytes.length + 1
  | .lit _ => 1
  | .nil => 1
  | .ptr d => uptoBulk d + 1
  | .slice elems spare => uptoBulkAll elems + uptoBulkAll spare + 1
  | .agg parts => uptoBulkAll parts + 1
  | .iface _ d => uptoBulk d + 1
  | .map entries => uptoBulkEntries entries + 1
  | .held _ => 1
def uptoBulkAll {H : Type} : List (DataW H) → Nat
  | [] => 0
  | d :: r => uptoBulk d + uptoBulkAll r
def uptoBulkEntries {H : Type} : List (Lit × DataW H) → Nat
  | [] => 0
  | x :: r => uptoBulkEntry x + uptoBulkEntries r
def uptoBulkEntry {H : Type} : Lit × DataW H → Nat
  | (.string bytes, d) => bytes.length + uptoBulk d + 1
  | (_, d) => uptoBulk d + 1
 end
def uptoSmall : (H : Type) → List (DataW H) → Bool := fun _ ds => decide (uptoBulkAll ds ≤ 1048576)
def OpenSpec.upto (s : _root_.Go.ChangeSpec) : _root_.Go.OpenSpec := { _root_.Go.OpenSpec.ofChange s with cond := some uptoSmall }

/-- 'laws.FnExactDriftOk', WHERE WHAT IT READS IS OF BULK AT MOST 1048576: true; the input reads as it did. -/
def fnExactDriftOkUptoRow : OpenClaim := { program := "ytjhchiabifnjaaa", sum := "d65e78ef65d95e0f212f1cdb32fc5a1bca4a4358bfada59faf00ba2923e3d1f6", func := "loop.example/g03316/laws.FnExactDriftOk", spec := "fnExactDriftOk", apart := false, narrowed := true }
def FnExactDriftOkUptoSaid : Prop := fnExactDriftOkUptoRow.holds Try.pinned (OpenSpec.upto fnExactDriftOkSpec)

/-- 'laws.FnExactOrbitOk', WHERE WHAT IT READS IS OF BULK AT MOST 1048576: true; the input reads as it did. -/
def fnExactOrbitOkUptoRow : OpenClaim := { program := "ytjhchiabifnjaaa", sum := "d65e78ef65d95e0f212f1cdb32fc5a1bca4a4358bfada59faf00ba2923e3d1f6", func := "loop.example/g03316/laws.FnExactOrbitOk", spec := "fnExactOrbitOk", apart := false, narrowed := true }
def FnExactOrbitOkUptoSaid : Prop := fnExactOrbitOkUptoRow.holds Try.pinned (OpenSpec.upto fnExactOrbitOkSpec)

/-- 'laws.FnExactVisible', WHERE WHAT IT READS IS OF BULK AT MOST 1048576: true; the input reads as it did. -/
def fnExactVisibleUptoRow : OpenClaim := { program := "ytjhchiabifnjaaa", sum := "d65e78ef65d95e0f212f1cdb32fc5a1bca4a4358bfada59faf00ba2923e3d1f6", func := "loop.example/g03316/laws.FnExactVisible", spec := "fnExactVisible", apart := false, narrowed := true }
def FnExactVisibleUptoSaid : Prop := fnExactVisibleUptoRow.holds Try.pinned (OpenSpec.upto fnExactVisibleSpec)

/-- 'laws.FnExactPassOf', WHERE WHAT IT READS IS OF BULK AT MOST 1048576: true; the input reads as it did. -/
def fnExactPassOfUptoRow : OpenClaim := { program := "ytjhchiabifnjaaa", sum := "d65e78ef65d95e0f212f1cdb32fc5a1bca4a4358bfada59faf00ba2923e3d1f6", func := "loop.example/g03316/laws.FnExactPassOf", spec := "fnExactPassOf", apart := false, narrowed := true }
def FnExactPassOfUptoSaid : Prop := fnExactPassOfUptoRow.holds Try.pinned (OpenSpec.upto fnExactPassOfSpec)

/-- 'laws.FnExactBoardTime', WHERE WHAT IT READS IS OF BULK AT MOST 1048576: true; the input reads as it did. -/
def fnExactBoardTimeUptoRow : OpenClaim := { program := "ytjhchiabifnjaaa", sum := "d65e78ef65d95e0f212f1cdb32fc5a1bca4a4358bfada59faf00ba2923e3d1f6", func := "loop.example/g03316/laws.FnExactBoardTime", spec := "fnExactBoardTime", apart := false, narrowed := true }
def FnExactBoardTimeUptoSaid : Prop := fnExactBoardTimeUptoRow.holds Try.pinned (OpenSpec.upto fnExactBoardTimeSpec)

/-- 'laws.FnExactVisibleCount', WHERE WHAT IT READS IS OF BULK AT MOST 1048576: true; the input reads as it did. -/
def fnExactVisibleCountUptoRow : OpenClaim := { program := "ytjhchiabifnjaaa", sum := "d65e78ef65d95e0f212f1cdb32fc5a1bca4a4358bfada59faf00ba2923e3d1f6", func := "loop.example/g03316/laws.FnExactVisibleCount", spec := "fnExactVisibleCount", apart := false, narrowed := true }
def FnExactVisibleCountUptoSaid : Prop := fnExactVisibleCountUptoRow.holds Try.pinned (OpenSpec.upto fnExactVisibleCountSpec)

/-- 'laws.FnExactNextVisible', WHERE WHAT IT READS IS OF BULK AT MOST 1048576: true; the input reads as it did. -/
def fnExactNextVisibleUptoRow : OpenClaim := { program := "ytjhchiabifnjaaa", sum := "d65e78ef65d95e0f212f1cdb32fc5a1bca4a4358bfada59faf00ba2923e3d1f6", func := "loop.example/g03316/laws.FnExactNextVisible", spec := "fnExactNextVisible", apart := false, narrowed := true }
def FnExactNextVisibleUptoSaid : Prop := fnExactNextVisibleUptoRow.holds Try.pinned (OpenSpec.upto fnExactNextVisibleSpec)

/-- 'laws.FnExactTicksDue', WHERE WHAT IT READS IS OF BULK AT MOST 1048576: true; the input reads as it did. -/
def fnExactTicksDueUptoRow : OpenClaim := { program := "ytjhchiabifnjaaa", sum := "d65e78ef65d95e0f212f1cdb32fc5a1bca4a4358bfada59faf00ba2923e3d1f6", func := "loop.example/g03316/laws.FnExactTicksDue", spec := "fnExactTicksDue", apart := false, narrowed := true }
def FnExactTicksDueUptoSaid : Prop := fnExactTicksDueUptoRow.holds Try.pinned (OpenSpec.upto fnExactTicksDueSpec)

/-- 'laws.FnExactSlotAt', WHERE WHAT IT READS IS OF BULK AT MOST 1048576: true; the input reads as it did. -/
def fnExactSlotAtUptoRow : OpenClaim := { program := "ytjhchiabifnjaaa", sum := "d65e78ef65d95e0f212f1cdb32fc5a1bca4a4358bfada59faf00ba2923e3d1f6", func := "loop.example/g03316/laws.FnExactSlotAt", spec := "fnExactSlotAt", apart := false, narrowed := true }
def FnExactSlotAtUptoSaid : Prop := fnExactSlotAtUptoRow.holds Try.pinned (OpenSpec.upto fnExactSlotAtSpec)

/-- 'laws.FnExactSlotsOf', WHERE WHAT IT READS IS OF BULK AT MOST 1048576: true; the input reads as it did. -/
def fnExactSlotsOfUptoRow : OpenClaim := { program := "ytjhchiabifnjaaa", sum := "d65e78ef65d95e0f212f1cdb32fc5a1bca4a4358bfada59faf00ba2923e3d1f6", func := "loop.example/g03316/laws.FnExactSlotsOf", spec := "fnExactSlotsOf", apart := false, narrowed := true }
def FnExactSlotsOfUptoSaid : Prop := fnExactSlotsOfUptoRow.holds Try.pinned (OpenSpec.upto fnExactSlotsOfSpec)

/-- 'laws.FnClocks', WHERE WHAT IT READS IS OF BULK AT MOST 1048576: true; the input reads as it did. -/
def fnClocksUptoRow : OpenClaim := { program := "ytjhchiabifnjaaa", sum := "d65e78ef65d95e0f212f1cdb32fc5a1bca4a4358bfada59faf00ba2923e3d1f6", func := "loop.example/g03316/laws.FnClocks", spec := "fnClocks", apart := false, narrowed := true }
def FnClocksUptoSaid : Prop := fnClocksUptoRow.holds Try.pinned (OpenSpec.upto fnClocksSpec)

/-- 'laws.FnExactPairsOk', WHERE WHAT IT READS IS OF BULK AT MOST 1048576: true; the input reads as it did. -/
def fnExactPairsOkUptoRow : OpenClaim := { program := "ytjhchiabifnjaaa", sum := "d65e78ef65d95e0f212f1cdb32fc5a1bca4a4358bfada59faf00ba2923e3d1f6", func := "loop.example/g03316/laws.FnExactPairsOk", spec := "fnExactPairsOk", apart := false, narrowed := true }
def FnExactPairsOkUptoSaid : Prop := fnExactPairsOkUptoRow.holds Try.pinned (OpenSpec.upto fnExactPairsOkSpec)

end Rows
end Go.Proofs.Ytjhchiabifnjaaa
