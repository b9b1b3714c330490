/-
  No cell of these rows narrows 'for every input' (looked for: loops, veiled, ifaces, maps, wideKeys, modest, calm, conditions, laid).
  DERIVED. THE GIVEN ROWS OF THIS SEAT. 14 by the template 'for every input the law returns true; each argument reads behind the call as it read before'; 0 by the template 'total and deterministic' (their statements: YtonclekalgaojaaTotals.lean).
  GIVEN WITH THE SEED: the statements are not yours to turn. If you find one false, say at which input.
  Laid BY PROGRAM, IN A SANDBOX (cutbox-rows.mjs): the forced cells as the released guide's own fill.sh prints them over the translation 6598fa0c1321ca2f… (all of the seat's roots in one cut). By AI agents, Wed Nov 11 2026. No macro, syntax, notation, axiom, sorry.
-/
import Derived.Test.YtonclekalgaojaaChecked
import GoSem.Claim
import GoSem.ClaimJoined
import GoSem.ClaimMapViews
import Derived.JoinedTies
import Derived.KernelRfl
namespace Go.Proofs.Ytonclekalgaojaa
/- THE CELL 'sum', in the pinned program and in every row, IS THE sha256 OF THE DUMP (.gsa) THAT YtonclekalgaojaaProg.lean LOADS. Nothing in Lean hashes anything: it is a label: what it is worth is what the hold of that sum in a sandbox is worth. -/
noncomputable def Try.pinned : Pinned := { name := "ytonclekalgaojaa", sum := "6598fa0c1321ca2f0e8cb02f14bfc5c4f567f905698799fa44333fdb525bf971", checked := Try.checked }
namespace Rows
def none {H : Type} : Left H := { results := [], args := [] }

/-- 'laws.FnExactRequestsOk': WHATEVER THE INPUT: true; the input reads as it did. -/
def fnExactRequestsOkSpec : ChangeSpec := { name := "fnExactRequestsOk", fn := fun _ => fun
  | [d] => { results := [.lit (.bool true)], args := [d] }
  | _ => none }
def fnExactRequestsOkRow : OpenClaim := { program := "ytonclekalgaojaa", sum := "6598fa0c1321ca2f0e8cb02f14bfc5c4f567f905698799fa44333fdb525bf971", func := "loop.example/g03316/laws.FnExactRequestsOk", spec := "fnExactRequestsOk", apart := false }
def FnExactRequestsOkSaid : Prop := fnExactRequestsOkRow.holds Try.pinned (OpenSpec.ofChange fnExactRequestsOkSpec)

/-- ITS FALSE NEIGHBOUR: 'it returns false'. Refute it at one input. -/
def fnExactRequestsOkWrong : ChangeSpec := { name := "fnExactRequestsOk", fn := fun _ => fun
  | [d] => { results := [.lit (.bool false)], args := [d] }
  | _ => none }
def FnExactRequestsOkWrongFalsely : Prop := fnExactRequestsOkRow.holds Try.pinned (OpenSpec.ofChange fnExactRequestsOkWrong)

/-- 'laws.FnExactRateOf': WHATEVER THE INPUT: true; the input reads as it did. -/
def fnExactRateOfSpec : ChangeSpec := { name := "fnExactRateOf", fn := fun _ => fun
  | [d] => { results := [.lit (.bool true)], args := [d] }
  | _ => none }
def fnExactRateOfRow : OpenClaim := { program := "ytonclekalgaojaa", sum := "6598fa0c1321ca2f0e8cb02f14bfc5c4f567f905698799fa44333fdb525bf971", func := "loop.example/g03316/laws.FnExactRateOf", spec := "fnExactRateOf", apart := false }
def FnExactRateOfSaid : Prop := fnExactRateOfRow.holds Try.pinned (OpenSpec.ofChange fnExactRateOfSpec)

/-- ITS FALSE NEIGHBOUR: 'it returns false'. Refute it at one input. -/
def fnExactRateOfWrong : ChangeSpec := { name := "fnExactRateOf", fn := fun _ => fun
  | [d] => { results := [.lit (.bool false)], args := [d] }
  | _ => none }
def FnExactRateOfWrongFalsely : Prop := fnExactRateOfRow.holds Try.pinned (OpenSpec.ofChange fnExactRateOfWrong)

/-- 'laws.FnExactBoundsOf': WHATEVER THE INPUT: true; the input reads as it did. -/
def fnExactBoundsOfSpec : ChangeSpec := { name := "fnExactBoundsOf", fn := fun _ => fun
  | [d1, d2] => { results := [.lit (.bool true)], args := [d1, d2] }
  | _ => none }
def fnExactBoundsOfRow : OpenClaim := { program := "ytonclekalgaojaa", sum := "6598fa0c1321ca2f0e8cb02f14bfc5c4f567f905698799fa44333fdb525bf971", func := "loop.example/g03316/laws.FnExactBoundsOf", spec := "fnExactBoundsOf", apart := false }
def FnExactBoundsOfSaid : Prop := fnExactBoundsOfRow.holds Try.pinned (OpenSpec.ofChange fnExactBoundsOfSpec)

/-- ITS FALSE NEIGHBOUR: 'it returns false'. Refute it at one input. -/
def fnExactBoundsOfWrong : ChangeSpec := { name := "fnExactBoundsOf", fn := fun _ => fun
  | [d1, d2] => { results := [.lit (.bool false)], args := [d1, d2] }
  | _ => none }
def FnExactBoundsOfWrongFalsely : Prop := fnExactBoundsOfRow.holds Try.pinned (OpenSpec.ofChange fnExactBoundsOfWrong)

/-- 'laws.FnVisible': WHATEVER THE INPUT: true; the input reads as it did. -/
def fnVisibleSpec : ChangeSpec := { name := "fnVisible", fn := fun _ => fun
  | [d] => { results := [.lit (.bool true)], args := [d] }
  | _ => none }
def fnVisibleRow : OpenClaim := { program := "ytonclekalgaojaa", sum := "6598fa0c1321ca2f0e8cb02f14bfc5c4f567f905698799fa44333fdb525bf971", func := "loop.example/g03316/laws.FnVisible", spec := "fnVisible", apart := false }
def FnVisibleSaid : Prop := fnVisibleRow.holds Try.pinned (OpenSpec.ofChange fnVisibleSpec)

/-- ITS FALSE NEIGHBOUR: 'it returns false'. Refute it at one input. -/
def fnVisibleWrong : ChangeSpec := { name := "fnVisible", fn := fun _ => fun
  | [d] => { results := [.lit (.bool false)], args := [d] }
  | _ => none }
def FnVisibleWrongFalsely : Prop := fnVisibleRow.holds Try.pinned (OpenSpec.ofChange fnVisibleWrong)

/-- 'laws.FnExactGuessTrue': WHATEVER THE INPUT: true; the input reads as it did. -/
def fnExactGuessTrueSpec : ChangeSpec := { name := "fnExactGuessTrue", fn := fun _ => fun
  | [d1, d2] => { results := [.lit (.bool true)], args := [d1, d2] }
  | _ => none }
def fnExactGuessTrueRow : OpenClaim := { program := "ytonclekalgaojaa", sum := "6598fa0c1321ca2f0e8cb02f14bfc5c4f567f905698799fa44333fdb525bf971", func := "loop.example/g03316/laws.FnExactGuessTrue", spec := "fnExactGuessTrue", apart := false }
def FnExactGuessTrueSaid : Prop := fnExactGuessTrueRow.holds Try.pinned (OpenSpec.ofChange fnExactGuessTrueSpec)

/-- ITS FALSE NEIGHBOUR: 'it returns false'. Refute it at one input. -/
def fnExactGuessTrueWrong : ChangeSpec := { name := "fnExactGuessTrue", fn := fun _ => fun
  | [d1, d2] => { results := [.lit (.bool false)], args := [d1, d2] }
  | _ => none }
def FnExactGuessTrueWrongFalsely : Prop := fnExactGuessTrueRow.holds Try.pinned (OpenSpec.ofChange fnExactGuessTrueWrong)

/-- 'laws.FnExactDemandOf': WHATEVER THE INPUT: true; the input reads as it did. -/
def fnExactDemandOfSpec : ChangeSpec := { name := "fnExactDemandOf", fn := fun _ => fun
  | [d1, d2, d3] => { results := [.lit (.bool true)], args := [d1, d2, d3] }
  | _ => none }
def fnExactDemandOfRow : OpenClaim := { program := "ytonclekalgaojaa", sum := "6598fa0c1321ca2f0e8cb02f14bfc5c4f567f905698799fa44333fdb525bf971", func := "loop.example/g03316/laws.FnExactDemandOf", spec := "fnExactDemandOf", apart := false }
def FnExactDemandOfSaid : Prop := fnExactDemandOfRow.holds Try.pinned (OpenSpec.ofChange fnExactDemandOfSpec)

/-- ITS FALSE NEIGHBOUR: 'it returns false'. Refute it at one input. -/
def fnExactDemandOfWrong : ChangeSpec := { name := "fnExactDemandOf", fn := fun _ => fun
  | [d1, d2, d3] => { results := [.lit (.bool false)], args := [d1, d2, d3] }
  | _ => none }
def FnExactDemandOfWrongFalsely : Prop := fnExactDemandOfRow.holds Try.pinned (OpenSpec.ofChange fnExactDemandOfWrong)

/-- 'laws.FnExactAddPair': WHATEVER THE INPUT: true; the input reads as it did. -/
def fnExactAddPairSpec : ChangeSpec := { name := "fnExactAddPair", fn := fun _ => fun
  | [d1, d2] => { results := [.lit (.bool true)], args := [d1, d2] }
  | _ => none }
def fnExactAddPairRow : OpenClaim := { program := "ytonclekalgaojaa", sum := "6598fa0c1321ca2f0e8cb02f14bfc5c4f567f905698799fa44333fdb525bf971", func := "loop.example/g03316/laws.FnExactAddPair", spec := "fnExactAddPair", apart := false }
def FnExactAddPairSaid : Prop := fnExactAddPairRow.holds Try.pinned (OpenSpec.ofChange fnExactAddPairSpec)

/-- ITS FALSE NEIGHBOUR: 'it returns false'. Refute it at one input. -/
def fnExactAddPairWrong : ChangeSpec := { name := "fnExactAddPair", fn := fun _ => fun
  | [d1, d2] => { results := [.lit (.bool false)], args := [d1, d2] }
  | _ => none }
def FnExactAddPairWrongFalsely : Prop := fnExactAddPairRow.holds Try.pinned (OpenSpec.ofChange fnExactAddPairWrong)

/-- 'laws.FnBounds': WHATEVER THE INPUT: true; the input reads as it did. -/
def fnBoundsSpec : ChangeSpec := { name := "fnBounds", fn := fun _ => fun
  | [d] => { results := [.lit (.bool true)], args := [d] }
  | _ => none }
def fnBoundsRow : OpenClaim := { program := "ytonclekalgaojaa", sum := "6598fa0c1321ca2f0e8cb02f14bfc5c4f567f905698799fa44333fdb525bf971", func := "loop.example/g03316/laws.FnBounds", spec := "fnBounds", apart := false }
def FnBoundsSaid : Prop := fnBoundsRow.holds Try.pinned (OpenSpec.ofChange fnBoundsSpec)

/-- ITS FALSE NEIGHBOUR: 'it returns false'. Refute it at one input. -/
def fnBoundsWrong : ChangeSpec := { name := "fnBounds", fn := fun _ => fun
  | [d] => { results := [.lit (.bool false)], args := [d] }
  | _ => none }
def FnBoundsWrongFalsely : Prop := fnBoundsRow.holds Try.pinned (OpenSpec.ofChange fnBoundsWrong)

/-- 'laws.FnExactMissedOf': WHATEVER THE INPUT: true; the input reads as it did. -/
def fnExactMissedOfSpec : ChangeSpec := { name := "fnExactMissedOf", fn := fun _ => fun
  | [d1, d2] => { results := [.lit (.bool true)], args := [d1, d2] }
  | _ => none }
def fnExactMissedOfRow : OpenClaim := { program := "ytonclekalgaojaa", sum := "6598fa0c1321ca2f0e8cb02f14bfc5c4f567f905698799fa44333fdb525bf971", func := "loop.example/g03316/laws.FnExactMissedOf", spec := "fnExactMissedOf", apart := false }
def FnExactMissedOfSaid : Prop := fnExactMissedOfRow.holds Try.pinned (OpenSpec.ofChange fnExactMissedOfSpec)

/-- ITS FALSE NEIGHBOUR: 'it returns false'. Refute it at one input. -/
def fnExactMissedOfWrong : ChangeSpec := { name := "fnExactMissedOf", fn := fun _ => fun
  | [d1, d2] => { results := [.lit (.bool false)], args := [d1, d2] }
  | _ => none }
def FnExactMissedOfWrongFalsely : Prop := fnExactMissedOfRow.holds Try.pinned (OpenSpec.ofChange fnExactMissedOfWrong)

/-- 'laws.FnExactFeasible': WHATEVER THE INPUT: true; the input reads as it did. -/
def fnExactFeasibleSpec : ChangeSpec := { name := "fnExactFeasible", fn := fun _ => fun
  | [d1, d2] => { results := [.lit (.bool true)], args := [d1, d2] }
  | _ => none }
def fnExactFeasibleRow : OpenClaim := { program := "ytonclekalgaojaa", sum := "6598fa0c1321ca2f0e8cb02f14bfc5c4f567f905698799fa44333fdb525bf971", func := "loop.example/g03316/laws.FnExactFeasible", spec := "fnExactFeasible", apart := false }
def FnExactFeasibleSaid : Prop := fnExactFeasibleRow.holds Try.pinned (OpenSpec.ofChange fnExactFeasibleSpec)

/-- ITS FALSE NEIGHBOUR: 'it returns false'. Refute it at one input. -/
def fnExactFeasibleWrong : ChangeSpec := { name := "fnExactFeasible", fn := fun _ => fun
  | [d1, d2] => { results := [.lit (.bool false)], args := [d1, d2] }
  | _ => none }
def FnExactFeasibleWrongFalsely : Prop := fnExactFeasibleRow.holds Try.pinned (OpenSpec.ofChange fnExactFeasibleWrong)

/-- 'laws.FnNoIdle': WHATEVER THE INPUT: true; the input reads as it did. -/
def fnNoIdleSpec : ChangeSpec := { name := "fnNoIdle", fn := fun _ => fun
  | [d] => { results := [.lit (.bool true)], args := [d] }
  | _ => none }
def fnNoIdleRow : OpenClaim := { program := "ytonclekalgaojaa", sum := "6598fa0c1321ca2f0e8cb02f14bfc5c4f567f905698799fa44333fdb525bf971", func := "loop.example/g03316/laws.FnNoIdle", spec := "fnNoIdle", apart := false }
def FnNoIdleSaid : Prop := fnNoIdleRow.holds Try.pinned (OpenSpec.ofChange fnNoIdleSpec)

/-- ITS FALSE NEIGHBOUR: 'it returns false'. Refute it at one input. -/
def fnNoIdleWrong : ChangeSpec := { name := "fnNoIdle", fn := fun _ => fun
  | [d] => { results := [.lit (.bool false)], args := [d] }
  | _ => none }
def FnNoIdleWrongFalsely : Prop := fnNoIdleRow.holds Try.pinned (OpenSpec.ofChange fnNoIdleWrong)

/-- 'laws.FnExactPlanOk': WHATEVER THE INPUT: true; the input reads as it did. -/
def fnExactPlanOkSpec : ChangeSpec := { name := "fnExactPlanOk", fn := fun _ => fun
  | [d1, d2, d3] => { results := [.lit (.bool true)], args := [d1, d2, d3] }
  | _ => none }
def fnExactPlanOkRow : OpenClaim := { program := "ytonclekalgaojaa", sum := "6598fa0c1321ca2f0e8cb02f14bfc5c4f567f905698799fa44333fdb525bf971", func := "loop.example/g03316/laws.FnExactPlanOk", spec := "fnExactPlanOk", apart := false }
def FnExactPlanOkSaid : Prop := fnExactPlanOkRow.holds Try.pinned (OpenSpec.ofChange fnExactPlanOkSpec)

/-- ITS FALSE NEIGHBOUR: 'it returns false'. Refute it at one input. -/
def fnExactPlanOkWrong : ChangeSpec := { name := "fnExactPlanOk", fn := fun _ => fun
  | [d1, d2, d3] => { results := [.lit (.bool false)], args := [d1, d2, d3] }
  | _ => none }
def FnExactPlanOkWrongFalsely : Prop := fnExactPlanOkRow.holds Try.pinned (OpenSpec.ofChange fnExactPlanOkWrong)

/-- 'laws.FnPlans': WHATEVER THE INPUT: true; the input reads as it did. -/
def fnPlansSpec : ChangeSpec := { name := "fnPlans", fn := fun _ => fun
  | [d] => { results := [.lit (.bool true)], args := [d] }
  | _ => none }
def fnPlansRow : OpenClaim := { program := "ytonclekalgaojaa", sum := "6598fa0c1321ca2f0e8cb02f14bfc5c4f567f905698799fa44333fdb525bf971", func := "loop.example/g03316/laws.FnPlans", spec := "fnPlans", apart := false }
def FnPlansSaid : Prop := fnPlansRow.holds Try.pinned (OpenSpec.ofChange fnPlansSpec)

/-- ITS FALSE NEIGHBOUR: 'it returns false'. Refute it at one input. -/
def fnPlansWrong : ChangeSpec := { name := "fnPlans", fn := fun _ => fun
  | [d] => { results := [.lit (.bool false)], args := [d] }
  | _ => none }
def FnPlansWrongFalsely : Prop := fnPlansRow.holds Try.pinned (OpenSpec.ofChange fnPlansWrong)

/-- 'laws.FnExactPlanPasses': WHATEVER THE INPUT: true; the input reads as it did. -/
def fnExactPlanPassesSpec : ChangeSpec := { name := "fnExactPlanPasses", fn := fun _ => fun
  | [d1, d2] => { results := [.lit (.bool true)], args := [d1, d2] }
  | _ => none }
def fnExactPlanPassesRow : OpenClaim := { program := "ytonclekalgaojaa", sum := "6598fa0c1321ca2f0e8cb02f14bfc5c4f567f905698799fa44333fdb525bf971", func := "loop.example/g03316/laws.FnExactPlanPasses", spec := "fnExactPlanPasses", apart := false }
def FnExactPlanPassesSaid : Prop := fnExactPlanPassesRow.holds Try.pinned (OpenSpec.ofChange fnExactPlanPassesSpec)

/-- ITS FALSE NEIGHBOUR: 'it returns false'. Refute it at one input. -/
def fnExactPlanPassesWrong : ChangeSpec := { name := "fnExactPlanPasses", fn := fun _ => fun
  | [d1, d2] => { results := [.lit (.bool false)], args := [d1, d2] }
  | _ => none }
def FnExactPlanPassesWrongFalsely : Prop := fnExactPlanPassesRow.holds Try.pinned (OpenSpec.ofChange fnExactPlanPassesWrong)

/- THE SECOND FORM. 'bulk': how many values and letters a reading holds, each counted each time it is reached (what is shared counts as often as it is met; a slice's spare places count too). A statement '..UptoSaid' is the law's where the arguments, and the package variables that the reading takes, are together of bulk at most 1048576: NARROWER than '..Said'. Prove '..Said' where nothing that the law and all that it calls make is longer than what came in: it says more and counts as full. Else prove '..UptoSaid'. A law counts once. -/
mutual
def uptoBulk {H : Type} : DataW H → Nat
  | .lit (.string bytes) => bytes.length + 1
  | .lit _ => 1
  | .nil => 1
  | .ptr d => uptoBulk d + 1
  | .slice elems spare => uptoBulkAll elems + uptoBulkAll spare + 1
  | .agg parts => uptoBulkAll parts + 1
  | .iface _ d => uptoBulk d + 1
  | .map entries => uptoBulkEntries entries + 1
  | .held _ => 1
def uptoBulkAll {H : Type} : List (DataW H) → Nat
  | [] => 0
  | d :: r => uptoBulk d + uptoBulkAll r
def uptoBulkEntries {H : Type} : List (Lit × DataW H) → Nat
  | [] => 0
  | x :: r => uptoBulkEntry x + uptoBulkEntries r
def uptoBulkEntry {H : Type} : Lit × DataW H → Nat
  | (.string bytes, d) => bytes.length + uptoBulk d + 1
  | (_, d) => uptoBulk d + 1
 end
def uptoSmall : (H : Type) → List (DataW H) → Bool := fun _ ds => decide (uptoBulkAll ds ≤ 1048576)
def OpenSpec.upto (s : _root_.Go.ChangeSpec) : _root_.Go.OpenSpec := { _root_.Go.OpenSpec.ofChange s with cond := some uptoSmall }

/-- 'laws.FnExactRequestsOk', WHERE WHAT IT READS IS OF BULK AT MOST 1048576: true; the input reads as it did. -/
def fnExactRequestsOkUptoRow : OpenClaim := { program := "ytonclekalgaojaa", sum := "6598fa0c1321ca2f0e8cb02f14bfc5c4f567f905698799fa44333fdb525bf971", func := "loop.example/g03316/laws.FnExactRequestsOk", spec := "fnExactRequestsOk", apart := false, narrowed := true }
def FnExactRequestsOkUptoSaid : Prop := fnExactRequestsOkUptoRow.holds Try.pinned (OpenSpec.upto fnExactRequestsOkSpec)

/-- 'laws.FnExactRateOf', WHERE WHAT IT READS IS OF BULK AT MOST 1048576: true; the input reads as it did. -/
def fnExactRateOfUptoRow : OpenClaim := { program := "ytonclekalgaojaa", sum := "6598fa0c1321ca2f0e8cb02f14bfc5c4f567f905698799fa44333fdb525bf971", func := "loop.example/g03316/laws.FnExactRateOf", spec := "fnExactRateOf", apart := false, narrowed := true }
def FnExactRateOfUptoSaid : Prop := fnExactRateOfUptoRow.holds Try.pinned (OpenSpec.upto fnExactRateOfSpec)

/-- 'laws.FnExactBoundsOf', WHERE WHAT IT READS IS OF BULK AT MOST 1048576: true; the input reads as it did. -/
def fnExactBoundsOfUptoRow : OpenClaim := { program := "ytonclekalgaojaa", sum := "6598fa0c1321ca2f0e8cb02f14bfc5c4f567f905698799fa44333fdb525bf971", func := "loop.example/g03316/laws.FnExactBoundsOf", spec := "fnExactBoundsOf", apart := false, narrowed := true }
def FnExactBoundsOfUptoSaid : Prop := fnExactBoundsOfUptoRow.holds Try.pinned (OpenSpec.upto fnExactBoundsOfSpec)

/-- 'laws.FnVisible', WHERE WHAT IT READS IS OF BULK AT MOST 1048576: true; the input reads as it did. -/
def fnVisibleUptoRow : OpenClaim := { program := "ytonclekalgaojaa", sum := "6598fa0c1321ca2f0e8cb02f14bfc5c4f567f905698799fa44333fdb525bf971", func := "loop.example/g03316/laws.FnVisible", spec := "fnVisible", apart := false, narrowed := true }
def FnVisibleUptoSaid : Prop := fnVisibleUptoRow.holds Try.pinned (OpenSpec.upto fnVisibleSpec)

/-- 'laws.FnExactGuessTrue', WHERE WHAT IT READS IS OF BULK AT MOST 1048576: true; the input reads as it did. -/
def fnExactGuessTrueUptoRow : OpenClaim := { program := "ytonclekalgaojaa", sum := "6598fa0c1321ca2f0e8cb02f14bfc5c4f567f905698799fa44333fdb525bf971", func := "loop.example/g03316/laws.FnExactGuessTrue", spec := "fnExactGuessTrue", apart := false, narrowed := true }
def FnExactGuessTrueUptoSaid : Prop := fnExactGuessTrueUptoRow.holds Try.pinned (OpenSpec.upto fnExactGuessTrueSpec)

/-- 'laws.FnExactDemandOf', WHERE WHAT IT READS IS OF BULK AT MOST 1048576: true; the input reads as it did. -/
def fnExactDemandOfUptoRow : OpenClaim := { program := "ytonclekalgaojaa", sum := "6598fa0c1321ca2f0e8cb02f14bfc5c4f567f905698799fa44333fdb525bf971", func := "loop.example/g03316/laws.FnExactDemandOf", spec := "fnExactDemandOf", apart := false, narrowed := true }
def FnExactDemandOfUptoSaid : Prop := fnExactDemandOfUptoRow.holds Try.pinned (OpenSpec.upto fnExactDemandOfSpec)

/-- 'laws.FnExactAddPair', WHERE WHAT IT READS IS OF BULK AT MOST 1048576: true; the input reads as it did. -/
def fnExactAddPairUptoRow : OpenClaim := { program := "ytonclekalgaojaa", sum := "6598fa0c1321ca2f0e8cb02f14bfc5c4f567f905698799fa44333fdb525bf971", func := "loop.example/g03316/laws.FnExactAddPair", spec := "fnExactAddPair", apart := false, narrowed := true }
def FnExactAddPairUptoSaid : Prop := fnExactAddPairUptoRow.holds Try.pinned (OpenSpec.upto fnExactAddPairSpec)

/-- 'laws.FnBounds', WHERE WHAT IT READS IS OF BULK AT MOST 1048576: true; the input reads as it did. -/
def fnBoundsUptoRow : OpenClaim := { program := "ytonclekalgaojaa", sum := "6598fa0c1321ca2f0e8cb02f14bfc5c4f567f905698799fa44333fdb525bf971", func := "loop.example/g03316/laws.FnBounds", spec := "fnBounds", apart := false, narrowed := true }
def FnBoundsUptoSaid : Prop := fnBoundsUptoRow.holds Try.pinned (OpenSpec.upto fnBoundsSpec)

/-- 'laws.FnExactMissedOf', WHERE WHAT IT READS IS OF BULK AT MOST 1048576: true; the input reads as it did. -/
def fnExactMissedOfUptoRow : OpenClaim := { program := "ytonclekalgaojaa", sum := "6598fa0c1321ca2f0e8cb02f14bfc5c4f567f905698799fa44333fdb525bf971", func := "loop.example/g03316/laws.FnExactMissedOf", spec := "fnExactMissedOf", apart := false, narrowed := true }
def FnExactMissedOfUptoSaid : Prop := fnExactMissedOfUptoRow.holds Try.pinned (OpenSpec.upto fnExactMissedOfSpec)

/-- 'laws.FnExactFeasible', WHERE WHAT IT READS IS OF BULK AT MOST 1048576: true; the input reads as it did. -/
def fnExactFeasibleUptoRow : OpenClaim := { program := "ytonclekalgaojaa", sum := "6598fa0c1321ca2f0e8cb02f14bfc5c4f567f905698799fa44333fdb525bf971", func := "loop.example/g03316/laws.FnExactFeasible", spec := "fnExactFeasible", apart := false, narrowed := true }
def FnExactFeasibleUptoSaid : Prop := fnExactFeasibleUptoRow.holds Try.pinned (OpenSpec.upto fnExactFeasibleSpec)

/-- 'laws.FnNoIdle', WHERE WHAT IT READS IS OF BULK AT MOST 1048576: true; the input reads as it did. -/
def fnNoIdleUptoRow : OpenClaim := { program := "ytonclekalgaojaa", sum := "6598fa0c1321ca2f0e8cb02f14bfc5c4f567f905698799fa44333fdb525bf971", func := "loop.example/g03316/laws.FnNoIdle", spec := "fnNoIdle", apart := false, narrowed := true }
def FnNoIdleUptoSaid : Prop := fnNoIdleUptoRow.holds Try.pinned (OpenSpec.upto fnNoIdleSpec)

/-- 'laws.FnExactPlanOk', WHERE WHAT IT READS IS OF BULK AT MOST 1048576: true; the input reads as it did. -/
def fnExactPlanOkUptoRow : OpenClaim := { program := "ytonclekalgaojaa", sum := "6598fa0c1321ca2f0e8cb02f14bfc5c4f567f905698799fa44333fdb525bf971", func := "loop.example/g03316/laws.FnExactPlanOk", spec := "fnExactPlanOk", apart := false, narrowed := true }
def FnExactPlanOkUptoSaid : Prop := fnExactPlanOkUptoRow.holds Try.pinned (OpenSpec.upto fnExactPlanOkSpec)

/-- 'laws.FnPlans', WHERE WHAT IT READS IS OF BULK AT MOST 1048576: true; the input reads as it did. -/
def fnPlansUptoRow : OpenClaim := { program := "ytonclekalgaojaa", sum := "6598fa0c1321ca2f0e8cb02f14bfc5c4f567f905698799fa44333fdb525bf971", func := "loop.example/g03316/laws.FnPlans", spec := "fnPlans", apart := false, narrowed := true }
def FnPlansUptoSaid : Prop := fnPlansUptoRow.holds Try.pinned (OpenSpec.upto fnPlansSpec)

/-- 'laws.FnExactPlanPasses', WHERE WHAT IT READS IS OF BULK AT MOST 1048576: true; the input reads as it did. -/
def fnExactPlanPassesUptoRow : OpenClaim := { program := "ytonclekalgaojaa", sum := "6598fa0c1321ca2f0e8cb02f14bfc5c4f567f905698799fa44333fdb525bf971", func := "loop.example/g03316/laws.FnExactPlanPasses", spec := "fnExactPlanPasses", apart := false, narrowed := true }
def FnExactPlanPassesUptoSaid : Prop := fnExactPlanPassesUptoRow.holds Try.pinned (OpenSpec.upto fnExactPlanPassesSpec)

end Rows
end Go.Proofs.Ytonclekalgaojaa
