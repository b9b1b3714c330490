/-
  No cell of these rows narrows 'for every input' (looked for: loops, veiled, ifaces, maps, wideKeys, modest, calm, conditions, laid).
  DERIVED. THE GIVEN ROWS OF THIS SEAT. 6 by the template 'for every input the law returns true; each argument reads behind the call as it read before'; 0 by the template 'total and deterministic' (their statements: YtbaffippdifbpaaGreatTotals.lean).
  GIVEN WITH THE SEED: the statements are not yours to turn. If you find one false, say at which input.
  Laid BY PROGRAM, IN A SANDBOX (cutbox-rows.mjs): the forced cells as the released guide's own fill.sh prints them over the translation e77fbd1c3fdfe0f8… (all of the seat's roots in one cut). By AI agents, Wed Nov 11 2026. No macro, syntax, notation, axiom, sorry.
-/
import Derived.Test.YtbaffippdifbpaaGreatChecked
import GoSem.Claim
import GoSem.ClaimJoined
import GoSem.ClaimMapViews
import Derived.JoinedTies
import Derived.KernelRfl
namespace Go.Proofs.YtbaffippdifbpaaGreat
/- THE CELL 'sum', in the pinned program and in every row, IS THE sha256 OF THE DUMP (.gsa) THAT YtbaffippdifbpaaGreatProg.lean LOADS. Nothing in Lean hashes anything: it is a label: what it is worth is what the hold of that sum in a sandbox is worth. -/
noncomputable def Tryz.pinned : Pinned := { name := "ytbaffippdifbpaagreat", sum := "e77fbd1c3fdfe0f8b8ff40a216ee454c7630b46c6151483e2b220b8e2ab72c4c", checked := Tryz.checked }
namespace Rows
def none {H : Type} : Left H := { results := [], args := [] }

/-- 'laws.FnStarted': WHATEVER THE INPUT: true; the input reads as it did. -/
def fnStartedSpec : ChangeSpec := { name := "fnStarted", fn := fun _ => fun
  | [d] => { results := [.lit (.bool true)], args := [d] }
  | _ => none }
def fnStartedRow : OpenClaim := { program := "ytbaffippdifbpaagreat", sum := "e77fbd1c3fdfe0f8b8ff40a216ee454c7630b46c6151483e2b220b8e2ab72c4c", func := "loop.example/g03316/laws.FnStarted", spec := "fnStarted", unfollowed := true, recurses := true, plainKeys := false, apart := false }
def FnStartedSaid : Prop := fnStartedRow.holds Tryz.pinned (OpenSpec.ofChange fnStartedSpec)

/-- ITS FALSE NEIGHBOUR: 'it returns false'. Refute it at one input. -/
def fnStartedWrong : ChangeSpec := { name := "fnStarted", fn := fun _ => fun
  | [d] => { results := [.lit (.bool false)], args := [d] }
  | _ => none }
def FnStartedWrongFalsely : Prop := fnStartedRow.holds Tryz.pinned (OpenSpec.ofChange fnStartedWrong)

/-- 'laws.FnExactNewMission': WHATEVER THE INPUT: true; the input reads as it did. -/
def fnExactNewMissionSpec : ChangeSpec := { name := "fnExactNewMission", fn := fun _ => fun
  | [d1, d2, d3, d4, d5, d6, d7, d8, d9] => { results := [.lit (.bool true)], args := [d1, d2, d3, d4, d5, d6, d7, d8, d9] }
  | _ => none }
def fnExactNewMissionRow : OpenClaim := { program := "ytbaffippdifbpaagreat", sum := "e77fbd1c3fdfe0f8b8ff40a216ee454c7630b46c6151483e2b220b8e2ab72c4c", func := "loop.example/g03316/laws.FnExactNewMission", spec := "fnExactNewMission", plainKeys := false, apart := false }
def FnExactNewMissionSaid : Prop := fnExactNewMissionRow.holds Tryz.pinned (OpenSpec.ofChange fnExactNewMissionSpec)

/-- ITS FALSE NEIGHBOUR: 'it returns false'. Refute it at one input. -/
def fnExactNewMissionWrong : ChangeSpec := { name := "fnExactNewMission", fn := fun _ => fun
  | [d1, d2, d3, d4, d5, d6, d7, d8, d9] => { results := [.lit (.bool false)], args := [d1, d2, d3, d4, d5, d6, d7, d8, d9] }
  | _ => none }
def FnExactNewMissionWrongFalsely : Prop := fnExactNewMissionRow.holds Tryz.pinned (OpenSpec.ofChange fnExactNewMissionWrong)

/-- 'laws.FnExactClearSky': WHATEVER THE INPUT: true; the input reads as it did. -/
def fnExactClearSkySpec : ChangeSpec := { name := "fnExactClearSky", fn := fun _ => fun
  | [d] => { results := [.lit (.bool true)], args := [d] }
  | _ => none }
def fnExactClearSkyRow : OpenClaim := { program := "ytbaffippdifbpaagreat", sum := "e77fbd1c3fdfe0f8b8ff40a216ee454c7630b46c6151483e2b220b8e2ab72c4c", func := "loop.example/g03316/laws.FnExactClearSky", spec := "fnExactClearSky", plainKeys := false, apart := false }
def FnExactClearSkySaid : Prop := fnExactClearSkyRow.holds Tryz.pinned (OpenSpec.ofChange fnExactClearSkySpec)

/-- ITS FALSE NEIGHBOUR: 'it returns false'. Refute it at one input. -/
def fnExactClearSkyWrong : ChangeSpec := { name := "fnExactClearSky", fn := fun _ => fun
  | [d] => { results := [.lit (.bool false)], args := [d] }
  | _ => none }
def FnExactClearSkyWrongFalsely : Prop := fnExactClearSkyRow.holds Tryz.pinned (OpenSpec.ofChange fnExactClearSkyWrong)

/-- 'laws.FnExactGiveOrder': WHATEVER THE INPUT: true; the input reads as it did. -/
def fnExactGiveOrderSpec : ChangeSpec := { name := "fnExactGiveOrder", fn := fun _ => fun
  | [d1, d2] => { results := [.lit (.bool true)], args := [d1, d2] }
  | _ => none }
def fnExactGiveOrderRow : OpenClaim := { program := "ytbaffippdifbpaagreat", sum := "e77fbd1c3fdfe0f8b8ff40a216ee454c7630b46c6151483e2b220b8e2ab72c4c", func := "loop.example/g03316/laws.FnExactGiveOrder", spec := "fnExactGiveOrder", plainKeys := false, apart := false }
def FnExactGiveOrderSaid : Prop := fnExactGiveOrderRow.holds Tryz.pinned (OpenSpec.ofChange fnExactGiveOrderSpec)

/-- ITS FALSE NEIGHBOUR: 'it returns false'. Refute it at one input. -/
def fnExactGiveOrderWrong : ChangeSpec := { name := "fnExactGiveOrder", fn := fun _ => fun
  | [d1, d2] => { results := [.lit (.bool false)], args := [d1, d2] }
  | _ => none }
def FnExactGiveOrderWrongFalsely : Prop := fnExactGiveOrderRow.holds Tryz.pinned (OpenSpec.ofChange fnExactGiveOrderWrong)

/-- 'laws.FnExactAskMissing': WHATEVER THE INPUT: true; the input reads as it did. -/
def fnExactAskMissingSpec : ChangeSpec := { name := "fnExactAskMissing", fn := fun _ => fun
  | [d] => { results := [.lit (.bool true)], args := [d] }
  | _ => none }
def fnExactAskMissingRow : OpenClaim := { program := "ytbaffippdifbpaagreat", sum := "e77fbd1c3fdfe0f8b8ff40a216ee454c7630b46c6151483e2b220b8e2ab72c4c", func := "loop.example/g03316/laws.FnExactAskMissing", spec := "fnExactAskMissing", plainKeys := false, apart := false }
def FnExactAskMissingSaid : Prop := fnExactAskMissingRow.holds Tryz.pinned (OpenSpec.ofChange fnExactAskMissingSpec)

/-- ITS FALSE NEIGHBOUR: 'it returns false'. Refute it at one input. -/
def fnExactAskMissingWrong : ChangeSpec := { name := "fnExactAskMissing", fn := fun _ => fun
  | [d] => { results := [.lit (.bool false)], args := [d] }
  | _ => none }
def FnExactAskMissingWrongFalsely : Prop := fnExactAskMissingRow.holds Tryz.pinned (OpenSpec.ofChange fnExactAskMissingWrong)

/-- 'laws.FnExactAdvanceBoard': WHATEVER THE INPUT: true; the input reads as it did. -/
def fnExactAdvanceBoardSpec : ChangeSpec := { name := "fnExactAdvanceBoard", fn := fun _ => fun
  | [d] => { results := [.lit (.bool true)], args := [d] }
  | _ => none }
def fnExactAdvanceBoardRow : OpenClaim := { program := "ytbaffippdifbpaagreat", sum := "e77fbd1c3fdfe0f8b8ff40a216ee454c7630b46c6151483e2b220b8e2ab72c4c", func := "loop.example/g03316/laws.FnExactAdvanceBoard", spec := "fnExactAdvanceBoard", plainKeys := false, apart := false }
def FnExactAdvanceBoardSaid : Prop := fnExactAdvanceBoardRow.holds Tryz.pinned (OpenSpec.ofChange fnExactAdvanceBoardSpec)

/-- ITS FALSE NEIGHBOUR: 'it returns false'. Refute it at one input. -/
def fnExactAdvanceBoardWrong : ChangeSpec := { name := "fnExactAdvanceBoard", fn := fun _ => fun
  | [d] => { results := [.lit (.bool false)], args := [d] }
  | _ => none }
def FnExactAdvanceBoardWrongFalsely : Prop := fnExactAdvanceBoardRow.holds Tryz.pinned (OpenSpec.ofChange fnExactAdvanceBoardWrong)

/- THE SECOND FORM. 'bulk': how many values and letters a reading holds, each counted each time it is reached (what is shared counts as often as it is met; a slice's spare places count too). A statement '..UptoSaid' is the law's where the arguments, and the package variables that the reading takes, are together of bulk at most 1048576: NARROWER than '..Said'. Prove '..Said' where nothing that the law and all that it calls make is longer than what came in: it says more and counts as full. Else prove '..UptoSaid'. A law counts once. -/
mutual
def uptoBulk {H : Type} : DataW H → Nat
  | .lit (.string bytes) => bytes.length + 1
  | .lit _ => 1
  | .nil => 1
  | .ptr d => uptoBulk d + 1
  | .slice elems spare => uptoBulkAll elems + uptoBulkAll spare + 1
  | .agg parts => uptoBulkAll parts + 1
  | .iface _ d => uptoBulk d + 1
  | .map entries => uptoBulkEntries entries + 1
  | .held _ => 1
def uptoBulkAll {H : Type} : List (DataW H) → Nat
  | [] => 0
  | d :: r => uptoBulk d + uptoBulkAll r
def uptoBulkEntries {H : Type} : List (Lit × DataW H) → Nat
  | [] => 0
  | x :: r => uptoBulkEntry x + uptoBulkEntries r
def uptoBulkEntry {H : Type} : Lit × DataW H → Nat
  | (.string bytes, d) => bytes.length + uptoBulk d + 1
  | (_, d) => uptoBulk d + 1
 end
def uptoSmall : (H : Type) → List (DataW H) → Bool := fun _ ds => decide (uptoBulkAll ds ≤ 1048576)
def OpenSpec.upto (s : _root_.Go.ChangeSpec) : _root_.Go.OpenSpec := { _root_.Go.OpenSpec.ofChange s with cond := some uptoSmall }

/-- 'laws.FnStarted', WHERE WHAT IT READS IS OF BULK AT MOST 1048576: true; the input reads as it did. -/
def fnStartedUptoRow : OpenClaim := { program := "ytbaffippdifbpaagreat", sum := "e77fbd1c3fdfe0f8b8ff40a216ee454c7630b46c6151483e2b220b8e2ab72c4c", func := "loop.example/g03316/laws.FnStarted", spec := "fnStarted", unfollowed := true, recurses := true, plainKeys := false, apart := false, narrowed := true }
def FnStartedUptoSaid : Prop := fnStartedUptoRow.holds Tryz.pinned (OpenSpec.upto fnStartedSpec)

/-- 'laws.FnExactNewMission', WHERE WHAT IT READS IS OF BULK AT MOST 1048576: true; the input reads as it did. -/
def fnExactNewMissionUptoRow : OpenClaim := { program := "ytbaffippdifbpaagreat", sum := "e77fbd1c3fdfe0f8b8ff40a216ee454c7630b46c6151483e2b220b8e2ab72c4c", func := "loop.example/g03316/laws.FnExactNewMission", spec := "fnExactNewMission", plainKeys := false, apart := false, narrowed := true }
def FnExactNewMissionUptoSaid : Prop := fnExactNewMissionUptoRow.holds Tryz.pinned (OpenSpec.upto fnExactNewMissionSpec)

/-- 'laws.FnExactClearSky', WHERE WHAT IT READS IS OF BULK AT MOST 1048576: true; the input reads as it did. -/
def fnExactClearSkyUptoRow : OpenClaim := { program := "ytbaffippdifbpaagreat", sum := "e77fbd1c3fdfe0f8b8ff40a216ee454c7630b46c6151483e2b220b8e2ab72c4c", func := "loop.example/g03316/laws.FnExactClearSky", spec := "fnExactClearSky", plainKeys := false, apart := false, narrowed := true }
def FnExactClearSkyUptoSaid : Prop := fnExactClearSkyUptoRow.holds Tryz.pinned (OpenSpec.upto fnExactClearSkySpec)

/-- 'laws.FnExactGiveOrder', WHERE WHAT IT READS IS OF BULK AT MOST 1048576: true; the input reads as it did. -/
def fnExactGiveOrderUptoRow : OpenClaim := { program := "ytbaffippdifbpaagreat", sum := "e77fbd1c3fdfe0f8b8ff40a216ee454c7630b46c6151483e2b220b8e2ab72c4c", func := "loop.example/g03316/laws.FnExactGiveOrder", spec := "fnExactGiveOrder", plainKeys := false, apart := false, narrowed := true }
def FnExactGiveOrderUptoSaid : Prop := fnExactGiveOrderUptoRow.holds Tryz.pinned (OpenSpec.upto fnExactGiveOrderSpec)

/-- 'laws.FnExactAskMissing', WHERE WHAT IT READS IS OF BULK AT MOST 1048576: true; the input reads as it did. -/
def fnExactAskMissingUptoRow : OpenClaim := { program := "ytbaffippdifbpaagreat", sum := "e77fbd1c3fdfe0f8b8ff40a216ee454c7630b46c6151483e2b220b8e2ab72c4c", func := "loop.example/g03316/laws.FnExactAskMissing", spec := "fnExactAskMissing", plainKeys := false, apart := false, narrowed := true }
def FnExactAskMissingUptoSaid : Prop := fnExactAskMissingUptoRow.holds Tryz.pinned (OpenSpec.upto fnExactAskMissingSpec)

/-- 'laws.FnExactAdvanceBoard', WHERE WHAT IT READS IS OF BULK AT MOST 1048576: true; the input reads as it did. -/
def fnExactAdvanceBoardUptoRow : OpenClaim := { program := "ytbaffippdifbpaagreat", sum := "e77fbd1c3fdfe0f8b8ff40a216ee454c7630b46c6151483e2b220b8e2ab72c4c", func := "loop.example/g03316/laws.FnExactAdvanceBoard", spec := "fnExactAdvanceBoard", plainKeys := false, apart := false, narrowed := true }
def FnExactAdvanceBoardUptoSaid : Prop := fnExactAdvanceBoardUptoRow.holds Tryz.pinned (OpenSpec.upto fnExactAdvanceBoardSpec)

end Rows
end Go.Proofs.YtbaffippdifbpaaGreat
