/-
  No cell of these rows narrows 'for every input' (looked for: loops, veiled, ifaces, maps, wideKeys, modest, calm, conditions, laid).
  DERIVED. THE GIVEN ROWS OF THIS SEAT. 12 by the template 'for every input the law returns true; each argument reads behind the call as it read before'; 0 by the template 'total and deterministic' (their statements: YtgmikiidcpbjbaaGreatTotals.lean).
  GIVEN WITH THE SEED: the statements are not yours to turn. If you find one false, say at which input.
  Laid BY PROGRAM, IN A SANDBOX (cutbox-rows.mjs): the forced cells as the released guide's own fill.sh prints them over the translation 1389369bb80406b4… (all of the seat's roots in one cut). By AI agents, Wed Nov 11 2026. No macro, syntax, notation, axiom, sorry.
-/
import Derived.Test.YtgmikiidcpbjbaaGreatChecked
import GoSem.Claim
import GoSem.ClaimJoined
import GoSem.ClaimMapViews
import Derived.JoinedTies
import Derived.KernelRfl
namespace Go.Proofs.YtgmikiidcpbjbaaGreat
/- THE CELL 'sum', in the pinned program and in every row, IS THE sha256 OF THE DUMP (.gsa) THAT YtgmikiidcpbjbaaGreatProg.lean LOADS. Nothing in Lean hashes anything: it is a label: what it is worth is what the hold of that sum in a sandbox is worth. -/
noncomputable def Tryz.pinned : Pinned := { name := "ytgmikiidcpbjbaagreat", sum := "1389369bb80406b46e222f646c98e20544ff2b4d4cf67a42803b9f64663bb5f6", checked := Tryz.checked }
namespace Rows
def none {H : Type} : Left H := { results := [], args := [] }

/-- 'laws.FnExactAskMissing': WHATEVER THE INPUT: true; the input reads as it did. -/
def fnExactAskMissingSpec : ChangeSpec := { name := "fnExactAskMissing", fn := fun _ => fun
  | [d] => { results := [.lit (.bool true)], args := [d] }
  | _ => none }
def fnExactAskMissingRow : OpenClaim := { program := "ytgmikiidcpbjbaagreat", sum := "1389369bb80406b46e222f646c98e20544ff2b4d4cf67a42803b9f64663bb5f6", func := "loop.example/g03316/laws.FnExactAskMissing", spec := "fnExactAskMissing", plainKeys := false, apart := false }
def FnExactAskMissingSaid : Prop := fnExactAskMissingRow.holds Tryz.pinned (OpenSpec.ofChange fnExactAskMissingSpec)

/-- ITS FALSE NEIGHBOUR: 'it returns false'. Refute it at one input. -/
def fnExactAskMissingWrong : ChangeSpec := { name := "fnExactAskMissing", fn := fun _ => fun
  | [d] => { results := [.lit (.bool false)], args := [d] }
  | _ => none }
def FnExactAskMissingWrongFalsely : Prop := fnExactAskMissingRow.holds Tryz.pinned (OpenSpec.ofChange fnExactAskMissingWrong)

/-- 'laws.FnExactAdvanceBoard': WHATEVER THE INPUT: true; the input reads as it did. -/
def fnExactAdvanceBoardSpec : ChangeSpec := { name := "fnExactAdvanceBoard", fn := fun _ => fun
  | [d] => { results := [.lit (.bool true)], args := [d] }
  | _ => none }
def fnExactAdvanceBoardRow : OpenClaim := { program := "ytgmikiidcpbjbaagreat", sum := "1389369bb80406b46e222f646c98e20544ff2b4d4cf67a42803b9f64663bb5f6", func := "loop.example/g03316/laws.FnExactAdvanceBoard", spec := "fnExactAdvanceBoard", plainKeys := false, apart := false }
def FnExactAdvanceBoardSaid : Prop := fnExactAdvanceBoardRow.holds Tryz.pinned (OpenSpec.ofChange fnExactAdvanceBoardSpec)

/-- ITS FALSE NEIGHBOUR: 'it returns false'. Refute it at one input. -/
def fnExactAdvanceBoardWrong : ChangeSpec := { name := "fnExactAdvanceBoard", fn := fun _ => fun
  | [d] => { results := [.lit (.bool false)], args := [d] }
  | _ => none }
def FnExactAdvanceBoardWrongFalsely : Prop := fnExactAdvanceBoardRow.holds Tryz.pinned (OpenSpec.ofChange fnExactAdvanceBoardWrong)

/-- 'laws.FnExactSendUp': WHATEVER THE INPUT: true; the input reads as it did. -/
def fnExactSendUpSpec : ChangeSpec := { name := "fnExactSendUp", fn := fun _ => fun
  | [d] => { results := [.lit (.bool true)], args := [d] }
  | _ => none }
def fnExactSendUpRow : OpenClaim := { program := "ytgmikiidcpbjbaagreat", sum := "1389369bb80406b46e222f646c98e20544ff2b4d4cf67a42803b9f64663bb5f6", func := "loop.example/g03316/laws.FnExactSendUp", spec := "fnExactSendUp", plainKeys := false, apart := false }
def FnExactSendUpSaid : Prop := fnExactSendUpRow.holds Tryz.pinned (OpenSpec.ofChange fnExactSendUpSpec)

/-- ITS FALSE NEIGHBOUR: 'it returns false'. Refute it at one input. -/
def fnExactSendUpWrong : ChangeSpec := { name := "fnExactSendUp", fn := fun _ => fun
  | [d] => { results := [.lit (.bool false)], args := [d] }
  | _ => none }
def FnExactSendUpWrongFalsely : Prop := fnExactSendUpRow.holds Tryz.pinned (OpenSpec.ofChange fnExactSendUpWrong)

/-- 'laws.FnExactHearDown': WHATEVER THE INPUT: true; the input reads as it did. -/
def fnExactHearDownSpec : ChangeSpec := { name := "fnExactHearDown", fn := fun _ => fun
  | [d] => { results := [.lit (.bool true)], args := [d] }
  | _ => none }
def fnExactHearDownRow : OpenClaim := { program := "ytgmikiidcpbjbaagreat", sum := "1389369bb80406b46e222f646c98e20544ff2b4d4cf67a42803b9f64663bb5f6", func := "loop.example/g03316/laws.FnExactHearDown", spec := "fnExactHearDown", plainKeys := false, apart := false }
def FnExactHearDownSaid : Prop := fnExactHearDownRow.holds Tryz.pinned (OpenSpec.ofChange fnExactHearDownSpec)

/-- ITS FALSE NEIGHBOUR: 'it returns false'. Refute it at one input. -/
def fnExactHearDownWrong : ChangeSpec := { name := "fnExactHearDown", fn := fun _ => fun
  | [d] => { results := [.lit (.bool false)], args := [d] }
  | _ => none }
def FnExactHearDownWrongFalsely : Prop := fnExactHearDownRow.holds Tryz.pinned (OpenSpec.ofChange fnExactHearDownWrong)

/-- 'laws.FnExactHearUplink': WHATEVER THE INPUT: true; the input reads as it did. -/
def fnExactHearUplinkSpec : ChangeSpec := { name := "fnExactHearUplink", fn := fun _ => fun
  | [d] => { results := [.lit (.bool true)], args := [d] }
  | _ => none }
def fnExactHearUplinkRow : OpenClaim := { program := "ytgmikiidcpbjbaagreat", sum := "1389369bb80406b46e222f646c98e20544ff2b4d4cf67a42803b9f64663bb5f6", func := "loop.example/g03316/laws.FnExactHearUplink", spec := "fnExactHearUplink", inPlace := ["slices.overlaps[loop.example/g03316/impl.Waiting]"], plainKeys := false, apart := false }
def FnExactHearUplinkSaid : Prop := fnExactHearUplinkRow.holds Tryz.pinned (OpenSpec.ofChange fnExactHearUplinkSpec)

/-- ITS FALSE NEIGHBOUR: 'it returns false'. Refute it at one input. -/
def fnExactHearUplinkWrong : ChangeSpec := { name := "fnExactHearUplink", fn := fun _ => fun
  | [d] => { results := [.lit (.bool false)], args := [d] }
  | _ => none }
def FnExactHearUplinkWrongFalsely : Prop := fnExactHearUplinkRow.holds Tryz.pinned (OpenSpec.ofChange fnExactHearUplinkWrong)

/-- 'laws.FnExactSendDown': WHATEVER THE INPUT: true; the input reads as it did. -/
def fnExactSendDownSpec : ChangeSpec := { name := "fnExactSendDown", fn := fun _ => fun
  | [d] => { results := [.lit (.bool true)], args := [d] }
  | _ => none }
def fnExactSendDownRow : OpenClaim := { program := "ytgmikiidcpbjbaagreat", sum := "1389369bb80406b46e222f646c98e20544ff2b4d4cf67a42803b9f64663bb5f6", func := "loop.example/g03316/laws.FnExactSendDown", spec := "fnExactSendDown", inPlace := ["internal/abi.NoEscape", "internal/bytealg.MakeNoZero"], plainKeys := false, apart := false }
def FnExactSendDownSaid : Prop := fnExactSendDownRow.holds Tryz.pinned (OpenSpec.ofChange fnExactSendDownSpec)

/-- ITS FALSE NEIGHBOUR: 'it returns false'. Refute it at one input. -/
def fnExactSendDownWrong : ChangeSpec := { name := "fnExactSendDown", fn := fun _ => fun
  | [d] => { results := [.lit (.bool false)], args := [d] }
  | _ => none }
def FnExactSendDownWrongFalsely : Prop := fnExactSendDownRow.holds Tryz.pinned (OpenSpec.ofChange fnExactSendDownWrong)

/-- 'laws.FnMissionSplit': WHATEVER THE INPUT: true; the input reads as it did. -/
def fnMissionSplitSpec : ChangeSpec := { name := "fnMissionSplit", fn := fun _ => fun
  | [d] => { results := [.lit (.bool true)], args := [d] }
  | _ => none }
def fnMissionSplitRow : OpenClaim := { program := "ytgmikiidcpbjbaagreat", sum := "1389369bb80406b46e222f646c98e20544ff2b4d4cf67a42803b9f64663bb5f6", func := "loop.example/g03316/laws.FnMissionSplit", spec := "fnMissionSplit", inPlace := ["slices.overlaps[loop.example/g03316/impl.Waiting]", "internal/abi.NoEscape", "internal/bytealg.MakeNoZero"], plainKeys := false, apart := false }
def FnMissionSplitSaid : Prop := fnMissionSplitRow.holds Tryz.pinned (OpenSpec.ofChange fnMissionSplitSpec)

/-- ITS FALSE NEIGHBOUR: 'it returns false'. Refute it at one input. -/
def fnMissionSplitWrong : ChangeSpec := { name := "fnMissionSplit", fn := fun _ => fun
  | [d] => { results := [.lit (.bool false)], args := [d] }
  | _ => none }
def FnMissionSplitWrongFalsely : Prop := fnMissionSplitRow.holds Tryz.pinned (OpenSpec.ofChange fnMissionSplitWrong)

/-- 'laws.FnOutOfSight': WHATEVER THE INPUT: true; the input reads as it did. -/
def fnOutOfSightSpec : ChangeSpec := { name := "fnOutOfSight", fn := fun _ => fun
  | [d] => { results := [.lit (.bool true)], args := [d] }
  | _ => none }
def fnOutOfSightRow : OpenClaim := { program := "ytgmikiidcpbjbaagreat", sum := "1389369bb80406b46e222f646c98e20544ff2b4d4cf67a42803b9f64663bb5f6", func := "loop.example/g03316/laws.FnOutOfSight", spec := "fnOutOfSight", inPlace := ["slices.overlaps[loop.example/g03316/impl.Waiting]", "internal/abi.NoEscape", "internal/bytealg.MakeNoZero"], plainKeys := false, apart := false }
def FnOutOfSightSaid : Prop := fnOutOfSightRow.holds Tryz.pinned (OpenSpec.ofChange fnOutOfSightSpec)

/-- ITS FALSE NEIGHBOUR: 'it returns false'. Refute it at one input. -/
def fnOutOfSightWrong : ChangeSpec := { name := "fnOutOfSight", fn := fun _ => fun
  | [d] => { results := [.lit (.bool false)], args := [d] }
  | _ => none }
def FnOutOfSightWrongFalsely : Prop := fnOutOfSightRow.holds Tryz.pinned (OpenSpec.ofChange fnOutOfSightWrong)

/-- 'laws.FnTimesTold': WHATEVER THE INPUT: true; the input reads as it did. -/
def fnTimesToldSpec : ChangeSpec := { name := "fnTimesTold", fn := fun _ => fun
  | [d] => { results := [.lit (.bool true)], args := [d] }
  | _ => none }
def fnTimesToldRow : OpenClaim := { program := "ytgmikiidcpbjbaagreat", sum := "1389369bb80406b46e222f646c98e20544ff2b4d4cf67a42803b9f64663bb5f6", func := "loop.example/g03316/laws.FnTimesTold", spec := "fnTimesTold", inPlace := ["slices.overlaps[loop.example/g03316/impl.Waiting]", "internal/abi.NoEscape", "internal/bytealg.MakeNoZero"], unfollowed := true, recurses := true, plainKeys := false, apart := false }
def FnTimesToldSaid : Prop := fnTimesToldRow.holds Tryz.pinned (OpenSpec.ofChange fnTimesToldSpec)

/-- ITS FALSE NEIGHBOUR: 'it returns false'. Refute it at one input. -/
def fnTimesToldWrong : ChangeSpec := { name := "fnTimesTold", fn := fun _ => fun
  | [d] => { results := [.lit (.bool false)], args := [d] }
  | _ => none }
def FnTimesToldWrongFalsely : Prop := fnTimesToldRow.holds Tryz.pinned (OpenSpec.ofChange fnTimesToldWrong)

/-- 'laws.FnTop': WHATEVER THE INPUT: true; the input reads as it did. -/
def fnTopSpec : ChangeSpec := { name := "fnTop", fn := fun _ => fun
  | [d] => { results := [.lit (.bool true)], args := [d] }
  | _ => none }
def fnTopRow : OpenClaim := { program := "ytgmikiidcpbjbaagreat", sum := "1389369bb80406b46e222f646c98e20544ff2b4d4cf67a42803b9f64663bb5f6", func := "loop.example/g03316/laws.FnTop", spec := "fnTop", inPlace := ["slices.overlaps[loop.example/g03316/impl.Waiting]", "internal/abi.NoEscape", "internal/bytealg.MakeNoZero"], unfollowed := true, recurses := true, plainKeys := false, apart := false }
def FnTopSaid : Prop := fnTopRow.holds Tryz.pinned (OpenSpec.ofChange fnTopSpec)

/-- ITS FALSE NEIGHBOUR: 'it returns false'. Refute it at one input. -/
def fnTopWrong : ChangeSpec := { name := "fnTop", fn := fun _ => fun
  | [d] => { results := [.lit (.bool false)], args := [d] }
  | _ => none }
def FnTopWrongFalsely : Prop := fnTopRow.holds Tryz.pinned (OpenSpec.ofChange fnTopWrong)

/-- 'laws.FnExactStepMission': WHATEVER THE INPUT: true; the input reads as it did. -/
def fnExactStepMissionSpec : ChangeSpec := { name := "fnExactStepMission", fn := fun _ => fun
  | [d] => { results := [.lit (.bool true)], args := [d] }
  | _ => none }
def fnExactStepMissionRow : OpenClaim := { program := "ytgmikiidcpbjbaagreat", sum := "1389369bb80406b46e222f646c98e20544ff2b4d4cf67a42803b9f64663bb5f6", func := "loop.example/g03316/laws.FnExactStepMission", spec := "fnExactStepMission", inPlace := ["slices.overlaps[loop.example/g03316/impl.Waiting]", "internal/abi.NoEscape", "internal/bytealg.MakeNoZero"], plainKeys := false, apart := false }
def FnExactStepMissionSaid : Prop := fnExactStepMissionRow.holds Tryz.pinned (OpenSpec.ofChange fnExactStepMissionSpec)

/-- ITS FALSE NEIGHBOUR: 'it returns false'. Refute it at one input. -/
def fnExactStepMissionWrong : ChangeSpec := { name := "fnExactStepMission", fn := fun _ => fun
  | [d] => { results := [.lit (.bool false)], args := [d] }
  | _ => none }
def FnExactStepMissionWrongFalsely : Prop := fnExactStepMissionRow.holds Tryz.pinned (OpenSpec.ofChange fnExactStepMissionWrong)

/-- 'laws.FnExactRunMission': WHATEVER THE INPUT: true; the input reads as it did. -/
def fnExactRunMissionSpec : ChangeSpec := { name := "fnExactRunMission", fn := fun _ => fun
  | [d1, d2] => { results := [.lit (.bool true)], args := [d1, d2] }
  | _ => none }
def fnExactRunMissionRow : OpenClaim := { program := "ytgmikiidcpbjbaagreat", sum := "1389369bb80406b46e222f646c98e20544ff2b4d4cf67a42803b9f64663bb5f6", func := "loop.example/g03316/laws.FnExactRunMission", spec := "fnExactRunMission", inPlace := ["slices.overlaps[loop.example/g03316/impl.Waiting]", "internal/abi.NoEscape", "internal/bytealg.MakeNoZero"], plainKeys := false, apart := false }
def FnExactRunMissionSaid : Prop := fnExactRunMissionRow.holds Tryz.pinned (OpenSpec.ofChange fnExactRunMissionSpec)

/-- ITS FALSE NEIGHBOUR: 'it returns false'. Refute it at one input. -/
def fnExactRunMissionWrong : ChangeSpec := { name := "fnExactRunMission", fn := fun _ => fun
  | [d1, d2] => { results := [.lit (.bool false)], args := [d1, d2] }
  | _ => none }
def FnExactRunMissionWrongFalsely : Prop := fnExactRunMissionRow.holds Tryz.pinned (OpenSpec.ofChange fnExactRunMissionWrong)

/- THE SECOND FORM. 'bulk': how many values and letters a reading holds, each counted each time it is reached (what is shared counts as often as it is met; a slice's spare places count too). A statement '..UptoSaid' is the law's where the arguments, and the package variables that the reading takes, are together of bulk at most 1048576: NARROWER than '..Said'. Prove '..Said' where nothing that the law and all that it calls make is longer than what came in: it says more and counts as full. Else prove '..UptoSaid'. A law counts once. -/
mutual
def uptoBulk {H : Type} : DataW H → Nat
  | .lit (.string bytes) => bytes.length + 1
  | .lit _ => 1
  | .nil => 1
  | .ptr d => uptoBulk d + 1
  | .slice elems spare => uptoBulkAll elems + uptoBulkAll spare + 1
  | .agg parts => uptoBulkAll parts + 1
  | .iface _ d => uptoBulk d + 1
  | .map entries => uptoBulkEntries entries + 1
  | .held _ => 1
def uptoBulkAll {H : Type} : List (DataW H) → Nat
  | [] => 0
  | d :: r => uptoBulk d + uptoBulkAll r
def uptoBulkEntries {H : Type} : List (Lit × DataW H) → Nat
  | [] => 0
  | x :: r => uptoBulkEntry x + uptoBulkEntries r
def uptoBulkEntry {H : Type} : Lit × DataW H → Nat
  | (.string bytes, d) => bytes.length + uptoBulk d + 1
  | (_, d) => uptoBulk d + 1
 end
def uptoSmall : (H : Type) → List (DataW H) → Bool := fun _ ds => decide (uptoBulkAll ds ≤ 1048576)
def OpenSpec.upto (s : _root_.Go.ChangeSpec) : _root_.Go.OpenSpec := { _root_.Go.OpenSpec.ofChange s with cond := some uptoSmall }

/-- 'laws.FnExactAskMissing', WHERE WHAT IT READS IS OF BULK AT MOST 1048576: true; the input reads as it did. -/
def fnExactAskMissingUptoRow : OpenClaim := { program := "ytgmikiidcpbjbaagreat", sum := "1389369bb80406b46e222f646c98e20544ff2b4d4cf67a42803b9f64663bb5f6", func := "loop.example/g03316/laws.FnExactAskMissing", spec := "fnExactAskMissing", plainKeys := false, apart := false, narrowed := true }
def FnExactAskMissingUptoSaid : Prop := fnExactAskMissingUptoRow.holds Tryz.pinned (OpenSpec.upto fnExactAskMissingSpec)

/-- 'laws.FnExactAdvanceBoard', WHERE WHAT IT READS IS OF BULK AT MOST 1048576: true; the input reads as it did. -/
def fnExactAdvanceBoardUptoRow : OpenClaim := { program := "ytgmikiidcpbjbaagreat", sum := "1389369bb80406b46e222f646c98e20544ff2b4d4cf67a42803b9f64663bb5f6", func := "loop.example/g03316/laws.FnExactAdvanceBoard", spec := "fnExactAdvanceBoard", plainKeys := false, apart := false, narrowed := true }
def FnExactAdvanceBoardUptoSaid : Prop := fnExactAdvanceBoardUptoRow.holds Tryz.pinned (OpenSpec.upto fnExactAdvanceBoardSpec)

/-- 'laws.FnExactSendUp', WHERE WHAT IT READS IS OF BULK AT MOST 1048576: true; the input reads as it did. -/
def fnExactSendUpUptoRow : OpenClaim := { program := "ytgmikiidcpbjbaagreat", sum := "1389369bb80406b46e222f646c98e20544ff2b4d4cf67a42803b9f64663bb5f6", func := "loop.example/g03316/laws.FnExactSendUp", spec := "fnExactSendUp", plainKeys := false, apart := false, narrowed := true }
def FnExactSendUpUptoSaid : Prop := fnExactSendUpUptoRow.holds Tryz.pinned (OpenSpec.upto fnExactSendUpSpec)

/-- 'laws.FnExactHearDown', WHERE WHAT IT READS IS OF BULK AT MOST 1048576: true; the input reads as it did. -/
def fnExactHearDownUptoRow : OpenClaim := { program := "ytgmikiidcpbjbaagreat", sum := "1389369bb80406b46e222f646c98e20544ff2b4d4cf67a42803b9f64663bb5f6", func := "loop.example/g03316/laws.FnExactHearDown", spec := "fnExactHearDown", plainKeys := false, apart := false, narrowed := true }
def FnExactHearDownUptoSaid : Prop := fnExactHearDownUptoRow.holds Tryz.pinned (OpenSpec.upto fnExactHearDownSpec)

/-- 'laws.FnExactHearUplink', WHERE WHAT IT READS IS OF BULK AT MOST 1048576: true; the input reads as it did. -/
def fnExactHearUplinkUptoRow : OpenClaim := { program := "ytgmikiidcpbjbaagreat", sum := "1389369bb80406b46e222f646c98e20544ff2b4d4cf67a42803b9f64663bb5f6", func := "loop.example/g03316/laws.FnExactHearUplink", spec := "fnExactHearUplink", inPlace := ["slices.overlaps[loop.example/g03316/impl.Waiting]"], plainKeys := false, apart := false, narrowed := true }
def FnExactHearUplinkUptoSaid : Prop := fnExactHearUplinkUptoRow.holds Tryz.pinned (OpenSpec.upto fnExactHearUplinkSpec)

/-- 'laws.FnExactSendDown', WHERE WHAT IT READS IS OF BULK AT MOST 1048576: true; the input reads as it did. -/
def fnExactSendDownUptoRow : OpenClaim := { program := "ytgmikiidcpbjbaagreat", sum := "1389369bb80406b46e222f646c98e20544ff2b4d4cf67a42803b9f64663bb5f6", func := "loop.example/g03316/laws.FnExactSendDown", spec := "fnExactSendDown", inPlace := ["internal/abi.NoEscape", "internal/bytealg.MakeNoZero"], plainKeys := false, apart := false, narrowed := true }
def FnExactSendDownUptoSaid : Prop := fnExactSendDownUptoRow.holds Tryz.pinned (OpenSpec.upto fnExactSendDownSpec)

/-- 'laws.FnMissionSplit', WHERE WHAT IT READS IS OF BULK AT MOST 1048576: true; the input reads as it did. -/
def fnMissionSplitUptoRow : OpenClaim := { program := "ytgmikiidcpbjbaagreat", sum := "1389369bb80406b46e222f646c98e20544ff2b4d4cf67a42803b9f64663bb5f6", func := "loop.example/g03316/laws.FnMissionSplit", spec := "fnMissionSplit", inPlace := ["slices.overlaps[loop.example/g03316/impl.Waiting]", "internal/abi.NoEscape", "internal/bytealg.MakeNoZero"], plainKeys := false, apart := false, narrowed := true }
def FnMissionSplitUptoSaid : Prop := fnMissionSplitUptoRow.holds Tryz.pinned (OpenSpec.upto fnMissionSplitSpec)

/-- 'laws.FnOutOfSight', WHERE WHAT IT READS IS OF BULK AT MOST 1048576: true; the input reads as it did. -/
def fnOutOfSightUptoRow : OpenClaim := { program := "ytgmikiidcpbjbaagreat", sum := "1389369bb80406b46e222f646c98e20544ff2b4d4cf67a42803b9f64663bb5f6", func := "loop.example/g03316/laws.FnOutOfSight", spec := "fnOutOfSight", inPlace := ["slices.overlaps[loop.example/g03316/impl.Waiting]", "internal/abi.NoEscape", "internal/bytealg.MakeNoZero"], plainKeys := false, apart := false, narrowed := true }
def FnOutOfSightUptoSaid : Prop := fnOutOfSightUptoRow.holds Tryz.pinned (OpenSpec.upto fnOutOfSightSpec)

/-- 'laws.FnTimesTold', WHERE WHAT IT READS IS OF BULK AT MOST 1048576: true; the input reads as it did. -/
def fnTimesToldUptoRow : OpenClaim := { program := "ytgmikiidcpbjbaagreat", sum := "1389369bb80406b46e222f646c98e20544ff2b4d4cf67a42803b9f64663bb5f6", func := "loop.example/g03316/laws.FnTimesTold", spec := "fnTimesTold", inPlace := ["slices.overlaps[loop.example/g03316/impl.Waiting]", "internal/abi.NoEscape", "internal/bytealg.MakeNoZero"], unfollowed := true, recurses := true, plainKeys := false, apart := false, narrowed := true }
def FnTimesToldUptoSaid : Prop := fnTimesToldUptoRow.holds Tryz.pinned (OpenSpec.upto fnTimesToldSpec)

/-- 'laws.FnTop', WHERE WHAT IT READS IS OF BULK AT MOST 1048576: true; the input reads as it did. -/
def fnTopUptoRow : OpenClaim := { program := "ytgmikiidcpbjbaagreat", sum := "1389369bb80406b46e222f646c98e20544ff2b4d4cf67a42803b9f64663bb5f6", func := "loop.example/g03316/laws.FnTop", spec := "fnTop", inPlace := ["slices.overlaps[loop.example/g03316/impl.Waiting]", "internal/abi.NoEscape", "internal/bytealg.MakeNoZero"], unfollowed := true, recurses := true, plainKeys := false, apart := false, narrowed := true }
def FnTopUptoSaid : Prop := fnTopUptoRow.holds Tryz.pinned (OpenSpec.upto fnTopSpec)

/-- 'laws.FnExactStepMission', WHERE WHAT IT READS IS OF BULK AT MOST 1048576: true; the input reads as it did. -/
def fnExactStepMissionUptoRow : OpenClaim := { program := "ytgmikiidcpbjbaagreat", sum := "1389369bb80406b46e222f646c98e20544ff2b4d4cf67a42803b9f64663bb5f6", func := "loop.example/g03316/laws.FnExactStepMission", spec := "fnExactStepMission", inPlace := ["slices.overlaps[loop.example/g03316/impl.Waiting]", "internal/abi.NoEscape", "internal/bytealg.MakeNoZero"], plainKeys := false, apart := false, narrowed := true }
def FnExactStepMissionUptoSaid : Prop := fnExactStepMissionUptoRow.holds Tryz.pinned (OpenSpec.upto fnExactStepMissionSpec)

/-- 'laws.FnExactRunMission', WHERE WHAT IT READS IS OF BULK AT MOST 1048576: true; the input reads as it did. -/
def fnExactRunMissionUptoRow : OpenClaim := { program := "ytgmikiidcpbjbaagreat", sum := "1389369bb80406b46e222f646c98e20544ff2b4d4cf67a42803b9f64663bb5f6", func := "loop.example/g03316/laws.FnExactRunMission", spec := "fnExactRunMission", inPlace := ["slices.overlaps[loop.example/g03316/impl.Waiting]", "internal/abi.NoEscape", "internal/bytealg.MakeNoZero"], plainKeys := false, apart := false, narrowed := true }
def FnExactRunMissionUptoSaid : Prop := fnExactRunMissionUptoRow.holds Tryz.pinned (OpenSpec.upto fnExactRunMissionSpec)

end Rows
end Go.Proofs.YtgmikiidcpbjbaaGreat
