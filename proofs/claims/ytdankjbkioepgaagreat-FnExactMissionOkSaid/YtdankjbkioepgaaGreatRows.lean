/-
  No cell of these rows narrows 'for every input' (looked for: loops, veiled, ifaces, maps, wideKeys, modest, calm, conditions, laid).
  DERIVED. THE GIVEN ROWS OF THIS SEAT. 7 by the template 'for every input the law returns true; each argument reads behind the call as it read before'; 0 by the template 'total and deterministic' (their statements: YtdankjbkioepgaaGreatTotals.lean).
  GIVEN WITH THE SEED: the statements are not yours to turn. If you find one false, say at which input.
  Laid BY PROGRAM, IN A SANDBOX (cutbox-rows.mjs): the forced cells as the released guide's own fill.sh prints them over the translation 167d781e2fdd86be… (all of the seat's roots in one cut). By AI agents, Wed Nov 11 2026. No macro, syntax, notation, axiom, sorry.
-/
import Derived.Test.YtdankjbkioepgaaGreatChecked
import GoSem.Claim
import GoSem.ClaimJoined
import GoSem.ClaimMapViews
import Derived.JoinedTies
import Derived.KernelRfl
namespace Go.Proofs.YtdankjbkioepgaaGreat
/- THE CELL 'sum', in the pinned program and in every row, IS THE sha256 OF THE DUMP (.gsa) THAT YtdankjbkioepgaaGreatProg.lean LOADS. Nothing in Lean hashes anything: it is a label: what it is worth is what the hold of that sum in a sandbox is worth. -/
noncomputable def Tryz.pinned : Pinned := { name := "ytdankjbkioepgaagreat", sum := "167d781e2fdd86bef2a71994cf3d99349d7983712daceb27a220b595618ae54e", checked := Tryz.checked }
namespace Rows
def none {H : Type} : Left H := { results := [], args := [] }

/-- 'laws.FnExactCommandsOnce': WHATEVER THE INPUT: true; the input reads as it did. -/
def fnExactCommandsOnceSpec : ChangeSpec := { name := "fnExactCommandsOnce", fn := fun _ => fun
  | [d] => { results := [.lit (.bool true)], args := [d] }
  | _ => none }
def fnExactCommandsOnceRow : OpenClaim := { program := "ytdankjbkioepgaagreat", sum := "167d781e2fdd86bef2a71994cf3d99349d7983712daceb27a220b595618ae54e", func := "loop.example/g03316/laws.FnExactCommandsOnce", spec := "fnExactCommandsOnce", plainKeys := false, apart := false }
def FnExactCommandsOnceSaid : Prop := fnExactCommandsOnceRow.holds Tryz.pinned (OpenSpec.ofChange fnExactCommandsOnceSpec)

/-- ITS FALSE NEIGHBOUR: 'it returns false'. Refute it at one input. -/
def fnExactCommandsOnceWrong : ChangeSpec := { name := "fnExactCommandsOnce", fn := fun _ => fun
  | [d] => { results := [.lit (.bool false)], args := [d] }
  | _ => none }
def FnExactCommandsOnceWrongFalsely : Prop := fnExactCommandsOnceRow.holds Tryz.pinned (OpenSpec.ofChange fnExactCommandsOnceWrong)

/-- 'laws.FnExactOrdersOnce': WHATEVER THE INPUT: true; the input reads as it did. -/
def fnExactOrdersOnceSpec : ChangeSpec := { name := "fnExactOrdersOnce", fn := fun _ => fun
  | [d] => { results := [.lit (.bool true)], args := [d] }
  | _ => none }
def fnExactOrdersOnceRow : OpenClaim := { program := "ytdankjbkioepgaagreat", sum := "167d781e2fdd86bef2a71994cf3d99349d7983712daceb27a220b595618ae54e", func := "loop.example/g03316/laws.FnExactOrdersOnce", spec := "fnExactOrdersOnce", plainKeys := false, apart := false }
def FnExactOrdersOnceSaid : Prop := fnExactOrdersOnceRow.holds Tryz.pinned (OpenSpec.ofChange fnExactOrdersOnceSpec)

/-- ITS FALSE NEIGHBOUR: 'it returns false'. Refute it at one input. -/
def fnExactOrdersOnceWrong : ChangeSpec := { name := "fnExactOrdersOnce", fn := fun _ => fun
  | [d] => { results := [.lit (.bool false)], args := [d] }
  | _ => none }
def FnExactOrdersOnceWrongFalsely : Prop := fnExactOrdersOnceRow.holds Tryz.pinned (OpenSpec.ofChange fnExactOrdersOnceWrong)

/-- 'laws.FnExactRecordsOnce': WHATEVER THE INPUT: true; the input reads as it did. -/
def fnExactRecordsOnceSpec : ChangeSpec := { name := "fnExactRecordsOnce", fn := fun _ => fun
  | [d] => { results := [.lit (.bool true)], args := [d] }
  | _ => none }
def fnExactRecordsOnceRow : OpenClaim := { program := "ytdankjbkioepgaagreat", sum := "167d781e2fdd86bef2a71994cf3d99349d7983712daceb27a220b595618ae54e", func := "loop.example/g03316/laws.FnExactRecordsOnce", spec := "fnExactRecordsOnce", plainKeys := false, apart := false }
def FnExactRecordsOnceSaid : Prop := fnExactRecordsOnceRow.holds Tryz.pinned (OpenSpec.ofChange fnExactRecordsOnceSpec)

/-- ITS FALSE NEIGHBOUR: 'it returns false'. Refute it at one input. -/
def fnExactRecordsOnceWrong : ChangeSpec := { name := "fnExactRecordsOnce", fn := fun _ => fun
  | [d] => { results := [.lit (.bool false)], args := [d] }
  | _ => none }
def FnExactRecordsOnceWrongFalsely : Prop := fnExactRecordsOnceRow.holds Tryz.pinned (OpenSpec.ofChange fnExactRecordsOnceWrong)

/-- 'laws.FnExactFilesTrue': WHATEVER THE INPUT: true; the input reads as it did. -/
def fnExactFilesTrueSpec : ChangeSpec := { name := "fnExactFilesTrue", fn := fun _ => fun
  | [d] => { results := [.lit (.bool true)], args := [d] }
  | _ => none }
def fnExactFilesTrueRow : OpenClaim := { program := "ytdankjbkioepgaagreat", sum := "167d781e2fdd86bef2a71994cf3d99349d7983712daceb27a220b595618ae54e", func := "loop.example/g03316/laws.FnExactFilesTrue", spec := "fnExactFilesTrue", plainKeys := false, apart := false }
def FnExactFilesTrueSaid : Prop := fnExactFilesTrueRow.holds Tryz.pinned (OpenSpec.ofChange fnExactFilesTrueSpec)

/-- ITS FALSE NEIGHBOUR: 'it returns false'. Refute it at one input. -/
def fnExactFilesTrueWrong : ChangeSpec := { name := "fnExactFilesTrue", fn := fun _ => fun
  | [d] => { results := [.lit (.bool false)], args := [d] }
  | _ => none }
def FnExactFilesTrueWrongFalsely : Prop := fnExactFilesTrueRow.holds Tryz.pinned (OpenSpec.ofChange fnExactFilesTrueWrong)

/-- 'laws.FnExactTimesTrue': WHATEVER THE INPUT: true; the input reads as it did. -/
def fnExactTimesTrueSpec : ChangeSpec := { name := "fnExactTimesTrue", fn := fun _ => fun
  | [d] => { results := [.lit (.bool true)], args := [d] }
  | _ => none }
def fnExactTimesTrueRow : OpenClaim := { program := "ytdankjbkioepgaagreat", sum := "167d781e2fdd86bef2a71994cf3d99349d7983712daceb27a220b595618ae54e", func := "loop.example/g03316/laws.FnExactTimesTrue", spec := "fnExactTimesTrue", unfollowed := true, recurses := true, plainKeys := false, apart := false }
def FnExactTimesTrueSaid : Prop := fnExactTimesTrueRow.holds Tryz.pinned (OpenSpec.ofChange fnExactTimesTrueSpec)

/-- ITS FALSE NEIGHBOUR: 'it returns false'. Refute it at one input. -/
def fnExactTimesTrueWrong : ChangeSpec := { name := "fnExactTimesTrue", fn := fun _ => fun
  | [d] => { results := [.lit (.bool false)], args := [d] }
  | _ => none }
def FnExactTimesTrueWrongFalsely : Prop := fnExactTimesTrueRow.holds Tryz.pinned (OpenSpec.ofChange fnExactTimesTrueWrong)

/-- 'laws.FnExactMissionOk': WHATEVER THE INPUT: true; the input reads as it did. -/
def fnExactMissionOkSpec : ChangeSpec := { name := "fnExactMissionOk", fn := fun _ => fun
  | [d] => { results := [.lit (.bool true)], args := [d] }
  | _ => none }
def fnExactMissionOkRow : OpenClaim := { program := "ytdankjbkioepgaagreat", sum := "167d781e2fdd86bef2a71994cf3d99349d7983712daceb27a220b595618ae54e", func := "loop.example/g03316/laws.FnExactMissionOk", spec := "fnExactMissionOk", plainKeys := false, apart := false }
def FnExactMissionOkSaid : Prop := fnExactMissionOkRow.holds Tryz.pinned (OpenSpec.ofChange fnExactMissionOkSpec)

/-- ITS FALSE NEIGHBOUR: 'it returns false'. Refute it at one input. -/
def fnExactMissionOkWrong : ChangeSpec := { name := "fnExactMissionOk", fn := fun _ => fun
  | [d] => { results := [.lit (.bool false)], args := [d] }
  | _ => none }
def FnExactMissionOkWrongFalsely : Prop := fnExactMissionOkRow.holds Tryz.pinned (OpenSpec.ofChange fnExactMissionOkWrong)

/-- 'laws.FnExactLedgerOk': WHATEVER THE INPUT: true; the input reads as it did. -/
def fnExactLedgerOkSpec : ChangeSpec := { name := "fnExactLedgerOk", fn := fun _ => fun
  | [d] => { results := [.lit (.bool true)], args := [d] }
  | _ => none }
def fnExactLedgerOkRow : OpenClaim := { program := "ytdankjbkioepgaagreat", sum := "167d781e2fdd86bef2a71994cf3d99349d7983712daceb27a220b595618ae54e", func := "loop.example/g03316/laws.FnExactLedgerOk", spec := "fnExactLedgerOk", unfollowed := true, recurses := true, plainKeys := false, apart := false }
def FnExactLedgerOkSaid : Prop := fnExactLedgerOkRow.holds Tryz.pinned (OpenSpec.ofChange fnExactLedgerOkSpec)

/-- ITS FALSE NEIGHBOUR: 'it returns false'. Refute it at one input. -/
def fnExactLedgerOkWrong : ChangeSpec := { name := "fnExactLedgerOk", fn := fun _ => fun
  | [d] => { results := [.lit (.bool false)], args := [d] }
  | _ => none }
def FnExactLedgerOkWrongFalsely : Prop := fnExactLedgerOkRow.holds Tryz.pinned (OpenSpec.ofChange fnExactLedgerOkWrong)

/- THE SECOND FORM. 'bulk': how many values and letters a reading holds, each counted each time it is reached (what is shared counts as often as it is met; a slice's spare places count too). A statement '..UptoSaid' is the law's where the arguments, and the package variables that the reading takes, are together of bulk at most 1048576: NARROWER than '..Said'. Prove '..Said' where nothing that the law and all that it calls make is longer than what came in: it says more and counts as full. Else prove '..UptoSaid'. A law counts once. -/
mutual
def uptoBulk {H : Type} : DataW H → Nat
  | .lit (.string bytes) => bytes.length + 1
  | .lit _ => 1
  | .nil => 1
  | .ptr d => uptoBulk d + 1
  | .slice elems spare => uptoBulkAll elems + uptoBulkAll spare + 1
  | .agg parts => uptoBulkAll parts + 1
  | .iface _ d => uptoBulk d + 1
  | .map entries => uptoBulkEntries entries + 1
  | .held _ => 1
def uptoBulkAll {H : Type} : List (DataW H) → Nat
  | [] => 0
  | d :: r => uptoBulk d + uptoBulkAll r
def uptoBulkEntries {H : Type} : List (Lit × DataW H) → Nat
  | [] => 0
  | x :: r => uptoBulkEntry x + uptoBulkEntries r
def uptoBulkEntry {H : Type} : Lit × DataW H → Nat
  | (.string bytes, d) => bytes.length + uptoBulk d + 1
  | (_, d) => uptoBulk d + 1
 end
def uptoSmall : (H : Type) → List (DataW H) → Bool := fun _ ds => decide (uptoBulkAll ds ≤ 1048576)
def OpenSpec.upto (s : _root_.Go.ChangeSpec) : _root_.Go.OpenSpec := { _root_.Go.OpenSpec.ofChange s with cond := some uptoSmall }

/-- 'laws.FnExactCommandsOnce', WHERE WHAT IT READS IS OF BULK AT MOST 1048576: true; the input reads as it did. -/
def fnExactCommandsOnceUptoRow : OpenClaim := { program := "ytdankjbkioepgaagreat", sum := "167d781e2fdd86bef2a71994cf3d99349d7983712daceb27a220b595618ae54e", func := "loop.example/g03316/laws.FnExactCommandsOnce", spec := "fnExactCommandsOnce", plainKeys := false, apart := false, narrowed := true }
def FnExactCommandsOnceUptoSaid : Prop := fnExactCommandsOnceUptoRow.holds Tryz.pinned (OpenSpec.upto fnExactCommandsOnceSpec)

/-- 'laws.FnExactOrdersOnce', WHERE WHAT IT READS IS OF BULK AT MOST 1048576: true; the input reads as it did. -/
def fnExactOrdersOnceUptoRow : OpenClaim := { program := "ytdankjbkioepgaagreat", sum := "167d781e2fdd86bef2a71994cf3d99349d7983712daceb27a220b595618ae54e", func := "loop.example/g03316/laws.FnExactOrdersOnce", spec := "fnExactOrdersOnce", plainKeys := false, apart := false, narrowed := true }
def FnExactOrdersOnceUptoSaid : Prop := fnExactOrdersOnceUptoRow.holds Tryz.pinned (OpenSpec.upto fnExactOrdersOnceSpec)

/-- 'laws.FnExactRecordsOnce', WHERE WHAT IT READS IS OF BULK AT MOST 1048576: true; the input reads as it did. -/
def fnExactRecordsOnceUptoRow : OpenClaim := { program := "ytdankjbkioepgaagreat", sum := "167d781e2fdd86bef2a71994cf3d99349d7983712daceb27a220b595618ae54e", func := "loop.example/g03316/laws.FnExactRecordsOnce", spec := "fnExactRecordsOnce", plainKeys := false, apart := false, narrowed := true }
def FnExactRecordsOnceUptoSaid : Prop := fnExactRecordsOnceUptoRow.holds Tryz.pinned (OpenSpec.upto fnExactRecordsOnceSpec)

/-- 'laws.FnExactFilesTrue', WHERE WHAT IT READS IS OF BULK AT MOST 1048576: true; the input reads as it did. -/
def fnExactFilesTrueUptoRow : OpenClaim := { program := "ytdankjbkioepgaagreat", sum := "167d781e2fdd86bef2a71994cf3d99349d7983712daceb27a220b595618ae54e", func := "loop.example/g03316/laws.FnExactFilesTrue", spec := "fnExactFilesTrue", plainKeys := false, apart := false, narrowed := true }
def FnExactFilesTrueUptoSaid : Prop := fnExactFilesTrueUptoRow.holds Tryz.pinned (OpenSpec.upto fnExactFilesTrueSpec)

/-- 'laws.FnExactTimesTrue', WHERE WHAT IT READS IS OF BULK AT MOST 1048576: true; the input reads as it did. -/
def fnExactTimesTrueUptoRow : OpenClaim := { program := "ytdankjbkioepgaagreat", sum := "167d781e2fdd86bef2a71994cf3d99349d7983712daceb27a220b595618ae54e", func := "loop.example/g03316/laws.FnExactTimesTrue", spec := "fnExactTimesTrue", unfollowed := true, recurses := true, plainKeys := false, apart := false, narrowed := true }
def FnExactTimesTrueUptoSaid : Prop := fnExactTimesTrueUptoRow.holds Tryz.pinned (OpenSpec.upto fnExactTimesTrueSpec)

/-- 'laws.FnExactMissionOk', WHERE WHAT IT READS IS OF BULK AT MOST 1048576: true; the input reads as it did. -/
def fnExactMissionOkUptoRow : OpenClaim := { program := "ytdankjbkioepgaagreat", sum := "167d781e2fdd86bef2a71994cf3d99349d7983712daceb27a220b595618ae54e", func := "loop.example/g03316/laws.FnExactMissionOk", spec := "fnExactMissionOk", plainKeys := false, apart := false, narrowed := true }
def FnExactMissionOkUptoSaid : Prop := fnExactMissionOkUptoRow.holds Tryz.pinned (OpenSpec.upto fnExactMissionOkSpec)

/-- 'laws.FnExactLedgerOk', WHERE WHAT IT READS IS OF BULK AT MOST 1048576: true; the input reads as it did. -/
def fnExactLedgerOkUptoRow : OpenClaim := { program := "ytdankjbkioepgaagreat", sum := "167d781e2fdd86bef2a71994cf3d99349d7983712daceb27a220b595618ae54e", func := "loop.example/g03316/laws.FnExactLedgerOk", spec := "fnExactLedgerOk", unfollowed := true, recurses := true, plainKeys := false, apart := false, narrowed := true }
def FnExactLedgerOkUptoSaid : Prop := fnExactLedgerOkUptoRow.holds Tryz.pinned (OpenSpec.upto fnExactLedgerOkSpec)

end Rows
end Go.Proofs.YtdankjbkioepgaaGreat
