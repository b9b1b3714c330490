/- The contracts of MissionOk, both sides. No condition but on sizes. What walks of functions from a mission to a mission share. No condition but on sizes. A mission's marks, and what is held. No condition but on sizes. -/
import Derived.Test.YtbaffippdifbpaaGreatVMisI
import Derived.Test.YtbaffippdifbpaaGreatVMisS
import Derived.Test.YtbaffippdifbpaaGreatVCopyMI
import Derived.Test.YtbaffippdifbpaaGreatVCopyMS
import Derived.Test.YtbaffippdifbpaaGreatVDSh
import Derived.Test.YtbaffippdifbpaaGreatVMk5
import Derived.Test.YtbaffippdifbpaaGreatVMk6
import Derived.Test.YtbaffippdifbpaaGreatVM34
import Derived.Test.YtbaffippdifbpaaGreatVLto3
namespace Go.Proofs.YtbaffippdifbpaaGreat
set_option linter.unusedVariables false
open Go.ChangeShapes Go.WideShapes Go.ChangeAt Go.RowKit
end Go.Proofs.YtbaffippdifbpaaGreat
namespace Go.Proofs.YtbaffippdifbpaaGreat
set_option linter.unusedVariables false
open Go.ChangeShapes Go.WideShapes Go.ChangeAt Go.RowKit
theorem om_to {B o : Nat} {χ : Nat → Col} {w w2 : World} {vs : List Value} {m : TMission} (h : EncO.O B χ o w vs m) (g : Grows w w2) : EncO.O B χ o w2 vs m := by
  obtain ⟨A, h0, h1⟩ := h
  exact ⟨A, h0, h1.to g⟩
theorem om_keep {B o : Nat} {χ : Nat → Col} {w w2 : World} {vs : List Value} {m : TMission} (h : EncO.O B χ o w vs m) (g : Keeps B w w2) : EncO.O B χ o w2 vs m := by
  obtain ⟨A, h0, h1⟩ := h
  exact ⟨A, h0, h1.keep g⟩
theorem om_mono {B B2 o : Nat} {χ : Nat → Col} {w : World} {vs : List Value} {m : TMission} (h : EncO.O B χ o w vs m) (g : B2 ≤ B) : EncO.O B2 χ o w vs m := by
  obtain ⟨A, h0, h1⟩ := h
  exact ⟨A, h0, h1.mono g⟩
theorem len_mission {B : Nat} {w : World} {vs : List Value} {m : TMission} (h : Enc.Rd B w vs m) : vs.length = 61 := Enc.len h
end Go.Proofs.YtbaffippdifbpaaGreat
namespace Go.Proofs.YtbaffippdifbpaaGreat
set_option linter.unusedVariables false
open Go.ChangeShapes Go.WideShapes Go.ChangeAt Go.RowKit
theorem cellsM_mk (m : TMission) (k : Int) (A : TMissionA) : ([.int .i64 (mkMMission m k).Time, .int .i64 (mkMMission m k).Light, .int .i64 (mkMMission m k).Drift.Rate, .int .i64 (mkMMission m k).Drift.Offset, .int .i64 (mkMMission m k).Orbit.Period, .int .i64 (mkMMission m k).Orbit.Start, .int .i64 (mkMMission m k).Orbit.Length, .slice A.a0 (mkMMission m k).Plan.length A.c0, .int .i64 (mkMMission m k).Up.Seed, .int .i64 (mkMMission m k).Up.Burst, .int .i64 (mkMMission m k).Up.Loss, .int .i64 (mkMMission m k).Down.Seed, .int .i64 (mkMMission m k).Down.Burst, .int .i64 (mkMMission m k).Down.Loss, .slice A.a1 (mkMMission m k).Ups.length A.c1, .slice A.a2 (mkMMission m k).Downs.length A.c2, .slice A.a3 (mkMMission m k).Ground.Offers.length A.c3, .int .i64 (mkMMission m k).Ground.Sender.Next, .int .i64 (mkMMission m k).Ground.Sender.Window, .slice A.a4 (mkMMission m k).Ground.Sender.Waiting.length A.c4, .int .i64 (mkMMission m k).Ground.Sender.Done, .int .i64 (mkMMission m k).Ground.Notice.Expect, .bool (mkMMission m k).Ground.Notice.Locked, .bool (mkMMission m k).Ground.Notice.Again, .int .i64 (mkMMission m k).Ground.Unpacker.Channel, .int .i64 (mkMMission m k).Ground.Unpacker.Next, .bool (mkMMission m k).Ground.Unpacker.Synced, .string (mkMMission m k).Ground.Unpacker.Rest, .int .i64 (mkMMission m k).Ground.Unpacker.Lost, .slice A.a5 (mkMMission m k).Ground.Pairs.length A.c5, .slice A.a6 (mkMMission m k).Ground.Records.length A.c6, .slice A.a7 (mkMMission m k).Ground.Files.length A.c7, .slice A.a8 (mkMMission m k).Ground.Told.length A.c8, .int .i64 (mkMMission m k).Space.Receiver.Expect, .bool (mkMMission m k).Space.Receiver.Locked, .bool (mkMMission m k).Space.Receiver.Again, .int .i64 (mkMMission m k).Space.Receiver.Taken, .int .i64 (mkMMission m k).Space.Board.Clock, .slice A.a9 (mkMMission m k).Space.Board.Params.length A.c9, .bool (mkMMission m k).Space.Board.Safe, .slice A.a10 (mkMMission m k).Space.Board.Limits.length A.c10, .slice A.a11 (mkMMission m k).Space.Board.Orders.length A.c11, .slice A.a12 (mkMMission m k).Space.Board.Done.length A.c12, .int .i64 (mkMMission m k).Space.Board.Recorder.Room, .slice A.a13 (mkMMission m k).Space.Board.Recorder.Records.length A.c13, .slice A.a14 (mkMMission m k).Space.Board.Recorder.Dropped.length A.c14, .int .i64 (mkMMission m k).Space.Board.Made, .int .i64 (mkMMission m k).Space.Board.Taken, .slice A.a15 (mkMMission m k).Space.Board.Asked.length A.c15, .int .i64 (mkMMission m k).Space.Packer.Channel, .int .i64 (mkMMission m k).Space.Packer.Count, .string (mkMMission m k).Space.Packer.Rest, .slice A.a16 (mkMMission m k).Space.Packer.Starts.length A.c16, .int .i64 (mkMMission m k).Space.Seq, .slice A.a17 (mkMMission m k).Space.Files.length A.c17, .slice A.a18 (mkMMission m k).Space.Outs.length A.c18, .int .i64 (mkMMission m k).Space.Begun, .slice A.a19 (mkMMission m k).Space.Sent.length A.c19, .slice A.a20 (mkMMission m k).Offered.length A.c20, .slice A.a21 (mkMMission m k).Took.length A.c21, .int .i64 (mkMMission m k).Bad] : List Value) = [.int .i64 m.Time, .int .i64 m.Light, .int .i64 m.Drift.Rate, .int .i64 m.Drift.Offset, .int .i64 m.Orbit.Period, .int .i64 m.Orbit.Start, .int .i64 m.Orbit.Length, .slice A.a0 m.Plan.length A.c0, .int .i64 m.Up.Seed, .int .i64 m.Up.Burst, .int .i64 m.Up.Loss, .int .i64 m.Down.Seed, .int .i64 m.Down.Burst, .int .i64 m.Down.Loss, .slice A.a1 m.Ups.length A.c1, .slice A.a2 m.Downs.length A.c2, .slice A.a3 m.Ground.Offers.length A.c3, .int .i64 m.Ground.Sender.Next, .int .i64 m.Ground.Sender.Window, .slice A.a4 m.Ground.Sender.Waiting.length A.c4, .int .i64 m.Ground.Sender.Done, .int .i64 m.Ground.Notice.Expect, .bool m.Ground.Notice.Locked, .bool m.Ground.Notice.Again, .int .i64 m.Ground.Unpacker.Channel, .int .i64 m.Ground.Unpacker.Next, .bool m.Ground.Unpacker.Synced, .string m.Ground.Unpacker.Rest, .int .i64 m.Ground.Unpacker.Lost, .slice A.a5 m.Ground.Pairs.length A.c5, .slice A.a6 m.Ground.Records.length A.c6, .slice A.a7 m.Ground.Files.length A.c7, .slice A.a8 m.Ground.Told.length A.c8, .int .i64 m.Space.Receiver.Expect, .bool m.Space.Receiver.Locked, .bool m.Space.Receiver.Again, .int .i64 m.Space.Receiver.Taken, .int .i64 m.Space.Board.Clock, .slice A.a9 m.Space.Board.Params.length A.c9, .bool m.Space.Board.Safe, .slice A.a10 m.Space.Board.Limits.length A.c10, .slice A.a11 m.Space.Board.Orders.length A.c11, .slice A.a12 m.Space.Board.Done.length A.c12, .int .i64 m.Space.Board.Recorder.Room, .slice A.a13 m.Space.Board.Recorder.Records.length A.c13, .slice A.a14 m.Space.Board.Recorder.Dropped.length A.c14, .int .i64 m.Space.Board.Made, .int .i64 m.Space.Board.Taken, .slice A.a15 m.Space.Board.Asked.length A.c15, .int .i64 m.Space.Packer.Channel, .int .i64 m.Space.Packer.Count, .string m.Space.Packer.Rest, .slice A.a16 m.Space.Packer.Starts.length A.c16, .int .i64 m.Space.Seq, .slice A.a17 m.Space.Files.length A.c17, .slice A.a18 m.Space.Outs.length A.c18, .int .i64 m.Space.Begun, .slice A.a19 m.Space.Sent.length A.c19, .slice A.a20 m.Offered.length A.c20, .slice A.a21 m.Took.length A.c21, .int .i64 m.Bad] := by
  have e0 : (mkMMission m k).Plan.length = m.Plan.length := mkL_length _ _
  have e1 : (mkMMission m k).Ups.length = m.Ups.length := mkL_length _ _
  have e2 : (mkMMission m k).Downs.length = m.Downs.length := mkL_length _ _
  have e3 : (mkMMission m k).Ground.Offers.length = m.Ground.Offers.length := mkL_length _ _
  have e4 : (mkMMission m k).Ground.Sender.Waiting.length = m.Ground.Sender.Waiting.length := mkL_length _ _
  have e5 : (mkMMission m k).Ground.Pairs.length = m.Ground.Pairs.length := mkL_length _ _
  have e6 : (mkMMission m k).Ground.Records.length = m.Ground.Records.length := mkL_length _ _
  have e7 : (mkMMission m k).Ground.Files.length = m.Ground.Files.length := mkN_length _ _ _ _
  have e8 : (mkMMission m k).Ground.Told.length = m.Ground.Told.length := mkL_length _ _
  have e9 : (mkMMission m k).Space.Board.Params.length = m.Space.Board.Params.length := mkL_length _ _
  have e10 : (mkMMission m k).Space.Board.Limits.length = m.Space.Board.Limits.length := mkL_length _ _
  have e11 : (mkMMission m k).Space.Board.Orders.length = m.Space.Board.Orders.length := mkL_length _ _
  have e12 : (mkMMission m k).Space.Board.Done.length = m.Space.Board.Done.length := mkL_length _ _
  have e13 : (mkMMission m k).Space.Board.Recorder.Records.length = m.Space.Board.Recorder.Records.length := mkL_length _ _
  have e14 : (mkMMission m k).Space.Board.Recorder.Dropped.length = m.Space.Board.Recorder.Dropped.length := mkL_length _ _
  have e15 : (mkMMission m k).Space.Board.Asked.length = m.Space.Board.Asked.length := mkL_length _ _
  have e16 : (mkMMission m k).Space.Packer.Starts.length = m.Space.Packer.Starts.length := mkL_length _ _
  have e17 : (mkMMission m k).Space.Files.length = m.Space.Files.length := mkL_length _ _
  have e18 : (mkMMission m k).Space.Outs.length = m.Space.Outs.length := mkN_length _ _ _ _
  have e19 : (mkMMission m k).Space.Sent.length = m.Space.Sent.length := mkL_length _ _
  have e20 : (mkMMission m k).Offered.length = m.Offered.length := mkL_length _ _
  have e21 : (mkMMission m k).Took.length = m.Took.length := mkL_length _ _
  rw [e0, e1, e2, e3, e4, e5, e6, e7, e8, e9, e10, e11, e12, e13, e14, e15, e16, e17, e18, e19, e20, e21]
  rfl
theorem o_markM {B : Nat} {χ : Nat → Col} {w : World} {vs : List Value} {m : TMission} {k : Int} (h : EncO.O B χ 0 w vs m) (hf : Fresh χ w) (hB : B ≤ w.heap.size) (ht : Enc.tot m ≤ 100000000) (h1 : 0 ≤ k) (h2 : k ≤ 100000000000) :
    Calls Tryz.prog 31 #[.agg vs.toArray, .int .i64 k] w (Mkd (mnMMission m k) (fun w2 => EncO.O B χ 0 w2 vs (mkMMission m k)) (Fr B χ (Rng 0 22) w)) := by
  obtain ⟨A, rfl, F⟩ := h
  refine (o_lmarkMission F hf hB (by omega) ht h1 h2).mono fun e w2 hq => ?_
  obtain ⟨he, ho, hr⟩ := hq
  exact ⟨he, ⟨A, (cellsM_mk m k A).symm, ho⟩, by simpa using hr⟩
theorem o_heldM {B : Nat} {w : World} {vs : List Value} {m : TMission} {k : Int} (h : Enc.Rd B w vs (mkMMission m k)) (ht : Enc.tot m ≤ 100000000) (h1 : 0 ≤ k) (h2 : k ≤ 100000000000) :
    Calls Tryz.prog 32 #[.agg vs.toArray, .int .i64 k] w (Gives w (.int .i64 (mnMMission m k))) := by
  obtain ⟨A, rfl, F⟩ := h
  rw [cellsM_mk m k A]
  exact o_lheldMission F ht h1 h2
theorem dl_toMission {B : Nat} {vs : List Value} {x : TMission} {w : World} (h : Enc.Rd B w vs x) (ht : Enc.tot x ≤ 1048576) :
    Calls Tryz.prog 35 #[.agg vs.toArray] w (GivesD w x) := (o_ltoMission h ht).mono fun _ _ g => GivesO.d g
theorem om_old {B U o : Nat} {χ : Nat → Col} {w : World} {vs : List Value} {m : TMission} (h : EncO.O B χ o w vs m) (g : w.heap.size ≤ U) : EncO.O B (paint U χ (fun _ => (0, 0)) (fun _ => (1000, 0))) o w vs m := by
  obtain ⟨A, h0, h1⟩ := h
  exact ⟨A, h0, h1.old g⟩
theorem Held.past {u W z : World} {b c : Nat} {cs : List Value} {T : TypeId} (h : Held u c cs T) (g : Keeps 0 u W) (k : But b W z) (hb : u.heap.size ≤ b) : Held z c cs T := by
  have hl := h.lt
  unfold Held
  rw [k.block c (by omega) (Nat.lt_of_lt_of_le hl g.size), g.block c (Nat.zero_le _) hl]; exact h
theorem growsOf {W : World} (x y : Later W) (h : Keeps 0 x.w y.w) : Grows x.w y.w :=
  ⟨⟨y.h.os.trans x.h.os.symm, y.h.tape.trans x.h.tape.symm, y.h.output.trans x.h.output.symm, h.size, fun b hb => h.block b (Nat.zero_le _) hb⟩⟩
theorem growsTr {a b c : World} (h : Grows a b) (k : Grows b c) : Grows a c := ⟨h.out.trans (k.out.mono h.out.size)⟩
theorem stepLoadG {P : Program} {ops : Array Oper} {rest : List Oper} {op : Oper} {a : Act} {w : World} {Q : Exit → Act → World → Prop} (hw : Region.wanted op (yielded ops a.tmps) = true) (ty : TypeId) (x : Operand) (ho : op.op = .load ty x) (b o : Nat) (hx : a.eval x = .pointer (some ⟨b, o, none⟩)) {cs row : List Value} {T : TypeId} (H : Held w b cs T)
    (d : TypeDesc) (hu : P.underlying ty = some d) (hd : d.isRow = true) (hi : (P.info? ty).map (·.size) = some row.length) (hr : (cs.drop o).take row.length = row)
    (h : wpList P ops Q rest (a.put op.dst (.agg row.toArray)) w) : wpList P ops Q (op :: rest) a w :=
  wpList_step fun K hK => st_loadH hw ty x ho b o hx H d hu hd hi hr (hK _ _ h)
theorem Later.ofG {W w : World} (h : Grows W w) : ∃ x : Later W, w = x.w := ⟨⟨w, h.out⟩, rfl⟩
end Go.Proofs.YtbaffippdifbpaaGreat
