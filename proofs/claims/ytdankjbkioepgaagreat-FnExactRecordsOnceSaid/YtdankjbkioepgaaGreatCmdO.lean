/- The contracts of CommandsOnce, both sides. No condition but on sizes. -/
import Derived.Test.YtdankjbkioepgaaGreatDSh
import Derived.Test.YtdankjbkioepgaaGreatStr
namespace Go.Proofs.YtdankjbkioepgaaGreat
set_option linter.unusedVariables false
open Go.ChangeShapes Go.WideShapes Go.ChangeAt Go.RowKit

theorem RdS.toSlStr {B : Nat} {w : World} {a : Option Addr} {c : Nat} {l : List ByteArray} (h : RdS B w a c l) : Sl encStr w a l := fun i x hx => by
  obtain ⟨b, off, vs, h0, -, h2, h3, h4⟩ := h.2.2.2 i x hx
  exact ⟨b, off, h0, h2, fun j v hv => by
    obtain ⟨rfl, -⟩ := h3
    have := h4 j v hv
    rw [show Enc.size ByteArray = (encStr x).length from rfl] at this
    exact this⟩
theorem RdS.take {α : Type} [E : Enc α] {B : Nat} {w : World} {a : Option Addr} {c : Nat} {l : List α} (h : RdS B w a c l) (n : Nat) : RdS B w a c (l.take n) := by
  refine ⟨by have := h.1; simp; omega, h.2.1, h.2.2.1, fun i x hx => ?_⟩
  refine h.2.2.2 i x ?_
  rw [List.getElem?_take] at hx
  split at hx
  · exact hx
  · cases hx
/-- A mission's cell. -/
theorem mcell {B : Nat} {w : World} {vs : List Value} {m : TMission} (h : Enc.Rd B w vs m) : ∃ A : TMissionA, vs = [.int .i64 m.Time, .int .i64 m.Light, .int .i64 m.Drift.Rate, .int .i64 m.Drift.Offset, .int .i64 m.Orbit.Period, .int .i64 m.Orbit.Start, .int .i64 m.Orbit.Length, .slice A.a0 m.Plan.length A.c0, .int .i64 m.Up.Seed, .int .i64 m.Up.Burst, .int .i64 m.Up.Loss, .int .i64 m.Down.Seed, .int .i64 m.Down.Burst, .int .i64 m.Down.Loss, .slice A.a1 m.Ups.length A.c1, .slice A.a2 m.Downs.length A.c2, .slice A.a3 m.Ground.Offers.length A.c3, .int .i64 m.Ground.Sender.Next, .int .i64 m.Ground.Sender.Window, .slice A.a4 m.Ground.Sender.Waiting.length A.c4, .int .i64 m.Ground.Sender.Done, .int .i64 m.Ground.Notice.Expect, .bool m.Ground.Notice.Locked, .bool m.Ground.Notice.Again, .int .i64 m.Ground.Unpacker.Channel, .int .i64 m.Ground.Unpacker.Next, .bool m.Ground.Unpacker.Synced, .string m.Ground.Unpacker.Rest, .int .i64 m.Ground.Unpacker.Lost, .slice A.a5 m.Ground.Pairs.length A.c5, .slice A.a6 m.Ground.Records.length A.c6, .slice A.a7 m.Ground.Files.length A.c7, .slice A.a8 m.Ground.Told.length A.c8, .int .i64 m.Space.Receiver.Expect, .bool m.Space.Receiver.Locked, .bool m.Space.Receiver.Again, .int .i64 m.Space.Receiver.Taken, .int .i64 m.Space.Board.Clock, .slice A.a9 m.Space.Board.Params.length A.c9, .bool m.Space.Board.Safe, .slice A.a10 m.Space.Board.Limits.length A.c10, .slice A.a11 m.Space.Board.Orders.length A.c11, .slice A.a12 m.Space.Board.Done.length A.c12, .int .i64 m.Space.Board.Recorder.Room, .slice A.a13 m.Space.Board.Recorder.Records.length A.c13, .slice A.a14 m.Space.Board.Recorder.Dropped.length A.c14, .int .i64 m.Space.Board.Made, .int .i64 m.Space.Board.Taken, .slice A.a15 m.Space.Board.Asked.length A.c15, .int .i64 m.Space.Packer.Channel, .int .i64 m.Space.Packer.Count, .string m.Space.Packer.Rest, .slice A.a16 m.Space.Packer.Starts.length A.c16, .int .i64 m.Space.Seq, .slice A.a17 m.Space.Files.length A.c17, .slice A.a18 m.Space.Outs.length A.c18, .int .i64 m.Space.Begun, .slice A.a19 m.Space.Sent.length A.c19, .slice A.a20 m.Offered.length A.c20, .slice A.a21 m.Took.length A.c21, .int .i64 m.Bad] ∧ TMissionF B w A m := h

set_option maxRecDepth 100000 in
set_option maxHeartbeats 2000000 in
theorem c_equalStr {a a' : Option Addr} {n n' c c' : Nat} {l l' : List ByteArray} {w : World} (hs : Sl encStr w a l) (hs' : Sl encStr w a' l') (hn : l.length = n) (hn' : l'.length = n') (hm : n ≤ 4611686018427387904) (hm' : n' ≤ 4611686018427387904) :
    Calls Tryz.prog 40 #[.slice a n c, .slice a' n' c'] w (Gives w (.bool ((n == n') && eqAll eqStr l l'))) := by
  by_cases hnn : n = n'
  · subst hnn
    have kn : ((n : Int) != (n : Int)) = false := by simp
    go_enter Tryz.func40, Tryz.ntmps40
    go_wp2_with (first | ((with_reducible refine wp_region_later (by kernel_rfl) (by kernel_rfl) ?_); (repeat (first | go_big_quiet_step (first | fail) | simp only [kn])); refine wpQuiet_nil ?_; rintro _ ⟨x, rfl⟩))
    go_loopw [13] (fun v wr => ∃ k : Nat, v = .int .i64 k ∧ k ≤ n ∧ Hid (eqAll eqStr (l.drop k) (l'.drop k) = eqAll eqStr l l') ∧ ∃ x : Later w, wr = x.w) (fun v _ => (n - intOf v).toNat)
    case atStart => exact ⟨0, rfl, by omega, rfl, Later.here w, rfl⟩
    case round =>
      obtain ⟨k, rfl, hk, hf, x, rfl⟩ := hrel
      by_cases h : k < n
      · obtain ⟨b, off, s, rfl, hb, hd, h0⟩ := hs.str (show k < l.length by omega)
        obtain ⟨b', off', s', rfl, hb', hd', h0'⟩ := hs'.str (show k < l'.length by omega)
        cases he : (s.toList == s'.toList)
        · have he2 : (s.toList != s'.toList) = true := by simp [bne, he]
          go_wp2_with (first | ((with_reducible refine wp_region_later (by kernel_rfl) (by kernel_rfl) ?_); (repeat (first | go_big_quiet_step (first | fail) | simp only [he2])); refine wpQuiet_nil ?_; rintro _ ⟨x, rfl⟩))
          go_ret
          exact Gives.mk (by have := hf.out; rw [hd.out, hd'.out, eqAll, eqStr, he] at this; simp [← this])
        · have he2 : (s.toList != s'.toList) = false := by simp [bne, he]
          go_wp2_with (first | ((with_reducible refine wp_region_later (by kernel_rfl) (by kernel_rfl) ?_); (repeat (first | go_big_quiet_step (first | fail) | simp only [he2])); refine wpQuiet_nil ?_; rintro _ ⟨x, rfl⟩))
          go_roundw
          case rel => exact ⟨k + 1, by go_num, by omega, by have := hf.out; rw [hd.out, hd'.out, eqAll, eqStr, he, Bool.true_and] at this; exact this, Later.of⟩
          case measure => simp [intOf]; omega
      · go_wp2_with (first | ((with_reducible refine wp_region_later (by kernel_rfl) (by kernel_rfl) ?_); (repeat (first | go_big_quiet_step (first | fail))); refine wpQuiet_nil ?_; rintro _ ⟨x, rfl⟩))
        go_ret
        exact Gives.mk (by have := hf.out; rw [List.drop_of_length_le (by omega), List.drop_of_length_le (by omega)] at this; simp [← this, eqAll])
  · have kn : ((n : Int) != (n' : Int)) = true := by simp; omega
    go_enter Tryz.func40, Tryz.ntmps40
    go_wp2_with (first | ((with_reducible refine wp_region_later (by kernel_rfl) (by kernel_rfl) ?_); (repeat (first | go_big_quiet_step (first | fail) | simp only [kn])); refine wpQuiet_nil ?_; rintro _ ⟨x, rfl⟩))
    go_ret
    exact Gives.mk (by simp [hnn])

def commandsOnce (m : TMission) : Bool := decide (m.Took.length ≤ m.Offered.length) && (eqAll eqStr m.Took (m.Offered.take m.Took.length) && (m.Space.Receiver.Taken == (m.Took.length : Int)))

set_option maxRecDepth 100000 in
set_option maxHeartbeats 2000000 in
theorem c_iCommandsOnce {B : Nat} {vs : List Value} {m : TMission} {w : World} (h : Enc.Rd B w vs m) (ht : Enc.tot m ≤ 1048576) :
    Calls Tryz.prog 13 #[.agg vs.toArray] w (Gives w (.bool (commandsOnce m))) := by
  obtain ⟨A, hvs, F⟩ := mcell h
  have hb := mbounds ht
  have hb1 := totL_len m.Took; have hb2 := totL_len m.Offered
  clear ht h
  have HB := Held.new w vs 91 w.heap.size rfl
  have e20 := HB.cellG 58 (.slice A.a20 m.Offered.length A.c20) (by rw [hvs]; rfl)
  have e21 := HB.cellG 59 (.slice A.a21 m.Took.length A.c21) (by rw [hvs]; rfl)
  have eT := HB.cellG 36 (.int .i64 m.Space.Receiver.Taken) (by rw [hvs]; rfl)
  clear HB hvs
  have hm1 : m.Offered.length ≤ 1048576 := by omega
  have hm2 : m.Took.length ≤ 1048576 := by omega
  clear hb hb1 hb2
  have hc1 := F.q20.cap
  have q1 := Lib.hid (And.intro F.q20.cap F.q20.nilcap)
  have HQ := Lib.hid (And.intro F.q21.toSlStr (F.q20.take m.Took.length).toSlStr)
  clear F
  obtain ⟨n, hn⟩ : ∃ n, m.Took.length = n := ⟨_, rfl⟩
  obtain ⟨n2, hn2⟩ : ∃ n, m.Offered.length = n := ⟨_, rfl⟩
  obtain ⟨t, htk⟩ : ∃ t, m.Space.Receiver.Taken = t := ⟨_, rfl⟩
  have HV := Lib.hid (show commandsOnce m = (decide (n ≤ n2) && (eqAll eqStr m.Took (m.Offered.take n) && (t == (n : Int)))) by rw [commandsOnce, hn, hn2, htk])
  rw [hn] at e21 hm2 HQ; rw [hn2] at e20 hm1 hc1 q1
  rw [htk] at eT
  have HN := Lib.hid (And.intro hn hn2); clear hn hn2 htk
  by_cases hle : n ≤ n2
  · have k1 : decide ((n : Int) ≤ (n2 : Int)) = true := by simp; omega
    have hle1 : (n : Int) ≤ (A.c20 : Int) := by omega
    have hle2 : n ≤ A.c20 := by omega
    obtain ⟨e, he⟩ : ∃ e, eqAll eqStr m.Took (m.Offered.take n) = e := ⟨_, rfl⟩
    have ce : ∀ {W : World} [Grows w W], Calls Tryz.prog 40 #[.slice A.a21 n A.c21, .slice A.a20 n A.c20] W (Gives W (.bool e)) := fun {W} _ => by
      have := c_equalStr (w := W) (n := n) (n' := n) (c := A.c21) (c' := A.c20) (HQ.out.1.to inferInstance) (HQ.out.2.to inferInstance) HN.out.1 (by have := HN.out.2; rw [List.length_take]; omega) (by omega) (by omega)
      rw [he] at this
      simpa using this
    have HV2 := Lib.hid (show commandsOnce m = (e && (t == (n : Int))) by rw [HV.out, he, decide_eq_true hle]; rfl)
    clear he HV q1
    cases e
    · go_enter Tryz.func13, Tryz.ntmps13
      go_wp2_with (first | ((with_reducible refine wp_region_later (by kernel_rfl) (by kernel_rfl) ?_); (repeat (first | go_big_quiet_step (first | (go_at_call 40; exact Gives.quiet (ce))) | simp only [k1])); refine wpQuiet_nil ?_; rintro _ ⟨x, rfl⟩) | (go_at_call 40; refine (ce).mono ?_; rintro _ _ ⟨rfl, x, rfl⟩))
      go_ret
      exact Gives.mk (by rw [HV2.out]; rfl)
    · go_enter Tryz.func13, Tryz.ntmps13
      go_wp2_with (first | ((with_reducible refine wp_region_later (by kernel_rfl) (by kernel_rfl) ?_); (repeat (first | go_big_quiet_step (first | (go_at_call 40; exact Gives.quiet (ce))) | simp only [k1])); refine wpQuiet_nil ?_; rintro _ ⟨x, rfl⟩) | (go_at_call 40; refine (ce).mono ?_; rintro _ _ ⟨rfl, x, rfl⟩))
      go_ret
      exact Gives.mk (by rw [HV2.out]; rfl)
  · have k1 : decide ((n : Int) ≤ (n2 : Int)) = false := by simp; omega
    have HV2 := Lib.hid (show commandsOnce m = false by rw [HV.out, decide_eq_false hle]; rfl)
    clear HV
    go_enter Tryz.func13, Tryz.ntmps13
    go_wp2_with (first | ((with_reducible refine wp_region_later (by kernel_rfl) (by kernel_rfl) ?_); (repeat (first | go_big_quiet_step (first | fail) | simp only [k1])); refine wpQuiet_nil ?_; rintro _ ⟨x, rfl⟩))
    go_ret
    exact Gives.mk (by rw [HV2.out]; rfl)

theorem eqAll_take {α : Type} (f : α → α → Bool) : ∀ (l l' : List α), eqAll f l (l'.take l.length) = eqAll f l l'
  | [], l' => by cases l' <;> simp [eqAll]
  | x :: l, [] => by simp [eqAll]
  | x :: l, y :: l' => by simp [eqAll, eqAll_take f l l']

set_option maxRecDepth 100000 in
set_option maxHeartbeats 2000000 in
theorem c_sCommandsOnce {B : Nat} {vs : List Value} {m : TMission} {w : World} (h : Enc.Rd B w vs m) (ht : Enc.tot m ≤ 1048576) :
    Calls Tryz.prog 11 #[.agg vs.toArray] w (Gives w (.bool (commandsOnce m))) := by
  obtain ⟨A, hvs, F⟩ := mcell h
  have hb := mbounds ht
  have hb1 := totL_len m.Took; have hb2 := totL_len m.Offered
  clear ht h
  have HB := Held.new w vs 91 w.heap.size rfl
  have e20 := HB.cellG 58 (.slice A.a20 m.Offered.length A.c20) (by rw [hvs]; rfl)
  have e21 := HB.cellG 59 (.slice A.a21 m.Took.length A.c21) (by rw [hvs]; rfl)
  have eT := HB.cellG 36 (.int .i64 m.Space.Receiver.Taken) (by rw [hvs]; rfl)
  clear HB hvs
  have hm1 : m.Offered.length ≤ 1048576 := by omega
  have hm2 : m.Took.length ≤ 1048576 := by omega
  clear hb hb1 hb2
  have hs := F.q21.toSlStr; have hs2 := F.q20.toSlStr
  clear F
  obtain ⟨n, hn⟩ : ∃ n, m.Took.length = n := ⟨_, rfl⟩
  obtain ⟨n2, hn2⟩ : ∃ n, m.Offered.length = n := ⟨_, rfl⟩
  obtain ⟨t, htk⟩ : ∃ t, m.Space.Receiver.Taken = t := ⟨_, rfl⟩
  have HV := Lib.hid (show commandsOnce m = (decide (n ≤ n2) && (eqAll eqStr m.Took m.Offered && (t == (n : Int)))) by rw [commandsOnce, eqAll_take, hn, hn2, htk])
  rw [hn] at e21 hm2; rw [hn2] at e20 hm1
  rw [htk] at eT
  have HN := Lib.hid (And.intro hn hn2); clear hn hn2 htk
  by_cases hle : n ≤ n2
  · have k1 : decide ((n2 : Int) < (n : Int)) = false := by simp; omega
    cases k2 : (t == (n : Int))
    · have k3 : (t != (n : Int)) = true := by rw [bne, k2]; rfl
      have HV2 := Lib.hid (show commandsOnce m = false by rw [HV.out, k2]; simp)
      clear HV
      go_enter Tryz.func11, Tryz.ntmps11
      go_wp2_with (first | ((with_reducible refine wp_region_later (by kernel_rfl) (by kernel_rfl) ?_); (repeat (first | go_big_quiet_step (first | fail) | simp only [k1] | simp only [k3])); refine wpQuiet_nil ?_; rintro _ ⟨x, rfl⟩))
      go_ret
      exact Gives.mk (by rw [HV2.out]; rfl)
    · have k3 : (t != (n : Int)) = false := by rw [bne, k2]; rfl
      have HV2 := Lib.hid (show commandsOnce m = eqAll eqStr m.Took m.Offered by rw [HV.out, k2, decide_eq_true hle]; simp)
      clear HV
      go_enter Tryz.func11, Tryz.ntmps11
      go_wp2_with (first | ((with_reducible refine wp_region_later (by kernel_rfl) (by kernel_rfl) ?_); (repeat (first | go_big_quiet_step (first | fail) | simp only [k1] | simp only [k3])); refine wpQuiet_nil ?_; rintro _ ⟨x, rfl⟩))
      go_loopw [3] (fun v wr => ∃ k : Nat, v = .int .i64 k ∧ k ≤ n ∧ Hid (eqAll eqStr (m.Took.drop k) (m.Offered.drop k) = eqAll eqStr m.Took m.Offered) ∧ ∃ x : Later (w.alloc (.cells vs.toArray 91)), wr = x.w) (fun v _ => (n - intOf v).toNat)
      case atStart => exact ⟨0, rfl, by omega, rfl, Later.of⟩
      case round =>
        obtain ⟨k, rfl, hk, hf, x, rfl⟩ := hrel
        by_cases h : k < n
        · have hka : k < m.Took.length := by have := HN.out.1; omega
          have hkb : k < m.Offered.length := by have := HN.out.2; omega
          have hk2 : k < n2 := by omega
          obtain ⟨b, off, s, ha1, hb, hd, h0⟩ := hs.str hka
          obtain ⟨b', off', s', ha2, hb', hd', h0'⟩ := hs2.str hkb
          rw [ha1] at e21
          rw [ha2] at e20
          clear hka hkb ha1 ha2
          cases he : (s.toList == s'.toList)
          · have he2 : (s.toList != s'.toList) = true := by simp [bne, he]
            go_wp2_with (first | ((with_reducible refine wp_region_later (by kernel_rfl) (by kernel_rfl) ?_); (repeat (first | go_big_quiet_step (first | fail) | simp only [he2])); refine wpQuiet_nil ?_; rintro _ ⟨x, rfl⟩))
            go_ret
            exact Gives.mk (by have := hf.out; rw [hd.out, hd'.out, eqAll, eqStr, he] at this; rw [HV2.out, ← this]; rfl)
          · have he2 : (s.toList != s'.toList) = false := by simp [bne, he]
            go_wp2_with (first | ((with_reducible refine wp_region_later (by kernel_rfl) (by kernel_rfl) ?_); (repeat (first | go_big_quiet_step (first | fail) | simp only [he2])); refine wpQuiet_nil ?_; rintro _ ⟨x, rfl⟩))
            go_roundw
            case rel => exact ⟨k + 1, by go_num, by omega, by have := hf.out; rw [hd.out, hd'.out, eqAll, eqStr, he, Bool.true_and] at this; exact this, Later.of⟩
            case measure => simp [intOf]; omega
        · go_wp2_with (first | ((with_reducible refine wp_region_later (by kernel_rfl) (by kernel_rfl) ?_); (repeat (first | go_big_quiet_step (first | fail))); refine wpQuiet_nil ?_; rintro _ ⟨x, rfl⟩))
          go_ret
          exact Gives.mk (by have := hf.out; rw [List.drop_of_length_le (by have := HN.out.1; omega)] at this; rw [HV2.out, ← this]; simp [eqAll])
  · have k1 : decide ((n2 : Int) < (n : Int)) = true := by simp; omega
    have HV2 := Lib.hid (show commandsOnce m = false by rw [HV.out, decide_eq_false hle]; rfl)
    clear HV
    go_enter Tryz.func11, Tryz.ntmps11
    go_wp2_with (first | ((with_reducible refine wp_region_later (by kernel_rfl) (by kernel_rfl) ?_); (repeat (first | go_big_quiet_step (first | fail) | simp only [k1])); refine wpQuiet_nil ?_; rintro _ ⟨x, rfl⟩))
    go_ret
    exact Gives.mk (by rw [HV2.out]; rfl)
end Go.Proofs.YtdankjbkioepgaaGreat
