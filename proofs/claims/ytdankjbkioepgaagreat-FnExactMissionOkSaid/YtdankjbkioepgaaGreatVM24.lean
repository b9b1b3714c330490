/- What the laws on missions share. No condition but on sizes. · The contracts of CommandsOnce, both sides. No condition but on sizes. · The contracts of OrdersOnce, both sides. No condition but on sizes. -/
import Derived.Test.YtdankjbkioepgaaGreatVDM6
import Derived.Test.YtdankjbkioepgaaGreatVDM7
import Derived.Test.YtdankjbkioepgaaGreatVM2
import Derived.Test.YtdankjbkioepgaaGreatVM9
namespace Go.Proofs.YtdankjbkioepgaaGreat
set_option linter.unusedVariables false
open Go.ChangeShapes Go.WideShapes Go.ChangeAt Go.RowKit

theorem mbounds {m : TMission} (ht : Enc.tot m ≤ 1048576) : totL m.Took ≤ 1048576 ∧ totL m.Offered ≤ 1048576 ∧ Enc.tot m.Ground ≤ 1048576 ∧ Enc.tot m.Space ≤ 1048576 ∧ totL m.Plan ≤ 1048576 ∧ totL m.Ups ≤ 1048576 ∧ totL m.Downs ≤ 1048576 := by
  have h : totL m.Plan + totL m.Ups + totL m.Downs + Enc.tot m.Ground + Enc.tot m.Space + totL m.Offered + totL m.Took ≤ 1048576 := ht
  have h1 := totL_nonneg m.Plan; have h2 := totL_nonneg m.Ups; have h3 := totL_nonneg m.Downs; have h4 := Enc.tot_nonneg m.Ground; have h5 := Enc.tot_nonneg m.Space; have h6 := totL_nonneg m.Offered; have h7 := totL_nonneg m.Took
  omega
theorem one_mission {B : Nat} {w : World} {vs : List Value} {m : TMission} (h : Enc.Rd B w vs m) : vs.all (·.oneCell') = true := by
  obtain ⟨A, h, -⟩ := h
  rw [h]; rfl

end Go.Proofs.YtdankjbkioepgaaGreat

namespace Go.Proofs.YtdankjbkioepgaaGreat
set_option linter.unusedVariables false
open Go.ChangeShapes Go.WideShapes Go.ChangeAt Go.RowKit

theorem RdS.toSlStr {B : Nat} {w : World} {a : Option Addr} {c : Nat} {l : List ByteArray} (h : RdS B w a c l) : Sl encStr w a l := fun i x hx => by
  obtain ⟨b, off, vs, h0, -, h2, h3, h4⟩ := h.2.2.2 i x hx
  exact ⟨b, off, h0, h2, fun j v hv => by
    obtain ⟨rfl, -⟩ := h3
    have := h4 j v hv
    rw [show Enc.size ByteArray = (encStr x).length from rfl] at this
    exact this⟩
theorem RdS.take {α : Type} [E : Enc α] {B : Nat} {w : World} {a : Option Addr} {c : Nat} {l : List α} (h : RdS B w a c l) (n : Nat) : RdS B w a c (l.take n) := by
  refine ⟨by have := h.1; simp; omega, h.2.1, h.2.2.1, fun i x hx => ?_⟩
  refine h.2.2.2 i x ?_
  rw [List.getElem?_take] at hx
  split at hx
  · exact hx
  · cases hx
/-- A mission's cell. -/
theorem mcell {B : Nat} {w : World} {vs : List Value} {m : TMission} (h : Enc.Rd B w vs m) : ∃ A : TMissionA, vs = [.int .i64 m.Time, .int .i64 m.Light, .int .i64 m.Drift.Rate, .int .i64 m.Drift.Offset, .int .i64 m.Orbit.Period, .int .i64 m.Orbit.Start, .int .i64 m.Orbit.Length, .slice A.a0 m.Plan.length A.c0, .int .i64 m.Up.Seed, .int .i64 m.Up.Burst, .int .i64 m.Up.Loss, .int .i64 m.Down.Seed, .int .i64 m.Down.Burst, .int .i64 m.Down.Loss, .slice A.a1 m.Ups.length A.c1, .slice A.a2 m.Downs.length A.c2, .slice A.a3 m.Ground.Offers.length A.c3, .int .i64 m.Ground.Sender.Next, .int .i64 m.Ground.Sender.Window, .slice A.a4 m.Ground.Sender.Waiting.length A.c4, .int .i64 m.Ground.Sender.Done, .int .i64 m.Ground.Notice.Expect, .bool m.Ground.Notice.Locked, .bool m.Ground.Notice.Again, .int .i64 m.Ground.Unpacker.Channel, .int .i64 m.Ground.Unpacker.Next, .bool m.Ground.Unpacker.Synced, .string m.Ground.Unpacker.Rest, .int .i64 m.Ground.Unpacker.Lost, .slice A.a5 m.Ground.Pairs.length A.c5, .slice A.a6 m.Ground.Records.length A.c6, .slice A.a7 m.Ground.Files.length A.c7, .slice A.a8 m.Ground.Told.length A.c8, .int .i64 m.Space.Receiver.Expect, .bool m.Space.Receiver.Locked, .bool m.Space.Receiver.Again, .int .i64 m.Space.Receiver.Taken, .int .i64 m.Space.Board.Clock, .slice A.a9 m.Space.Board.Params.length A.c9, .bool m.Space.Board.Safe, .slice A.a10 m.Space.Board.Limits.length A.c10, .slice A.a11 m.Space.Board.Orders.length A.c11, .slice A.a12 m.Space.Board.Done.length A.c12, .int .i64 m.Space.Board.Recorder.Room, .slice A.a13 m.Space.Board.Recorder.Records.length A.c13, .slice A.a14 m.Space.Board.Recorder.Dropped.length A.c14, .int .i64 m.Space.Board.Made, .int .i64 m.Space.Board.Taken, .slice A.a15 m.Space.Board.Asked.length A.c15, .int .i64 m.Space.Packer.Channel, .int .i64 m.Space.Packer.Count, .string m.Space.Packer.Rest, .slice A.a16 m.Space.Packer.Starts.length A.c16, .int .i64 m.Space.Seq, .slice A.a17 m.Space.Files.length A.c17, .slice A.a18 m.Space.Outs.length A.c18, .int .i64 m.Space.Begun, .slice A.a19 m.Space.Sent.length A.c19, .slice A.a20 m.Offered.length A.c20, .slice A.a21 m.Took.length A.c21, .int .i64 m.Bad] ∧ TMissionF B w A m := h

set_option maxRecDepth 100000 in
set_option maxHeartbeats 2000000 in
theorem c_equalStr {a a' : Option Addr} {n n' c c' : Nat} {l l' : List ByteArray} {w : World} (hs : Sl encStr w a l) (hs' : Sl encStr w a' l') (hn : l.length = n) (hn' : l'.length = n') (hm : n ≤ 4611686018427387904) (hm' : n' ≤ 4611686018427387904) :
    Calls Tryz.prog 40 #[.slice a n c, .slice a' n' c'] w (Gives w (.bool ((n == n') && eqAll eqStr l l'))) := by
  by_cases hnn : n = n'
  · subst hnn
    have kn : ((n : Int) != (n : Int)) = false := by simp
    go_enter Tryz.func40, Tryz.ntmps40
    go_wp2_with (first | ((with_reducible refine wp_region_later (by kernel_rfl) (by kernel_rfl) ?_); (repeat (first | go_big_quiet_step (first | fail) | simp only [kn])); refine wpQuiet_nil ?_; rintro _ ⟨x, rfl⟩))
    go_loopw [13] (fun v wr => ∃ k : Nat, v = .int .i64 k ∧ k ≤ n ∧ Hid (eqAll eqStr (l.drop k) (l'.drop k) = eqAll eqStr l l') ∧ ∃ x : Later w, wr = x.w) (fun v _ => (n - intOf v).toNat)
    case atStart => exact ⟨0, rfl, by omega, rfl, Later.here w, rfl⟩
    case round =>
      obtain ⟨k, rfl, hk, hf, x, rfl⟩ := hrel
      by_cases h : k < n
      · obtain ⟨b, off, s, rfl, hb, hd, h0⟩ := hs.str (show k < l.length by omega)
        obtain ⟨b', off', s', rfl, hb', hd', h0'⟩ := hs'.str (show k < l'.length by omega)
        cases he : (s.toList == s'.toList)
        · have he2 : (s.toList != s'.toList) = true := by simp [bne, he]
          go_wp2_with (first | ((with_reducible refine wp_region_later (by kernel_rfl) (by kernel_rfl) ?_); (repeat (first | go_big_quiet_step (first | fail) | simp only [he2])); refine wpQuiet_nil ?_; rintro _ ⟨x, rfl⟩))
          go_ret
          exact Gives.mk (by have := hf.out; rw [hd.out, hd'.out, eqAll, eqStr, he] at this; simp [← this])
        · have he2 : (s.toList != s'.toList) = false := by simp [bne, he]
          go_wp2_with (first | ((with_reducible refine wp_region_later (by kernel_rfl) (by kernel_rfl) ?_); (repeat (first | go_big_quiet_step (first | fail) | simp only [he2])); refine wpQuiet_nil ?_; rintro _ ⟨x, rfl⟩))
          go_roundw
          case rel => exact ⟨k + 1, by go_num, by omega, by have := hf.out; rw [hd.out, hd'.out, eqAll, eqStr, he, Bool.true_and] at this; exact this, Later.of⟩
          case measure => simp [intOf]; omega
      · go_wp2_with (first | ((with_reducible refine wp_region_later (by kernel_rfl) (by kernel_rfl) ?_); (repeat (first | go_big_quiet_step (first | fail))); refine wpQuiet_nil ?_; rintro _ ⟨x, rfl⟩))
        go_ret
        exact Gives.mk (by have := hf.out; rw [List.drop_of_length_le (by omega), List.drop_of_length_le (by omega)] at this; simp [← this, eqAll])
  · have kn : ((n : Int) != (n' : Int)) = true := by simp; omega
    go_enter Tryz.func40, Tryz.ntmps40
    go_wp2_with (first | ((with_reducible refine wp_region_later (by kernel_rfl) (by kernel_rfl) ?_); (repeat (first | go_big_quiet_step (first | fail) | simp only [kn])); refine wpQuiet_nil ?_; rintro _ ⟨x, rfl⟩))
    go_ret
    exact Gives.mk (by simp [hnn])

def commandsOnce (m : TMission) : Bool := decide (m.Took.length ≤ m.Offered.length) && (eqAll eqStr m.Took (m.Offered.take m.Took.length) && (m.Space.Receiver.Taken == (m.Took.length : Int)))

set_option maxRecDepth 100000 in
set_option maxHeartbeats 2000000 in
theorem c_iCommandsOnce {B : Nat} {vs : List Value} {m : TMission} {w : World} (h : Enc.Rd B w vs m) (ht : Enc.tot m ≤ 1048576) :
    Calls Tryz.prog 13 #[.agg vs.toArray] w (Gives w (.bool (commandsOnce m))) := by
  obtain ⟨A, hvs, F⟩ := mcell h
  have hb := mbounds ht
  have hb1 := totL_len m.Took; have hb2 := totL_len m.Offered
  clear ht h
  have HB := Held.new w vs 91 w.heap.size rfl
  have e20 := HB.cellG 58 (.slice A.a20 m.Offered.length A.c20) (by rw [hvs]; rfl)
  have e21 := HB.cellG 59 (.slice A.a21 m.Took.length A.c21) (by rw [hvs]; rfl)
  have eT := HB.cellG 36 (.int .i64 m.Space.Receiver.Taken) (by rw [hvs]; rfl)
  clear HB hvs
  have hm1 : m.Offered.length ≤ 1048576 := by omega
  have hm2 : m.Took.length ≤ 1048576 := by omega
  clear hb hb1 hb2
  have hc1 := F.q20.cap
  have q1 := Lib.hid (And.intro F.q20.cap F.q20.nilcap)
  have HQ := Lib.hid (And.intro F.q21.toSlStr (F.q20.take m.Took.length).toSlStr)
  clear F
  obtain ⟨n, hn⟩ : ∃ n, m.Took.length = n := ⟨_, rfl⟩
  obtain ⟨n2, hn2⟩ : ∃ n, m.Offered.length = n := ⟨_, rfl⟩
  obtain ⟨t, htk⟩ : ∃ t, m.Space.Receiver.Taken = t := ⟨_, rfl⟩
  have HV := Lib.hid (show commandsOnce m = (decide (n ≤ n2) && (eqAll eqStr m.Took (m.Offered.take n) && (t == (n : Int)))) by rw [commandsOnce, hn, hn2, htk])
  rw [hn] at e21 hm2 HQ; rw [hn2] at e20 hm1 hc1 q1
  rw [htk] at eT
  have HN := Lib.hid (And.intro hn hn2); clear hn hn2 htk
  by_cases hle : n ≤ n2
  · have k1 : decide ((n : Int) ≤ (n2 : Int)) = true := by simp; omega
    have hle1 : (n : Int) ≤ (A.c20 : Int) := by omega
    have hle2 : n ≤ A.c20 := by omega
    obtain ⟨e, he⟩ : ∃ e, eqAll eqStr m.Took (m.Offered.take n) = e := ⟨_, rfl⟩
    have ce : ∀ {W : World} [Grows w W], Calls Tryz.prog 40 #[.slice A.a21 n A.c21, .slice A.a20 n A.c20] W (Gives W (.bool e)) := fun {W} _ => by
      have := c_equalStr (w := W) (n := n) (n' := n) (c := A.c21) (c' := A.c20) (HQ.out.1.to inferInstance) (HQ.out.2.to inferInstance) HN.out.1 (by have := HN.out.2; rw [List.length_take]; omega) (by omega) (by omega)
      rw [he] at this
      simpa using this
    have HV2 := Lib.hid (show commandsOnce m = (e && (t == (n : Int))) by rw [HV.out, he, decide_eq_true hle]; rfl)
    clear he HV q1
    cases e
    · go_enter Tryz.func13, Tryz.ntmps13
      go_wp2_with (first | ((with_reducible refine wp_region_later (by kernel_rfl) (by kernel_rfl) ?_); (repeat (first | go_big_quiet_step (first | (go_at_call 40; exact Gives.quiet (ce))) | simp only [k1])); refine wpQuiet_nil ?_; rintro _ ⟨x, rfl⟩) | (go_at_call 40; refine (ce).mono ?_; rintro _ _ ⟨rfl, x, rfl⟩))
      go_ret
      exact Gives.mk (by rw [HV2.out]; rfl)
    · go_enter Tryz.func13, Tryz.ntmps13
      go_wp2_with (first | ((with_reducible refine wp_region_later (by kernel_rfl) (by kernel_rfl) ?_); (repeat (first | go_big_quiet_step (first | (go_at_call 40; exact Gives.quiet (ce))) | simp only [k1])); refine wpQuiet_nil ?_; rintro _ ⟨x, rfl⟩) | (go_at_call 40; refine (ce).mono ?_; rintro _ _ ⟨rfl, x, rfl⟩))
      go_ret
      exact Gives.mk (by rw [HV2.out]; rfl)
  · have k1 : decide ((n : Int) ≤ (n2 : Int)) = false := by simp; omega
    have HV2 := Lib.hid (show commandsOnce m = false by rw [HV.out, decide_eq_false hle]; rfl)
    clear HV
    go_enter Tryz.func13, Tryz.ntmps13
    go_wp2_with (first | ((with_reducible refine wp_region_later (by kernel_rfl) (by kernel_rfl) ?_); (repeat (first | go_big_quiet_step (first | fail) | simp only [k1])); refine wpQuiet_nil ?_; rintro _ ⟨x, rfl⟩))
    go_ret
    exact Gives.mk (by rw [HV2.out]; rfl)

theorem eqAll_take {α : Type} (f : α → α → Bool) : ∀ (l l' : List α), eqAll f l (l'.take l.length) = eqAll f l l'
  | [], l' => by cases l' <;> simp [eqAll]
  | x :: l, [] => by simp [eqAll]
  | x :: l, y :: l' => by simp [eqAll, eqAll_take f l l']

set_option maxRecDepth 100000 in
set_option maxHeartbeats 2000000 in
theorem c_sCommandsOnce {B : Nat} {vs : List Value} {m : TMission} {w : World} (h : Enc.Rd B w vs m) (ht : Enc.tot m ≤ 1048576) :
    Calls Tryz.prog 11 #[.agg vs.toArray] w (Gives w (.bool (commandsOnce m))) := by
  obtain ⟨A, hvs, F⟩ := mcell h
  have hb := mbounds ht
  have hb1 := totL_len m.Took; have hb2 := totL_len m.Offered
  clear ht h
  have HB := Held.new w vs 91 w.heap.size rfl
  have e20 := HB.cellG 58 (.slice A.a20 m.Offered.length A.c20) (by rw [hvs]; rfl)
  have e21 := HB.cellG 59 (.slice A.a21 m.Took.length A.c21) (by rw [hvs]; rfl)
  have eT := HB.cellG 36 (.int .i64 m.Space.Receiver.Taken) (by rw [hvs]; rfl)
  clear HB hvs
  have hm1 : m.Offered.length ≤ 1048576 := by omega
  have hm2 : m.Took.length ≤ 1048576 := by omega
  clear hb hb1 hb2
  have hs := F.q21.toSlStr; have hs2 := F.q20.toSlStr
  clear F
  obtain ⟨n, hn⟩ : ∃ n, m.Took.length = n := ⟨_, rfl⟩
  obtain ⟨n2, hn2⟩ : ∃ n, m.Offered.length = n := ⟨_, rfl⟩
  obtain ⟨t, htk⟩ : ∃ t, m.Space.Receiver.Taken = t := ⟨_, rfl⟩
  have HV := Lib.hid (show commandsOnce m = (decide (n ≤ n2) && (eqAll eqStr m.Took m.Offered && (t == (n : Int)))) by rw [commandsOnce, eqAll_take, hn, hn2, htk])
  rw [hn] at e21 hm2; rw [hn2] at e20 hm1
  rw [htk] at eT
  have HN := Lib.hid (And.intro hn hn2); clear hn hn2 htk
  by_cases hle : n ≤ n2
  · have k1 : decide ((n2 : Int) < (n : Int)) = false := by simp; omega
    cases k2 : (t == (n : Int))
    · have k3 : (t != (n : Int)) = true := by rw [bne, k2]; rfl
      have HV2 := Lib.hid (show commandsOnce m = false by rw [HV.out, k2]; simp)
      clear HV
      go_enter Tryz.func11, Tryz.ntmps11
      go_wp2_with (first | ((with_reducible refine wp_region_later (by kernel_rfl) (by kernel_rfl) ?_); (repeat (first | go_big_quiet_step (first | fail) | simp only [k1] | simp only [k3])); refine wpQuiet_nil ?_; rintro _ ⟨x, rfl⟩))
      go_ret
      exact Gives.mk (by rw [HV2.out]; rfl)
    · have k3 : (t != (n : Int)) = false := by rw [bne, k2]; rfl
      have HV2 := Lib.hid (show commandsOnce m = eqAll eqStr m.Took m.Offered by rw [HV.out, k2, decide_eq_true hle]; simp)
      clear HV
      go_enter Tryz.func11, Tryz.ntmps11
      go_wp2_with (first | ((with_reducible refine wp_region_later (by kernel_rfl) (by kernel_rfl) ?_); (repeat (first | go_big_quiet_step (first | fail) | simp only [k1] | simp only [k3])); refine wpQuiet_nil ?_; rintro _ ⟨x, rfl⟩))
      go_loopw [3] (fun v wr => ∃ k : Nat, v = .int .i64 k ∧ k ≤ n ∧ Hid (eqAll eqStr (m.Took.drop k) (m.Offered.drop k) = eqAll eqStr m.Took m.Offered) ∧ ∃ x : Later (w.alloc (.cells vs.toArray 91)), wr = x.w) (fun v _ => (n - intOf v).toNat)
      case atStart => exact ⟨0, rfl, by omega, rfl, Later.of⟩
      case round =>
        obtain ⟨k, rfl, hk, hf, x, rfl⟩ := hrel
        by_cases h : k < n
        · have hka : k < m.Took.length := by have := HN.out.1; omega
          have hkb : k < m.Offered.length := by have := HN.out.2; omega
          have hk2 : k < n2 := by omega
          obtain ⟨b, off, s, ha1, hb, hd, h0⟩ := hs.str hka
          obtain ⟨b', off', s', ha2, hb', hd', h0'⟩ := hs2.str hkb
          rw [ha1] at e21
          rw [ha2] at e20
          clear hka hkb ha1 ha2
          cases he : (s.toList == s'.toList)
          · have he2 : (s.toList != s'.toList) = true := by simp [bne, he]
            go_wp2_with (first | ((with_reducible refine wp_region_later (by kernel_rfl) (by kernel_rfl) ?_); (repeat (first | go_big_quiet_step (first | fail) | simp only [he2])); refine wpQuiet_nil ?_; rintro _ ⟨x, rfl⟩))
            go_ret
            exact Gives.mk (by have := hf.out; rw [hd.out, hd'.out, eqAll, eqStr, he] at this; rw [HV2.out, ← this]; rfl)
          · have he2 : (s.toList != s'.toList) = false := by simp [bne, he]
            go_wp2_with (first | ((with_reducible refine wp_region_later (by kernel_rfl) (by kernel_rfl) ?_); (repeat (first | go_big_quiet_step (first | fail) | simp only [he2])); refine wpQuiet_nil ?_; rintro _ ⟨x, rfl⟩))
            go_roundw
            case rel => exact ⟨k + 1, by go_num, by omega, by have := hf.out; rw [hd.out, hd'.out, eqAll, eqStr, he, Bool.true_and] at this; exact this, Later.of⟩
            case measure => simp [intOf]; omega
        · go_wp2_with (first | ((with_reducible refine wp_region_later (by kernel_rfl) (by kernel_rfl) ?_); (repeat (first | go_big_quiet_step (first | fail))); refine wpQuiet_nil ?_; rintro _ ⟨x, rfl⟩))
          go_ret
          exact Gives.mk (by have := hf.out; rw [List.drop_of_length_le (by have := HN.out.1; omega)] at this; rw [HV2.out, ← this]; simp [eqAll])
  · have k1 : decide ((n2 : Int) < (n : Int)) = true := by simp; omega
    have HV2 := Lib.hid (show commandsOnce m = false by rw [HV.out, decide_eq_false hle]; rfl)
    clear HV
    go_enter Tryz.func11, Tryz.ntmps11
    go_wp2_with (first | ((with_reducible refine wp_region_later (by kernel_rfl) (by kernel_rfl) ?_); (repeat (first | go_big_quiet_step (first | fail) | simp only [k1])); refine wpQuiet_nil ?_; rintro _ ⟨x, rfl⟩))
    go_ret
    exact Gives.mk (by rw [HV2.out]; rfl)
end Go.Proofs.YtdankjbkioepgaaGreat

namespace Go.Proofs.YtdankjbkioepgaaGreat
set_option linter.unusedVariables false
open Go.ChangeShapes Go.WideShapes Go.ChangeAt Go.RowKit

def isOrd (s : ByteArray) : Bool := if h : 0 < s.size then decide (s[0].toNat = 0) else false
def ordNums (m : TMission) : List Int := m.Space.Board.Orders.map (·.Number) ++ m.Space.Board.Done.map (·.Number)
def ordersOnce (m : TMission) : Bool := once (ordNums m) m.Space.Board.Taken && (m.Space.Board.Taken == ((m.Took.countP isOrd : Nat) : Int))
theorem countP_snoc {l : List ByteArray} {k : Nat} {s : ByteArray} {r : List ByteArray} (h : l.drop k = s :: r) : (l.take (k + 1)).countP isOrd = (l.take k).countP isOrd + (if isOrd s = true then 1 else 0) := by
  rw [take_snoc' h, List.countP_append]; simp [List.countP_cons]
theorem map_snoc {α : Type} {f : α → Int} {l : List α} {k : Nat} {s : α} {r : List α} (h : l.drop k = s :: r) : (l.take (k + 1)).map f = (l.take k).map f ++ [f s] := by
  rw [take_snoc' h, List.map_append]; rfl
theorem ord_small {m : TMission} (ht : Enc.tot m ≤ 1048576) : m.Space.Board.Orders.length ≤ 1048576 ∧ m.Space.Board.Done.length ≤ 1048576 ∧ m.Took.length ≤ 1048576 := by
  have h := mbounds ht
  have hsp : Enc.tot m.Space.Board + Enc.tot m.Space.Packer + totL m.Space.Files + totL m.Space.Outs + totL m.Space.Sent ≤ 1048576 := h.2.2.2.1
  have n8 := Enc.tot_nonneg m.Space.Board; have n9 := Enc.tot_nonneg m.Space.Packer; have n10 := totL_nonneg m.Space.Files; have n11 := totL_nonneg m.Space.Outs; have n12 := totL_nonneg m.Space.Sent
  have hb : totL m.Space.Board.Params + totL m.Space.Board.Limits + totL m.Space.Board.Orders + totL m.Space.Board.Done + Enc.tot m.Space.Board.Recorder + totL m.Space.Board.Asked ≤ 1048576 := by
    have : Enc.tot m.Space.Board ≤ 1048576 := by omega
    exact this
  have m1 := totL_nonneg m.Space.Board.Params; have m2 := totL_nonneg m.Space.Board.Limits; have m3 := totL_nonneg m.Space.Board.Orders; have m4 := totL_nonneg m.Space.Board.Done; have m5 := Enc.tot_nonneg m.Space.Board.Recorder; have m6 := totL_nonneg m.Space.Board.Asked
  have l1 := totL_len m.Space.Board.Orders; have l2 := totL_len m.Space.Board.Done; have l3 := totL_len m.Took
  omega

set_option maxRecDepth 100000 in
set_option maxHeartbeats 2000000 in
theorem c_iOrdersOnce {B : Nat} {vs : List Value} {m : TMission} {w : World} (h : Enc.Rd B w vs m) (ht : Enc.tot m ≤ 1048576) :
    Calls Tryz.prog 16 #[.agg vs.toArray] w (Gives w (.bool (ordersOnce m))) := by
  obtain ⟨A, hvs, F⟩ := mcell h
  have hsm := ord_small ht
  clear ht h
  have HVS := Lib.hid hvs
  have HB := Lib.hid (Held.new w vs 91 w.heap.size rfl)
  have e21 := HB.out.cellG 59 (.slice A.a21 m.Took.length A.c21) (by rw [hvs]; rfl)
  clear hvs
  have F11 := Lib.hid F.q11; have F12 := Lib.hid F.q12; have F21 := Lib.hid F.q21.toSlStr
  have HI := Lib.hid F.ok
  clear F
  obtain ⟨n1, hn1⟩ : ∃ n, m.Space.Board.Orders.length = n := ⟨_, rfl⟩
  obtain ⟨n2, hn2⟩ : ∃ n, m.Space.Board.Done.length = n := ⟨_, rfl⟩
  obtain ⟨n3, hn3⟩ : ∃ n, m.Took.length = n := ⟨_, rfl⟩
  obtain ⟨t, htk⟩ : ∃ t, m.Space.Board.Taken = t := ⟨_, rfl⟩
  have hm1 : n1 ≤ 1048576 := by omega
  have hm2 : n2 ≤ 1048576 := by omega
  have hm3 : n3 ≤ 1048576 := by omega
  clear hsm
  rw [hn3] at e21
  have HN := Lib.hid (And.intro hn1 (And.intro hn2 (And.intro hn3 htk))); clear hn1 hn2 hn3 htk
  go_enter Tryz.func16, Tryz.ntmps16
  go_wp2_with (first | ((with_reducible refine wp_region_later (by kernel_rfl) (by kernel_rfl) ?_); (repeat (first | go_big_quiet_step (first | fail))); refine wpQuiet_nil ?_; rintro _ ⟨x, rfl⟩) | (refine stepStore2 rfl _ _ _ rfl (w.heap.size + 1) 0 rfl (us := [.int .i64 m.Space.Board.Clock, .slice A.a9 m.Space.Board.Params.length A.c9, .bool m.Space.Board.Safe, .slice A.a10 m.Space.Board.Limits.length A.c10, .slice A.a11 m.Space.Board.Orders.length A.c11, .slice A.a12 m.Space.Board.Done.length A.c12, .int .i64 m.Space.Board.Recorder.Room, .slice A.a13 m.Space.Board.Recorder.Records.length A.c13, .slice A.a14 m.Space.Board.Recorder.Dropped.length A.c14, .int .i64 m.Space.Board.Made, .int .i64 m.Space.Board.Taken, .slice A.a15 m.Space.Board.Asked.length A.c15]) (cs2 := [.int .i64 m.Space.Board.Clock, .slice A.a9 m.Space.Board.Params.length A.c9, .bool m.Space.Board.Safe, .slice A.a10 m.Space.Board.Limits.length A.c10, .slice A.a11 m.Space.Board.Orders.length A.c11, .slice A.a12 m.Space.Board.Done.length A.c12, .int .i64 m.Space.Board.Recorder.Room, .slice A.a13 m.Space.Board.Recorder.Records.length A.c13, .slice A.a14 m.Space.Board.Recorder.Dropped.length A.c14, .int .i64 m.Space.Board.Made, .int .i64 m.Space.Board.Taken, .slice A.a15 m.Space.Board.Asked.length A.c15]) (Held.new _ [.int .i64 0, .slice none 0 0, .bool false, .slice none 0 0, .slice none 0 0, .slice none 0 0, .int .i64 0, .slice none 0 0, .slice none 0 0, .int .i64 0, .int .i64 0, .slice none 0 0] 85 _ (by simp)) ?a1 ?a2 ?a3 ?a4 ?a5 (w0 := (w.alloc (.cells vs.toArray 91))) inferInstance (by simp) ?a6; go_must ((case a1 => rfl); (case a2 => kernel_rfl); (case a3 => rfl); (case a4 => exact Nat.le_of_ble_eq_true rfl); (case a5 => kernel_rfl); intro z hx kx; have fO := hx.cellG 4 (.slice A.a11 m.Space.Board.Orders.length A.c11) rfl; have fD := hx.cellG 5 (.slice A.a12 m.Space.Board.Done.length A.c12) rfl; have fT := hx.cellG 10 (.int .i64 m.Space.Board.Taken) rfl; rw [HN.out.1] at fO; rw [HN.out.2.1] at fD; rw [HN.out.2.2.2] at fT; have hzz : LtN (w.heap.size + 1) z.w.heap.size := ⟨hx.lt⟩; clear hx kx)) | (refine stepLoad rfl _ _ rfl w.heap.size 37 rfl (row := [.int .i64 m.Space.Board.Clock, .slice A.a9 m.Space.Board.Params.length A.c9, .bool m.Space.Board.Safe, .slice A.a10 m.Space.Board.Limits.length A.c10, .slice A.a11 m.Space.Board.Orders.length A.c11, .slice A.a12 m.Space.Board.Done.length A.c12, .int .i64 m.Space.Board.Recorder.Room, .slice A.a13 m.Space.Board.Recorder.Records.length A.c13, .slice A.a14 m.Space.Board.Recorder.Dropped.length A.c14, .int .i64 m.Space.Board.Made, .int .i64 m.Space.Board.Taken, .slice A.a15 m.Space.Board.Asked.length A.c15]) (HB.out.to inferInstance) _ Tryz.underlying85 rfl (by kernel_rfl) (by rw [HVS.out]; kernel_rfl) ?_))
  go_loopw [4, 18] (fun u v wr => ∃ (k : Nat) (acc : List Int) (q : Nat) (sa : Option Addr) (sc : Nat), v = .int .i64 k ∧ u = .slice sa q sc ∧ acc.length = q ∧ k ≤ n1 ∧ q ≤ k ∧ Hid (acc = (m.Space.Board.Orders.take k).map (·.Number)) ∧ Own encInt 3 1 z.w.heap.size wr sa sc acc ∧ ∃ x : Later z.w, wr = x.w) (fun _ v _ => (n1 - intOf v).toNat)
  case atStart => exact ⟨0, [], 0, _, 0, rfl, rfl, rfl, by omega, by omega, rfl, Own.nil encInt_len, Later.of⟩
  case round =>
    obtain ⟨k, acc, q, sa, sc, rfl, rfl, hacc, hk, hqk, hf, hown, x0, rfl⟩ := hrel
    by_cases h : k < n1
    · have hkl : k < m.Space.Board.Orders.length := by have := HN.out.1; omega
      obtain ⟨eb, eoff, ex, he, ehb, ehd, eok, eh0, eh1, eh2, eh3, eh4⟩ := F11.out.atTWaiting hkl
      rw [he] at fO
      (try rw [he])
      have HF := Lib.hid (show acc ++ [ex.Number] = (m.Space.Board.Orders.take (k + 1)).map (·.Number) by rw [map_snoc ehd.out, ← hf.out])
      have EOK := Lib.hid eok; clear eok he hkl
      go_wp2_with (first | ((with_reducible refine wp_region_later (by kernel_rfl) (by kernel_rfl) ?_); (repeat (first | go_big_quiet_step (first | fail))); refine wpQuiet_nil ?_; rintro _ ⟨x, rfl⟩) | ((at_builtin; refine wpList_app1X (enc := encInt) (w0 := z.w) (B := z.w.heap.size) (z := .int .i64 0) (size := 1) (bytes := 8) ex.Number rfl (.tmp 22) (.tmp 25) rfl Tryz.underlying46 (by kernel_rfl) rfl (by decide) (by decide) rfl rfl hacc (Own.to hown inferInstance) (by first | (refine blk_alloc _ _ _ ?_; (first | rfl | (simp; done))) | (refine blk_past (blk_alloc _ _ _ ?_); (first | rfl | (simp; done))) | (refine blk_later _ (blk_alloc _ _ _ ?_); (first | rfl | (simp; done))) | (refine blk_later _ (blk_past (blk_alloc _ _ _ ?_)); (first | rfl | (simp; done))) | (refine blk_past (blk_past (blk_alloc _ _ _ ?_)); (first | rfl | (simp; done))) | assumption) rfl (encInt_one _) (by omega) LeN.out inferInstance LeN.out ?_; intro sa1 sc1 x1 hown1 hgr1)))
      go_roundw
      case rel => exact ⟨k + 1, acc ++ [ex.Number], q + 1, sa1, sc1, by go_num, rfl, by simp [hacc], by omega, by omega, HF, hown1, Later.of⟩
      case measure => simp [intOf]; omega
    · have hkn : k = n1 := by omega
      have HF1 := Lib.hid (show acc = m.Space.Board.Orders.map (·.Number) by have := hf.out; rw [List.take_of_length_le (by have := HN.out.1; omega)] at this; exact this)
      have hq1 : q ≤ 1048576 := by omega
      clear hf hkn
      go_wp2_with (first | ((with_reducible refine wp_region_later (by kernel_rfl) (by kernel_rfl) ?_); (repeat (first | go_big_quiet_step (first | fail))); refine wpQuiet_nil ?_; rintro _ ⟨x, rfl⟩))
      go_loopw [4, 31] (fun u v wr => ∃ (k : Nat) (acc2 : List Int) (q2 : Nat) (sa : Option Addr) (sc : Nat), v = .int .i64 k ∧ u = .slice sa q2 sc ∧ acc2.length = q2 ∧ k ≤ n2 ∧ q2 ≤ 1048576 + k ∧ Hid (acc2 = acc ++ (m.Space.Board.Done.take k).map (·.Number)) ∧ Own encInt 3 1 z.w.heap.size wr sa sc acc2 ∧ ∃ x : Later z.w, wr = x.w) (fun _ v _ => (n2 - intOf v).toNat)
      case atStart => exact ⟨0, acc, q, sa, sc, rfl, rfl, hacc, by omega, by omega, by simp [Hid], hown.to inferInstance, Later.of⟩
      case round =>
        obtain ⟨k, acc2, q2, sa, sc, rfl, rfl, hacc2, hk, hqk2, hf, hown, x1, rfl⟩ := hrel
        by_cases h : k < n2
        · have hkl : k < m.Space.Board.Done.length := by have := HN.out.2.1; omega
          obtain ⟨eb, eoff, ex, he, ehb, ehd, eok, eh0, eh1, eh2⟩ := F12.out.atTDone hkl
          rw [he] at fD
          (try rw [he])
          have HF := Lib.hid (show acc2 ++ [ex.Number] = acc ++ (m.Space.Board.Done.take (k + 1)).map (·.Number) by rw [map_snoc ehd.out, hf.out, List.append_assoc])
          have EOK := Lib.hid eok; clear eok he hkl
          go_wp2_with (first | ((with_reducible refine wp_region_later (by kernel_rfl) (by kernel_rfl) ?_); (repeat (first | go_big_quiet_step (first | fail))); refine wpQuiet_nil ?_; rintro _ ⟨x, rfl⟩) | ((at_builtin; refine wpList_app1X (enc := encInt) (w0 := z.w) (B := z.w.heap.size) (z := .int .i64 0) (size := 1) (bytes := 8) ex.Number rfl (.tmp 35) (.tmp 38) rfl Tryz.underlying46 (by kernel_rfl) rfl (by decide) (by decide) rfl rfl hacc2 (Own.to hown inferInstance) (by first | (refine blk_alloc _ _ _ ?_; (first | rfl | (simp; done))) | (refine blk_past (blk_alloc _ _ _ ?_); (first | rfl | (simp; done))) | (refine blk_later _ (blk_alloc _ _ _ ?_); (first | rfl | (simp; done))) | (refine blk_later _ (blk_past (blk_alloc _ _ _ ?_)); (first | rfl | (simp; done))) | (refine blk_past (blk_past (blk_alloc _ _ _ ?_)); (first | rfl | (simp; done))) | assumption) rfl (encInt_one _) (by omega) LeN.out inferInstance LeN.out ?_; intro sa1 sc1 x1 hown1 hgr1)))
          go_roundw
          case rel => exact ⟨k + 1, acc2 ++ [ex.Number], q2 + 1, sa1, sc1, by go_num, rfl, by simp [hacc2], by omega, by omega, HF, hown1, Later.of⟩
          case measure => simp [intOf]; omega
        · have HF2 := Lib.hid (show acc2 = ordNums m by have := hf.out; rw [List.take_of_length_le (by have := HN.out.2.1; omega), HF1.out] at this; exact this)
          have hq2 : q2 ≤ 2097152 := by omega
          clear hf
          have HO := Lib.hid hown.sl; clear hown
          go_wp2_with (first | ((with_reducible refine wp_region_later (by kernel_rfl) (by kernel_rfl) ?_); (repeat (first | go_big_quiet_step (first | fail))); refine wpQuiet_nil ?_; rintro _ ⟨x, rfl⟩))
          go_loopw [9, 44] (fun u v wr => ∃ (k r : Nat), v = .int .i64 k ∧ u = .int .i64 r ∧ k ≤ n3 ∧ r ≤ k ∧ Hid (r = (m.Took.take k).countP isOrd) ∧ ∃ x : Later x1.w, wr = x.w) (fun _ v _ => (n3 - intOf v).toNat)
          case atStart => exact ⟨0, 0, rfl, rfl, by omega, by omega, rfl, Later.of⟩
          case round =>
            obtain ⟨k, r, rfl, rfl, hk, hr, hf, x2, rfl⟩ := hrel
            by_cases h : k < n3
            · obtain ⟨b, off, s, ha, hb, hd, h0⟩ := F21.out.str (show k < m.Took.length by have := HN.out.2.2.1; omega)
              rw [ha] at e21
              (try rw [ha])
              have hcs := countP_snoc hd.out
              clear ha hd
              by_cases hz : 0 < s.size
              · have c1 : (s.toList == []) = false := by
                  rw [ByteArray.toList_eq]
                  have h7 : s.data.toList.length = s.size := Array.length_toList
                  cases h8 : s.data.toList with
                  | nil => rw [h8] at h7; simp at h7; omega
                  | cons _ _ => rfl
                have c2 : (s.toList != []) = true := by rw [bne, c1]; rfl
                have j0 : (0 : Int) < s.size := by omega
                by_cases g0 : s[0].toNat = 0
                · have HF := Lib.hid (show r + 1 = (m.Took.take (k + 1)).countP isOrd by rw [hcs, ← hf.out, if_pos (by rw [isOrd, dif_pos hz, decide_eq_true g0])])
                  clear hcs hf
                  go_wp2_with (first | ((with_reducible refine wp_region_later (by kernel_rfl) (by kernel_rfl) ?_); (repeat (first | go_big_quiet_step (first | fail) | simp only [c2] | simp only [c1])); refine wpQuiet_nil ?_; rintro _ ⟨x, rfl⟩))
                  go_roundw
                  case rel => exact ⟨k + 1, r + 1, by go_num, by go_num, by omega, by omega, HF, Later.of⟩
                  case measure => simp [intOf]; omega
                · have HF := Lib.hid (show r = (m.Took.take (k + 1)).countP isOrd by rw [hcs, ← hf.out, if_neg (by rw [isOrd, dif_pos hz, decide_eq_false g0]; simp)]; rfl)
                  have c3 : (((s[0].toNat : Nat) : Int) == 0) = false := by simp; omega
                  clear hcs hf
                  go_wp2_with (first | ((with_reducible refine wp_region_later (by kernel_rfl) (by kernel_rfl) ?_); (repeat (first | go_big_quiet_step (first | fail) | simp only [c2] | simp only [c1] | simp only [c3])); refine wpQuiet_nil ?_; rintro _ ⟨x, rfl⟩))
                  go_roundw
                  case rel => exact ⟨k + 1, r, by go_num, by go_num, by omega, by omega, HF, Later.of⟩
                  case measure => simp [intOf]; omega
              · have c1 : (s.toList == []) = true := by
                  rw [ByteArray.toList_eq]
                  have h7 : s.data.toList.length = s.size := Array.length_toList
                  cases h8 : s.data.toList with
                  | nil => rfl
                  | cons _ _ => rw [h8] at h7; simp at h7; omega
                have c2 : (s.toList != []) = false := by rw [bne, c1]; rfl
                have HF := Lib.hid (show r = (m.Took.take (k + 1)).countP isOrd by rw [hcs, ← hf.out, if_neg (by rw [isOrd, dif_neg hz]; simp)]; rfl)
                clear hcs hf
                go_wp2_with (first | ((with_reducible refine wp_region_later (by kernel_rfl) (by kernel_rfl) ?_); (repeat (first | go_big_quiet_step (first | fail) | simp only [c2] | simp only [c1])); refine wpQuiet_nil ?_; rintro _ ⟨x, rfl⟩))
                go_roundw
                case rel => exact ⟨k + 1, r, by go_num, by go_num, by omega, by omega, HF, Later.of⟩
                case measure => simp [intOf]; omega
            · have HF3 := Lib.hid (show ordersOnce m = (once acc2 t && (t == (r : Int))) by
                have := hf.out
                rw [List.take_of_length_le (by have := HN.out.2.2.1; omega)] at this
                rw [ordersOnce, HF2.out, HN.out.2.2.2, this])
              clear hf
              cases c5 : once acc2 t
              · go_wp2_with (first | ((with_reducible refine wp_region_later (by kernel_rfl) (by kernel_rfl) ?_); (repeat (first | go_big_quiet_step (first | fail))); refine wpQuiet_nil ?_; rintro _ ⟨x, rfl⟩))
                refine (c_ieachOnce (HO.out.to inferInstance) hacc2 (by omega)).mono ?_
                rintro _ _ ⟨rfl, y9, rfl⟩
                go_wp2_with (first | ((with_reducible refine wp_region_later (by kernel_rfl) (by kernel_rfl) ?_); (repeat (first | go_big_quiet_step (first | fail) | simp only [c5])); refine wpQuiet_nil ?_; rintro _ ⟨x, rfl⟩))
                go_ret
                exact Gives.mk (by rw [HF3.out, c5]; rfl)
              · go_wp2_with (first | ((with_reducible refine wp_region_later (by kernel_rfl) (by kernel_rfl) ?_); (repeat (first | go_big_quiet_step (first | fail))); refine wpQuiet_nil ?_; rintro _ ⟨x, rfl⟩))
                refine (c_ieachOnce (HO.out.to inferInstance) hacc2 (by omega)).mono ?_
                rintro _ _ ⟨rfl, y9, rfl⟩
                go_wp2_with (first | ((with_reducible refine wp_region_later (by kernel_rfl) (by kernel_rfl) ?_); (repeat (first | go_big_quiet_step (first | fail) | simp only [c5])); refine wpQuiet_nil ?_; rintro _ ⟨x, rfl⟩))
                go_ret
                exact Gives.mk (by rw [HF3.out, c5]; rfl)

set_option maxRecDepth 100000 in
set_option maxHeartbeats 2000000 in
theorem c_sOrdersOnce {B : Nat} {vs : List Value} {m : TMission} {w : World} (h : Enc.Rd B w vs m) (ht : Enc.tot m ≤ 1048576) :
    Calls Tryz.prog 15 #[.agg vs.toArray] w (Gives w (.bool (ordersOnce m))) := by
  obtain ⟨A, hvs, F⟩ := mcell h
  have hsm := ord_small ht
  clear ht h
  have HVS := Lib.hid hvs
  have HB := Lib.hid (Held.new w vs 91 w.heap.size rfl)
  have e21 := HB.out.cellG 59 (.slice A.a21 m.Took.length A.c21) (by rw [hvs]; rfl)
  clear hvs
  have F11 := Lib.hid F.q11; have F12 := Lib.hid F.q12; have F21 := Lib.hid F.q21.toSlStr
  have HI := Lib.hid F.ok
  clear F
  obtain ⟨n1, hn1⟩ : ∃ n, m.Space.Board.Orders.length = n := ⟨_, rfl⟩
  obtain ⟨n2, hn2⟩ : ∃ n, m.Space.Board.Done.length = n := ⟨_, rfl⟩
  obtain ⟨n3, hn3⟩ : ∃ n, m.Took.length = n := ⟨_, rfl⟩
  obtain ⟨t, htk⟩ : ∃ t, m.Space.Board.Taken = t := ⟨_, rfl⟩
  have hm1 : n1 ≤ 1048576 := by omega
  have hm2 : n2 ≤ 1048576 := by omega
  have hm3 : n3 ≤ 1048576 := by omega
  clear hsm
  rw [hn3] at e21
  have HN := Lib.hid (And.intro hn1 (And.intro hn2 (And.intro hn3 htk))); clear hn1 hn2 hn3 htk
  go_enter Tryz.func15, Tryz.ntmps15
  go_wp2_with (first | ((with_reducible refine wp_region_later (by kernel_rfl) (by kernel_rfl) ?_); (repeat (first | go_big_quiet_step (first | fail))); refine wpQuiet_nil ?_; rintro _ ⟨x, rfl⟩) | (refine stepStore2 rfl _ _ _ rfl (w.heap.size + 2) 0 rfl (us := [.int .i64 m.Space.Board.Clock, .slice A.a9 m.Space.Board.Params.length A.c9, .bool m.Space.Board.Safe, .slice A.a10 m.Space.Board.Limits.length A.c10, .slice A.a11 m.Space.Board.Orders.length A.c11, .slice A.a12 m.Space.Board.Done.length A.c12, .int .i64 m.Space.Board.Recorder.Room, .slice A.a13 m.Space.Board.Recorder.Records.length A.c13, .slice A.a14 m.Space.Board.Recorder.Dropped.length A.c14, .int .i64 m.Space.Board.Made, .int .i64 m.Space.Board.Taken, .slice A.a15 m.Space.Board.Asked.length A.c15]) (cs2 := [.int .i64 m.Space.Board.Clock, .slice A.a9 m.Space.Board.Params.length A.c9, .bool m.Space.Board.Safe, .slice A.a10 m.Space.Board.Limits.length A.c10, .slice A.a11 m.Space.Board.Orders.length A.c11, .slice A.a12 m.Space.Board.Done.length A.c12, .int .i64 m.Space.Board.Recorder.Room, .slice A.a13 m.Space.Board.Recorder.Records.length A.c13, .slice A.a14 m.Space.Board.Recorder.Dropped.length A.c14, .int .i64 m.Space.Board.Made, .int .i64 m.Space.Board.Taken, .slice A.a15 m.Space.Board.Asked.length A.c15]) (Held.new _ [.int .i64 0, .slice none 0 0, .bool false, .slice none 0 0, .slice none 0 0, .slice none 0 0, .int .i64 0, .slice none 0 0, .slice none 0 0, .int .i64 0, .int .i64 0, .slice none 0 0] 85 _ (by simp)) ?a1 ?a2 ?a3 ?a4 ?a5 (w0 := ((w.alloc (.cells vs.toArray 91)).alloc (.cells #[] 3))) inferInstance (by simp) ?a6; go_must ((case a1 => rfl); (case a2 => kernel_rfl); (case a3 => rfl); (case a4 => exact Nat.le_of_ble_eq_true rfl); (case a5 => kernel_rfl); intro z hx kx; have fO := hx.cellG 4 (.slice A.a11 m.Space.Board.Orders.length A.c11) rfl; have fD := hx.cellG 5 (.slice A.a12 m.Space.Board.Done.length A.c12) rfl; have fT := hx.cellG 10 (.int .i64 m.Space.Board.Taken) rfl; rw [HN.out.1] at fO; rw [HN.out.2.1] at fD; rw [HN.out.2.2.2] at fT; have hzz : LtN (w.heap.size + 2) z.w.heap.size := ⟨hx.lt⟩; have HXX := Lib.hid hx; clear hx kx)) | (refine stepLoad rfl _ _ rfl w.heap.size 37 rfl (row := [.int .i64 m.Space.Board.Clock, .slice A.a9 m.Space.Board.Params.length A.c9, .bool m.Space.Board.Safe, .slice A.a10 m.Space.Board.Limits.length A.c10, .slice A.a11 m.Space.Board.Orders.length A.c11, .slice A.a12 m.Space.Board.Done.length A.c12, .int .i64 m.Space.Board.Recorder.Room, .slice A.a13 m.Space.Board.Recorder.Records.length A.c13, .slice A.a14 m.Space.Board.Recorder.Dropped.length A.c14, .int .i64 m.Space.Board.Made, .int .i64 m.Space.Board.Taken, .slice A.a15 m.Space.Board.Asked.length A.c15]) (HB.out.to inferInstance) _ Tryz.underlying85 rfl (by kernel_rfl) (by rw [HVS.out]; kernel_rfl) ?_))
  go_loopw [3, 5] (fun u v wr => ∃ (k : Nat) (acc : List Int) (q : Nat) (sa : Option Addr) (sc : Nat), v = .int .i64 k ∧ u = .slice sa q sc ∧ acc.length = q ∧ k ≤ n1 ∧ q ≤ k ∧ Hid (acc = (m.Space.Board.Orders.take k).map (·.Number)) ∧ Own encInt 3 1 (w.alloc (.cells vs.toArray 91)).heap.size wr sa sc acc ∧ Hid (Held wr (w.heap.size + 2) [.int .i64 m.Space.Board.Clock, .slice A.a9 m.Space.Board.Params.length A.c9, .bool m.Space.Board.Safe, .slice A.a10 m.Space.Board.Limits.length A.c10, .slice A.a11 m.Space.Board.Orders.length A.c11, .slice A.a12 m.Space.Board.Done.length A.c12, .int .i64 m.Space.Board.Recorder.Room, .slice A.a13 m.Space.Board.Recorder.Records.length A.c13, .slice A.a14 m.Space.Board.Recorder.Dropped.length A.c14, .int .i64 m.Space.Board.Made, .int .i64 m.Space.Board.Taken, .slice A.a15 m.Space.Board.Asked.length A.c15] 85) ∧ ∃ x : Later (w.alloc (.cells vs.toArray 91)), wr = x.w) (fun _ v _ => (n1 - intOf v).toNat)
  case atStart => exact ⟨0, [], 0, _, 0, rfl, rfl, rfl, by omega, by omega, rfl, Own.emptyBlk (g := w.heap.size + 1) encInt_len (by simp) (blk_later z (blk_alloc _ _ _ (by simp))), HXX, Later.of⟩
  case round =>
    obtain ⟨k, acc, q, sa, sc, rfl, rfl, hacc, hk, hqk, hf, hown, HH, x0, rfl⟩ := hrel
    have fO := HH.out.cellG 4 (.slice A.a11 m.Space.Board.Orders.length A.c11) rfl; have fD := HH.out.cellG 5 (.slice A.a12 m.Space.Board.Done.length A.c12) rfl; have fT := HH.out.cellG 10 (.int .i64 m.Space.Board.Taken) rfl; rw [HN.out.1] at fO; rw [HN.out.2.1] at fD; rw [HN.out.2.2.2] at fT
    by_cases h : k < n1
    · have hkl : k < m.Space.Board.Orders.length := by have := HN.out.1; omega
      obtain ⟨eb, eoff, ex, he, ehb, ehd, eok, eh0, eh1, eh2, eh3, eh4⟩ := F11.out.atTWaiting hkl
      rw [he] at fO
      skip
      have HF := Lib.hid (show acc ++ [ex.Number] = (m.Space.Board.Orders.take (k + 1)).map (·.Number) by rw [map_snoc ehd.out, ← hf.out])
      have EOK := Lib.hid eok; clear eok he hkl
      go_wp2_with (first | ((with_reducible refine wp_region_later (by kernel_rfl) (by kernel_rfl) ?_); (repeat (first | go_big_quiet_step (first | fail))); refine wpQuiet_nil ?_; rintro _ ⟨x, rfl⟩) | ((at_builtin; refine wpList_app1X (enc := encInt) (w0 := (w.alloc (.cells vs.toArray 91))) (B := (w.alloc (.cells vs.toArray 91)).heap.size) (z := .int .i64 0) (size := 1) (bytes := 8) ex.Number rfl (.tmp 20) (.tmp 27) rfl Tryz.underlying46 (by kernel_rfl) rfl (by decide) (by decide) rfl rfl hacc (Own.to hown inferInstance) (by first | (refine blk_alloc _ _ _ ?_; (first | rfl | (simp; done))) | (refine blk_past (blk_alloc _ _ _ ?_); (first | rfl | (simp; done))) | (refine blk_later _ (blk_alloc _ _ _ ?_); (first | rfl | (simp; done))) | (refine blk_later _ (blk_past (blk_alloc _ _ _ ?_)); (first | rfl | (simp; done))) | (refine blk_past (blk_past (blk_alloc _ _ _ ?_)); (first | rfl | (simp; done))) | assumption) rfl (encInt_one _) (by omega) LeN.out inferInstance LeN.out ?_; intro sa1 sc1 x1 hown1 hgr1); have HH1 := Lib.hid ((HH.out.to inferInstance).kept (Own.to hown inferInstance) (by decide) hgr1)))
      go_roundw
      case rel => exact ⟨k + 1, acc ++ [ex.Number], q + 1, sa1, sc1, by go_num, rfl, by simp [hacc], by omega, by omega, HF, hown1, HH1, Later.of⟩
      case measure => simp [intOf]; omega
    · have hkn : k = n1 := by omega
      have HF1 := Lib.hid (show acc = m.Space.Board.Orders.map (·.Number) by have := hf.out; rw [List.take_of_length_le (by have := HN.out.1; omega)] at this; exact this)
      have hq1 : q ≤ 1048576 := by omega
      clear hf hkn
      go_wp2_with (first | ((with_reducible refine wp_region_later (by kernel_rfl) (by kernel_rfl) ?_); (repeat (first | go_big_quiet_step (first | fail))); refine wpQuiet_nil ?_; rintro _ ⟨x, rfl⟩))
      go_loopw [3, 6] (fun u v wr => ∃ (k : Nat) (acc2 : List Int) (q2 : Nat) (sa : Option Addr) (sc : Nat), v = .int .i64 k ∧ u = .slice sa q2 sc ∧ acc2.length = q2 ∧ k ≤ n2 ∧ q2 ≤ 1048576 + k ∧ Hid (acc2 = acc ++ (m.Space.Board.Done.take k).map (·.Number)) ∧ Own encInt 3 1 (w.alloc (.cells vs.toArray 91)).heap.size wr sa sc acc2 ∧ Hid (Held wr (w.heap.size + 2) [.int .i64 m.Space.Board.Clock, .slice A.a9 m.Space.Board.Params.length A.c9, .bool m.Space.Board.Safe, .slice A.a10 m.Space.Board.Limits.length A.c10, .slice A.a11 m.Space.Board.Orders.length A.c11, .slice A.a12 m.Space.Board.Done.length A.c12, .int .i64 m.Space.Board.Recorder.Room, .slice A.a13 m.Space.Board.Recorder.Records.length A.c13, .slice A.a14 m.Space.Board.Recorder.Dropped.length A.c14, .int .i64 m.Space.Board.Made, .int .i64 m.Space.Board.Taken, .slice A.a15 m.Space.Board.Asked.length A.c15] 85) ∧ ∃ x : Later (w.alloc (.cells vs.toArray 91)), wr = x.w) (fun _ v _ => (n2 - intOf v).toNat)
      case atStart => exact ⟨0, acc, q, sa, sc, rfl, rfl, hacc, by omega, by omega, by simp [Hid], hown.to inferInstance, HH.out.to inferInstance, Later.of⟩
      case round =>
        obtain ⟨k, acc2, q2, sa, sc, rfl, rfl, hacc2, hk, hqk2, hf, hown, HH, x1, rfl⟩ := hrel
        have fO := HH.out.cellG 4 (.slice A.a11 m.Space.Board.Orders.length A.c11) rfl; have fD := HH.out.cellG 5 (.slice A.a12 m.Space.Board.Done.length A.c12) rfl; have fT := HH.out.cellG 10 (.int .i64 m.Space.Board.Taken) rfl; rw [HN.out.1] at fO; rw [HN.out.2.1] at fD; rw [HN.out.2.2.2] at fT
        by_cases h : k < n2
        · have hkl : k < m.Space.Board.Done.length := by have := HN.out.2.1; omega
          obtain ⟨eb, eoff, ex, he, ehb, ehd, eok, eh0, eh1, eh2⟩ := F12.out.atTDone hkl
          rw [he] at fD
          skip
          have HF := Lib.hid (show acc2 ++ [ex.Number] = acc ++ (m.Space.Board.Done.take (k + 1)).map (·.Number) by rw [map_snoc ehd.out, hf.out, List.append_assoc])
          have EOK := Lib.hid eok; clear eok he hkl
          go_wp2_with (first | ((with_reducible refine wp_region_later (by kernel_rfl) (by kernel_rfl) ?_); (repeat (first | go_big_quiet_step (first | fail))); refine wpQuiet_nil ?_; rintro _ ⟨x, rfl⟩) | ((at_builtin; refine wpList_app1X (enc := encInt) (w0 := (w.alloc (.cells vs.toArray 91))) (B := (w.alloc (.cells vs.toArray 91)).heap.size) (z := .int .i64 0) (size := 1) (bytes := 8) ex.Number rfl (.tmp 36) (.tmp 43) rfl Tryz.underlying46 (by kernel_rfl) rfl (by decide) (by decide) rfl rfl hacc2 (Own.to hown inferInstance) (by first | (refine blk_alloc _ _ _ ?_; (first | rfl | (simp; done))) | (refine blk_past (blk_alloc _ _ _ ?_); (first | rfl | (simp; done))) | (refine blk_later _ (blk_alloc _ _ _ ?_); (first | rfl | (simp; done))) | (refine blk_later _ (blk_past (blk_alloc _ _ _ ?_)); (first | rfl | (simp; done))) | (refine blk_past (blk_past (blk_alloc _ _ _ ?_)); (first | rfl | (simp; done))) | assumption) rfl (encInt_one _) (by omega) LeN.out inferInstance LeN.out ?_; intro sa1 sc1 x1 hown1 hgr1); have HH1 := Lib.hid ((HH.out.to inferInstance).kept (Own.to hown inferInstance) (by decide) hgr1)))
          go_roundw
          case rel => exact ⟨k + 1, acc2 ++ [ex.Number], q2 + 1, sa1, sc1, by go_num, rfl, by simp [hacc2], by omega, by omega, HF, hown1, HH1, Later.of⟩
          case measure => simp [intOf]; omega
        · have HF2 := Lib.hid (show acc2 = ordNums m by have := hf.out; rw [List.take_of_length_le (by have := HN.out.2.1; omega), HF1.out] at this; exact this)
          have hq2 : q2 ≤ 2097152 := by omega
          clear hf
          have HO := Lib.hid hown.sl; clear hown
          go_wp2_with (first | ((with_reducible refine wp_region_later (by kernel_rfl) (by kernel_rfl) ?_); (repeat (first | go_big_quiet_step (first | fail))); refine wpQuiet_nil ?_; rintro _ ⟨x, rfl⟩))
          go_loopw [7, 8] (fun u v wr => ∃ (k r : Nat), v = .int .i64 k ∧ u = .int .i64 r ∧ k ≤ n3 ∧ r ≤ k ∧ Hid (r = (m.Took.take k).countP isOrd) ∧ ∃ x : Later x1.w, wr = x.w) (fun _ v _ => (n3 - intOf v).toNat)
          case atStart => exact ⟨0, 0, rfl, rfl, by omega, by omega, rfl, Later.of⟩
          case round =>
            obtain ⟨k, r, rfl, rfl, hk, hr, hf, x2, rfl⟩ := hrel
            by_cases h : k < n3
            · obtain ⟨b, off, s, ha, hb, hd, h0⟩ := F21.out.str (show k < m.Took.length by have := HN.out.2.2.1; omega)
              rw [ha] at e21
              (try rw [ha])
              have hcs := countP_snoc hd.out
              clear ha hd
              by_cases hz : 0 < s.size
              · have c1 : (s.toList == []) = false := by
                  rw [ByteArray.toList_eq]
                  have h7 : s.data.toList.length = s.size := Array.length_toList
                  cases h8 : s.data.toList with
                  | nil => rw [h8] at h7; simp at h7; omega
                  | cons _ _ => rfl
                have c2 : (s.toList != []) = true := by rw [bne, c1]; rfl
                have j0 : (0 : Int) < s.size := by omega
                by_cases g0 : s[0].toNat = 0
                · have HF := Lib.hid (show r + 1 = (m.Took.take (k + 1)).countP isOrd by rw [hcs, ← hf.out, if_pos (by rw [isOrd, dif_pos hz, decide_eq_true g0])])
                  clear hcs hf
                  go_wp2_with (first | ((with_reducible refine wp_region_later (by kernel_rfl) (by kernel_rfl) ?_); (repeat (first | go_big_quiet_step (first | fail) | simp only [c2] | simp only [c1])); refine wpQuiet_nil ?_; rintro _ ⟨x, rfl⟩))
                  go_roundw
                  case rel => exact ⟨k + 1, r + 1, by go_num, by go_num, by omega, by omega, HF, Later.of⟩
                  case measure => simp [intOf]; omega
                · have HF := Lib.hid (show r = (m.Took.take (k + 1)).countP isOrd by rw [hcs, ← hf.out, if_neg (by rw [isOrd, dif_pos hz, decide_eq_false g0]; simp)]; rfl)
                  have c3 : (((s[0].toNat : Nat) : Int) == 0) = false := by simp; omega
                  clear hcs hf
                  go_wp2_with (first | ((with_reducible refine wp_region_later (by kernel_rfl) (by kernel_rfl) ?_); (repeat (first | go_big_quiet_step (first | fail) | simp only [c2] | simp only [c1] | simp only [c3])); refine wpQuiet_nil ?_; rintro _ ⟨x, rfl⟩))
                  go_roundw
                  case rel => exact ⟨k + 1, r, by go_num, by go_num, by omega, by omega, HF, Later.of⟩
                  case measure => simp [intOf]; omega
              · have c1 : (s.toList == []) = true := by
                  rw [ByteArray.toList_eq]
                  have h7 : s.data.toList.length = s.size := Array.length_toList
                  cases h8 : s.data.toList with
                  | nil => rfl
                  | cons _ _ => rw [h8] at h7; simp at h7; omega
                have c2 : (s.toList != []) = false := by rw [bne, c1]; rfl
                have HF := Lib.hid (show r = (m.Took.take (k + 1)).countP isOrd by rw [hcs, ← hf.out, if_neg (by rw [isOrd, dif_neg hz]; simp)]; rfl)
                clear hcs hf
                go_wp2_with (first | ((with_reducible refine wp_region_later (by kernel_rfl) (by kernel_rfl) ?_); (repeat (first | go_big_quiet_step (first | fail) | simp only [c2] | simp only [c1])); refine wpQuiet_nil ?_; rintro _ ⟨x, rfl⟩))
                go_roundw
                case rel => exact ⟨k + 1, r, by go_num, by go_num, by omega, by omega, HF, Later.of⟩
                case measure => simp [intOf]; omega
            · have HF3 := Lib.hid (show ordersOnce m = (once acc2 t && (t == (r : Int))) by
                have := hf.out
                rw [List.take_of_length_le (by have := HN.out.2.2.1; omega)] at this
                rw [ordersOnce, HF2.out, HN.out.2.2.2, this])
              clear hf
              cases c5 : ((r : Int) == t)
              · go_wp2_with (first | ((with_reducible refine wp_region_later (by kernel_rfl) (by kernel_rfl) ?_); (repeat (first | go_big_quiet_step (first | fail) | simp only [c5])); refine wpQuiet_nil ?_; rintro _ ⟨x, rfl⟩))
                go_ret
                exact Gives.mk (by rw [HF3.out, show (t == (r : Int)) = ((r : Int) == t) from Bool.beq_comm, c5, Bool.and_false]; rfl)
              · go_wp2_with (first | ((with_reducible refine wp_region_later (by kernel_rfl) (by kernel_rfl) ?_); (repeat (first | go_big_quiet_step (first | fail) | simp only [c5])); refine wpQuiet_nil ?_; rintro _ ⟨x, rfl⟩))
                refine (c_sl09Once (HO.out.to inferInstance) hacc2 (by omega)).mono ?_
                rintro _ _ ⟨rfl, y9, rfl⟩
                go_wp2_with (first | ((with_reducible refine wp_region_later (by kernel_rfl) (by kernel_rfl) ?_); (repeat (first | go_big_quiet_step (first | fail) | simp only [c5])); refine wpQuiet_nil ?_; rintro _ ⟨x, rfl⟩))
                go_ret
                exact Gives.mk (by rw [HF3.out, show (t == (r : Int)) = ((r : Int) == t) from Bool.beq_comm, c5, Bool.and_true]; rfl)
end Go.Proofs.YtdankjbkioepgaaGreat
