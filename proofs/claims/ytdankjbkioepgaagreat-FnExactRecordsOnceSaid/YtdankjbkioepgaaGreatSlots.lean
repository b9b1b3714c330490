/- The contracts on slots and pairs: their mirrors and their equality. No condition but on lengths. -/
import Derived.Test.YtdankjbkioepgaaGreatOpen
namespace Go.Proofs.YtdankjbkioepgaaGreat
set_option linter.unusedVariables false
open Go.ChangeShapes Go.WideShapes Go.ChangeAt Go.RowKit

structure Slot where
  Time : Int
  Id : Int

def encSlot (s : Slot) : List Value := [.int .i64 s.Time, .int .i64 s.Id]

theorem encSlot_len (s : Slot) : (encSlot s).length = 2 := rfl

theorem Sl.slot {w : World} {a : Option Addr} {l : List Slot} (h : Sl encSlot w a l) {k : Nat} (hk : k < l.length) :
    ∃ b off s, a = some ⟨b, off, none⟩ ∧ LtN b w.heap.size ∧ Hid (l.drop k = s :: l.drop (k + 1)) ∧ (∀ (W : World) [Grows w W], W.cell? ⟨b, off + k * 2, none⟩ = some (.int .i64 s.Time)) ∧ (∀ (W : World) [Grows w W], W.cell? ⟨b, off + k * 2 + 1, none⟩ = some (.int .i64 s.Id)) := by
  obtain ⟨s, hs, hd⟩ := drop_at hk
  obtain ⟨b, off, ha, hb, hc⟩ := h k s hs
  exact ⟨b, off, s, ha, ⟨hb⟩, hd, cell_grown hb (hc 0 _ rfl), cell_grown hb (hc 1 _ rfl)⟩

def eqSlot (s t : Slot) : Bool := (s.Time == t.Time) && (s.Id == t.Id)

theorem eqSlot_self (s : Slot) : eqSlot s s = true := by simp [eqSlot]

def okSlot (s : Slot) : Prop := i64 s.Time ∧ i64 s.Id ∧ True

theorem flatSlot {w : World} {cs : List Value} (hl : cs.length = 2) (h : RdL w [.int, .int] cs) : ∃ s : Slot, encSlot s = cs ∧ okSlot s := by
  obtain ⟨u0, g0, r0⟩ := h.at (j := 0) rfl
  obtain ⟨x0, rfl, p0⟩ := r0.int_inv
  obtain ⟨u1, g1, r1⟩ := h.at (j := 1) rfl
  obtain ⟨x1, rfl, p1⟩ := r1.int_inv
  refine ⟨⟨x0, x1⟩, (list_all hl ?_).symm, p0, p1, trivial⟩
  intro j y hy
  match j, hy with
  | 0, hy => cases hy; exact g0
  | 1, hy => cases hy; exact g1

theorem c_ltoSlot {s : Slot} {w : World} : Calls Tryz.prog 86 #[.agg #[.int .i64 s.Time, .int .i64 s.Id]] w (Gives w (.agg #[.int .i64 s.Time, .int .i64 s.Id])) := by
  go_enter Tryz.func86, Tryz.ntmps86
  go_wp2
  exact bodyPost_ret (v := .agg #[.int .i64 s.Time, .int .i64 s.Id]) (by simp [results, Tryz.results86, go_sem]) rfl (Gives.mk rfl)

set_option maxRecDepth 100000 in
set_option maxHeartbeats 2000000 in
theorem c_ltoSlotS {a : Option Addr} {n c : Nat} {l : List Slot} {w : World} (hs : Sl encSlot w a l) (hn : l.length = n) (hm : n ≤ 1048576) :
    Calls Tryz.prog 34 #[.slice a n c] w (GivesSl encSlot 160 2 w l) := by
  obtain ⟨C, hC, hmk⟩ := run_mk (P := Tryz.prog) Tryz.underlying65 (e := 160) (z := .agg #[.int .i64 0, .int .i64 0]) (size := 2) (bytes := 16) (by kernel_rfl) n (by omega) (by omega)
  have hCz : C.size = n * 2 := by rw [hC, size_madeCells]
  clear hC
  go_enter Tryz.func34, Tryz.ntmps34
  go_wp2_with (first | ((with_reducible refine wp_region_later (by kernel_rfl) (by kernel_rfl) ?_); (repeat (first | go_big_quiet_step (first | fail))); refine wpQuiet_nil ?_; rintro _ ⟨x, rfl⟩))
  clear hmk
  go_loopw [4] (fun v wr => ∃ k : Nat, v = .int .i64 k ∧ k ≤ n ∧ ∃ D : Array Value, D.size = n * 2 ∧ Hid (D.toList.take (k * 2) = (l.take k).flatMap encSlot) ∧ ∃ x : Later (w.alloc (.cells D 160)), wr = x.w) (fun v _ => (n - intOf v).toNat)
  case atStart => exact ⟨0, rfl, by omega, C, hCz, by simp [Hid], Later.here _, rfl⟩
  case round =>
    obtain ⟨k, rfl, hk, D, hDz, hf, x, rfl⟩ := hrel
    by_cases h : k < n
    · obtain ⟨b, off, s, rfl, hb, hd, h10, h11⟩ := hs.slot (show k < l.length by omega)
      obtain ⟨o0, g0⟩ := getD_lt hDz (show k * 2 < n * 2 by omega)
      obtain ⟨o1, g1⟩ := getD_lt hDz (show k * 2 + 1 < n * 2 by omega)
      go_wp2_with (first | ((with_reducible refine wp_region_later (by kernel_rfl) (by kernel_rfl) ?_); (repeat (first | go_big_quiet_step (first | (go_at_call 86; exact Gives.quiet (c_ltoSlot))))); refine wpQuiet_nil ?_; rintro _ ⟨x, rfl⟩) | (go_at_call 86; refine (c_ltoSlot).mono ?_; rintro _ _ ⟨rfl, x, rfl⟩))
      go_roundw
      case rel =>
        exact ⟨k + 1, by go_num, by omega, _, by simpa using hDz, fill2 hf.out hDz h hd.out rfl, Later.set2_at _ _ _ _ _⟩
      case measure => simp [intOf]; omega
    · go_wp2_with (first | ((with_reducible refine wp_region_later (by kernel_rfl) (by kernel_rfl) ?_); (repeat (first | go_big_quiet_step (first | fail))); refine wpQuiet_nil ?_; rintro _ ⟨x, rfl⟩))
      go_ret
      refine ⟨_, _, by rw [hn]; rfl, own_block encSlot_len hn (by omega) (Nat.le_refl _) hDz ?_ x, ⟨x.w, Grows.out⟩, rfl⟩
      have hf' := hf.out
      rw [List.take_of_length_le (by simp; omega), List.take_of_length_le (by omega)] at hf'
      exact hf'

theorem c_leqSlot {s t : Slot} {w : World} : Calls Tryz.prog 99 #[.agg #[.int .i64 s.Time, .int .i64 s.Id], .agg #[.int .i64 t.Time, .int .i64 t.Id]] w (Gives w (.bool (eqSlot s t))) := by
  cases h0 : (s.Time == t.Time)
  · have k0 : (s.Time != t.Time) = true := by simp [bne, h0]
    go_enter Tryz.func99, Tryz.ntmps99
    go_wp2_with (first | ((with_reducible refine wp_region_later (by kernel_rfl) (by kernel_rfl) ?_); (repeat (first | go_big_quiet_step (first | fail) | simp only [k0])); refine wpQuiet_nil ?_; rintro _ ⟨x, rfl⟩))
    go_ret
    exact Gives.mk (by simp [eqSlot, h0])
  · have k0 : (s.Time != t.Time) = false := by simp [bne, h0]
    cases h1 : (s.Id == t.Id)
    · have k1 : (s.Id != t.Id) = true := by simp [bne, h1]
      go_enter Tryz.func99, Tryz.ntmps99
      go_wp2_with (first | ((with_reducible refine wp_region_later (by kernel_rfl) (by kernel_rfl) ?_); (repeat (first | go_big_quiet_step (first | fail) | simp only [k0] | simp only [k1])); refine wpQuiet_nil ?_; rintro _ ⟨x, rfl⟩))
      go_ret
      exact Gives.mk (by simp [eqSlot, h0, h1])
    · have k1 : (s.Id != t.Id) = false := by simp [bne, h1]
      go_enter Tryz.func99, Tryz.ntmps99
      go_wp2_with (first | ((with_reducible refine wp_region_later (by kernel_rfl) (by kernel_rfl) ?_); (repeat (first | go_big_quiet_step (first | fail) | simp only [k0] | simp only [k1])); refine wpQuiet_nil ?_; rintro _ ⟨x, rfl⟩))
      go_ret
      exact Gives.mk (by simp [eqSlot, h0, h1])

set_option maxRecDepth 100000 in
set_option maxHeartbeats 2000000 in
theorem c_leqSlotS {a a' : Option Addr} {n n' c c' : Nat} {l l' : List Slot} {w : World} (hs : Sl encSlot w a l) (hs' : Sl encSlot w a' l') (hn : l.length = n) (hn' : l'.length = n') (hm : n ≤ 4611686018427387904) (hm' : n' ≤ 4611686018427387904) :
    Calls Tryz.prog 43 #[.slice a n c, .slice a' n' c'] w (Gives w (.bool ((n == n') && eqAll eqSlot l l'))) := by
  by_cases hnn : n = n'
  · subst hnn
    have kn : ((n : Int) != (n : Int)) = false := by simp
    go_enter Tryz.func43, Tryz.ntmps43
    go_wp2_with (first | ((with_reducible refine wp_region_later (by kernel_rfl) (by kernel_rfl) ?_); (repeat (first | go_big_quiet_step (first | fail) | simp only [kn])); refine wpQuiet_nil ?_; rintro _ ⟨x, rfl⟩))
    go_loopw [5] (fun v wr => ∃ k : Nat, v = .int .i64 k ∧ k ≤ n ∧ Hid (eqAll eqSlot (l.drop k) (l'.drop k) = eqAll eqSlot l l') ∧ ∃ x : Later w, wr = x.w) (fun v _ => (n - intOf v).toNat)
    case atStart => exact ⟨0, rfl, by omega, rfl, Later.here w, rfl⟩
    case round =>
      obtain ⟨k, rfl, hk, hf, x, rfl⟩ := hrel
      by_cases h : k < n
      · obtain ⟨b, off, s, rfl, hb, hd, h10, h11⟩ := hs.slot (show k < l.length by omega)
        obtain ⟨b', off', s', rfl, hb', hd', h30, h31⟩ := hs'.slot (show k < l'.length by omega)
        cases he : eqSlot s s'
        · go_wp2_with (first | ((with_reducible refine wp_region_later (by kernel_rfl) (by kernel_rfl) ?_); (repeat (first | go_big_quiet_step (first | (go_at_call 99; exact Gives.quiet (c_leqSlot))) | simp only [he])); refine wpQuiet_nil ?_; rintro _ ⟨x, rfl⟩) | (go_at_call 99; refine (c_leqSlot).mono ?_; rintro _ _ ⟨rfl, x, rfl⟩))
          go_ret
          exact Gives.mk (by have := hf.out; rw [hd.out, hd'.out, eqAll, he] at this; simp [← this])
        · go_wp2_with (first | ((with_reducible refine wp_region_later (by kernel_rfl) (by kernel_rfl) ?_); (repeat (first | go_big_quiet_step (first | (go_at_call 99; exact Gives.quiet (c_leqSlot))) | simp only [he])); refine wpQuiet_nil ?_; rintro _ ⟨x, rfl⟩) | (go_at_call 99; refine (c_leqSlot).mono ?_; rintro _ _ ⟨rfl, x, rfl⟩))
          go_roundw
          case rel => exact ⟨k + 1, by go_num, by omega, by have := hf.out; rw [hd.out, hd'.out, eqAll, he, Bool.true_and] at this; exact this, _, rfl⟩
          case measure => simp [intOf]; omega
      · go_wp2_with (first | ((with_reducible refine wp_region_later (by kernel_rfl) (by kernel_rfl) ?_); (repeat (first | go_big_quiet_step (first | fail))); refine wpQuiet_nil ?_; rintro _ ⟨x, rfl⟩))
        go_ret
        exact Gives.mk (by have := hf.out; rw [List.drop_of_length_le (by omega), List.drop_of_length_le (by omega)] at this; simp [← this, eqAll])
  · have kn : ((n : Int) != (n' : Int)) = true := by simp; omega
    go_enter Tryz.func43, Tryz.ntmps43
    go_wp2_with (first | ((with_reducible refine wp_region_later (by kernel_rfl) (by kernel_rfl) ?_); (repeat (first | go_big_quiet_step (first | fail) | simp only [kn])); refine wpQuiet_nil ?_; rintro _ ⟨x, rfl⟩))
    go_ret
    exact Gives.mk (by simp [hnn])

theorem c_lszSlotS {a : Option Addr} {n c : Nat} {left : Int} {w : World} (hl : 0 ≤ left) (hl' : left ≤ 1048576) (hm : n ≤ 9223372036854775807) :
    Calls Tryz.prog 27 #[.slice a n c, .int .i64 left] w (Gives w (.int .i64 (if left - n < 0 then -1 else left - n))) := by
  by_cases h : left - n < 0
  · rw [if_pos h]
    go_enter Tryz.func27, Tryz.ntmps27
    go_wp2_with (first | ((with_reducible refine wp_region_later (by kernel_rfl) (by kernel_rfl) ?_); (repeat (first | go_big_quiet_step (first | fail))); refine wpQuiet_nil ?_; rintro _ ⟨x, rfl⟩))
    go_ret
    exact Gives.mk rfl
  · rw [if_neg h]
    go_enter Tryz.func27, Tryz.ntmps27
    go_wp2_with (first | ((with_reducible refine wp_region_later (by kernel_rfl) (by kernel_rfl) ?_); (repeat (first | go_big_quiet_step (first | fail))); refine wpQuiet_nil ?_; rintro _ ⟨x, rfl⟩))
    go_ret
    exact Gives.mk rfl

structure Pair where
  Board : Int
  True : Int

def encPair (s : Pair) : List Value := [.int .i64 s.Board, .int .i64 s.True]

theorem encPair_len (s : Pair) : (encPair s).length = 2 := rfl

theorem Sl.pair {w : World} {a : Option Addr} {l : List Pair} (h : Sl encPair w a l) {k : Nat} (hk : k < l.length) :
    ∃ b off s, a = some ⟨b, off, none⟩ ∧ LtN b w.heap.size ∧ Hid (l.drop k = s :: l.drop (k + 1)) ∧ (∀ (W : World) [Grows w W], W.cell? ⟨b, off + k * 2, none⟩ = some (.int .i64 s.Board)) ∧ (∀ (W : World) [Grows w W], W.cell? ⟨b, off + k * 2 + 1, none⟩ = some (.int .i64 s.True)) := by
  obtain ⟨s, hs, hd⟩ := drop_at hk
  obtain ⟨b, off, ha, hb, hc⟩ := h k s hs
  exact ⟨b, off, s, ha, ⟨hb⟩, hd, cell_grown hb (hc 0 _ rfl), cell_grown hb (hc 1 _ rfl)⟩

def eqPair (s t : Pair) : Bool := (s.Board == t.Board) && (s.True == t.True)

theorem eqPair_self (s : Pair) : eqPair s s = true := by simp [eqPair]

def okPair (s : Pair) : Prop := i64 s.Board ∧ i64 s.True ∧ True

theorem flatPair {w : World} {cs : List Value} (hl : cs.length = 2) (h : RdL w [.int, .int] cs) : ∃ s : Pair, encPair s = cs ∧ okPair s := by
  obtain ⟨u0, g0, r0⟩ := h.at (j := 0) rfl
  obtain ⟨x0, rfl, p0⟩ := r0.int_inv
  obtain ⟨u1, g1, r1⟩ := h.at (j := 1) rfl
  obtain ⟨x1, rfl, p1⟩ := r1.int_inv
  refine ⟨⟨x0, x1⟩, (list_all hl ?_).symm, p0, p1, trivial⟩
  intro j y hy
  match j, hy with
  | 0, hy => cases hy; exact g0
  | 1, hy => cases hy; exact g1

theorem c_ltoPair {s : Pair} {w : World} : Calls Tryz.prog 148 #[.agg #[.int .i64 s.Board, .int .i64 s.True]] w (Gives w (.agg #[.int .i64 s.Board, .int .i64 s.True])) := by
  go_enter Tryz.func148, Tryz.ntmps148
  go_wp2
  exact bodyPost_ret (v := .agg #[.int .i64 s.Board, .int .i64 s.True]) (by simp [results, Tryz.results148, go_sem]) rfl (Gives.mk rfl)

set_option maxRecDepth 100000 in
set_option maxHeartbeats 2000000 in
theorem c_ltoPairS {a : Option Addr} {n c : Nat} {l : List Pair} {w : World} (hs : Sl encPair w a l) (hn : l.length = n) (hm : n ≤ 1048576) :
    Calls Tryz.prog 91 #[.slice a n c] w (GivesSl encPair 133 2 w l) := by
  obtain ⟨C, hC, hmk⟩ := run_mk (P := Tryz.prog) Tryz.underlying73 (e := 133) (z := .agg #[.int .i64 0, .int .i64 0]) (size := 2) (bytes := 16) (by kernel_rfl) n (by omega) (by omega)
  have hCz : C.size = n * 2 := by rw [hC, size_madeCells]
  clear hC
  go_enter Tryz.func91, Tryz.ntmps91
  go_wp2_with (first | ((with_reducible refine wp_region_later (by kernel_rfl) (by kernel_rfl) ?_); (repeat (first | go_big_quiet_step (first | fail))); refine wpQuiet_nil ?_; rintro _ ⟨x, rfl⟩))
  clear hmk
  go_loopw [4] (fun v wr => ∃ k : Nat, v = .int .i64 k ∧ k ≤ n ∧ ∃ D : Array Value, D.size = n * 2 ∧ Hid (D.toList.take (k * 2) = (l.take k).flatMap encPair) ∧ ∃ x : Later (w.alloc (.cells D 133)), wr = x.w) (fun v _ => (n - intOf v).toNat)
  case atStart => exact ⟨0, rfl, by omega, C, hCz, by simp [Hid], Later.here _, rfl⟩
  case round =>
    obtain ⟨k, rfl, hk, D, hDz, hf, x, rfl⟩ := hrel
    by_cases h : k < n
    · obtain ⟨b, off, s, rfl, hb, hd, h10, h11⟩ := hs.pair (show k < l.length by omega)
      obtain ⟨o0, g0⟩ := getD_lt hDz (show k * 2 < n * 2 by omega)
      obtain ⟨o1, g1⟩ := getD_lt hDz (show k * 2 + 1 < n * 2 by omega)
      go_wp2_with (first | ((with_reducible refine wp_region_later (by kernel_rfl) (by kernel_rfl) ?_); (repeat (first | go_big_quiet_step (first | (go_at_call 148; exact Gives.quiet (c_ltoPair))))); refine wpQuiet_nil ?_; rintro _ ⟨x, rfl⟩) | (go_at_call 148; refine (c_ltoPair).mono ?_; rintro _ _ ⟨rfl, x, rfl⟩))
      go_roundw
      case rel =>
        exact ⟨k + 1, by go_num, by omega, _, by simpa using hDz, fill2 hf.out hDz h hd.out rfl, Later.set2_at _ _ _ _ _⟩
      case measure => simp [intOf]; omega
    · go_wp2_with (first | ((with_reducible refine wp_region_later (by kernel_rfl) (by kernel_rfl) ?_); (repeat (first | go_big_quiet_step (first | fail))); refine wpQuiet_nil ?_; rintro _ ⟨x, rfl⟩))
      go_ret
      refine ⟨_, _, by rw [hn]; rfl, own_block encPair_len hn (by omega) (Nat.le_refl _) hDz ?_ x, ⟨x.w, Grows.out⟩, rfl⟩
      have hf' := hf.out
      rw [List.take_of_length_le (by simp; omega), List.take_of_length_le (by omega)] at hf'
      exact hf'

theorem c_leqPair {s t : Pair} {w : World} : Calls Tryz.prog 158 #[.agg #[.int .i64 s.Board, .int .i64 s.True], .agg #[.int .i64 t.Board, .int .i64 t.True]] w (Gives w (.bool (eqPair s t))) := by
  cases h0 : (s.Board == t.Board)
  · have k0 : (s.Board != t.Board) = true := by simp [bne, h0]
    go_enter Tryz.func158, Tryz.ntmps158
    go_wp2_with (first | ((with_reducible refine wp_region_later (by kernel_rfl) (by kernel_rfl) ?_); (repeat (first | go_big_quiet_step (first | fail) | simp only [k0])); refine wpQuiet_nil ?_; rintro _ ⟨x, rfl⟩))
    go_ret
    exact Gives.mk (by simp [eqPair, h0])
  · have k0 : (s.Board != t.Board) = false := by simp [bne, h0]
    cases h1 : (s.True == t.True)
    · have k1 : (s.True != t.True) = true := by simp [bne, h1]
      go_enter Tryz.func158, Tryz.ntmps158
      go_wp2_with (first | ((with_reducible refine wp_region_later (by kernel_rfl) (by kernel_rfl) ?_); (repeat (first | go_big_quiet_step (first | fail) | simp only [k0] | simp only [k1])); refine wpQuiet_nil ?_; rintro _ ⟨x, rfl⟩))
      go_ret
      exact Gives.mk (by simp [eqPair, h0, h1])
    · have k1 : (s.True != t.True) = false := by simp [bne, h1]
      go_enter Tryz.func158, Tryz.ntmps158
      go_wp2_with (first | ((with_reducible refine wp_region_later (by kernel_rfl) (by kernel_rfl) ?_); (repeat (first | go_big_quiet_step (first | fail) | simp only [k0] | simp only [k1])); refine wpQuiet_nil ?_; rintro _ ⟨x, rfl⟩))
      go_ret
      exact Gives.mk (by simp [eqPair, h0, h1])

set_option maxRecDepth 100000 in
set_option maxHeartbeats 2000000 in
theorem c_leqPairS {a a' : Option Addr} {n n' c c' : Nat} {l l' : List Pair} {w : World} (hs : Sl encPair w a l) (hs' : Sl encPair w a' l') (hn : l.length = n) (hn' : l'.length = n') (hm : n ≤ 4611686018427387904) (hm' : n' ≤ 4611686018427387904) :
    Calls Tryz.prog 104 #[.slice a n c, .slice a' n' c'] w (Gives w (.bool ((n == n') && eqAll eqPair l l'))) := by
  by_cases hnn : n = n'
  · subst hnn
    have kn : ((n : Int) != (n : Int)) = false := by simp
    go_enter Tryz.func104, Tryz.ntmps104
    go_wp2_with (first | ((with_reducible refine wp_region_later (by kernel_rfl) (by kernel_rfl) ?_); (repeat (first | go_big_quiet_step (first | fail) | simp only [kn])); refine wpQuiet_nil ?_; rintro _ ⟨x, rfl⟩))
    go_loopw [5] (fun v wr => ∃ k : Nat, v = .int .i64 k ∧ k ≤ n ∧ Hid (eqAll eqPair (l.drop k) (l'.drop k) = eqAll eqPair l l') ∧ ∃ x : Later w, wr = x.w) (fun v _ => (n - intOf v).toNat)
    case atStart => exact ⟨0, rfl, by omega, rfl, Later.here w, rfl⟩
    case round =>
      obtain ⟨k, rfl, hk, hf, x, rfl⟩ := hrel
      by_cases h : k < n
      · obtain ⟨b, off, s, rfl, hb, hd, h10, h11⟩ := hs.pair (show k < l.length by omega)
        obtain ⟨b', off', s', rfl, hb', hd', h30, h31⟩ := hs'.pair (show k < l'.length by omega)
        cases he : eqPair s s'
        · go_wp2_with (first | ((with_reducible refine wp_region_later (by kernel_rfl) (by kernel_rfl) ?_); (repeat (first | go_big_quiet_step (first | (go_at_call 158; exact Gives.quiet (c_leqPair))) | simp only [he])); refine wpQuiet_nil ?_; rintro _ ⟨x, rfl⟩) | (go_at_call 158; refine (c_leqPair).mono ?_; rintro _ _ ⟨rfl, x, rfl⟩))
          go_ret
          exact Gives.mk (by have := hf.out; rw [hd.out, hd'.out, eqAll, he] at this; simp [← this])
        · go_wp2_with (first | ((with_reducible refine wp_region_later (by kernel_rfl) (by kernel_rfl) ?_); (repeat (first | go_big_quiet_step (first | (go_at_call 158; exact Gives.quiet (c_leqPair))) | simp only [he])); refine wpQuiet_nil ?_; rintro _ ⟨x, rfl⟩) | (go_at_call 158; refine (c_leqPair).mono ?_; rintro _ _ ⟨rfl, x, rfl⟩))
          go_roundw
          case rel => exact ⟨k + 1, by go_num, by omega, by have := hf.out; rw [hd.out, hd'.out, eqAll, he, Bool.true_and] at this; exact this, _, rfl⟩
          case measure => simp [intOf]; omega
      · go_wp2_with (first | ((with_reducible refine wp_region_later (by kernel_rfl) (by kernel_rfl) ?_); (repeat (first | go_big_quiet_step (first | fail))); refine wpQuiet_nil ?_; rintro _ ⟨x, rfl⟩))
        go_ret
        exact Gives.mk (by have := hf.out; rw [List.drop_of_length_le (by omega), List.drop_of_length_le (by omega)] at this; simp [← this, eqAll])
  · have kn : ((n : Int) != (n' : Int)) = true := by simp; omega
    go_enter Tryz.func104, Tryz.ntmps104
    go_wp2_with (first | ((with_reducible refine wp_region_later (by kernel_rfl) (by kernel_rfl) ?_); (repeat (first | go_big_quiet_step (first | fail) | simp only [kn])); refine wpQuiet_nil ?_; rintro _ ⟨x, rfl⟩))
    go_ret
    exact Gives.mk (by simp [hnn])

theorem c_lszPairS {a : Option Addr} {n c : Nat} {left : Int} {w : World} (hl : 0 ≤ left) (hl' : left ≤ 1048576) (hm : n ≤ 9223372036854775807) :
    Calls Tryz.prog 79 #[.slice a n c, .int .i64 left] w (Gives w (.int .i64 (if left - n < 0 then -1 else left - n))) := by
  by_cases h : left - n < 0
  · rw [if_pos h]
    go_enter Tryz.func79, Tryz.ntmps79
    go_wp2_with (first | ((with_reducible refine wp_region_later (by kernel_rfl) (by kernel_rfl) ?_); (repeat (first | go_big_quiet_step (first | fail))); refine wpQuiet_nil ?_; rintro _ ⟨x, rfl⟩))
    go_ret
    exact Gives.mk rfl
  · rw [if_neg h]
    go_enter Tryz.func79, Tryz.ntmps79
    go_wp2_with (first | ((with_reducible refine wp_region_later (by kernel_rfl) (by kernel_rfl) ?_); (repeat (first | go_big_quiet_step (first | fail))); refine wpQuiet_nil ?_; rintro _ ⟨x, rfl⟩))
    go_ret
    exact Gives.mk rfl

end Go.Proofs.YtdankjbkioepgaaGreat
