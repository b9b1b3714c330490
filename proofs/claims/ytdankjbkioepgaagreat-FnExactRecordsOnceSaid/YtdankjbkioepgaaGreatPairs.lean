/- The contracts of BoundsOf, RateOf and GuessTrue. No condition but on lengths. -/
import Derived.Test.YtdankjbkioepgaaGreatSlots2
namespace Go.Proofs.YtdankjbkioepgaaGreat
set_option linter.unusedVariables false
open Go.ChangeShapes Go.WideShapes Go.ChangeAt Go.RowKit

theorem pairsFrom_mem : ∀ {l : List Pair} {o : Option Pair}, pairsFrom o l = true → ∀ p ∈ l, (0 ≤ p.Board ∧ p.Board ≤ 2000000) ∧ 0 ≤ p.True ∧ p.True ≤ 1000000
  | [], _, _, p, hp => by simp at hp
  | q :: l, o, h, p, hp => by
    simp only [pairsFrom, Bool.and_eq_true] at h
    rcases List.mem_cons.1 hp with rfl | hp
    · exact ⟨inB_iff.1 h.1.1.1, inB_iff.1 h.1.1.2⟩
    · exact pairsFrom_mem h.2 p hp

theorem pairsOk_mem {l : List Pair} (h : pairsOk l = true) : ∀ p ∈ l, (0 ≤ p.Board ∧ p.Board ≤ 2000000) ∧ 0 ≤ p.True ∧ p.True ≤ 1000000 := by
  simp only [pairsOk, Bool.and_eq_true] at h
  exact pairsFrom_mem h.2

theorem mem_of_drop {α : Type} {l r : List α} {s : α} {k : Nat} (h : l.drop k = s :: r) : s ∈ l := by
  have : s ∈ l.drop k := by rw [h]; simp
  exact List.mem_of_mem_drop this

theorem pairsFrom_lt : ∀ {l : List Pair} {o : Option Pair} {i j : Nat} {p q : Pair}, pairsFrom o l = true → i < j → l[i]? = some p → l[j]? = some q → p.Board < q.Board ∧ p.True < q.True
  | [], _, i, j, p, q, _, _, hp, _ => by simp at hp
  | s :: l, o, i, j + 1, p, q, h, hij, hp, hq => by
    simp only [pairsFrom, Bool.and_eq_true] at h
    have hq' : l[j]? = some q := by simpa using hq
    cases i with
    | zero =>
      have hs : s = p := by simpa using hp
      subst hs
      match l, h.2, hq' with
      | t :: l, h2, hq' =>
        have h3 := h2
        simp only [pairsFrom, Bool.and_eq_true] at h3
        have h4 : s.Board < t.Board ∧ s.True < t.True := by simpa [pairStep] using h3.1.2
        cases j with
        | zero => have : t = q := by simpa using hq'
                  subst this; exact h4
        | succ j =>
          have := pairsFrom_lt (i := 0) (j := j + 1) (p := t) (q := q) h2 (by omega) rfl hq'
          exact ⟨by omega, by omega⟩
    | succ i => exact pairsFrom_lt (i := i) (j := j) h.2 (by omega) (by simpa using hp) hq'

theorem pairsOk_lt {l : List Pair} (h : pairsOk l = true) {i j : Nat} {p q : Pair} (hij : i < j) (hp : l[i]? = some p) (hq : l[j]? = some q) : p.Board < q.Board ∧ p.True < q.True := by
  simp only [pairsOk, Bool.and_eq_true] at h
  exact pairsFrom_lt h.2 hij hp hq

def boundsFrom (b : Int) : Int → List Pair → Int × Int
  | low, [] => (low, 1000000)
  | low, p :: r => if p.Board < b then boundsFrom b (p.True + 1) r else if b < p.Board then (low, p.True - 1) else boundsFrom b low r

def boundsOf (l : List Pair) (b : Int) : Value :=
  if (pairsOk l && inB b 0 2000000) = true then .tuple #[.int .i64 (boundsFrom b 0 l).1, .int .i64 (boundsFrom b 0 l).2, .bool true] else .tuple #[.int .i64 0, .int .i64 0, .bool false]

set_option maxRecDepth 100000 in
set_option maxHeartbeats 2000000 in
theorem c_sBoundsOf {a : Option Addr} {n c : Nat} {b : Int} {l : List Pair} {w : World} (hs : Sl encPair w a l) (hn : l.length = n) (hm : n ≤ 4611686018427387904) :
    Calls Tryz.prog 57 #[.slice a n c, .int .i64 b] w (Gives w (boundsOf l b)) := by
  cases q1 : pairsOk l
  · go_enter Tryz.func57, Tryz.ntmps57
    go_wp2_with (first | ((with_reducible refine wp_region_later (by kernel_rfl) (by kernel_rfl) ?_); (repeat (first | go_big_quiet_step (first | (go_at_call 121; exact Gives.quiet (c_sPairsOk (by first | assumption | (apply Sl.to <;> first | assumption | infer_instance) | omega) (by first | assumption | (apply Sl.to <;> first | assumption | infer_instance) | omega) (by first | assumption | (apply Sl.to <;> first | assumption | infer_instance) | omega))) | (go_at_call 62; exact Gives.quiet (c_sl01In))) | simp only [q1])); refine wpQuiet_nil ?_; rintro _ ⟨x, rfl⟩) | (go_at_call 121; refine (c_sPairsOk (by first | assumption | (apply Sl.to <;> first | assumption | infer_instance) | omega) (by first | assumption | (apply Sl.to <;> first | assumption | infer_instance) | omega) (by first | assumption | (apply Sl.to <;> first | assumption | infer_instance) | omega)).mono ?_; rintro _ _ ⟨rfl, x, rfl⟩) | (go_at_call 62; refine (c_sl01In).mono ?_; rintro _ _ ⟨rfl, x, rfl⟩))
    go_ret3
    exact Gives.mk (by simp [boundsOf, q1])
  cases q2 : inB b 0 2000000
  · go_enter Tryz.func57, Tryz.ntmps57
    go_wp2_with (first | ((with_reducible refine wp_region_later (by kernel_rfl) (by kernel_rfl) ?_); (repeat (first | go_big_quiet_step (first | (go_at_call 121; exact Gives.quiet (c_sPairsOk (by first | assumption | (apply Sl.to <;> first | assumption | infer_instance) | omega) (by first | assumption | (apply Sl.to <;> first | assumption | infer_instance) | omega) (by first | assumption | (apply Sl.to <;> first | assumption | infer_instance) | omega))) | (go_at_call 62; exact Gives.quiet (c_sl01In))) | simp only [q1] | simp only [q2])); refine wpQuiet_nil ?_; rintro _ ⟨x, rfl⟩) | (go_at_call 121; refine (c_sPairsOk (by first | assumption | (apply Sl.to <;> first | assumption | infer_instance) | omega) (by first | assumption | (apply Sl.to <;> first | assumption | infer_instance) | omega) (by first | assumption | (apply Sl.to <;> first | assumption | infer_instance) | omega)).mono ?_; rintro _ _ ⟨rfl, x, rfl⟩) | (go_at_call 62; refine (c_sl01In).mono ?_; rintro _ _ ⟨rfl, x, rfl⟩))
    go_ret3
    exact Gives.mk (by simp [boundsOf, q1, q2])
  have HB := Lib.hid (show boundsOf l b = .tuple #[.int .i64 (boundsFrom b 0 l).1, .int .i64 (boundsFrom b 0 l).2, .bool true] by simp [boundsOf, q1, q2])
  have HM := Lib.hid (pairsOk_mem q1)
  go_enter Tryz.func57, Tryz.ntmps57
  go_wp2_with (first | ((with_reducible refine wp_region_later (by kernel_rfl) (by kernel_rfl) ?_); (repeat (first | go_big_quiet_step (first | (go_at_call 121; exact Gives.quiet (c_sPairsOk (by first | assumption | (apply Sl.to <;> first | assumption | infer_instance) | omega) (by first | assumption | (apply Sl.to <;> first | assumption | infer_instance) | omega) (by first | assumption | (apply Sl.to <;> first | assumption | infer_instance) | omega))) | (go_at_call 62; exact Gives.quiet (c_sl01In))) | simp only [q1] | simp only [q2])); refine wpQuiet_nil ?_; rintro _ ⟨x, rfl⟩) | (go_at_call 121; refine (c_sPairsOk (by first | assumption | (apply Sl.to <;> first | assumption | infer_instance) | omega) (by first | assumption | (apply Sl.to <;> first | assumption | infer_instance) | omega) (by first | assumption | (apply Sl.to <;> first | assumption | infer_instance) | omega)).mono ?_; rintro _ _ ⟨rfl, x, rfl⟩) | (go_at_call 62; refine (c_sl01In).mono ?_; rintro _ _ ⟨rfl, x, rfl⟩))
  go_loopw [7, 8, 9] (fun u g v wr => ∃ (k : Nat) (low : Int), v = .int .i64 k ∧ u = .int .i64 low ∧ g = .int .i64 1000000 ∧ k ≤ n ∧ Hid (boundsFrom b low (l.drop k) = boundsFrom b 0 l) ∧ ∃ x : Later w, wr = x.w) (fun _ _ v _ => (n - intOf v).toNat)
  case atStart => exact ⟨0, 0, rfl, rfl, rfl, by omega, rfl, Later.of⟩
  case round =>
    obtain ⟨k, low, rfl, rfl, rfl, hk, hf, x0, rfl⟩ := hrel
    by_cases h : k < n
    · obtain ⟨b1, off, s, rfl, hb, hd, h0, h1⟩ := hs.pair (show k < l.length by omega)
      have hsb := HM.out s (mem_of_drop hd.out)
      by_cases c1 : s.Board < b
      · have c2 : ¬ b < s.Board := by omega
        go_wp2_with (first | ((with_reducible refine wp_region_later (by kernel_rfl) (by kernel_rfl) ?_); (repeat (first | go_big_quiet_step (first | fail))); refine wpQuiet_nil ?_; rintro _ ⟨x, rfl⟩))
        go_roundw
        case rel => exact ⟨k + 1, s.True + 1, by go_num, rfl, rfl, by omega, by have := hf.out; rw [hd.out, boundsFrom, if_pos (by omega)] at this; exact this, Later.of⟩
        case measure => simp [intOf]; omega
      by_cases c2 : b < s.Board
      · go_wp2_with (first | ((with_reducible refine wp_region_later (by kernel_rfl) (by kernel_rfl) ?_); (repeat (first | go_big_quiet_step (first | fail))); refine wpQuiet_nil ?_; rintro _ ⟨x, rfl⟩))
        go_ret3
        exact Gives.mk (by have := hf.out; rw [hd.out, boundsFrom, if_neg (by omega), if_pos (by omega)] at this; rw [HB.out, ← this]; rfl)
      · go_wp2_with (first | ((with_reducible refine wp_region_later (by kernel_rfl) (by kernel_rfl) ?_); (repeat (first | go_big_quiet_step (first | fail))); refine wpQuiet_nil ?_; rintro _ ⟨x, rfl⟩))
        go_roundw
        case rel => exact ⟨k + 1, low, by go_num, rfl, rfl, by omega, by have := hf.out; rw [hd.out, boundsFrom, if_neg (by omega), if_neg (by omega)] at this; exact this, Later.of⟩
        case measure => simp [intOf]; omega
    · go_wp2_with (first | ((with_reducible refine wp_region_later (by kernel_rfl) (by kernel_rfl) ?_); (repeat (first | go_big_quiet_step (first | fail))); refine wpQuiet_nil ?_; rintro _ ⟨x, rfl⟩))
      go_ret3
      exact Gives.mk (by have := hf.out; rw [List.drop_of_length_le (by omega), boundsFrom] at this; rw [HB.out, ← this]; rfl)

set_option maxRecDepth 100000 in
set_option maxHeartbeats 2000000 in
theorem c_iBoundsOf {a : Option Addr} {n c : Nat} {b : Int} {l : List Pair} {w : World} (hs : Sl encPair w a l) (hn : l.length = n) (hm : n ≤ 4611686018427387904) :
    Calls Tryz.prog 61 #[.slice a n c, .int .i64 b] w (Gives w (boundsOf l b)) := by
  cases q1 : pairsOk l
  · go_enter Tryz.func61, Tryz.ntmps61
    go_wp2_with (first | ((with_reducible refine wp_region_later (by kernel_rfl) (by kernel_rfl) ?_); (repeat (first | go_big_quiet_step (first | (go_at_call 123; exact Gives.quiet (c_iPairsOk (by first | assumption | (apply Sl.to <;> first | assumption | infer_instance) | omega) (by first | assumption | (apply Sl.to <;> first | assumption | infer_instance) | omega) (by first | assumption | (apply Sl.to <;> first | assumption | infer_instance) | omega))) | (go_at_call 69; exact Gives.quiet (c_ibetween))) | simp only [q1])); refine wpQuiet_nil ?_; rintro _ ⟨x, rfl⟩) | (go_at_call 123; refine (c_iPairsOk (by first | assumption | (apply Sl.to <;> first | assumption | infer_instance) | omega) (by first | assumption | (apply Sl.to <;> first | assumption | infer_instance) | omega) (by first | assumption | (apply Sl.to <;> first | assumption | infer_instance) | omega)).mono ?_; rintro _ _ ⟨rfl, x, rfl⟩) | (go_at_call 69; refine (c_ibetween).mono ?_; rintro _ _ ⟨rfl, x, rfl⟩))
    go_ret3
    exact Gives.mk (by simp [boundsOf, q1])
  cases q2 : inB b 0 2000000
  · go_enter Tryz.func61, Tryz.ntmps61
    go_wp2_with (first | ((with_reducible refine wp_region_later (by kernel_rfl) (by kernel_rfl) ?_); (repeat (first | go_big_quiet_step (first | (go_at_call 123; exact Gives.quiet (c_iPairsOk (by first | assumption | (apply Sl.to <;> first | assumption | infer_instance) | omega) (by first | assumption | (apply Sl.to <;> first | assumption | infer_instance) | omega) (by first | assumption | (apply Sl.to <;> first | assumption | infer_instance) | omega))) | (go_at_call 69; exact Gives.quiet (c_ibetween))) | simp only [q1] | simp only [q2])); refine wpQuiet_nil ?_; rintro _ ⟨x, rfl⟩) | (go_at_call 123; refine (c_iPairsOk (by first | assumption | (apply Sl.to <;> first | assumption | infer_instance) | omega) (by first | assumption | (apply Sl.to <;> first | assumption | infer_instance) | omega) (by first | assumption | (apply Sl.to <;> first | assumption | infer_instance) | omega)).mono ?_; rintro _ _ ⟨rfl, x, rfl⟩) | (go_at_call 69; refine (c_ibetween).mono ?_; rintro _ _ ⟨rfl, x, rfl⟩))
    go_ret3
    exact Gives.mk (by simp [boundsOf, q1, q2])
  have HB := Lib.hid (show boundsOf l b = .tuple #[.int .i64 (boundsFrom b 0 l).1, .int .i64 (boundsFrom b 0 l).2, .bool true] by simp [boundsOf, q1, q2])
  have HM := Lib.hid (pairsOk_mem q1)
  go_enter Tryz.func61, Tryz.ntmps61
  go_wp2_with (first | ((with_reducible refine wp_region_later (by kernel_rfl) (by kernel_rfl) ?_); (repeat (first | go_big_quiet_step (first | (go_at_call 123; exact Gives.quiet (c_iPairsOk (by first | assumption | (apply Sl.to <;> first | assumption | infer_instance) | omega) (by first | assumption | (apply Sl.to <;> first | assumption | infer_instance) | omega) (by first | assumption | (apply Sl.to <;> first | assumption | infer_instance) | omega))) | (go_at_call 69; exact Gives.quiet (c_ibetween))) | simp only [q1] | simp only [q2])); refine wpQuiet_nil ?_; rintro _ ⟨x, rfl⟩) | (go_at_call 123; refine (c_iPairsOk (by first | assumption | (apply Sl.to <;> first | assumption | infer_instance) | omega) (by first | assumption | (apply Sl.to <;> first | assumption | infer_instance) | omega) (by first | assumption | (apply Sl.to <;> first | assumption | infer_instance) | omega)).mono ?_; rintro _ _ ⟨rfl, x, rfl⟩) | (go_at_call 69; refine (c_ibetween).mono ?_; rintro _ _ ⟨rfl, x, rfl⟩))
  go_loopw [7, 8, 21] (fun u g v wr => ∃ (k : Nat) (low : Int), v = .int .i64 k ∧ u = .int .i64 low ∧ g = .int .i64 1000000 ∧ k ≤ n ∧ Hid (boundsFrom b low (l.drop k) = boundsFrom b 0 l) ∧ ∃ x : Later w, wr = x.w) (fun _ _ v _ => (n - intOf v).toNat)
  case atStart => exact ⟨0, 0, rfl, rfl, rfl, by omega, rfl, Later.of⟩
  case round =>
    obtain ⟨k, low, rfl, rfl, rfl, hk, hf, x0, rfl⟩ := hrel
    by_cases h : k < n
    · obtain ⟨b1, off, s, rfl, hb, hd, h0, h1⟩ := hs.pair (show k < l.length by omega)
      have hsb := HM.out s (mem_of_drop hd.out)
      by_cases c1 : s.Board < b
      · have c2 : ¬ b < s.Board := by omega
        go_wp2_with (first | ((with_reducible refine wp_region_later (by kernel_rfl) (by kernel_rfl) ?_); (repeat (first | go_big_quiet_step (first | fail))); refine wpQuiet_nil ?_; rintro _ ⟨x, rfl⟩))
        go_roundw
        case rel => exact ⟨k + 1, s.True + 1, by go_num, rfl, rfl, by omega, by have := hf.out; rw [hd.out, boundsFrom, if_pos (by omega)] at this; exact this, Later.of⟩
        case measure => simp [intOf]; omega
      by_cases c2 : b < s.Board
      · go_wp2_with (first | ((with_reducible refine wp_region_later (by kernel_rfl) (by kernel_rfl) ?_); (repeat (first | go_big_quiet_step (first | fail))); refine wpQuiet_nil ?_; rintro _ ⟨x, rfl⟩))
        go_ret3
        exact Gives.mk (by have := hf.out; rw [hd.out, boundsFrom, if_neg (by omega), if_pos (by omega)] at this; rw [HB.out, ← this]; rfl)
      · go_wp2_with (first | ((with_reducible refine wp_region_later (by kernel_rfl) (by kernel_rfl) ?_); (repeat (first | go_big_quiet_step (first | fail))); refine wpQuiet_nil ?_; rintro _ ⟨x, rfl⟩))
        go_roundw
        case rel => exact ⟨k + 1, low, by go_num, rfl, rfl, by omega, by have := hf.out; rw [hd.out, boundsFrom, if_neg (by omega), if_neg (by omega)] at this; exact this, Later.of⟩
        case measure => simp [intOf]; omega
    · go_wp2_with (first | ((with_reducible refine wp_region_later (by kernel_rfl) (by kernel_rfl) ?_); (repeat (first | go_big_quiet_step (first | fail))); refine wpQuiet_nil ?_; rintro _ ⟨x, rfl⟩))
      go_ret3
      exact Gives.mk (by have := hf.out; rw [List.drop_of_length_le (by omega), boundsFrom] at this; rw [HB.out, ← this]; rfl)

def rateVal (p q : Pair) : Int := ((q.Board - p.Board) - (q.True - p.True)) * 1000 / (q.True - p.True)
def rateOf (l : List Pair) : Value :=
  match (if pairsOk l = true then l else []) with
  | p :: q :: r => .tuple #[.int .i64 (rateVal p ((q :: r).getLast (by simp))), .bool true]
  | _ => .tuple #[.int .i64 0, .bool false]
theorem rateOf_no {l : List Pair} (h : pairsOk l = false ∨ l.length < 2) : rateOf l = .tuple #[.int .i64 0, .bool false] := by
  unfold rateOf
  rcases h with h | h
  · rw [if_neg (by simp [h])]
  · split
    · rename_i p q r hl
      split at hl
      · rw [hl] at h; simp at h; omega
      · cases hl
    · rfl
theorem rateOf_yes {l : List Pair} (h : pairsOk l = true) (hn : 2 ≤ l.length) {p q : Pair} (hp : l[0]? = some p) (hq : l[l.length - 1]? = some q) : rateOf l = .tuple #[.int .i64 (rateVal p q), .bool true] := by
  unfold rateOf
  rw [if_pos h]
  match l, hn, hp, hq with
  | p' :: q' :: r, _, hp, hq =>
    simp only [List.getElem?_cons_zero, Option.some.injEq] at hp
    subst hp
    have : (q' :: r).getLast (by simp) = q := by
      have h1 : (p' :: q' :: r)[(p' :: q' :: r).length - 1]? = some ((q' :: r).getLast (by simp)) := by
        rw [← List.getLast?_eq_getElem?]; simp [List.getLast?_eq_some_getLast]
      rw [hq] at h1
      exact (Option.some.inj h1).symm
    simp only [this]
end Go.Proofs.YtdankjbkioepgaaGreat
