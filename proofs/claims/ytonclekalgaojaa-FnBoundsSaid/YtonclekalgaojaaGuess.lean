/- The contract of GuessTrue. No condition but on lengths. -/
import Derived.Test.YtonclekalgaojaaPairs
namespace Go.Proofs.Ytonclekalgaojaa
set_option linter.unusedVariables false
open Go.ChangeShapes Go.WideShapes Go.ChangeAt Go.RowKit

/-- Which two pairs are taken: p, q and those behind. -/
def guessFrom (b : Int) : Pair → Pair → List Pair → Pair × Pair
  | p, q, [] => (p, q)
  | p, q, r :: rest => if q.Board < b then guessFrom b q r rest else (p, q)
def guessVal (b : Int) (x : Pair × Pair) : Int := x.1.True + (b - x.1.Board) * (x.2.True - x.1.True) / (x.2.Board - x.1.Board)
def guessList (b : Int) (l : List Pair) : Value := match l with
  | p :: q :: r => .tuple #[.int .i64 (guessVal b (guessFrom b p q r)), .bool true]
  | _ => .tuple #[.int .i64 0, .bool false]
def guessTrue (l : List Pair) (b : Int) : Value := if (pairsOk l && inB b 0 2000000) = true then guessList b l else .tuple #[.int .i64 0, .bool false]

theorem guess_bd {x y : Int} (hx : -2000000 ≤ x) (hx' : x ≤ 2000000) (hy : 1 ≤ y) (hy' : y ≤ 1000000) : -2000000000000 ≤ x * y ∧ x * y ≤ 2000000000000 := by
  constructor
  · have h1 : -2000000 * y ≤ x * y := Int.mul_le_mul_of_nonneg_right hx (by omega)
    omega
  · have h1 : x * y ≤ 2000000 * y := Int.mul_le_mul_of_nonneg_right hx' (by omega)
    omega
theorem div_bd {x y : Int} (hx : -2000000000000 ≤ x) (hx' : x ≤ 2000000000000) (hy : 1 ≤ y) : -2000000000000 ≤ x / y ∧ x / y ≤ 2000000000000 := by
  constructor
  · rw [Int.le_ediv_iff_mul_le (by omega)]
    have : (-2000000000000 : Int) * y ≤ -2000000000000 * 1 := by
      apply Int.mul_le_mul_of_nonpos_left <;> omega
    omega
  · by_cases h : 0 ≤ x
    · have := Int.ediv_le_self y h; omega
    · have := Int.ediv_lt_of_lt_mul (a := x) (b := 0) (c := y) (by omega) (by omega)
      omega

set_option maxRecDepth 100000 in
set_option maxHeartbeats 2000000 in
theorem c_iGuessTrue {a : Option Addr} {n c : Nat} {b : Int} {l : List Pair} {w : World} (hs : Sl encPair w a l) (hn : l.length = n) (hm : n ≤ 4611686018427387904) :
    Calls Try.prog 39 #[.slice a n c, .int .i64 b] w (Gives w (guessTrue l b)) := by
  cases q1 : pairsOk l
  · go_enter Try.func39, Try.ntmps39
    go_wp2_with (first | ((with_reducible refine wp_region_later (by kernel_rfl) (by kernel_rfl) ?_); (repeat (first | go_big_quiet_step (first | (go_at_call 49; exact Gives.quiet (c_iPairsOk (by first | assumption | (apply Sl.to <;> first | assumption | infer_instance) | omega) (by first | assumption | (apply Sl.to <;> first | assumption | infer_instance) | omega) (by first | assumption | (apply Sl.to <;> first | assumption | infer_instance) | omega))) | (go_at_call 74; exact Gives.quiet (c_ibetween))) | simp only [q1])); refine wpQuiet_nil ?_; rintro _ ⟨x, rfl⟩) | (go_at_call 49; refine (c_iPairsOk (by first | assumption | (apply Sl.to <;> first | assumption | infer_instance) | omega) (by first | assumption | (apply Sl.to <;> first | assumption | infer_instance) | omega) (by first | assumption | (apply Sl.to <;> first | assumption | infer_instance) | omega)).mono ?_; rintro _ _ ⟨rfl, x, rfl⟩) | (go_at_call 74; refine (c_ibetween).mono ?_; rintro _ _ ⟨rfl, x, rfl⟩))
    go_ret2
    exact Gives.mk (by simp [guessTrue, q1])
  by_cases h2 : n < 2
  · have HR : guessTrue l b = .tuple #[.int .i64 0, .bool false] := by
      unfold guessTrue; split
      · match l, hn with
        | [], _ => rfl
        | [p], _ => rfl
        | p :: q :: r, hn => simp at hn; omega
      · rfl
    have H2 : decide ((n : Int) < 2) = true := by simp; omega
    have H2' : decide (n < 2) = true := by simp; omega
    go_enter Try.func39, Try.ntmps39
    go_wp2_with (first | ((with_reducible refine wp_region_later (by kernel_rfl) (by kernel_rfl) ?_); (repeat (first | go_big_quiet_step (first | (go_at_call 49; exact Gives.quiet (c_iPairsOk (by first | assumption | (apply Sl.to <;> first | assumption | infer_instance) | omega) (by first | assumption | (apply Sl.to <;> first | assumption | infer_instance) | omega) (by first | assumption | (apply Sl.to <;> first | assumption | infer_instance) | omega))) | (go_at_call 74; exact Gives.quiet (c_ibetween))) | simp only [q1] | simp only [H2] | simp only [H2'])); refine wpQuiet_nil ?_; rintro _ ⟨x, rfl⟩) | (go_at_call 49; refine (c_iPairsOk (by first | assumption | (apply Sl.to <;> first | assumption | infer_instance) | omega) (by first | assumption | (apply Sl.to <;> first | assumption | infer_instance) | omega) (by first | assumption | (apply Sl.to <;> first | assumption | infer_instance) | omega)).mono ?_; rintro _ _ ⟨rfl, x, rfl⟩) | (go_at_call 74; refine (c_ibetween).mono ?_; rintro _ _ ⟨rfl, x, rfl⟩))
    go_ret2
    exact Gives.mk (by rw [HR]; rfl)
  cases q2 : inB b 0 2000000
  · go_enter Try.func39, Try.ntmps39
    go_wp2_with (first | ((with_reducible refine wp_region_later (by kernel_rfl) (by kernel_rfl) ?_); (repeat (first | go_big_quiet_step (first | (go_at_call 49; exact Gives.quiet (c_iPairsOk (by first | assumption | (apply Sl.to <;> first | assumption | infer_instance) | omega) (by first | assumption | (apply Sl.to <;> first | assumption | infer_instance) | omega) (by first | assumption | (apply Sl.to <;> first | assumption | infer_instance) | omega))) | (go_at_call 74; exact Gives.quiet (c_ibetween))) | simp only [q1] | simp only [q2])); refine wpQuiet_nil ?_; rintro _ ⟨x, rfl⟩) | (go_at_call 49; refine (c_iPairsOk (by first | assumption | (apply Sl.to <;> first | assumption | infer_instance) | omega) (by first | assumption | (apply Sl.to <;> first | assumption | infer_instance) | omega) (by first | assumption | (apply Sl.to <;> first | assumption | infer_instance) | omega)).mono ?_; rintro _ _ ⟨rfl, x, rfl⟩) | (go_at_call 74; refine (c_ibetween).mono ?_; rintro _ _ ⟨rfl, x, rfl⟩))
    go_ret2
    exact Gives.mk (by simp [guessTrue, q2])
  have hb2 := inB_iff.1 q2
  obtain ⟨p0, p1, r0, hl⟩ : ∃ p0 p1 r0, l = p0 :: p1 :: r0 := by
    match l, hn with
    | [], hn => simp at hn; omega
    | [p], hn => simp at hn; omega
    | p :: q :: r, _ => exact ⟨p, q, r, rfl⟩
  have HG := Lib.hid (show guessTrue l b = .tuple #[.int .i64 (guessVal b (guessFrom b p0 p1 r0)), .bool true] by simp only [guessTrue, q1, q2, Bool.and_self, if_true]; rw [hl]; rfl)
  have HL := Lib.hid hl; clear hl
  go_enter Try.func39, Try.ntmps39
  go_wp2_with (first | ((with_reducible refine wp_region_later (by kernel_rfl) (by kernel_rfl) ?_); (repeat (first | go_big_quiet_step (first | (go_at_call 49; exact Gives.quiet (c_iPairsOk (by first | assumption | (apply Sl.to <;> first | assumption | infer_instance) | omega) (by first | assumption | (apply Sl.to <;> first | assumption | infer_instance) | omega) (by first | assumption | (apply Sl.to <;> first | assumption | infer_instance) | omega))) | (go_at_call 74; exact Gives.quiet (c_ibetween))) | simp only [q1] | simp only [q2])); refine wpQuiet_nil ?_; rintro _ ⟨x, rfl⟩) | (go_at_call 49; refine (c_iPairsOk (by first | assumption | (apply Sl.to <;> first | assumption | infer_instance) | omega) (by first | assumption | (apply Sl.to <;> first | assumption | infer_instance) | omega) (by first | assumption | (apply Sl.to <;> first | assumption | infer_instance) | omega)).mono ?_; rintro _ _ ⟨rfl, x, rfl⟩) | (go_at_call 74; refine (c_ibetween).mono ?_; rintro _ _ ⟨rfl, x, rfl⟩))
  go_loopw [7] (fun v wr => ∃ k : Nat, v = .int .i64 k ∧ 1 ≤ k ∧ k < n ∧ (∃ p q, l[k - 1]? = some p ∧ l[k]? = some q ∧ guessFrom b p q (l.drop (k + 1)) = guessFrom b p0 p1 r0) ∧ ∃ x : Later w, wr = x.w) (fun v _ => (n - intOf v).toNat)
  case atStart => exact ⟨1, rfl, by omega, by omega, ⟨p0, p1, by rw [HL.out]; rfl, by rw [HL.out]; rfl, by rw [HL.out]; rfl⟩, Later.of⟩
  case round =>
    obtain ⟨k, rfl, hk1, hk, ⟨p, q, hp, hq, hf⟩, x0, rfl⟩ := hrel
    have HP := Lib.hid hp; have HQ := Lib.hid hq; have HF := Lib.hid hf
    clear hp hq hf
    obtain ⟨b1, off, p', rfl, hb, hd, h0, h1⟩ := hs.pair (show k - 1 < l.length by omega)
    obtain rfl : p' = p := by have := congrArg (fun m => m[0]?) hd.out; have h9 := HP.out; simp at this; rw [h9] at this; exact (Option.some.inj this).symm
    obtain ⟨b', off', q', hbo, hb', hd', h0', h1'⟩ := hs.pair (show k < l.length by omega)
    obtain rfl : q' = q := by have := congrArg (fun m => m[0]?) hd'.out; have h9 := HQ.out; simp at this; rw [h9] at this; exact (Option.some.inj this).symm
    simp only [Option.some.injEq, Addr.mk.injEq, and_true] at hbo
    obtain ⟨rfl, rfl⟩ := hbo
    have m0 := pairsOk_mem q1 p' (List.mem_of_getElem? HP.out)
    have m1 := pairsOk_mem q1 q' (List.mem_of_getElem? HQ.out)
    have hlt := pairsOk_lt q1 (show k - 1 < k by omega) HP.out HQ.out
    by_cases c1 : k < n - 1
    · obtain ⟨r, hr, hdr⟩ := drop_at (l := l) (show k + 1 < l.length by omega)
      have HR := Lib.hid hr; clear hr
      by_cases c2 : q'.Board < b
      · go_wp2_with (first | ((with_reducible refine wp_region_later (by kernel_rfl) (by kernel_rfl) ?_); (repeat (first | go_big_quiet_step (first | fail))); refine wpQuiet_nil ?_; rintro _ ⟨x, rfl⟩))
        go_roundw
        case rel => exact ⟨k + 1, by go_num, by omega, by omega, ⟨q', r, HQ.out, HR.out, by have := HF.out; rw [hdr.out, guessFrom, if_pos c2] at this; exact this⟩, Later.of⟩
        case measure => simp [intOf]; omega
      · have HV := Lib.hid (show guessFrom b p0 p1 r0 = (p', q') by rw [← HF.out, hdr.out, guessFrom, if_neg c2])
        have b1 := guess_bd (x := b - p'.Board) (y := q'.True - p'.True) (by omega) (by omega) (by omega) (by omega)
        have b2 := div_bd (y := q'.Board - p'.Board) b1.1 b1.2 (by omega)
        go_wp2_with (first | ((with_reducible refine wp_region_later (by kernel_rfl) (by kernel_rfl) ?_); (repeat (first | go_big_quiet_step (first | fail))); refine wpQuiet_nil ?_; rintro _ ⟨x, rfl⟩))
        go_region
        all_goals
          go_wp2_with (first | ((with_reducible refine wp_region_later (by kernel_rfl) (by kernel_rfl) ?_); (repeat (first | go_big_quiet_step (first | (go_at_call 78; exact Gives.quiet (c_ifloorDiv (by omega) (by omega) (by omega)))))); refine wpQuiet_nil ?_; rintro _ ⟨x, rfl⟩) | (go_at_call 78; refine (c_ifloorDiv (by omega) (by omega) (by omega)).mono ?_; rintro _ _ ⟨rfl, x, rfl⟩))
          go_ret2
          exact Gives.mk (by rw [HG.out, HV.out]; rfl)
    · have HV := Lib.hid (show guessFrom b p0 p1 r0 = (p', q') by rw [← HF.out, List.drop_of_length_le (by omega), guessFrom])
      have b1 := guess_bd (x := b - p'.Board) (y := q'.True - p'.True) (by omega) (by omega) (by omega) (by omega)
      have b2 := div_bd (y := q'.Board - p'.Board) b1.1 b1.2 (by omega)
      go_wp2_with (first | ((with_reducible refine wp_region_later (by kernel_rfl) (by kernel_rfl) ?_); (repeat (first | go_big_quiet_step (first | fail))); refine wpQuiet_nil ?_; rintro _ ⟨x, rfl⟩))
      go_region
      all_goals
        go_wp2_with (first | ((with_reducible refine wp_region_later (by kernel_rfl) (by kernel_rfl) ?_); (repeat (first | go_big_quiet_step (first | (go_at_call 78; exact Gives.quiet (c_ifloorDiv (by omega) (by omega) (by omega)))))); refine wpQuiet_nil ?_; rintro _ ⟨x, rfl⟩) | (go_at_call 78; refine (c_ifloorDiv (by omega) (by omega) (by omega)).mono ?_; rintro _ _ ⟨rfl, x, rfl⟩))
        go_ret2
        exact Gives.mk (by rw [HG.out, HV.out]; rfl)

set_option maxRecDepth 100000 in
set_option maxHeartbeats 2000000 in
theorem c_sGuessTrue {a : Option Addr} {n c : Nat} {b : Int} {l : List Pair} {w : World} (hs : Sl encPair w a l) (hn : l.length = n) (hm : n ≤ 4611686018427387904) :
    Calls Try.prog 38 #[.slice a n c, .int .i64 b] w (Gives w (guessTrue l b)) := by
  cases q1 : pairsOk l
  · go_enter Try.func38, Try.ntmps38
    go_wp2_with (first | ((with_reducible refine wp_region_later (by kernel_rfl) (by kernel_rfl) ?_); (repeat (first | go_big_quiet_step (first | (go_at_call 76; exact Gives.quiet (c_sPairsOk (by first | assumption | (apply Sl.to <;> first | assumption | infer_instance) | omega) (by first | assumption | (apply Sl.to <;> first | assumption | infer_instance) | omega) (by first | assumption | (apply Sl.to <;> first | assumption | infer_instance) | omega))) | (go_at_call 72; exact Gives.quiet (c_sl01In))) | simp only [q1])); refine wpQuiet_nil ?_; rintro _ ⟨x, rfl⟩) | (go_at_call 76; refine (c_sPairsOk (by first | assumption | (apply Sl.to <;> first | assumption | infer_instance) | omega) (by first | assumption | (apply Sl.to <;> first | assumption | infer_instance) | omega) (by first | assumption | (apply Sl.to <;> first | assumption | infer_instance) | omega)).mono ?_; rintro _ _ ⟨rfl, x, rfl⟩) | (go_at_call 72; refine (c_sl01In).mono ?_; rintro _ _ ⟨rfl, x, rfl⟩))
    go_ret2
    exact Gives.mk (by simp [guessTrue, q1])
  by_cases h2 : n < 2
  · have HR : guessTrue l b = .tuple #[.int .i64 0, .bool false] := by
      unfold guessTrue; split
      · match l, hn with
        | [], _ => rfl
        | [p], _ => rfl
        | p :: q :: r, hn => simp at hn; omega
      · rfl
    have H2 : decide ((n : Int) < 2) = true := by simp; omega
    have H2' : decide (n < 2) = true := by simp; omega
    go_enter Try.func38, Try.ntmps38
    go_wp2_with (first | ((with_reducible refine wp_region_later (by kernel_rfl) (by kernel_rfl) ?_); (repeat (first | go_big_quiet_step (first | (go_at_call 76; exact Gives.quiet (c_sPairsOk (by first | assumption | (apply Sl.to <;> first | assumption | infer_instance) | omega) (by first | assumption | (apply Sl.to <;> first | assumption | infer_instance) | omega) (by first | assumption | (apply Sl.to <;> first | assumption | infer_instance) | omega))) | (go_at_call 72; exact Gives.quiet (c_sl01In))) | simp only [q1] | simp only [H2] | simp only [H2'])); refine wpQuiet_nil ?_; rintro _ ⟨x, rfl⟩) | (go_at_call 76; refine (c_sPairsOk (by first | assumption | (apply Sl.to <;> first | assumption | infer_instance) | omega) (by first | assumption | (apply Sl.to <;> first | assumption | infer_instance) | omega) (by first | assumption | (apply Sl.to <;> first | assumption | infer_instance) | omega)).mono ?_; rintro _ _ ⟨rfl, x, rfl⟩) | (go_at_call 72; refine (c_sl01In).mono ?_; rintro _ _ ⟨rfl, x, rfl⟩))
    go_ret2
    exact Gives.mk (by rw [HR]; rfl)
  cases q2 : inB b 0 2000000
  · go_enter Try.func38, Try.ntmps38
    go_wp2_with (first | ((with_reducible refine wp_region_later (by kernel_rfl) (by kernel_rfl) ?_); (repeat (first | go_big_quiet_step (first | (go_at_call 76; exact Gives.quiet (c_sPairsOk (by first | assumption | (apply Sl.to <;> first | assumption | infer_instance) | omega) (by first | assumption | (apply Sl.to <;> first | assumption | infer_instance) | omega) (by first | assumption | (apply Sl.to <;> first | assumption | infer_instance) | omega))) | (go_at_call 72; exact Gives.quiet (c_sl01In))) | simp only [q1] | simp only [q2])); refine wpQuiet_nil ?_; rintro _ ⟨x, rfl⟩) | (go_at_call 76; refine (c_sPairsOk (by first | assumption | (apply Sl.to <;> first | assumption | infer_instance) | omega) (by first | assumption | (apply Sl.to <;> first | assumption | infer_instance) | omega) (by first | assumption | (apply Sl.to <;> first | assumption | infer_instance) | omega)).mono ?_; rintro _ _ ⟨rfl, x, rfl⟩) | (go_at_call 72; refine (c_sl01In).mono ?_; rintro _ _ ⟨rfl, x, rfl⟩))
    go_ret2
    exact Gives.mk (by simp [guessTrue, q2])
  have hb2 := inB_iff.1 q2
  obtain ⟨p0, p1, r0, hl⟩ : ∃ p0 p1 r0, l = p0 :: p1 :: r0 := by
    match l, hn with
    | [], hn => simp at hn; omega
    | [p], hn => simp at hn; omega
    | p :: q :: r, _ => exact ⟨p, q, r, rfl⟩
  have HG := Lib.hid (show guessTrue l b = .tuple #[.int .i64 (guessVal b (guessFrom b p0 p1 r0)), .bool true] by simp only [guessTrue, q1, q2, Bool.and_self, if_true]; rw [hl]; rfl)
  have HL := Lib.hid hl; clear hl
  go_enter Try.func38, Try.ntmps38
  go_wp2_with (first | ((with_reducible refine wp_region_later (by kernel_rfl) (by kernel_rfl) ?_); (repeat (first | go_big_quiet_step (first | (go_at_call 76; exact Gives.quiet (c_sPairsOk (by first | assumption | (apply Sl.to <;> first | assumption | infer_instance) | omega) (by first | assumption | (apply Sl.to <;> first | assumption | infer_instance) | omega) (by first | assumption | (apply Sl.to <;> first | assumption | infer_instance) | omega))) | (go_at_call 72; exact Gives.quiet (c_sl01In))) | simp only [q1] | simp only [q2])); refine wpQuiet_nil ?_; rintro _ ⟨x, rfl⟩) | (go_at_call 76; refine (c_sPairsOk (by first | assumption | (apply Sl.to <;> first | assumption | infer_instance) | omega) (by first | assumption | (apply Sl.to <;> first | assumption | infer_instance) | omega) (by first | assumption | (apply Sl.to <;> first | assumption | infer_instance) | omega)).mono ?_; rintro _ _ ⟨rfl, x, rfl⟩) | (go_at_call 72; refine (c_sl01In).mono ?_; rintro _ _ ⟨rfl, x, rfl⟩))
  go_loopw [7] (fun v wr => ∃ k : Nat, v = .int .i64 k ∧ 1 ≤ k ∧ k < n ∧ (∃ p q, l[k - 1]? = some p ∧ l[k]? = some q ∧ guessFrom b p q (l.drop (k + 1)) = guessFrom b p0 p1 r0) ∧ ∃ x : Later w, wr = x.w) (fun v _ => (n - intOf v).toNat)
  case atStart => exact ⟨1, rfl, by omega, by omega, ⟨p0, p1, by rw [HL.out]; rfl, by rw [HL.out]; rfl, by rw [HL.out]; rfl⟩, Later.of⟩
  case round =>
    obtain ⟨k, rfl, hk1, hk, ⟨p, q, hp, hq, hf⟩, x0, rfl⟩ := hrel
    have HP := Lib.hid hp; have HQ := Lib.hid hq; have HF := Lib.hid hf
    clear hp hq hf
    obtain ⟨b1, off, p', rfl, hb, hd, h0, h1⟩ := hs.pair (show k - 1 < l.length by omega)
    obtain rfl : p' = p := by have := congrArg (fun m => m[0]?) hd.out; have h9 := HP.out; simp at this; rw [h9] at this; exact (Option.some.inj this).symm
    obtain ⟨b', off', q', hbo, hb', hd', h0', h1'⟩ := hs.pair (show k < l.length by omega)
    obtain rfl : q' = q := by have := congrArg (fun m => m[0]?) hd'.out; have h9 := HQ.out; simp at this; rw [h9] at this; exact (Option.some.inj this).symm
    simp only [Option.some.injEq, Addr.mk.injEq, and_true] at hbo
    obtain ⟨rfl, rfl⟩ := hbo
    have m0 := pairsOk_mem q1 p' (List.mem_of_getElem? HP.out)
    have m1 := pairsOk_mem q1 q' (List.mem_of_getElem? HQ.out)
    have hlt := pairsOk_lt q1 (show k - 1 < k by omega) HP.out HQ.out
    by_cases c1 : k < n - 1
    · obtain ⟨r, hr, hdr⟩ := drop_at (l := l) (show k + 1 < l.length by omega)
      have HR := Lib.hid hr; clear hr
      by_cases c2 : q'.Board < b
      · go_wp2_with (first | ((with_reducible refine wp_region_later (by kernel_rfl) (by kernel_rfl) ?_); (repeat (first | go_big_quiet_step (first | fail))); refine wpQuiet_nil ?_; rintro _ ⟨x, rfl⟩))
        go_roundw
        case rel => exact ⟨k + 1, by go_num, by omega, by omega, ⟨q', r, HQ.out, HR.out, by have := HF.out; rw [hdr.out, guessFrom, if_pos c2] at this; exact this⟩, Later.of⟩
        case measure => simp [intOf]; omega
      · have HV := Lib.hid (show guessFrom b p0 p1 r0 = (p', q') by rw [← HF.out, hdr.out, guessFrom, if_neg c2])
        have b1 := guess_bd (x := b - p'.Board) (y := q'.True - p'.True) (by omega) (by omega) (by omega) (by omega)
        have b2 := div_bd (y := q'.Board - p'.Board) b1.1 b1.2 (by omega)
        all_goals
          go_wp2_with (first | ((with_reducible refine wp_region_later (by kernel_rfl) (by kernel_rfl) ?_); (repeat (first | go_big_quiet_step (first | (go_at_call 77; exact Gives.quiet (c_sl07Floor (by omega) (by omega) (by omega)))))); refine wpQuiet_nil ?_; rintro _ ⟨x, rfl⟩) | (go_at_call 77; refine (c_sl07Floor (by omega) (by omega) (by omega)).mono ?_; rintro _ _ ⟨rfl, x, rfl⟩))
          go_ret2
          exact Gives.mk (by rw [HG.out, HV.out]; rfl)
    · have HV := Lib.hid (show guessFrom b p0 p1 r0 = (p', q') by rw [← HF.out, List.drop_of_length_le (by omega), guessFrom])
      have b1 := guess_bd (x := b - p'.Board) (y := q'.True - p'.True) (by omega) (by omega) (by omega) (by omega)
      have b2 := div_bd (y := q'.Board - p'.Board) b1.1 b1.2 (by omega)
      all_goals
        go_wp2_with (first | ((with_reducible refine wp_region_later (by kernel_rfl) (by kernel_rfl) ?_); (repeat (first | go_big_quiet_step (first | (go_at_call 77; exact Gives.quiet (c_sl07Floor (by omega) (by omega) (by omega)))))); refine wpQuiet_nil ?_; rintro _ ⟨x, rfl⟩) | (go_at_call 77; refine (c_sl07Floor (by omega) (by omega) (by omega)).mono ?_; rintro _ _ ⟨rfl, x, rfl⟩))
        go_ret2
        exact Gives.mk (by rw [HG.out, HV.out]; rfl)
end Go.Proofs.Ytonclekalgaojaa
