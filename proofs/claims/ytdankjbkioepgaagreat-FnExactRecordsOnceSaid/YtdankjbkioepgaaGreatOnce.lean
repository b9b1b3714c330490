/- The contracts of eachOnce and l09Once. No condition but on lengths. -/
import Derived.Test.YtdankjbkioepgaaGreatOnceL
import Derived.Test.YtdankjbkioepgaaGreatFileO
namespace Go.Proofs.YtdankjbkioepgaaGreat
set_option linter.unusedVariables false
open Go.ChangeShapes Go.WideShapes Go.ChangeAt Go.RowKit

theorem count_snoc {l : List Int} {k : Nat} {s : Int} {r : List Int} (h : l.drop k = s :: r) (i : Int) : (l.take (k + 1)).count i = (l.take k).count i + (if s = i then 1 else 0) := by
  rw [take_snoc' h, List.count_append]
  simp [List.count_cons]
/-- All of a list are the number 1. -/
theorem allB_one {l : List Int} : ∀ N : Nat, allB 1 1 ((List.range N).map (fun i : Nat => (l.count (i : Int) : Int))) = countsOne l N := by
  have key : ∀ (p : List Nat), allB 1 1 (p.map (fun i : Nat => (l.count (i : Int) : Int))) = p.all (fun i : Nat => decide (l.count (i : Int) = 1)) := by
    intro p
    induction p with
    | nil => rfl
    | cons x r ih =>
      rw [List.map_cons, allB, ih, List.all_cons]
      congr 1
      rw [Bool.eq_iff_iff, inB_iff, decide_eq_true_eq]
      omega
  intro N
  rw [key]
  induction N with
  | zero => rfl
  | succ N ih => rw [List.range_succ, List.all_append, ih, countsOne]; simp

theorem made_zero {n i : Nat} {v : Value} (hv : v.cells = #[v]) (hi : i < n) : (madeCells v.cells (n * 1))[i]? = some v := by
  have h1 : i % 1 = 0 := Nat.mod_one i
  rw [hv]
  simp [madeCells, hi, h1]

set_option maxRecDepth 100000 in
set_option maxHeartbeats 2000000 in
theorem c_ieachOnceN {a : Option Addr} {n c : Nat} {l : List Int} {w : World} (hs : Sl encInt w a l) (hn : l.length = n) (hm : n ≤ 4194304) :
    Calls Tryz.prog 50 #[.slice a n c, .int .i64 n] w (Gives w (.bool (countsOne l n))) := by
  have hmx : max (n : Int) 0 = (n : Int) := by omega
  have k1 : ((n : Int) != (n : Int)) = false := by simp
  obtain ⟨C, hC, hmk⟩ := run_mk (P := Tryz.prog) Tryz.underlying46 (e := 3) (z := .int .i64 0) (size := 1) (bytes := 8) (by kernel_rfl) n (by omega) (by omega)
  have hCz : C.size = n := by rw [hC, size_madeCells, Nat.mul_one]
  have HC := Lib.hid (show ∀ i, i < n → C[i]? = some (.int .i64 0) from fun i hi => by rw [hC]; exact made_zero rfl hi)
  clear hC
  go_enter Tryz.func50, Tryz.ntmps50
  go_wp2_with (first | ((with_reducible refine wp_region_later (by kernel_rfl) (by kernel_rfl) ?_); (repeat (first | go_big_quiet_step (first | fail) | simp only [hmx] | simp only [k1])); refine wpQuiet_nil ?_; rintro _ ⟨x, rfl⟩))
  clear hmk
  go_loopw [18] (fun v wr => ∃ k : Nat, v = .int .i64 k ∧ k ≤ n ∧ ∃ (D : Array Value) (x : Later (w.alloc (.cells D 3))), D.size = n ∧ Hid (∀ i, i < n → D[i]? = some (.int .i64 ((l.take k).count (i : Int)))) ∧ wr = x.w) (fun v _ => (n - intOf v).toNat)
  case atStart => exact ⟨0, rfl, by omega, C, Later.here _, hCz, (fun i hi => by rw [HC.out i hi]; rfl), rfl⟩
  case round =>
    obtain ⟨k, rfl, hk, D, X, hDz, hf, rfl⟩ := hrel
    by_cases h : k < n
    · obtain ⟨b, off, s, rfl, hb, hd, h0⟩ := hs.int (show k < l.length by omega)
      cases c1 : inB s 0 ((n : Int) - 1)
      · have HF := Lib.hid (show ∀ i, i < n → D[i]? = some (.int .i64 ((l.take (k + 1)).count (i : Int))) from fun i hi => by
          have hne : ¬ s = (i : Int) := fun e => by
            have h2 : inB s 0 ((n : Int) - 1) = true := inB_iff.2 (by omega)
            rw [c1] at h2; cases h2
          rw [hf.out i hi, count_snoc hd.out, if_neg hne]; rfl)
        clear hf
        go_wp2_with (first | ((with_reducible refine wp_region_later (by kernel_rfl) (by kernel_rfl) ?_); (repeat (first | go_big_quiet_step (first | (go_at_call 69; exact Gives.quiet (c_ibetween))) | simp only [c1])); refine wpQuiet_nil ?_; rintro _ ⟨x, rfl⟩) | (go_at_call 69; refine (c_ibetween).mono ?_; rintro _ _ ⟨rfl, x, rfl⟩))
        go_roundw
        case rel => exact ⟨k + 1, by go_num, by omega, D, X.andThen x, hDz, HF, rfl⟩
        case measure => simp [intOf]; omega
      · have ⟨hs1, hs2⟩ := inB_iff.1 c1
        obtain ⟨j, rfl⟩ := Int.eq_ofNat_of_zero_le hs1
        have hj : j < n := by omega
        have g0 := hf.out j hj
        have hcl : (l.take k).count (j : Int) ≤ n := Nat.le_trans List.count_le_length (by rw [List.length_take]; omega)
        obtain ⟨q, hq⟩ : ∃ q, (l.take k).count (j : Int) = q := ⟨_, rfl⟩
        rw [hq] at g0 hcl
        have HQ := Lib.hid hq; clear hq
        obtain ⟨hjD, g1⟩ := Array.getElem?_eq_some_iff.1 g0
        clear hs1 hs2
        go_wp2_with (first | ((with_reducible refine wp_region_later (by kernel_rfl) (by kernel_rfl) ?_); (repeat (first | go_big_quiet_step (first | (go_at_call 69; exact Gives.quiet (c_ibetween))) | simp only [c1])); refine wpQuiet_nil ?_; rintro _ ⟨x, rfl⟩) | (go_at_call 69; refine (c_ibetween).mono ?_; rintro _ _ ⟨rfl, x, rfl⟩))
        go_roundw
        case rel =>
          obtain ⟨x2, hx2⟩ := Later.set1_at (X.andThen x) j (.int .i64 ((q : Int) + 1))
          refine ⟨k + 1, by go_num, by omega, D.setIfInBounds j (.int .i64 ((q : Int) + 1)), x2, by simpa using hDz, (fun i hi => ?_), by rw [← hx2]⟩
          rw [count_snoc hd.out]
          by_cases hji : j = i
          · subst hji
            rw [Array.getElem?_setIfInBounds_self_of_lt (by omega), HQ.out, if_pos rfl]; rfl
          · rw [Array.getElem?_setIfInBounds_ne hji, hf.out i hi, if_neg (by omega)]; rfl
        case measure => simp [intOf]; omega
    · have hkn : l.take k = l := List.take_of_length_le (by omega)
      rw [hkn] at hf
      have hsl : Sl encInt X.w (some ⟨w.heap.size, 0, none⟩) ((List.range n).map (fun i : Nat => (l.count (i : Int) : Int))) := fun i y hy => by
        have hi : i < n := by have := (List.getElem?_eq_some_iff.1 hy).1; simpa using this
        have hy2 : y = (l.count (i : Int) : Int) := by simpa [hi] using hy.symm
        subst hy2
        refine ⟨w.heap.size, 0, rfl, (LtN.out (a := w.heap.size)), fun j v hv => ?_⟩
        have hj : j = 0 := by have := (List.getElem?_eq_some_iff.1 hv).1; simp [encInt] at this; exact this
        subst hj
        rw [X.h.cell (p := ⟨w.heap.size, _, none⟩) (by simp), World.cell?_alloc_at _ _ _ _ rfl, encInt_len, Nat.mul_one, Nat.zero_add, Nat.add_zero, hf.out i hi]
        simpa [encInt] using hv
      have HV := Lib.hid (allB_one (l := l) n)
      go_wp2_with (first | ((with_reducible refine wp_region_later (by kernel_rfl) (by kernel_rfl) ?_); (repeat (first | go_big_quiet_step (first | fail))); refine wpQuiet_nil ?_; rintro _ ⟨x, rfl⟩))
      refine (c_iallBetween (hsl.to inferInstance) (by simp) (by omega)).mono ?_
      rintro _ _ ⟨rfl, y, rfl⟩
      rw [HV.out]
      go_wp2_with (first | ((with_reducible refine wp_region_later (by kernel_rfl) (by kernel_rfl) ?_); (repeat (first | go_big_quiet_step (first | fail))); refine wpQuiet_nil ?_; rintro _ ⟨x, rfl⟩))
      go_ret
      exact Gives.mk rfl

set_option maxRecDepth 100000 in
set_option maxHeartbeats 2000000 in
theorem c_sl09OnceN {a : Option Addr} {n c : Nat} {l : List Int} {w : World} (hs : Sl encInt w a l) (hn : l.length = n) (hm : n ≤ 4194304) :
    Calls Tryz.prog 49 #[.slice a n c, .int .i64 n] w (Gives w (.bool (onceGo n [] l))) := by
  have hmx : max (n : Int) 0 = (n : Int) := by omega
  have k1 : ((n : Int) != (n : Int)) = false := by simp
  obtain ⟨C, hC, hmk⟩ := run_mk (P := Tryz.prog) Tryz.underlying41 (e := 4) (z := .bool false) (size := 1) (bytes := 1) (by kernel_rfl) n (by omega) (by omega)
  have hCz : C.size = n := by rw [hC, size_madeCells, Nat.mul_one]
  have HC := Lib.hid (show ∀ i, i < n → C[i]? = some (.bool false) from fun i hi => by rw [hC]; exact made_zero rfl hi)
  clear hC
  go_enter Tryz.func49, Tryz.ntmps49
  go_wp2_with (first | ((with_reducible refine wp_region_later (by kernel_rfl) (by kernel_rfl) ?_); (repeat (first | go_big_quiet_step (first | fail) | simp only [hmx] | simp only [k1])); refine wpQuiet_nil ?_; rintro _ ⟨x, rfl⟩))
  clear hmk
  go_loopw [6] (fun v wr => ∃ k : Nat, v = .int .i64 k ∧ k ≤ n ∧ ∃ (D : Array Value) (seen : List Int) (x : Later (w.alloc (.cells D 4))), D.size = n ∧ Hid (∀ i : Nat, i < n → D[i]? = some (.bool (seen.contains (i : Int)))) ∧ Hid (onceGo n seen (l.drop k) = onceGo n [] l) ∧ wr = x.w) (fun v _ => (n - intOf v).toNat)
  case atStart => exact ⟨0, rfl, by omega, C, [], Later.here _, hCz, (fun i hi => by rw [HC.out i hi]; rfl), rfl, rfl⟩
  case round =>
    obtain ⟨k, rfl, hk, D, seen, X, hDz, hf, hg, rfl⟩ := hrel
    by_cases h : k < n
    · obtain ⟨b, off, s, rfl, hb, hd, h0⟩ := hs.int (show k < l.length by omega)
      have HG := Lib.hid (show (inB s 0 ((n : Int) - 1) && (!(seen.contains s) && onceGo n (s :: seen) (l.drop (k + 1)))) = onceGo n [] l by have := hg.out; rw [hd.out, onceGo] at this; exact this)
      clear hg hd
      cases c1 : inB s 0 ((n : Int) - 1)
      · have HF := Lib.hid (show onceGo n [] l = false by rw [← HG.out, c1]; rfl)
        go_wp2_with (first | ((with_reducible refine wp_region_later (by kernel_rfl) (by kernel_rfl) ?_); (repeat (first | go_big_quiet_step (first | (go_at_call 62; exact Gives.quiet (c_sl01In))) | simp only [c1])); refine wpQuiet_nil ?_; rintro _ ⟨x, rfl⟩) | (go_at_call 62; refine (c_sl01In).mono ?_; rintro _ _ ⟨rfl, x, rfl⟩))
        go_ret
        exact Gives.mk (by rw [HF.out]; rfl)
      · have ⟨hs1, hs2⟩ := inB_iff.1 c1
        obtain ⟨j, rfl⟩ := Int.eq_ofNat_of_zero_le hs1
        have hj : j < n := by omega
        have g0 := hf.out j hj
        cases c2 : seen.contains (j : Int)
        · have HF := Lib.hid (show onceGo n ((j : Int) :: seen) (l.drop (k + 1)) = onceGo n [] l by rw [← HG.out, c1, c2]; rfl)
          rw [c2] at g0
          obtain ⟨hjD, g1⟩ := Array.getElem?_eq_some_iff.1 g0
          clear hs1 hs2 c2 HG
          go_wp2_with (first | ((with_reducible refine wp_region_later (by kernel_rfl) (by kernel_rfl) ?_); (repeat (first | go_big_quiet_step (first | (go_at_call 62; exact Gives.quiet (c_sl01In))) | simp only [c1])); refine wpQuiet_nil ?_; rintro _ ⟨x, rfl⟩) | (go_at_call 62; refine (c_sl01In).mono ?_; rintro _ _ ⟨rfl, x, rfl⟩))
          go_roundw
          case rel =>
            obtain ⟨x2, hx2⟩ := Later.set1_at (X.andThen x) j (.bool true)
            refine ⟨k + 1, by go_num, by omega, D.setIfInBounds j (.bool true), (j : Int) :: seen, x2, by simpa using hDz, (fun i hi => ?_), HF, by rw [← hx2]⟩
            by_cases hji : j = i
            · subst hji
              rw [Array.getElem?_setIfInBounds_self_of_lt (by omega)]
              simp
            · have hne : ¬ (i : Int) = (j : Int) := by omega
              rw [Array.getElem?_setIfInBounds_ne hji, hf.out i hi]
              simp [hne]
          case measure => simp [intOf]; omega
        · have HF := Lib.hid (show onceGo n [] l = false by rw [← HG.out, c1, c2]; rfl)
          rw [c2] at g0
          obtain ⟨hjD, g1⟩ := Array.getElem?_eq_some_iff.1 g0
          clear hs1 hs2 c2 HG
          go_wp2_with (first | ((with_reducible refine wp_region_later (by kernel_rfl) (by kernel_rfl) ?_); (repeat (first | go_big_quiet_step (first | (go_at_call 62; exact Gives.quiet (c_sl01In))) | simp only [c1])); refine wpQuiet_nil ?_; rintro _ ⟨x, rfl⟩) | (go_at_call 62; refine (c_sl01In).mono ?_; rintro _ _ ⟨rfl, x, rfl⟩))
          go_ret
          exact Gives.mk (by rw [HF.out]; rfl)
    · have HF := Lib.hid (show onceGo n [] l = true by have := hg.out; rw [List.drop_of_length_le (by omega), onceGo] at this; exact this.symm)
      go_wp2_with (first | ((with_reducible refine wp_region_later (by kernel_rfl) (by kernel_rfl) ?_); (repeat (first | go_big_quiet_step (first | fail))); refine wpQuiet_nil ?_; rintro _ ⟨x, rfl⟩))
      go_ret
      exact Gives.mk (by rw [HF.out]; rfl)

set_option maxRecDepth 100000 in
set_option maxHeartbeats 2000000 in
theorem c_ieachOnce {a : Option Addr} {n c : Nat} {t : Int} {l : List Int} {w : World} (hs : Sl encInt w a l) (hn : l.length = n) (hm : n ≤ 4194304) :
    Calls Tryz.prog 50 #[.slice a n c, .int .i64 t] w (Gives w (.bool (once l t))) := by
  by_cases hN : t = (n : Int)
  · subst hN
    rw [show once l (n : Int) = countsOne l n by simp [once, hn]]
    exact c_ieachOnceN hs hn hm
  by_cases h0 : t < 0 ∧ n = 0
  · obtain ⟨h1, rfl⟩ := h0
    have hmx : max t 0 = 0 := by omega
    have hl : l = [] := List.length_eq_zero_iff.1 hn
    have HV := Lib.hid (show once l t = true by rw [once, hl, show t.toNat = 0 by omega]; rfl)
    clear hN
    have hmk : ∀ w : World, (Instr.makeSlice 46 (.int .i64 0) (.int .i64 0)).run Tryz.prog w = .ok (.slice (some ⟨w.heap.size, 0, none⟩) 0 0) (w.alloc (.cells #[] 3)) := fun w => by kernel_rfl
    go_enter Tryz.func50, Tryz.ntmps50
    go_wp2_with (first | ((with_reducible refine wp_region_later (by kernel_rfl) (by kernel_rfl) ?_); (repeat (first | go_big_quiet_step (first | fail) | simp only [hmx])); refine wpQuiet_nil ?_; rintro _ ⟨x, rfl⟩))
    refine wp_loop_rounds 1 ?_
    rw [rounds_succ]
    go_wp2_with (first | ((with_reducible refine wp_region_later (by kernel_rfl) (by kernel_rfl) ?_); (repeat (first | go_big_quiet_step (first | fail))); refine wpQuiet_nil ?_; rintro _ ⟨x, rfl⟩))
    refine (c_iallBetween (l := []) (n := 0) (Sl.nil) rfl (by omega)).mono ?_
    rintro _ _ ⟨rfl, y, rfl⟩
    go_wp2_with (first | ((with_reducible refine wp_region_later (by kernel_rfl) (by kernel_rfl) ?_); (repeat (first | go_big_quiet_step (first | fail))); refine wpQuiet_nil ?_; rintro _ ⟨x, rfl⟩))
    go_ret
    exact Gives.mk (by rw [HV.out]; rfl)
  · have HV := Lib.hid (show once l t = false by rw [once, hn, decide_eq_false (by omega)]; rfl)
    by_cases ht : t < 0
    · have hT : max t 0 = 0 := by omega
      have hne : ((n : Int) != 0) = true := by simp; omega
      clear hN h0
      go_enter Tryz.func50, Tryz.ntmps50
      go_wp2_with (first | ((with_reducible refine wp_region_later (by kernel_rfl) (by kernel_rfl) ?_); (repeat (first | go_big_quiet_step (first | fail) | simp only [hT] | simp only [hne])); refine wpQuiet_nil ?_; rintro _ ⟨x, rfl⟩))
      go_ret
      exact Gives.mk (by rw [HV.out]; rfl)
    · have hT : max t 0 = t := by omega
      have hne : ((n : Int) != t) = true := by simp; omega
      clear hN h0
      go_enter Tryz.func50, Tryz.ntmps50
      go_wp2_with (first | ((with_reducible refine wp_region_later (by kernel_rfl) (by kernel_rfl) ?_); (repeat (first | go_big_quiet_step (first | fail) | simp only [hT] | simp only [hne])); refine wpQuiet_nil ?_; rintro _ ⟨x, rfl⟩))
      go_ret
      exact Gives.mk (by rw [HV.out]; rfl)

set_option maxRecDepth 100000 in
set_option maxHeartbeats 2000000 in
theorem c_sl09Once {a : Option Addr} {n c : Nat} {t : Int} {l : List Int} {w : World} (hs : Sl encInt w a l) (hn : l.length = n) (hm : n ≤ 4194304) :
    Calls Tryz.prog 49 #[.slice a n c, .int .i64 t] w (Gives w (.bool (once l t))) := by
  by_cases hN : t = (n : Int)
  · subst hN
    rw [show once l (n : Int) = onceGo n [] l by rw [once_same hn]; simp [once, hn]]
    exact c_sl09OnceN hs hn hm
  by_cases h0 : t < 0 ∧ n = 0
  · obtain ⟨h1, rfl⟩ := h0
    have hmx : max t 0 = 0 := by omega
    have hl : l = [] := List.length_eq_zero_iff.1 hn
    have HV := Lib.hid (show once l t = true by rw [once, hl, show t.toNat = 0 by omega]; rfl)
    clear hN
    have hmk : ∀ w : World, (Instr.makeSlice 41 (.int .i64 0) (.int .i64 0)).run Tryz.prog w = .ok (.slice (some ⟨w.heap.size, 0, none⟩) 0 0) (w.alloc (.cells #[] 4)) := fun w => by kernel_rfl
    go_enter Tryz.func49, Tryz.ntmps49
    go_wp2_with (first | ((with_reducible refine wp_region_later (by kernel_rfl) (by kernel_rfl) ?_); (repeat (first | go_big_quiet_step (first | fail) | simp only [hmx])); refine wpQuiet_nil ?_; rintro _ ⟨x, rfl⟩))
    refine wp_loop_rounds 1 ?_
    rw [rounds_succ]
    go_wp2_with (first | ((with_reducible refine wp_region_later (by kernel_rfl) (by kernel_rfl) ?_); (repeat (first | go_big_quiet_step (first | fail))); refine wpQuiet_nil ?_; rintro _ ⟨x, rfl⟩))
    go_ret
    exact Gives.mk (by rw [HV.out]; rfl)
  · have HV := Lib.hid (show once l t = false by rw [once, hn, decide_eq_false (by omega)]; rfl)
    by_cases ht : t < 0
    · have hT : max t 0 = 0 := by omega
      have hne : ((n : Int) != 0) = true := by simp; omega
      clear hN h0
      go_enter Tryz.func49, Tryz.ntmps49
      go_wp2_with (first | ((with_reducible refine wp_region_later (by kernel_rfl) (by kernel_rfl) ?_); (repeat (first | go_big_quiet_step (first | fail) | simp only [hT] | simp only [hne])); refine wpQuiet_nil ?_; rintro _ ⟨x, rfl⟩))
      go_ret
      exact Gives.mk (by rw [HV.out]; rfl)
    · have hT : max t 0 = t := by omega
      have hne : ((n : Int) != t) = true := by simp; omega
      clear hN h0
      go_enter Tryz.func49, Tryz.ntmps49
      go_wp2_with (first | ((with_reducible refine wp_region_later (by kernel_rfl) (by kernel_rfl) ?_); (repeat (first | go_big_quiet_step (first | fail) | simp only [hT] | simp only [hne])); refine wpQuiet_nil ?_; rintro _ ⟨x, rfl⟩))
      go_ret
      exact Gives.mk (by rw [HV.out]; rfl)
end Go.Proofs.YtdankjbkioepgaaGreat
