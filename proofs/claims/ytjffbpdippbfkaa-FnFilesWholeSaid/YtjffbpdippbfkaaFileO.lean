/- The contracts on senders of files: their mirrors, their equality, their marks. No condition but on lengths. -/
import Derived.Test.YtjffbpdippbfkaaHeld
import Derived.Test.YtjffbpdippbfkaaEqInt
import Derived.Test.YtjffbpdippbfkaaNum
namespace Go.Proofs.Ytjffbpdippbfkaa
set_option linter.unusedVariables false
open Go.ChangeShapes Go.WideShapes Go.ChangeAt Go.RowKit

/-- A sender of a file, its queue in memory of the call's own. -/
def GivesFO (w : World) (f : Int) (s : ByteArray) (q : List Int) (d : Bool) : Ending → World → Prop := fun e w' =>
  ∃ a c, e = .returned (.agg #[.int .i64 f, .string s, .slice a q.length c, .bool d]) ∧ Own encInt 3 1 w.heap.size w' a c q ∧ ∃ x : Later w, w' = x.w

theorem c_ltoFileOut {a : Option Addr} {n c : Nat} {f : Int} {s : ByteArray} {d : Bool} {q : List Int} {w : World} (hs : Sl encInt w a q) (hn : q.length = n) (hm : n ≤ 1048576) :
    Calls Try.prog 22 #[.agg #[.int .i64 f, .string s, .slice a n c, .bool d]] w (GivesFO w f s q d) := by
  go_enter Try.func22, Try.ntmps22
  go_wp2_with (first | ((with_reducible refine wp_region_later (by kernel_rfl) (by kernel_rfl) ?_); (repeat (first | go_big_quiet_step (first | fail))); refine wpQuiet_nil ?_; rintro _ ⟨x, rfl⟩))
  refine (c_ltoIntS (hs.to inferInstance) hn hm).mono ?_
  rintro _ _ ⟨a1, c1, rfl, o1, y1, rfl⟩
  have O1 := Lib.hid (o1.mono (B' := w.heap.size + 3) (by simp)); clear o1
  go_wp2_with (first | ((with_reducible refine wp_region_later (by kernel_rfl) (by kernel_rfl) ?_); (repeat (first | go_big_quiet_step (first | fail))); refine wpQuiet_nil ?_; rintro _ ⟨x, rfl⟩))
  refine bodyPost_ret (v := .agg #[.int .i64 f, .string s, .slice a1 n c1, .bool d]) ?_ rfl ⟨a1, c1, by rw [hn], ?_, ?_⟩
  · simp [results, Try.results22, go_sem]
  · refine Own.mono (B := w.heap.size + 3) ?_ (by omega)
    have O2 := O1.out
    repeat (first | (with_reducible exact O2) | (with_reducible refine Own.lowS ?_ (by omega) _ _))
  · exact Later.of

theorem c_lszFileOut {a : Option Addr} {n c : Nat} {f left : Int} {s : ByteArray} {d : Bool} {w : World} (hl : 0 ≤ left) (hl' : left ≤ 1048576) (hm : n ≤ 9223372036854775807) (hsz : s.size ≤ 9223372036854775807) :
    Calls Try.prog 20 #[.agg #[.int .i64 f, .string s, .slice a n c, .bool d], .int .i64 left] w (Gives w (.int .i64 (if left - s.size < 0 then -1 else if left - s.size - n < 0 then -1 else left - s.size - n))) := by
  by_cases h : left - s.size < 0
  · rw [if_pos h]
    go_enter Try.func20, Try.ntmps20
    go_wp2_with (first | ((with_reducible refine wp_region_later (by kernel_rfl) (by kernel_rfl) ?_); (repeat (first | go_big_quiet_step (first | fail))); refine wpQuiet_nil ?_; rintro _ ⟨x, rfl⟩))
    go_ret
    exact Gives.mk rfl
  · rw [if_neg h]
    by_cases h2 : left - s.size - n < 0
    · rw [if_pos h2]
      go_enter Try.func20, Try.ntmps20
      go_wp2_with (first | ((with_reducible refine wp_region_later (by kernel_rfl) (by kernel_rfl) ?_); (repeat (first | go_big_quiet_step (first | (go_at_call 51; exact Gives.quiet (c_lszIntS (by omega) (by omega) (by omega)))))); refine wpQuiet_nil ?_; rintro _ ⟨x, rfl⟩) | (go_at_call 51; refine (c_lszIntS (by omega) (by omega) (by omega)).mono ?_; rintro _ _ ⟨rfl, x, rfl⟩))
      go_ret
      exact Gives.mk rfl
    · rw [if_neg h2]
      go_enter Try.func20, Try.ntmps20
      go_wp2_with (first | ((with_reducible refine wp_region_later (by kernel_rfl) (by kernel_rfl) ?_); (repeat (first | go_big_quiet_step (first | (go_at_call 51; exact Gives.quiet (c_lszIntS (by omega) (by omega) (by omega)))))); refine wpQuiet_nil ?_; rintro _ ⟨x, rfl⟩) | (go_at_call 51; refine (c_lszIntS (by omega) (by omega) (by omega)).mono ?_; rintro _ _ ⟨rfl, x, rfl⟩))
      go_ret
      exact Gives.mk rfl

theorem c_leqFileOut {a a' : Option Addr} {n n' c c' : Nat} {f f' : Int} {s s' : ByteArray} {d d' : Bool} {q q' : List Int} {w : World} (hs : Sl encInt w a q) (hs' : Sl encInt w a' q') (hn : q.length = n) (hn' : q'.length = n') (hm : n ≤ 4611686018427387904) (hm' : n' ≤ 4611686018427387904)
    (h1 : f = f') (h2 : s = s') (h3 : q = q') (h4 : d = d') :
    Calls Try.prog 24 #[.agg #[.int .i64 f, .string s, .slice a n c, .bool d], .agg #[.int .i64 f', .string s', .slice a' n' c', .bool d']] w (Gives w (.bool true)) := by
  subst h1; subst h2; subst h3; subst h4
  have he := eqAll_self eqInt_self q
  subst hn; subst hn'
  go_enter Try.func24, Try.ntmps24
  go_wp2_with (first | ((with_reducible refine wp_region_later (by kernel_rfl) (by kernel_rfl) ?_); (repeat (first | go_big_quiet_step (first | (go_at_call 25; exact Gives.quiet (c_leqIntS (by first | assumption | (apply Sl.to <;> first | assumption | infer_instance) | omega) (by first | assumption | (apply Sl.to <;> first | assumption | infer_instance) | omega) (by first | assumption | (apply Sl.to <;> first | assumption | infer_instance) | omega) (by first | assumption | (apply Sl.to <;> first | assumption | infer_instance) | omega) (by first | assumption | (apply Sl.to <;> first | assumption | infer_instance) | omega) (by first | assumption | (apply Sl.to <;> first | assumption | infer_instance) | omega)))))); refine wpQuiet_nil ?_; rintro _ ⟨x, rfl⟩) | (go_at_call 25; refine (c_leqIntS (by first | assumption | (apply Sl.to <;> first | assumption | infer_instance) | omega) (by first | assumption | (apply Sl.to <;> first | assumption | infer_instance) | omega) (by first | assumption | (apply Sl.to <;> first | assumption | infer_instance) | omega) (by first | assumption | (apply Sl.to <;> first | assumption | infer_instance) | omega) (by first | assumption | (apply Sl.to <;> first | assumption | infer_instance) | omega) (by first | assumption | (apply Sl.to <;> first | assumption | infer_instance) | omega)).mono ?_; rintro _ _ ⟨rfl, x, rfl⟩))
  go_ret
  exact Gives.mk rfl

theorem c_lmarkFileOut {a : Option Addr} {n c B : Nat} {f k0 : Int} {s : ByteArray} {d : Bool} {l : List Int} {w : World} (hown0 : Own encInt 3 1 B w a c l) (hn : l.length = n) (hm : n ≤ 1048576) (h1 : 0 ≤ k0) (h2 : k0 ≤ 1000000000000) :
    Calls Try.prog 26 #[.agg #[.int .i64 f, .string s, .slice a n c, .bool d], .int .i64 k0] w (Marks encInt 3 1 B w a n c ((List.range n).map (mkInt k0)) (k0 + n)) := by
  go_enter Try.func26, Try.ntmps26
  go_wp2_with (first | ((with_reducible refine wp_region_later (by kernel_rfl) (by kernel_rfl) ?_); (repeat (first | go_big_quiet_step (first | fail))); refine wpQuiet_nil ?_; rintro _ ⟨x, rfl⟩))
  refine (c_lmarkIntS (hown0.to inferInstance) hn hm h1 h2).mono ?_
  rintro _ w1 ⟨rfl, hg, ho⟩
  have HG := Lib.hid hg; have HO := Lib.hid ho; clear hg ho
  go_wp2_with (first | ((with_reducible refine wp_region_later (by kernel_rfl) (by kernel_rfl) ?_); (repeat (first | go_big_quiet_step (first | fail))); refine wpQuiet_nil ?_; rintro _ ⟨x, rfl⟩))
  go_ret
  exact ⟨rfl, grownBy_news _ HG.out, HO.out⟩

theorem c_lheldFileOut {a : Option Addr} {n c : Nat} {f k0 : Int} {s : ByteArray} {d : Bool} {w : World} (hs : Sl encInt w a ((List.range n).map (mkInt k0))) (hm : n ≤ 1048576) (h1 : 0 ≤ k0) (h2 : k0 ≤ 1000000000000) :
    Calls Try.prog 28 #[.agg #[.int .i64 f, .string s, .slice a n c, .bool d], .int .i64 k0] w (Gives w (.int .i64 (k0 + n))) := by
  go_enter Try.func28, Try.ntmps28
  go_wp2_with (first | ((with_reducible refine wp_region_later (by kernel_rfl) (by kernel_rfl) ?_); (repeat (first | go_big_quiet_step (first | fail))); refine wpQuiet_nil ?_; rintro _ ⟨x, rfl⟩))
  refine (c_lheldIntS (hs.to inferInstance) hm h1 h2).mono ?_
  rintro _ _ ⟨rfl, x1, rfl⟩
  go_wp2_with (first | ((with_reducible refine wp_region_later (by kernel_rfl) (by kernel_rfl) ?_); (repeat (first | go_big_quiet_step (first | fail))); refine wpQuiet_nil ?_; rintro _ ⟨x, rfl⟩))
  go_ret
  exact Gives.mk rfl

/-! ### What is valid -/
def countSeg (n : Int) : Int := if inB n 0 600 = true then (n + 23) / 24 else 0
theorem countSeg_bd (n : Int) : 0 ≤ countSeg n ∧ countSeg n ≤ 25 := by
  unfold countSeg
  split
  · rename_i h; have := inB_iff.1 h; omega
  · omega
def allB (lo hi : Int) : List Int → Bool
  | [] => true
  | x :: r => inB x lo hi && allB lo hi r
def fileOutOk (f : Int) (size : Int) (q : List Int) : Bool := inB f 0 7 && (decide (size ≤ 600) && (decide ((q.length : Int) ≤ 1000) && allB (-1) (countSeg size - 1) q))

theorem c_iCountSegments {n : Int} {w : World} : Calls Try.prog 39 #[.int .i64 n] w (Gives w (.int .i64 (countSeg n))) := by
  cases h : inB n 0 600
  · go_enter Try.func39, Try.ntmps39
    go_wp2_with (first | ((with_reducible refine wp_region_later (by kernel_rfl) (by kernel_rfl) ?_); (repeat (first | go_big_quiet_step (first | (go_at_call 44; exact Gives.quiet (c_ibetween))) | simp only [h])); refine wpQuiet_nil ?_; rintro _ ⟨x, rfl⟩) | (go_at_call 44; refine (c_ibetween).mono ?_; rintro _ _ ⟨rfl, x, rfl⟩))
    go_ret
    exact Gives.mk (by simp [countSeg, h])
  · have ⟨h1, h2⟩ := inB_iff.1 h
    go_enter Try.func39, Try.ntmps39
    go_wp2_with (first | ((with_reducible refine wp_region_later (by kernel_rfl) (by kernel_rfl) ?_); (repeat (first | go_big_quiet_step (first | (go_at_call 44; exact Gives.quiet (c_ibetween))) | simp only [h])); refine wpQuiet_nil ?_; rintro _ ⟨x, rfl⟩) | (go_at_call 44; refine (c_ibetween).mono ?_; rintro _ _ ⟨rfl, x, rfl⟩))
    go_ret
    exact Gives.mk (by simp [countSeg, h]; omega)
theorem c_sCountSegments {n : Int} {w : World} : Calls Try.prog 55 #[.int .i64 n] w (Gives w (.int .i64 (countSeg n))) := by
  cases h : inB n 0 600
  · go_enter Try.func55, Try.ntmps55
    go_wp2_with (first | ((with_reducible refine wp_region_later (by kernel_rfl) (by kernel_rfl) ?_); (repeat (first | go_big_quiet_step (first | (go_at_call 54; exact Gives.quiet (c_sl01In))) | simp only [h])); refine wpQuiet_nil ?_; rintro _ ⟨x, rfl⟩) | (go_at_call 54; refine (c_sl01In).mono ?_; rintro _ _ ⟨rfl, x, rfl⟩))
    go_ret
    exact Gives.mk (by simp [countSeg, h])
  · have ⟨h1, h2⟩ := inB_iff.1 h
    go_enter Try.func55, Try.ntmps55
    go_wp2_with (first | ((with_reducible refine wp_region_later (by kernel_rfl) (by kernel_rfl) ?_); (repeat (first | go_big_quiet_step (first | (go_at_call 54; exact Gives.quiet (c_sl01In))) | simp only [h])); refine wpQuiet_nil ?_; rintro _ ⟨x, rfl⟩) | (go_at_call 54; refine (c_sl01In).mono ?_; rintro _ _ ⟨rfl, x, rfl⟩))
    go_ret
    exact Gives.mk (by simp [countSeg, h]; omega)

theorem c_iallBetween {a : Option Addr} {n c : Nat} {lo hi : Int} {l : List Int} {w : World} (hs : Sl encInt w a l) (hn : l.length = n) (hm : n ≤ 4611686018427387904) :
    Calls Try.prog 50 #[.slice a n c, .int .i64 lo, .int .i64 hi] w (Gives w (.bool (allB lo hi l))) := by
  go_enter Try.func50, Try.ntmps50
  go_wp2_with (first | ((with_reducible refine wp_region_later (by kernel_rfl) (by kernel_rfl) ?_); (repeat (first | go_big_quiet_step (first | fail))); refine wpQuiet_nil ?_; rintro _ ⟨x, rfl⟩))
  go_loopw [11] (fun v wr => ∃ k : Nat, v = .int .i64 k ∧ k ≤ n ∧ Hid (allB lo hi (l.drop k) = allB lo hi l) ∧ ∃ x : Later w, wr = x.w) (fun v _ => (n - intOf v).toNat)
  case atStart => exact ⟨0, rfl, by omega, rfl, Later.of⟩
  case round =>
    obtain ⟨k, rfl, hk, hf, x, rfl⟩ := hrel
    by_cases h : k < n
    · obtain ⟨b, off, s, rfl, hb, hd, h0⟩ := hs.int (show k < l.length by omega)
      cases c1 : inB s lo hi
      · go_wp2_with (first | ((with_reducible refine wp_region_later (by kernel_rfl) (by kernel_rfl) ?_); (repeat (first | go_big_quiet_step (first | (go_at_call 44; exact Gives.quiet (c_ibetween))) | simp only [c1])); refine wpQuiet_nil ?_; rintro _ ⟨x, rfl⟩) | (go_at_call 44; refine (c_ibetween).mono ?_; rintro _ _ ⟨rfl, x, rfl⟩))
        go_ret
        exact Gives.mk (by have := hf.out; rw [hd.out, allB, c1] at this; rw [← this]; rfl)
      · go_wp2_with (first | ((with_reducible refine wp_region_later (by kernel_rfl) (by kernel_rfl) ?_); (repeat (first | go_big_quiet_step (first | (go_at_call 44; exact Gives.quiet (c_ibetween))) | simp only [c1])); refine wpQuiet_nil ?_; rintro _ ⟨x, rfl⟩) | (go_at_call 44; refine (c_ibetween).mono ?_; rintro _ _ ⟨rfl, x, rfl⟩))
        go_roundw
        case rel => exact ⟨k + 1, by go_num, by omega, by have := hf.out; rw [hd.out, allB, c1] at this; exact this, Later.of⟩
        case measure => simp [intOf]; omega
    · go_wp2_with (first | ((with_reducible refine wp_region_later (by kernel_rfl) (by kernel_rfl) ?_); (repeat (first | go_big_quiet_step (first | fail))); refine wpQuiet_nil ?_; rintro _ ⟨x, rfl⟩))
      go_ret
      exact Gives.mk (by have := hf.out; rw [List.drop_of_length_le (by omega), allB] at this; rw [← this]; rfl)

set_option maxRecDepth 100000 in
set_option maxHeartbeats 2000000 in
theorem c_iFileOutOk {a : Option Addr} {n c : Nat} {f : Int} {s : ByteArray} {d : Bool} {q : List Int} {w : World} (hs : Sl encInt w a q) (hn : q.length = n) (hm : n ≤ 4611686018427387904) (hsz : s.size ≤ 1048576) :
    Calls Try.prog 19 #[.agg #[.int .i64 f, .string s, .slice a n c, .bool d]] w (Gives w (.bool (fileOutOk f s.size q))) := by
  have HF := Lib.hid (show fileOutOk f s.size q = (inB f 0 7 && (decide ((s.size : Int) ≤ 600) && (decide ((n : Int) ≤ 1000) && allB (-1) (countSeg s.size - 1) q))) by rw [fileOutOk, hn])
  have hc := countSeg_bd s.size
  cases c1 : inB f 0 7
  · go_enter Try.func19, Try.ntmps19
    go_wp2_with (first | ((with_reducible refine wp_region_later (by kernel_rfl) (by kernel_rfl) ?_); (repeat (first | go_big_quiet_step (first | (go_at_call 44; exact Gives.quiet (c_ibetween))) | simp only [c1])); refine wpQuiet_nil ?_; rintro _ ⟨x, rfl⟩) | (go_at_call 44; refine (c_ibetween).mono ?_; rintro _ _ ⟨rfl, x, rfl⟩))
    go_ret
    exact Gives.mk (by rw [HF.out, c1]; rfl)
  by_cases h2 : 600 < s.size
  · go_enter Try.func19, Try.ntmps19
    go_wp2_with (first | ((with_reducible refine wp_region_later (by kernel_rfl) (by kernel_rfl) ?_); (repeat (first | go_big_quiet_step (first | (go_at_call 44; exact Gives.quiet (c_ibetween))) | simp only [c1])); refine wpQuiet_nil ?_; rintro _ ⟨x, rfl⟩) | (go_at_call 44; refine (c_ibetween).mono ?_; rintro _ _ ⟨rfl, x, rfl⟩))
    go_ret
    exact Gives.mk (by rw [HF.out]; have : decide ((s.size : Int) ≤ 600) = false := by simp; omega
                       simp [this])
  by_cases h3 : 1000 < n
  · go_enter Try.func19, Try.ntmps19
    go_wp2_with (first | ((with_reducible refine wp_region_later (by kernel_rfl) (by kernel_rfl) ?_); (repeat (first | go_big_quiet_step (first | (go_at_call 44; exact Gives.quiet (c_ibetween))) | simp only [c1])); refine wpQuiet_nil ?_; rintro _ ⟨x, rfl⟩) | (go_at_call 44; refine (c_ibetween).mono ?_; rintro _ _ ⟨rfl, x, rfl⟩))
    go_ret
    exact Gives.mk (by rw [HF.out]; have : decide ((n : Int) ≤ 1000) = false := by simp; omega
                       simp [this])
  · have d2 : decide ((s.size : Int) ≤ 600) = true := by simp; omega
    have d3 : decide ((n : Int) ≤ 1000) = true := by simp; omega
    have HD := Lib.hid (And.intro d2 d3); clear d2 d3
    go_enter Try.func19, Try.ntmps19
    go_wp2_with (first | ((with_reducible refine wp_region_later (by kernel_rfl) (by kernel_rfl) ?_); (repeat (first | go_big_quiet_step (first | (go_at_call 44; exact Gives.quiet (c_ibetween)) | (go_at_call 39; exact Gives.quiet (c_iCountSegments)) | (go_at_call 50; exact Gives.quiet (c_iallBetween (by first | assumption | (apply Sl.to <;> first | assumption | infer_instance) | omega) (by first | assumption | (apply Sl.to <;> first | assumption | infer_instance) | omega) (by first | assumption | (apply Sl.to <;> first | assumption | infer_instance) | omega)))) | simp only [c1])); refine wpQuiet_nil ?_; rintro _ ⟨x, rfl⟩) | (go_at_call 44; refine (c_ibetween).mono ?_; rintro _ _ ⟨rfl, x, rfl⟩) | (go_at_call 39; refine (c_iCountSegments).mono ?_; rintro _ _ ⟨rfl, x, rfl⟩) | (go_at_call 50; refine (c_iallBetween (by first | assumption | (apply Sl.to <;> first | assumption | infer_instance) | omega) (by first | assumption | (apply Sl.to <;> first | assumption | infer_instance) | omega) (by first | assumption | (apply Sl.to <;> first | assumption | infer_instance) | omega)).mono ?_; rintro _ _ ⟨rfl, x, rfl⟩))
    go_ret
    exact Gives.mk (by rw [HF.out, c1, HD.out.1, HD.out.2]; rfl)

set_option maxRecDepth 100000 in
set_option maxHeartbeats 2000000 in
theorem c_sFileOutOk {a : Option Addr} {n c : Nat} {f : Int} {s : ByteArray} {d : Bool} {q : List Int} {w : World} (hs : Sl encInt w a q) (hn : q.length = n) (hm : n ≤ 4611686018427387904) (hsz : s.size ≤ 1048576) :
    Calls Try.prog 53 #[.agg #[.int .i64 f, .string s, .slice a n c, .bool d]] w (Gives w (.bool (fileOutOk f s.size q))) := by
  have HF := Lib.hid (show fileOutOk f s.size q = (inB f 0 7 && (decide ((s.size : Int) ≤ 600) && (decide ((n : Int) ≤ 1000) && allB (-1) (countSeg s.size - 1) q))) by rw [fileOutOk, hn])
  have hc := countSeg_bd s.size
  go_enter Try.func53, Try.ntmps53
  go_wp2_with (first | ((with_reducible refine wp_region_later (by kernel_rfl) (by kernel_rfl) ?_); (repeat (first | go_big_quiet_step (first | fail))); refine wpQuiet_nil ?_; rintro _ ⟨x, rfl⟩))
  go_loopw [3] (fun v wr => ∃ k : Nat, v = .int .i64 k ∧ k ≤ n ∧ Hid (allB (-1) (countSeg s.size - 1) (q.drop k) = allB (-1) (countSeg s.size - 1) q) ∧ ∃ x : Later (w.alloc (.cells #[.int .i64 f, .string s, .slice a n c, .bool d] 27)), wr = x.w) (fun v _ => (n - intOf v).toNat)
  case atStart => exact ⟨0, rfl, by omega, rfl, Later.of⟩
  case round =>
    obtain ⟨k, rfl, hk, hf, x, rfl⟩ := hrel
    by_cases h : k < n
    · obtain ⟨b, off, y, rfl, hb, hd, h0⟩ := hs.int (show k < q.length by omega)
      cases c1 : inB y (-1) (countSeg s.size - 1)
      · go_wp2_with (first | ((with_reducible refine wp_region_later (by kernel_rfl) (by kernel_rfl) ?_); (repeat (first | go_big_quiet_step (first | (go_at_call 55; exact Gives.quiet (c_sCountSegments)) | (go_at_call 54; exact Gives.quiet (c_sl01In))) | simp only [c1])); refine wpQuiet_nil ?_; rintro _ ⟨x, rfl⟩) | (go_at_call 55; refine (c_sCountSegments).mono ?_; rintro _ _ ⟨rfl, x, rfl⟩) | (go_at_call 54; refine (c_sl01In).mono ?_; rintro _ _ ⟨rfl, x, rfl⟩))
        go_ret
        exact Gives.mk (by have := hf.out; rw [hd.out, allB, c1] at this; rw [HF.out, ← this]; simp)
      · go_wp2_with (first | ((with_reducible refine wp_region_later (by kernel_rfl) (by kernel_rfl) ?_); (repeat (first | go_big_quiet_step (first | (go_at_call 55; exact Gives.quiet (c_sCountSegments)) | (go_at_call 54; exact Gives.quiet (c_sl01In))) | simp only [c1])); refine wpQuiet_nil ?_; rintro _ ⟨x, rfl⟩) | (go_at_call 55; refine (c_sCountSegments).mono ?_; rintro _ _ ⟨rfl, x, rfl⟩) | (go_at_call 54; refine (c_sl01In).mono ?_; rintro _ _ ⟨rfl, x, rfl⟩))
        go_roundw
        case rel => exact ⟨k + 1, by go_num, by omega, by have := hf.out; rw [hd.out, allB, c1] at this; exact this, Later.of⟩
        case measure => simp [intOf]; omega
    · have hf' := hf.out
      rw [List.drop_of_length_le (by omega), allB] at hf'
      have HA := Lib.hid hf'; clear hf hf'
      cases c1 : inB f 0 7
      · go_wp2_with (first | ((with_reducible refine wp_region_later (by kernel_rfl) (by kernel_rfl) ?_); (repeat (first | go_big_quiet_step (first | (go_at_call 54; exact Gives.quiet (c_sl01In))) | simp only [c1])); refine wpQuiet_nil ?_; rintro _ ⟨x, rfl⟩) | (go_at_call 54; refine (c_sl01In).mono ?_; rintro _ _ ⟨rfl, x, rfl⟩))
        go_ret
        exact Gives.mk (by rw [HF.out, c1]; rfl)
      by_cases h2 : 600 < s.size
      · go_wp2_with (first | ((with_reducible refine wp_region_later (by kernel_rfl) (by kernel_rfl) ?_); (repeat (first | go_big_quiet_step (first | (go_at_call 54; exact Gives.quiet (c_sl01In))) | simp only [c1])); refine wpQuiet_nil ?_; rintro _ ⟨x, rfl⟩) | (go_at_call 54; refine (c_sl01In).mono ?_; rintro _ _ ⟨rfl, x, rfl⟩))
        go_ret
        exact Gives.mk (by rw [HF.out]; have : decide ((s.size : Int) ≤ 600) = false := by simp; omega
                           simp [this])
      by_cases h3 : 1000 < n
      · go_wp2_with (first | ((with_reducible refine wp_region_later (by kernel_rfl) (by kernel_rfl) ?_); (repeat (first | go_big_quiet_step (first | (go_at_call 54; exact Gives.quiet (c_sl01In))) | simp only [c1])); refine wpQuiet_nil ?_; rintro _ ⟨x, rfl⟩) | (go_at_call 54; refine (c_sl01In).mono ?_; rintro _ _ ⟨rfl, x, rfl⟩))
        go_ret
        exact Gives.mk (by rw [HF.out]; have : decide ((n : Int) ≤ 1000) = false := by simp; omega
                           simp [this])
      · go_wp2_with (first | ((with_reducible refine wp_region_later (by kernel_rfl) (by kernel_rfl) ?_); (repeat (first | go_big_quiet_step (first | (go_at_call 54; exact Gives.quiet (c_sl01In))) | simp only [c1])); refine wpQuiet_nil ?_; rintro _ ⟨x, rfl⟩) | (go_at_call 54; refine (c_sl01In).mono ?_; rintro _ _ ⟨rfl, x, rfl⟩))
        go_ret
        exact Gives.mk (by rw [HF.out, c1, ← HA.out]; simp; omega)
end Go.Proofs.Ytjffbpdippbfkaa
