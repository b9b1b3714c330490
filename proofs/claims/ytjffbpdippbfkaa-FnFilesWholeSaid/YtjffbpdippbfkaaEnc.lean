/- The contracts of EncodeEnd, EncodeSegment, SegmentOf. No condition but on numbers. -/
import Derived.Test.YtjffbpdippbfkaaCrc
import Derived.Test.YtjffbpdippbfkaaFileO
namespace Go.Proofs.Ytjffbpdippbfkaa
set_option linter.unusedVariables false
open Go.ChangeShapes Go.WideShapes Go.ChangeAt Go.RowKit

@[go_sem] theorem word1_size (n : Int) : (word1 n).size = 1 := rfl
@[go_sem] theorem word2_size (n : Int) : (word2 n).size = 2 := rfl
theorem str_ext {s : ByteArray} {a b c d : Nat} (h : a = c) (h2 : b = d) : Value.string (s.extract a b) = Value.string (s.extract c d) := by subst h h2; rfl
/-- The bytes of a number, of a length of 1 or 2. -/
def wordM (m n : Int) : ByteArray := if m = 1 then word1 n else word2 n
@[go_sem] theorem wordM_one (n : Int) : wordM 1 n = word1 n := rfl
@[go_sem] theorem wordM_two (n : Int) : wordM 2 n = word2 n := rfl
theorem crcBits_bd : ∀ (k : Nat) {n : Int}, 0 ≤ n → n ≤ 65535 → 0 ≤ crcBits k n ∧ crcBits k n ≤ 65535
  | 0, n, h0, h1 => ⟨h0, h1⟩
  | k + 1, n, h0, h1 => crcBits_bd k (crcBit_bd h0 h1).1 (crcBit_bd h0 h1).2
theorem crc_bd : ∀ (l : List Int) {n : Int}, (∀ b ∈ l, 0 ≤ b ∧ b ≤ 255) → 0 ≤ n → n ≤ 65535 → 0 ≤ crc n l ∧ crc n l ≤ 65535
  | [], n, _, h0, h1 => by rw [crc_nil]; exact ⟨h0, h1⟩
  | b :: l, n, h, h0, h1 => by
    rw [crc_cons]
    have hb := h b (by simp)
    have hx := xor_bd h0 h1 (show 0 ≤ 256 * b by omega) (show 256 * b ≤ 65535 by omega)
    have hc := crcBits_bd 8 hx.1 hx.2
    exact crc_bd l (fun c hc => h c (by simp [hc])) hc.1 hc.2
theorem checkOf_bd (s : ByteArray) : 0 ≤ checkOf s ∧ checkOf s ≤ 65535 := by
  rw [checkOf_eq]
  refine crc_bd _ (fun b hb => ?_) (by omega) (by omega)
  obtain ⟨u, -, rfl⟩ := List.mem_map.1 hb
  have := u.toNat_lt
  omega
/-- The part that ends a file. -/
def encEnd (f : Int) (s : ByteArray) : ByteArray := if (inB f 0 7 && !decide (600 < (s.size : Int))) = true then word1 1 ++ word1 f ++ word2 s.size ++ word2 (checkOf s) else ⟨#[]⟩
/-- The part that carries a segment. -/
def encSeg (f k : Int) (s : ByteArray) : ByteArray := if (inB f 0 7 && (inB k 0 24 && inB s.size 1 24)) = true then word1 0 ++ word1 f ++ word1 k ++ s else ⟨#[]⟩
/-- A segment of a text. -/
def segOf (s : ByteArray) (k : Int) : ByteArray := if inB k 0 (countSeg s.size - 1) = true then s.extract (24 * k).toNat (min (24 * k + 24) s.size).toNat else ⟨#[]⟩

theorem c_iPutWord {n m : Int} {w : World} (h0 : 0 ≤ n) (h : m = 1 ∧ n < 256 ∨ m = 2 ∧ n < 65536) :
    Calls Try.prog 45 #[.int .i64 n, .int .i64 m] w (Gives w (.string (wordM m n))) := by
  rcases h with ⟨rfl, h1⟩ | ⟨rfl, h1⟩
  · exact c_iPutWord1 h0 h1
  · exact c_iPutWord2 h0 h1

theorem c_iEncodeEnd {f : Int} {s : ByteArray} {w : World} (hm : s.size ≤ 1048576) :
    Calls Try.prog 12 #[.int .i64 f, .string s] w (Gives w (.string (encEnd f s))) := by
  cases c1 : inB f 0 7
  · go_enter Try.func12, Try.ntmps12
    go_wp2_with (first | ((with_reducible refine wp_region_later (by kernel_rfl) (by kernel_rfl) ?_); (repeat (first | go_big_quiet_step (first | (go_at_call 44; exact Gives.quiet (c_ibetween))) | simp only [c1])); refine wpQuiet_nil ?_; rintro _ ⟨x, rfl⟩) | (go_at_call 44; refine (c_ibetween).mono ?_; rintro _ _ ⟨rfl, x, rfl⟩))
    go_ret
    exact Gives.mk (by simp [encEnd, c1])
  cases c2 : decide (600 < (s.size : Int))
  · have ⟨f0, f1⟩ := inB_iff.1 c1
    have c3 : ¬ 600 < (s.size : Int) := by simpa using c2
    have ⟨h0, h1⟩ := checkOf_bd s
    go_enter Try.func12, Try.ntmps12
    go_wp2_with (first | ((with_reducible refine wp_region_later (by kernel_rfl) (by kernel_rfl) ?_); (repeat (first | go_big_quiet_step (first | (go_at_call 44; exact Gives.quiet (c_ibetween)) | (go_at_call 45; exact Gives.quiet (c_iPutWord (by first | assumption | (apply Sl.to <;> first | assumption | infer_instance) | omega) (by first | assumption | (apply Sl.to <;> first | assumption | infer_instance) | omega))) | (go_at_call 46; exact Gives.quiet (c_iCheckOf (by first | assumption | (apply Sl.to <;> first | assumption | infer_instance) | omega)))) | simp only [c1] | simp only [c2])); refine wpQuiet_nil ?_; rintro _ ⟨x, rfl⟩) | (go_at_call 44; refine (c_ibetween).mono ?_; rintro _ _ ⟨rfl, x, rfl⟩) | (go_at_call 45; refine (c_iPutWord (by first | assumption | (apply Sl.to <;> first | assumption | infer_instance) | omega) (by first | assumption | (apply Sl.to <;> first | assumption | infer_instance) | omega)).mono ?_; rintro _ _ ⟨rfl, x, rfl⟩) | (go_at_call 46; refine (c_iCheckOf (by first | assumption | (apply Sl.to <;> first | assumption | infer_instance) | omega)).mono ?_; rintro _ _ ⟨rfl, x, rfl⟩))
    go_ret
    exact Gives.mk (by simp [encEnd, c1, c2])
  · go_enter Try.func12, Try.ntmps12
    go_wp2_with (first | ((with_reducible refine wp_region_later (by kernel_rfl) (by kernel_rfl) ?_); (repeat (first | go_big_quiet_step (first | (go_at_call 44; exact Gives.quiet (c_ibetween))) | simp only [c1] | simp only [c2])); refine wpQuiet_nil ?_; rintro _ ⟨x, rfl⟩) | (go_at_call 44; refine (c_ibetween).mono ?_; rintro _ _ ⟨rfl, x, rfl⟩))
    go_ret
    exact Gives.mk (by simp [encEnd, c1, c2])

theorem c_iEncodeSegment {f k : Int} {s : ByteArray} {w : World} (hm : s.size ≤ 1048576) :
    Calls Try.prog 42 #[.int .i64 f, .int .i64 k, .string s] w (Gives w (.string (encSeg f k s))) := by
  cases c1 : inB f 0 7
  · go_enter Try.func42, Try.ntmps42
    go_wp2_with (first | ((with_reducible refine wp_region_later (by kernel_rfl) (by kernel_rfl) ?_); (repeat (first | go_big_quiet_step (first | (go_at_call 44; exact Gives.quiet (c_ibetween))) | simp only [c1])); refine wpQuiet_nil ?_; rintro _ ⟨x, rfl⟩) | (go_at_call 44; refine (c_ibetween).mono ?_; rintro _ _ ⟨rfl, x, rfl⟩))
    go_ret
    exact Gives.mk (by simp [encSeg, c1])
  cases c2 : inB k 0 24
  · go_enter Try.func42, Try.ntmps42
    go_wp2_with (first | ((with_reducible refine wp_region_later (by kernel_rfl) (by kernel_rfl) ?_); (repeat (first | go_big_quiet_step (first | (go_at_call 44; exact Gives.quiet (c_ibetween))) | simp only [c1] | simp only [c2])); refine wpQuiet_nil ?_; rintro _ ⟨x, rfl⟩) | (go_at_call 44; refine (c_ibetween).mono ?_; rintro _ _ ⟨rfl, x, rfl⟩))
    go_ret
    exact Gives.mk (by simp [encSeg, c1, c2])
  cases c3 : inB (s.size : Int) 1 24
  · go_enter Try.func42, Try.ntmps42
    go_wp2_with (first | ((with_reducible refine wp_region_later (by kernel_rfl) (by kernel_rfl) ?_); (repeat (first | go_big_quiet_step (first | (go_at_call 44; exact Gives.quiet (c_ibetween))) | simp only [c1] | simp only [c2] | simp only [c3])); refine wpQuiet_nil ?_; rintro _ ⟨x, rfl⟩) | (go_at_call 44; refine (c_ibetween).mono ?_; rintro _ _ ⟨rfl, x, rfl⟩))
    go_ret
    exact Gives.mk (by simp [encSeg, c1, c2, c3])
  · have ⟨f0, f1⟩ := inB_iff.1 c1
    have ⟨k0, k1⟩ := inB_iff.1 c2
    go_enter Try.func42, Try.ntmps42
    go_wp2_with (first | ((with_reducible refine wp_region_later (by kernel_rfl) (by kernel_rfl) ?_); (repeat (first | go_big_quiet_step (first | (go_at_call 44; exact Gives.quiet (c_ibetween)) | (go_at_call 45; exact Gives.quiet (c_iPutWord (by first | assumption | (apply Sl.to <;> first | assumption | infer_instance) | omega) (by first | assumption | (apply Sl.to <;> first | assumption | infer_instance) | omega)))) | simp only [c1] | simp only [c2] | simp only [c3])); refine wpQuiet_nil ?_; rintro _ ⟨x, rfl⟩) | (go_at_call 44; refine (c_ibetween).mono ?_; rintro _ _ ⟨rfl, x, rfl⟩) | (go_at_call 45; refine (c_iPutWord (by first | assumption | (apply Sl.to <;> first | assumption | infer_instance) | omega) (by first | assumption | (apply Sl.to <;> first | assumption | infer_instance) | omega)).mono ?_; rintro _ _ ⟨rfl, x, rfl⟩))
    go_ret
    exact Gives.mk (by simp [encSeg, c1, c2, c3])

set_option maxRecDepth 100000 in
set_option maxHeartbeats 2000000 in
theorem c_iSegmentOf {k : Int} {s : ByteArray} {w : World} (hm : s.size ≤ 1048576) :
    Calls Try.prog 43 #[.string s, .int .i64 k] w (Gives w (.string (segOf s k))) := by
  have hc := countSeg_bd s.size
  cases c2 : decide (600 < (s.size : Int))
  · cases c1 : inB k 0 (countSeg s.size - 1)
    · go_enter Try.func43, Try.ntmps43
      go_wp2_with (first | ((with_reducible refine wp_region_later (by kernel_rfl) (by kernel_rfl) ?_); (repeat (first | go_big_quiet_step (first | (go_at_call 44; exact Gives.quiet (c_ibetween)) | (go_at_call 39; exact Gives.quiet (c_iCountSegments))) | simp only [c1] | simp only [c2])); refine wpQuiet_nil ?_; rintro _ ⟨x, rfl⟩) | (go_at_call 44; refine (c_ibetween).mono ?_; rintro _ _ ⟨rfl, x, rfl⟩) | (go_at_call 39; refine (c_iCountSegments).mono ?_; rintro _ _ ⟨rfl, x, rfl⟩))
      go_ret
      exact Gives.mk (by simp [segOf, c1])
    · have ⟨k0, k1⟩ := inB_iff.1 c1
      have c3 : ¬ 600 < (s.size : Int) := by simpa using c2
      have c4 : inB (s.size : Int) 0 600 = true := inB_iff.2 (by omega)
      have c5 : countSeg s.size = (s.size + 23) / 24 := by simp [countSeg, c4]
      have hv := Lib.hid (show segOf s k = s.extract (24 * k).toNat (min (24 * k + 24) s.size).toNat from if_pos c1)
      rw [c5] at k1 c1
      go_enter Try.func43, Try.ntmps43
      go_wp2_with (first | ((with_reducible refine wp_region_later (by kernel_rfl) (by kernel_rfl) ?_); (repeat (first | go_big_quiet_step (first | (go_at_call 44; exact Gives.quiet (c_ibetween)) | (go_at_call 39; exact Gives.quiet (c_iCountSegments))) | simp only [c1] | simp only [c2])); refine wpQuiet_nil ?_; rintro _ ⟨x, rfl⟩) | (go_at_call 44; refine (c_ibetween).mono ?_; rintro _ _ ⟨rfl, x, rfl⟩) | (go_at_call 39; refine (c_iCountSegments).mono ?_; rintro _ _ ⟨rfl, x, rfl⟩))
      all_goals
        go_ret
        exact Gives.mk (by rw [hv.out]; exact str_ext (by omega) (by omega))
  · have c3 : 600 < (s.size : Int) := by simpa using c2
    have c4 : inB (s.size : Int) 0 600 = false := by cases h : inB (s.size : Int) 0 600; rfl; have := inB_iff.1 h; omega
    have c5 : countSeg s.size = 0 := by simp [countSeg, c4]
    have c1 : inB k 0 (-1) = false := by cases h : inB k 0 (-1); rfl; have := inB_iff.1 h; omega
    have hv := Lib.hid (show segOf s k = ⟨#[]⟩ by unfold segOf; rw [c5]; exact if_neg (by rw [show (0 : Int) - 1 = -1 from rfl, c1]; decide))
    go_enter Try.func43, Try.ntmps43
    go_wp2_with (first | ((with_reducible refine wp_region_later (by kernel_rfl) (by kernel_rfl) ?_); (repeat (first | go_big_quiet_step (first | (go_at_call 44; exact Gives.quiet (c_ibetween)) | (go_at_call 39; exact Gives.quiet (c_iCountSegments))) | simp only [c5] | simp only [c1] | simp only [c2])); refine wpQuiet_nil ?_; rintro _ ⟨x, rfl⟩) | (go_at_call 44; refine (c_ibetween).mono ?_; rintro _ _ ⟨rfl, x, rfl⟩) | (go_at_call 39; refine (c_iCountSegments).mono ?_; rintro _ _ ⟨rfl, x, rfl⟩))
    go_ret
    exact Gives.mk (by rw [hv.out]; rfl)

theorem c_sPutWord {n m : Int} {w : World} (h0 : 0 ≤ n) (h : m = 1 ∧ n < 256 ∨ m = 2 ∧ n < 65536) :
    Calls Try.prog 74 #[.int .i64 n, .int .i64 m] w (Gives w (.string (wordM m n))) := by
  rcases h with ⟨rfl, h1⟩ | ⟨rfl, h1⟩
  · exact c_sPutWord1 h0 h1
  · exact c_sPutWord2 h0 h1

theorem c_sEncodeEnd {f : Int} {s : ByteArray} {w : World} (hm : s.size ≤ 1048576) :
    Calls Try.prog 66 #[.int .i64 f, .string s] w (Gives w (.string (encEnd f s))) := by
  cases c1 : inB f 0 7
  · go_enter Try.func66, Try.ntmps66
    go_wp2_with (first | ((with_reducible refine wp_region_later (by kernel_rfl) (by kernel_rfl) ?_); (repeat (first | go_big_quiet_step (first | (go_at_call 54; exact Gives.quiet (c_sl01In))) | simp only [c1])); refine wpQuiet_nil ?_; rintro _ ⟨x, rfl⟩) | (go_at_call 54; refine (c_sl01In).mono ?_; rintro _ _ ⟨rfl, x, rfl⟩))
    go_ret
    exact Gives.mk (by simp [encEnd, c1])
  cases c2 : decide (600 < (s.size : Int))
  · have ⟨f0, f1⟩ := inB_iff.1 c1
    have c3 : ¬ 600 < (s.size : Int) := by simpa using c2
    have ⟨h0, h1⟩ := checkOf_bd s
    go_enter Try.func66, Try.ntmps66
    go_wp2_with (first | ((with_reducible refine wp_region_later (by kernel_rfl) (by kernel_rfl) ?_); (repeat (first | go_big_quiet_step (first | (go_at_call 54; exact Gives.quiet (c_sl01In)) | (go_at_call 74; exact Gives.quiet (c_sPutWord (by first | assumption | (apply Sl.to <;> first | assumption | infer_instance) | omega) (by first | assumption | (apply Sl.to <;> first | assumption | infer_instance) | omega))) | (go_at_call 75; exact Gives.quiet (c_sCheckOf (by first | assumption | (apply Sl.to <;> first | assumption | infer_instance) | omega)))) | simp only [c1] | simp only [c2])); refine wpQuiet_nil ?_; rintro _ ⟨x, rfl⟩) | (go_at_call 54; refine (c_sl01In).mono ?_; rintro _ _ ⟨rfl, x, rfl⟩) | (go_at_call 74; refine (c_sPutWord (by first | assumption | (apply Sl.to <;> first | assumption | infer_instance) | omega) (by first | assumption | (apply Sl.to <;> first | assumption | infer_instance) | omega)).mono ?_; rintro _ _ ⟨rfl, x, rfl⟩) | (go_at_call 75; refine (c_sCheckOf (by first | assumption | (apply Sl.to <;> first | assumption | infer_instance) | omega)).mono ?_; rintro _ _ ⟨rfl, x, rfl⟩))
    go_ret
    exact Gives.mk (by simp [encEnd, c1, c2])
  · go_enter Try.func66, Try.ntmps66
    go_wp2_with (first | ((with_reducible refine wp_region_later (by kernel_rfl) (by kernel_rfl) ?_); (repeat (first | go_big_quiet_step (first | (go_at_call 54; exact Gives.quiet (c_sl01In))) | simp only [c1] | simp only [c2])); refine wpQuiet_nil ?_; rintro _ ⟨x, rfl⟩) | (go_at_call 54; refine (c_sl01In).mono ?_; rintro _ _ ⟨rfl, x, rfl⟩))
    go_ret
    exact Gives.mk (by simp [encEnd, c1, c2])

theorem c_sEncodeSegment {f k : Int} {s : ByteArray} {w : World} (hm : s.size ≤ 1048576) :
    Calls Try.prog 67 #[.int .i64 f, .int .i64 k, .string s] w (Gives w (.string (encSeg f k s))) := by
  cases c1 : inB f 0 7
  · go_enter Try.func67, Try.ntmps67
    go_wp2_with (first | ((with_reducible refine wp_region_later (by kernel_rfl) (by kernel_rfl) ?_); (repeat (first | go_big_quiet_step (first | (go_at_call 54; exact Gives.quiet (c_sl01In))) | simp only [c1])); refine wpQuiet_nil ?_; rintro _ ⟨x, rfl⟩) | (go_at_call 54; refine (c_sl01In).mono ?_; rintro _ _ ⟨rfl, x, rfl⟩))
    go_ret
    exact Gives.mk (by simp [encSeg, c1])
  cases c2 : inB k 0 24
  · go_enter Try.func67, Try.ntmps67
    go_wp2_with (first | ((with_reducible refine wp_region_later (by kernel_rfl) (by kernel_rfl) ?_); (repeat (first | go_big_quiet_step (first | (go_at_call 54; exact Gives.quiet (c_sl01In))) | simp only [c1] | simp only [c2])); refine wpQuiet_nil ?_; rintro _ ⟨x, rfl⟩) | (go_at_call 54; refine (c_sl01In).mono ?_; rintro _ _ ⟨rfl, x, rfl⟩))
    go_ret
    exact Gives.mk (by simp [encSeg, c1, c2])
  cases c3 : inB (s.size : Int) 1 24
  · go_enter Try.func67, Try.ntmps67
    go_wp2_with (first | ((with_reducible refine wp_region_later (by kernel_rfl) (by kernel_rfl) ?_); (repeat (first | go_big_quiet_step (first | (go_at_call 54; exact Gives.quiet (c_sl01In))) | simp only [c1] | simp only [c2] | simp only [c3])); refine wpQuiet_nil ?_; rintro _ ⟨x, rfl⟩) | (go_at_call 54; refine (c_sl01In).mono ?_; rintro _ _ ⟨rfl, x, rfl⟩))
    go_ret
    exact Gives.mk (by simp [encSeg, c1, c2, c3])
  · have ⟨f0, f1⟩ := inB_iff.1 c1
    have ⟨k0, k1⟩ := inB_iff.1 c2
    go_enter Try.func67, Try.ntmps67
    go_wp2_with (first | ((with_reducible refine wp_region_later (by kernel_rfl) (by kernel_rfl) ?_); (repeat (first | go_big_quiet_step (first | (go_at_call 54; exact Gives.quiet (c_sl01In)) | (go_at_call 74; exact Gives.quiet (c_sPutWord (by first | assumption | (apply Sl.to <;> first | assumption | infer_instance) | omega) (by first | assumption | (apply Sl.to <;> first | assumption | infer_instance) | omega)))) | simp only [c1] | simp only [c2] | simp only [c3])); refine wpQuiet_nil ?_; rintro _ ⟨x, rfl⟩) | (go_at_call 54; refine (c_sl01In).mono ?_; rintro _ _ ⟨rfl, x, rfl⟩) | (go_at_call 74; refine (c_sPutWord (by first | assumption | (apply Sl.to <;> first | assumption | infer_instance) | omega) (by first | assumption | (apply Sl.to <;> first | assumption | infer_instance) | omega)).mono ?_; rintro _ _ ⟨rfl, x, rfl⟩))
    go_ret
    exact Gives.mk (by simp [encSeg, c1, c2, c3])

set_option maxRecDepth 100000 in
set_option maxHeartbeats 2000000 in
theorem c_sSegmentOf {k : Int} {s : ByteArray} {w : World} (hm : s.size ≤ 1048576) :
    Calls Try.prog 68 #[.string s, .int .i64 k] w (Gives w (.string (segOf s k))) := by
  have hc := countSeg_bd s.size
  cases c2 : decide (600 < (s.size : Int))
  · cases c1 : inB k 0 (countSeg s.size - 1)
    · go_enter Try.func68, Try.ntmps68
      go_wp2_with (first | ((with_reducible refine wp_region_later (by kernel_rfl) (by kernel_rfl) ?_); (repeat (first | go_big_quiet_step (first | (go_at_call 54; exact Gives.quiet (c_sl01In)) | (go_at_call 55; exact Gives.quiet (c_sCountSegments))) | simp only [c1] | simp only [c2])); refine wpQuiet_nil ?_; rintro _ ⟨x, rfl⟩) | (go_at_call 54; refine (c_sl01In).mono ?_; rintro _ _ ⟨rfl, x, rfl⟩) | (go_at_call 55; refine (c_sCountSegments).mono ?_; rintro _ _ ⟨rfl, x, rfl⟩))
      go_ret
      exact Gives.mk (by simp [segOf, c1])
    · have ⟨k0, k1⟩ := inB_iff.1 c1
      have c3 : ¬ 600 < (s.size : Int) := by simpa using c2
      have c4 : inB (s.size : Int) 0 600 = true := inB_iff.2 (by omega)
      have c5 : countSeg s.size = (s.size + 23) / 24 := by simp [countSeg, c4]
      have hv := Lib.hid (show segOf s k = s.extract (24 * k).toNat (min (24 * k + 24) s.size).toNat from if_pos c1)
      rw [c5] at k1 c1
      go_enter Try.func68, Try.ntmps68
      go_wp2_with (first | ((with_reducible refine wp_region_later (by kernel_rfl) (by kernel_rfl) ?_); (repeat (first | go_big_quiet_step (first | (go_at_call 54; exact Gives.quiet (c_sl01In)) | (go_at_call 55; exact Gives.quiet (c_sCountSegments))) | simp only [c1] | simp only [c2])); refine wpQuiet_nil ?_; rintro _ ⟨x, rfl⟩) | (go_at_call 54; refine (c_sl01In).mono ?_; rintro _ _ ⟨rfl, x, rfl⟩) | (go_at_call 55; refine (c_sCountSegments).mono ?_; rintro _ _ ⟨rfl, x, rfl⟩))
      all_goals
        go_ret
        exact Gives.mk (by rw [hv.out]; exact str_ext (by omega) (by omega))
  · have c3 : 600 < (s.size : Int) := by simpa using c2
    have c4 : inB (s.size : Int) 0 600 = false := by cases h : inB (s.size : Int) 0 600; rfl; have := inB_iff.1 h; omega
    have c5 : countSeg s.size = 0 := by simp [countSeg, c4]
    have c1 : inB k 0 (-1) = false := by cases h : inB k 0 (-1); rfl; have := inB_iff.1 h; omega
    have hv := Lib.hid (show segOf s k = ⟨#[]⟩ by unfold segOf; rw [c5]; exact if_neg (by rw [show (0 : Int) - 1 = -1 from rfl, c1]; decide))
    go_enter Try.func68, Try.ntmps68
    go_wp2_with (first | ((with_reducible refine wp_region_later (by kernel_rfl) (by kernel_rfl) ?_); (repeat (first | go_big_quiet_step (first | (go_at_call 54; exact Gives.quiet (c_sl01In)) | (go_at_call 55; exact Gives.quiet (c_sCountSegments))) | simp only [c5] | simp only [c1] | simp only [c2])); refine wpQuiet_nil ?_; rintro _ ⟨x, rfl⟩) | (go_at_call 54; refine (c_sl01In).mono ?_; rintro _ _ ⟨rfl, x, rfl⟩) | (go_at_call 55; refine (c_sCountSegments).mono ?_; rintro _ _ ⟨rfl, x, rfl⟩))
    go_ret
    exact Gives.mk (by rw [hv.out]; rfl)

end Go.Proofs.Ytjffbpdippbfkaa
