/- The contracts of what reads parts of files: GetWord, DecodeSegment, DecodeEnd. No condition but on lengths. -/
import Derived.Test.YtjffbpdippbfkaaFileI
import Derived.Test.YtjffbpdippbfkaaEnc
namespace Go.Proofs.Ytjffbpdippbfkaa
set_option linter.unusedVariables false
open Go.ChangeShapes Go.WideShapes Go.ChangeAt Go.RowKit

/-- The byte at an index. -/
def bAt (s : ByteArray) (i : Nat) : Int := if h : i < s.size then (s[i].toNat : Int) else 0
theorem bAt_eq {s : ByteArray} {i : Nat} (h : i < s.size) : bAt s i = (s[i].toNat : Int) := dif_pos h
theorem bAt_bd (s : ByteArray) (i : Nat) : 0 ≤ bAt s i ∧ bAt s i ≤ 255 := by
  unfold bAt
  split
  · rename_i h
    have := s[i].toNat_lt
    omega
  · omega
/-- Does a text begin as a part that carries a segment? -/
def segHead (s : ByteArray) : Bool := decide (bAt s 0 = 0 ∧ bAt s 1 ≤ 7 ∧ bAt s 2 ≤ 24)
def segIs (s : ByteArray) : Bool := decide (4 ≤ s.size ∧ s.size ≤ 27) && segHead s
def decSeg (s : ByteArray) : Int × Int × ByteArray × Bool := if segIs s = true then (bAt s 1, bAt s 2, s.extract 3 s.size, true) else (0, 0, ⟨#[]⟩, false)
def tupSeg (q : Int × Int × ByteArray × Bool) : Value := .tuple #[.int .i64 q.1, .int .i64 q.2.1, .string q.2.2.1, .bool q.2.2.2]

theorem bytes_ext {a b : ByteArray} (h : a.data.toList = b.data.toList) : a = b := by
  cases a; cases b; congr 1; exact Array.ext' h
theorem nat_byte (x : UInt8) : UInt8.ofNat ((x.toNat : Int) % 256).toNat = x := by
  have := x.toNat_lt
  rw [show ((x.toNat : Int) % 256).toNat = x.toNat by omega]; simp
/-- What is read as a segment, written again. -/
theorem encSeg_again {s : ByteArray} (h3 : 3 ≤ s.size) (h0 : s[0].toNat = 0) : ((encSeg (s[1].toNat) (s[2].toNat) (s.extract 3 s.size)).toList == s.toList) = segIs s := by
  rw [ByteArray.toList_eq, ByteArray.toList_eq]
  have e1 : bAt s 1 = s[1].toNat := bAt_eq (by omega)
  have e2 : bAt s 2 = s[2].toNat := bAt_eq (by omega)
  have e0 : bAt s 0 = 0 := by rw [bAt_eq (by omega)]; omega
  have hx : (s.extract 3 s.size).size = s.size - 3 := by rw [ByteArray.size_extract]; omega
  by_cases h : segIs s = true
  · rw [h, beq_iff_eq]
    simp only [segIs, segHead, Bool.and_eq_true, decide_eq_true_eq] at h
    have c1 : inB (s[1].toNat) 0 7 = true := inB_iff.2 (by omega)
    have c2 : inB (s[2].toNat) 0 24 = true := inB_iff.2 (by omega)
    have c3 : inB ((s.extract 3 s.size).size : Nat) 1 24 = true := inB_iff.2 (by omega)
    unfold encSeg
    rw [c1, c2, c3]
    simp only [Bool.and_self, if_true]
    have hd : s.data.toList = s[0] :: s[1] :: s[2] :: s.data.toList.drop 3 := by
      have hl : 3 ≤ s.data.toList.length := by rw [Array.length_toList]; exact h3
      match hm : s.data.toList, hl with
      | a :: b :: c :: r, _ =>
        have g : ∀ i (hi : i < s.size), s[i] = s.data.toList[i]'(by rw [Array.length_toList]; exact hi) := fun i hi => rfl
        simp [g, hm]
    have hz : s[0] = 0 := by apply UInt8.toNat_inj.1; simpa using h0
    rw [hd]
    simp only [ByteArray.data_append, Array.toList_append, word1, strOfNums_data, List.map_cons, List.map_nil, nat_byte, ByteArray.data_extract]
    have hq : (s.data.extract 3 s.size).toList = s.data.toList.drop 3 := by
      rw [Array.toList_extract, List.extract_eq_take_drop]
      exact List.take_of_length_le (by rw [List.length_drop, Array.length_toList]; exact Nat.le_refl _)
    rw [hq, hz]; rfl
  · have hn : segIs s = false := by simpa using h
    rw [hn, beq_eq_false_iff_ne]
    intro he
    apply h
    unfold encSeg at he
    split at he
    · rename_i hc
      simp only [Bool.and_eq_true] at hc
      have := inB_iff.1 hc.1; have h8 := inB_iff.1 hc.2.1; have h9 := inB_iff.1 hc.2.2
      simp only [segIs, segHead, Bool.and_eq_true, decide_eq_true_eq]
      omega
    · have := congrArg List.length he
      rw [Array.length_toList, Array.length_toList] at this
      have h7 : (0 : Nat) = s.size := this
      omega

set_option maxRecDepth 100000 in
set_option maxHeartbeats 2000000 in
theorem c_iDecodeSegment {s : ByteArray} {w : World} (hm : s.size ≤ 1048576) :
    Calls Try.prog 48 #[.string s] w (Gives w (tupSeg (decSeg s))) := by
  by_cases hl : 4 ≤ s.size ∧ s.size ≤ 27
  · have c1 : inB (s.size) 4 27 = true := inB_iff.2 (by omega)
    obtain ⟨hl1, hl2⟩ := hl
    have hb1 : s[1].toNat < 256 := s[1].toNat_lt
    have hb2 : s[2].toNat < 256 := s[2].toNat_lt
    have e0 : bAt s 0 = s[0].toNat := bAt_eq (by omega)
    have e1 : bAt s 1 = s[1].toNat := bAt_eq (by omega)
    have e2 : bAt s 2 = s[2].toNat := bAt_eq (by omega)
    by_cases g : s[0].toNat = 0 ∧ s[1].toNat ≤ 7 ∧ s[2].toNat ≤ 24
    · have HV := Lib.hid (show decSeg s = ((s[1].toNat : Int), (s[2].toNat : Int), s.extract 3 s.size, true) by
        unfold decSeg; rw [if_pos (by simp only [segIs, segHead, Bool.and_eq_true, decide_eq_true_eq]; omega), e1, e2])
      obtain ⟨g0, g1, g2⟩ := g
      clear e0 e1 e2
      go_enter Try.func48, Try.ntmps48
      go_wp2_with (first | ((with_reducible refine wp_region_later (by kernel_rfl) (by kernel_rfl) ?_); (repeat (first | go_big_quiet_step (first | (go_at_call 44; exact Gives.quiet (c_ibetween))) | simp only [c1])); refine wpQuiet_nil ?_; rintro _ ⟨x, rfl⟩) | (go_at_call 44; refine (c_ibetween).mono ?_; rintro _ _ ⟨rfl, x, rfl⟩))
      refine bodyPost_ret (v := .tuple #[.int .i64 s[1].toNat, .int .i64 s[2].toNat, .string (s.extract 3 s.size), .bool true]) ?_ rfl (Gives.mk (by rw [HV.out]; rfl))
      simp [results, Try.results48, go_sem]
    · have HV := Lib.hid (show decSeg s = (0, 0, ⟨#[]⟩, false) by
        unfold decSeg; rw [if_neg (by simp only [segIs, segHead, Bool.and_eq_true, decide_eq_true_eq]; omega)])
      clear e0 e1 e2
      by_cases g0 : s[0].toNat = 0
      · by_cases g1 : s[1].toNat ≤ 7
        · have g2 : ¬ s[2].toNat ≤ 24 := fun h => g ⟨g0, g1, h⟩
          clear g
          go_enter Try.func48, Try.ntmps48
          go_wp2_with (first | ((with_reducible refine wp_region_later (by kernel_rfl) (by kernel_rfl) ?_); (repeat (first | go_big_quiet_step (first | (go_at_call 44; exact Gives.quiet (c_ibetween))) | simp only [c1])); refine wpQuiet_nil ?_; rintro _ ⟨x, rfl⟩) | (go_at_call 44; refine (c_ibetween).mono ?_; rintro _ _ ⟨rfl, x, rfl⟩))
          refine bodyPost_ret (v := .tuple #[.int .i64 0, .int .i64 0, .string ⟨#[]⟩, .bool false]) ?_ rfl (Gives.mk (by rw [HV.out]; rfl))
          simp [results, Try.results48, go_sem]
        · clear g
          go_enter Try.func48, Try.ntmps48
          go_wp2_with (first | ((with_reducible refine wp_region_later (by kernel_rfl) (by kernel_rfl) ?_); (repeat (first | go_big_quiet_step (first | (go_at_call 44; exact Gives.quiet (c_ibetween))) | simp only [c1])); refine wpQuiet_nil ?_; rintro _ ⟨x, rfl⟩) | (go_at_call 44; refine (c_ibetween).mono ?_; rintro _ _ ⟨rfl, x, rfl⟩))
          refine bodyPost_ret (v := .tuple #[.int .i64 0, .int .i64 0, .string ⟨#[]⟩, .bool false]) ?_ rfl (Gives.mk (by rw [HV.out]; rfl))
          simp [results, Try.results48, go_sem]
      · clear g
        go_enter Try.func48, Try.ntmps48
        go_wp2_with (first | ((with_reducible refine wp_region_later (by kernel_rfl) (by kernel_rfl) ?_); (repeat (first | go_big_quiet_step (first | (go_at_call 44; exact Gives.quiet (c_ibetween))) | simp only [c1])); refine wpQuiet_nil ?_; rintro _ ⟨x, rfl⟩) | (go_at_call 44; refine (c_ibetween).mono ?_; rintro _ _ ⟨rfl, x, rfl⟩))
        refine bodyPost_ret (v := .tuple #[.int .i64 0, .int .i64 0, .string ⟨#[]⟩, .bool false]) ?_ rfl (Gives.mk (by rw [HV.out]; rfl))
        simp [results, Try.results48, go_sem]
  · have c1 : inB (s.size) 4 27 = false := by
      cases h : inB (s.size) 4 27
      · rfl
      · have := inB_iff.1 h; omega
    have HV := Lib.hid (show decSeg s = (0, 0, ⟨#[]⟩, false) by
      unfold decSeg; rw [if_neg (by simp only [segIs, Bool.and_eq_true, decide_eq_true_eq]; omega)])
    clear hl
    go_enter Try.func48, Try.ntmps48
    go_wp2_with (first | ((with_reducible refine wp_region_later (by kernel_rfl) (by kernel_rfl) ?_); (repeat (first | go_big_quiet_step (first | (go_at_call 44; exact Gives.quiet (c_ibetween))) | simp only [c1])); refine wpQuiet_nil ?_; rintro _ ⟨x, rfl⟩) | (go_at_call 44; refine (c_ibetween).mono ?_; rintro _ _ ⟨rfl, x, rfl⟩))
    refine bodyPost_ret (v := .tuple #[.int .i64 0, .int .i64 0, .string ⟨#[]⟩, .bool false]) ?_ rfl (Gives.mk (by rw [HV.out]; rfl))
    simp [results, Try.results48, go_sem]

set_option maxRecDepth 100000 in
set_option maxHeartbeats 2000000 in
theorem c_sDecodeSegment {s : ByteArray} {w : World} (hm : s.size ≤ 1048576) :
    Calls Try.prog 60 #[.string s] w (Gives w (tupSeg (decSeg s))) := by
  by_cases hl : 3 ≤ s.size
  · have hb1 : s[1].toNat < 256 := s[1].toNat_lt
    have hb2 : s[2].toNat < 256 := s[2].toNat_lt
    have e0 : bAt s 0 = s[0].toNat := bAt_eq (by omega)
    have e1 : bAt s 1 = s[1].toNat := bAt_eq (by omega)
    have e2 : bAt s 2 = s[2].toNat := bAt_eq (by omega)
    have hx : (s.extract 3 s.size).size = s.size - 3 := by rw [ByteArray.size_extract]; omega
    have k0 : decide ((s.size : Int) < 3) = false := by simp; omega
    have j0 : (0 : Int) < s.size := by omega
    have j00 : 0 < s.size := by omega
    have j1 : (1 : Int) < s.size := by omega
    have j2 : (2 : Int) < s.size := by omega
    have j3 : (3 : Int) ≤ s.size := by omega
    have w1 : wrap64 ((s[1].toNat : Nat) : Int) = s[1].toNat := by unfold wrap64; omega
    have w2 : wrap64 ((s[2].toNat : Nat) : Int) = s[2].toNat := by unfold wrap64; omega
    by_cases g0 : s[0].toNat = 0
    · have ha := encSeg_again hl g0
      have k1 : (((s[0].toNat : Nat) : Int) != 0) = false := by simp [g0]
      cases hq : segIs s
      · have HV := Lib.hid (show decSeg s = (0, 0, ⟨#[]⟩, false) by unfold decSeg; rw [hq]; rfl)
        have hne : ((encSeg (s[1].toNat) (s[2].toNat) (s.extract 3 s.size)).toList == s.toList) = false := by rw [ha, hq]
        clear e0 e1 e2 ha hq
        go_enter Try.func60, Try.ntmps60
        go_wp2_with (first | ((with_reducible refine wp_region_later (by kernel_rfl) (by kernel_rfl) ?_); (repeat (first | go_big_quiet_step (first | (go_at_call 67; exact Gives.quiet (c_sEncodeSegment (by omega)))) | simp only [k0] | simp only [k1] | simp only [w1] | simp only [w2] | simp only [hne])); refine wpQuiet_nil ?_; rintro _ ⟨x, rfl⟩) | (go_at_call 67; refine (c_sEncodeSegment (by omega)).mono ?_; rintro _ _ ⟨rfl, x, rfl⟩))
        refine bodyPost_ret (v := .tuple #[.int .i64 0, .int .i64 0, .string ⟨#[]⟩, .bool false]) ?_ rfl (Gives.mk (by rw [HV.out]; rfl))
        simp [results, Try.results60, go_sem]
      · have HV := Lib.hid (show decSeg s = ((s[1].toNat : Int), (s[2].toNat : Int), s.extract 3 s.size, true) by
          unfold decSeg; rw [if_pos hq, e1, e2])
        have hne : ((encSeg (s[1].toNat) (s[2].toNat) (s.extract 3 s.size)).toList == s.toList) = true := by rw [ha, hq]
        clear e0 e1 e2 ha hq
        go_enter Try.func60, Try.ntmps60
        go_wp2_with (first | ((with_reducible refine wp_region_later (by kernel_rfl) (by kernel_rfl) ?_); (repeat (first | go_big_quiet_step (first | (go_at_call 67; exact Gives.quiet (c_sEncodeSegment (by omega)))) | simp only [k0] | simp only [k1] | simp only [w1] | simp only [w2] | simp only [hne])); refine wpQuiet_nil ?_; rintro _ ⟨x, rfl⟩) | (go_at_call 67; refine (c_sEncodeSegment (by omega)).mono ?_; rintro _ _ ⟨rfl, x, rfl⟩))
        refine bodyPost_ret (v := .tuple #[.int .i64 s[1].toNat, .int .i64 s[2].toNat, .string (s.extract 3 s.size), .bool true]) ?_ rfl (Gives.mk (by rw [HV.out]; rfl))
        simp [results, Try.results60, go_sem]
    · have HV := Lib.hid (show decSeg s = (0, 0, ⟨#[]⟩, false) by
        unfold decSeg; rw [if_neg (by simp only [segIs, segHead, Bool.and_eq_true, decide_eq_true_eq]; omega)])
      have k1 : (((s[0].toNat : Nat) : Int) != 0) = true := by simp; omega
      have k2 : (((s[0].toNat : Nat) : Int) == 0) = false := by simp; omega
      clear e0 e1 e2
      go_enter Try.func60, Try.ntmps60
      go_wp2_with (first | ((with_reducible refine wp_region_later (by kernel_rfl) (by kernel_rfl) ?_); (repeat (first | go_big_quiet_step (first | (go_at_call 67; exact Gives.quiet (c_sEncodeSegment (by omega)))) | simp only [k0] | simp only [k1] | simp only [k2])); refine wpQuiet_nil ?_; rintro _ ⟨x, rfl⟩) | (go_at_call 67; refine (c_sEncodeSegment (by omega)).mono ?_; rintro _ _ ⟨rfl, x, rfl⟩))
      refine bodyPost_ret (v := .tuple #[.int .i64 0, .int .i64 0, .string ⟨#[]⟩, .bool false]) ?_ rfl (Gives.mk (by rw [HV.out]; rfl))
      simp [results, Try.results60, go_sem]
  · have HV := Lib.hid (show decSeg s = (0, 0, ⟨#[]⟩, false) by
      unfold decSeg; rw [if_neg (by simp only [segIs, Bool.and_eq_true, decide_eq_true_eq]; omega)])
    have k0 : decide ((s.size : Int) < 3) = true := by simp; omega
    go_enter Try.func60, Try.ntmps60
    go_wp2_with (first | ((with_reducible refine wp_region_later (by kernel_rfl) (by kernel_rfl) ?_); (repeat (first | go_big_quiet_step (first | (go_at_call 67; exact Gives.quiet (c_sEncodeSegment (by omega)))) | simp only [k0])); refine wpQuiet_nil ?_; rintro _ ⟨x, rfl⟩) | (go_at_call 67; refine (c_sEncodeSegment (by omega)).mono ?_; rintro _ _ ⟨rfl, x, rfl⟩))
    refine bodyPost_ret (v := .tuple #[.int .i64 0, .int .i64 0, .string ⟨#[]⟩, .bool false]) ?_ rfl (Gives.mk (by rw [HV.out]; rfl))
    simp [results, Try.results60, go_sem]
end Go.Proofs.Ytjffbpdippbfkaa
