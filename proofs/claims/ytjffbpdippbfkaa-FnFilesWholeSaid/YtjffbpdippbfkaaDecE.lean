/- The contracts of GetWord at the places of an end, and of DecodeEnd. No condition but on lengths. -/
import Derived.Test.YtjffbpdippbfkaaDec
namespace Go.Proofs.Ytjffbpdippbfkaa
set_option linter.unusedVariables false
open Go.ChangeShapes Go.WideShapes Go.ChangeAt Go.RowKit

/-- Two bytes, as a number. -/
def getW (s : ByteArray) (a : Nat) : Int := bAt s a * 256 + bAt s (a + 1)
theorem getW_bd (s : ByteArray) (a : Nat) : 0 ≤ getW s a ∧ getW s a ≤ 65535 := by
  have h1 := bAt_bd s a; have h2 := bAt_bd s (a + 1)
  unfold getW; omega
def tupWord (n : Int) : Value := .tuple #[.int .i64 n, .bool true]
/-- Is a text the end of a file? -/
def endIs (s : ByteArray) : Bool := decide (s.size = 6 ∧ bAt s 0 = 1 ∧ bAt s 1 ≤ 7 ∧ getW s 2 ≤ 600)
def decEnd (s : ByteArray) : Int × Int × Int × Bool := if endIs s = true then (bAt s 1, getW s 2, getW s 4, true) else (0, 0, 0, false)
def tupEnd (q : Int × Int × Int × Bool) : Value := .tuple #[.int .i64 q.1, .int .i64 q.2.1, .int .i64 q.2.2.1, .bool q.2.2.2]

set_option maxRecDepth 100000 in
set_option maxHeartbeats 2000000 in
theorem c_iGetWord {s : ByteArray} {a : Int} {w : World} (hs : s.size = 6) (h : a = 2 ∨ a = 4) :
    Calls Try.prog 71 #[.string s, .int .i64 a, .int .i64 2] w (Gives w (tupWord (getW s a.toNat))) := by
  rcases h with rfl | rfl
  · have e1 : bAt s 2 = s[2].toNat := bAt_eq (by omega)
    have e2 : bAt s 3 = s[3].toNat := bAt_eq (by omega)
    have HV := Lib.hid (show getW s 2 = ((s[2].toNat : Nat) : Int) * (256 : Int) + ((s[3].toNat : Nat) : Int) by unfold getW; rw [e1, e2])
    have c1 : inB 2 1 4 = true := rfl
    clear e1 e2
    go_enter Try.func71, Try.ntmps71
    go_wp2_with (first | ((with_reducible refine wp_region_later (by kernel_rfl) (by kernel_rfl) ?_); (repeat (first | go_big_quiet_step (first | (go_at_call 44; exact Gives.quiet (c_ibetween))) | simp only [c1])); refine wpQuiet_nil ?_; rintro _ ⟨x, rfl⟩) | (go_at_call 44; refine (c_ibetween).mono ?_; rintro _ _ ⟨rfl, x, rfl⟩))
    refine wp_loop_rounds 3 ?_
    rw [rounds_succ]
    go_wp2_with (first | ((with_reducible refine wp_region_later (by kernel_rfl) (by kernel_rfl) ?_); (repeat (first | go_big_quiet_step (first | fail))); refine wpQuiet_nil ?_; rintro _ ⟨x, rfl⟩))
    rw [rounds_succ]
    go_wp2_with (first | ((with_reducible refine wp_region_later (by kernel_rfl) (by kernel_rfl) ?_); (repeat (first | go_big_quiet_step (first | fail))); refine wpQuiet_nil ?_; rintro _ ⟨x, rfl⟩))
    rw [rounds_succ]
    go_wp2_with (first | ((with_reducible refine wp_region_later (by kernel_rfl) (by kernel_rfl) ?_); (repeat (first | go_big_quiet_step (first | fail))); refine wpQuiet_nil ?_; rintro _ ⟨x, rfl⟩))
    refine bodyPost_ret (v := .tuple #[.int .i64 (((s[2].toNat : Nat) : Int) * (256 : Int) + ((s[3].toNat : Nat) : Int)), .bool true]) ?_ rfl (Gives.mk (by rw [show Int.toNat 2 = 2 from rfl]; unfold tupWord; rw [HV.out]))
    have hb1 : s[2].toNat < 256 := s[2].toNat_lt
    have hb2 : s[3].toNat < 256 := s[3].toNat_lt
    simp [results, Try.results71, go_sem]
    unfold wrap64; omega
  · have e1 : bAt s 4 = s[4].toNat := bAt_eq (by omega)
    have e2 : bAt s 5 = s[5].toNat := bAt_eq (by omega)
    have HV := Lib.hid (show getW s 4 = ((s[4].toNat : Nat) : Int) * (256 : Int) + ((s[5].toNat : Nat) : Int) by unfold getW; rw [e1, e2])
    have c1 : inB 2 1 4 = true := rfl
    clear e1 e2
    go_enter Try.func71, Try.ntmps71
    go_wp2_with (first | ((with_reducible refine wp_region_later (by kernel_rfl) (by kernel_rfl) ?_); (repeat (first | go_big_quiet_step (first | (go_at_call 44; exact Gives.quiet (c_ibetween))) | simp only [c1])); refine wpQuiet_nil ?_; rintro _ ⟨x, rfl⟩) | (go_at_call 44; refine (c_ibetween).mono ?_; rintro _ _ ⟨rfl, x, rfl⟩))
    refine wp_loop_rounds 3 ?_
    rw [rounds_succ]
    go_wp2_with (first | ((with_reducible refine wp_region_later (by kernel_rfl) (by kernel_rfl) ?_); (repeat (first | go_big_quiet_step (first | fail))); refine wpQuiet_nil ?_; rintro _ ⟨x, rfl⟩))
    rw [rounds_succ]
    go_wp2_with (first | ((with_reducible refine wp_region_later (by kernel_rfl) (by kernel_rfl) ?_); (repeat (first | go_big_quiet_step (first | fail))); refine wpQuiet_nil ?_; rintro _ ⟨x, rfl⟩))
    rw [rounds_succ]
    go_wp2_with (first | ((with_reducible refine wp_region_later (by kernel_rfl) (by kernel_rfl) ?_); (repeat (first | go_big_quiet_step (first | fail))); refine wpQuiet_nil ?_; rintro _ ⟨x, rfl⟩))
    refine bodyPost_ret (v := .tuple #[.int .i64 (((s[4].toNat : Nat) : Int) * (256 : Int) + ((s[5].toNat : Nat) : Int)), .bool true]) ?_ rfl (Gives.mk (by rw [show Int.toNat 4 = 4 from rfl]; unfold tupWord; rw [HV.out]))
    have hb1 : s[4].toNat < 256 := s[4].toNat_lt
    have hb2 : s[5].toNat < 256 := s[5].toNat_lt
    simp [results, Try.results71, go_sem]
    unfold wrap64; omega

set_option maxRecDepth 100000 in
set_option maxHeartbeats 2000000 in
theorem c_iDecodeEnd {s : ByteArray} {w : World} (hm : s.size ≤ 1048576) :
    Calls Try.prog 49 #[.string s] w (Gives w (tupEnd (decEnd s))) := by
  by_cases hl : s.size = 6
  · have c1 : ((s.size : Int) != 6) = false := by simp; omega
    have e0 : bAt s 0 = s[0].toNat := bAt_eq (by omega)
    have e1 : bAt s 1 = s[1].toNat := bAt_eq (by omega)
    by_cases g : s[0].toNat = 1 ∧ s[1].toNat ≤ 7
    · obtain ⟨g0, g1⟩ := g
      obtain ⟨x, hx⟩ : ∃ x, getW s 2 = x := ⟨_, rfl⟩
      obtain ⟨y, hy⟩ : ∃ y, getW s 4 = y := ⟨_, rfl⟩
      have HX := Lib.hid hx; have HY := Lib.hid hy
      by_cases g2 : x ≤ 600
      · have HV := Lib.hid (show decEnd s = ((s[1].toNat : Int), x, y, true) by
          unfold decEnd; rw [if_pos (by simp only [endIs, decide_eq_true_eq]; omega), e1, hx, hy])
        clear e0 e1 hx hy
        go_enter Try.func49, Try.ntmps49
        go_wp2_with (first | ((with_reducible refine wp_region_later (by kernel_rfl) (by kernel_rfl) ?_); (repeat (first | go_big_quiet_step (first | fail) | simp only [c1])); refine wpQuiet_nil ?_; rintro _ ⟨x, rfl⟩))
        refine (c_iGetWord hl (.inl rfl)).mono ?_
        rintro _ _ ⟨rfl, y1, rfl⟩
        simp only [tupWord]
        rw [show getW s ((2 : Int)).toNat = x from HX.out]
        go_wp2_with (first | ((with_reducible refine wp_region_later (by kernel_rfl) (by kernel_rfl) ?_); (repeat (first | go_big_quiet_step (first | fail))); refine wpQuiet_nil ?_; rintro _ ⟨x, rfl⟩))
        refine (c_iGetWord hl (.inr rfl)).mono ?_
        rintro _ _ ⟨rfl, y2, rfl⟩
        simp only [tupWord]
        rw [show getW s ((4 : Int)).toNat = y from HY.out]
        go_wp2_with (first | ((with_reducible refine wp_region_later (by kernel_rfl) (by kernel_rfl) ?_); (repeat (first | go_big_quiet_step (first | fail))); refine wpQuiet_nil ?_; rintro _ ⟨x, rfl⟩))
        refine bodyPost_ret (v := .tuple #[.int .i64 s[1].toNat, .int .i64 x, .int .i64 y, .bool true]) ?_ rfl (Gives.mk (by rw [HV.out]; rfl))
        simp [results, Try.results49, go_sem]
      · have HV := Lib.hid (show decEnd s = (0, 0, 0, false) by
          unfold decEnd; rw [if_neg (by simp only [endIs, decide_eq_true_eq]; omega)])
        clear e0 e1 hx hy
        go_enter Try.func49, Try.ntmps49
        go_wp2_with (first | ((with_reducible refine wp_region_later (by kernel_rfl) (by kernel_rfl) ?_); (repeat (first | go_big_quiet_step (first | fail) | simp only [c1])); refine wpQuiet_nil ?_; rintro _ ⟨x, rfl⟩))
        refine (c_iGetWord hl (.inl rfl)).mono ?_
        rintro _ _ ⟨rfl, y1, rfl⟩
        simp only [tupWord]
        rw [show getW s ((2 : Int)).toNat = x from HX.out]
        go_wp2_with (first | ((with_reducible refine wp_region_later (by kernel_rfl) (by kernel_rfl) ?_); (repeat (first | go_big_quiet_step (first | fail))); refine wpQuiet_nil ?_; rintro _ ⟨x, rfl⟩))
        refine (c_iGetWord hl (.inr rfl)).mono ?_
        rintro _ _ ⟨rfl, y2, rfl⟩
        simp only [tupWord]
        rw [show getW s ((4 : Int)).toNat = y from HY.out]
        go_wp2_with (first | ((with_reducible refine wp_region_later (by kernel_rfl) (by kernel_rfl) ?_); (repeat (first | go_big_quiet_step (first | fail))); refine wpQuiet_nil ?_; rintro _ ⟨x, rfl⟩))
        refine bodyPost_ret (v := .tuple #[.int .i64 0, .int .i64 0, .int .i64 0, .bool false]) ?_ rfl (Gives.mk (by rw [HV.out]; rfl))
        simp [results, Try.results49, go_sem]
    · have HV := Lib.hid (show decEnd s = (0, 0, 0, false) by
        unfold decEnd; rw [if_neg (by simp only [endIs, decide_eq_true_eq]; omega)])
      clear e0 e1
      by_cases g0 : s[0].toNat = 1
      · have g1 : ¬ s[1].toNat ≤ 7 := fun h => g ⟨g0, h⟩
        clear g
        go_enter Try.func49, Try.ntmps49
        go_wp2_with (first | ((with_reducible refine wp_region_later (by kernel_rfl) (by kernel_rfl) ?_); (repeat (first | go_big_quiet_step (first | fail) | simp only [c1])); refine wpQuiet_nil ?_; rintro _ ⟨x, rfl⟩))
        refine bodyPost_ret (v := .tuple #[.int .i64 0, .int .i64 0, .int .i64 0, .bool false]) ?_ rfl (Gives.mk (by rw [HV.out]; rfl))
        simp [results, Try.results49, go_sem]
      · clear g
        go_enter Try.func49, Try.ntmps49
        go_wp2_with (first | ((with_reducible refine wp_region_later (by kernel_rfl) (by kernel_rfl) ?_); (repeat (first | go_big_quiet_step (first | fail) | simp only [c1])); refine wpQuiet_nil ?_; rintro _ ⟨x, rfl⟩))
        refine bodyPost_ret (v := .tuple #[.int .i64 0, .int .i64 0, .int .i64 0, .bool false]) ?_ rfl (Gives.mk (by rw [HV.out]; rfl))
        simp [results, Try.results49, go_sem]
  · have c1 : ((s.size : Int) != 6) = true := by simp; omega
    have HV := Lib.hid (show decEnd s = (0, 0, 0, false) by
      unfold decEnd; rw [if_neg (by simp only [endIs, decide_eq_true_eq]; omega)])
    clear hl
    go_enter Try.func49, Try.ntmps49
    go_wp2_with (first | ((with_reducible refine wp_region_later (by kernel_rfl) (by kernel_rfl) ?_); (repeat (first | go_big_quiet_step (first | fail) | simp only [c1])); refine wpQuiet_nil ?_; rintro _ ⟨x, rfl⟩))
    refine bodyPost_ret (v := .tuple #[.int .i64 0, .int .i64 0, .int .i64 0, .bool false]) ?_ rfl (Gives.mk (by rw [HV.out]; rfl))
    simp [results, Try.results49, go_sem]

set_option maxRecDepth 100000 in
set_option maxHeartbeats 2000000 in
theorem c_sGetWord {s : ByteArray} {a : Int} {w : World} (hs : s.size = 6) (h : a = 2 ∨ a = 4) :
    Calls Try.prog 72 #[.string s, .int .i64 a, .int .i64 2] w (Gives w (tupWord (getW s a.toNat))) := by
  rcases h with rfl | rfl
  · have e1 : bAt s 2 = s[2].toNat := bAt_eq (by omega)
    have e2 : bAt s 3 = s[3].toNat := bAt_eq (by omega)
    have HV := Lib.hid (show getW s 2 = ((s[2].toNat : Nat) : Int) * (256 : Int) + ((s[3].toNat : Nat) : Int) by unfold getW; rw [e1, e2])
    have c1 : inB 2 1 4 = true := rfl
    clear e1 e2
    go_enter Try.func72, Try.ntmps72
    go_wp2_with (first | ((with_reducible refine wp_region_later (by kernel_rfl) (by kernel_rfl) ?_); (repeat (first | go_big_quiet_step (first | (go_at_call 54; exact Gives.quiet (c_sl01In))) | simp only [c1])); refine wpQuiet_nil ?_; rintro _ ⟨x, rfl⟩) | (go_at_call 54; refine (c_sl01In).mono ?_; rintro _ _ ⟨rfl, x, rfl⟩))
    refine wp_loop_rounds 3 ?_
    rw [rounds_succ]
    go_wp2_with (first | ((with_reducible refine wp_region_later (by kernel_rfl) (by kernel_rfl) ?_); (repeat (first | go_big_quiet_step (first | fail))); refine wpQuiet_nil ?_; rintro _ ⟨x, rfl⟩))
    rw [rounds_succ]
    go_wp2_with (first | ((with_reducible refine wp_region_later (by kernel_rfl) (by kernel_rfl) ?_); (repeat (first | go_big_quiet_step (first | fail))); refine wpQuiet_nil ?_; rintro _ ⟨x, rfl⟩))
    rw [rounds_succ]
    go_wp2_with (first | ((with_reducible refine wp_region_later (by kernel_rfl) (by kernel_rfl) ?_); (repeat (first | go_big_quiet_step (first | fail))); refine wpQuiet_nil ?_; rintro _ ⟨x, rfl⟩))
    refine bodyPost_ret (v := .tuple #[.int .i64 (((s[2].toNat : Nat) : Int) * (256 : Int) + ((s[3].toNat : Nat) : Int)), .bool true]) ?_ rfl (Gives.mk (by rw [show Int.toNat 2 = 2 from rfl]; unfold tupWord; rw [HV.out]))
    have hb1 : s[2].toNat < 256 := s[2].toNat_lt
    have hb2 : s[3].toNat < 256 := s[3].toNat_lt
    simp [results, Try.results72, go_sem]
    unfold wrap64; omega
  · have e1 : bAt s 4 = s[4].toNat := bAt_eq (by omega)
    have e2 : bAt s 5 = s[5].toNat := bAt_eq (by omega)
    have HV := Lib.hid (show getW s 4 = ((s[4].toNat : Nat) : Int) * (256 : Int) + ((s[5].toNat : Nat) : Int) by unfold getW; rw [e1, e2])
    have c1 : inB 2 1 4 = true := rfl
    clear e1 e2
    go_enter Try.func72, Try.ntmps72
    go_wp2_with (first | ((with_reducible refine wp_region_later (by kernel_rfl) (by kernel_rfl) ?_); (repeat (first | go_big_quiet_step (first | (go_at_call 54; exact Gives.quiet (c_sl01In))) | simp only [c1])); refine wpQuiet_nil ?_; rintro _ ⟨x, rfl⟩) | (go_at_call 54; refine (c_sl01In).mono ?_; rintro _ _ ⟨rfl, x, rfl⟩))
    refine wp_loop_rounds 3 ?_
    rw [rounds_succ]
    go_wp2_with (first | ((with_reducible refine wp_region_later (by kernel_rfl) (by kernel_rfl) ?_); (repeat (first | go_big_quiet_step (first | fail))); refine wpQuiet_nil ?_; rintro _ ⟨x, rfl⟩))
    rw [rounds_succ]
    go_wp2_with (first | ((with_reducible refine wp_region_later (by kernel_rfl) (by kernel_rfl) ?_); (repeat (first | go_big_quiet_step (first | fail))); refine wpQuiet_nil ?_; rintro _ ⟨x, rfl⟩))
    rw [rounds_succ]
    go_wp2_with (first | ((with_reducible refine wp_region_later (by kernel_rfl) (by kernel_rfl) ?_); (repeat (first | go_big_quiet_step (first | fail))); refine wpQuiet_nil ?_; rintro _ ⟨x, rfl⟩))
    refine bodyPost_ret (v := .tuple #[.int .i64 (((s[4].toNat : Nat) : Int) * (256 : Int) + ((s[5].toNat : Nat) : Int)), .bool true]) ?_ rfl (Gives.mk (by rw [show Int.toNat 4 = 4 from rfl]; unfold tupWord; rw [HV.out]))
    have hb1 : s[4].toNat < 256 := s[4].toNat_lt
    have hb2 : s[5].toNat < 256 := s[5].toNat_lt
    simp [results, Try.results72, go_sem]
    unfold wrap64; omega

set_option maxRecDepth 100000 in
set_option maxHeartbeats 2000000 in
theorem c_sDecodeEnd {s : ByteArray} {w : World} (hm : s.size ≤ 1048576) :
    Calls Try.prog 61 #[.string s] w (Gives w (tupEnd (decEnd s))) := by
  by_cases hl : s.size = 6
  · have c1 : ((s.size : Int) != 6) = false := by simp; omega
    have e0 : bAt s 0 = s[0].toNat := bAt_eq (by omega)
    have e1 : bAt s 1 = s[1].toNat := bAt_eq (by omega)
    by_cases g : s[0].toNat = 1 ∧ s[1].toNat ≤ 7
    · obtain ⟨g0, g1⟩ := g
      obtain ⟨x, hx⟩ : ∃ x, getW s 2 = x := ⟨_, rfl⟩
      obtain ⟨y, hy⟩ : ∃ y, getW s 4 = y := ⟨_, rfl⟩
      have HX := Lib.hid hx; have HY := Lib.hid hy
      by_cases g2 : x ≤ 600
      · have HV := Lib.hid (show decEnd s = ((s[1].toNat : Int), x, y, true) by
          unfold decEnd; rw [if_pos (by simp only [endIs, decide_eq_true_eq]; omega), e1, hx, hy])
        clear e0 e1 hx hy
        go_enter Try.func61, Try.ntmps61
        go_wp2_with (first | ((with_reducible refine wp_region_later (by kernel_rfl) (by kernel_rfl) ?_); (repeat (first | go_big_quiet_step (first | fail) | simp only [c1])); refine wpQuiet_nil ?_; rintro _ ⟨x, rfl⟩))
        refine (c_sGetWord hl (.inl rfl)).mono ?_
        rintro _ _ ⟨rfl, y1, rfl⟩
        simp only [tupWord]
        rw [show getW s ((2 : Int)).toNat = x from HX.out]
        go_wp2_with (first | ((with_reducible refine wp_region_later (by kernel_rfl) (by kernel_rfl) ?_); (repeat (first | go_big_quiet_step (first | fail))); refine wpQuiet_nil ?_; rintro _ ⟨x, rfl⟩))
        refine (c_sGetWord hl (.inr rfl)).mono ?_
        rintro _ _ ⟨rfl, y2, rfl⟩
        simp only [tupWord]
        rw [show getW s ((4 : Int)).toNat = y from HY.out]
        go_wp2_with (first | ((with_reducible refine wp_region_later (by kernel_rfl) (by kernel_rfl) ?_); (repeat (first | go_big_quiet_step (first | fail))); refine wpQuiet_nil ?_; rintro _ ⟨x, rfl⟩))
        refine bodyPost_ret (v := .tuple #[.int .i64 s[1].toNat, .int .i64 x, .int .i64 y, .bool true]) ?_ rfl (Gives.mk (by rw [HV.out]; rfl))
        simp [results, Try.results61, go_sem]
      · have HV := Lib.hid (show decEnd s = (0, 0, 0, false) by
          unfold decEnd; rw [if_neg (by simp only [endIs, decide_eq_true_eq]; omega)])
        clear e0 e1 hx hy
        go_enter Try.func61, Try.ntmps61
        go_wp2_with (first | ((with_reducible refine wp_region_later (by kernel_rfl) (by kernel_rfl) ?_); (repeat (first | go_big_quiet_step (first | fail) | simp only [c1])); refine wpQuiet_nil ?_; rintro _ ⟨x, rfl⟩))
        refine (c_sGetWord hl (.inl rfl)).mono ?_
        rintro _ _ ⟨rfl, y1, rfl⟩
        simp only [tupWord]
        rw [show getW s ((2 : Int)).toNat = x from HX.out]
        go_wp2_with (first | ((with_reducible refine wp_region_later (by kernel_rfl) (by kernel_rfl) ?_); (repeat (first | go_big_quiet_step (first | fail))); refine wpQuiet_nil ?_; rintro _ ⟨x, rfl⟩))
        refine (c_sGetWord hl (.inr rfl)).mono ?_
        rintro _ _ ⟨rfl, y2, rfl⟩
        simp only [tupWord]
        rw [show getW s ((4 : Int)).toNat = y from HY.out]
        go_wp2_with (first | ((with_reducible refine wp_region_later (by kernel_rfl) (by kernel_rfl) ?_); (repeat (first | go_big_quiet_step (first | fail))); refine wpQuiet_nil ?_; rintro _ ⟨x, rfl⟩))
        refine bodyPost_ret (v := .tuple #[.int .i64 0, .int .i64 0, .int .i64 0, .bool false]) ?_ rfl (Gives.mk (by rw [HV.out]; rfl))
        simp [results, Try.results61, go_sem]
    · have HV := Lib.hid (show decEnd s = (0, 0, 0, false) by
        unfold decEnd; rw [if_neg (by simp only [endIs, decide_eq_true_eq]; omega)])
      clear e0 e1
      by_cases g0 : s[0].toNat = 1
      · have g1 : ¬ s[1].toNat ≤ 7 := fun h => g ⟨g0, h⟩
        clear g
        go_enter Try.func61, Try.ntmps61
        go_wp2_with (first | ((with_reducible refine wp_region_later (by kernel_rfl) (by kernel_rfl) ?_); (repeat (first | go_big_quiet_step (first | fail) | simp only [c1])); refine wpQuiet_nil ?_; rintro _ ⟨x, rfl⟩))
        refine bodyPost_ret (v := .tuple #[.int .i64 0, .int .i64 0, .int .i64 0, .bool false]) ?_ rfl (Gives.mk (by rw [HV.out]; rfl))
        simp [results, Try.results61, go_sem]
      · clear g
        go_enter Try.func61, Try.ntmps61
        go_wp2_with (first | ((with_reducible refine wp_region_later (by kernel_rfl) (by kernel_rfl) ?_); (repeat (first | go_big_quiet_step (first | fail) | simp only [c1])); refine wpQuiet_nil ?_; rintro _ ⟨x, rfl⟩))
        refine bodyPost_ret (v := .tuple #[.int .i64 0, .int .i64 0, .int .i64 0, .bool false]) ?_ rfl (Gives.mk (by rw [HV.out]; rfl))
        simp [results, Try.results61, go_sem]
  · have c1 : ((s.size : Int) != 6) = true := by simp; omega
    have HV := Lib.hid (show decEnd s = (0, 0, 0, false) by
      unfold decEnd; rw [if_neg (by simp only [endIs, decide_eq_true_eq]; omega)])
    clear hl
    go_enter Try.func61, Try.ntmps61
    go_wp2_with (first | ((with_reducible refine wp_region_later (by kernel_rfl) (by kernel_rfl) ?_); (repeat (first | go_big_quiet_step (first | fail) | simp only [c1])); refine wpQuiet_nil ?_; rintro _ ⟨x, rfl⟩))
    refine bodyPost_ret (v := .tuple #[.int .i64 0, .int .i64 0, .int .i64 0, .bool false]) ?_ rfl (Gives.mk (by rw [HV.out]; rfl))
    simp [results, Try.results61, go_sem]
end Go.Proofs.Ytjffbpdippbfkaa
