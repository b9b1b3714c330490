/- The contract of HearPart, both sides. No condition but on lengths. -/
import Derived.Test.YtjffbpdippbfkaaDecE
namespace Go.Proofs.Ytjffbpdippbfkaa
set_option linter.unusedVariables false
open Go.ChangeShapes Go.WideShapes Go.ChangeAt Go.RowKit

/-- The part with a number. -/
def partAt (p : List ByteArray) (k : Int) : ByteArray := p.getD k.toNat ⟨#[]⟩
def hearSeg (f : Int) (p : List ByteArray) (q : Int × Int × ByteArray × Bool) : Bool := q.2.2.2 && (q.1 == f && ((partAt p q.2.1).toList == []))
def hearEnd (f z : Int) (e : Int × Int × Int × Bool) : Bool := e.2.2.2 && (e.1 == f && (z == -1))
/-- What a receiver of a file is when it has heard a part. -/
def heardZ (f z k : Int) (p : List ByteArray) (s : ByteArray) : Int := if (fileInOk f z k p && (!hearSeg f p (decSeg s) && hearEnd f z (decEnd s))) = true then (decEnd s).2.1 else z
def heardK (f z k : Int) (p : List ByteArray) (s : ByteArray) : Int := if (fileInOk f z k p && (!hearSeg f p (decSeg s) && hearEnd f z (decEnd s))) = true then (decEnd s).2.2.1 else k
def heardP (f z k : Int) (p : List ByteArray) (s : ByteArray) : List ByteArray := if (fileInOk f z k p && hearSeg f p (decSeg s)) = true then p.set (decSeg s).2.1.toNat (decSeg s).2.2.1 else p
theorem decSeg_bd (s : ByteArray) : 0 ≤ (decSeg s).2.1 ∧ (decSeg s).2.1 ≤ 24 := by
  unfold decSeg
  split
  · rename_i h
    simp only [segIs, segHead, Bool.and_eq_true, decide_eq_true_eq] at h
    have := bAt_bd s 2
    exact ⟨this.1, h.2.2.2⟩
  · simp
theorem heardP_length (f z k : Int) (p : List ByteArray) (s : ByteArray) : (heardP f z k p s).length = p.length := by
  unfold heardP; split <;> simp
theorem fileInOk_len {f z k : Int} {p : List ByteArray} (h : fileInOk f z k p = true) : p.length = 25 := by
  simp only [fileInOk, Bool.and_eq_true, decide_eq_true_eq] at h
  exact h.2.2.2.2.1
theorem heard_ok {f z k : Int} {p : List ByteArray} {s : ByteArray} (c0 : fileInOk f z k p = true) {qf qk : Int} {qd : ByteArray} {qo : Bool} (hq : decSeg s = (qf, qk, qd, qo)) {ef ez ek : Int} {eo : Bool} (he : decEnd s = (ef, ez, ek, eo)) :
    heardZ f z k p s = (if (!(qo && (qf == f && ((partAt p qk).toList == []))) && (eo && (ef == f && (z == -1)))) = true then ez else z) ∧
    heardK f z k p s = (if (!(qo && (qf == f && ((partAt p qk).toList == []))) && (eo && (ef == f && (z == -1)))) = true then ek else k) ∧
    heardP f z k p s = (if (qo && (qf == f && ((partAt p qk).toList == []))) = true then p.set qk.toNat qd else p) := by
  unfold heardZ heardK heardP
  rw [hq, he, c0]
  exact ⟨rfl, rfl, rfl⟩

set_option maxRecDepth 100000 in
set_option maxHeartbeats 2000000 in
theorem c_iHearPart {a : Option Addr} {n c : Nat} {f z k : Int} {p : List ByteArray} {s : ByteArray} {w : World} (hs : Sl encStr w a p) (hn : p.length = n) (hm : n ≤ 1048576) (hsz : ∀ t ∈ p, t.size ≤ 1048576) (hz : s.size ≤ 1048576) :
    Calls Try.prog 13 #[.agg #[.int .i64 f, .int .i64 z, .int .i64 k, .slice a n c], .string s] w (GivesFI w f (heardZ f z k p s) (heardK f z k p s) (heardP f z k p s)) := by
  have HS := Lib.hid hsz; clear hsz
  cases c0 : fileInOk f z k p
  · have HV := Lib.hid (show heardZ f z k p s = z ∧ heardK f z k p s = k ∧ heardP f z k p s = p by unfold heardZ heardK heardP; rw [c0]; simp)
    go_enter Try.func13, Try.ntmps13
    go_wp2_with (first | ((with_reducible refine wp_region_later (by kernel_rfl) (by kernel_rfl) ?_); (repeat (first | go_big_quiet_step (first | fail))); refine wpQuiet_nil ?_; rintro _ ⟨x, rfl⟩))
    refine (c_icloneFileIn (hs.to inferInstance) hn (by omega)).mono ?_
    rintro _ _ ⟨a1, c1, rfl, o1, y1, rfl⟩
    rw [hn]
    have O1 := Lib.hid (o1.mono (B' := w.heap.size + 2) (by simp)); clear o1
    go_wp2_with (first | ((with_reducible refine wp_region_later (by kernel_rfl) (by kernel_rfl) ?_); (repeat (first | go_big_quiet_step (first | fail))); refine wpQuiet_nil ?_; rintro _ ⟨x, rfl⟩))
    refine (c_iFileInOk (hs.to inferInstance) hn (by omega) HS.out).mono ?_
    rintro _ _ ⟨rfl, y2, rfl⟩
    go_wp2_with (first | ((with_reducible refine wp_region_later (by kernel_rfl) (by kernel_rfl) ?_); (repeat (first | go_big_quiet_step (first | fail) | simp only [c0])); refine wpQuiet_nil ?_; rintro _ ⟨x, rfl⟩))
    refine bodyPost_ret (v := .agg #[.int .i64 f, .int .i64 z, .int .i64 k, .slice a1 n c1]) ?_ rfl ⟨a1, c1, by rw [HV.out.1, HV.out.2.1, HV.out.2.2]; simp [hn], ?_, ?_⟩
    · simp [results, Try.results13, go_sem]
    · rw [HV.out.2.2]
      refine Own.mono (B := w.heap.size + 2) ?_ (by omega)
      have O2 := O1.out.to (inferInstance : Grows y1.w y2.w)
      repeat (first | (with_reducible exact O2) | (with_reducible refine Own.lowS ?_ (by omega) _ _))
    · exact Later.of
  have h25 := fileInOk_len c0
  obtain ⟨⟨qf, qk, qd, qo⟩, hq⟩ : ∃ q, decSeg s = q := ⟨_, rfl⟩
  obtain ⟨⟨ef, ez, ek, eo⟩, he⟩ : ∃ q, decEnd s = q := ⟨_, rfl⟩
  have hqb := decSeg_bd s
  rw [hq] at hqb
  obtain ⟨hq1, hq2⟩ := hqb
  obtain ⟨j, rfl⟩ := Int.eq_ofNat_of_zero_le (show 0 ≤ qk from hq1)
  have hj : j < n := by have : (j : Int) ≤ 24 := hq2; omega
  clear hq1 hq2
  have HV0 := Lib.hid (heard_ok c0 hq he)
  obtain ⟨b, off, t, ha, hb, hd, h0⟩ := hs.str (show j < p.length by omega)
  have ht : partAt p (j : Int) = t := by
    have := congrArg (fun m => m[0]?) hd.out
    simp only [List.getElem?_drop, Nat.add_zero, List.getElem?_cons_zero] at this
    simp [partAt, this]
  rw [ht] at HV0
  have HD := Lib.hid (And.intro hq he); clear hq he hd ht h25
  subst ha
  cases qo
  · cases eo
    · have HV := Lib.hid (show heardZ f z k p s = z ∧ heardK f z k p s = k ∧ heardP f z k p s = p by rw [HV0.out.1, HV0.out.2.1, HV0.out.2.2]; simp [Bool.false_and])
      clear HV0
      go_enter Try.func13, Try.ntmps13
      go_wp2_with (first | ((with_reducible refine wp_region_later (by kernel_rfl) (by kernel_rfl) ?_); (repeat (first | go_big_quiet_step (first | fail))); refine wpQuiet_nil ?_; rintro _ ⟨x, rfl⟩))
      refine (c_icloneFileIn (hs.to inferInstance) hn (by omega)).mono ?_
      rintro _ _ ⟨a1, c1, rfl, o1, y1, rfl⟩
      rw [hn]
      have O1 := Lib.hid (o1.mono (B' := w.heap.size + 2) (by simp)); clear o1
      go_wp2_with (first | ((with_reducible refine wp_region_later (by kernel_rfl) (by kernel_rfl) ?_); (repeat (first | go_big_quiet_step (first | fail))); refine wpQuiet_nil ?_; rintro _ ⟨x, rfl⟩))
      refine (c_iFileInOk (hs.to inferInstance) hn (by omega) HS.out).mono ?_
      rintro _ _ ⟨rfl, y2, rfl⟩
      go_wp2_with (first | ((with_reducible refine wp_region_later (by kernel_rfl) (by kernel_rfl) ?_); (repeat (first | go_big_quiet_step (first | fail) | simp only [c0])); refine wpQuiet_nil ?_; rintro _ ⟨x, rfl⟩))
      refine (c_iDecodeSegment hz).mono ?_
      rintro _ _ ⟨rfl, y3, rfl⟩
      rw [HD.out.1]; simp only [tupSeg]
      go_wp2_with (first | ((with_reducible refine wp_region_later (by kernel_rfl) (by kernel_rfl) ?_); (repeat (first | go_big_quiet_step (first | fail))); refine wpQuiet_nil ?_; rintro _ ⟨x, rfl⟩))
      refine (c_iDecodeEnd hz).mono ?_
      rintro _ _ ⟨rfl, y4, rfl⟩
      rw [HD.out.2]; simp only [tupEnd]
      go_wp2_with (first | ((with_reducible refine wp_region_later (by kernel_rfl) (by kernel_rfl) ?_); (repeat (first | go_big_quiet_step (first | fail))); refine wpQuiet_nil ?_; rintro _ ⟨x, rfl⟩))
      refine bodyPost_ret (v := .agg #[.int .i64 f, .int .i64 z, .int .i64 k, .slice a1 n c1]) ?_ rfl ⟨a1, c1, by rw [HV.out.1, HV.out.2.1, HV.out.2.2]; simp [hn], ?_, ?_⟩
      · simp [results, Try.results13, go_sem]
      · rw [HV.out.2.2]
        refine Own.mono (B := w.heap.size + 2) ?_ (by omega)
        have O2 := O1.out.to (inferInstance : Grows y1.w ((y2.andThen y3).andThen y4).w)
        repeat (first | (with_reducible exact O2) | (with_reducible refine Own.lowS ?_ (by omega) _ _))
      · exact Later.of
    · cases g4 : (ef == f)
      · have HV := Lib.hid (show heardZ f z k p s = z ∧ heardK f z k p s = k ∧ heardP f z k p s = p by rw [HV0.out.1, HV0.out.2.1, HV0.out.2.2]; simp [Bool.false_and, g4])
        clear HV0
        go_enter Try.func13, Try.ntmps13
        go_wp2_with (first | ((with_reducible refine wp_region_later (by kernel_rfl) (by kernel_rfl) ?_); (repeat (first | go_big_quiet_step (first | fail))); refine wpQuiet_nil ?_; rintro _ ⟨x, rfl⟩))
        refine (c_icloneFileIn (hs.to inferInstance) hn (by omega)).mono ?_
        rintro _ _ ⟨a1, c1, rfl, o1, y1, rfl⟩
        rw [hn]
        have O1 := Lib.hid (o1.mono (B' := w.heap.size + 2) (by simp)); clear o1
        go_wp2_with (first | ((with_reducible refine wp_region_later (by kernel_rfl) (by kernel_rfl) ?_); (repeat (first | go_big_quiet_step (first | fail))); refine wpQuiet_nil ?_; rintro _ ⟨x, rfl⟩))
        refine (c_iFileInOk (hs.to inferInstance) hn (by omega) HS.out).mono ?_
        rintro _ _ ⟨rfl, y2, rfl⟩
        go_wp2_with (first | ((with_reducible refine wp_region_later (by kernel_rfl) (by kernel_rfl) ?_); (repeat (first | go_big_quiet_step (first | fail) | simp only [c0])); refine wpQuiet_nil ?_; rintro _ ⟨x, rfl⟩))
        refine (c_iDecodeSegment hz).mono ?_
        rintro _ _ ⟨rfl, y3, rfl⟩
        rw [HD.out.1]; simp only [tupSeg]
        go_wp2_with (first | ((with_reducible refine wp_region_later (by kernel_rfl) (by kernel_rfl) ?_); (repeat (first | go_big_quiet_step (first | fail))); refine wpQuiet_nil ?_; rintro _ ⟨x, rfl⟩))
        refine (c_iDecodeEnd hz).mono ?_
        rintro _ _ ⟨rfl, y4, rfl⟩
        rw [HD.out.2]; simp only [tupEnd]
        go_wp2_with (first | ((with_reducible refine wp_region_later (by kernel_rfl) (by kernel_rfl) ?_); (repeat (first | go_big_quiet_step (first | fail) | simp only [g4])); refine wpQuiet_nil ?_; rintro _ ⟨x, rfl⟩))
        refine bodyPost_ret (v := .agg #[.int .i64 f, .int .i64 z, .int .i64 k, .slice a1 n c1]) ?_ rfl ⟨a1, c1, by rw [HV.out.1, HV.out.2.1, HV.out.2.2]; simp [hn], ?_, ?_⟩
        · simp [results, Try.results13, go_sem]
        · rw [HV.out.2.2]
          refine Own.mono (B := w.heap.size + 2) ?_ (by omega)
          have O2 := O1.out.to (inferInstance : Grows y1.w ((y2.andThen y3).andThen y4).w)
          repeat (first | (with_reducible exact O2) | (with_reducible refine Own.lowS ?_ (by omega) _ _))
        · exact Later.of
      · cases g5 : (z == -1)
        · have HV := Lib.hid (show heardZ f z k p s = z ∧ heardK f z k p s = k ∧ heardP f z k p s = p by rw [HV0.out.1, HV0.out.2.1, HV0.out.2.2]; simp [Bool.false_and, g4, g5])
          clear HV0
          go_enter Try.func13, Try.ntmps13
          go_wp2_with (first | ((with_reducible refine wp_region_later (by kernel_rfl) (by kernel_rfl) ?_); (repeat (first | go_big_quiet_step (first | fail))); refine wpQuiet_nil ?_; rintro _ ⟨x, rfl⟩))
          refine (c_icloneFileIn (hs.to inferInstance) hn (by omega)).mono ?_
          rintro _ _ ⟨a1, c1, rfl, o1, y1, rfl⟩
          rw [hn]
          have O1 := Lib.hid (o1.mono (B' := w.heap.size + 2) (by simp)); clear o1
          go_wp2_with (first | ((with_reducible refine wp_region_later (by kernel_rfl) (by kernel_rfl) ?_); (repeat (first | go_big_quiet_step (first | fail))); refine wpQuiet_nil ?_; rintro _ ⟨x, rfl⟩))
          refine (c_iFileInOk (hs.to inferInstance) hn (by omega) HS.out).mono ?_
          rintro _ _ ⟨rfl, y2, rfl⟩
          go_wp2_with (first | ((with_reducible refine wp_region_later (by kernel_rfl) (by kernel_rfl) ?_); (repeat (first | go_big_quiet_step (first | fail) | simp only [c0])); refine wpQuiet_nil ?_; rintro _ ⟨x, rfl⟩))
          refine (c_iDecodeSegment hz).mono ?_
          rintro _ _ ⟨rfl, y3, rfl⟩
          rw [HD.out.1]; simp only [tupSeg]
          go_wp2_with (first | ((with_reducible refine wp_region_later (by kernel_rfl) (by kernel_rfl) ?_); (repeat (first | go_big_quiet_step (first | fail))); refine wpQuiet_nil ?_; rintro _ ⟨x, rfl⟩))
          refine (c_iDecodeEnd hz).mono ?_
          rintro _ _ ⟨rfl, y4, rfl⟩
          rw [HD.out.2]; simp only [tupEnd]
          go_wp2_with (first | ((with_reducible refine wp_region_later (by kernel_rfl) (by kernel_rfl) ?_); (repeat (first | go_big_quiet_step (first | fail) | simp only [g4] | simp only [g5])); refine wpQuiet_nil ?_; rintro _ ⟨x, rfl⟩))
          refine bodyPost_ret (v := .agg #[.int .i64 f, .int .i64 z, .int .i64 k, .slice a1 n c1]) ?_ rfl ⟨a1, c1, by rw [HV.out.1, HV.out.2.1, HV.out.2.2]; simp [hn], ?_, ?_⟩
          · simp [results, Try.results13, go_sem]
          · rw [HV.out.2.2]
            refine Own.mono (B := w.heap.size + 2) ?_ (by omega)
            have O2 := O1.out.to (inferInstance : Grows y1.w ((y2.andThen y3).andThen y4).w)
            repeat (first | (with_reducible exact O2) | (with_reducible refine Own.lowS ?_ (by omega) _ _))
          · exact Later.of
        · have HV := Lib.hid (show heardZ f z k p s = ez ∧ heardK f z k p s = ek ∧ heardP f z k p s = p by rw [HV0.out.1, HV0.out.2.1, HV0.out.2.2]; simp [Bool.false_and, g4, g5])
          clear HV0
          go_enter Try.func13, Try.ntmps13
          go_wp2_with (first | ((with_reducible refine wp_region_later (by kernel_rfl) (by kernel_rfl) ?_); (repeat (first | go_big_quiet_step (first | fail))); refine wpQuiet_nil ?_; rintro _ ⟨x, rfl⟩))
          refine (c_icloneFileIn (hs.to inferInstance) hn (by omega)).mono ?_
          rintro _ _ ⟨a1, c1, rfl, o1, y1, rfl⟩
          rw [hn]
          have O1 := Lib.hid (o1.mono (B' := w.heap.size + 2) (by simp)); clear o1
          go_wp2_with (first | ((with_reducible refine wp_region_later (by kernel_rfl) (by kernel_rfl) ?_); (repeat (first | go_big_quiet_step (first | fail))); refine wpQuiet_nil ?_; rintro _ ⟨x, rfl⟩))
          refine (c_iFileInOk (hs.to inferInstance) hn (by omega) HS.out).mono ?_
          rintro _ _ ⟨rfl, y2, rfl⟩
          go_wp2_with (first | ((with_reducible refine wp_region_later (by kernel_rfl) (by kernel_rfl) ?_); (repeat (first | go_big_quiet_step (first | fail) | simp only [c0])); refine wpQuiet_nil ?_; rintro _ ⟨x, rfl⟩))
          refine (c_iDecodeSegment hz).mono ?_
          rintro _ _ ⟨rfl, y3, rfl⟩
          rw [HD.out.1]; simp only [tupSeg]
          go_wp2_with (first | ((with_reducible refine wp_region_later (by kernel_rfl) (by kernel_rfl) ?_); (repeat (first | go_big_quiet_step (first | fail))); refine wpQuiet_nil ?_; rintro _ ⟨x, rfl⟩))
          refine (c_iDecodeEnd hz).mono ?_
          rintro _ _ ⟨rfl, y4, rfl⟩
          rw [HD.out.2]; simp only [tupEnd]
          go_wp2_with (first | ((with_reducible refine wp_region_later (by kernel_rfl) (by kernel_rfl) ?_); (repeat (first | go_big_quiet_step (first | fail) | simp only [g4] | simp only [g5])); refine wpQuiet_nil ?_; rintro _ ⟨x, rfl⟩))
          refine bodyPost_ret (v := .agg #[.int .i64 f, .int .i64 ez, .int .i64 ek, .slice a1 n c1]) ?_ rfl ⟨a1, c1, by rw [HV.out.1, HV.out.2.1, HV.out.2.2]; simp [hn], ?_, ?_⟩
          · simp [results, Try.results13, go_sem]
          · rw [HV.out.2.2]
            refine Own.mono (B := w.heap.size + 2) ?_ (by omega)
            have O2 := (show Own encStr 9 1 (w.heap.size + 2) ((((y2.andThen y3).andThen y4).set ⟨y1.w.heap.size, 1, none⟩ (.int .i64 ez)).set ⟨y1.w.heap.size, 2, none⟩ (.int .i64 ek)).w a1 c1 p from by
                have K := (Held.new y1.w [.int .i64 f, .int .i64 z, .int .i64 k, .slice a1 n c1] 32 _ rfl).to (inferInstance : Grows _ ((y2.andThen y3).andThen y4).w)
                exact (((O1.out.to (inferInstance : Grows y1.w ((y2.andThen y3).andThen y4).w)).set K (by decide) 1 (.int .i64 ez)).set (K.set 1 (.int .i64 ez)) (by decide) 2 (.int .i64 ek)))
            repeat (first | (with_reducible exact O2) | (with_reducible refine Own.lowS ?_ (by omega) _ _))
          · exact Later.of
  cases g1 : (qf == f)
  · cases eo
    · have HV := Lib.hid (show heardZ f z k p s = z ∧ heardK f z k p s = k ∧ heardP f z k p s = p by rw [HV0.out.1, HV0.out.2.1, HV0.out.2.2]; simp [g1])
      clear HV0
      go_enter Try.func13, Try.ntmps13
      go_wp2_with (first | ((with_reducible refine wp_region_later (by kernel_rfl) (by kernel_rfl) ?_); (repeat (first | go_big_quiet_step (first | fail))); refine wpQuiet_nil ?_; rintro _ ⟨x, rfl⟩))
      refine (c_icloneFileIn (hs.to inferInstance) hn (by omega)).mono ?_
      rintro _ _ ⟨a1, c1, rfl, o1, y1, rfl⟩
      rw [hn]
      have O1 := Lib.hid (o1.mono (B' := w.heap.size + 2) (by simp)); clear o1
      go_wp2_with (first | ((with_reducible refine wp_region_later (by kernel_rfl) (by kernel_rfl) ?_); (repeat (first | go_big_quiet_step (first | fail))); refine wpQuiet_nil ?_; rintro _ ⟨x, rfl⟩))
      refine (c_iFileInOk (hs.to inferInstance) hn (by omega) HS.out).mono ?_
      rintro _ _ ⟨rfl, y2, rfl⟩
      go_wp2_with (first | ((with_reducible refine wp_region_later (by kernel_rfl) (by kernel_rfl) ?_); (repeat (first | go_big_quiet_step (first | fail) | simp only [c0])); refine wpQuiet_nil ?_; rintro _ ⟨x, rfl⟩))
      refine (c_iDecodeSegment hz).mono ?_
      rintro _ _ ⟨rfl, y3, rfl⟩
      rw [HD.out.1]; simp only [tupSeg]
      go_wp2_with (first | ((with_reducible refine wp_region_later (by kernel_rfl) (by kernel_rfl) ?_); (repeat (first | go_big_quiet_step (first | fail) | simp only [g1])); refine wpQuiet_nil ?_; rintro _ ⟨x, rfl⟩))
      refine (c_iDecodeEnd hz).mono ?_
      rintro _ _ ⟨rfl, y4, rfl⟩
      rw [HD.out.2]; simp only [tupEnd]
      go_wp2_with (first | ((with_reducible refine wp_region_later (by kernel_rfl) (by kernel_rfl) ?_); (repeat (first | go_big_quiet_step (first | fail) | simp only [g1])); refine wpQuiet_nil ?_; rintro _ ⟨x, rfl⟩))
      refine bodyPost_ret (v := .agg #[.int .i64 f, .int .i64 z, .int .i64 k, .slice a1 n c1]) ?_ rfl ⟨a1, c1, by rw [HV.out.1, HV.out.2.1, HV.out.2.2]; simp [hn], ?_, ?_⟩
      · simp [results, Try.results13, go_sem]
      · rw [HV.out.2.2]
        refine Own.mono (B := w.heap.size + 2) ?_ (by omega)
        have O2 := O1.out.to (inferInstance : Grows y1.w ((y2.andThen y3).andThen y4).w)
        repeat (first | (with_reducible exact O2) | (with_reducible refine Own.lowS ?_ (by omega) _ _))
      · exact Later.of
    · cases g4 : (ef == f)
      · have HV := Lib.hid (show heardZ f z k p s = z ∧ heardK f z k p s = k ∧ heardP f z k p s = p by rw [HV0.out.1, HV0.out.2.1, HV0.out.2.2]; simp [g1, g4])
        clear HV0
        go_enter Try.func13, Try.ntmps13
        go_wp2_with (first | ((with_reducible refine wp_region_later (by kernel_rfl) (by kernel_rfl) ?_); (repeat (first | go_big_quiet_step (first | fail))); refine wpQuiet_nil ?_; rintro _ ⟨x, rfl⟩))
        refine (c_icloneFileIn (hs.to inferInstance) hn (by omega)).mono ?_
        rintro _ _ ⟨a1, c1, rfl, o1, y1, rfl⟩
        rw [hn]
        have O1 := Lib.hid (o1.mono (B' := w.heap.size + 2) (by simp)); clear o1
        go_wp2_with (first | ((with_reducible refine wp_region_later (by kernel_rfl) (by kernel_rfl) ?_); (repeat (first | go_big_quiet_step (first | fail))); refine wpQuiet_nil ?_; rintro _ ⟨x, rfl⟩))
        refine (c_iFileInOk (hs.to inferInstance) hn (by omega) HS.out).mono ?_
        rintro _ _ ⟨rfl, y2, rfl⟩
        go_wp2_with (first | ((with_reducible refine wp_region_later (by kernel_rfl) (by kernel_rfl) ?_); (repeat (first | go_big_quiet_step (first | fail) | simp only [c0])); refine wpQuiet_nil ?_; rintro _ ⟨x, rfl⟩))
        refine (c_iDecodeSegment hz).mono ?_
        rintro _ _ ⟨rfl, y3, rfl⟩
        rw [HD.out.1]; simp only [tupSeg]
        go_wp2_with (first | ((with_reducible refine wp_region_later (by kernel_rfl) (by kernel_rfl) ?_); (repeat (first | go_big_quiet_step (first | fail) | simp only [g1])); refine wpQuiet_nil ?_; rintro _ ⟨x, rfl⟩))
        refine (c_iDecodeEnd hz).mono ?_
        rintro _ _ ⟨rfl, y4, rfl⟩
        rw [HD.out.2]; simp only [tupEnd]
        go_wp2_with (first | ((with_reducible refine wp_region_later (by kernel_rfl) (by kernel_rfl) ?_); (repeat (first | go_big_quiet_step (first | fail) | simp only [g1] | simp only [g4])); refine wpQuiet_nil ?_; rintro _ ⟨x, rfl⟩))
        refine bodyPost_ret (v := .agg #[.int .i64 f, .int .i64 z, .int .i64 k, .slice a1 n c1]) ?_ rfl ⟨a1, c1, by rw [HV.out.1, HV.out.2.1, HV.out.2.2]; simp [hn], ?_, ?_⟩
        · simp [results, Try.results13, go_sem]
        · rw [HV.out.2.2]
          refine Own.mono (B := w.heap.size + 2) ?_ (by omega)
          have O2 := O1.out.to (inferInstance : Grows y1.w ((y2.andThen y3).andThen y4).w)
          repeat (first | (with_reducible exact O2) | (with_reducible refine Own.lowS ?_ (by omega) _ _))
        · exact Later.of
      · cases g5 : (z == -1)
        · have HV := Lib.hid (show heardZ f z k p s = z ∧ heardK f z k p s = k ∧ heardP f z k p s = p by rw [HV0.out.1, HV0.out.2.1, HV0.out.2.2]; simp [g1, g4, g5])
          clear HV0
          go_enter Try.func13, Try.ntmps13
          go_wp2_with (first | ((with_reducible refine wp_region_later (by kernel_rfl) (by kernel_rfl) ?_); (repeat (first | go_big_quiet_step (first | fail))); refine wpQuiet_nil ?_; rintro _ ⟨x, rfl⟩))
          refine (c_icloneFileIn (hs.to inferInstance) hn (by omega)).mono ?_
          rintro _ _ ⟨a1, c1, rfl, o1, y1, rfl⟩
          rw [hn]
          have O1 := Lib.hid (o1.mono (B' := w.heap.size + 2) (by simp)); clear o1
          go_wp2_with (first | ((with_reducible refine wp_region_later (by kernel_rfl) (by kernel_rfl) ?_); (repeat (first | go_big_quiet_step (first | fail))); refine wpQuiet_nil ?_; rintro _ ⟨x, rfl⟩))
          refine (c_iFileInOk (hs.to inferInstance) hn (by omega) HS.out).mono ?_
          rintro _ _ ⟨rfl, y2, rfl⟩
          go_wp2_with (first | ((with_reducible refine wp_region_later (by kernel_rfl) (by kernel_rfl) ?_); (repeat (first | go_big_quiet_step (first | fail) | simp only [c0])); refine wpQuiet_nil ?_; rintro _ ⟨x, rfl⟩))
          refine (c_iDecodeSegment hz).mono ?_
          rintro _ _ ⟨rfl, y3, rfl⟩
          rw [HD.out.1]; simp only [tupSeg]
          go_wp2_with (first | ((with_reducible refine wp_region_later (by kernel_rfl) (by kernel_rfl) ?_); (repeat (first | go_big_quiet_step (first | fail) | simp only [g1])); refine wpQuiet_nil ?_; rintro _ ⟨x, rfl⟩))
          refine (c_iDecodeEnd hz).mono ?_
          rintro _ _ ⟨rfl, y4, rfl⟩
          rw [HD.out.2]; simp only [tupEnd]
          go_wp2_with (first | ((with_reducible refine wp_region_later (by kernel_rfl) (by kernel_rfl) ?_); (repeat (first | go_big_quiet_step (first | fail) | simp only [g1] | simp only [g4] | simp only [g5])); refine wpQuiet_nil ?_; rintro _ ⟨x, rfl⟩))
          refine bodyPost_ret (v := .agg #[.int .i64 f, .int .i64 z, .int .i64 k, .slice a1 n c1]) ?_ rfl ⟨a1, c1, by rw [HV.out.1, HV.out.2.1, HV.out.2.2]; simp [hn], ?_, ?_⟩
          · simp [results, Try.results13, go_sem]
          · rw [HV.out.2.2]
            refine Own.mono (B := w.heap.size + 2) ?_ (by omega)
            have O2 := O1.out.to (inferInstance : Grows y1.w ((y2.andThen y3).andThen y4).w)
            repeat (first | (with_reducible exact O2) | (with_reducible refine Own.lowS ?_ (by omega) _ _))
          · exact Later.of
        · have HV := Lib.hid (show heardZ f z k p s = ez ∧ heardK f z k p s = ek ∧ heardP f z k p s = p by rw [HV0.out.1, HV0.out.2.1, HV0.out.2.2]; simp [g1, g4, g5])
          clear HV0
          go_enter Try.func13, Try.ntmps13
          go_wp2_with (first | ((with_reducible refine wp_region_later (by kernel_rfl) (by kernel_rfl) ?_); (repeat (first | go_big_quiet_step (first | fail))); refine wpQuiet_nil ?_; rintro _ ⟨x, rfl⟩))
          refine (c_icloneFileIn (hs.to inferInstance) hn (by omega)).mono ?_
          rintro _ _ ⟨a1, c1, rfl, o1, y1, rfl⟩
          rw [hn]
          have O1 := Lib.hid (o1.mono (B' := w.heap.size + 2) (by simp)); clear o1
          go_wp2_with (first | ((with_reducible refine wp_region_later (by kernel_rfl) (by kernel_rfl) ?_); (repeat (first | go_big_quiet_step (first | fail))); refine wpQuiet_nil ?_; rintro _ ⟨x, rfl⟩))
          refine (c_iFileInOk (hs.to inferInstance) hn (by omega) HS.out).mono ?_
          rintro _ _ ⟨rfl, y2, rfl⟩
          go_wp2_with (first | ((with_reducible refine wp_region_later (by kernel_rfl) (by kernel_rfl) ?_); (repeat (first | go_big_quiet_step (first | fail) | simp only [c0])); refine wpQuiet_nil ?_; rintro _ ⟨x, rfl⟩))
          refine (c_iDecodeSegment hz).mono ?_
          rintro _ _ ⟨rfl, y3, rfl⟩
          rw [HD.out.1]; simp only [tupSeg]
          go_wp2_with (first | ((with_reducible refine wp_region_later (by kernel_rfl) (by kernel_rfl) ?_); (repeat (first | go_big_quiet_step (first | fail) | simp only [g1])); refine wpQuiet_nil ?_; rintro _ ⟨x, rfl⟩))
          refine (c_iDecodeEnd hz).mono ?_
          rintro _ _ ⟨rfl, y4, rfl⟩
          rw [HD.out.2]; simp only [tupEnd]
          go_wp2_with (first | ((with_reducible refine wp_region_later (by kernel_rfl) (by kernel_rfl) ?_); (repeat (first | go_big_quiet_step (first | fail) | simp only [g1] | simp only [g4] | simp only [g5])); refine wpQuiet_nil ?_; rintro _ ⟨x, rfl⟩))
          refine bodyPost_ret (v := .agg #[.int .i64 f, .int .i64 ez, .int .i64 ek, .slice a1 n c1]) ?_ rfl ⟨a1, c1, by rw [HV.out.1, HV.out.2.1, HV.out.2.2]; simp [hn], ?_, ?_⟩
          · simp [results, Try.results13, go_sem]
          · rw [HV.out.2.2]
            refine Own.mono (B := w.heap.size + 2) ?_ (by omega)
            have O2 := (show Own encStr 9 1 (w.heap.size + 2) ((((y2.andThen y3).andThen y4).set ⟨y1.w.heap.size, 1, none⟩ (.int .i64 ez)).set ⟨y1.w.heap.size, 2, none⟩ (.int .i64 ek)).w a1 c1 p from by
                have K := (Held.new y1.w [.int .i64 f, .int .i64 z, .int .i64 k, .slice a1 n c1] 32 _ rfl).to (inferInstance : Grows _ ((y2.andThen y3).andThen y4).w)
                exact (((O1.out.to (inferInstance : Grows y1.w ((y2.andThen y3).andThen y4).w)).set K (by decide) 1 (.int .i64 ez)).set (K.set 1 (.int .i64 ez)) (by decide) 2 (.int .i64 ek)))
            repeat (first | (with_reducible exact O2) | (with_reducible refine Own.lowS ?_ (by omega) _ _))
          · exact Later.of
  cases g2 : (t.toList == [])
  · cases eo
    · have HV := Lib.hid (show heardZ f z k p s = z ∧ heardK f z k p s = k ∧ heardP f z k p s = p by rw [HV0.out.1, HV0.out.2.1, HV0.out.2.2]; simp [g1, g2])
      clear HV0
      go_enter Try.func13, Try.ntmps13
      go_wp2_with (first | ((with_reducible refine wp_region_later (by kernel_rfl) (by kernel_rfl) ?_); (repeat (first | go_big_quiet_step (first | fail))); refine wpQuiet_nil ?_; rintro _ ⟨x, rfl⟩))
      refine (c_icloneFileIn (hs.to inferInstance) hn (by omega)).mono ?_
      rintro _ _ ⟨a1, c1, rfl, o1, y1, rfl⟩
      rw [hn]
      have O1 := Lib.hid (o1.mono (B' := w.heap.size + 2) (by simp)); clear o1
      go_wp2_with (first | ((with_reducible refine wp_region_later (by kernel_rfl) (by kernel_rfl) ?_); (repeat (first | go_big_quiet_step (first | fail))); refine wpQuiet_nil ?_; rintro _ ⟨x, rfl⟩))
      refine (c_iFileInOk (hs.to inferInstance) hn (by omega) HS.out).mono ?_
      rintro _ _ ⟨rfl, y2, rfl⟩
      go_wp2_with (first | ((with_reducible refine wp_region_later (by kernel_rfl) (by kernel_rfl) ?_); (repeat (first | go_big_quiet_step (first | fail) | simp only [c0])); refine wpQuiet_nil ?_; rintro _ ⟨x, rfl⟩))
      refine (c_iDecodeSegment hz).mono ?_
      rintro _ _ ⟨rfl, y3, rfl⟩
      rw [HD.out.1]; simp only [tupSeg]
      go_wp2_with (first | ((with_reducible refine wp_region_later (by kernel_rfl) (by kernel_rfl) ?_); (repeat (first | go_big_quiet_step (first | fail) | simp only [g1] | simp only [g2])); refine wpQuiet_nil ?_; rintro _ ⟨x, rfl⟩))
      refine (c_iDecodeEnd hz).mono ?_
      rintro _ _ ⟨rfl, y4, rfl⟩
      rw [HD.out.2]; simp only [tupEnd]
      go_wp2_with (first | ((with_reducible refine wp_region_later (by kernel_rfl) (by kernel_rfl) ?_); (repeat (first | go_big_quiet_step (first | fail) | simp only [g1] | simp only [g2])); refine wpQuiet_nil ?_; rintro _ ⟨x, rfl⟩))
      refine bodyPost_ret (v := .agg #[.int .i64 f, .int .i64 z, .int .i64 k, .slice a1 n c1]) ?_ rfl ⟨a1, c1, by rw [HV.out.1, HV.out.2.1, HV.out.2.2]; simp [hn], ?_, ?_⟩
      · simp [results, Try.results13, go_sem]
      · rw [HV.out.2.2]
        refine Own.mono (B := w.heap.size + 2) ?_ (by omega)
        have O2 := O1.out.to (inferInstance : Grows y1.w ((y2.andThen y3).andThen y4).w)
        repeat (first | (with_reducible exact O2) | (with_reducible refine Own.lowS ?_ (by omega) _ _))
      · exact Later.of
    · cases g4 : (ef == f)
      · have HV := Lib.hid (show heardZ f z k p s = z ∧ heardK f z k p s = k ∧ heardP f z k p s = p by rw [HV0.out.1, HV0.out.2.1, HV0.out.2.2]; simp [g1, g2, g4])
        clear HV0
        go_enter Try.func13, Try.ntmps13
        go_wp2_with (first | ((with_reducible refine wp_region_later (by kernel_rfl) (by kernel_rfl) ?_); (repeat (first | go_big_quiet_step (first | fail))); refine wpQuiet_nil ?_; rintro _ ⟨x, rfl⟩))
        refine (c_icloneFileIn (hs.to inferInstance) hn (by omega)).mono ?_
        rintro _ _ ⟨a1, c1, rfl, o1, y1, rfl⟩
        rw [hn]
        have O1 := Lib.hid (o1.mono (B' := w.heap.size + 2) (by simp)); clear o1
        go_wp2_with (first | ((with_reducible refine wp_region_later (by kernel_rfl) (by kernel_rfl) ?_); (repeat (first | go_big_quiet_step (first | fail))); refine wpQuiet_nil ?_; rintro _ ⟨x, rfl⟩))
        refine (c_iFileInOk (hs.to inferInstance) hn (by omega) HS.out).mono ?_
        rintro _ _ ⟨rfl, y2, rfl⟩
        go_wp2_with (first | ((with_reducible refine wp_region_later (by kernel_rfl) (by kernel_rfl) ?_); (repeat (first | go_big_quiet_step (first | fail) | simp only [c0])); refine wpQuiet_nil ?_; rintro _ ⟨x, rfl⟩))
        refine (c_iDecodeSegment hz).mono ?_
        rintro _ _ ⟨rfl, y3, rfl⟩
        rw [HD.out.1]; simp only [tupSeg]
        go_wp2_with (first | ((with_reducible refine wp_region_later (by kernel_rfl) (by kernel_rfl) ?_); (repeat (first | go_big_quiet_step (first | fail) | simp only [g1] | simp only [g2])); refine wpQuiet_nil ?_; rintro _ ⟨x, rfl⟩))
        refine (c_iDecodeEnd hz).mono ?_
        rintro _ _ ⟨rfl, y4, rfl⟩
        rw [HD.out.2]; simp only [tupEnd]
        go_wp2_with (first | ((with_reducible refine wp_region_later (by kernel_rfl) (by kernel_rfl) ?_); (repeat (first | go_big_quiet_step (first | fail) | simp only [g1] | simp only [g2] | simp only [g4])); refine wpQuiet_nil ?_; rintro _ ⟨x, rfl⟩))
        refine bodyPost_ret (v := .agg #[.int .i64 f, .int .i64 z, .int .i64 k, .slice a1 n c1]) ?_ rfl ⟨a1, c1, by rw [HV.out.1, HV.out.2.1, HV.out.2.2]; simp [hn], ?_, ?_⟩
        · simp [results, Try.results13, go_sem]
        · rw [HV.out.2.2]
          refine Own.mono (B := w.heap.size + 2) ?_ (by omega)
          have O2 := O1.out.to (inferInstance : Grows y1.w ((y2.andThen y3).andThen y4).w)
          repeat (first | (with_reducible exact O2) | (with_reducible refine Own.lowS ?_ (by omega) _ _))
        · exact Later.of
      · cases g5 : (z == -1)
        · have HV := Lib.hid (show heardZ f z k p s = z ∧ heardK f z k p s = k ∧ heardP f z k p s = p by rw [HV0.out.1, HV0.out.2.1, HV0.out.2.2]; simp [g1, g2, g4, g5])
          clear HV0
          go_enter Try.func13, Try.ntmps13
          go_wp2_with (first | ((with_reducible refine wp_region_later (by kernel_rfl) (by kernel_rfl) ?_); (repeat (first | go_big_quiet_step (first | fail))); refine wpQuiet_nil ?_; rintro _ ⟨x, rfl⟩))
          refine (c_icloneFileIn (hs.to inferInstance) hn (by omega)).mono ?_
          rintro _ _ ⟨a1, c1, rfl, o1, y1, rfl⟩
          rw [hn]
          have O1 := Lib.hid (o1.mono (B' := w.heap.size + 2) (by simp)); clear o1
          go_wp2_with (first | ((with_reducible refine wp_region_later (by kernel_rfl) (by kernel_rfl) ?_); (repeat (first | go_big_quiet_step (first | fail))); refine wpQuiet_nil ?_; rintro _ ⟨x, rfl⟩))
          refine (c_iFileInOk (hs.to inferInstance) hn (by omega) HS.out).mono ?_
          rintro _ _ ⟨rfl, y2, rfl⟩
          go_wp2_with (first | ((with_reducible refine wp_region_later (by kernel_rfl) (by kernel_rfl) ?_); (repeat (first | go_big_quiet_step (first | fail) | simp only [c0])); refine wpQuiet_nil ?_; rintro _ ⟨x, rfl⟩))
          refine (c_iDecodeSegment hz).mono ?_
          rintro _ _ ⟨rfl, y3, rfl⟩
          rw [HD.out.1]; simp only [tupSeg]
          go_wp2_with (first | ((with_reducible refine wp_region_later (by kernel_rfl) (by kernel_rfl) ?_); (repeat (first | go_big_quiet_step (first | fail) | simp only [g1] | simp only [g2])); refine wpQuiet_nil ?_; rintro _ ⟨x, rfl⟩))
          refine (c_iDecodeEnd hz).mono ?_
          rintro _ _ ⟨rfl, y4, rfl⟩
          rw [HD.out.2]; simp only [tupEnd]
          go_wp2_with (first | ((with_reducible refine wp_region_later (by kernel_rfl) (by kernel_rfl) ?_); (repeat (first | go_big_quiet_step (first | fail) | simp only [g1] | simp only [g2] | simp only [g4] | simp only [g5])); refine wpQuiet_nil ?_; rintro _ ⟨x, rfl⟩))
          refine bodyPost_ret (v := .agg #[.int .i64 f, .int .i64 z, .int .i64 k, .slice a1 n c1]) ?_ rfl ⟨a1, c1, by rw [HV.out.1, HV.out.2.1, HV.out.2.2]; simp [hn], ?_, ?_⟩
          · simp [results, Try.results13, go_sem]
          · rw [HV.out.2.2]
            refine Own.mono (B := w.heap.size + 2) ?_ (by omega)
            have O2 := O1.out.to (inferInstance : Grows y1.w ((y2.andThen y3).andThen y4).w)
            repeat (first | (with_reducible exact O2) | (with_reducible refine Own.lowS ?_ (by omega) _ _))
          · exact Later.of
        · have HV := Lib.hid (show heardZ f z k p s = ez ∧ heardK f z k p s = ek ∧ heardP f z k p s = p by rw [HV0.out.1, HV0.out.2.1, HV0.out.2.2]; simp [g1, g2, g4, g5])
          clear HV0
          go_enter Try.func13, Try.ntmps13
          go_wp2_with (first | ((with_reducible refine wp_region_later (by kernel_rfl) (by kernel_rfl) ?_); (repeat (first | go_big_quiet_step (first | fail))); refine wpQuiet_nil ?_; rintro _ ⟨x, rfl⟩))
          refine (c_icloneFileIn (hs.to inferInstance) hn (by omega)).mono ?_
          rintro _ _ ⟨a1, c1, rfl, o1, y1, rfl⟩
          rw [hn]
          have O1 := Lib.hid (o1.mono (B' := w.heap.size + 2) (by simp)); clear o1
          go_wp2_with (first | ((with_reducible refine wp_region_later (by kernel_rfl) (by kernel_rfl) ?_); (repeat (first | go_big_quiet_step (first | fail))); refine wpQuiet_nil ?_; rintro _ ⟨x, rfl⟩))
          refine (c_iFileInOk (hs.to inferInstance) hn (by omega) HS.out).mono ?_
          rintro _ _ ⟨rfl, y2, rfl⟩
          go_wp2_with (first | ((with_reducible refine wp_region_later (by kernel_rfl) (by kernel_rfl) ?_); (repeat (first | go_big_quiet_step (first | fail) | simp only [c0])); refine wpQuiet_nil ?_; rintro _ ⟨x, rfl⟩))
          refine (c_iDecodeSegment hz).mono ?_
          rintro _ _ ⟨rfl, y3, rfl⟩
          rw [HD.out.1]; simp only [tupSeg]
          go_wp2_with (first | ((with_reducible refine wp_region_later (by kernel_rfl) (by kernel_rfl) ?_); (repeat (first | go_big_quiet_step (first | fail) | simp only [g1] | simp only [g2])); refine wpQuiet_nil ?_; rintro _ ⟨x, rfl⟩))
          refine (c_iDecodeEnd hz).mono ?_
          rintro _ _ ⟨rfl, y4, rfl⟩
          rw [HD.out.2]; simp only [tupEnd]
          go_wp2_with (first | ((with_reducible refine wp_region_later (by kernel_rfl) (by kernel_rfl) ?_); (repeat (first | go_big_quiet_step (first | fail) | simp only [g1] | simp only [g2] | simp only [g4] | simp only [g5])); refine wpQuiet_nil ?_; rintro _ ⟨x, rfl⟩))
          refine bodyPost_ret (v := .agg #[.int .i64 f, .int .i64 ez, .int .i64 ek, .slice a1 n c1]) ?_ rfl ⟨a1, c1, by rw [HV.out.1, HV.out.2.1, HV.out.2.2]; simp [hn], ?_, ?_⟩
          · simp [results, Try.results13, go_sem]
          · rw [HV.out.2.2]
            refine Own.mono (B := w.heap.size + 2) ?_ (by omega)
            have O2 := (show Own encStr 9 1 (w.heap.size + 2) ((((y2.andThen y3).andThen y4).set ⟨y1.w.heap.size, 1, none⟩ (.int .i64 ez)).set ⟨y1.w.heap.size, 2, none⟩ (.int .i64 ek)).w a1 c1 p from by
                have K := (Held.new y1.w [.int .i64 f, .int .i64 z, .int .i64 k, .slice a1 n c1] 32 _ rfl).to (inferInstance : Grows _ ((y2.andThen y3).andThen y4).w)
                exact (((O1.out.to (inferInstance : Grows y1.w ((y2.andThen y3).andThen y4).w)).set K (by decide) 1 (.int .i64 ez)).set (K.set 1 (.int .i64 ez)) (by decide) 2 (.int .i64 ek)))
            repeat (first | (with_reducible exact O2) | (with_reducible refine Own.lowS ?_ (by omega) _ _))
          · exact Later.of
  · have HV := Lib.hid (show heardZ f z k p s = z ∧ heardK f z k p s = k ∧ heardP f z k p s = p.set j qd by rw [HV0.out.1, HV0.out.2.1, HV0.out.2.2]; simp [g1, g2])
    clear HV0
    go_enter Try.func13, Try.ntmps13
    go_wp2_with (first | ((with_reducible refine wp_region_later (by kernel_rfl) (by kernel_rfl) ?_); (repeat (first | go_big_quiet_step (first | fail))); refine wpQuiet_nil ?_; rintro _ ⟨x, rfl⟩))
    refine (c_icloneFileIn (hs.to inferInstance) hn (by omega)).mono ?_
    rintro _ _ ⟨a1, c1, rfl, o1, y1, rfl⟩
    rw [hn]
    have O1 := Lib.hid (o1.mono (B' := w.heap.size + 2) (by simp)); clear o1
    go_wp2_with (first | ((with_reducible refine wp_region_later (by kernel_rfl) (by kernel_rfl) ?_); (repeat (first | go_big_quiet_step (first | fail))); refine wpQuiet_nil ?_; rintro _ ⟨x, rfl⟩))
    refine (c_iFileInOk (hs.to inferInstance) hn (by omega) HS.out).mono ?_
    rintro _ _ ⟨rfl, y2, rfl⟩
    go_wp2_with (first | ((with_reducible refine wp_region_later (by kernel_rfl) (by kernel_rfl) ?_); (repeat (first | go_big_quiet_step (first | fail) | simp only [c0])); refine wpQuiet_nil ?_; rintro _ ⟨x, rfl⟩))
    refine (c_iDecodeSegment hz).mono ?_
    rintro _ _ ⟨rfl, y3, rfl⟩
    rw [HD.out.1]; simp only [tupSeg]
    obtain ⟨g, rfl, hB, hlt⟩ := O1.out.open (n := n) (by omega)
    have hB' : LeN (w.heap.size + 2) g := ⟨hB⟩
    have hlt' : LtN g y1.w.heap.size := ⟨hlt⟩
    have O3 := O1.out.to (inferInstance : Grows y1.w (y2.andThen y3).w)
    obtain ⟨o0, g0⟩ := O3.cells (j := j) (by omega)
    have f0 := O3.free j
    have hB2 : LeN w.heap.size g := ⟨by omega⟩
    have OP := Lib.hid (show Own encStr 9 1 (w.heap.size + 2) ((y2.andThen y3).set ⟨g, j, none⟩ (.string qd)).w (some ⟨g, 0, none⟩) c1 (p.set j qd) from (O3.put1 (j := j) (y := qd) (by omega) rfl).1)
    clear O3 O1
    go_wp2_with (first | ((with_reducible refine wp_region_later (by kernel_rfl) (by kernel_rfl) ?_); (repeat (first | go_big_quiet_step (first | fail) | simp only [g1] | simp only [g2])); refine wpQuiet_nil ?_; rintro _ ⟨x, rfl⟩))
    refine bodyPost_ret (v := .agg #[.int .i64 f, .int .i64 z, .int .i64 k, .slice (some ⟨g, 0, none⟩) n c1]) ?_ rfl ⟨(some ⟨g, 0, none⟩), c1, by rw [HV.out.1, HV.out.2.1, HV.out.2.2]; simp [hn], ?_, ?_⟩
    · simp [results, Try.results13, go_sem]
    · rw [HV.out.2.2]
      refine Own.mono (B := w.heap.size + 2) ?_ (by omega)
      have O2 := OP.out
      repeat (first | (with_reducible exact O2) | (with_reducible refine Own.lowS ?_ (by omega) _ _))
    · exact Later.of

set_option maxRecDepth 100000 in
set_option maxHeartbeats 2000000 in
theorem c_sHearPart {a : Option Addr} {n c : Nat} {f z k : Int} {p : List ByteArray} {s : ByteArray} {w : World} (hs : Sl encStr w a p) (hnil : a = none → c = 0) (hn : p.length = n) (hm : n ≤ 1048576) (hsz : ∀ t ∈ p, t.size ≤ 1048576) (hz : s.size ≤ 1048576) :
    Calls Try.prog 30 #[.agg #[.int .i64 f, .int .i64 z, .int .i64 k, .slice a n c], .string s] w (GivesFI w f (heardZ f z k p s) (heardK f z k p s) (heardP f z k p s)) := by
  have HS := Lib.hid hsz; clear hsz
  have HNIL := Lib.hid hnil; clear hnil
  cases c0 : fileInOk f z k p
  · have HV := Lib.hid (show heardZ f z k p s = z ∧ heardK f z k p s = k ∧ heardP f z k p s = p by unfold heardZ heardK heardP; rw [c0]; simp)
    go_enter Try.func30, Try.ntmps30
    go_wp2_with (first | ((with_reducible refine wp_region_later (by kernel_rfl) (by kernel_rfl) ?_); (repeat (first | go_big_quiet_step (first | fail))); refine wpQuiet_nil ?_; rintro _ ⟨x, rfl⟩))
    refine (c_sl06CopyIn (hs.to inferInstance) HNIL.out hn (by omega)).mono ?_
    rintro _ _ ⟨a1, c1, rfl, o1, y1, rfl⟩
    rw [hn]
    have O1 := Lib.hid (o1.mono (B' := w.heap.size + 2) (by simp)); clear o1
    go_wp2_with (first | ((with_reducible refine wp_region_later (by kernel_rfl) (by kernel_rfl) ?_); (repeat (first | go_big_quiet_step (first | fail))); refine wpQuiet_nil ?_; rintro _ ⟨x, rfl⟩))
    refine (c_sFileInOk (hs.to inferInstance) hn (by omega) HS.out).mono ?_
    rintro _ _ ⟨rfl, y2, rfl⟩
    go_wp2_with (first | ((with_reducible refine wp_region_later (by kernel_rfl) (by kernel_rfl) ?_); (repeat (first | go_big_quiet_step (first | fail) | simp only [c0])); refine wpQuiet_nil ?_; rintro _ ⟨x, rfl⟩))
    refine bodyPost_ret (v := .agg #[.int .i64 f, .int .i64 z, .int .i64 k, .slice a1 n c1]) ?_ rfl ⟨a1, c1, by rw [HV.out.1, HV.out.2.1, HV.out.2.2]; simp [hn], ?_, ?_⟩
    · simp [results, Try.results30, go_sem]
    · rw [HV.out.2.2]
      refine Own.mono (B := w.heap.size + 2) ?_ (by omega)
      have O2 := O1.out.to (inferInstance : Grows y1.w y2.w)
      repeat (first | (with_reducible exact O2) | (with_reducible refine Own.lowS ?_ (by omega) _ _))
    · exact Later.of
  have h25 := fileInOk_len c0
  obtain ⟨⟨qf, qk, qd, qo⟩, hq⟩ : ∃ q, decSeg s = q := ⟨_, rfl⟩
  obtain ⟨⟨ef, ez, ek, eo⟩, he⟩ : ∃ q, decEnd s = q := ⟨_, rfl⟩
  have hqb := decSeg_bd s
  rw [hq] at hqb
  obtain ⟨hq1, hq2⟩ := hqb
  obtain ⟨j, rfl⟩ := Int.eq_ofNat_of_zero_le (show 0 ≤ qk from hq1)
  have hj : j < n := by have : (j : Int) ≤ 24 := hq2; omega
  clear hq1 hq2
  have HV0 := Lib.hid (heard_ok c0 hq he)
  obtain ⟨b, off, t, ha, hb, hd, h0⟩ := hs.str (show j < p.length by omega)
  have ht : partAt p (j : Int) = t := by
    have := congrArg (fun m => m[0]?) hd.out
    simp only [List.getElem?_drop, Nat.add_zero, List.getElem?_cons_zero] at this
    simp [partAt, this]
  rw [ht] at HV0
  have HD := Lib.hid (And.intro hq he); clear hq he hd ht h25
  subst ha
  cases qo
  · cases eo
    · have HV := Lib.hid (show heardZ f z k p s = z ∧ heardK f z k p s = k ∧ heardP f z k p s = p by rw [HV0.out.1, HV0.out.2.1, HV0.out.2.2]; simp [Bool.false_and])
      clear HV0
      go_enter Try.func30, Try.ntmps30
      go_wp2_with (first | ((with_reducible refine wp_region_later (by kernel_rfl) (by kernel_rfl) ?_); (repeat (first | go_big_quiet_step (first | fail))); refine wpQuiet_nil ?_; rintro _ ⟨x, rfl⟩))
      refine (c_sl06CopyIn (hs.to inferInstance) HNIL.out hn (by omega)).mono ?_
      rintro _ _ ⟨a1, c1, rfl, o1, y1, rfl⟩
      rw [hn]
      have O1 := Lib.hid (o1.mono (B' := w.heap.size + 2) (by simp)); clear o1
      go_wp2_with (first | ((with_reducible refine wp_region_later (by kernel_rfl) (by kernel_rfl) ?_); (repeat (first | go_big_quiet_step (first | fail))); refine wpQuiet_nil ?_; rintro _ ⟨x, rfl⟩))
      refine (c_sFileInOk (hs.to inferInstance) hn (by omega) HS.out).mono ?_
      rintro _ _ ⟨rfl, y2, rfl⟩
      go_wp2_with (first | ((with_reducible refine wp_region_later (by kernel_rfl) (by kernel_rfl) ?_); (repeat (first | go_big_quiet_step (first | fail) | simp only [c0])); refine wpQuiet_nil ?_; rintro _ ⟨x, rfl⟩))
      refine (c_sDecodeSegment hz).mono ?_
      rintro _ _ ⟨rfl, y3, rfl⟩
      rw [HD.out.1]; simp only [tupSeg]
      go_wp2_with (first | ((with_reducible refine wp_region_later (by kernel_rfl) (by kernel_rfl) ?_); (repeat (first | go_big_quiet_step (first | fail))); refine wpQuiet_nil ?_; rintro _ ⟨x, rfl⟩))
      refine (c_sDecodeEnd hz).mono ?_
      rintro _ _ ⟨rfl, y4, rfl⟩
      rw [HD.out.2]; simp only [tupEnd]
      go_wp2_with (first | ((with_reducible refine wp_region_later (by kernel_rfl) (by kernel_rfl) ?_); (repeat (first | go_big_quiet_step (first | fail))); refine wpQuiet_nil ?_; rintro _ ⟨x, rfl⟩))
      refine bodyPost_ret (v := .agg #[.int .i64 f, .int .i64 z, .int .i64 k, .slice a1 n c1]) ?_ rfl ⟨a1, c1, by rw [HV.out.1, HV.out.2.1, HV.out.2.2]; simp [hn], ?_, ?_⟩
      · simp [results, Try.results30, go_sem]
      · rw [HV.out.2.2]
        refine Own.mono (B := w.heap.size + 2) ?_ (by omega)
        have O2 := O1.out.to (inferInstance : Grows y1.w ((y2.andThen y3).andThen y4).w)
        repeat (first | (with_reducible exact O2) | (with_reducible refine Own.lowS ?_ (by omega) _ _))
      · exact Later.of
    · cases g4 : (ef == f)
      · have HV := Lib.hid (show heardZ f z k p s = z ∧ heardK f z k p s = k ∧ heardP f z k p s = p by rw [HV0.out.1, HV0.out.2.1, HV0.out.2.2]; simp [Bool.false_and, g4])
        clear HV0
        go_enter Try.func30, Try.ntmps30
        go_wp2_with (first | ((with_reducible refine wp_region_later (by kernel_rfl) (by kernel_rfl) ?_); (repeat (first | go_big_quiet_step (first | fail))); refine wpQuiet_nil ?_; rintro _ ⟨x, rfl⟩))
        refine (c_sl06CopyIn (hs.to inferInstance) HNIL.out hn (by omega)).mono ?_
        rintro _ _ ⟨a1, c1, rfl, o1, y1, rfl⟩
        rw [hn]
        have O1 := Lib.hid (o1.mono (B' := w.heap.size + 2) (by simp)); clear o1
        go_wp2_with (first | ((with_reducible refine wp_region_later (by kernel_rfl) (by kernel_rfl) ?_); (repeat (first | go_big_quiet_step (first | fail))); refine wpQuiet_nil ?_; rintro _ ⟨x, rfl⟩))
        refine (c_sFileInOk (hs.to inferInstance) hn (by omega) HS.out).mono ?_
        rintro _ _ ⟨rfl, y2, rfl⟩
        go_wp2_with (first | ((with_reducible refine wp_region_later (by kernel_rfl) (by kernel_rfl) ?_); (repeat (first | go_big_quiet_step (first | fail) | simp only [c0])); refine wpQuiet_nil ?_; rintro _ ⟨x, rfl⟩))
        refine (c_sDecodeSegment hz).mono ?_
        rintro _ _ ⟨rfl, y3, rfl⟩
        rw [HD.out.1]; simp only [tupSeg]
        go_wp2_with (first | ((with_reducible refine wp_region_later (by kernel_rfl) (by kernel_rfl) ?_); (repeat (first | go_big_quiet_step (first | fail))); refine wpQuiet_nil ?_; rintro _ ⟨x, rfl⟩))
        refine (c_sDecodeEnd hz).mono ?_
        rintro _ _ ⟨rfl, y4, rfl⟩
        rw [HD.out.2]; simp only [tupEnd]
        go_wp2_with (first | ((with_reducible refine wp_region_later (by kernel_rfl) (by kernel_rfl) ?_); (repeat (first | go_big_quiet_step (first | fail) | simp only [g4])); refine wpQuiet_nil ?_; rintro _ ⟨x, rfl⟩))
        refine bodyPost_ret (v := .agg #[.int .i64 f, .int .i64 z, .int .i64 k, .slice a1 n c1]) ?_ rfl ⟨a1, c1, by rw [HV.out.1, HV.out.2.1, HV.out.2.2]; simp [hn], ?_, ?_⟩
        · simp [results, Try.results30, go_sem]
        · rw [HV.out.2.2]
          refine Own.mono (B := w.heap.size + 2) ?_ (by omega)
          have O2 := O1.out.to (inferInstance : Grows y1.w ((y2.andThen y3).andThen y4).w)
          repeat (first | (with_reducible exact O2) | (with_reducible refine Own.lowS ?_ (by omega) _ _))
        · exact Later.of
      · cases g5 : (z == -1)
        · have HV := Lib.hid (show heardZ f z k p s = z ∧ heardK f z k p s = k ∧ heardP f z k p s = p by rw [HV0.out.1, HV0.out.2.1, HV0.out.2.2]; simp [Bool.false_and, g4, g5])
          clear HV0
          go_enter Try.func30, Try.ntmps30
          go_wp2_with (first | ((with_reducible refine wp_region_later (by kernel_rfl) (by kernel_rfl) ?_); (repeat (first | go_big_quiet_step (first | fail))); refine wpQuiet_nil ?_; rintro _ ⟨x, rfl⟩))
          refine (c_sl06CopyIn (hs.to inferInstance) HNIL.out hn (by omega)).mono ?_
          rintro _ _ ⟨a1, c1, rfl, o1, y1, rfl⟩
          rw [hn]
          have O1 := Lib.hid (o1.mono (B' := w.heap.size + 2) (by simp)); clear o1
          go_wp2_with (first | ((with_reducible refine wp_region_later (by kernel_rfl) (by kernel_rfl) ?_); (repeat (first | go_big_quiet_step (first | fail))); refine wpQuiet_nil ?_; rintro _ ⟨x, rfl⟩))
          refine (c_sFileInOk (hs.to inferInstance) hn (by omega) HS.out).mono ?_
          rintro _ _ ⟨rfl, y2, rfl⟩
          go_wp2_with (first | ((with_reducible refine wp_region_later (by kernel_rfl) (by kernel_rfl) ?_); (repeat (first | go_big_quiet_step (first | fail) | simp only [c0])); refine wpQuiet_nil ?_; rintro _ ⟨x, rfl⟩))
          refine (c_sDecodeSegment hz).mono ?_
          rintro _ _ ⟨rfl, y3, rfl⟩
          rw [HD.out.1]; simp only [tupSeg]
          go_wp2_with (first | ((with_reducible refine wp_region_later (by kernel_rfl) (by kernel_rfl) ?_); (repeat (first | go_big_quiet_step (first | fail))); refine wpQuiet_nil ?_; rintro _ ⟨x, rfl⟩))
          refine (c_sDecodeEnd hz).mono ?_
          rintro _ _ ⟨rfl, y4, rfl⟩
          rw [HD.out.2]; simp only [tupEnd]
          go_wp2_with (first | ((with_reducible refine wp_region_later (by kernel_rfl) (by kernel_rfl) ?_); (repeat (first | go_big_quiet_step (first | fail) | simp only [g4] | simp only [g5])); refine wpQuiet_nil ?_; rintro _ ⟨x, rfl⟩))
          refine bodyPost_ret (v := .agg #[.int .i64 f, .int .i64 z, .int .i64 k, .slice a1 n c1]) ?_ rfl ⟨a1, c1, by rw [HV.out.1, HV.out.2.1, HV.out.2.2]; simp [hn], ?_, ?_⟩
          · simp [results, Try.results30, go_sem]
          · rw [HV.out.2.2]
            refine Own.mono (B := w.heap.size + 2) ?_ (by omega)
            have O2 := O1.out.to (inferInstance : Grows y1.w ((y2.andThen y3).andThen y4).w)
            repeat (first | (with_reducible exact O2) | (with_reducible refine Own.lowS ?_ (by omega) _ _))
          · exact Later.of
        · have HV := Lib.hid (show heardZ f z k p s = ez ∧ heardK f z k p s = ek ∧ heardP f z k p s = p by rw [HV0.out.1, HV0.out.2.1, HV0.out.2.2]; simp [Bool.false_and, g4, g5])
          clear HV0
          go_enter Try.func30, Try.ntmps30
          go_wp2_with (first | ((with_reducible refine wp_region_later (by kernel_rfl) (by kernel_rfl) ?_); (repeat (first | go_big_quiet_step (first | fail))); refine wpQuiet_nil ?_; rintro _ ⟨x, rfl⟩))
          refine (c_sl06CopyIn (hs.to inferInstance) HNIL.out hn (by omega)).mono ?_
          rintro _ _ ⟨a1, c1, rfl, o1, y1, rfl⟩
          rw [hn]
          have O1 := Lib.hid (o1.mono (B' := w.heap.size + 2) (by simp)); clear o1
          go_wp2_with (first | ((with_reducible refine wp_region_later (by kernel_rfl) (by kernel_rfl) ?_); (repeat (first | go_big_quiet_step (first | fail))); refine wpQuiet_nil ?_; rintro _ ⟨x, rfl⟩))
          refine (c_sFileInOk (hs.to inferInstance) hn (by omega) HS.out).mono ?_
          rintro _ _ ⟨rfl, y2, rfl⟩
          go_wp2_with (first | ((with_reducible refine wp_region_later (by kernel_rfl) (by kernel_rfl) ?_); (repeat (first | go_big_quiet_step (first | fail) | simp only [c0])); refine wpQuiet_nil ?_; rintro _ ⟨x, rfl⟩))
          refine (c_sDecodeSegment hz).mono ?_
          rintro _ _ ⟨rfl, y3, rfl⟩
          rw [HD.out.1]; simp only [tupSeg]
          go_wp2_with (first | ((with_reducible refine wp_region_later (by kernel_rfl) (by kernel_rfl) ?_); (repeat (first | go_big_quiet_step (first | fail))); refine wpQuiet_nil ?_; rintro _ ⟨x, rfl⟩))
          refine (c_sDecodeEnd hz).mono ?_
          rintro _ _ ⟨rfl, y4, rfl⟩
          rw [HD.out.2]; simp only [tupEnd]
          go_wp2_with (first | ((with_reducible refine wp_region_later (by kernel_rfl) (by kernel_rfl) ?_); (repeat (first | go_big_quiet_step (first | fail) | simp only [g4] | simp only [g5])); refine wpQuiet_nil ?_; rintro _ ⟨x, rfl⟩))
          refine bodyPost_ret (v := .agg #[.int .i64 f, .int .i64 ez, .int .i64 ek, .slice a1 n c1]) ?_ rfl ⟨a1, c1, by rw [HV.out.1, HV.out.2.1, HV.out.2.2]; simp [hn], ?_, ?_⟩
          · simp [results, Try.results30, go_sem]
          · rw [HV.out.2.2]
            refine Own.mono (B := w.heap.size + 2) ?_ (by omega)
            have O2 := (show Own encStr 9 1 (w.heap.size + 2) ((((y2.andThen y3).andThen y4).set ⟨y1.w.heap.size, 1, none⟩ (.int .i64 ez)).set ⟨y1.w.heap.size, 2, none⟩ (.int .i64 ek)).w a1 c1 p from by
                have K := (Held.new y1.w [.int .i64 f, .int .i64 z, .int .i64 k, .slice a1 n c1] 32 _ rfl).to (inferInstance : Grows _ ((y2.andThen y3).andThen y4).w)
                exact (((O1.out.to (inferInstance : Grows y1.w ((y2.andThen y3).andThen y4).w)).set K (by decide) 1 (.int .i64 ez)).set (K.set 1 (.int .i64 ez)) (by decide) 2 (.int .i64 ek)))
            repeat (first | (with_reducible exact O2) | (with_reducible refine Own.lowS ?_ (by omega) _ _))
          · exact Later.of
  cases g1 : (qf == f)
  · cases eo
    · have HV := Lib.hid (show heardZ f z k p s = z ∧ heardK f z k p s = k ∧ heardP f z k p s = p by rw [HV0.out.1, HV0.out.2.1, HV0.out.2.2]; simp [g1])
      clear HV0
      go_enter Try.func30, Try.ntmps30
      go_wp2_with (first | ((with_reducible refine wp_region_later (by kernel_rfl) (by kernel_rfl) ?_); (repeat (first | go_big_quiet_step (first | fail))); refine wpQuiet_nil ?_; rintro _ ⟨x, rfl⟩))
      refine (c_sl06CopyIn (hs.to inferInstance) HNIL.out hn (by omega)).mono ?_
      rintro _ _ ⟨a1, c1, rfl, o1, y1, rfl⟩
      rw [hn]
      have O1 := Lib.hid (o1.mono (B' := w.heap.size + 2) (by simp)); clear o1
      go_wp2_with (first | ((with_reducible refine wp_region_later (by kernel_rfl) (by kernel_rfl) ?_); (repeat (first | go_big_quiet_step (first | fail))); refine wpQuiet_nil ?_; rintro _ ⟨x, rfl⟩))
      refine (c_sFileInOk (hs.to inferInstance) hn (by omega) HS.out).mono ?_
      rintro _ _ ⟨rfl, y2, rfl⟩
      go_wp2_with (first | ((with_reducible refine wp_region_later (by kernel_rfl) (by kernel_rfl) ?_); (repeat (first | go_big_quiet_step (first | fail) | simp only [c0])); refine wpQuiet_nil ?_; rintro _ ⟨x, rfl⟩))
      refine (c_sDecodeSegment hz).mono ?_
      rintro _ _ ⟨rfl, y3, rfl⟩
      rw [HD.out.1]; simp only [tupSeg]
      go_wp2_with (first | ((with_reducible refine wp_region_later (by kernel_rfl) (by kernel_rfl) ?_); (repeat (first | go_big_quiet_step (first | fail) | simp only [g1])); refine wpQuiet_nil ?_; rintro _ ⟨x, rfl⟩))
      refine (c_sDecodeEnd hz).mono ?_
      rintro _ _ ⟨rfl, y4, rfl⟩
      rw [HD.out.2]; simp only [tupEnd]
      go_wp2_with (first | ((with_reducible refine wp_region_later (by kernel_rfl) (by kernel_rfl) ?_); (repeat (first | go_big_quiet_step (first | fail) | simp only [g1])); refine wpQuiet_nil ?_; rintro _ ⟨x, rfl⟩))
      refine bodyPost_ret (v := .agg #[.int .i64 f, .int .i64 z, .int .i64 k, .slice a1 n c1]) ?_ rfl ⟨a1, c1, by rw [HV.out.1, HV.out.2.1, HV.out.2.2]; simp [hn], ?_, ?_⟩
      · simp [results, Try.results30, go_sem]
      · rw [HV.out.2.2]
        refine Own.mono (B := w.heap.size + 2) ?_ (by omega)
        have O2 := O1.out.to (inferInstance : Grows y1.w ((y2.andThen y3).andThen y4).w)
        repeat (first | (with_reducible exact O2) | (with_reducible refine Own.lowS ?_ (by omega) _ _))
      · exact Later.of
    · cases g4 : (ef == f)
      · have HV := Lib.hid (show heardZ f z k p s = z ∧ heardK f z k p s = k ∧ heardP f z k p s = p by rw [HV0.out.1, HV0.out.2.1, HV0.out.2.2]; simp [g1, g4])
        clear HV0
        go_enter Try.func30, Try.ntmps30
        go_wp2_with (first | ((with_reducible refine wp_region_later (by kernel_rfl) (by kernel_rfl) ?_); (repeat (first | go_big_quiet_step (first | fail))); refine wpQuiet_nil ?_; rintro _ ⟨x, rfl⟩))
        refine (c_sl06CopyIn (hs.to inferInstance) HNIL.out hn (by omega)).mono ?_
        rintro _ _ ⟨a1, c1, rfl, o1, y1, rfl⟩
        rw [hn]
        have O1 := Lib.hid (o1.mono (B' := w.heap.size + 2) (by simp)); clear o1
        go_wp2_with (first | ((with_reducible refine wp_region_later (by kernel_rfl) (by kernel_rfl) ?_); (repeat (first | go_big_quiet_step (first | fail))); refine wpQuiet_nil ?_; rintro _ ⟨x, rfl⟩))
        refine (c_sFileInOk (hs.to inferInstance) hn (by omega) HS.out).mono ?_
        rintro _ _ ⟨rfl, y2, rfl⟩
        go_wp2_with (first | ((with_reducible refine wp_region_later (by kernel_rfl) (by kernel_rfl) ?_); (repeat (first | go_big_quiet_step (first | fail) | simp only [c0])); refine wpQuiet_nil ?_; rintro _ ⟨x, rfl⟩))
        refine (c_sDecodeSegment hz).mono ?_
        rintro _ _ ⟨rfl, y3, rfl⟩
        rw [HD.out.1]; simp only [tupSeg]
        go_wp2_with (first | ((with_reducible refine wp_region_later (by kernel_rfl) (by kernel_rfl) ?_); (repeat (first | go_big_quiet_step (first | fail) | simp only [g1])); refine wpQuiet_nil ?_; rintro _ ⟨x, rfl⟩))
        refine (c_sDecodeEnd hz).mono ?_
        rintro _ _ ⟨rfl, y4, rfl⟩
        rw [HD.out.2]; simp only [tupEnd]
        go_wp2_with (first | ((with_reducible refine wp_region_later (by kernel_rfl) (by kernel_rfl) ?_); (repeat (first | go_big_quiet_step (first | fail) | simp only [g1] | simp only [g4])); refine wpQuiet_nil ?_; rintro _ ⟨x, rfl⟩))
        refine bodyPost_ret (v := .agg #[.int .i64 f, .int .i64 z, .int .i64 k, .slice a1 n c1]) ?_ rfl ⟨a1, c1, by rw [HV.out.1, HV.out.2.1, HV.out.2.2]; simp [hn], ?_, ?_⟩
        · simp [results, Try.results30, go_sem]
        · rw [HV.out.2.2]
          refine Own.mono (B := w.heap.size + 2) ?_ (by omega)
          have O2 := O1.out.to (inferInstance : Grows y1.w ((y2.andThen y3).andThen y4).w)
          repeat (first | (with_reducible exact O2) | (with_reducible refine Own.lowS ?_ (by omega) _ _))
        · exact Later.of
      · cases g5 : (z == -1)
        · have HV := Lib.hid (show heardZ f z k p s = z ∧ heardK f z k p s = k ∧ heardP f z k p s = p by rw [HV0.out.1, HV0.out.2.1, HV0.out.2.2]; simp [g1, g4, g5])
          clear HV0
          go_enter Try.func30, Try.ntmps30
          go_wp2_with (first | ((with_reducible refine wp_region_later (by kernel_rfl) (by kernel_rfl) ?_); (repeat (first | go_big_quiet_step (first | fail))); refine wpQuiet_nil ?_; rintro _ ⟨x, rfl⟩))
          refine (c_sl06CopyIn (hs.to inferInstance) HNIL.out hn (by omega)).mono ?_
          rintro _ _ ⟨a1, c1, rfl, o1, y1, rfl⟩
          rw [hn]
          have O1 := Lib.hid (o1.mono (B' := w.heap.size + 2) (by simp)); clear o1
          go_wp2_with (first | ((with_reducible refine wp_region_later (by kernel_rfl) (by kernel_rfl) ?_); (repeat (first | go_big_quiet_step (first | fail))); refine wpQuiet_nil ?_; rintro _ ⟨x, rfl⟩))
          refine (c_sFileInOk (hs.to inferInstance) hn (by omega) HS.out).mono ?_
          rintro _ _ ⟨rfl, y2, rfl⟩
          go_wp2_with (first | ((with_reducible refine wp_region_later (by kernel_rfl) (by kernel_rfl) ?_); (repeat (first | go_big_quiet_step (first | fail) | simp only [c0])); refine wpQuiet_nil ?_; rintro _ ⟨x, rfl⟩))
          refine (c_sDecodeSegment hz).mono ?_
          rintro _ _ ⟨rfl, y3, rfl⟩
          rw [HD.out.1]; simp only [tupSeg]
          go_wp2_with (first | ((with_reducible refine wp_region_later (by kernel_rfl) (by kernel_rfl) ?_); (repeat (first | go_big_quiet_step (first | fail) | simp only [g1])); refine wpQuiet_nil ?_; rintro _ ⟨x, rfl⟩))
          refine (c_sDecodeEnd hz).mono ?_
          rintro _ _ ⟨rfl, y4, rfl⟩
          rw [HD.out.2]; simp only [tupEnd]
          go_wp2_with (first | ((with_reducible refine wp_region_later (by kernel_rfl) (by kernel_rfl) ?_); (repeat (first | go_big_quiet_step (first | fail) | simp only [g1] | simp only [g4] | simp only [g5])); refine wpQuiet_nil ?_; rintro _ ⟨x, rfl⟩))
          refine bodyPost_ret (v := .agg #[.int .i64 f, .int .i64 z, .int .i64 k, .slice a1 n c1]) ?_ rfl ⟨a1, c1, by rw [HV.out.1, HV.out.2.1, HV.out.2.2]; simp [hn], ?_, ?_⟩
          · simp [results, Try.results30, go_sem]
          · rw [HV.out.2.2]
            refine Own.mono (B := w.heap.size + 2) ?_ (by omega)
            have O2 := O1.out.to (inferInstance : Grows y1.w ((y2.andThen y3).andThen y4).w)
            repeat (first | (with_reducible exact O2) | (with_reducible refine Own.lowS ?_ (by omega) _ _))
          · exact Later.of
        · have HV := Lib.hid (show heardZ f z k p s = ez ∧ heardK f z k p s = ek ∧ heardP f z k p s = p by rw [HV0.out.1, HV0.out.2.1, HV0.out.2.2]; simp [g1, g4, g5])
          clear HV0
          go_enter Try.func30, Try.ntmps30
          go_wp2_with (first | ((with_reducible refine wp_region_later (by kernel_rfl) (by kernel_rfl) ?_); (repeat (first | go_big_quiet_step (first | fail))); refine wpQuiet_nil ?_; rintro _ ⟨x, rfl⟩))
          refine (c_sl06CopyIn (hs.to inferInstance) HNIL.out hn (by omega)).mono ?_
          rintro _ _ ⟨a1, c1, rfl, o1, y1, rfl⟩
          rw [hn]
          have O1 := Lib.hid (o1.mono (B' := w.heap.size + 2) (by simp)); clear o1
          go_wp2_with (first | ((with_reducible refine wp_region_later (by kernel_rfl) (by kernel_rfl) ?_); (repeat (first | go_big_quiet_step (first | fail))); refine wpQuiet_nil ?_; rintro _ ⟨x, rfl⟩))
          refine (c_sFileInOk (hs.to inferInstance) hn (by omega) HS.out).mono ?_
          rintro _ _ ⟨rfl, y2, rfl⟩
          go_wp2_with (first | ((with_reducible refine wp_region_later (by kernel_rfl) (by kernel_rfl) ?_); (repeat (first | go_big_quiet_step (first | fail) | simp only [c0])); refine wpQuiet_nil ?_; rintro _ ⟨x, rfl⟩))
          refine (c_sDecodeSegment hz).mono ?_
          rintro _ _ ⟨rfl, y3, rfl⟩
          rw [HD.out.1]; simp only [tupSeg]
          go_wp2_with (first | ((with_reducible refine wp_region_later (by kernel_rfl) (by kernel_rfl) ?_); (repeat (first | go_big_quiet_step (first | fail) | simp only [g1])); refine wpQuiet_nil ?_; rintro _ ⟨x, rfl⟩))
          refine (c_sDecodeEnd hz).mono ?_
          rintro _ _ ⟨rfl, y4, rfl⟩
          rw [HD.out.2]; simp only [tupEnd]
          go_wp2_with (first | ((with_reducible refine wp_region_later (by kernel_rfl) (by kernel_rfl) ?_); (repeat (first | go_big_quiet_step (first | fail) | simp only [g1] | simp only [g4] | simp only [g5])); refine wpQuiet_nil ?_; rintro _ ⟨x, rfl⟩))
          refine bodyPost_ret (v := .agg #[.int .i64 f, .int .i64 ez, .int .i64 ek, .slice a1 n c1]) ?_ rfl ⟨a1, c1, by rw [HV.out.1, HV.out.2.1, HV.out.2.2]; simp [hn], ?_, ?_⟩
          · simp [results, Try.results30, go_sem]
          · rw [HV.out.2.2]
            refine Own.mono (B := w.heap.size + 2) ?_ (by omega)
            have O2 := (show Own encStr 9 1 (w.heap.size + 2) ((((y2.andThen y3).andThen y4).set ⟨y1.w.heap.size, 1, none⟩ (.int .i64 ez)).set ⟨y1.w.heap.size, 2, none⟩ (.int .i64 ek)).w a1 c1 p from by
                have K := (Held.new y1.w [.int .i64 f, .int .i64 z, .int .i64 k, .slice a1 n c1] 32 _ rfl).to (inferInstance : Grows _ ((y2.andThen y3).andThen y4).w)
                exact (((O1.out.to (inferInstance : Grows y1.w ((y2.andThen y3).andThen y4).w)).set K (by decide) 1 (.int .i64 ez)).set (K.set 1 (.int .i64 ez)) (by decide) 2 (.int .i64 ek)))
            repeat (first | (with_reducible exact O2) | (with_reducible refine Own.lowS ?_ (by omega) _ _))
          · exact Later.of
  cases g2 : (t.toList == [])
  · cases eo
    · have HV := Lib.hid (show heardZ f z k p s = z ∧ heardK f z k p s = k ∧ heardP f z k p s = p by rw [HV0.out.1, HV0.out.2.1, HV0.out.2.2]; simp [g1, g2])
      clear HV0
      go_enter Try.func30, Try.ntmps30
      go_wp2_with (first | ((with_reducible refine wp_region_later (by kernel_rfl) (by kernel_rfl) ?_); (repeat (first | go_big_quiet_step (first | fail))); refine wpQuiet_nil ?_; rintro _ ⟨x, rfl⟩))
      refine (c_sl06CopyIn (hs.to inferInstance) HNIL.out hn (by omega)).mono ?_
      rintro _ _ ⟨a1, c1, rfl, o1, y1, rfl⟩
      rw [hn]
      have O1 := Lib.hid (o1.mono (B' := w.heap.size + 2) (by simp)); clear o1
      go_wp2_with (first | ((with_reducible refine wp_region_later (by kernel_rfl) (by kernel_rfl) ?_); (repeat (first | go_big_quiet_step (first | fail))); refine wpQuiet_nil ?_; rintro _ ⟨x, rfl⟩))
      refine (c_sFileInOk (hs.to inferInstance) hn (by omega) HS.out).mono ?_
      rintro _ _ ⟨rfl, y2, rfl⟩
      go_wp2_with (first | ((with_reducible refine wp_region_later (by kernel_rfl) (by kernel_rfl) ?_); (repeat (first | go_big_quiet_step (first | fail) | simp only [c0])); refine wpQuiet_nil ?_; rintro _ ⟨x, rfl⟩))
      refine (c_sDecodeSegment hz).mono ?_
      rintro _ _ ⟨rfl, y3, rfl⟩
      rw [HD.out.1]; simp only [tupSeg]
      go_wp2_with (first | ((with_reducible refine wp_region_later (by kernel_rfl) (by kernel_rfl) ?_); (repeat (first | go_big_quiet_step (first | fail) | simp only [g1] | simp only [g2])); refine wpQuiet_nil ?_; rintro _ ⟨x, rfl⟩))
      refine (c_sDecodeEnd hz).mono ?_
      rintro _ _ ⟨rfl, y4, rfl⟩
      rw [HD.out.2]; simp only [tupEnd]
      go_wp2_with (first | ((with_reducible refine wp_region_later (by kernel_rfl) (by kernel_rfl) ?_); (repeat (first | go_big_quiet_step (first | fail) | simp only [g1] | simp only [g2])); refine wpQuiet_nil ?_; rintro _ ⟨x, rfl⟩))
      refine bodyPost_ret (v := .agg #[.int .i64 f, .int .i64 z, .int .i64 k, .slice a1 n c1]) ?_ rfl ⟨a1, c1, by rw [HV.out.1, HV.out.2.1, HV.out.2.2]; simp [hn], ?_, ?_⟩
      · simp [results, Try.results30, go_sem]
      · rw [HV.out.2.2]
        refine Own.mono (B := w.heap.size + 2) ?_ (by omega)
        have O2 := O1.out.to (inferInstance : Grows y1.w ((y2.andThen y3).andThen y4).w)
        repeat (first | (with_reducible exact O2) | (with_reducible refine Own.lowS ?_ (by omega) _ _))
      · exact Later.of
    · cases g4 : (ef == f)
      · have HV := Lib.hid (show heardZ f z k p s = z ∧ heardK f z k p s = k ∧ heardP f z k p s = p by rw [HV0.out.1, HV0.out.2.1, HV0.out.2.2]; simp [g1, g2, g4])
        clear HV0
        go_enter Try.func30, Try.ntmps30
        go_wp2_with (first | ((with_reducible refine wp_region_later (by kernel_rfl) (by kernel_rfl) ?_); (repeat (first | go_big_quiet_step (first | fail))); refine wpQuiet_nil ?_; rintro _ ⟨x, rfl⟩))
        refine (c_sl06CopyIn (hs.to inferInstance) HNIL.out hn (by omega)).mono ?_
        rintro _ _ ⟨a1, c1, rfl, o1, y1, rfl⟩
        rw [hn]
        have O1 := Lib.hid (o1.mono (B' := w.heap.size + 2) (by simp)); clear o1
        go_wp2_with (first | ((with_reducible refine wp_region_later (by kernel_rfl) (by kernel_rfl) ?_); (repeat (first | go_big_quiet_step (first | fail))); refine wpQuiet_nil ?_; rintro _ ⟨x, rfl⟩))
        refine (c_sFileInOk (hs.to inferInstance) hn (by omega) HS.out).mono ?_
        rintro _ _ ⟨rfl, y2, rfl⟩
        go_wp2_with (first | ((with_reducible refine wp_region_later (by kernel_rfl) (by kernel_rfl) ?_); (repeat (first | go_big_quiet_step (first | fail) | simp only [c0])); refine wpQuiet_nil ?_; rintro _ ⟨x, rfl⟩))
        refine (c_sDecodeSegment hz).mono ?_
        rintro _ _ ⟨rfl, y3, rfl⟩
        rw [HD.out.1]; simp only [tupSeg]
        go_wp2_with (first | ((with_reducible refine wp_region_later (by kernel_rfl) (by kernel_rfl) ?_); (repeat (first | go_big_quiet_step (first | fail) | simp only [g1] | simp only [g2])); refine wpQuiet_nil ?_; rintro _ ⟨x, rfl⟩))
        refine (c_sDecodeEnd hz).mono ?_
        rintro _ _ ⟨rfl, y4, rfl⟩
        rw [HD.out.2]; simp only [tupEnd]
        go_wp2_with (first | ((with_reducible refine wp_region_later (by kernel_rfl) (by kernel_rfl) ?_); (repeat (first | go_big_quiet_step (first | fail) | simp only [g1] | simp only [g2] | simp only [g4])); refine wpQuiet_nil ?_; rintro _ ⟨x, rfl⟩))
        refine bodyPost_ret (v := .agg #[.int .i64 f, .int .i64 z, .int .i64 k, .slice a1 n c1]) ?_ rfl ⟨a1, c1, by rw [HV.out.1, HV.out.2.1, HV.out.2.2]; simp [hn], ?_, ?_⟩
        · simp [results, Try.results30, go_sem]
        · rw [HV.out.2.2]
          refine Own.mono (B := w.heap.size + 2) ?_ (by omega)
          have O2 := O1.out.to (inferInstance : Grows y1.w ((y2.andThen y3).andThen y4).w)
          repeat (first | (with_reducible exact O2) | (with_reducible refine Own.lowS ?_ (by omega) _ _))
        · exact Later.of
      · cases g5 : (z == -1)
        · have HV := Lib.hid (show heardZ f z k p s = z ∧ heardK f z k p s = k ∧ heardP f z k p s = p by rw [HV0.out.1, HV0.out.2.1, HV0.out.2.2]; simp [g1, g2, g4, g5])
          clear HV0
          go_enter Try.func30, Try.ntmps30
          go_wp2_with (first | ((with_reducible refine wp_region_later (by kernel_rfl) (by kernel_rfl) ?_); (repeat (first | go_big_quiet_step (first | fail))); refine wpQuiet_nil ?_; rintro _ ⟨x, rfl⟩))
          refine (c_sl06CopyIn (hs.to inferInstance) HNIL.out hn (by omega)).mono ?_
          rintro _ _ ⟨a1, c1, rfl, o1, y1, rfl⟩
          rw [hn]
          have O1 := Lib.hid (o1.mono (B' := w.heap.size + 2) (by simp)); clear o1
          go_wp2_with (first | ((with_reducible refine wp_region_later (by kernel_rfl) (by kernel_rfl) ?_); (repeat (first | go_big_quiet_step (first | fail))); refine wpQuiet_nil ?_; rintro _ ⟨x, rfl⟩))
          refine (c_sFileInOk (hs.to inferInstance) hn (by omega) HS.out).mono ?_
          rintro _ _ ⟨rfl, y2, rfl⟩
          go_wp2_with (first | ((with_reducible refine wp_region_later (by kernel_rfl) (by kernel_rfl) ?_); (repeat (first | go_big_quiet_step (first | fail) | simp only [c0])); refine wpQuiet_nil ?_; rintro _ ⟨x, rfl⟩))
          refine (c_sDecodeSegment hz).mono ?_
          rintro _ _ ⟨rfl, y3, rfl⟩
          rw [HD.out.1]; simp only [tupSeg]
          go_wp2_with (first | ((with_reducible refine wp_region_later (by kernel_rfl) (by kernel_rfl) ?_); (repeat (first | go_big_quiet_step (first | fail) | simp only [g1] | simp only [g2])); refine wpQuiet_nil ?_; rintro _ ⟨x, rfl⟩))
          refine (c_sDecodeEnd hz).mono ?_
          rintro _ _ ⟨rfl, y4, rfl⟩
          rw [HD.out.2]; simp only [tupEnd]
          go_wp2_with (first | ((with_reducible refine wp_region_later (by kernel_rfl) (by kernel_rfl) ?_); (repeat (first | go_big_quiet_step (first | fail) | simp only [g1] | simp only [g2] | simp only [g4] | simp only [g5])); refine wpQuiet_nil ?_; rintro _ ⟨x, rfl⟩))
          refine bodyPost_ret (v := .agg #[.int .i64 f, .int .i64 z, .int .i64 k, .slice a1 n c1]) ?_ rfl ⟨a1, c1, by rw [HV.out.1, HV.out.2.1, HV.out.2.2]; simp [hn], ?_, ?_⟩
          · simp [results, Try.results30, go_sem]
          · rw [HV.out.2.2]
            refine Own.mono (B := w.heap.size + 2) ?_ (by omega)
            have O2 := O1.out.to (inferInstance : Grows y1.w ((y2.andThen y3).andThen y4).w)
            repeat (first | (with_reducible exact O2) | (with_reducible refine Own.lowS ?_ (by omega) _ _))
          · exact Later.of
        · have HV := Lib.hid (show heardZ f z k p s = ez ∧ heardK f z k p s = ek ∧ heardP f z k p s = p by rw [HV0.out.1, HV0.out.2.1, HV0.out.2.2]; simp [g1, g2, g4, g5])
          clear HV0
          go_enter Try.func30, Try.ntmps30
          go_wp2_with (first | ((with_reducible refine wp_region_later (by kernel_rfl) (by kernel_rfl) ?_); (repeat (first | go_big_quiet_step (first | fail))); refine wpQuiet_nil ?_; rintro _ ⟨x, rfl⟩))
          refine (c_sl06CopyIn (hs.to inferInstance) HNIL.out hn (by omega)).mono ?_
          rintro _ _ ⟨a1, c1, rfl, o1, y1, rfl⟩
          rw [hn]
          have O1 := Lib.hid (o1.mono (B' := w.heap.size + 2) (by simp)); clear o1
          go_wp2_with (first | ((with_reducible refine wp_region_later (by kernel_rfl) (by kernel_rfl) ?_); (repeat (first | go_big_quiet_step (first | fail))); refine wpQuiet_nil ?_; rintro _ ⟨x, rfl⟩))
          refine (c_sFileInOk (hs.to inferInstance) hn (by omega) HS.out).mono ?_
          rintro _ _ ⟨rfl, y2, rfl⟩
          go_wp2_with (first | ((with_reducible refine wp_region_later (by kernel_rfl) (by kernel_rfl) ?_); (repeat (first | go_big_quiet_step (first | fail) | simp only [c0])); refine wpQuiet_nil ?_; rintro _ ⟨x, rfl⟩))
          refine (c_sDecodeSegment hz).mono ?_
          rintro _ _ ⟨rfl, y3, rfl⟩
          rw [HD.out.1]; simp only [tupSeg]
          go_wp2_with (first | ((with_reducible refine wp_region_later (by kernel_rfl) (by kernel_rfl) ?_); (repeat (first | go_big_quiet_step (first | fail) | simp only [g1] | simp only [g2])); refine wpQuiet_nil ?_; rintro _ ⟨x, rfl⟩))
          refine (c_sDecodeEnd hz).mono ?_
          rintro _ _ ⟨rfl, y4, rfl⟩
          rw [HD.out.2]; simp only [tupEnd]
          go_wp2_with (first | ((with_reducible refine wp_region_later (by kernel_rfl) (by kernel_rfl) ?_); (repeat (first | go_big_quiet_step (first | fail) | simp only [g1] | simp only [g2] | simp only [g4] | simp only [g5])); refine wpQuiet_nil ?_; rintro _ ⟨x, rfl⟩))
          refine bodyPost_ret (v := .agg #[.int .i64 f, .int .i64 ez, .int .i64 ek, .slice a1 n c1]) ?_ rfl ⟨a1, c1, by rw [HV.out.1, HV.out.2.1, HV.out.2.2]; simp [hn], ?_, ?_⟩
          · simp [results, Try.results30, go_sem]
          · rw [HV.out.2.2]
            refine Own.mono (B := w.heap.size + 2) ?_ (by omega)
            have O2 := (show Own encStr 9 1 (w.heap.size + 2) ((((y2.andThen y3).andThen y4).set ⟨y1.w.heap.size, 1, none⟩ (.int .i64 ez)).set ⟨y1.w.heap.size, 2, none⟩ (.int .i64 ek)).w a1 c1 p from by
                have K := (Held.new y1.w [.int .i64 f, .int .i64 z, .int .i64 k, .slice a1 n c1] 32 _ rfl).to (inferInstance : Grows _ ((y2.andThen y3).andThen y4).w)
                exact (((O1.out.to (inferInstance : Grows y1.w ((y2.andThen y3).andThen y4).w)).set K (by decide) 1 (.int .i64 ez)).set (K.set 1 (.int .i64 ez)) (by decide) 2 (.int .i64 ek)))
            repeat (first | (with_reducible exact O2) | (with_reducible refine Own.lowS ?_ (by omega) _ _))
          · exact Later.of
  · have HV := Lib.hid (show heardZ f z k p s = z ∧ heardK f z k p s = k ∧ heardP f z k p s = p.set j qd by rw [HV0.out.1, HV0.out.2.1, HV0.out.2.2]; simp [g1, g2])
    clear HV0
    go_enter Try.func30, Try.ntmps30
    go_wp2_with (first | ((with_reducible refine wp_region_later (by kernel_rfl) (by kernel_rfl) ?_); (repeat (first | go_big_quiet_step (first | fail))); refine wpQuiet_nil ?_; rintro _ ⟨x, rfl⟩))
    refine (c_sl06CopyIn (hs.to inferInstance) HNIL.out hn (by omega)).mono ?_
    rintro _ _ ⟨a1, c1, rfl, o1, y1, rfl⟩
    rw [hn]
    have O1 := Lib.hid (o1.mono (B' := w.heap.size + 2) (by simp)); clear o1
    go_wp2_with (first | ((with_reducible refine wp_region_later (by kernel_rfl) (by kernel_rfl) ?_); (repeat (first | go_big_quiet_step (first | fail))); refine wpQuiet_nil ?_; rintro _ ⟨x, rfl⟩))
    refine (c_sFileInOk (hs.to inferInstance) hn (by omega) HS.out).mono ?_
    rintro _ _ ⟨rfl, y2, rfl⟩
    go_wp2_with (first | ((with_reducible refine wp_region_later (by kernel_rfl) (by kernel_rfl) ?_); (repeat (first | go_big_quiet_step (first | fail) | simp only [c0])); refine wpQuiet_nil ?_; rintro _ ⟨x, rfl⟩))
    refine (c_sDecodeSegment hz).mono ?_
    rintro _ _ ⟨rfl, y3, rfl⟩
    rw [HD.out.1]; simp only [tupSeg]
    obtain ⟨g, rfl, hB, hlt⟩ := O1.out.open (n := n) (by omega)
    have hB' : LeN (w.heap.size + 2) g := ⟨hB⟩
    have hlt' : LtN g y1.w.heap.size := ⟨hlt⟩
    have O3 := O1.out.to (inferInstance : Grows y1.w (y2.andThen y3).w)
    obtain ⟨o0, g0⟩ := O3.cells (j := j) (by omega)
    have f0 := O3.free j
    have hB2 : LeN w.heap.size g := ⟨by omega⟩
    have OP := Lib.hid (show Own encStr 9 1 (w.heap.size + 2) ((y2.andThen y3).set ⟨g, j, none⟩ (.string qd)).w (some ⟨g, 0, none⟩) c1 (p.set j qd) from (O3.put1 (j := j) (y := qd) (by omega) rfl).1)
    clear O3 O1
    go_wp2_with (first | ((with_reducible refine wp_region_later (by kernel_rfl) (by kernel_rfl) ?_); (repeat (first | go_big_quiet_step (first | fail) | simp only [g1] | simp only [g2])); refine wpQuiet_nil ?_; rintro _ ⟨x, rfl⟩))
    refine bodyPost_ret (v := .agg #[.int .i64 f, .int .i64 z, .int .i64 k, .slice (some ⟨g, 0, none⟩) n c1]) ?_ rfl ⟨(some ⟨g, 0, none⟩), c1, by rw [HV.out.1, HV.out.2.1, HV.out.2.2]; simp [hn], ?_, ?_⟩
    · simp [results, Try.results30, go_sem]
    · rw [HV.out.2.2]
      refine Own.mono (B := w.heap.size + 2) ?_ (by omega)
      have O2 := OP.out
      repeat (first | (with_reducible exact O2) | (with_reducible refine Own.lowS ?_ (by omega) _ _))
    · exact Later.of

end Go.Proofs.Ytjffbpdippbfkaa
