/- The contract of NextPart: the code's side. No condition but on lengths. -/
import Derived.Test.YtjffbpdippbfkaaEnc
import Derived.Test.YtjffbpdippbfkaaHearM
import Derived.Test.YtjffbpdippbfkaaFar
import Derived.Deep.RegionHeld3
namespace Go.Proofs.Ytjffbpdippbfkaa
set_option linter.unusedVariables false
open Go.ChangeShapes Go.WideShapes Go.ChangeAt Go.RowKit

/-- What the next part of a file leaves in the queue, its bytes, and whether there is one. -/
def nextQ (f size : Int) (q : List Int) : List Int := if fileOutOk f size q = true then q.tail else q
def nextB (f : Int) (s : ByteArray) (q : List Int) : ByteArray :=
  if fileOutOk f s.size q = true then match q with
    | [] => ⟨#[]⟩
    | v :: _ => if (v == -1) = true then encEnd f s else encSeg f v (segOf s v)
  else ⟨#[]⟩
def nextD (f size : Int) (q : List Int) : Bool := fileOutOk f size q && !q.isEmpty
def GivesNP (w : World) (f : Int) (s : ByteArray) (q : List Int) (d : Bool) (b : ByteArray) (ok : Bool) : Ending → World → Prop := fun e w' =>
  ∃ a c, e = .returned (.tuple #[.agg #[.int .i64 f, .string s, .slice a q.length c, .bool d], .string b, .bool ok]) ∧ Own encInt 3 1 w.heap.size w' a c q ∧ ∃ x : Later w, w' = x.w
theorem Sl.tail {w : World} {b off : Nat} {v : Int} {r : List Int} (h : Sl encInt w (some ⟨b, off, none⟩) (v :: r)) : Sl encInt w (some ⟨b, off + 1, none⟩) r := fun i y hy => by
  obtain ⟨b2, off2, ha, hb, hc⟩ := h (i + 1) y (by simpa using hy)
  simp only [Option.some.injEq, Addr.mk.injEq, and_true] at ha
  obtain ⟨rfl, rfl⟩ := ha
  refine ⟨b, off + 1, rfl, hb, fun j v hv => ?_⟩
  have := hc j v hv
  rw [show off + 1 + i * (encInt y).length + j = off + (i + 1) * (encInt y).length + j by rw [encInt_len]; omega]
  exact this
theorem cell_far {W : World} {b i b' j : Nat} {v : Value} (h : b ≠ b') : (W.setCell ⟨b, i, none⟩ v).cell? ⟨b', j, none⟩ = W.cell? ⟨b', j, none⟩ := World.cell?_setCell_far W ⟨b, i, none⟩ ⟨b', j, none⟩ v h
theorem segOf_le (s : ByteArray) (k : Int) : (segOf s k).size ≤ s.size := by
  unfold segOf
  split
  · rw [ByteArray.size_extract]; omega
  · exact Nat.zero_le _

set_option maxRecDepth 100000 in
set_option maxHeartbeats 2000000 in
theorem c_iNextPart {a : Option Addr} {n c : Nat} {f : Int} {s : ByteArray} {d : Bool} {q : List Int} {w : World} (hs : Sl encInt w a q) (hn : q.length = n) (hcap : n ≤ c) (hm : n ≤ 1048576) (hsz : s.size ≤ 1048576) :
    Calls Try.prog 11 #[.agg #[.int .i64 f, .string s, .slice a n c, .bool d]] w (GivesNP w f s (nextQ f s.size q) d (nextB f s q) (nextD f s.size q)) := by
  cases q1 : fileOutOk f s.size q
  · have HQ := Lib.hid (show nextQ f s.size q = q ∧ nextB f s q = ⟨#[]⟩ ∧ nextD f s.size q = false by simp [nextQ, nextB, nextD, q1])
    go_enter Try.func11, Try.ntmps11
    go_wp2_with (first | ((with_reducible refine wp_region_later (by kernel_rfl) (by kernel_rfl) ?_); (repeat (first | go_big_quiet_step (first | fail))); refine wpQuiet_nil ?_; rintro _ ⟨x, rfl⟩))
    refine (c_icloneFileOut (hs.to inferInstance) hn (by omega)).mono ?_
    rintro _ _ ⟨a1, c1, rfl, o1, y1, rfl⟩
    rw [hn]
    have O1 := Lib.hid (o1.mono (B' := w.heap.size + 2) (by simp)); clear o1
    go_wp2_with (first | ((with_reducible refine wp_region_later (by kernel_rfl) (by kernel_rfl) ?_); (repeat (first | go_big_quiet_step (first | fail))); refine wpQuiet_nil ?_; rintro _ ⟨x, rfl⟩))
    refine (c_iFileOutOk (hs.to inferInstance) hn (by omega) hsz).mono ?_
    rintro _ _ ⟨rfl, y2, rfl⟩
    go_wp2_with (first | ((with_reducible refine wp_region_later (by kernel_rfl) (by kernel_rfl) ?_); (repeat (first | go_big_quiet_step (first | fail) | simp only [q1])); refine wpQuiet_nil ?_; rintro _ ⟨x, rfl⟩))
    refine bodyPost_ret (v := .tuple #[.agg #[.int .i64 f, .string s, .slice a1 n c1, .bool d], .string ⟨#[]⟩, .bool false]) ?_ rfl ⟨a1, c1, by rw [HQ.out.1, HQ.out.2.1, HQ.out.2.2, hn], ?_, ?_⟩
    · simp [results, Try.results11, go_sem]
    · have O2 := O1.out.to (inferInstance : Grows y1.w y2.w)
      rw [HQ.out.1]
      refine Own.mono (B := w.heap.size + 2) ?_ (by omega)
      repeat (first | (with_reducible exact O2) | (with_reducible refine Own.lowS ?_ (by omega) _ _))
    · exact Later.of
  rcases q with _ | ⟨v, r⟩
  · have HQ := Lib.hid (show nextQ f s.size [] = [] ∧ nextB f s [] = ⟨#[]⟩ ∧ nextD f s.size [] = false by simp [nextQ, nextB, nextD])
    have hz : n = 0 := by simp at hn; omega
    subst hz
    go_enter Try.func11, Try.ntmps11
    go_wp2_with (first | ((with_reducible refine wp_region_later (by kernel_rfl) (by kernel_rfl) ?_); (repeat (first | go_big_quiet_step (first | fail))); refine wpQuiet_nil ?_; rintro _ ⟨x, rfl⟩))
    refine (c_icloneFileOut (hs.to inferInstance) hn (by omega)).mono ?_
    rintro _ _ ⟨a1, c1, rfl, o1, y1, rfl⟩
    have O1 := Lib.hid (o1.mono (B' := w.heap.size + 2) (by simp)); clear o1
    go_wp2_with (first | ((with_reducible refine wp_region_later (by kernel_rfl) (by kernel_rfl) ?_); (repeat (first | go_big_quiet_step (first | fail))); refine wpQuiet_nil ?_; rintro _ ⟨x, rfl⟩))
    refine (c_iFileOutOk (hs.to inferInstance) hn (by omega) hsz).mono ?_
    rintro _ _ ⟨rfl, y2, rfl⟩
    go_wp2_with (first | ((with_reducible refine wp_region_later (by kernel_rfl) (by kernel_rfl) ?_); (repeat (first | go_big_quiet_step (first | fail) | simp only [q1])); refine wpQuiet_nil ?_; rintro _ ⟨x, rfl⟩))
    refine bodyPost_ret (v := .tuple #[.agg #[.int .i64 f, .string s, .slice a1 0 c1, .bool d], .string ⟨#[]⟩, .bool false]) ?_ rfl ⟨a1, c1, by rw [HQ.out.1, HQ.out.2.1, HQ.out.2.2]; rfl, ?_, ?_⟩
    · simp [results, Try.results11, go_sem]
    · have O2 := O1.out.to (inferInstance : Grows y1.w y2.w)
      rw [HQ.out.1]
      refine Own.mono (B := w.heap.size + 2) ?_ (by omega)
      repeat (first | (with_reducible exact O2) | (with_reducible refine Own.lowS ?_ (by omega) _ _))
    · exact Later.of
  · have hn0 : r.length + 1 = n := by simpa using hn
    have hz2 : ((n : Int) == 0) = false := by simp; omega
    obtain ⟨b0, off, v', rfl, hb, hd, h0⟩ := hs.int (k := 0) (by simp)
    obtain rfl : v = v' := by have := hd.out; simp at this; exact this
    clear hd
    have h00 : ∀ (W : World) [Grows w W], W.cell? ⟨b0, off, none⟩ = some (.int .i64 v) := h0
    clear h0
    have HQ := Lib.hid (show nextQ f s.size (v :: r) = r ∧ nextB f s (v :: r) = (if (v == -1) = true then encEnd f s else encSeg f v (segOf s v)) ∧ nextD f s.size (v :: r) = true by simp [nextQ, nextB, nextD, q1])
    by_cases hc : c = 1
    · have hr : r = [] := List.length_eq_zero_iff.1 (by omega)
      subst hr
      obtain rfl : n = 1 := by omega
      subst hc
      go_enter Try.func11, Try.ntmps11
      go_wp2_with (first | ((with_reducible refine wp_region_later (by kernel_rfl) (by kernel_rfl) ?_); (repeat (first | go_big_quiet_step (first | fail))); refine wpQuiet_nil ?_; rintro _ ⟨x, rfl⟩))
      refine (c_icloneFileOut (hs.to inferInstance) hn (by omega)).mono ?_
      rintro _ _ ⟨a1, c1, rfl, o1, y1, rfl⟩
      rw [hn]
      have O1 := Lib.hid (o1.mono (B' := w.heap.size + 2) (by simp)); clear o1
      go_wp2_with (first | ((with_reducible refine wp_region_later (by kernel_rfl) (by kernel_rfl) ?_); (repeat (first | go_big_quiet_step (first | fail))); refine wpQuiet_nil ?_; rintro _ ⟨x, rfl⟩))
      refine (c_iFileOutOk (hs.to inferInstance) hn (by omega) hsz).mono ?_
      rintro _ _ ⟨rfl, y2, rfl⟩
      go_wp2_with (first | ((with_reducible refine wp_region_later (by kernel_rfl) (by kernel_rfl) ?_); (repeat (first | go_big_quiet_step (first | fail) | simp only [q1] | simp only [hz2])); refine wpQuiet_nil ?_; rintro _ ⟨x, rfl⟩))
      refine (c_cloneInt (Sl.nil (enc := encInt)) rfl (by omega)).mono ?_
      rintro _ _ ⟨a2, c2, rfl, o2, y3, rfl⟩
      have O2 := Lib.hid (o2.mono (B' := w.heap.size + 2) (LeN.out (a := w.heap.size + 2))); clear o2 O1
      clear hs h00 hb
      go_wp2_with (first | ((with_reducible refine wp_region_later (by kernel_rfl) (by kernel_rfl) ?_); (repeat (first | go_big_quiet_step (first | fail))); refine wpQuiet_nil ?_; rintro _ ⟨x, rfl⟩))
      · have K := (Held.new y1.w [.int .i64 f, .string s, .slice a1 1 c1, .bool d] 27 _ rfl).to (inferInstance : Grows _ (y2.andThen y3).w)
        have K2 : Held ((y2.andThen y3).set ⟨y1.w.heap.size, 2, none⟩ (.slice a2 0 c2)).w y1.w.heap.size [.int .i64 f, .string s, .slice a2 0 c2, .bool d] 27 := K.set 2 _
        obtain ⟨e0, e1, e2, e3, -⟩ := K2.four
        have hfar : w.heap.size + 1 ≠ y1.w.heap.size := by have := LeN.out (a := w.heap.size + 2) (b := y1.w.heap.size); omega
        have hfar2 : w.heap.size + 1 ≠ w.heap.size := by omega
        go_region_held3 (fun W : World => W.cell? ⟨y1.w.heap.size, 0, none⟩ = some (.int .i64 f) ∧ W.cell? ⟨y1.w.heap.size, 1, none⟩ = some (.string s) ∧ W.cell? ⟨y1.w.heap.size, 2, none⟩ = some (.slice a2 0 c2) ∧ W.cell? ⟨y1.w.heap.size, 3, none⟩ = some (.bool d) ∧ W.cell? ⟨w.heap.size, 0, none⟩ = some (.int .i64 f) ∧ W.cell? ⟨w.heap.size, 1, none⟩ = some (.string s)) (first | ((try dsimp only); (refine ⟨?_, ?_, ?_, ?_, ?_, ?_⟩ <;> (first | (go_simp; done) | (simp [go_sem]; done))))) (first | (go_at_call 12; refine (c_iEncodeEnd hsz).mono ?_; rintro _ _ ⟨rfl, z1, rfl⟩))
        all_goals go_wp2_with fail
        have O3 : Own encInt 3 1 (w.heap.size + 2) ((y2.andThen y3).set ⟨y1.w.heap.size, 2, none⟩ (.slice a2 0 c2)).w a2 c2 [] := O2.out.set K (by decide) 2 _
        refine bodyPost_ret (v := .tuple #[.agg #[.int .i64 f, .string s, .slice a2 0 c2, .bool d], .string (encEnd f s), .bool true]) ?_ rfl ⟨a2, c2, ?_, ?_, ?_⟩
        · simp [results, Try.results11, go_sem]
        · rw [HQ.out.1, HQ.out.2.1, HQ.out.2.2]
          (first | rw [if_pos (by assumption)] | rw [if_neg (by assumption)] | rw [if_neg (by simp_all)]); all_goals rfl
        · rw [HQ.out.1]
          refine Own.mono (B := w.heap.size + 2) ?_ (by omega)
          repeat (with_reducible refine Own.lowS ?_ (by omega) _ _)
          exact O3.to inferInstance
        · exact Later.of
      · have K := (Held.new y1.w [.int .i64 f, .string s, .slice a1 1 c1, .bool d] 27 _ rfl).to (inferInstance : Grows _ (y2.andThen y3).w)
        have K2 : Held ((y2.andThen y3).set ⟨y1.w.heap.size, 2, none⟩ (.slice a2 0 c2)).w y1.w.heap.size [.int .i64 f, .string s, .slice a2 0 c2, .bool d] 27 := K.set 2 _
        obtain ⟨e0, e1, e2, e3, -⟩ := K2.four
        have hfar : w.heap.size + 1 ≠ y1.w.heap.size := by have := LeN.out (a := w.heap.size + 2) (b := y1.w.heap.size); omega
        have hfar2 : w.heap.size + 1 ≠ w.heap.size := by omega
        go_region_held3 (fun W : World => W.cell? ⟨y1.w.heap.size, 0, none⟩ = some (.int .i64 f) ∧ W.cell? ⟨y1.w.heap.size, 1, none⟩ = some (.string s) ∧ W.cell? ⟨y1.w.heap.size, 2, none⟩ = some (.slice a2 0 c2) ∧ W.cell? ⟨y1.w.heap.size, 3, none⟩ = some (.bool d) ∧ W.cell? ⟨w.heap.size, 0, none⟩ = some (.int .i64 f) ∧ W.cell? ⟨w.heap.size, 1, none⟩ = some (.string s)) (first | ((try dsimp only); (refine ⟨?_, ?_, ?_, ?_, ?_, ?_⟩ <;> (first | (go_simp; done) | (simp [go_sem]; done))))) (first | (go_at_call 43; refine (c_iSegmentOf hsz).mono ?_; rintro _ _ ⟨rfl, z1, rfl⟩) | (go_at_call 42; refine (c_iEncodeSegment (Nat.le_trans (segOf_le s v) hsz)).mono ?_; rintro _ _ ⟨rfl, z2, rfl⟩))
        all_goals go_wp2_with fail
        have O3 : Own encInt 3 1 (w.heap.size + 2) ((y2.andThen y3).set ⟨y1.w.heap.size, 2, none⟩ (.slice a2 0 c2)).w a2 c2 [] := O2.out.set K (by decide) 2 _
        refine bodyPost_ret (v := .tuple #[.agg #[.int .i64 f, .string s, .slice a2 0 c2, .bool d], .string (encSeg f v (segOf s v)), .bool true]) ?_ rfl ⟨a2, c2, ?_, ?_, ?_⟩
        · simp [results, Try.results11, go_sem]
        · rw [HQ.out.1, HQ.out.2.1, HQ.out.2.2]
          (first | rw [if_pos (by assumption)] | rw [if_neg (by assumption)] | rw [if_neg (by simp_all)]); all_goals rfl
        · rw [HQ.out.1]
          refine Own.mono (B := w.heap.size + 2) ?_ (by omega)
          repeat (with_reducible refine Own.lowS ?_ (by omega) _ _)
          exact O3.to inferInstance
        · exact Later.of
    · have hst := hs.tail
      go_enter Try.func11, Try.ntmps11
      go_wp2_with (first | ((with_reducible refine wp_region_later (by kernel_rfl) (by kernel_rfl) ?_); (repeat (first | go_big_quiet_step (first | fail))); refine wpQuiet_nil ?_; rintro _ ⟨x, rfl⟩))
      refine (c_icloneFileOut (hs.to inferInstance) hn (by omega)).mono ?_
      rintro _ _ ⟨a1, c1, rfl, o1, y1, rfl⟩
      rw [hn]
      have O1 := Lib.hid (o1.mono (B' := w.heap.size + 2) (by simp)); clear o1
      go_wp2_with (first | ((with_reducible refine wp_region_later (by kernel_rfl) (by kernel_rfl) ?_); (repeat (first | go_big_quiet_step (first | fail))); refine wpQuiet_nil ?_; rintro _ ⟨x, rfl⟩))
      refine (c_iFileOutOk (hs.to inferInstance) hn (by omega) hsz).mono ?_
      rintro _ _ ⟨rfl, y2, rfl⟩
      go_wp2_with (first | ((with_reducible refine wp_region_later (by kernel_rfl) (by kernel_rfl) ?_); (repeat (first | go_big_quiet_step (first | fail) | simp only [q1] | simp only [hz2])); refine wpQuiet_nil ?_; rintro _ ⟨x, rfl⟩))
      refine (c_cloneInt (hst.to inferInstance) (by omega) (by omega)).mono ?_
      rintro _ _ ⟨a2, c2, rfl, o2, y3, rfl⟩
      have O2 := Lib.hid (o2.mono (B' := w.heap.size + 2) (LeN.out (a := w.heap.size + 2))); clear o2 O1
      clear hs hst h00 hb
      go_wp2_with (first | ((with_reducible refine wp_region_later (by kernel_rfl) (by kernel_rfl) ?_); (repeat (first | go_big_quiet_step (first | fail))); refine wpQuiet_nil ?_; rintro _ ⟨x, rfl⟩))
      · have K := (Held.new y1.w [.int .i64 f, .string s, .slice a1 n c1, .bool d] 27 _ rfl).to (inferInstance : Grows _ (y2.andThen y3).w)
        have K2 : Held ((y2.andThen y3).set ⟨y1.w.heap.size, 2, none⟩ (.slice a2 r.length c2)).w y1.w.heap.size [.int .i64 f, .string s, .slice a2 r.length c2, .bool d] 27 := K.set 2 _
        obtain ⟨e0, e1, e2, e3, -⟩ := K2.four
        have hfar : w.heap.size + 1 ≠ y1.w.heap.size := by have := LeN.out (a := w.heap.size + 2) (b := y1.w.heap.size); omega
        have hfar2 : w.heap.size + 1 ≠ w.heap.size := by omega
        go_region_held3 (fun W : World => W.cell? ⟨y1.w.heap.size, 0, none⟩ = some (.int .i64 f) ∧ W.cell? ⟨y1.w.heap.size, 1, none⟩ = some (.string s) ∧ W.cell? ⟨y1.w.heap.size, 2, none⟩ = some (.slice a2 r.length c2) ∧ W.cell? ⟨y1.w.heap.size, 3, none⟩ = some (.bool d) ∧ W.cell? ⟨w.heap.size, 0, none⟩ = some (.int .i64 f) ∧ W.cell? ⟨w.heap.size, 1, none⟩ = some (.string s)) (first | ((try dsimp only); (refine ⟨?_, ?_, ?_, ?_, ?_, ?_⟩ <;> (first | (go_simp; done) | (simp [go_sem]; done))))) (first | (go_at_call 12; refine (c_iEncodeEnd hsz).mono ?_; rintro _ _ ⟨rfl, z1, rfl⟩))
        all_goals go_wp2_with fail
        have O3 : Own encInt 3 1 (w.heap.size + 2) ((y2.andThen y3).set ⟨y1.w.heap.size, 2, none⟩ (.slice a2 r.length c2)).w a2 c2 r := O2.out.set K (by decide) 2 _
        refine bodyPost_ret (v := .tuple #[.agg #[.int .i64 f, .string s, .slice a2 r.length c2, .bool d], .string (encEnd f s), .bool true]) ?_ rfl ⟨a2, c2, ?_, ?_, ?_⟩
        · simp [results, Try.results11, go_sem]
        · rw [HQ.out.1, HQ.out.2.1, HQ.out.2.2]
          (first | rw [if_pos (by assumption)] | rw [if_neg (by assumption)] | rw [if_neg (by simp_all)]); all_goals rfl
        · rw [HQ.out.1]
          refine Own.mono (B := w.heap.size + 2) ?_ (by omega)
          repeat (with_reducible refine Own.lowS ?_ (by omega) _ _)
          exact O3.to inferInstance
        · exact Later.of
      · have K := (Held.new y1.w [.int .i64 f, .string s, .slice a1 n c1, .bool d] 27 _ rfl).to (inferInstance : Grows _ (y2.andThen y3).w)
        have K2 : Held ((y2.andThen y3).set ⟨y1.w.heap.size, 2, none⟩ (.slice a2 r.length c2)).w y1.w.heap.size [.int .i64 f, .string s, .slice a2 r.length c2, .bool d] 27 := K.set 2 _
        obtain ⟨e0, e1, e2, e3, -⟩ := K2.four
        have hfar : w.heap.size + 1 ≠ y1.w.heap.size := by have := LeN.out (a := w.heap.size + 2) (b := y1.w.heap.size); omega
        have hfar2 : w.heap.size + 1 ≠ w.heap.size := by omega
        go_region_held3 (fun W : World => W.cell? ⟨y1.w.heap.size, 0, none⟩ = some (.int .i64 f) ∧ W.cell? ⟨y1.w.heap.size, 1, none⟩ = some (.string s) ∧ W.cell? ⟨y1.w.heap.size, 2, none⟩ = some (.slice a2 r.length c2) ∧ W.cell? ⟨y1.w.heap.size, 3, none⟩ = some (.bool d) ∧ W.cell? ⟨w.heap.size, 0, none⟩ = some (.int .i64 f) ∧ W.cell? ⟨w.heap.size, 1, none⟩ = some (.string s)) (first | ((try dsimp only); (refine ⟨?_, ?_, ?_, ?_, ?_, ?_⟩ <;> (first | (go_simp; done) | (simp [go_sem]; done))))) (first | (go_at_call 43; refine (c_iSegmentOf hsz).mono ?_; rintro _ _ ⟨rfl, z1, rfl⟩) | (go_at_call 42; refine (c_iEncodeSegment (Nat.le_trans (segOf_le s v) hsz)).mono ?_; rintro _ _ ⟨rfl, z2, rfl⟩))
        all_goals go_wp2_with fail
        have O3 : Own encInt 3 1 (w.heap.size + 2) ((y2.andThen y3).set ⟨y1.w.heap.size, 2, none⟩ (.slice a2 r.length c2)).w a2 c2 r := O2.out.set K (by decide) 2 _
        refine bodyPost_ret (v := .tuple #[.agg #[.int .i64 f, .string s, .slice a2 r.length c2, .bool d], .string (encSeg f v (segOf s v)), .bool true]) ?_ rfl ⟨a2, c2, ?_, ?_, ?_⟩
        · simp [results, Try.results11, go_sem]
        · rw [HQ.out.1, HQ.out.2.1, HQ.out.2.2]
          (first | rw [if_pos (by assumption)] | rw [if_neg (by assumption)] | rw [if_neg (by simp_all)]); all_goals rfl
        · rw [HQ.out.1]
          refine Own.mono (B := w.heap.size + 2) ?_ (by omega)
          repeat (with_reducible refine Own.lowS ?_ (by omega) _ _)
          exact O3.to inferInstance
        · exact Later.of
end Go.Proofs.Ytjffbpdippbfkaa
