/- The contract of the reference's NextPart. No condition but on lengths. -/
import Derived.Test.YtjffbpdippbfkaaNextP
namespace Go.Proofs.Ytjffbpdippbfkaa
set_option linter.unusedVariables false
open Go.ChangeShapes Go.WideShapes Go.ChangeAt Go.RowKit

set_option maxRecDepth 100000 in
set_option maxHeartbeats 2000000 in
theorem c_sNextPart {a : Option Addr} {n c : Nat} {f : Int} {s : ByteArray} {d : Bool} {q : List Int} {w : World} (hs : Sl encInt w a q) (hnil : a = none → c = 0) (hn : q.length = n) (hcap : n ≤ c) (hm : n ≤ 1048576) (hsz : s.size ≤ 1048576) :
    Calls Try.prog 35 #[.agg #[.int .i64 f, .string s, .slice a n c, .bool d]] w (GivesNP w f s (nextQ f s.size q) d (nextB f s q) (nextD f s.size q)) := by
  have HNIL := Lib.hid hnil; clear hnil
  cases q1 : fileOutOk f s.size q
  · have HQ := Lib.hid (show nextQ f s.size q = q ∧ nextB f s q = ⟨#[]⟩ ∧ nextD f s.size q = false by simp [nextQ, nextB, nextD, q1])
    go_enter Try.func35, Try.ntmps35
    go_wp2_with (first | ((with_reducible refine wp_region_later (by kernel_rfl) (by kernel_rfl) ?_); (repeat (first | go_big_quiet_step (first | fail))); refine wpQuiet_nil ?_; rintro _ ⟨x, rfl⟩))
    refine (c_sl06CopyOut (hs.to inferInstance) HNIL.out hn (by omega)).mono ?_
    rintro _ _ ⟨a1, c1, rfl, o1, y1, rfl⟩
    rw [hn]
    have O1 := Lib.hid (o1.mono (B' := w.heap.size + 2) (by simp)); clear o1
    go_wp2_with (first | ((with_reducible refine wp_region_later (by kernel_rfl) (by kernel_rfl) ?_); (repeat (first | go_big_quiet_step (first | fail))); refine wpQuiet_nil ?_; rintro _ ⟨x, rfl⟩))
    refine (c_sFileOutOk (hs.to inferInstance) hn (by omega) hsz).mono ?_
    rintro _ _ ⟨rfl, y2, rfl⟩
    go_wp2_with (first | ((with_reducible refine wp_region_later (by kernel_rfl) (by kernel_rfl) ?_); (repeat (first | go_big_quiet_step (first | fail) | simp only [q1])); refine wpQuiet_nil ?_; rintro _ ⟨x, rfl⟩))
    refine bodyPost_ret (v := .tuple #[.agg #[.int .i64 f, .string s, .slice a1 n c1, .bool d], .string ⟨#[]⟩, .bool false]) ?_ rfl ⟨a1, c1, by rw [HQ.out.1, HQ.out.2.1, HQ.out.2.2, hn], ?_, ?_⟩
    · simp [results, Try.results35, go_sem]
    · have O2 := O1.out.to (inferInstance : Grows y1.w y2.w)
      rw [HQ.out.1]
      refine Own.mono (B := w.heap.size + 2) ?_ (by omega)
      repeat (first | (with_reducible exact O2) | (with_reducible refine Own.lowS ?_ (by omega) _ _))
    · exact Later.of
  rcases q with _ | ⟨v, r⟩
  · have HQ := Lib.hid (show nextQ f s.size [] = [] ∧ nextB f s [] = ⟨#[]⟩ ∧ nextD f s.size [] = false by simp [nextQ, nextB, nextD])
    have hz : n = 0 := by simp at hn; omega
    subst hz
    go_enter Try.func35, Try.ntmps35
    go_wp2_with (first | ((with_reducible refine wp_region_later (by kernel_rfl) (by kernel_rfl) ?_); (repeat (first | go_big_quiet_step (first | fail))); refine wpQuiet_nil ?_; rintro _ ⟨x, rfl⟩))
    refine (c_sl06CopyOut (hs.to inferInstance) HNIL.out hn (by omega)).mono ?_
    rintro _ _ ⟨a1, c1, rfl, o1, y1, rfl⟩
    skip
    have O1 := Lib.hid (o1.mono (B' := w.heap.size + 2) (by simp)); clear o1
    go_wp2_with (first | ((with_reducible refine wp_region_later (by kernel_rfl) (by kernel_rfl) ?_); (repeat (first | go_big_quiet_step (first | fail))); refine wpQuiet_nil ?_; rintro _ ⟨x, rfl⟩))
    refine (c_sFileOutOk (hs.to inferInstance) hn (by omega) hsz).mono ?_
    rintro _ _ ⟨rfl, y2, rfl⟩
    go_wp2_with (first | ((with_reducible refine wp_region_later (by kernel_rfl) (by kernel_rfl) ?_); (repeat (first | go_big_quiet_step (first | fail) | simp only [q1])); refine wpQuiet_nil ?_; rintro _ ⟨x, rfl⟩))
    refine bodyPost_ret (v := .tuple #[.agg #[.int .i64 f, .string s, .slice a1 0 c1, .bool d], .string ⟨#[]⟩, .bool false]) ?_ rfl ⟨a1, c1, by rw [HQ.out.1, HQ.out.2.1, HQ.out.2.2]; rfl, ?_, ?_⟩
    · simp [results, Try.results35, go_sem]
    · have O2 := O1.out.to (inferInstance : Grows y1.w y2.w)
      rw [HQ.out.1]
      refine Own.mono (B := w.heap.size + 2) ?_ (by omega)
      repeat (first | (with_reducible exact O2) | (with_reducible refine Own.lowS ?_ (by omega) _ _))
    · exact Later.of
  · have hn0 : r.length + 1 = n := by simpa using hn
    have hz2 : ((n : Int) == 0) = false := by simp; omega
    obtain ⟨b0, off, v', rfl, hb, hd, h0⟩ := hs.int (k := 0) (by simp)
    obtain rfl : v = v' := by have := hd.out; simp at this; exact this
    clear hd
    have h00 : ∀ (W : World) [Grows w W], W.cell? ⟨b0, off, none⟩ = some (.int .i64 v) := h0
    clear h0
    have HQ := Lib.hid (show nextQ f s.size (v :: r) = r ∧ nextB f s (v :: r) = (if (v == -1) = true then encEnd f s else encSeg f v (segOf s v)) ∧ nextD f s.size (v :: r) = true by simp [nextQ, nextB, nextD, q1])
    by_cases hc : c = 1
    · have hr : r = [] := List.length_eq_zero_iff.1 (by omega)
      subst hr
      obtain rfl : n = 1 := by omega
      subst hc
      go_enter Try.func35, Try.ntmps35
      go_wp2_with (first | ((with_reducible refine wp_region_later (by kernel_rfl) (by kernel_rfl) ?_); (repeat (first | go_big_quiet_step (first | fail))); refine wpQuiet_nil ?_; rintro _ ⟨x, rfl⟩))
      refine (c_sl06CopyOut (hs.to inferInstance) HNIL.out hn (by omega)).mono ?_
      rintro _ _ ⟨a1, c1, rfl, o1, y1, rfl⟩
      rw [hn]
      have O1 := Lib.hid (o1.mono (B' := w.heap.size + 2) (by simp)); clear o1
      go_wp2_with (first | ((with_reducible refine wp_region_later (by kernel_rfl) (by kernel_rfl) ?_); (repeat (first | go_big_quiet_step (first | fail))); refine wpQuiet_nil ?_; rintro _ ⟨x, rfl⟩))
      refine (c_sFileOutOk (hs.to inferInstance) hn (by omega) hsz).mono ?_
      rintro _ _ ⟨rfl, y2, rfl⟩
      have K := Lib.hid ((Held.new y1.w [.int .i64 f, .string s, .slice a1 1 c1, .bool d] 27 _ rfl).to (inferInstance : Grows _ (y2.w.alloc (.cells #[] 3))))
      have hgb : LeN ((w.alloc (.cells #[.int .i64 f, .string s, .slice (some ⟨b0, off, none⟩) 1 1, .bool d] 27)).alloc (.cells #[.int .i64 0, .string ⟨#[]⟩, .slice none 0 0, .bool false] 27)).heap.size y1.w.heap.size := inferInstance
      clear O1
      go_wp2_with (first | ((with_reducible refine wp_region_later (by kernel_rfl) (by kernel_rfl) ?_); (repeat (first | go_big_quiet_step (first | fail) | simp only [q1] | simp only [hz2])); refine wpQuiet_nil ?_; rintro _ ⟨x, rfl⟩) | (at_builtin; go_must (refine wpList_appS (enc := encInt) (w0 := ((w.alloc (.cells #[.int .i64 f, .string s, .slice (some ⟨b0, off, none⟩) 1 1, .bool d] 27)).alloc (.cells #[.int .i64 0, .string ⟨#[]⟩, .slice none 0 0, .bool false] 27))) (z := .int .i64 0) (size := 1) (bytes := 8) (n := 0) (l := []) (r := []) rfl (.tmp 23) (.tmp 26) rfl Try.underlying25 (by kernel_rfl) rfl (by decide) (by decide) rfl rfl (fun h => by cases h) rfl rfl (Own.emptyAt (B := ((w.alloc (.cells #[.int .i64 f, .string s, .slice (some ⟨b0, off, none⟩) 1 1, .bool d] 27)).alloc (.cells #[.int .i64 0, .string ⟨#[]⟩, .slice none 0 0, .bool false] 27)).heap.size) encInt_len LeN.out (by simp)) (Sl.nil) encInt_one (by omega) ?_; intro sa1 sc1 x1 hown1 hgr1; rw [List.nil_append] at hown1; have K1 := Held.kept (w := y2.w.alloc (.cells #[] 3)) K.out (Own.emptyAt (B := ((w.alloc (.cells #[.int .i64 f, .string s, .slice (some ⟨b0, off, none⟩) 1 1, .bool d] 27)).alloc (.cells #[.int .i64 0, .string ⟨#[]⟩, .slice none 0 0, .bool false] 27)).heap.size) encInt_len LeN.out (by simp)) (by decide) hgr1; obtain ⟨e0', e1', e2', e3', k0', k1', k2', k3'⟩ := K1.four; have hlt1 := K1.ltN; have K2 : Held (x1.set ⟨y1.w.heap.size, 2, none⟩ (.slice sa1 0 sc1)).w y1.w.heap.size [.int .i64 f, .string s, .slice sa1 0 sc1, .bool d] 27 := K1.set 2 _; have hown2 : Own encInt 3 1 ((w.alloc (.cells #[.int .i64 f, .string s, .slice (some ⟨b0, off, none⟩) 1 1, .bool d] 27)).alloc (.cells #[.int .i64 0, .string ⟨#[]⟩, .slice none 0 0, .bool false] 27)).heap.size (x1.set ⟨y1.w.heap.size, 2, none⟩ (.slice sa1 0 sc1)).w sa1 sc1 [] := hown1.set K1 (by decide) 2 _; obtain ⟨e0, e1, e2, e3, -⟩ := K2.four; have HK2 := Lib.hid K2; have HO2 := Lib.hid hown2; clear K1 K2 hown1 hown2 hgr1 K)))
      · go_region_held3 (fun W : World => W.cell? ⟨y1.w.heap.size, 0, none⟩ = some (.int .i64 f) ∧ W.cell? ⟨y1.w.heap.size, 1, none⟩ = some (.string s) ∧ W.cell? ⟨y1.w.heap.size, 2, none⟩ = some (.slice sa1 0 sc1) ∧ W.cell? ⟨y1.w.heap.size, 3, none⟩ = some (.bool d) ∧ W.cell? ⟨w.heap.size, 0, none⟩ = some (.int .i64 f) ∧ W.cell? ⟨w.heap.size, 1, none⟩ = some (.string s)) (first | ((try dsimp only); (refine ⟨?_, ?_, ?_, ?_, ?_, ?_⟩ <;> (first | (go_simp; done) | (simp [go_sem]; done))))) (first | (go_at_call 66; refine (c_sEncodeEnd hsz).mono ?_; rintro _ _ ⟨rfl, z1, rfl⟩))
        all_goals go_wp2_with fail
        refine bodyPost_ret (v := .tuple #[.agg #[.int .i64 f, .string s, .slice sa1 0 sc1, .bool d], .string (encEnd f s), .bool true]) ?_ rfl ⟨sa1, sc1, ?_, ?_, ?_⟩
        · simp [results, Try.results35, go_sem]
        · rw [HQ.out.1, HQ.out.2.1, HQ.out.2.2]
          (first | rw [if_pos (by assumption)] | rw [if_neg (by assumption)] | rw [if_neg (by simp_all)]); all_goals rfl
        · rw [HQ.out.1]
          refine Own.mono (B := w.heap.size + 2) ?_ (by omega)
          repeat (with_reducible refine Own.lowS ?_ (by omega) _ _)
          exact (HO2.out.mono (by simp)).to inferInstance
        · exact Later.of
      · go_region_held3 (fun W : World => W.cell? ⟨y1.w.heap.size, 0, none⟩ = some (.int .i64 f) ∧ W.cell? ⟨y1.w.heap.size, 1, none⟩ = some (.string s) ∧ W.cell? ⟨y1.w.heap.size, 2, none⟩ = some (.slice sa1 0 sc1) ∧ W.cell? ⟨y1.w.heap.size, 3, none⟩ = some (.bool d) ∧ W.cell? ⟨w.heap.size, 0, none⟩ = some (.int .i64 f) ∧ W.cell? ⟨w.heap.size, 1, none⟩ = some (.string s)) (first | ((try dsimp only); (refine ⟨?_, ?_, ?_, ?_, ?_, ?_⟩ <;> (first | (go_simp; done) | (simp [go_sem]; done))))) (first | (go_at_call 68; refine (c_sSegmentOf hsz).mono ?_; rintro _ _ ⟨rfl, z1, rfl⟩) | (go_at_call 67; refine (c_sEncodeSegment (Nat.le_trans (segOf_le s v) hsz)).mono ?_; rintro _ _ ⟨rfl, z2, rfl⟩))
        all_goals go_wp2_with fail
        refine bodyPost_ret (v := .tuple #[.agg #[.int .i64 f, .string s, .slice sa1 0 sc1, .bool d], .string (encSeg f v (segOf s v)), .bool true]) ?_ rfl ⟨sa1, sc1, ?_, ?_, ?_⟩
        · simp [results, Try.results35, go_sem]
        · rw [HQ.out.1, HQ.out.2.1, HQ.out.2.2]
          (first | rw [if_pos (by assumption)] | rw [if_neg (by assumption)] | rw [if_neg (by simp_all)]); all_goals rfl
        · rw [HQ.out.1]
          refine Own.mono (B := w.heap.size + 2) ?_ (by omega)
          repeat (with_reducible refine Own.lowS ?_ (by omega) _ _)
          exact (HO2.out.mono (by simp)).to inferInstance
        · exact Later.of
    · have hst := hs.tail
      go_enter Try.func35, Try.ntmps35
      go_wp2_with (first | ((with_reducible refine wp_region_later (by kernel_rfl) (by kernel_rfl) ?_); (repeat (first | go_big_quiet_step (first | fail))); refine wpQuiet_nil ?_; rintro _ ⟨x, rfl⟩))
      refine (c_sl06CopyOut (hs.to inferInstance) HNIL.out hn (by omega)).mono ?_
      rintro _ _ ⟨a1, c1, rfl, o1, y1, rfl⟩
      rw [hn]
      have O1 := Lib.hid (o1.mono (B' := w.heap.size + 2) (by simp)); clear o1
      go_wp2_with (first | ((with_reducible refine wp_region_later (by kernel_rfl) (by kernel_rfl) ?_); (repeat (first | go_big_quiet_step (first | fail))); refine wpQuiet_nil ?_; rintro _ ⟨x, rfl⟩))
      refine (c_sFileOutOk (hs.to inferInstance) hn (by omega) hsz).mono ?_
      rintro _ _ ⟨rfl, y2, rfl⟩
      have K := Lib.hid ((Held.new y1.w [.int .i64 f, .string s, .slice a1 n c1, .bool d] 27 _ rfl).to (inferInstance : Grows _ (y2.w.alloc (.cells #[] 3))))
      have hgb : LeN ((w.alloc (.cells #[.int .i64 f, .string s, .slice (some ⟨b0, off, none⟩) n c, .bool d] 27)).alloc (.cells #[.int .i64 0, .string ⟨#[]⟩, .slice none 0 0, .bool false] 27)).heap.size y1.w.heap.size := inferInstance
      clear O1
      go_wp2_with (first | ((with_reducible refine wp_region_later (by kernel_rfl) (by kernel_rfl) ?_); (repeat (first | go_big_quiet_step (first | fail) | simp only [q1] | simp only [hz2])); refine wpQuiet_nil ?_; rintro _ ⟨x, rfl⟩) | (at_builtin; go_must (refine wpList_appS (enc := encInt) (w0 := ((w.alloc (.cells #[.int .i64 f, .string s, .slice (some ⟨b0, off, none⟩) n c, .bool d] 27)).alloc (.cells #[.int .i64 0, .string ⟨#[]⟩, .slice none 0 0, .bool false] 27))) (z := .int .i64 0) (size := 1) (bytes := 8) (n := 0) (l := []) (r := r) rfl (.tmp 23) (.tmp 26) rfl Try.underlying25 (by kernel_rfl) rfl (by decide) (by decide) rfl rfl (fun h => by cases h) rfl (by omega) (Own.emptyAt encInt_len LeN.out (by simp)) (hst.to inferInstance) encInt_one (by omega) ?_; intro sa1 sc1 x1 hown1 hgr1; rw [List.nil_append] at hown1; have K1 := Held.kept (w := y2.w.alloc (.cells #[] 3)) K.out (Own.emptyAt (B := ((w.alloc (.cells #[.int .i64 f, .string s, .slice (some ⟨b0, off, none⟩) n c, .bool d] 27)).alloc (.cells #[.int .i64 0, .string ⟨#[]⟩, .slice none 0 0, .bool false] 27)).heap.size) encInt_len LeN.out (by simp)) (by decide) hgr1; obtain ⟨e0', e1', e2', e3', k0', k1', k2', k3'⟩ := K1.four; have hlt1 := K1.ltN; have K2 : Held (x1.set ⟨y1.w.heap.size, 2, none⟩ (.slice sa1 (n - 1) sc1)).w y1.w.heap.size [.int .i64 f, .string s, .slice sa1 (n - 1) sc1, .bool d] 27 := K1.set 2 _; have hown2 : Own encInt 3 1 ((w.alloc (.cells #[.int .i64 f, .string s, .slice (some ⟨b0, off, none⟩) n c, .bool d] 27)).alloc (.cells #[.int .i64 0, .string ⟨#[]⟩, .slice none 0 0, .bool false] 27)).heap.size (x1.set ⟨y1.w.heap.size, 2, none⟩ (.slice sa1 (n - 1) sc1)).w sa1 sc1 r := hown1.set K1 (by decide) 2 _; obtain ⟨e0, e1, e2, e3, -⟩ := K2.four; have HK2 := Lib.hid K2; have HO2 := Lib.hid hown2; clear K1 K2 hown1 hown2 hgr1 K)))
      · go_region_held3 (fun W : World => W.cell? ⟨y1.w.heap.size, 0, none⟩ = some (.int .i64 f) ∧ W.cell? ⟨y1.w.heap.size, 1, none⟩ = some (.string s) ∧ W.cell? ⟨y1.w.heap.size, 2, none⟩ = some (.slice sa1 (n - 1) sc1) ∧ W.cell? ⟨y1.w.heap.size, 3, none⟩ = some (.bool d) ∧ W.cell? ⟨w.heap.size, 0, none⟩ = some (.int .i64 f) ∧ W.cell? ⟨w.heap.size, 1, none⟩ = some (.string s)) (first | ((try dsimp only); (refine ⟨?_, ?_, ?_, ?_, ?_, ?_⟩ <;> (first | (go_simp; done) | (simp [go_sem]; done))))) (first | (go_at_call 66; refine (c_sEncodeEnd hsz).mono ?_; rintro _ _ ⟨rfl, z1, rfl⟩))
        all_goals go_wp2_with fail
        refine bodyPost_ret (v := .tuple #[.agg #[.int .i64 f, .string s, .slice sa1 (n - 1) sc1, .bool d], .string (encEnd f s), .bool true]) ?_ rfl ⟨sa1, sc1, ?_, ?_, ?_⟩
        · simp [results, Try.results35, go_sem]
        · rw [HQ.out.1, HQ.out.2.1, HQ.out.2.2]
          (first | rw [if_pos (by assumption)] | rw [if_neg (by assumption)] | rw [if_neg (by simp_all)]); all_goals (rw [show n - 1 = r.length by omega])
        · rw [HQ.out.1]
          refine Own.mono (B := w.heap.size + 2) ?_ (by omega)
          repeat (with_reducible refine Own.lowS ?_ (by omega) _ _)
          exact (HO2.out.mono (by simp)).to inferInstance
        · exact Later.of
      · go_region_held3 (fun W : World => W.cell? ⟨y1.w.heap.size, 0, none⟩ = some (.int .i64 f) ∧ W.cell? ⟨y1.w.heap.size, 1, none⟩ = some (.string s) ∧ W.cell? ⟨y1.w.heap.size, 2, none⟩ = some (.slice sa1 (n - 1) sc1) ∧ W.cell? ⟨y1.w.heap.size, 3, none⟩ = some (.bool d) ∧ W.cell? ⟨w.heap.size, 0, none⟩ = some (.int .i64 f) ∧ W.cell? ⟨w.heap.size, 1, none⟩ = some (.string s)) (first | ((try dsimp only); (refine ⟨?_, ?_, ?_, ?_, ?_, ?_⟩ <;> (first | (go_simp; done) | (simp [go_sem]; done))))) (first | (go_at_call 68; refine (c_sSegmentOf hsz).mono ?_; rintro _ _ ⟨rfl, z1, rfl⟩) | (go_at_call 67; refine (c_sEncodeSegment (Nat.le_trans (segOf_le s v) hsz)).mono ?_; rintro _ _ ⟨rfl, z2, rfl⟩))
        all_goals go_wp2_with fail
        refine bodyPost_ret (v := .tuple #[.agg #[.int .i64 f, .string s, .slice sa1 (n - 1) sc1, .bool d], .string (encSeg f v (segOf s v)), .bool true]) ?_ rfl ⟨sa1, sc1, ?_, ?_, ?_⟩
        · simp [results, Try.results35, go_sem]
        · rw [HQ.out.1, HQ.out.2.1, HQ.out.2.2]
          (first | rw [if_pos (by assumption)] | rw [if_neg (by assumption)] | rw [if_neg (by simp_all)]); all_goals (rw [show n - 1 = r.length by omega])
        · rw [HQ.out.1]
          refine Own.mono (B := w.heap.size + 2) ?_ (by omega)
          repeat (with_reducible refine Own.lowS ?_ (by omega) _ _)
          exact (HO2.out.mono (by simp)).to inferInstance
        · exact Later.of

end Go.Proofs.Ytjffbpdippbfkaa
