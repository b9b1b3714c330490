/- The contracts of HearMissing, and of the copies of a sender of a file. No condition but on lengths. -/
import Derived.Test.YtjffbpdippbfkaaFileO
namespace Go.Proofs.Ytjffbpdippbfkaa
set_option linter.unusedVariables false
open Go.ChangeShapes Go.WideShapes Go.ChangeAt Go.RowKit

theorem c_icloneFileOut {a : Option Addr} {n c : Nat} {f : Int} {s : ByteArray} {d : Bool} {q : List Int} {w : World} (hs : Sl encInt w a q) (hn : q.length = n) (hm : n ≤ 1048577) :
    Calls Try.prog 40 #[.agg #[.int .i64 f, .string s, .slice a n c, .bool d]] w (GivesFO w f s q d) := by
  go_enter Try.func40, Try.ntmps40
  go_wp2_with (first | ((with_reducible refine wp_region_later (by kernel_rfl) (by kernel_rfl) ?_); (repeat (first | go_big_quiet_step (first | fail))); refine wpQuiet_nil ?_; rintro _ ⟨x, rfl⟩))
  refine (c_cloneInt (hs.to inferInstance) hn (by omega)).mono ?_
  rintro _ _ ⟨a1, c1, rfl, o1, y1, rfl⟩
  have O1 := Lib.hid (o1.mono (B' := w.heap.size + 2) (by simp)); clear o1
  go_wp2_with (first | ((with_reducible refine wp_region_later (by kernel_rfl) (by kernel_rfl) ?_); (repeat (first | go_big_quiet_step (first | fail))); refine wpQuiet_nil ?_; rintro _ ⟨x, rfl⟩))
  refine bodyPost_ret (v := .agg #[.int .i64 f, .string s, .slice a1 n c1, .bool d]) ?_ rfl ⟨a1, c1, by rw [hn], ?_, ?_⟩
  · simp [results, Try.results40, go_sem]
  · have O2 := O1.out
    refine Own.mono (B := w.heap.size + 2) ?_ (by omega)
    repeat (first | (with_reducible exact O2) | (with_reducible refine Own.lowS ?_ (by omega) _ _))
  · exact Later.of

theorem c_sl06CopyOut {a : Option Addr} {n c : Nat} {f : Int} {s : ByteArray} {d : Bool} {q : List Int} {w : World} (hs : Sl encInt w a q) (hnil : a = none → c = 0) (hn : q.length = n) (hm : n ≤ 1048577) :
    Calls Try.prog 52 #[.agg #[.int .i64 f, .string s, .slice a n c, .bool d]] w (GivesFO w f s q d) := by
  have HNIL := Lib.hid hnil; clear hnil
  go_enter Try.func52, Try.ntmps52
  go_wp2_with (first | ((with_reducible refine wp_region_later (by kernel_rfl) (by kernel_rfl) ?_); (repeat (first | go_big_quiet_step (first | fail))); refine wpQuiet_nil ?_; rintro _ ⟨x, rfl⟩) | (at_builtin; refine wpList_appS (enc := encInt) (w0 := (w.alloc (.cells #[.int .i64 f, .string s, .slice a n c, .bool d] 27)).alloc (.cells #[.int .i64 0, .string ⟨#[]⟩, .slice none 0 0, .bool false] 27)) (z := .int .i64 0) (size := 1) (bytes := 8) (n := 0) (l := []) rfl (.tmp 3) (.tmp 5) rfl Try.underlying25 (by kernel_rfl) rfl (by decide) (by decide) rfl rfl HNIL.out rfl hn (Own.emptyAt encInt_len LeN.out (by simp)) (hs.to inferInstance) encInt_one (by omega) ?_; intro sa1 sc1 x1 hown1 hgr1; rw [List.nil_append] at hown1; have O1 := Lib.hid (hown1.mono (B' := w.heap.size + 2) (by simp)); clear hown1 hgr1))
  refine bodyPost_ret (v := .agg #[.int .i64 f, .string s, .slice sa1 n sc1, .bool d]) ?_ rfl ⟨sa1, sc1, by rw [hn], ?_, ?_⟩
  · simp [results, Try.results52, go_sem]
  · have O2 := O1.out
    refine Own.mono (B := w.heap.size + 2) ?_ (by omega)
    repeat (first | (with_reducible exact O2) | (with_reducible refine Own.lowS ?_ (by omega) _ _))
  · exact Later.of

/-- Those of a list that are numbers of segments. -/
def segsOf (m : Int) (l : List Int) : List Int := l.filter (fun x => inB x 0 (m - 1))
def heardQ (f : Int) (size : Int) (q : List Int) (file : Int) (l : List Int) : List Int :=
  if (fileOutOk f size q && (file == f)) = true then
    if l.length = 0 then [] else if fileOutOk f size (q ++ segsOf (countSeg size) l ++ [-1]) = true then q ++ segsOf (countSeg size) l ++ [-1] else q
  else q
def heardD (f : Int) (size : Int) (q : List Int) (d : Bool) (file : Int) (l : List Int) : Bool :=
  if (fileOutOk f size q && (file == f)) = true then if l.length = 0 then true else d else d

theorem heard_no {f size file : Int} {q l : List Int} {d : Bool} (q1 : fileOutOk f size q = true) (q2 : (file == f) = true) (hl : l ≠ []) (q5 : fileOutOk f size (q ++ segsOf (countSeg size) l ++ [-1]) = false) : heardQ f size q file l = q ∧ heardD f size q d file l = d := by
  have h : ¬ l.length = 0 := fun e => hl (List.length_eq_zero_iff.1 e)
  unfold heardQ heardD
  rw [q1, q2, q5]
  simp only [Bool.and_self, if_true, if_neg h, Bool.false_eq_true, if_false]
  exact ⟨trivial, trivial⟩
theorem heard_yes {f size file : Int} {q l : List Int} {d : Bool} (q1 : fileOutOk f size q = true) (q2 : (file == f) = true) (hl : l ≠ []) (q5 : fileOutOk f size (q ++ segsOf (countSeg size) l ++ [-1]) = true) : heardQ f size q file l = q ++ segsOf (countSeg size) l ++ [-1] ∧ heardD f size q d file l = d := by
  have h : ¬ l.length = 0 := fun e => hl (List.length_eq_zero_iff.1 e)
  unfold heardQ heardD
  rw [q1, q2, q5]
  simp only [Bool.and_self, if_true, if_neg h]
  exact ⟨trivial, trivial⟩

set_option maxRecDepth 100000 in
set_option maxHeartbeats 2000000 in
theorem c_iHearMissing {a b : Option Addr} {n n2 c c2 : Nat} {f file : Int} {s : ByteArray} {d : Bool} {q l : List Int} {w : World} (hs : Sl encInt w a q) (hs2 : Sl encInt w b l) (hn : q.length = n) (hn2 : l.length = n2) (hm : n ≤ 1048576) (hm2 : n2 ≤ 1048576) (hsz : s.size ≤ 1048576) :
    Calls Try.prog 14 #[.agg #[.int .i64 f, .string s, .slice a n c, .bool d], .int .i64 file, .slice b n2 c2] w (GivesFO w f s (heardQ f s.size q file l) (heardD f s.size q d file l)) := by
  go_enter Try.func14, Try.ntmps14
  go_wp2_with (first | ((with_reducible refine wp_region_later (by kernel_rfl) (by kernel_rfl) ?_); (repeat (first | go_big_quiet_step (first | fail))); refine wpQuiet_nil ?_; rintro _ ⟨x, rfl⟩))
  refine (c_icloneFileOut (hs.to inferInstance) hn (by omega)).mono ?_
  rintro _ _ ⟨a1, c1, rfl, o1, y1, rfl⟩
  rw [hn]
  have O1 := Lib.hid (o1.mono (B' := w.heap.size + 2) (by simp)); clear o1
  go_wp2_with (first | ((with_reducible refine wp_region_later (by kernel_rfl) (by kernel_rfl) ?_); (repeat (first | go_big_quiet_step (first | fail))); refine wpQuiet_nil ?_; rintro _ ⟨x, rfl⟩))
  refine (c_iFileOutOk (hs.to inferInstance) hn (by omega) hsz).mono ?_
  rintro _ _ ⟨rfl, y2, rfl⟩
  cases q1 : fileOutOk f s.size q
  · have HQ := Lib.hid (show heardQ f s.size q file l = q ∧ heardD f s.size q d file l = d by simp [heardQ, heardD, q1])
    go_wp2_with (first | ((with_reducible refine wp_region_later (by kernel_rfl) (by kernel_rfl) ?_); (repeat (first | go_big_quiet_step (first | fail) | simp only [q1])); refine wpQuiet_nil ?_; rintro _ ⟨x, rfl⟩))
    refine bodyPost_ret (v := .agg #[.int .i64 f, .string s, .slice a1 n c1, .bool d]) ?_ rfl ⟨a1, c1, by rw [HQ.out.1, HQ.out.2, hn], ?_, ?_⟩
    · simp [results, Try.results14, go_sem]
    · have O2 := O1.out.to (inferInstance : Grows y1.w y2.w)
      rw [HQ.out.1]
      refine Own.mono (B := w.heap.size + 2) ?_ (by omega)
      repeat (first | (with_reducible exact O2) | (with_reducible refine Own.lowS ?_ (by omega) _ _))
    · exact Later.of
  · cases q2 : (file == f)
    · have HQ := Lib.hid (show heardQ f s.size q file l = q ∧ heardD f s.size q d file l = d by simp [heardQ, heardD, q1, q2])
      have q3 : (file != f) = true := by simp [bne, q2]
      go_wp2_with (first | ((with_reducible refine wp_region_later (by kernel_rfl) (by kernel_rfl) ?_); (repeat (first | go_big_quiet_step (first | fail) | simp only [q1] | simp only [q3])); refine wpQuiet_nil ?_; rintro _ ⟨x, rfl⟩))
      refine bodyPost_ret (v := .agg #[.int .i64 f, .string s, .slice a1 n c1, .bool d]) ?_ rfl ⟨a1, c1, by rw [HQ.out.1, HQ.out.2, hn], ?_, ?_⟩
      · simp [results, Try.results14, go_sem]
      · have O2 := O1.out.to (inferInstance : Grows y1.w y2.w)
        rw [HQ.out.1]
        refine Own.mono (B := w.heap.size + 2) ?_ (by omega)
        repeat (first | (with_reducible exact O2) | (with_reducible refine Own.lowS ?_ (by omega) _ _))
      · exact Later.of
    · have q3 : (file != f) = false := by simp [bne, q2]
      by_cases hz : n2 = 0
      · have HQ := Lib.hid (show heardQ f s.size q file l = [] ∧ heardD f s.size q d file l = true by simp [heardQ, heardD, q1, q2, hn2, hz])
        have hz2 : ((n2 : Int) == 0) = true := by simp [hz]
        have HZ := Lib.hid hz; clear hz
        go_wp2_with (first | ((with_reducible refine wp_region_later (by kernel_rfl) (by kernel_rfl) ?_); (repeat (first | go_big_quiet_step (first | fail) | simp only [q1] | simp only [q3] | simp only [hz2])); refine wpQuiet_nil ?_; rintro _ ⟨x, rfl⟩))
        refine bodyPost_ret (v := .agg #[.int .i64 f, .string s, .slice none 0 0, .bool true]) ?_ rfl ⟨none, 0, by rw [HQ.out.1, HQ.out.2]; rfl, ?_, ?_⟩
        · simp [results, Try.results14, go_sem]
        · rw [HQ.out.1]; exact Own.nil encInt_len
        · exact Later.of
      · have hz2 : ((n2 : Int) == 0) = false := by simp; omega
        have hcs := countSeg_bd s.size
        have hl0 : l ≠ [] := by rintro rfl; simp at hn2; omega
        have LT := Held.new y1.w [.int .i64 f, .string s, .slice a1 n c1, .bool d] 27 y1.w.heap.size rfl
        have HQ := Lib.hid (LT.to (inferInstance : Grows _ y2.w))
        have hown0 := Lib.hid (O1.out.to (inferInstance : Grows y1.w y2.w))
        clear LT O1
        have hgb : LeN ((w.alloc (.cells #[.int .i64 f, .string s, .slice a n c, .bool d] 27)).alloc (.cells #[.int .i64 0, .string ⟨#[]⟩, .slice none 0 0, .bool false] 27)).heap.size y1.w.heap.size := inferInstance
        obtain ⟨gb, hge⟩ : ∃ g, y1.w.heap.size = g := ⟨_, rfl⟩
        obtain ⟨Y, hY⟩ := Later.of (w := (w.alloc (.cells #[.int .i64 f, .string s, .slice a n c, .bool d] 27)).alloc (.cells #[.int .i64 0, .string ⟨#[]⟩, .slice none 0 0, .bool false] 27)) (W := y2.w)
        rw [hge] at HQ hgb
        rw [hY] at HQ hown0 ⊢
        simp only [hge]
        have hown1 := Lib.hid (hown0.out.mono (B' := ((w.alloc (.cells #[.int .i64 f, .string s, .slice a n c, .bool d] 27)).alloc (.cells #[.int .i64 0, .string ⟨#[]⟩, .slice none 0 0, .bool false] 27)).heap.size) (by simp))
        clear hown0 hY hge y1 y2
        go_wp2_with (first | ((with_reducible refine wp_region_later (by kernel_rfl) (by kernel_rfl) ?_); (repeat (first | go_big_quiet_step (first | fail) | simp only [q1] | simp only [q3] | simp only [hz2])); refine wpQuiet_nil ?_; rintro _ ⟨x, rfl⟩))
        go_loopw [30] (fun v wr => ∃ (k m : Nat) (acc : List Int) (sa : Option Addr) (sc : Nat), v = .int .i64 k ∧ k ≤ n2 ∧ acc.length = m ∧ m ≤ n + k ∧ Hid (acc ++ segsOf (countSeg s.size) (l.drop k) = q ++ segsOf (countSeg s.size) l) ∧ Hid (Held wr gb [.int .i64 f, .string s, .slice sa m sc, .bool d] 27) ∧ Hid (Own encInt 3 1 ((w.alloc (.cells #[.int .i64 f, .string s, .slice a n c, .bool d] 27)).alloc (.cells #[.int .i64 0, .string ⟨#[]⟩, .slice none 0 0, .bool false] 27)).heap.size wr sa sc acc) ∧ ∃ y : Later ((w.alloc (.cells #[.int .i64 f, .string s, .slice a n c, .bool d] 27)).alloc (.cells #[.int .i64 0, .string ⟨#[]⟩, .slice none 0 0, .bool false] 27)), wr = y.w) (fun v _ => (n2 - intOf v).toNat)
        case atStart => exact ⟨0, n, q, a1, c1, rfl, by omega, hn, by omega, rfl, HQ, hown1, Later.of⟩
        case round =>
          obtain ⟨k, m, acc, sa, sc, rfl, hk, hacc, hmk, hf, HQ', HO', y, rfl⟩ := hrel
          clear HQ hown1
          obtain ⟨e0, e1, e2, e3, k0, k1, k2, k3⟩ := HQ'.out.four
          have hlt := HQ'.out.ltN
          by_cases h : k < n2
          · obtain ⟨b1, off, v, rfl, hb, hd, h0⟩ := hs2.int (show k < l.length by omega)
            cases cc : inB v 0 (countSeg s.size - 1)
            · go_wp2_with (first | ((with_reducible refine wp_region_later (by kernel_rfl) (by kernel_rfl) ?_); (repeat (first | go_big_quiet_step (first | (go_at_call 39; exact Gives.quiet (c_iCountSegments)) | (go_at_call 44; exact Gives.quiet (c_ibetween))) | simp only [cc])); refine wpQuiet_nil ?_; rintro _ ⟨x, rfl⟩) | (go_at_call 39; refine (c_iCountSegments).mono ?_; rintro _ _ ⟨rfl, x, rfl⟩) | (go_at_call 44; refine (c_ibetween).mono ?_; rintro _ _ ⟨rfl, x, rfl⟩))
              go_roundw
              case rel => exact ⟨k + 1, m, acc, sa, sc, by go_num, by omega, hacc, by omega, by have := hf.out; rw [hd.out, segsOf, List.filter_cons_of_neg (by rw [cc]; simp)] at this; exact this, HQ'.out.to inferInstance, HO'.out.to inferInstance, Later.of⟩
              case measure => simp [intOf]; omega
            · have hown := HO'.out
              go_wp2_with (first | ((with_reducible refine wp_region_later (by kernel_rfl) (by kernel_rfl) ?_); (repeat (first | go_big_quiet_step (first | (go_at_call 39; exact Gives.quiet (c_iCountSegments)) | (go_at_call 44; exact Gives.quiet (c_ibetween))) | simp only [cc])); refine wpQuiet_nil ?_; rintro _ ⟨x, rfl⟩) | (go_at_call 39; refine (c_iCountSegments).mono ?_; rintro _ _ ⟨rfl, x, rfl⟩) | (go_at_call 44; refine (c_ibetween).mono ?_; rintro _ _ ⟨rfl, x, rfl⟩) | ((at_builtin; refine wpList_app1 (enc := encInt) (w0 := _) (z := .int .i64 0) (size := 1) (bytes := 8) v rfl (.tmp 42) (.tmp 44) rfl Try.underlying25 (by kernel_rfl) rfl (by decide) (by decide) rfl rfl hacc (Own.to hown inferInstance) rfl (encInt_one _) (by omega) ?_; intro sa1 sc1 x1 hown1 hgr1); have HQ1 := (HQ'.out.to inferInstance).kept (Own.to hown inferInstance) (by decide) hgr1; obtain ⟨e0', e1', e2', e3', k0', k1', k2', k3'⟩ := HQ1.four; have hlt1 := HQ1.ltN; have HH1 := Lib.hid HQ1; have HOW1 := Lib.hid hown1; clear HQ1 hown1 hgr1))
              go_roundw
              case rel => exact ⟨k + 1, m + 1, acc ++ [v], sa1, sc1, by go_num, by omega, by simp [hacc], by omega, by have := hf.out; rw [hd.out, segsOf, List.filter_cons_of_pos (by rw [cc])] at this; simpa [Hid, segsOf] using this, HH1.out.set 2 _, HOW1.out.set HH1.out (by decide) 2 _, Later.of⟩
              case measure => simp [intOf]; omega
          · have hf' := hf.out
            rw [List.drop_of_length_le (by omega), segsOf, List.filter_nil, List.append_nil] at hf'
            have hown := HO'.out
            have HF := Lib.hid hf'; clear hf hf'
            go_wp2_with (first | ((with_reducible refine wp_region_later (by kernel_rfl) (by kernel_rfl) ?_); (repeat (first | go_big_quiet_step (first | fail))); refine wpQuiet_nil ?_; rintro _ ⟨x, rfl⟩) | ((at_builtin; refine wpList_app1 (enc := encInt) (w0 := _) (z := .int .i64 0) (size := 1) (bytes := 8) (-1 : Int) rfl (.tmp 49) (.tmp 50) rfl Try.underlying25 (by kernel_rfl) rfl (by decide) (by decide) rfl rfl hacc (Own.to hown inferInstance) rfl (encInt_one _) (by omega) ?_; intro sa1 sc1 x1 hown1 hgr1); have HQ1 := (HQ'.out.to inferInstance).kept (Own.to hown inferInstance) (by decide) hgr1; obtain ⟨e0', e1', e2', e3', k0', k1', k2', k3'⟩ := HQ1.four; have hlt1 := HQ1.ltN; have HQ2 : Held (x1.set ⟨gb, 2, none⟩ (.slice sa1 (m + 1) sc1)).w gb [.int .i64 f, .string s, .slice sa1 (m + 1) sc1, .bool d] 27 := HQ1.set 2 _; have HO2 : Own encInt 3 1 ((w.alloc (.cells #[.int .i64 f, .string s, .slice a n c, .bool d] 27)).alloc (.cells #[.int .i64 0, .string ⟨#[]⟩, .slice none 0 0, .bool false] 27)).heap.size (x1.set ⟨gb, 2, none⟩ (.slice sa1 (m + 1) sc1)).w sa1 sc1 (acc ++ [-1]) := hown1.set HQ1 (by decide) 2 _; obtain ⟨i0, i1, i2, i3, j0, j1, j2, j3⟩ := HQ2.four; have HH1 := Lib.hid HQ1; have HH2 := Lib.hid HQ2; have HOW2 := Lib.hid HO2; clear HQ1 HQ2 HO2 hown1 hgr1))
            have hl1 : (acc ++ [-1]).length = m + 1 := by simp [hacc]
            refine (c_iFileOutOk HOW2.out.sl hl1 (by omega) hsz).mono ?_
            rintro _ _ ⟨rfl, y5, rfl⟩
            have h5 := HOW2.out.to (inferInstance : Grows _ y5.w)
            have h6 := HH2.out.to (inferInstance : Grows _ y5.w)
            obtain ⟨Z, hZ⟩ := Later.of (w := ((w.alloc (.cells #[.int .i64 f, .string s, .slice a n c, .bool d] 27)).alloc (.cells #[.int .i64 0, .string ⟨#[]⟩, .slice none 0 0, .bool false] 27))) (W := y5.w)
            rw [hZ] at h5 h6 ⊢
            clear hZ y5 HOW2 HH2 HH1 HQ' HO' hown e0 e1 e2 e3 k0 k1 k2 k3 e0' e1' e2' e3' k0' k1' k2' k3' i0 i1 i2 i3 j0 j1 j2 j3 hlt hlt1
            obtain ⟨e0, e1, e2, e3, k0, k1, k2, k3⟩ := h6.four
            have hlt := h6.ltN
            have H5 := Lib.hid (h5.mono (B' := w.heap.size + 2) (by simp)); clear h5 h6
            rw [HF.out] at H5 ⊢
            cases q5 : fileOutOk f s.size (q ++ segsOf (countSeg s.size) l ++ [-1])
            · have HQ := Lib.hid (heard_no (d := d) q1 q2 hl0 q5)
              go_wp2_with (first | ((with_reducible refine wp_region_later (by kernel_rfl) (by kernel_rfl) ?_); (repeat (first | go_big_quiet_step (first | fail) | simp only [q5])); refine wpQuiet_nil ?_; rintro _ ⟨x, rfl⟩))
              refine (c_icloneFileOut (hs.to inferInstance) hn (by omega)).mono ?_
              rintro _ _ ⟨a9, c9, rfl, o9, y9, rfl⟩
              rw [hn]
              have O1 := Lib.hid (o9.mono (B' := w.heap.size + 2) (LeN.out (a := w.heap.size + 2))); clear o9
              go_wp2_with (first | ((with_reducible refine wp_region_later (by kernel_rfl) (by kernel_rfl) ?_); (repeat (first | go_big_quiet_step (first | fail))); refine wpQuiet_nil ?_; rintro _ ⟨x, rfl⟩))
              refine bodyPost_ret (v := .agg #[.int .i64 f, .string s, .slice a9 n c9, .bool d]) ?_ rfl ⟨a9, c9, by rw [HQ.out.1, HQ.out.2, hn], ?_, ?_⟩
              · simp [results, Try.results14, go_sem]
              · have O2 : Own encInt 3 1 (w.heap.size + 2) (Z.andThen y9).w a9 c9 q := O1.out
                rw [HQ.out.1]
                refine Own.mono (B := w.heap.size + 2) ?_ (by omega)
                repeat (first | (with_reducible exact O2) | (with_reducible refine Own.lowS ?_ (by omega) _ _))
              · exact Later.of
            · have HQ := Lib.hid (heard_yes (d := d) q1 q2 hl0 q5)
              rw [HF.out] at hl1
              go_wp2_with (first | ((with_reducible refine wp_region_later (by kernel_rfl) (by kernel_rfl) ?_); (repeat (first | go_big_quiet_step (first | fail) | simp only [q5])); refine wpQuiet_nil ?_; rintro _ ⟨x, rfl⟩))
              refine bodyPost_ret (v := .agg #[.int .i64 f, .string s, .slice sa1 (m + 1) sc1, .bool d]) ?_ rfl ⟨sa1, sc1, by rw [HQ.out.1, HQ.out.2, hl1], ?_, ?_⟩
              · simp [results, Try.results14, go_sem]
              · have O2 := H5.out
                rw [HQ.out.1]
                refine Own.mono (B := w.heap.size + 2) ?_ (by omega)
                repeat (first | (with_reducible exact O2) | (with_reducible refine Own.lowS ?_ (by omega) _ _))
              · exact Later.of
end Go.Proofs.Ytjffbpdippbfkaa
