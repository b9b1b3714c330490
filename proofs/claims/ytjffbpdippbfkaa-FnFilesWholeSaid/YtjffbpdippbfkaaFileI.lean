/- The contracts on receivers of files: their mirrors, their equality, their marks. No condition but on lengths. -/
import Derived.Test.YtjffbpdippbfkaaMarkT
import Derived.Test.YtjffbpdippbfkaaFileO
import Derived.Test.YtjffbpdippbfkaaFar
namespace Go.Proofs.Ytjffbpdippbfkaa
set_option linter.unusedVariables false
open Go.ChangeShapes Go.WideShapes Go.ChangeAt Go.RowKit

/-- A receiver of a file, its parts in memory of the call's own. -/
def GivesFI (w : World) (f z k : Int) (p : List ByteArray) : Ending → World → Prop := fun e w' =>
  ∃ a c, e = .returned (.agg #[.int .i64 f, .int .i64 z, .int .i64 k, .slice a p.length c]) ∧ Own encStr 9 1 w.heap.size w' a c p ∧ ∃ x : Later w, w' = x.w

theorem c_ltoFileIn {a : Option Addr} {n c : Nat} {f z k : Int} {p : List ByteArray} {w : World} (hs : Sl encStr w a p) (hn : p.length = n) (hm : n ≤ 1048576) :
    Calls Try.prog 31 #[.agg #[.int .i64 f, .int .i64 z, .int .i64 k, .slice a n c]] w (GivesFI w f z k p) := by
  go_enter Try.func31, Try.ntmps31
  go_wp2_with (first | ((with_reducible refine wp_region_later (by kernel_rfl) (by kernel_rfl) ?_); (repeat (first | go_big_quiet_step (first | fail))); refine wpQuiet_nil ?_; rintro _ ⟨x, rfl⟩))
  refine (c_ltoStringS (hs.to inferInstance) hn hm).mono ?_
  rintro _ _ ⟨a1, c1, rfl, o1, y1, rfl⟩
  have O1 := Lib.hid (o1.mono (B' := w.heap.size + 3) (by simp)); clear o1
  go_wp2_with (first | ((with_reducible refine wp_region_later (by kernel_rfl) (by kernel_rfl) ?_); (repeat (first | go_big_quiet_step (first | fail))); refine wpQuiet_nil ?_; rintro _ ⟨x, rfl⟩))
  refine bodyPost_ret (v := .agg #[.int .i64 f, .int .i64 z, .int .i64 k, .slice a1 n c1]) ?_ rfl ⟨a1, c1, by rw [hn], ?_, ?_⟩
  · simp [results, Try.results31, go_sem]
  · refine Own.mono (B := w.heap.size + 3) ?_ (by omega)
    have O2 := O1.out
    repeat (first | (with_reducible exact O2) | (with_reducible refine Own.lowS ?_ (by omega) _ _))
  · exact Later.of

theorem c_lszFileIn {a : Option Addr} {n c : Nat} {f z k left : Int} {p : List ByteArray} {w : World} (hs : Sl encStr w a p) (hn : p.length = n) (hl : 0 ≤ left) (hl' : left ≤ 1048576) (hm : n ≤ 9223372036854775807) (hsz : ∀ s ∈ p, s.size ≤ 9223372036854775807) :
    Calls Try.prog 29 #[.agg #[.int .i64 f, .int .i64 z, .int .i64 k, .slice a n c], .int .i64 left] w (Gives w (.int .i64 (szI left (n + totS p)))) := by
  have HS := Lib.hid hsz; clear hsz
  obtain ⟨v, hv⟩ : ∃ v, szI left (n + totS p) = v := ⟨_, rfl⟩
  have HV := Lib.hid hv
  have hv2 : v < 0 → v = -1 := by rw [← hv]; unfold szI; split <;> omega
  have HV2 := Lib.hid hv2
  clear hv hv2
  by_cases h : v < 0
  · go_enter Try.func29, Try.ntmps29
    go_wp2_with (first | ((with_reducible refine wp_region_later (by kernel_rfl) (by kernel_rfl) ?_); (repeat (first | go_big_quiet_step (first | fail))); refine wpQuiet_nil ?_; rintro _ ⟨x, rfl⟩))
    refine (c_lszStringS (hs.to inferInstance) hn hl hl' hm HS.out).mono ?_
    rintro _ _ ⟨rfl, y, rfl⟩
    rw [HV.out]
    go_wp2_with (first | ((with_reducible refine wp_region_later (by kernel_rfl) (by kernel_rfl) ?_); (repeat (first | go_big_quiet_step (first | fail))); refine wpQuiet_nil ?_; rintro _ ⟨x, rfl⟩))
    go_ret
    exact Gives.mk (by rw [HV.out, HV2.out h]; rfl)
  · go_enter Try.func29, Try.ntmps29
    go_wp2_with (first | ((with_reducible refine wp_region_later (by kernel_rfl) (by kernel_rfl) ?_); (repeat (first | go_big_quiet_step (first | fail))); refine wpQuiet_nil ?_; rintro _ ⟨x, rfl⟩))
    refine (c_lszStringS (hs.to inferInstance) hn hl hl' hm HS.out).mono ?_
    rintro _ _ ⟨rfl, y, rfl⟩
    rw [HV.out]
    go_wp2_with (first | ((with_reducible refine wp_region_later (by kernel_rfl) (by kernel_rfl) ?_); (repeat (first | go_big_quiet_step (first | fail))); refine wpQuiet_nil ?_; rintro _ ⟨x, rfl⟩))
    go_ret
    exact Gives.mk (by rw [HV.out]; rfl)

theorem c_leqFileIn {a a' : Option Addr} {n n' c c' : Nat} {f f' z z' k k' : Int} {p p' : List ByteArray} {w : World} (hs : Sl encStr w a p) (hs' : Sl encStr w a' p') (hn : p.length = n) (hn' : p'.length = n') (hm : n ≤ 4611686018427387904) (hm' : n' ≤ 4611686018427387904)
    (h1 : f = f') (h2 : z = z') (h3 : k = k') (h4 : p = p') :
    Calls Try.prog 32 #[.agg #[.int .i64 f, .int .i64 z, .int .i64 k, .slice a n c], .agg #[.int .i64 f', .int .i64 z', .int .i64 k', .slice a' n' c']] w (Gives w (.bool true)) := by
  subst h1; subst h2; subst h3; subst h4
  have he := eqAll_self eqStr_self p
  subst hn; subst hn'
  go_enter Try.func32, Try.ntmps32
  go_wp2_with (first | ((with_reducible refine wp_region_later (by kernel_rfl) (by kernel_rfl) ?_); (repeat (first | go_big_quiet_step (first | (go_at_call 63; exact Gives.quiet (c_leqStringS (by first | assumption | (apply Sl.to <;> first | assumption | infer_instance) | omega) (by first | assumption | (apply Sl.to <;> first | assumption | infer_instance) | omega) (by first | assumption | (apply Sl.to <;> first | assumption | infer_instance) | omega) (by first | assumption | (apply Sl.to <;> first | assumption | infer_instance) | omega) (by first | assumption | (apply Sl.to <;> first | assumption | infer_instance) | omega) (by first | assumption | (apply Sl.to <;> first | assumption | infer_instance) | omega)))))); refine wpQuiet_nil ?_; rintro _ ⟨x, rfl⟩) | (go_at_call 63; refine (c_leqStringS (by first | assumption | (apply Sl.to <;> first | assumption | infer_instance) | omega) (by first | assumption | (apply Sl.to <;> first | assumption | infer_instance) | omega) (by first | assumption | (apply Sl.to <;> first | assumption | infer_instance) | omega) (by first | assumption | (apply Sl.to <;> first | assumption | infer_instance) | omega) (by first | assumption | (apply Sl.to <;> first | assumption | infer_instance) | omega) (by first | assumption | (apply Sl.to <;> first | assumption | infer_instance) | omega)).mono ?_; rintro _ _ ⟨rfl, x, rfl⟩))
  go_ret
  exact Gives.mk rfl

theorem c_lmarkFileIn {a : Option Addr} {n c B : Nat} {f z k k0 : Int} {l : List ByteArray} {w : World} (hown0 : Own encStr 9 1 B w a c l) (hn : l.length = n) (hm : n ≤ 1048576) (h1 : 0 ≤ k0) (h2 : k0 ≤ 1000000000000) :
    Calls Try.prog 33 #[.agg #[.int .i64 f, .int .i64 z, .int .i64 k, .slice a n c], .int .i64 k0] w (Marks encStr 9 1 B w a n c ((List.range n).map (mkStr k0)) (k0 + n)) := by
  go_enter Try.func33, Try.ntmps33
  go_wp2_with (first | ((with_reducible refine wp_region_later (by kernel_rfl) (by kernel_rfl) ?_); (repeat (first | go_big_quiet_step (first | fail))); refine wpQuiet_nil ?_; rintro _ ⟨x, rfl⟩))
  refine (c_lmarkStringS (hown0.to inferInstance) hn hm h1 h2).mono ?_
  rintro _ w1 ⟨rfl, hg, ho⟩
  have HG := Lib.hid hg; have HO := Lib.hid ho; clear hg ho
  go_wp2_with (first | ((with_reducible refine wp_region_later (by kernel_rfl) (by kernel_rfl) ?_); (repeat (first | go_big_quiet_step (first | fail))); refine wpQuiet_nil ?_; rintro _ ⟨x, rfl⟩))
  go_ret
  exact ⟨rfl, grownBy_news _ HG.out, HO.out⟩

theorem c_lheldFileIn {a : Option Addr} {n c : Nat} {f z k k0 : Int} {w : World} (hs : Sl encStr w a ((List.range n).map (mkStr k0))) (hm : n ≤ 1048576) (h1 : 0 ≤ k0) (h2 : k0 ≤ 1000000000000) :
    Calls Try.prog 34 #[.agg #[.int .i64 f, .int .i64 z, .int .i64 k, .slice a n c], .int .i64 k0] w (Gives w (.int .i64 (k0 + n))) := by
  go_enter Try.func34, Try.ntmps34
  go_wp2_with (first | ((with_reducible refine wp_region_later (by kernel_rfl) (by kernel_rfl) ?_); (repeat (first | go_big_quiet_step (first | fail))); refine wpQuiet_nil ?_; rintro _ ⟨x, rfl⟩))
  refine (c_lheldStringS (hs.to inferInstance) hm h1 h2).mono ?_
  rintro _ _ ⟨rfl, x1, rfl⟩
  go_wp2_with (first | ((with_reducible refine wp_region_later (by kernel_rfl) (by kernel_rfl) ?_); (repeat (first | go_big_quiet_step (first | fail))); refine wpQuiet_nil ?_; rintro _ ⟨x, rfl⟩))
  go_ret
  exact Gives.mk rfl

theorem c_icloneFileIn {a : Option Addr} {n c : Nat} {f z k : Int} {p : List ByteArray} {w : World} (hs : Sl encStr w a p) (hn : p.length = n) (hm : n ≤ 1048577) :
    Calls Try.prog 47 #[.agg #[.int .i64 f, .int .i64 z, .int .i64 k, .slice a n c]] w (GivesFI w f z k p) := by
  go_enter Try.func47, Try.ntmps47
  go_wp2_with (first | ((with_reducible refine wp_region_later (by kernel_rfl) (by kernel_rfl) ?_); (repeat (first | go_big_quiet_step (first | fail))); refine wpQuiet_nil ?_; rintro _ ⟨x, rfl⟩))
  refine (c_cloneStr (hs.to inferInstance) hn (by omega)).mono ?_
  rintro _ _ ⟨a1, c1, rfl, o1, y1, rfl⟩
  rw [hn]
  have O1 := Lib.hid (o1.mono (B' := w.heap.size + 2) (by simp)); clear o1
  go_wp2_with (first | ((with_reducible refine wp_region_later (by kernel_rfl) (by kernel_rfl) ?_); (repeat (first | go_big_quiet_step (first | fail))); refine wpQuiet_nil ?_; rintro _ ⟨x, rfl⟩))
  refine bodyPost_ret (v := .agg #[.int .i64 f, .int .i64 z, .int .i64 k, .slice a1 n c1]) ?_ rfl ⟨a1, c1, by rw [hn], ?_, ?_⟩
  · simp [results, Try.results47, go_sem]
  · have O2 := O1.out
    refine Own.mono (B := w.heap.size + 2) ?_ (by omega)
    repeat (first | (with_reducible exact O2) | (with_reducible refine Own.lowS ?_ (by omega) _ _))
  · exact Later.of

theorem c_sl06CopyIn {a : Option Addr} {n c : Nat} {f z k : Int} {p : List ByteArray} {w : World} (hs : Sl encStr w a p) (hnil : a = none → c = 0) (hn : p.length = n) (hm : n ≤ 1048577) :
    Calls Try.prog 58 #[.agg #[.int .i64 f, .int .i64 z, .int .i64 k, .slice a n c]] w (GivesFI w f z k p) := by
  have HNIL := Lib.hid hnil; clear hnil
  go_enter Try.func58, Try.ntmps58
  go_wp2_with (first | ((with_reducible refine wp_region_later (by kernel_rfl) (by kernel_rfl) ?_); (repeat (first | go_big_quiet_step (first | fail))); refine wpQuiet_nil ?_; rintro _ ⟨x, rfl⟩) | (at_builtin; go_must (refine wpList_appS (enc := encStr) (w0 := (w.alloc (.cells #[.int .i64 f, .int .i64 z, .int .i64 k, .slice a n c] 32)).alloc (.cells #[.int .i64 0, .int .i64 0, .int .i64 0, .slice none 0 0] 32)) (z := .string ByteArray.empty) (size := 1) (bytes := 16) (n := 0) (l := []) rfl (.tmp 3) (.tmp 5) rfl Try.underlying30 (by kernel_rfl) rfl (by decide) (by decide) rfl rfl HNIL.out rfl hn (Own.emptyAt encStr_len LeN.out (by simp)) (hs.to inferInstance) encStr_one (by omega) ?_; intro sa1 sc1 x1 hown1 hgr1; rw [List.nil_append] at hown1; have O1 := Lib.hid (hown1.mono (B' := w.heap.size + 2) (by simp)); clear hown1 hgr1)))
  refine bodyPost_ret (v := .agg #[.int .i64 f, .int .i64 z, .int .i64 k, .slice sa1 n sc1]) ?_ rfl ⟨sa1, sc1, by rw [hn], ?_, ?_⟩
  · simp [results, Try.results58, go_sem]
  · have O2 := O1.out
    refine Own.mono (B := w.heap.size + 2) ?_ (by omega)
    repeat (first | (with_reducible exact O2) | (with_reducible refine Own.lowS ?_ (by omega) _ _))
  · exact Later.of

/-! ### What is valid -/
def shortAll (p : List ByteArray) : Bool := p.all (fun s => decide (s.size ≤ 24))
def fileInOk (f z k : Int) (p : List ByteArray) : Bool := inB f 0 7 && (inB z (-1) 600 && (inB k (-1) 65535 && (((z == -1) == (k == -1)) && (decide (p.length = 25) && shortAll p))))

set_option maxRecDepth 100000 in
set_option maxHeartbeats 2000000 in
theorem c_iFileInOk {a : Option Addr} {n c : Nat} {f z k : Int} {p : List ByteArray} {w : World} (hs : Sl encStr w a p) (hn : p.length = n) (hm : n ≤ 4611686018427387904) (hsz : ∀ s ∈ p, s.size ≤ 1048576) :
    Calls Try.prog 18 #[.agg #[.int .i64 f, .int .i64 z, .int .i64 k, .slice a n c]] w (Gives w (.bool (fileInOk f z k p))) := by
  have HS := Lib.hid hsz; clear hsz
  have HF := Lib.hid (show fileInOk f z k p = (inB f 0 7 && (inB z (-1) 600 && (inB k (-1) 65535 && (((z == -1) == (k == -1)) && (decide (n = 25) && shortAll p))))) by rw [fileInOk, hn])
  cases c1 : inB f 0 7
  · go_enter Try.func18, Try.ntmps18
    go_wp2_with (first | ((with_reducible refine wp_region_later (by kernel_rfl) (by kernel_rfl) ?_); (repeat (first | go_big_quiet_step (first | (go_at_call 44; exact Gives.quiet (c_ibetween))) | simp only [c1])); refine wpQuiet_nil ?_; rintro _ ⟨x, rfl⟩) | (go_at_call 44; refine (c_ibetween).mono ?_; rintro _ _ ⟨rfl, x, rfl⟩))
    go_ret
    exact Gives.mk (by rw [HF.out, c1]; rfl)
  cases c2 : inB z (-1) 600
  · go_enter Try.func18, Try.ntmps18
    go_wp2_with (first | ((with_reducible refine wp_region_later (by kernel_rfl) (by kernel_rfl) ?_); (repeat (first | go_big_quiet_step (first | (go_at_call 44; exact Gives.quiet (c_ibetween))) | simp only [c1] | simp only [c2])); refine wpQuiet_nil ?_; rintro _ ⟨x, rfl⟩) | (go_at_call 44; refine (c_ibetween).mono ?_; rintro _ _ ⟨rfl, x, rfl⟩))
    go_ret
    exact Gives.mk (by rw [HF.out, c1, c2]; rfl)
  cases c3 : inB k (-1) 65535
  · go_enter Try.func18, Try.ntmps18
    go_wp2_with (first | ((with_reducible refine wp_region_later (by kernel_rfl) (by kernel_rfl) ?_); (repeat (first | go_big_quiet_step (first | (go_at_call 44; exact Gives.quiet (c_ibetween))) | simp only [c1] | simp only [c2] | simp only [c3])); refine wpQuiet_nil ?_; rintro _ ⟨x, rfl⟩) | (go_at_call 44; refine (c_ibetween).mono ?_; rintro _ _ ⟨rfl, x, rfl⟩))
    go_ret
    exact Gives.mk (by rw [HF.out, c1, c2, c3]; rfl)
  cases c4 : ((z == -1) == (k == -1))
  · have c5 : ((z == -1) != (k == -1)) = true := by rw [bne, c4]; rfl
    go_enter Try.func18, Try.ntmps18
    go_wp2_with (first | ((with_reducible refine wp_region_later (by kernel_rfl) (by kernel_rfl) ?_); (repeat (first | go_big_quiet_step (first | (go_at_call 44; exact Gives.quiet (c_ibetween))) | simp only [c1] | simp only [c2] | simp only [c3] | simp only [c5])); refine wpQuiet_nil ?_; rintro _ ⟨x, rfl⟩) | (go_at_call 44; refine (c_ibetween).mono ?_; rintro _ _ ⟨rfl, x, rfl⟩))
    go_ret
    exact Gives.mk (by rw [HF.out, c1, c2, c3, c4]; rfl)
  have c5 : ((z == -1) != (k == -1)) = false := by rw [bne, c4]; rfl
  have HF2 := Lib.hid (show fileInOk f z k p = (decide (n = 25) && shortAll p) by rw [HF.out, c1, c2, c3, c4]; rfl)
  clear HF
  by_cases h6 : n = 25
  · have c6 : ((n : Int) != 25) = false := by simp; omega
    have HF3 := Lib.hid (show fileInOk f z k p = shortAll p by rw [HF2.out, h6]; rfl)
    clear HF2 h6
    go_enter Try.func18, Try.ntmps18
    go_wp2_with (first | ((with_reducible refine wp_region_later (by kernel_rfl) (by kernel_rfl) ?_); (repeat (first | go_big_quiet_step (first | (go_at_call 44; exact Gives.quiet (c_ibetween))) | simp only [c1] | simp only [c2] | simp only [c3] | simp only [c5] | simp only [c6])); refine wpQuiet_nil ?_; rintro _ ⟨x, rfl⟩) | (go_at_call 44; refine (c_ibetween).mono ?_; rintro _ _ ⟨rfl, x, rfl⟩))
    go_loopw [37] (fun v wr => ∃ k : Nat, v = .int .i64 k ∧ k ≤ n ∧ Hid (shortAll (p.drop k) = shortAll p) ∧ ∃ x : Later w, wr = x.w) (fun v _ => (n - intOf v).toNat)
    case atStart => exact ⟨0, rfl, by omega, rfl, Later.of⟩
    case round =>
      obtain ⟨k, rfl, hk, hf, x, rfl⟩ := hrel
      by_cases h : k < n
      · obtain ⟨b, off, s, rfl, hb, hd, h0⟩ := hs.str (show k < p.length by omega)
        have hsm : s.size ≤ 1048576 := HS.out s (List.mem_of_mem_drop (by rw [hd.out]; exact List.mem_cons_self ..))
        by_cases h7 : 24 < s.size
        · go_wp2_with (first | ((with_reducible refine wp_region_later (by kernel_rfl) (by kernel_rfl) ?_); (repeat (first | go_big_quiet_step (first | fail))); refine wpQuiet_nil ?_; rintro _ ⟨x, rfl⟩))
          go_ret
          exact Gives.mk (by have := hf.out; rw [hd.out, shortAll, List.all_cons, decide_eq_false (by omega)] at this; rw [HF3.out, ← this]; rfl)
        · go_wp2_with (first | ((with_reducible refine wp_region_later (by kernel_rfl) (by kernel_rfl) ?_); (repeat (first | go_big_quiet_step (first | fail))); refine wpQuiet_nil ?_; rintro _ ⟨x, rfl⟩))
          go_roundw
          case rel => exact ⟨k + 1, by go_num, by omega, by have := hf.out; rw [hd.out, shortAll, List.all_cons, decide_eq_true (by omega)] at this; exact this, Later.of⟩
          case measure => simp [intOf]; omega
      · go_wp2_with (first | ((with_reducible refine wp_region_later (by kernel_rfl) (by kernel_rfl) ?_); (repeat (first | go_big_quiet_step (first | fail))); refine wpQuiet_nil ?_; rintro _ ⟨x, rfl⟩))
        go_ret
        exact Gives.mk (by have := hf.out; rw [List.drop_of_length_le (by omega)] at this; rw [HF3.out, ← this]; rfl)
  · have c6 : ((n : Int) != 25) = true := by simp; omega
    have HF3 := Lib.hid (show fileInOk f z k p = false by rw [HF2.out, decide_eq_false h6]; rfl)
    clear HF2 h6
    go_enter Try.func18, Try.ntmps18
    go_wp2_with (first | ((with_reducible refine wp_region_later (by kernel_rfl) (by kernel_rfl) ?_); (repeat (first | go_big_quiet_step (first | (go_at_call 44; exact Gives.quiet (c_ibetween))) | simp only [c1] | simp only [c2] | simp only [c3] | simp only [c5] | simp only [c6])); refine wpQuiet_nil ?_; rintro _ ⟨x, rfl⟩) | (go_at_call 44; refine (c_ibetween).mono ?_; rintro _ _ ⟨rfl, x, rfl⟩))
    go_ret
    exact Gives.mk (by rw [HF3.out]; rfl)

set_option maxRecDepth 100000 in
set_option maxHeartbeats 2000000 in
theorem c_sFileInOk {a : Option Addr} {n c : Nat} {f z k : Int} {p : List ByteArray} {w : World} (hs : Sl encStr w a p) (hn : p.length = n) (hm : n ≤ 4611686018427387904) (hsz : ∀ s ∈ p, s.size ≤ 1048576) :
    Calls Try.prog 59 #[.agg #[.int .i64 f, .int .i64 z, .int .i64 k, .slice a n c]] w (Gives w (.bool (fileInOk f z k p))) := by
  have HS := Lib.hid hsz; clear hsz
  have HF := Lib.hid (show fileInOk f z k p = (inB f 0 7 && (inB z (-1) 600 && (inB k (-1) 65535 && (((z == -1) == (k == -1)) && (decide (n = 25) && shortAll p))))) by rw [fileInOk, hn])
  go_enter Try.func59, Try.ntmps59
  go_wp2_with (first | ((with_reducible refine wp_region_later (by kernel_rfl) (by kernel_rfl) ?_); (repeat (first | go_big_quiet_step (first | fail))); refine wpQuiet_nil ?_; rintro _ ⟨x, rfl⟩))
  go_loopw [3] (fun v wr => ∃ j : Nat, v = .int .i64 j ∧ j ≤ n ∧ Hid (shortAll (p.drop j) = shortAll p) ∧ ∃ x : Later (w.alloc (.cells #[.int .i64 f, .int .i64 z, .int .i64 k, .slice a n c] 32)), wr = x.w) (fun v _ => (n - intOf v).toNat)
  case atStart => exact ⟨0, rfl, by omega, rfl, Later.of⟩
  case round =>
    obtain ⟨j, rfl, hk, hf, x, rfl⟩ := hrel
    by_cases h : j < n
    · obtain ⟨b, off, s, rfl, hb, hd, h0⟩ := hs.str (show j < p.length by omega)
      have hsm : s.size ≤ 1048576 := HS.out s (List.mem_of_mem_drop (by rw [hd.out]; exact List.mem_cons_self ..))
      by_cases h7 : 24 < s.size
      · go_wp2_with (first | ((with_reducible refine wp_region_later (by kernel_rfl) (by kernel_rfl) ?_); (repeat (first | go_big_quiet_step (first | fail))); refine wpQuiet_nil ?_; rintro _ ⟨x, rfl⟩))
        go_ret
        exact Gives.mk (by have := hf.out; rw [hd.out, shortAll, List.all_cons, decide_eq_false (by omega)] at this; rw [HF.out, ← this]; simp)
      · go_wp2_with (first | ((with_reducible refine wp_region_later (by kernel_rfl) (by kernel_rfl) ?_); (repeat (first | go_big_quiet_step (first | fail))); refine wpQuiet_nil ?_; rintro _ ⟨x, rfl⟩))
        go_roundw
        case rel => exact ⟨j + 1, by go_num, by omega, by have := hf.out; rw [hd.out, shortAll, List.all_cons, decide_eq_true (by omega)] at this; exact this, Later.of⟩
        case measure => simp [intOf]; omega
    · have hf' := hf.out
      rw [List.drop_of_length_le (by omega)] at hf'
      have HA := Lib.hid (show shortAll p = true from hf'.symm); clear hf hf'
      cases c1 : inB f 0 7
      · go_wp2_with (first | ((with_reducible refine wp_region_later (by kernel_rfl) (by kernel_rfl) ?_); (repeat (first | go_big_quiet_step (first | (go_at_call 54; exact Gives.quiet (c_sl01In))) | simp only [c1])); refine wpQuiet_nil ?_; rintro _ ⟨x, rfl⟩) | (go_at_call 54; refine (c_sl01In).mono ?_; rintro _ _ ⟨rfl, x, rfl⟩))
        go_ret
        exact Gives.mk (by rw [HF.out, c1]; rfl)
      cases c2 : inB z (-1) 600
      · go_wp2_with (first | ((with_reducible refine wp_region_later (by kernel_rfl) (by kernel_rfl) ?_); (repeat (first | go_big_quiet_step (first | (go_at_call 54; exact Gives.quiet (c_sl01In))) | simp only [c1] | simp only [c2])); refine wpQuiet_nil ?_; rintro _ ⟨x, rfl⟩) | (go_at_call 54; refine (c_sl01In).mono ?_; rintro _ _ ⟨rfl, x, rfl⟩))
        go_ret
        exact Gives.mk (by rw [HF.out, c1, c2]; rfl)
      cases c3 : inB k (-1) 65535
      · go_wp2_with (first | ((with_reducible refine wp_region_later (by kernel_rfl) (by kernel_rfl) ?_); (repeat (first | go_big_quiet_step (first | (go_at_call 54; exact Gives.quiet (c_sl01In))) | simp only [c1] | simp only [c2] | simp only [c3])); refine wpQuiet_nil ?_; rintro _ ⟨x, rfl⟩) | (go_at_call 54; refine (c_sl01In).mono ?_; rintro _ _ ⟨rfl, x, rfl⟩))
        go_ret
        exact Gives.mk (by rw [HF.out, c1, c2, c3]; rfl)
      cases c4 : ((z == -1) == (k == -1))
      · go_wp2_with (first | ((with_reducible refine wp_region_later (by kernel_rfl) (by kernel_rfl) ?_); (repeat (first | go_big_quiet_step (first | (go_at_call 54; exact Gives.quiet (c_sl01In))) | simp only [c1] | simp only [c2] | simp only [c3] | simp only [c4])); refine wpQuiet_nil ?_; rintro _ ⟨x, rfl⟩) | (go_at_call 54; refine (c_sl01In).mono ?_; rintro _ _ ⟨rfl, x, rfl⟩))
        go_ret
        exact Gives.mk (by rw [HF.out, c1, c2, c3, c4]; rfl)
      by_cases h6 : n = 25
      · have c6 : ((n : Int) == 25) = true := by simp; omega
        have HF3 := Lib.hid (show fileInOk f z k p = true by rw [HF.out, c1, c2, c3, c4, h6, HA.out]; rfl)
        clear HF h6 HA
        go_wp2_with (first | ((with_reducible refine wp_region_later (by kernel_rfl) (by kernel_rfl) ?_); (repeat (first | go_big_quiet_step (first | (go_at_call 54; exact Gives.quiet (c_sl01In))) | simp only [c1] | simp only [c2] | simp only [c3] | simp only [c4] | simp only [c6])); refine wpQuiet_nil ?_; rintro _ ⟨x, rfl⟩) | (go_at_call 54; refine (c_sl01In).mono ?_; rintro _ _ ⟨rfl, x, rfl⟩))
        go_ret
        exact Gives.mk (by rw [HF3.out]; rfl)
      · have c6 : ((n : Int) == 25) = false := by simp; omega
        have HF3 := Lib.hid (show fileInOk f z k p = false by rw [HF.out, c1, c2, c3, c4, decide_eq_false h6]; rfl)
        clear HF h6 HA
        go_wp2_with (first | ((with_reducible refine wp_region_later (by kernel_rfl) (by kernel_rfl) ?_); (repeat (first | go_big_quiet_step (first | (go_at_call 54; exact Gives.quiet (c_sl01In))) | simp only [c1] | simp only [c2] | simp only [c3] | simp only [c4] | simp only [c6])); refine wpQuiet_nil ?_; rintro _ ⟨x, rfl⟩) | (go_at_call 54; refine (c_sl01In).mono ?_; rintro _ _ ⟨rfl, x, rfl⟩))
        go_ret
        exact Gives.mk (by rw [HF3.out]; rfl)
end Go.Proofs.Ytjffbpdippbfkaa
