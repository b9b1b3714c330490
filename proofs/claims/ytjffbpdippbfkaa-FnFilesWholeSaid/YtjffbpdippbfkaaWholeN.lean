/- The contracts of MissingOf, NewFileIn and NewFileOut, the code's. No condition but on lengths. -/
import Derived.Test.YtjffbpdippbfkaaWholeL
namespace Go.Proofs.Ytjffbpdippbfkaa
set_option linter.unusedVariables false
open Go.ChangeShapes Go.WideShapes Go.ChangeAt Go.RowKit

set_option maxRecDepth 100000 in
set_option maxHeartbeats 2000000 in
theorem c_iMissingOf {a : Option Addr} {n c : Nat} {f z k : Int} {p : List ByteArray} {w : World} (hs : Sl encStr w a p) (hn : p.length = n) (hm : n ≤ 1048576) (hsz : ∀ s ∈ p, s.size ≤ 1048576) :
    Calls Try.prog 15 #[.agg #[.int .i64 f, .int .i64 z, .int .i64 k, .slice a n c]] w (GivesSl encInt 3 1 w (missL f z k p)) := by
  have HS := Lib.hid hsz; clear hsz
  cases c0 : fileInOk f z k p
  · have HV := Lib.hid (show missL f z k p = [] by rw [missL, c0]; rfl)
    go_enter Try.func15, Try.ntmps15
    go_wp2_with (first | ((with_reducible refine wp_region_later (by kernel_rfl) (by kernel_rfl) ?_); (repeat (first | go_big_quiet_step (first | fail))); refine wpQuiet_nil ?_; rintro _ ⟨x, rfl⟩))
    refine (c_iFileInOk (hs.to inferInstance) hn (by omega) HS.out).mono ?_
    rintro _ _ ⟨rfl, y1, rfl⟩
    go_wp2_with (first | ((with_reducible refine wp_region_later (by kernel_rfl) (by kernel_rfl) ?_); (repeat (first | go_big_quiet_step (first | fail) | simp only [c0])); refine wpQuiet_nil ?_; rintro _ ⟨x, rfl⟩))
    go_ret
    rw [HV.out]
    exact ⟨none, 0, rfl, Own.nil encInt_len, Later.of⟩
  have hpp := fileInOk_parts c0
  have h25 : n = 25 := by omega
  cases c1 : (z == -1)
  · obtain ⟨N, hN⟩ : ∃ N : Nat, countSeg z = N := ⟨(countSeg z).toNat, by have := countSeg_bd z; omega⟩
    have hNb : N ≤ 25 := by have := countSeg_bd z; omega
    have HV := Lib.hid (show missL f z k p = missGo 0 20 (p.take N) by rw [missL, c0, c1, segsIn, hN]; rfl)
    have HC := Lib.hid hN; clear hN
    have hnn : 25 ≤ n := by omega
    clear h25 hpp
    go_enter Try.func15, Try.ntmps15
    go_wp2_with (first | ((with_reducible refine wp_region_later (by kernel_rfl) (by kernel_rfl) ?_); (repeat (first | go_big_quiet_step (first | fail))); refine wpQuiet_nil ?_; rintro _ ⟨x, rfl⟩))
    refine (c_iFileInOk (hs.to inferInstance) hn (by omega) HS.out).mono ?_
    rintro _ _ ⟨rfl, y1, rfl⟩
    go_wp2_with (first | ((with_reducible refine wp_region_later (by kernel_rfl) (by kernel_rfl) ?_); (repeat (first | go_big_quiet_step (first | fail) | simp only [c0] | simp only [c1])); refine wpQuiet_nil ?_; rintro _ ⟨x, rfl⟩))
    go_loopw [3, 4] (fun u v wr => ∃ (j : Nat) (acc : List Int) (m : Nat) (sa : Option Addr) (sc : Nat), v = .int .i64 j ∧ u = .slice sa m sc ∧ acc.length = m ∧ j ≤ N ∧ m ≤ j ∧ m ≤ 20 ∧ Hid (acc ++ missGo j (20 - m) ((p.take N).drop j) = missGo 0 20 (p.take N)) ∧ Own encInt 3 1 (w.alloc (.cells #[.int .i64 f, .int .i64 z, .int .i64 k, .slice a n c] 32)).heap.size wr sa sc acc ∧ ∃ x : Later (w.alloc (.cells #[.int .i64 f, .int .i64 z, .int .i64 k, .slice a n c] 32)), wr = x.w) (fun _ v _ => (N - intOf v).toNat)
    case atStart => exact ⟨0, [], 0, _, 0, rfl, rfl, rfl, by omega, by omega, by omega, by simp [Hid], Own.nil encInt_len, Later.of⟩
    case round =>
      obtain ⟨j, acc, m, sa, sc, rfl, rfl, hacc, hj, hmj, hm20, hf, hown, x0, rfl⟩ := hrel
      by_cases h : j < N
      · have hjn : j < n := by omega
        obtain ⟨b, off, s, rfl, hb, hd, h0⟩ := hs.str (show j < p.length by omega)
        have hdd : (p.take N).drop j = s :: (p.take N).drop (j + 1) := by
          have hps : p[j]? = some s := by
            have := congrArg (fun m => m[0]?) hd.out
            simpa using this
          have hps2 : (p.take N)[j]? = some s := by rw [List.getElem?_take_of_lt h]; exact hps
          obtain ⟨hl, he⟩ := List.getElem?_eq_some_iff.1 hps2
          rw [List.drop_eq_getElem_cons hl, he]
        have HDD := Lib.hid hdd; clear hdd hd
        have kc : decide ((j : Int) < (N : Int)) = true := by simp; omega
        by_cases h20 : m < 20
        · have k2 : decide ((m : Int) < 20) = true := by simp; omega
          cases c2 : (s.toList == [])
          · have HF := Lib.hid (show acc ++ missGo (j + 1) (20 - m) ((p.take N).drop (j + 1)) = missGo 0 20 (p.take N) by
              have := hf.out; rw [HDD.out, missGo, if_neg (by omega), c2] at this; exact this)
            go_wp2_with (first | ((with_reducible refine wp_region_later (by kernel_rfl) (by kernel_rfl) ?_); (repeat (first | go_big_quiet_step (first | fail))); refine wpQuiet_nil ?_; rintro _ ⟨x, rfl⟩))
            refine c_iCountSegments.mono ?_
            rintro _ _ ⟨rfl, y5, rfl⟩
            rw [HC.out]
            go_wp2_with (first | ((with_reducible refine wp_region_later (by kernel_rfl) (by kernel_rfl) ?_); (repeat (first | go_big_quiet_step (first | fail) | simp only [kc] | simp only [k2] | simp only [c2])); refine wpQuiet_nil ?_; rintro _ ⟨x, rfl⟩))
            go_roundw
            case rel => exact ⟨j + 1, acc, m, sa, sc, by go_num, rfl, hacc, by omega, by omega, by omega, HF, Own.to hown inferInstance, Later.of⟩
            case measure => simp [intOf]; omega
          · have HF := Lib.hid (show (acc ++ [(j : Int)]) ++ missGo (j + 1) (20 - (m + 1)) ((p.take N).drop (j + 1)) = missGo 0 20 (p.take N) by
              have := hf.out; rw [HDD.out, missGo, if_neg (by omega), if_pos c2] at this; rw [List.append_assoc]; exact this)
            go_wp2_with (first | ((with_reducible refine wp_region_later (by kernel_rfl) (by kernel_rfl) ?_); (repeat (first | go_big_quiet_step (first | fail))); refine wpQuiet_nil ?_; rintro _ ⟨x, rfl⟩))
            refine c_iCountSegments.mono ?_
            rintro _ _ ⟨rfl, y5, rfl⟩
            rw [HC.out]
            go_wp2_with (first | ((with_reducible refine wp_region_later (by kernel_rfl) (by kernel_rfl) ?_); (repeat (first | go_big_quiet_step (first | fail) | simp only [kc] | simp only [k2] | simp only [c2])); refine wpQuiet_nil ?_; rintro _ ⟨x, rfl⟩) | (at_builtin; refine wpList_app1 (enc := encInt) (w0 := _) (z := .int .i64 0) (size := 1) (bytes := 8) (j : Int) rfl (.tmp 31) (.tmp 33) rfl Try.underlying25 (by kernel_rfl) rfl (by decide) (by decide) rfl rfl hacc (Own.to hown inferInstance) rfl (encInt_one _) (by omega) ?_; intro sa1 sc1 x1 hown1 hgr1))
            go_roundw
            case rel => exact ⟨j + 1, acc ++ [(j : Int)], m + 1, sa1, sc1, by go_num, rfl, by simp [hacc], by omega, by omega, by omega, HF, hown1, Later.of⟩
            case measure => simp [intOf]; omega
        · have k2 : decide ((m : Int) < 20) = false := by simp; omega
          have HF := Lib.hid (show acc = missGo 0 20 (p.take N) by
            have := hf.out; rw [HDD.out, missGo, if_pos (by omega), List.append_nil] at this; exact this)
          go_wp2_with (first | ((with_reducible refine wp_region_later (by kernel_rfl) (by kernel_rfl) ?_); (repeat (first | go_big_quiet_step (first | fail))); refine wpQuiet_nil ?_; rintro _ ⟨x, rfl⟩))
          refine c_iCountSegments.mono ?_
          rintro _ _ ⟨rfl, y5, rfl⟩
          rw [HC.out]
          go_wp2_with (first | ((with_reducible refine wp_region_later (by kernel_rfl) (by kernel_rfl) ?_); (repeat (first | go_big_quiet_step (first | fail) | simp only [kc] | simp only [k2])); refine wpQuiet_nil ?_; rintro _ ⟨x, rfl⟩))
          go_ret
          rw [HV.out, ← HF.out]
          exact ⟨sa, sc, by rw [hacc]; rfl, (Own.to hown inferInstance).mono (by simp), Later.of⟩
      · have kc : decide ((j : Int) < (N : Int)) = false := by simp; omega
        have HF := Lib.hid (show acc = missGo 0 20 (p.take N) by
          have := hf.out; rw [List.drop_of_length_le (by rw [List.length_take]; omega), missGo, List.append_nil] at this; exact this)
        go_wp2_with (first | ((with_reducible refine wp_region_later (by kernel_rfl) (by kernel_rfl) ?_); (repeat (first | go_big_quiet_step (first | fail))); refine wpQuiet_nil ?_; rintro _ ⟨x, rfl⟩))
        refine c_iCountSegments.mono ?_
        rintro _ _ ⟨rfl, y5, rfl⟩
        rw [HC.out]
        go_wp2_with (first | ((with_reducible refine wp_region_later (by kernel_rfl) (by kernel_rfl) ?_); (repeat (first | go_big_quiet_step (first | fail) | simp only [kc])); refine wpQuiet_nil ?_; rintro _ ⟨x, rfl⟩))
        go_ret
        rw [HV.out, ← HF.out]
        exact ⟨sa, sc, by rw [hacc]; rfl, (Own.to hown inferInstance).mono (by simp), Later.of⟩
  · obtain rfl : z = -1 := by simpa using c1
    have HV := Lib.hid (show missL f (-1) k p = [] by rw [missL, c0]; rfl)
    clear c1 h25 hpp
    go_enter Try.func15, Try.ntmps15
    go_wp2_with (first | ((with_reducible refine wp_region_later (by kernel_rfl) (by kernel_rfl) ?_); (repeat (first | go_big_quiet_step (first | fail))); refine wpQuiet_nil ?_; rintro _ ⟨x, rfl⟩))
    refine (c_iFileInOk (hs.to inferInstance) hn (by omega) HS.out).mono ?_
    rintro _ _ ⟨rfl, y1, rfl⟩
    go_wp2_with (first | ((with_reducible refine wp_region_later (by kernel_rfl) (by kernel_rfl) ?_); (repeat (first | go_big_quiet_step (first | fail) | simp only [c0])); refine wpQuiet_nil ?_; rintro _ ⟨x, rfl⟩))
    go_ret
    rw [HV.out]
    exact ⟨none, 0, rfl, Own.nil encInt_len, Later.of⟩

theorem c_iNewFileIn {w : World} : Calls Try.prog 10 #[.int .i64 4] w (GivesFI w 4 (-1) (-1) (List.replicate 25 ⟨#[]⟩)) := by
  have hmk : ∀ w : World, (Instr.makeSlice 30 (.int .i64 25) (.int .i64 25)).run Try.prog w = .ok (.slice (some ⟨w.heap.size, 0, none⟩) 25 25) (w.alloc (.cells (Array.replicate 25 (.string ⟨#[]⟩)) 9)) := fun w => by kernel_rfl
  go_enter Try.func10, Try.ntmps10
  go_wp2_with (first | ((with_reducible refine wp_region_later (by kernel_rfl) (by kernel_rfl) ?_); (repeat (first | go_big_quiet_step (first | fail))); refine wpQuiet_nil ?_; rintro _ ⟨x, rfl⟩))
  refine bodyPost_ret (v := .agg #[.int .i64 4, .int .i64 (-1), .int .i64 (-1), .slice (some ⟨w.heap.size + 1, 0, none⟩) 25 25]) ?_ rfl ⟨some ⟨w.heap.size + 1, 0, none⟩, 25, rfl, ?_, ?_⟩
  · simp [results, Try.results10, go_sem]
  · have := own_block (enc := encStr) (T := 9) (size := 1) (n := 25) (B := w.heap.size) (W := w.alloc (.cells #[.int .i64 4, .int .i64 (-1), .int .i64 (-1), .slice (some ⟨w.heap.size + 1, 0, none⟩) 25 25] 32)) (D := Array.replicate 25 (.string ⟨#[]⟩)) (l := List.replicate 25 ⟨#[]⟩) encStr_len (by simp) (by omega) (by simp) (by simp) (by kernel_rfl) (Later.here _)
    simp only [World.size_alloc] at this
    exact this
  · exact Later.of

def queue0 (s : ByteArray) : List Int := (List.range (segN s)).map (fun j : Nat => (j : Int)) ++ [-1]
theorem queue0_inv {s : ByteArray} (h : s.size ≤ 200) : QInv s (queue0 s) := by
  have h9 := segN9 h
  refine ⟨by simp [queue0]; omega, fun y hy => ?_⟩
  rcases List.mem_append.1 hy with h1 | h1
  · obtain ⟨j, h2, rfl⟩ := List.mem_map.1 h1
    have := List.mem_range.1 h2
    right; omega
  · left; simpa using h1

theorem range_snoc (k : Nat) : (List.range (k + 1)).map (fun j : Nat => (j : Int)) = (List.range k).map (fun j : Nat => (j : Int)) ++ [(k : Int)] := by rw [List.range_succ, List.map_append]; rfl

set_option maxRecDepth 100000 in
set_option maxHeartbeats 2000000 in
theorem c_iNewFileOut {s : ByteArray} {w : World} (h : s.size ≤ 200) :
    Calls Try.prog 9 #[.int .i64 4, .string s] w fun e w' => ∃ a c, e = .returned (.tuple #[.agg #[.int .i64 4, .string s, .slice a (queue0 s).length c, .bool false], .bool true]) ∧ Own encInt 3 1 w.heap.size w' a c (queue0 s) ∧ ∃ x : Later w, w' = x.w := by
  obtain ⟨N, hN⟩ : ∃ N, segN s = N := ⟨_, rfl⟩
  have h9 : N ≤ 9 := hN ▸ segN9 h
  have HC := Lib.hid (show countSeg s.size = N from hN ▸ (segN_is (s := s) (by omega)).1)
  have HQ := Lib.hid (show queue0 s = (List.range N).map (fun j : Nat => (j : Int)) ++ [-1] from hN ▸ rfl)
  have HOK := Lib.hid ((queue0_inv h).ok h)
  clear hN
  go_enter Try.func9, Try.ntmps9
  go_wp2_with (first | ((with_reducible refine wp_region_later (by kernel_rfl) (by kernel_rfl) ?_); (repeat (first | go_big_quiet_step (first | fail))); refine wpQuiet_nil ?_; rintro _ ⟨x, rfl⟩))
  refine c_iCountSegments.mono ?_
  rintro _ _ ⟨rfl, y1, rfl⟩
  rw [HC.out]
  have HH0 := Held.new (w.alloc (.cells #[.int .i64 0, .string ⟨#[]⟩, .slice none 0 0, .bool false] 27)) [.int .i64 4, .string s, .slice none 0 0, .bool false] 27 (w.heap.size + 1) (by simp)
  have HH := Lib.hid (HH0.to (inferInstance : Grows _ y1.w)); clear HH0
  have hgb : LeN (w.alloc (.cells #[.int .i64 0, .string ⟨#[]⟩, .slice none 0 0, .bool false] 27)).heap.size (w.heap.size + 1) := ⟨by simp⟩
  go_wp2_with (first | ((with_reducible refine wp_region_later (by kernel_rfl) (by kernel_rfl) ?_); (repeat (first | go_big_quiet_step (first | fail))); refine wpQuiet_nil ?_; rintro _ ⟨x, rfl⟩))
  go_loopw [14] (fun v wr => ∃ (k : Nat) (sa : Option Addr) (sc : Nat), v = .int .i64 k ∧ k ≤ N ∧ Hid (Held wr (w.heap.size + 1) [.int .i64 4, .string s, .slice sa k sc, .bool false] 27) ∧ Hid (Own encInt 3 1 (w.alloc (.cells #[.int .i64 0, .string ⟨#[]⟩, .slice none 0 0, .bool false] 27)).heap.size wr sa sc ((List.range k).map (fun j : Nat => (j : Int)))) ∧ ∃ y : Later (w.alloc (.cells #[.int .i64 0, .string ⟨#[]⟩, .slice none 0 0, .bool false] 27)), wr = y.w) (fun v _ => (N - intOf v).toNat)
  case atStart => exact ⟨0, none, 0, rfl, by omega, HH, Own.nil encInt_len, Later.of⟩
  case round =>
    obtain ⟨k, sa, sc, rfl, hk, HQ', HO', y, rfl⟩ := hrel
    clear HH
    obtain ⟨e0, e1, e2, e3, k0, k1, k2, k3⟩ := HQ'.out.four
    have hlt := HQ'.out.ltN
    have hown := HO'.out
    have hacc : ((List.range k).map (fun j : Nat => (j : Int))).length = k := by simp
    by_cases hkN : k < N
    · have kc : decide ((k : Int) < (N : Int)) = true := by simp; omega
      go_wp2_with (first | ((with_reducible refine wp_region_later (by kernel_rfl) (by kernel_rfl) ?_); (repeat (first | go_big_quiet_step (first | fail) | simp only [kc])); refine wpQuiet_nil ?_; rintro _ ⟨x, rfl⟩) | ((at_builtin; refine wpList_app1 (enc := encInt) (w0 := _) (z := .int .i64 0) (size := 1) (bytes := 8) (k : Int) rfl (.tmp 18) (.tmp 20) rfl Try.underlying25 (by kernel_rfl) rfl (by decide) (by decide) rfl rfl hacc (Own.to hown inferInstance) rfl (encInt_one _) (by omega) ?_; intro sa1 sc1 x1 hown1 hgr1); have HQ1 := (HQ'.out.to inferInstance).kept (Own.to hown inferInstance) (by decide) hgr1; obtain ⟨e0', e1', e2', e3', k0', k1', k2', k3'⟩ := HQ1.four; have hlt1 := HQ1.ltN; have HH1 := Lib.hid HQ1; have HOW1 := Lib.hid hown1; clear HQ1 hown1 hgr1))
      go_roundw
      case rel => exact ⟨k + 1, sa1, sc1, by go_num, by omega, HH1.out.set 2 _, by rw [range_snoc]; exact HOW1.out.set HH1.out (by decide) 2 _, Later.of⟩
      case measure => simp [intOf]; omega
    · have kN : k = N := by omega
      subst kN
      have kc : decide ((k : Int) < (k : Int)) = false := by simp
      go_wp2_with (first | ((with_reducible refine wp_region_later (by kernel_rfl) (by kernel_rfl) ?_); (repeat (first | go_big_quiet_step (first | fail) | simp only [kc])); refine wpQuiet_nil ?_; rintro _ ⟨x, rfl⟩) | ((at_builtin; refine wpList_app1 (enc := encInt) (w0 := _) (z := .int .i64 0) (size := 1) (bytes := 8) (-1 : Int) rfl (.tmp 25) (.tmp 26) rfl Try.underlying25 (by kernel_rfl) rfl (by decide) (by decide) rfl rfl hacc (Own.to hown inferInstance) rfl (encInt_one _) (by omega) ?_; intro sa1 sc1 x1 hown1 hgr1); have HQ1 := (HQ'.out.to inferInstance).kept (Own.to hown inferInstance) (by decide) hgr1; obtain ⟨e0', e1', e2', e3', k0', k1', k2', k3'⟩ := HQ1.four; have hlt1 := HQ1.ltN; have HQ2 : Held (x1.set ⟨w.heap.size + 1, 2, none⟩ (.slice sa1 (k + 1) sc1)).w (w.heap.size + 1) [.int .i64 4, .string s, .slice sa1 (k + 1) sc1, .bool false] 27 := HQ1.set 2 _; have HO2 := hown1.set HQ1 (by decide) 2 (.slice sa1 (k + 1) sc1); obtain ⟨i0, i1, i2, i3, j0, j1, j2, j3⟩ := HQ2.four; have HH2 := Lib.hid (HQ1.set 2 (.slice sa1 (k + 1) sc1)); have HOW2 := Lib.hid HO2; clear HQ1 HQ2 HO2 hown1 hgr1))
      have hl1 : ((List.range k).map (fun j : Nat => (j : Int)) ++ [-1]).length = k + 1 := by simp
      refine (c_iFileOutOk HOW2.out.sl hl1 (by omega) (by omega)).mono ?_
      rintro _ _ ⟨rfl, y5, rfl⟩
      rw [← HQ.out, HOK.out]
      have h5 := HOW2.out.to (inferInstance : Grows _ y5.w)
      obtain ⟨m0, m1, m2, m3, p0, p1, p2, p3⟩ := (HH2.out.to (inferInstance : Grows _ y5.w)).four
      have H5 := Lib.hid h5; clear h5
      go_wp2_with (first | ((with_reducible refine wp_region_later (by kernel_rfl) (by kernel_rfl) ?_); (repeat (first | go_big_quiet_step (first | fail))); refine wpQuiet_nil ?_; rintro _ ⟨x, rfl⟩))
      refine bodyPost_ret (v := .tuple #[.agg #[.int .i64 4, .string s, .slice sa1 (k + 1) sc1, .bool false], .bool true]) ?_ rfl ⟨sa1, sc1, by rw [HQ.out, hl1], ?_, ?_⟩
      · simp [results, Try.results9, go_sem]
      · rw [HQ.out]
        refine Own.mono (B := w.heap.size + 1) ?_ (by omega)
        have O2 := H5.out
        simp only [World.size_alloc] at O2
        exact Own.lowS (Own.lowS (Own.lowS (Own.lowS O2 (by omega) _ _) (by omega) _ _) (by omega) _ _) (by omega) _ _
      · exact Later.of

end Go.Proofs.Ytjffbpdippbfkaa
