/- The contracts of AddPair. No condition but on lengths. -/
import Derived.Test.YtonclekalgaojaaSlots2
import Derived.Test.YtonclekalgaojaaReg
import Derived.Test.YtonclekalgaojaaMark
namespace Go.Proofs.Ytonclekalgaojaa
set_option linter.unusedVariables false
open Go.ChangeShapes Go.WideShapes Go.ChangeAt Go.RowKit

theorem encPair_one (x : Pair) : ∀ u ∈ encPair x, u.oneCell' = true := by
  intro u hu
  simp only [encPair, List.mem_cons, List.not_mem_nil, or_false] at hu
  rcases hu with rfl | rfl <;> rfl

theorem c_clonePair {a : Option Addr} {n c : Nat} {l : List Pair} {w : World} (hs : Sl encPair w a l) (hn : l.length = n) (hm : n ≤ 100000000) :
    Calls Try.prog 84 #[.slice a n c] w (GivesSl encPair 58 2 w l) := by
  cases a with
  | none =>
    have hl : l = [] := by
      cases l with
      | nil => rfl
      | cons y r => obtain ⟨b, off, h0, -⟩ := hs 0 y rfl; cases h0
    have hq := fun (w : World) => run_eql_slice_nil (P := Try.prog) w 33 58 none n c Try.underlying33
    simp only [Option.isNone] at hq
    have HL := Lib.hid hl; clear hl
    go_enter Try.func84, Try.ntmps84
    go_wp2_with (first | ((with_reducible refine wp_region_later (by kernel_rfl) (by kernel_rfl) ?_); (repeat (first | go_big_quiet_step (first | fail))); refine wpQuiet_nil ?_; rintro _ ⟨x, rfl⟩))
    go_ret
    exact GivesSl.nilOf encPair_len HL.out
  | some ad =>
    have hq := fun (w : World) => run_eql_slice_nil (P := Try.prog) w 33 58 (some ad) n c Try.underlying33
    simp only [Option.isNone] at hq
    go_enter Try.func84, Try.ntmps84
    go_wp2_with (first | ((with_reducible refine wp_region_later (by kernel_rfl) (by kernel_rfl) ?_); (repeat (first | go_big_quiet_step (first | fail))); refine wpQuiet_nil ?_; rintro _ ⟨x, rfl⟩) | (at_builtin; refine wpList_appS (enc := encPair) (w0 := w) (z := .agg #[.int .i64 0, .int .i64 0]) (size := 2) (bytes := 16) (n := 0) (l := []) rfl (.tmp 5) (.tmp 6) rfl Try.underlying33 (by kernel_rfl) rfl (by decide) (by decide) rfl rfl (fun h => by cases h) rfl hn (Own.emptyAt encPair_len (Nat.le_refl _) rfl) (hs.to inferInstance) encPair_one (by omega) ?_; intro sa1 sc1 x1 hown1 hgr1))
    go_ret
    rw [List.nil_append] at hown1
    exact ⟨sa1, sc1, by rw [hn]; first | rfl | simp, hown1, Later.of⟩

def addPair (l : List Pair) (p : Pair) : List Pair := if pairsOk (l ++ [p]) = true then l ++ [p] else l

set_option maxRecDepth 100000 in
set_option maxHeartbeats 2000000 in
theorem c_iAddPair {a : Option Addr} {n c : Nat} {l : List Pair} {p : Pair} {w : World} (hs : Sl encPair w a l) (hn : l.length = n) (hm : n ≤ 1048576) :
    Calls Try.prog 44 #[.slice a n c, .agg #[.int .i64 p.Board, .int .i64 p.True]] w (GivesSl encPair 58 2 w (addPair l p)) := by
  go_enter Try.func44, Try.ntmps44
  go_wp2_with (first | ((with_reducible refine wp_region_later (by kernel_rfl) (by kernel_rfl) ?_); (repeat (first | go_big_quiet_step (first | fail))); refine wpQuiet_nil ?_; rintro _ ⟨x, rfl⟩))
  go_region_law (first
    | (refine step_call rfl (f := 84) rfl Try.func84 (by kernel_rfl) (by kernel_rfl) [.slice a n c] rfl ((c_clonePair (hs.to inferInstance) hn (by omega)).mono ?_); rintro _ _ ⟨a1, c1, rfl, hown1, x1, rfl⟩; refine ⟨_, rfl, ?_⟩)
    | (refine step_of rfl (wp_app1 (enc := encPair) (w0 := w) (z := .agg #[.int .i64 0, .int .i64 0]) (size := 2) (bytes := 16) p (.tmp 7) (.tmp 9) rfl Try.underlying33 (by kernel_rfl) rfl (by decide) (by decide) rfl rfl hn (Own.to hown1 inferInstance) (by first | (refine blk_alloc _ _ _ ?_; (first | rfl | (simp; done))) | (refine blk_past (blk_alloc _ _ _ ?_); (first | rfl | (simp; done))) | (refine blk_later _ (blk_alloc _ _ _ ?_); (first | rfl | (simp; done))) | (refine blk_later _ (blk_past (blk_alloc _ _ _ ?_)); (first | rfl | (simp; done))) | (refine blk_past (blk_past (blk_alloc _ _ _ ?_)); (first | rfl | (simp; done))) | assumption) rfl (encPair_one _) (by omega) LeN.out inferInstance LeN.out ?_); intro sa2 sc2 x2 hown2 hgr2))
  all_goals
    have O2 := Lib.hid (hown2.mono (LeN.out (a := w.heap.size)))
    have hlen : (l ++ [p]).length = n + 1 := by simp [hn]
    clear hown1 hown2 hgr2
    cases q : pairsOk (l ++ [p])
    · have HF := Lib.hid (show addPair l p = l by simp [addPair, q])
      go_wp2_with (first | ((with_reducible refine wp_region_later (by kernel_rfl) (by kernel_rfl) ?_); (repeat (first | go_big_quiet_step (first | fail) | simp only [q])); refine wpQuiet_nil ?_; rintro _ ⟨x, rfl⟩))
      refine (c_iPairsOk (O2.out.to inferInstance).sl hlen (by omega)).mono ?_
      rintro _ _ ⟨rfl, x4, rfl⟩
      go_wp2_with (first | ((with_reducible refine wp_region_later (by kernel_rfl) (by kernel_rfl) ?_); (repeat (first | go_big_quiet_step (first | fail) | simp only [q])); refine wpQuiet_nil ?_; rintro _ ⟨x, rfl⟩))
      refine (c_clonePair (hs.to inferInstance) hn (by omega)).mono ?_
      rintro _ _ ⟨a3, c3, rfl, hown3, x5, rfl⟩
      have O3 := Lib.hid (hown3.mono (LeN.out (a := w.heap.size)))
      clear hown3
      go_wp2_with (first | ((with_reducible refine wp_region_later (by kernel_rfl) (by kernel_rfl) ?_); (repeat (first | go_big_quiet_step (first | fail) | simp only [q])); refine wpQuiet_nil ?_; rintro _ ⟨x, rfl⟩))
      go_ret
      exact ⟨a3, c3, by rw [HF.out, hn]; rfl, by rw [HF.out]; exact O3.out, Later.of⟩
    · have HF := Lib.hid (show addPair l p = l ++ [p] by simp [addPair, q])
      go_wp2_with (first | ((with_reducible refine wp_region_later (by kernel_rfl) (by kernel_rfl) ?_); (repeat (first | go_big_quiet_step (first | fail) | simp only [q])); refine wpQuiet_nil ?_; rintro _ ⟨x, rfl⟩))
      refine (c_iPairsOk (O2.out.to inferInstance).sl hlen (by omega)).mono ?_
      rintro _ _ ⟨rfl, x4, rfl⟩
      go_wp2_with (first | ((with_reducible refine wp_region_later (by kernel_rfl) (by kernel_rfl) ?_); (repeat (first | go_big_quiet_step (first | fail) | simp only [q])); refine wpQuiet_nil ?_; rintro _ ⟨x, rfl⟩))
      go_ret
      exact ⟨sa2, sc2, by rw [HF.out, hlen]; rfl, by rw [HF.out]; exact O2.out.to inferInstance, Later.of⟩

set_option maxRecDepth 100000 in
set_option maxHeartbeats 2000000 in
theorem c_sAddPair {a : Option Addr} {n c : Nat} {l : List Pair} {p : Pair} {w : World} (hs : Sl encPair w a l) (hnil : a = none → c = 0) (hn : l.length = n) (hm : n ≤ 1048576) :
    Calls Try.prog 42 #[.slice a n c, .agg #[.int .i64 p.Board, .int .i64 p.True]] w (GivesSl encPair 58 2 w (addPair l p)) := by
  have HNIL := Lib.hid hnil; clear hnil
  go_enter Try.func42, Try.ntmps42
  go_wp2_with (first | ((with_reducible refine wp_region_later (by kernel_rfl) (by kernel_rfl) ?_); (repeat (first | go_big_quiet_step (first | fail))); refine wpQuiet_nil ?_; rintro _ ⟨x, rfl⟩))
  go_region_law (first
    | (refine step_of rfl (wp_appS (enc := encPair) (B := (w.alloc (.cells #[.int .i64 p.Board, .int .i64 p.True] 58)).heap.size) (w0 := (w.alloc (.cells #[.int .i64 p.Board, .int .i64 p.True] 58))) (z := .agg #[.int .i64 0, .int .i64 0]) (size := 2) (bytes := 16) (l := []) (n := 0) (.tmp 6) (.tmp 7) rfl Try.underlying33 (by kernel_rfl) rfl (by decide) (by decide) rfl rfl HNIL.out rfl hn (Own.emptyBlk encPair_len (by simp <;> omega) (by first | (refine blk_alloc _ _ _ ?_; (first | rfl | (simp; done))) | (refine blk_past (blk_alloc _ _ _ ?_); (first | rfl | (simp; done))) | (refine blk_later _ (blk_alloc _ _ _ ?_); (first | rfl | (simp; done))) | (refine blk_later _ (blk_past (blk_alloc _ _ _ ?_)); (first | rfl | (simp; done))) | (refine blk_past (blk_past (blk_alloc _ _ _ ?_)); (first | rfl | (simp; done))) | assumption)) (hs.to inferInstance) encPair_one (by omega) LeN.out inferInstance LeN.out ?_); intro sa1 sc1 x1 hown1 hgr1; rw [List.nil_append] at hown1)
    | (refine step_of rfl (wp_app1 (enc := encPair) (w0 := w) (z := .agg #[.int .i64 0, .int .i64 0]) (size := 2) (bytes := 16) p (.tmp 8) (.tmp 10) rfl Try.underlying33 (by kernel_rfl) rfl (by decide) (by decide) rfl rfl hn (Own.to hown1 inferInstance) (by first | (refine blk_alloc _ _ _ ?_; (first | rfl | (simp; done))) | (refine blk_grown hgr1 (blk_alloc _ _ _ ?_) ?_ <;> (first | rfl | (simp [Value.ownBlock]; done))) | (refine blk_grown hgr1 (blk_past (blk_alloc _ _ _ ?_)) ?_ <;> (first | rfl | (simp [Value.ownBlock]; done)))) rfl (encPair_one _) (by omega) LeN.out inferInstance LeN.out ?_); intro sa2 sc2 x2 hown2 hgr2))
  all_goals
    have O2 := Lib.hid (hown2.mono (LeN.out (a := w.heap.size)))
    have hlen : (l ++ [p]).length = n + 1 := by simp [hn]
    clear hown1 hown2 hgr1 hgr2
    cases q : pairsOk (l ++ [p])
    · have HF := Lib.hid (show addPair l p = l by simp [addPair, q])
      go_wp2_with (first | ((with_reducible refine wp_region_later (by kernel_rfl) (by kernel_rfl) ?_); (repeat (first | go_big_quiet_step (first | fail) | simp only [q])); refine wpQuiet_nil ?_; rintro _ ⟨x, rfl⟩))
      refine (c_sPairsOk (O2.out.to inferInstance).sl hlen (by omega)).mono ?_
      rintro _ _ ⟨rfl, x4, rfl⟩
      go_wp2_with (first | ((with_reducible refine wp_region_later (by kernel_rfl) (by kernel_rfl) ?_); (repeat (first | go_big_quiet_step (first | fail) | simp only [q])); refine wpQuiet_nil ?_; rintro _ ⟨x, rfl⟩) | (at_builtin; refine wpList_appS (enc := encPair) (w0 := w) (z := .agg #[.int .i64 0, .int .i64 0]) (size := 2) (bytes := 16) (n := 0) (l := []) rfl (.tmp 15) (.tmp 16) rfl Try.underlying33 (by kernel_rfl) rfl (by decide) (by decide) rfl rfl HNIL.out rfl hn (Own.emptyAt encPair_len LeN.out rfl) (hs.to inferInstance) encPair_one (by omega) ?_; intro sa5 sc5 x5 hown5 hgr5; rw [List.nil_append] at hown5; have O5 := Lib.hid hown5; clear hown5 hgr5))
      go_ret
      exact ⟨sa5, sc5, by rw [HF.out, hn]; first | rfl | simp, by rw [HF.out]; exact O5.out, Later.of⟩
    · have HF := Lib.hid (show addPair l p = l ++ [p] by simp [addPair, q])
      go_wp2_with (first | ((with_reducible refine wp_region_later (by kernel_rfl) (by kernel_rfl) ?_); (repeat (first | go_big_quiet_step (first | fail) | simp only [q])); refine wpQuiet_nil ?_; rintro _ ⟨x, rfl⟩))
      refine (c_sPairsOk (O2.out.to inferInstance).sl hlen (by omega)).mono ?_
      rintro _ _ ⟨rfl, x4, rfl⟩
      go_wp2_with (first | ((with_reducible refine wp_region_later (by kernel_rfl) (by kernel_rfl) ?_); (repeat (first | go_big_quiet_step (first | fail) | simp only [q])); refine wpQuiet_nil ?_; rintro _ ⟨x, rfl⟩))
      go_ret
      exact ⟨sa2, sc2, by rw [HF.out, hlen]; rfl, by rw [HF.out]; exact O2.out.to inferInstance, Later.of⟩
end Go.Proofs.Ytonclekalgaojaa
