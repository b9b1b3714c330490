/- The walk of the law on HearPart. No condition but on lengths. -/
import Derived.Test.YtjffbpdippbfkaaHearP
import Derived.Deep.RegionHeld3
namespace Go.Proofs.Ytjffbpdippbfkaa
set_option linter.unusedVariables false
open Go.ChangeShapes Go.WideShapes Go.ChangeAt Go.RowKit

theorem szI_neg {l t : Int} (h : l - t < 0) : szI l t = -1 := if_pos h
theorem szI_pos {l t : Int} (h : ¬ l - t < 0) : szI l t = l - t := if_neg h
theorem totS_each {p : List ByteArray} {m : Int} (h : totS p ≤ m) : ∀ s ∈ p, (s.size : Int) ≤ m := fun s hs => Int.le_trans (totS_le hs) h

set_option maxRecDepth 100000 in
set_option maxHeartbeats 2000000 in
theorem c_lFnExactHearPart {a : Option Addr} {n c : Nat} {f z k : Int} {p : List ByteArray} {s : ByteArray} {w : World} (hs : Sl encStr w a p) (hn : p.length = n) (hm : n ≤ 9223372036854775807) (hsp : ∀ t ∈ p, t.size ≤ 9223372036854775807) (hsz : s.size ≤ 9223372036854775807) :
    Calls Try.prog 5 #[.agg #[.int .i64 f, .int .i64 z, .int .i64 k, .slice a n c], .string s] w (Gives w (.bool true)) := by
  have HSP := Lib.hid hsp; clear hsp
  by_cases h1 : 1048576 < s.size
  · go_enter Try.func5, Try.ntmps5
    go_wp2_with (first | ((with_reducible refine wp_region_later (by kernel_rfl) (by kernel_rfl) ?_); (repeat (first | go_big_quiet_step (first | fail))); refine wpQuiet_nil ?_; rintro _ ⟨x, rfl⟩))
    go_ret
    exact Gives.mk rfl
  by_cases h2 : (1048576 : Int) - (n + totS p) < 0
  · have HV := Lib.hid (szI_neg h2)
    go_enter Try.func5, Try.ntmps5
    go_wp2_with (first | ((with_reducible refine wp_region_later (by kernel_rfl) (by kernel_rfl) ?_); (repeat (first | go_big_quiet_step (first | fail))); refine wpQuiet_nil ?_; rintro _ ⟨x, rfl⟩))
    refine (c_lszFileIn (hs.to inferInstance) hn (by omega) (by omega) hm HSP.out).mono ?_
    rintro _ _ ⟨rfl, x, rfl⟩
    rw [HV.out]
    go_wp2_with (first | ((with_reducible refine wp_region_later (by kernel_rfl) (by kernel_rfl) ?_); (repeat (first | go_big_quiet_step (first | fail))); refine wpQuiet_nil ?_; rintro _ ⟨x, rfl⟩))
    go_ret
    exact Gives.mk rfl
  have ht0 := totS_nonneg p
  have hmn : n ≤ 1048576 := by omega
  have hms : s.size ≤ 1048576 := by omega
  have HPS := Lib.hid (show ∀ t ∈ p, t.size ≤ 1048576 from fun t ht => by have := totS_le ht; omega)
  have HV := Lib.hid (szI_pos h2)
  have hHle : (heardP f z k p s).length = n := by rw [heardP_length, hn]
  obtain ⟨Q, hQ⟩ : ∃ Q, heardP f z k p s = Q := ⟨_, rfl⟩
  obtain ⟨Z1, hB⟩ : ∃ B, heardZ f z k p s = B := ⟨_, rfl⟩
  obtain ⟨K1, hE⟩ : ∃ E, heardK f z k p s = E := ⟨_, rfl⟩
  rw [hQ] at hHle
  have HQE := Lib.hid (And.intro hQ (And.intro hB hE)); clear hQ hE hB
  have HL := Lib.hid hHle; clear hHle
  obtain ⟨v0, hv0⟩ : ∃ v, (1048576 : Int) - (n + totS p) = v := ⟨_, rfl⟩
  rw [hv0] at HV h2
  clear hv0 ht0
  go_enter Try.func5, Try.ntmps5
  go_wp2_with (first | ((with_reducible refine wp_region_later (by kernel_rfl) (by kernel_rfl) ?_); (repeat (first | go_big_quiet_step (first | fail))); refine wpQuiet_nil ?_; rintro _ ⟨x, rfl⟩))
  refine (c_lszFileIn (hs.to inferInstance) hn (by omega) (by omega) hm HSP.out).mono ?_
  rintro _ _ ⟨rfl, x0, rfl⟩
  rw [HV.out]
  go_wp2_with (first | ((with_reducible refine wp_region_later (by kernel_rfl) (by kernel_rfl) ?_); (repeat (first | go_big_quiet_step (first | fail))); refine wpQuiet_nil ?_; rintro _ ⟨x, rfl⟩))
  refine (c_ltoFileIn (hs.to inferInstance) hn hmn).mono ?_
  rintro _ _ ⟨a1, c1, rfl, o1, y1, rfl⟩
  rw [hn]
  have s1 := o1.sl
  have n1 := Lib.hid o1.nilcap
  clear o1
  go_wp2_with (first | ((with_reducible refine wp_region_later (by kernel_rfl) (by kernel_rfl) ?_); (repeat (first | go_big_quiet_step (first | fail))); refine wpQuiet_nil ?_; rintro _ ⟨x, rfl⟩))
  refine (c_sHearPart (s1.to inferInstance) n1.out hn hmn HPS.out hms).mono ?_
  rintro _ _ ⟨aw, cw, rfl, ow, yw, rfl⟩
  rw [HQE.out.1] at ow ⊢
  rw [HQE.out.2.1, HQE.out.2.2, HL.out]
  obtain ⟨Zw, hZw⟩ := Later.of (w := (w.alloc (.cells #[.int .i64 f, .int .i64 z, .int .i64 k, .slice a n c] 54))) (W := yw.w)
  replace ow := ow.mono (B' := (w.alloc (.cells #[.int .i64 f, .int .i64 z, .int .i64 k, .slice a n c] 54)).heap.size) LeN.out
  have iw := ow.among
  rw [hZw] at ow iw ⊢
  clear hZw yw s1 n1 y1
  go_wp2_with (first | ((with_reducible refine wp_region_later (by kernel_rfl) (by kernel_rfl) ?_); (repeat (first | go_big_quiet_step (first | fail))); refine wpQuiet_nil ?_; rintro _ ⟨x, rfl⟩))
  refine (c_ltoFileIn (hs.to inferInstance) hn hmn).mono ?_
  rintro _ _ ⟨ax, cx, rfl, ox, yx, rfl⟩
  rw [hn]
  go_wp2_with (first | ((with_reducible refine wp_region_later (by kernel_rfl) (by kernel_rfl) ?_); (repeat (first | go_big_quiet_step (first | fail))); refine wpQuiet_nil ?_; rintro _ ⟨x, rfl⟩))
  refine (c_iHearPart ((ox.to inferInstance).sl) hn hmn HPS.out hms).mono ?_
  rintro _ _ ⟨ag, cg, rfl, og, yg, rfl⟩
  rw [HQE.out.1] at og ⊢
  rw [HQE.out.2.1, HQE.out.2.2, HL.out]
  have H8 := (Held.new Zw.w [.int .i64 f, .int .i64 Z1, .int .i64 K1, .slice aw n cw] 32 _ rfl).to (inferInstance : Grows _ yg.w)
  have H9 := (Held.new yx.w [.int .i64 f, .int .i64 z, .int .i64 k, .slice ax n cx] 32 _ rfl).to (inferInstance : Grows _ yg.w)
  have ix := ox.among
  have ig := og.among
  have pw := ow.to (inferInstance : Grows Zw.w yg.w)
  have px := ox.to (inferInstance : Grows yx.w yg.w)
  obtain ⟨Z, hZ⟩ := Later.of (w := (w.alloc (.cells #[.int .i64 f, .int .i64 z, .int .i64 k, .slice a n c] 54))) (W := yg.w)
  rw [hZ] at H8 H9 pw px og ig ⊢
  clear hZ
  obtain ⟨e80, e81, e82, e83, -⟩ := H8.four
  obtain ⟨e90, e91, e92, e93, -⟩ := H9.four
  go_wp2_with (first | ((with_reducible refine wp_region_later (by kernel_rfl) (by kernel_rfl) ?_); (repeat (first | go_big_quiet_step (first | fail))); refine wpQuiet_nil ?_; rintro _ ⟨x, rfl⟩))
  refine (c_leqFileIn ((og.to inferInstance).sl) ((pw.to inferInstance).sl) HL.out HL.out (by omega) (by omega) rfl rfl rfl rfl).mono ?_
  rintro _ _ ⟨rfl, z1, rfl⟩
  go_wp2_with (first | ((with_reducible refine wp_region_later (by kernel_rfl) (by kernel_rfl) ?_); (repeat (first | go_big_quiet_step (first | fail))); refine wpQuiet_nil ?_; rintro _ ⟨x, rfl⟩))
  go_region_held3 (fun W : World => W.cell? ⟨yx.w.heap.size, 0, none⟩ = some (.int .i64 f) ∧ W.cell? ⟨yx.w.heap.size, 1, none⟩ = some (.int .i64 z) ∧ W.cell? ⟨yx.w.heap.size, 2, none⟩ = some (.int .i64 k) ∧ W.cell? ⟨yx.w.heap.size, 3, none⟩ = some (.slice ax n cx) ∧ W.cell? ⟨w.heap.size, 0, none⟩ = some (.int .i64 f) ∧ W.cell? ⟨w.heap.size, 1, none⟩ = some (.int .i64 z) ∧ W.cell? ⟨w.heap.size, 2, none⟩ = some (.int .i64 k) ∧ W.cell? ⟨w.heap.size, 3, none⟩ = some (.slice a n c)) (first | ((try dsimp only); (refine ⟨?_, ?_, ?_, ?_, ?_, ?_, ?_, ?_⟩ <;> go_simp))) (first
    | (go_at_call 31; refine (c_ltoFileIn (hs.to inferInstance) hn hmn).mono ?_; rintro _ _ ⟨a4, c4, rfl, o4, y4, rfl⟩; have s4 := o4.sl; clear o4)
    | (go_at_call 32; refine (c_leqFileIn ((px.to inferInstance).sl) (s4.to inferInstance) hn hn (by omega) (by omega) rfl rfl rfl rfl).mono ?_; rintro _ _ ⟨rfl, z2, rfl⟩))
  go_wp2_with (first | ((with_reducible refine wp_region_later (by kernel_rfl) (by kernel_rfl) ?_); (repeat (first | go_big_quiet_step (first | fail))); refine wpQuiet_nil ?_; rintro _ ⟨x, rfl⟩))
  have H11 := Held.new Z.w [.int .i64 f, .int .i64 Z1, .int .i64 K1, .slice ag n cg] 32 _ rfl
  refine (c_lmarkFileIn (px.to inferInstance) hn hmn (by omega) (by omega)).mono ?_
  rintro _ w1 ⟨rfl, hgr, mx⟩
  have K8 := (H8.to inferInstance).kept (px.to inferInstance) (by decide) hgr
  have K11 := (H11.to inferInstance).kept (px.to inferInstance) (by decide) hgr
  have qw := (pw.to inferInstance).keep hgr iw ix (by first | exact .inl inferInstance | exact .inr inferInstance)
  have qg := (og.to inferInstance).keep hgr ig ix (by first | exact .inl inferInstance | exact .inr inferInstance)
  obtain ⟨z6, rfl⟩ := Later.marked (w := (w.alloc (.cells #[.int .i64 f, .int .i64 z, .int .i64 k, .slice a n c] 54))) hgr ix inferInstance inferInstance
  clear hgr mx pw og px H8 H9 H11 e80 e81 e82 e83 e90 e91 e92 e93
  obtain ⟨e80, e81, e82, e83, -⟩ := K8.four
  obtain ⟨e90, e91, e92, e93, -⟩ := K11.four
  go_wp2_with (first | ((with_reducible refine wp_region_later (by kernel_rfl) (by kernel_rfl) ?_); (repeat (first | go_big_quiet_step (first | fail))); refine wpQuiet_nil ?_; rintro _ ⟨x, rfl⟩))
  refine (c_leqFileIn ((qg.to inferInstance).sl) ((qw.to inferInstance).sl) HL.out HL.out (by omega) (by omega) rfl rfl rfl rfl).mono ?_
  rintro _ _ ⟨rfl, z8, rfl⟩
  go_wp2_with (first | ((with_reducible refine wp_region_later (by kernel_rfl) (by kernel_rfl) ?_); (repeat (first | go_big_quiet_step (first | fail))); refine wpQuiet_nil ?_; rintro _ ⟨x, rfl⟩))
  refine (c_lmarkFileIn (qg.to inferInstance) HL.out hmn (by omega) (by omega)).mono ?_
  rintro _ w3 ⟨rfl, hgr, mg⟩
  have L8 := (K8.to inferInstance).kept (qg.to inferInstance) (by decide) hgr
  have L11 := (K11.to inferInstance).kept (qg.to inferInstance) (by decide) hgr
  have rw' := (qw.to inferInstance).keep hgr iw ig (by first | exact .inl inferInstance | exact .inr inferInstance)
  obtain ⟨z9, rfl⟩ := Later.marked (w := (w.alloc (.cells #[.int .i64 f, .int .i64 z, .int .i64 k, .slice a n c] 54))) hgr ig inferInstance inferInstance
  clear hgr K8 K11 qg qw e80 e81 e82 e83 e90 e91 e92 e93
  obtain ⟨e80, e81, e82, e83, -⟩ := L8.four
  obtain ⟨e90, e91, e92, e93, -⟩ := L11.four
  have sg := mg.sl
  have sw := rw'.sl
  go_wp2_with (first | ((with_reducible refine wp_region_later (by kernel_rfl) (by kernel_rfl) ?_); (repeat (first | go_big_quiet_step (first | fail))); refine wpQuiet_nil ?_; rintro _ ⟨x, rfl⟩))
  refine (c_lheldFileIn (sg.to inferInstance) hmn (by omega) (by omega)).mono ?_
  rintro _ _ ⟨rfl, z10, rfl⟩
  go_wp2_with (first | ((with_reducible refine wp_region_later (by kernel_rfl) (by kernel_rfl) ?_); (repeat (first | go_big_quiet_step (first | fail))); refine wpQuiet_nil ?_; rintro _ ⟨x, rfl⟩))
  refine (c_ltoFileIn (hs.to inferInstance) hn hmn).mono ?_
  rintro _ _ ⟨a6, c6, rfl, o6, y6, rfl⟩
  rw [hn]
  have s6 := o6.sl
  clear o6
  go_wp2_with (first | ((with_reducible refine wp_region_later (by kernel_rfl) (by kernel_rfl) ?_); (repeat (first | go_big_quiet_step (first | fail))); refine wpQuiet_nil ?_; rintro _ ⟨x, rfl⟩))
  refine (c_iHearPart (s6.to inferInstance) hn hmn HPS.out hms).mono ?_
  rintro _ _ ⟨ah, ch, rfl, oh, yh, rfl⟩
  rw [HQE.out.1] at oh ⊢
  rw [HQE.out.2.1, HQE.out.2.2, HL.out]
  have sh := oh.sl
  clear oh
  go_wp2_with (first | ((with_reducible refine wp_region_later (by kernel_rfl) (by kernel_rfl) ?_); (repeat (first | go_big_quiet_step (first | fail))); refine wpQuiet_nil ?_; rintro _ ⟨x, rfl⟩))
  refine (c_leqFileIn (sh.to inferInstance) (sw.to inferInstance) HL.out HL.out (by omega) (by omega) rfl rfl rfl rfl).mono ?_
  rintro _ _ ⟨rfl, z11, rfl⟩
  go_wp2_with (first | ((with_reducible refine wp_region_later (by kernel_rfl) (by kernel_rfl) ?_); (repeat (first | go_big_quiet_step (first | fail))); refine wpQuiet_nil ?_; rintro _ ⟨x, rfl⟩))
  refine (c_lheldFileIn (sg.to inferInstance) hmn (by omega) (by omega)).mono ?_
  rintro _ _ ⟨rfl, z12, rfl⟩
  go_wp2_with (first | ((with_reducible refine wp_region_later (by kernel_rfl) (by kernel_rfl) ?_); (repeat (first | go_big_quiet_step (first | fail))); refine wpQuiet_nil ?_; rintro _ ⟨x, rfl⟩))
  go_ret
  exact Gives.mk rfl
end Go.Proofs.Ytjffbpdippbfkaa
