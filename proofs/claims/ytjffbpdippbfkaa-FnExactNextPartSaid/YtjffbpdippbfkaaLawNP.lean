/- The walk of the law on NextPart. No condition but on lengths. -/
import Derived.Test.YtjffbpdippbfkaaNextS
import Derived.Deep.RegionHeld3
namespace Go.Proofs.Ytjffbpdippbfkaa
set_option linter.unusedVariables false
open Go.ChangeShapes Go.WideShapes Go.ChangeAt Go.RowKit

theorem nextQ_le {f size : Int} {q : List Int} (hq : q.length ≤ 1048576) : (nextQ f size q).length ≤ 1048576 := by
  unfold nextQ
  split
  · simp; omega
  · exact hq

set_option maxRecDepth 100000 in
set_option maxHeartbeats 2000000 in
theorem c_lFnExactNextPart {a : Option Addr} {n c : Nat} {f : Int} {s : ByteArray} {d : Bool} {q : List Int} {w : World} (hs : Sl encInt w a q) (hn : q.length = n) (hm : n ≤ 9223372036854775807) (hsz : s.size ≤ 9223372036854775807) :
    Calls Try.prog 6 #[.agg #[.int .i64 f, .string s, .slice a n c, .bool d]] w (Gives w (.bool true)) := by
  by_cases h1 : (1048576 : Int) - s.size < 0
  · go_enter Try.func6, Try.ntmps6
    go_wp2_with (first | ((with_reducible refine wp_region_later (by kernel_rfl) (by kernel_rfl) ?_); (repeat (first | go_big_quiet_step (first | fail))); refine wpQuiet_nil ?_; rintro _ ⟨x, rfl⟩))
    refine (c_lszFileOut (by omega) (by omega) hm hsz).mono ?_
    rintro _ _ ⟨rfl, x, rfl⟩
    rw [if_pos (show (1048576 : Int) - s.size < 0 by omega)]
    go_wp2_with (first | ((with_reducible refine wp_region_later (by kernel_rfl) (by kernel_rfl) ?_); (repeat (first | go_big_quiet_step (first | fail))); refine wpQuiet_nil ?_; rintro _ ⟨x, rfl⟩))
    go_ret
    exact Gives.mk rfl
  by_cases h2 : (1048576 : Int) - s.size - n < 0
  · go_enter Try.func6, Try.ntmps6
    go_wp2_with (first | ((with_reducible refine wp_region_later (by kernel_rfl) (by kernel_rfl) ?_); (repeat (first | go_big_quiet_step (first | fail))); refine wpQuiet_nil ?_; rintro _ ⟨x, rfl⟩))
    refine (c_lszFileOut (by omega) (by omega) hm hsz).mono ?_
    rintro _ _ ⟨rfl, x, rfl⟩
    rw [if_neg (show ¬ (1048576 : Int) - s.size < 0 by omega), if_pos (show (1048576 : Int) - s.size - n < 0 by omega)]
    go_wp2_with (first | ((with_reducible refine wp_region_later (by kernel_rfl) (by kernel_rfl) ?_); (repeat (first | go_big_quiet_step (first | fail))); refine wpQuiet_nil ?_; rintro _ ⟨x, rfl⟩))
    go_ret
    exact Gives.mk rfl
  have hmn : n ≤ 1048576 := by omega
  have hms : s.size ≤ 1048576 := by omega
  have hHle := nextQ_le (f := f) (size := s.size) (show q.length ≤ 1048576 by omega)
  obtain ⟨Q, hQ⟩ : ∃ Q, nextQ f s.size q = Q := ⟨_, rfl⟩
  obtain ⟨NB, hB⟩ : ∃ B, nextB f s q = B := ⟨_, rfl⟩
  obtain ⟨E, hE⟩ : ∃ E, nextD f s.size q = E := ⟨_, rfl⟩
  rw [hQ] at hHle
  have HQE := Lib.hid (And.intro hQ (And.intro hB hE)); clear hQ hE hB
  go_enter Try.func6, Try.ntmps6
  go_wp2_with (first | ((with_reducible refine wp_region_later (by kernel_rfl) (by kernel_rfl) ?_); (repeat (first | go_big_quiet_step (first | fail))); refine wpQuiet_nil ?_; rintro _ ⟨x, rfl⟩))
  refine (c_lszFileOut (by omega) (by omega) hm hsz).mono ?_
  rintro _ _ ⟨rfl, x0, rfl⟩
  rw [if_neg (show ¬ (1048576 : Int) - s.size < 0 by omega), if_neg (show ¬ (1048576 : Int) - s.size - n < 0 by omega)]
  go_wp2_with (first | ((with_reducible refine wp_region_later (by kernel_rfl) (by kernel_rfl) ?_); (repeat (first | go_big_quiet_step (first | fail))); refine wpQuiet_nil ?_; rintro _ ⟨x, rfl⟩))
  refine (c_ltoFileOut (hs.to inferInstance) hn hmn).mono ?_
  rintro _ _ ⟨a1, c1, rfl, o1, y1, rfl⟩
  rw [hn]
  have s1 := o1.sl
  have n1 := Lib.hid o1.nilcap
  have p1 := o1.cap
  rw [hn] at p1
  clear o1
  go_wp2_with (first | ((with_reducible refine wp_region_later (by kernel_rfl) (by kernel_rfl) ?_); (repeat (first | go_big_quiet_step (first | fail))); refine wpQuiet_nil ?_; rintro _ ⟨x, rfl⟩))
  refine (c_sNextPart (s1.to inferInstance) n1.out hn p1 hmn hms).mono ?_
  rintro _ _ ⟨aw, cw, rfl, ow, yw, rfl⟩
  rw [HQE.out.1] at ow ⊢
  rw [HQE.out.2.1, HQE.out.2.2]
  obtain ⟨Zw, hZw⟩ := Later.of (w := (w.alloc (.cells #[.int .i64 f, .string s, .slice a n c, .bool d] 45))) (W := yw.w)
  replace ow := ow.mono (B' := (w.alloc (.cells #[.int .i64 f, .string s, .slice a n c, .bool d] 45)).heap.size) LeN.out
  have iw := ow.among
  rw [hZw] at ow iw ⊢
  clear hZw yw s1 n1 p1 y1
  go_wp2_with (first | ((with_reducible refine wp_region_later (by kernel_rfl) (by kernel_rfl) ?_); (repeat (first | go_big_quiet_step (first | fail))); refine wpQuiet_nil ?_; rintro _ ⟨x, rfl⟩))
  refine (c_ltoFileOut (hs.to inferInstance) hn hmn).mono ?_
  rintro _ _ ⟨ax, cx, rfl, ox, yx, rfl⟩
  rw [hn]
  have px0 := ox.cap
  rw [hn] at px0
  go_wp2_with (first | ((with_reducible refine wp_region_later (by kernel_rfl) (by kernel_rfl) ?_); (repeat (first | go_big_quiet_step (first | fail))); refine wpQuiet_nil ?_; rintro _ ⟨x, rfl⟩))
  refine (c_iNextPart ((ox.to inferInstance).sl) hn px0 hmn hms).mono ?_
  rintro _ _ ⟨ag, cg, rfl, og, yg, rfl⟩
  clear px0
  rw [HQE.out.1] at og ⊢
  rw [HQE.out.2.1, HQE.out.2.2]
  have H8 := (Held.new Zw.w [.int .i64 f, .string s, .slice aw Q.length cw, .bool d] 27 _ rfl).to (inferInstance : Grows _ yg.w)
  have H9 := (Held.new yx.w [.int .i64 f, .string s, .slice ax n cx, .bool d] 27 _ rfl).to (inferInstance : Grows _ yg.w)
  have ix := ox.among
  have ig := og.among
  have pw := ow.to (inferInstance : Grows Zw.w yg.w)
  have px := ox.to (inferInstance : Grows yx.w yg.w)
  obtain ⟨Z, hZ⟩ := Later.of (w := (w.alloc (.cells #[.int .i64 f, .string s, .slice a n c, .bool d] 45))) (W := yg.w)
  rw [hZ] at H8 H9 pw px og ig ⊢
  clear hZ
  obtain ⟨e80, e81, e82, e83, -⟩ := H8.four
  obtain ⟨e90, e91, e92, e93, -⟩ := H9.four
  go_wp2_with (first | ((with_reducible refine wp_region_later (by kernel_rfl) (by kernel_rfl) ?_); (repeat (first | go_big_quiet_step (first | fail))); refine wpQuiet_nil ?_; rintro _ ⟨x, rfl⟩))
  refine (c_leqFileOut ((og.to inferInstance).sl) ((pw.to inferInstance).sl) rfl rfl (by omega) (by omega) rfl rfl rfl rfl).mono ?_
  rintro _ _ ⟨rfl, z1, rfl⟩
  go_wp2_with (first | ((with_reducible refine wp_region_later (by kernel_rfl) (by kernel_rfl) ?_); (repeat (first | go_big_quiet_step (first | fail))); refine wpQuiet_nil ?_; rintro _ ⟨x, rfl⟩))
  go_region_held3 (fun W : World => W.cell? ⟨yx.w.heap.size, 0, none⟩ = some (.int .i64 f) ∧ W.cell? ⟨yx.w.heap.size, 1, none⟩ = some (.string s) ∧ W.cell? ⟨yx.w.heap.size, 2, none⟩ = some (.slice ax n cx) ∧ W.cell? ⟨yx.w.heap.size, 3, none⟩ = some (.bool d) ∧ W.cell? ⟨w.heap.size, 0, none⟩ = some (.int .i64 f) ∧ W.cell? ⟨w.heap.size, 1, none⟩ = some (.string s) ∧ W.cell? ⟨w.heap.size, 2, none⟩ = some (.slice a n c) ∧ W.cell? ⟨w.heap.size, 3, none⟩ = some (.bool d)) (first | ((try dsimp only); (refine ⟨?_, ?_, ?_, ?_, ?_, ?_, ?_, ?_⟩ <;> go_simp))) (first
    | (go_at_call 22; refine (c_ltoFileOut (hs.to inferInstance) hn hmn).mono ?_; rintro _ _ ⟨a4, c4, rfl, o4, y4, rfl⟩; have s4 := o4.sl; clear o4)
    | (go_at_call 24; refine (c_leqFileOut ((px.to inferInstance).sl) (s4.to inferInstance) hn hn (by omega) (by omega) rfl rfl rfl rfl).mono ?_; rintro _ _ ⟨rfl, z2, rfl⟩))
  go_wp2_with (first | ((with_reducible refine wp_region_later (by kernel_rfl) (by kernel_rfl) ?_); (repeat (first | go_big_quiet_step (first | fail))); refine wpQuiet_nil ?_; rintro _ ⟨x, rfl⟩))
  have H11 := Held.new Z.w [.int .i64 f, .string s, .slice ag Q.length cg, .bool d] 27 _ rfl
  refine (c_lmarkFileOut (px.to inferInstance) hn hmn (by omega) (by omega)).mono ?_
  rintro _ w1 ⟨rfl, hgr, mx⟩
  have K8 := (H8.to inferInstance).kept (px.to inferInstance) (by decide) hgr
  have K11 := (H11.to inferInstance).kept (px.to inferInstance) (by decide) hgr
  have qw := (pw.to inferInstance).keep hgr iw ix (by first | exact .inl inferInstance | exact .inr inferInstance)
  have qg := (og.to inferInstance).keep hgr ig ix (by first | exact .inl inferInstance | exact .inr inferInstance)
  obtain ⟨z6, rfl⟩ := Later.marked (w := (w.alloc (.cells #[.int .i64 f, .string s, .slice a n c, .bool d] 45))) hgr ix inferInstance inferInstance
  clear hgr mx pw og px H8 H9 H11 e80 e81 e82 e83 e90 e91 e92 e93
  obtain ⟨e80, e81, e82, e83, -⟩ := K8.four
  obtain ⟨e90, e91, e92, e93, -⟩ := K11.four
  go_wp2_with (first | ((with_reducible refine wp_region_later (by kernel_rfl) (by kernel_rfl) ?_); (repeat (first | go_big_quiet_step (first | fail))); refine wpQuiet_nil ?_; rintro _ ⟨x, rfl⟩))
  refine (c_leqFileOut ((qg.to inferInstance).sl) ((qw.to inferInstance).sl) rfl rfl (by omega) (by omega) rfl rfl rfl rfl).mono ?_
  rintro _ _ ⟨rfl, z8, rfl⟩
  go_wp2_with (first | ((with_reducible refine wp_region_later (by kernel_rfl) (by kernel_rfl) ?_); (repeat (first | go_big_quiet_step (first | fail))); refine wpQuiet_nil ?_; rintro _ ⟨x, rfl⟩))
  refine (c_lmarkFileOut (qg.to inferInstance) rfl hHle (by omega) (by omega)).mono ?_
  rintro _ w3 ⟨rfl, hgr, mg⟩
  have L8 := (K8.to inferInstance).kept (qg.to inferInstance) (by decide) hgr
  have L11 := (K11.to inferInstance).kept (qg.to inferInstance) (by decide) hgr
  have rw' := (qw.to inferInstance).keep hgr iw ig (by first | exact .inl inferInstance | exact .inr inferInstance)
  obtain ⟨z9, rfl⟩ := Later.marked (w := (w.alloc (.cells #[.int .i64 f, .string s, .slice a n c, .bool d] 45))) hgr ig inferInstance inferInstance
  clear hgr K8 K11 qg qw e80 e81 e82 e83 e90 e91 e92 e93
  obtain ⟨e80, e81, e82, e83, -⟩ := L8.four
  obtain ⟨e90, e91, e92, e93, -⟩ := L11.four
  have sg := mg.sl
  have sw := rw'.sl
  go_wp2_with (first | ((with_reducible refine wp_region_later (by kernel_rfl) (by kernel_rfl) ?_); (repeat (first | go_big_quiet_step (first | fail))); refine wpQuiet_nil ?_; rintro _ ⟨x, rfl⟩))
  refine (c_lheldFileOut (sg.to inferInstance) hHle (by omega) (by omega)).mono ?_
  rintro _ _ ⟨rfl, z10, rfl⟩
  go_wp2_with (first | ((with_reducible refine wp_region_later (by kernel_rfl) (by kernel_rfl) ?_); (repeat (first | go_big_quiet_step (first | fail))); refine wpQuiet_nil ?_; rintro _ ⟨x, rfl⟩))
  refine (c_ltoFileOut (hs.to inferInstance) hn hmn).mono ?_
  rintro _ _ ⟨a6, c6, rfl, o6, y6, rfl⟩
  rw [hn]
  have s6 := o6.sl
  have p6 := o6.cap
  rw [hn] at p6
  clear o6
  go_wp2_with (first | ((with_reducible refine wp_region_later (by kernel_rfl) (by kernel_rfl) ?_); (repeat (first | go_big_quiet_step (first | fail))); refine wpQuiet_nil ?_; rintro _ ⟨x, rfl⟩))
  refine (c_iNextPart (s6.to inferInstance) hn p6 hmn hms).mono ?_
  rintro _ _ ⟨ah, ch, rfl, oh, yh, rfl⟩
  rw [HQE.out.1] at oh ⊢
  rw [HQE.out.2.1, HQE.out.2.2]
  have sh := oh.sl
  clear oh
  go_wp2_with (first | ((with_reducible refine wp_region_later (by kernel_rfl) (by kernel_rfl) ?_); (repeat (first | go_big_quiet_step (first | fail))); refine wpQuiet_nil ?_; rintro _ ⟨x, rfl⟩))
  refine (c_leqFileOut (sh.to inferInstance) (sw.to inferInstance) rfl rfl (by omega) (by omega) rfl rfl rfl rfl).mono ?_
  rintro _ _ ⟨rfl, z11, rfl⟩
  go_wp2_with (first | ((with_reducible refine wp_region_later (by kernel_rfl) (by kernel_rfl) ?_); (repeat (first | go_big_quiet_step (first | fail))); refine wpQuiet_nil ?_; rintro _ ⟨x, rfl⟩))
  refine (c_lheldFileOut (sg.to inferInstance) hHle (by omega) (by omega)).mono ?_
  rintro _ _ ⟨rfl, z12, rfl⟩
  go_wp2_with (first | ((with_reducible refine wp_region_later (by kernel_rfl) (by kernel_rfl) ?_); (repeat (first | go_big_quiet_step (first | fail))); refine wpQuiet_nil ?_; rintro _ ⟨x, rfl⟩))
  go_ret
  exact Gives.mk rfl
end Go.Proofs.Ytjffbpdippbfkaa
