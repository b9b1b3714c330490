/- The walk of the law on HearMissing. No condition but on lengths. -/
import Derived.Test.YtjffbpdippbfkaaHearS
import Derived.Deep.RegionHeld3
namespace Go.Proofs.Ytjffbpdippbfkaa
set_option linter.unusedVariables false
open Go.ChangeShapes Go.WideShapes Go.ChangeAt Go.RowKit

theorem segsOf_le (m : Int) (l : List Int) : (segsOf m l).length ≤ l.length := List.length_filter_le _ _
theorem heardQ_le {f size file : Int} {q l : List Int} (hq : q.length ≤ 1048576) : (heardQ f size q file l).length ≤ 1048576 := by
  unfold heardQ
  split
  · split
    · simp
    · split
      · rename_i h
        simp only [fileOutOk, Bool.and_eq_true, decide_eq_true_eq] at h
        omega
      · exact hq
  · exact hq

set_option maxRecDepth 100000 in
set_option maxHeartbeats 2000000 in
theorem c_lFnExactHearMissing {a b : Option Addr} {n n2 c c2 : Nat} {f file : Int} {s : ByteArray} {d : Bool} {q l : List Int} {w : World} (hs : Sl encInt w a q) (hn : q.length = n) (hm : n ≤ 9223372036854775807) (hsz : s.size ≤ 9223372036854775807) (hs2 : Sl encInt w b l) (hn2 : l.length = n2) (hm2 : n2 ≤ 9223372036854775807) :
    Calls Try.prog 4 #[.agg #[.int .i64 f, .string s, .slice a n c, .bool d], .int .i64 file, .slice b n2 c2] w (Gives w (.bool true)) := by
  by_cases h0 : 1048576 < n2
  · go_enter Try.func4, Try.ntmps4
    go_wp2_with (first | ((with_reducible refine wp_region_later (by kernel_rfl) (by kernel_rfl) ?_); (repeat (first | go_big_quiet_step (first | fail))); refine wpQuiet_nil ?_; rintro _ ⟨x, rfl⟩))
    go_ret
    exact Gives.mk rfl
  by_cases h1 : (1048576 : Int) - s.size < 0
  · go_enter Try.func4, Try.ntmps4
    go_wp2_with (first | ((with_reducible refine wp_region_later (by kernel_rfl) (by kernel_rfl) ?_); (repeat (first | go_big_quiet_step (first | fail))); refine wpQuiet_nil ?_; rintro _ ⟨x, rfl⟩))
    refine (c_lszFileOut (by omega) (by omega) hm hsz).mono ?_
    rintro _ _ ⟨rfl, x, rfl⟩
    rw [if_pos (show (1048576 : Int) - s.size < 0 by omega)]
    go_wp2_with (first | ((with_reducible refine wp_region_later (by kernel_rfl) (by kernel_rfl) ?_); (repeat (first | go_big_quiet_step (first | fail))); refine wpQuiet_nil ?_; rintro _ ⟨x, rfl⟩))
    go_ret
    exact Gives.mk rfl
  by_cases h2 : (1048576 : Int) - s.size - n < 0
  · go_enter Try.func4, Try.ntmps4
    go_wp2_with (first | ((with_reducible refine wp_region_later (by kernel_rfl) (by kernel_rfl) ?_); (repeat (first | go_big_quiet_step (first | fail))); refine wpQuiet_nil ?_; rintro _ ⟨x, rfl⟩))
    refine (c_lszFileOut (by omega) (by omega) hm hsz).mono ?_
    rintro _ _ ⟨rfl, x, rfl⟩
    rw [if_neg (show ¬ (1048576 : Int) - s.size < 0 by omega), if_pos (show (1048576 : Int) - s.size - n < 0 by omega)]
    go_wp2_with (first | ((with_reducible refine wp_region_later (by kernel_rfl) (by kernel_rfl) ?_); (repeat (first | go_big_quiet_step (first | fail))); refine wpQuiet_nil ?_; rintro _ ⟨x, rfl⟩))
    go_ret
    exact Gives.mk rfl
  have hmn : n ≤ 1048576 := by omega
  have hmn2 : n2 ≤ 1048576 := by omega
  have hms : s.size ≤ 1048576 := by omega
  have hHle := heardQ_le (f := f) (size := s.size) (file := file) (l := l) (show q.length ≤ 1048576 by omega)
  have he := eqAll_self eqInt_self l
  obtain ⟨Q, hQ⟩ : ∃ Q, heardQ f s.size q file l = Q := ⟨_, rfl⟩
  obtain ⟨E, hE⟩ : ∃ E, heardD f s.size q d file l = E := ⟨_, rfl⟩
  rw [hQ] at hHle
  have HQE := Lib.hid (And.intro hQ hE); clear hQ hE
  go_enter Try.func4, Try.ntmps4
  go_wp2_with (first | ((with_reducible refine wp_region_later (by kernel_rfl) (by kernel_rfl) ?_); (repeat (first | go_big_quiet_step (first | fail))); refine wpQuiet_nil ?_; rintro _ ⟨x, rfl⟩))
  refine (c_lszFileOut (by omega) (by omega) hm hsz).mono ?_
  rintro _ _ ⟨rfl, x0, rfl⟩
  rw [if_neg (show ¬ (1048576 : Int) - s.size < 0 by omega), if_neg (show ¬ (1048576 : Int) - s.size - n < 0 by omega)]
  go_wp2_with (first | ((with_reducible refine wp_region_later (by kernel_rfl) (by kernel_rfl) ?_); (repeat (first | go_big_quiet_step (first | fail))); refine wpQuiet_nil ?_; rintro _ ⟨x, rfl⟩))
  refine (c_ltoFileOut (hs.to inferInstance) hn hmn).mono ?_
  rintro _ _ ⟨a1, c1, rfl, o1, y1, rfl⟩
  rw [hn]
  have s1 := o1.sl
  have n1 := Lib.hid o1.nilcap
  clear o1
  go_wp2_with (first | ((with_reducible refine wp_region_later (by kernel_rfl) (by kernel_rfl) ?_); (repeat (first | go_big_quiet_step (first | fail))); refine wpQuiet_nil ?_; rintro _ ⟨x, rfl⟩))
  refine (c_ltoIntS (hs2.to inferInstance) hn2 hmn2).mono ?_
  rintro _ _ ⟨a2, c2, rfl, o2, y2, rfl⟩
  rw [hn2]
  have s2 := o2.sl
  clear o2
  go_wp2_with (first | ((with_reducible refine wp_region_later (by kernel_rfl) (by kernel_rfl) ?_); (repeat (first | go_big_quiet_step (first | fail))); refine wpQuiet_nil ?_; rintro _ ⟨x, rfl⟩))
  refine (c_sHearMissing (s1.to inferInstance) (s2.to inferInstance) n1.out hn hn2 hmn hmn2 hms).mono ?_
  rintro _ _ ⟨aw, cw, rfl, ow, yw, rfl⟩
  rw [HQE.out.1] at ow ⊢
  rw [HQE.out.2]
  obtain ⟨Zw, hZw⟩ := Later.of (w := (w.alloc (.cells #[.int .i64 f, .string s, .slice a n c, .bool d] 45))) (W := yw.w)
  replace ow := ow.mono (B' := (w.alloc (.cells #[.int .i64 f, .string s, .slice a n c, .bool d] 45)).heap.size) LeN.out
  have iw := ow.among
  rw [hZw] at ow iw ⊢
  clear hZw yw s1 s2 n1 y1 y2
  go_wp2_with (first | ((with_reducible refine wp_region_later (by kernel_rfl) (by kernel_rfl) ?_); (repeat (first | go_big_quiet_step (first | fail))); refine wpQuiet_nil ?_; rintro _ ⟨x, rfl⟩))
  refine (c_ltoFileOut (hs.to inferInstance) hn hmn).mono ?_
  rintro _ _ ⟨ax, cx, rfl, ox, yx, rfl⟩
  rw [hn]
  go_wp2_with (first | ((with_reducible refine wp_region_later (by kernel_rfl) (by kernel_rfl) ?_); (repeat (first | go_big_quiet_step (first | fail))); refine wpQuiet_nil ?_; rintro _ ⟨x, rfl⟩))
  refine (c_ltoIntS (hs2.to inferInstance) hn2 hmn2).mono ?_
  rintro _ _ ⟨ay, cy, rfl, oy, yy, rfl⟩
  rw [hn2]
  go_wp2_with (first | ((with_reducible refine wp_region_later (by kernel_rfl) (by kernel_rfl) ?_); (repeat (first | go_big_quiet_step (first | fail))); refine wpQuiet_nil ?_; rintro _ ⟨x, rfl⟩))
  refine (c_iHearMissing ((ox.to inferInstance).sl) oy.sl hn hn2 hmn hmn2 hms).mono ?_
  rintro _ _ ⟨ag, cg, rfl, og, yg, rfl⟩
  rw [HQE.out.1] at og ⊢
  rw [HQE.out.2]
  have H8 := (Held.new Zw.w [.int .i64 f, .string s, .slice aw Q.length cw, .bool E] 27 _ rfl).to (inferInstance : Grows _ yg.w)
  have H9 := (Held.new yx.w [.int .i64 f, .string s, .slice ax n cx, .bool d] 27 _ rfl).to (inferInstance : Grows _ yg.w)
  have iy := oy.among
  have ix := ox.among
  have ig := og.among
  have pw := ow.to (inferInstance : Grows Zw.w yg.w)
  have px := ox.to (inferInstance : Grows yx.w yg.w)
  have py := oy.to (inferInstance : Grows yy.w yg.w)
  obtain ⟨Z, hZ⟩ := Later.of (w := (w.alloc (.cells #[.int .i64 f, .string s, .slice a n c, .bool d] 45))) (W := yg.w)
  rw [hZ] at H8 H9 pw px py og ig ⊢
  clear hZ
  obtain ⟨e80, e81, e82, e83, -⟩ := H8.four
  obtain ⟨e90, e91, e92, e93, -⟩ := H9.four
  go_wp2_with (first | ((with_reducible refine wp_region_later (by kernel_rfl) (by kernel_rfl) ?_); (repeat (first | go_big_quiet_step (first | fail))); refine wpQuiet_nil ?_; rintro _ ⟨x, rfl⟩))
  refine (c_leqFileOut ((og.to inferInstance).sl) ((pw.to inferInstance).sl) rfl rfl (by omega) (by omega) rfl rfl rfl rfl).mono ?_
  rintro _ _ ⟨rfl, z1, rfl⟩
  go_wp2_with (first | ((with_reducible refine wp_region_later (by kernel_rfl) (by kernel_rfl) ?_); (repeat (first | go_big_quiet_step (first | fail))); refine wpQuiet_nil ?_; rintro _ ⟨x, rfl⟩))
  go_region_held3 (fun W : World => W.cell? ⟨yx.w.heap.size, 0, none⟩ = some (.int .i64 f) ∧ W.cell? ⟨yx.w.heap.size, 1, none⟩ = some (.string s) ∧ W.cell? ⟨yx.w.heap.size, 2, none⟩ = some (.slice ax n cx) ∧ W.cell? ⟨yx.w.heap.size, 3, none⟩ = some (.bool d) ∧ W.cell? ⟨w.heap.size, 0, none⟩ = some (.int .i64 f) ∧ W.cell? ⟨w.heap.size, 1, none⟩ = some (.string s) ∧ W.cell? ⟨w.heap.size, 2, none⟩ = some (.slice a n c) ∧ W.cell? ⟨w.heap.size, 3, none⟩ = some (.bool d)) (first | ((try dsimp only); (refine ⟨?_, ?_, ?_, ?_, ?_, ?_, ?_, ?_⟩ <;> go_simp))) (first
    | (go_at_call 22; refine (c_ltoFileOut (hs.to inferInstance) hn hmn).mono ?_; rintro _ _ ⟨a4, c4, rfl, o4, y4, rfl⟩; have s4 := o4.sl; clear o4)
    | (go_at_call 24; refine (c_leqFileOut ((px.to inferInstance).sl) (s4.to inferInstance) hn hn (by omega) (by omega) rfl rfl rfl rfl).mono ?_; rintro _ _ ⟨rfl, z2, rfl⟩))
  go_wp2_with (first | ((with_reducible refine wp_region_later (by kernel_rfl) (by kernel_rfl) ?_); (repeat (first | go_big_quiet_step (first | fail))); refine wpQuiet_nil ?_; rintro _ ⟨x, rfl⟩))
  refine (c_ltoIntS (hs2.to inferInstance) hn2 hmn2).mono ?_
  rintro _ _ ⟨a5, c5, rfl, o5, y5, rfl⟩
  rw [hn2]
  have s5 := o5.sl
  clear o5
  go_wp2_with (first | ((with_reducible refine wp_region_later (by kernel_rfl) (by kernel_rfl) ?_); (repeat (first | go_big_quiet_step (first | fail))); refine wpQuiet_nil ?_; rintro _ ⟨x, rfl⟩))
  refine (c_leqIntS ((py.to inferInstance).sl) (s5.to inferInstance) hn2 hn2 (by omega) (by omega)).mono ?_
  rintro _ _ ⟨rfl, z5, rfl⟩
  go_wp2_with (first | ((with_reducible refine wp_region_later (by kernel_rfl) (by kernel_rfl) ?_); (repeat (first | go_big_quiet_step (first | fail))); refine wpQuiet_nil ?_; rintro _ ⟨x, rfl⟩))
  have H11 := Held.new Z.w [.int .i64 f, .string s, .slice ag Q.length cg, .bool E] 27 _ rfl
  refine (c_lmarkFileOut (px.to inferInstance) hn hmn (by omega) (by omega)).mono ?_
  rintro _ w1 ⟨rfl, hgr, mx⟩
  have K8 := (H8.to inferInstance).kept (px.to inferInstance) (by decide) hgr
  have K11 := (H11.to inferInstance).kept (px.to inferInstance) (by decide) hgr
  have qw := (pw.to inferInstance).keep hgr iw ix (by first | exact .inl inferInstance | exact .inr inferInstance)
  have qy := (py.to inferInstance).keep hgr iy ix (by first | exact .inl inferInstance | exact .inr inferInstance)
  have qg := (og.to inferInstance).keep hgr ig ix (by first | exact .inl inferInstance | exact .inr inferInstance)
  obtain ⟨z6, rfl⟩ := Later.marked (w := (w.alloc (.cells #[.int .i64 f, .string s, .slice a n c, .bool d] 45))) hgr ix inferInstance inferInstance
  clear hgr mx pw py og px H8 H9 H11 e80 e81 e82 e83 e90 e91 e92 e93
  go_wp2_with (first | ((with_reducible refine wp_region_later (by kernel_rfl) (by kernel_rfl) ?_); (repeat (first | go_big_quiet_step (first | fail))); refine wpQuiet_nil ?_; rintro _ ⟨x, rfl⟩))
  refine (c_lmarkIntS qy hn2 hmn2 (by omega) (by omega)).mono ?_
  rintro _ w2 ⟨rfl, hgr, my⟩
  replace K8 := K8.kept qy (by decide) hgr
  replace K11 := K11.kept qy (by decide) hgr
  replace qw := qw.keep hgr iw iy (by first | exact .inl inferInstance | exact .inr inferInstance)
  replace qg := qg.keep hgr ig iy (by first | exact .inl inferInstance | exact .inr inferInstance)
  obtain ⟨z7, rfl⟩ := Later.marked (w := (w.alloc (.cells #[.int .i64 f, .string s, .slice a n c, .bool d] 45))) hgr iy inferInstance inferInstance
  clear hgr my qy
  obtain ⟨e80, e81, e82, e83, -⟩ := K8.four
  obtain ⟨e90, e91, e92, e93, -⟩ := K11.four
  go_wp2_with (first | ((with_reducible refine wp_region_later (by kernel_rfl) (by kernel_rfl) ?_); (repeat (first | go_big_quiet_step (first | fail))); refine wpQuiet_nil ?_; rintro _ ⟨x, rfl⟩))
  refine (c_leqFileOut ((qg.to inferInstance).sl) ((qw.to inferInstance).sl) rfl rfl (by omega) (by omega) rfl rfl rfl rfl).mono ?_
  rintro _ _ ⟨rfl, z8, rfl⟩
  go_wp2_with (first | ((with_reducible refine wp_region_later (by kernel_rfl) (by kernel_rfl) ?_); (repeat (first | go_big_quiet_step (first | fail))); refine wpQuiet_nil ?_; rintro _ ⟨x, rfl⟩))
  refine (c_lmarkFileOut (qg.to inferInstance) rfl hHle (by omega) (by omega)).mono ?_
  rintro _ w3 ⟨rfl, hgr, mg⟩
  have L8 := (K8.to inferInstance).kept (qg.to inferInstance) (by decide) hgr
  have L11 := (K11.to inferInstance).kept (qg.to inferInstance) (by decide) hgr
  have rw' := (qw.to inferInstance).keep hgr iw ig (by first | exact .inl inferInstance | exact .inr inferInstance)
  obtain ⟨z9, rfl⟩ := Later.marked (w := (w.alloc (.cells #[.int .i64 f, .string s, .slice a n c, .bool d] 45))) hgr ig inferInstance inferInstance
  clear hgr K8 K11 qg qw e80 e81 e82 e83 e90 e91 e92 e93
  obtain ⟨e80, e81, e82, e83, -⟩ := L8.four
  obtain ⟨e90, e91, e92, e93, -⟩ := L11.four
  have sg := mg.sl
  have sw := rw'.sl
  go_wp2_with (first | ((with_reducible refine wp_region_later (by kernel_rfl) (by kernel_rfl) ?_); (repeat (first | go_big_quiet_step (first | fail))); refine wpQuiet_nil ?_; rintro _ ⟨x, rfl⟩))
  refine (c_lheldFileOut (sg.to inferInstance) hHle (by omega) (by omega)).mono ?_
  rintro _ _ ⟨rfl, z10, rfl⟩
  go_wp2_with (first | ((with_reducible refine wp_region_later (by kernel_rfl) (by kernel_rfl) ?_); (repeat (first | go_big_quiet_step (first | fail))); refine wpQuiet_nil ?_; rintro _ ⟨x, rfl⟩))
  refine (c_ltoFileOut (hs.to inferInstance) hn hmn).mono ?_
  rintro _ _ ⟨a6, c6, rfl, o6, y6, rfl⟩
  rw [hn]
  have s6 := o6.sl
  clear o6
  go_wp2_with (first | ((with_reducible refine wp_region_later (by kernel_rfl) (by kernel_rfl) ?_); (repeat (first | go_big_quiet_step (first | fail))); refine wpQuiet_nil ?_; rintro _ ⟨x, rfl⟩))
  refine (c_ltoIntS (hs2.to inferInstance) hn2 hmn2).mono ?_
  rintro _ _ ⟨a7, c7, rfl, o7, y7, rfl⟩
  rw [hn2]
  have s7 := o7.sl
  clear o7
  go_wp2_with (first | ((with_reducible refine wp_region_later (by kernel_rfl) (by kernel_rfl) ?_); (repeat (first | go_big_quiet_step (first | fail))); refine wpQuiet_nil ?_; rintro _ ⟨x, rfl⟩))
  refine (c_iHearMissing (s6.to inferInstance) (s7.to inferInstance) hn hn2 hmn hmn2 hms).mono ?_
  rintro _ _ ⟨ah, ch, rfl, oh, yh, rfl⟩
  rw [HQE.out.1] at oh ⊢
  rw [HQE.out.2]
  have sh := oh.sl
  clear oh
  go_wp2_with (first | ((with_reducible refine wp_region_later (by kernel_rfl) (by kernel_rfl) ?_); (repeat (first | go_big_quiet_step (first | fail))); refine wpQuiet_nil ?_; rintro _ ⟨x, rfl⟩))
  refine (c_leqFileOut (sh.to inferInstance) (sw.to inferInstance) rfl rfl (by omega) (by omega) rfl rfl rfl rfl).mono ?_
  rintro _ _ ⟨rfl, z11, rfl⟩
  go_wp2_with (first | ((with_reducible refine wp_region_later (by kernel_rfl) (by kernel_rfl) ?_); (repeat (first | go_big_quiet_step (first | fail))); refine wpQuiet_nil ?_; rintro _ ⟨x, rfl⟩))
  refine (c_lheldFileOut (sg.to inferInstance) hHle (by omega) (by omega)).mono ?_
  rintro _ _ ⟨rfl, z12, rfl⟩
  go_wp2_with (first | ((with_reducible refine wp_region_later (by kernel_rfl) (by kernel_rfl) ?_); (repeat (first | go_big_quiet_step (first | fail))); refine wpQuiet_nil ?_; rintro _ ⟨x, rfl⟩))
  go_ret
  exact Gives.mk rfl
end Go.Proofs.Ytjffbpdippbfkaa
