/- The walk of the law on PlanPasses. No condition but on lengths. -/
import Derived.Test.YtonclekalgaojaaPlanS
import Derived.Test.YtonclekalgaojaaLaws1
namespace Go.Proofs.Ytonclekalgaojaa
set_option linter.unusedVariables false
open Go.ChangeShapes Go.WideShapes Go.ChangeAt Go.RowKit

theorem planFrom_len {p s l : Int} {list : List Request} : ∀ {f : Nat} {t : Int} {gs : List Int}, (planFrom p s l list f t gs).length ≤ f
  | 0, t, gs => by simp [planFrom]
  | f + 1, t, gs => by
    rw [planFrom_step, List.length_append]
    have := planFrom_len (p := p) (s := s) (l := l) (list := list) (f := f) (t := t + 1) (gs := stepLeft p s l list t gs)
    rcases step_cases p s l t list gs with ⟨h1, -, -⟩ | ⟨hv, k, r, g, h1, h2, h3, h4, -, -⟩
    · rw [h1]; simp; omega
    · rw [h4]; simp; omega
theorem planAll_len {p s l : Int} {list : List Request} : (planAll p s l list).length ≤ 1000001 := by
  unfold planAll
  split
  · exact planFrom_len
  · simp

set_option maxRecDepth 100000 in
set_option maxHeartbeats 2000000 in
theorem c_lFnExactPlanPasses {p : Option Addr} {n c : Nat} {pp ss ll : Int} {l : List Request} {w : World} (hs : Sl encRequest w p l) (hn : l.length = n) (hm : n ≤ 9223372036854775807) :
    Calls Try.prog 16 #[.agg #[.int .i64 pp, .int .i64 ss, .int .i64 ll], .slice p n c] w (Gives w (.bool true)) := by
  have he := eqAll_self eqRequest_self l
  by_cases h : 1048576 < n
  · go_enter Try.func16, Try.ntmps16
    go_wp2_with (first | ((with_reducible refine wp_region_later (by kernel_rfl) (by kernel_rfl) ?_); (repeat (first | go_big_quiet_step (first | (go_at_call 17; exact Gives.quiet (c_lszRequestS (by omega) (by omega) (by omega)))))); refine wpQuiet_nil ?_; rintro _ ⟨x, rfl⟩) | (go_at_call 17; refine (c_lszRequestS (by omega) (by omega) (by omega)).mono ?_; rintro _ _ ⟨rfl, x, rfl⟩))
    go_ret
    exact Gives.mk rfl
  have hle := planAll_len (p := pp) (s := ss) (l := ll) (list := l)
  have he3 := eqAll_self eqSlot_self (planAll pp ss ll l)
  have hMl : (planAll pp ss ll l).length ≤ 1048576 := by omega
  go_enter Try.func16, Try.ntmps16
  go_wp2_with (first | ((with_reducible refine wp_region_later (by kernel_rfl) (by kernel_rfl) ?_); (repeat (first | go_big_quiet_step (first | (go_at_call 17; exact Gives.quiet (c_lszRequestS (by omega) (by omega) (by omega))) | (go_at_call 61; exact Gives.quiet (c_ltoOrbit))))); refine wpQuiet_nil ?_; rintro _ ⟨x, rfl⟩) | (go_at_call 17; refine (c_lszRequestS (by omega) (by omega) (by omega)).mono ?_; rintro _ _ ⟨rfl, x, rfl⟩) | (go_at_call 61; refine (c_ltoOrbit).mono ?_; rintro _ _ ⟨rfl, x, rfl⟩))
  refine (c_ltoRequestS (by first | assumption | (apply Sl.to <;> first | assumption | infer_instance) | omega) (by first | assumption | (apply Sl.to <;> first | assumption | infer_instance) | omega) (by first | assumption | (apply Sl.to <;> first | assumption | infer_instance) | omega)).mono ?_
  rintro _ _ ⟨a_r1, c_r1, rfl, o_r1, y_r1, rfl⟩
  have s_r1 := o_r1.sl; have k_r1 := o_r1.cap; have i_r1 := o_r1.among
  go_wp2_with (first | ((with_reducible refine wp_region_later (by kernel_rfl) (by kernel_rfl) ?_); (repeat (first | go_big_quiet_step (first | fail))); refine wpQuiet_nil ?_; rintro _ ⟨x, rfl⟩))
  refine (c_sPlanPasses (by first | assumption | (apply Sl.to <;> first | assumption | infer_instance) | omega) (by first | assumption | (apply Sl.to <;> first | assumption | infer_instance) | omega) (by first | assumption | (apply Sl.to <;> first | assumption | infer_instance) | omega)).mono ?_
  rintro _ _ ⟨a_p1, c_p1, rfl, o_p1, y_p1, rfl⟩
  have s_p1 := o_p1.sl; have k_p1 := o_p1.cap; have i_p1 := o_p1.among
  go_wp2_with (first | ((with_reducible refine wp_region_later (by kernel_rfl) (by kernel_rfl) ?_); (repeat (first | go_big_quiet_step (first | fail))); refine wpQuiet_nil ?_; rintro _ ⟨x, rfl⟩))
  refine (c_ltoRequestS (by first | assumption | (apply Sl.to <;> first | assumption | infer_instance) | omega) (by first | assumption | (apply Sl.to <;> first | assumption | infer_instance) | omega) (by first | assumption | (apply Sl.to <;> first | assumption | infer_instance) | omega)).mono ?_
  rintro _ _ ⟨a_r2, c_r2, rfl, o_r2, y_r2, rfl⟩
  have s_r2 := o_r2.sl; have k_r2 := o_r2.cap; have i_r2 := o_r2.among
  go_wp2_with (first | ((with_reducible refine wp_region_later (by kernel_rfl) (by kernel_rfl) ?_); (repeat (first | go_big_quiet_step (first | (go_at_call 61; exact Gives.quiet (c_ltoOrbit))))); refine wpQuiet_nil ?_; rintro _ ⟨x, rfl⟩) | (go_at_call 61; refine (c_ltoOrbit).mono ?_; rintro _ _ ⟨rfl, x, rfl⟩))
  refine (c_iPlanPasses (by first | assumption | (apply Sl.to <;> first | assumption | infer_instance) | omega) (by first | assumption | (apply Sl.to <;> first | assumption | infer_instance) | omega) (by first | assumption | (apply Sl.to <;> first | assumption | infer_instance) | omega) (by first | assumption | (apply Sl.to <;> first | assumption | infer_instance) | omega)).mono ?_
  rintro _ _ ⟨a_p2, c_p2, rfl, o_p2, y_p2, rfl⟩
  have s_p2 := o_p2.sl; have k_p2 := o_p2.cap; have i_p2 := o_p2.among
  go_wp2_with (first | ((with_reducible refine wp_region_later (by kernel_rfl) (by kernel_rfl) ?_); (repeat (first | go_big_quiet_step (first | (go_at_call 55; exact Gives.quiet (c_leqSlotS (by first | assumption | (apply Sl.to <;> first | assumption | infer_instance) | omega) (by first | assumption | (apply Sl.to <;> first | assumption | infer_instance) | omega) (by first | assumption | (apply Sl.to <;> first | assumption | infer_instance) | omega) (by first | assumption | (apply Sl.to <;> first | assumption | infer_instance) | omega) (by first | assumption | (apply Sl.to <;> first | assumption | infer_instance) | omega) (by first | assumption | (apply Sl.to <;> first | assumption | infer_instance) | omega)))))); refine wpQuiet_nil ?_; rintro _ ⟨x, rfl⟩) | (go_at_call 55; refine (c_leqSlotS (by first | assumption | (apply Sl.to <;> first | assumption | infer_instance) | omega) (by first | assumption | (apply Sl.to <;> first | assumption | infer_instance) | omega) (by first | assumption | (apply Sl.to <;> first | assumption | infer_instance) | omega) (by first | assumption | (apply Sl.to <;> first | assumption | infer_instance) | omega) (by first | assumption | (apply Sl.to <;> first | assumption | infer_instance) | omega) (by first | assumption | (apply Sl.to <;> first | assumption | infer_instance) | omega)).mono ?_; rintro _ _ ⟨rfl, x, rfl⟩))
  refine (c_ltoRequestS (by first | assumption | (apply Sl.to <;> first | assumption | infer_instance) | omega) (by first | assumption | (apply Sl.to <;> first | assumption | infer_instance) | omega) (by first | assumption | (apply Sl.to <;> first | assumption | infer_instance) | omega)).mono ?_
  rintro _ _ ⟨a_r3, c_r3, rfl, o_r3, y_r3, rfl⟩
  have s_r3 := o_r3.sl; have k_r3 := o_r3.cap; have i_r3 := o_r3.among
  go_wp2_with (first | ((with_reducible refine wp_region_later (by kernel_rfl) (by kernel_rfl) ?_); (repeat (first | go_big_quiet_step (first | (go_at_call 21; exact Gives.quiet (c_leqRequestS (by first | assumption | (apply Sl.to <;> first | assumption | infer_instance) | omega) (by first | assumption | (apply Sl.to <;> first | assumption | infer_instance) | omega) (by first | assumption | (apply Sl.to <;> first | assumption | infer_instance) | omega) (by first | assumption | (apply Sl.to <;> first | assumption | infer_instance) | omega) (by first | assumption | (apply Sl.to <;> first | assumption | infer_instance) | omega) (by first | assumption | (apply Sl.to <;> first | assumption | infer_instance) | omega)))))); refine wpQuiet_nil ?_; rintro _ ⟨x, rfl⟩) | (go_at_call 21; refine (c_leqRequestS (by first | assumption | (apply Sl.to <;> first | assumption | infer_instance) | omega) (by first | assumption | (apply Sl.to <;> first | assumption | infer_instance) | omega) (by first | assumption | (apply Sl.to <;> first | assumption | infer_instance) | omega) (by first | assumption | (apply Sl.to <;> first | assumption | infer_instance) | omega) (by first | assumption | (apply Sl.to <;> first | assumption | infer_instance) | omega) (by first | assumption | (apply Sl.to <;> first | assumption | infer_instance) | omega)).mono ?_; rintro _ _ ⟨rfl, x, rfl⟩))
  refine (c_lmarkRequestS (Own.to o_r2 inferInstance) (by first | assumption | (apply Sl.to <;> first | assumption | infer_instance) | omega) (by first | assumption | (apply Sl.to <;> first | assumption | infer_instance) | omega) (by omega) (by omega)).mono ?_
  rintro _ _ ⟨rfl, hgr, m_r2⟩
  replace o_p1 := (Own.to o_p1 inferInstance).keep hgr i_p1 i_r2 (by first | exact .inl inferInstance | exact .inr inferInstance)
  replace o_p2 := (Own.to o_p2 inferInstance).keep hgr i_p2 i_r2 (by first | exact .inl inferInstance | exact .inr inferInstance)
  obtain ⟨z_r2, rfl⟩ := Later.marked (w := w.alloc (.cells #[.int .i64 pp, .int .i64 ss, .int .i64 ll] 79)) hgr i_r2 inferInstance inferInstance
  clear hgr; replace o_r2 := m_r2; clear m_r2 s_r2
  replace s_p1 := o_p1.sl
  replace s_p2 := o_p2.sl
  have s_r2 := o_r2.sl
  go_wp2_with (first | ((with_reducible refine wp_region_later (by kernel_rfl) (by kernel_rfl) ?_); (repeat (first | go_big_quiet_step (first | (go_at_call 55; exact Gives.quiet (c_leqSlotS (by first | assumption | (apply Sl.to <;> first | assumption | infer_instance) | omega) (by first | assumption | (apply Sl.to <;> first | assumption | infer_instance) | omega) (by first | assumption | (apply Sl.to <;> first | assumption | infer_instance) | omega) (by first | assumption | (apply Sl.to <;> first | assumption | infer_instance) | omega) (by first | assumption | (apply Sl.to <;> first | assumption | infer_instance) | omega) (by first | assumption | (apply Sl.to <;> first | assumption | infer_instance) | omega)))))); refine wpQuiet_nil ?_; rintro _ ⟨x, rfl⟩) | (go_at_call 55; refine (c_leqSlotS (by first | assumption | (apply Sl.to <;> first | assumption | infer_instance) | omega) (by first | assumption | (apply Sl.to <;> first | assumption | infer_instance) | omega) (by first | assumption | (apply Sl.to <;> first | assumption | infer_instance) | omega) (by first | assumption | (apply Sl.to <;> first | assumption | infer_instance) | omega) (by first | assumption | (apply Sl.to <;> first | assumption | infer_instance) | omega) (by first | assumption | (apply Sl.to <;> first | assumption | infer_instance) | omega)).mono ?_; rintro _ _ ⟨rfl, x, rfl⟩))
  refine (c_lmarkSlotS (Own.to o_p2 inferInstance) (by first | assumption | (apply Sl.to <;> first | assumption | infer_instance) | omega) (by first | assumption | (apply Sl.to <;> first | assumption | infer_instance) | omega) (by omega) (by omega)).mono ?_
  rintro _ _ ⟨rfl, hgr, m_p2⟩
  replace o_p1 := (Own.to o_p1 inferInstance).keep hgr i_p1 i_p2 (by first | exact .inl inferInstance | exact .inr inferInstance)
  obtain ⟨z_p2, rfl⟩ := Later.marked (w := w.alloc (.cells #[.int .i64 pp, .int .i64 ss, .int .i64 ll] 79)) hgr i_p2 inferInstance inferInstance
  clear hgr; replace o_p2 := m_p2; clear m_p2 s_p2
  replace s_p1 := o_p1.sl
  have s_p2 := o_p2.sl
  go_wp2_with (first | ((with_reducible refine wp_region_later (by kernel_rfl) (by kernel_rfl) ?_); (repeat (first | go_big_quiet_step (first | (go_at_call 71; exact Gives.quiet (c_lheldSlotS (by first | assumption | (apply Sl.to <;> first | assumption | infer_instance) | omega) (by first | assumption | (apply Sl.to <;> first | assumption | infer_instance) | omega) (by first | assumption | (apply Sl.to <;> first | assumption | infer_instance) | omega) (by first | assumption | (apply Sl.to <;> first | assumption | infer_instance) | omega))) | (go_at_call 61; exact Gives.quiet (c_ltoOrbit))))); refine wpQuiet_nil ?_; rintro _ ⟨x, rfl⟩) | (go_at_call 71; refine (c_lheldSlotS (by first | assumption | (apply Sl.to <;> first | assumption | infer_instance) | omega) (by first | assumption | (apply Sl.to <;> first | assumption | infer_instance) | omega) (by first | assumption | (apply Sl.to <;> first | assumption | infer_instance) | omega) (by first | assumption | (apply Sl.to <;> first | assumption | infer_instance) | omega)).mono ?_; rintro _ _ ⟨rfl, x, rfl⟩) | (go_at_call 61; refine (c_ltoOrbit).mono ?_; rintro _ _ ⟨rfl, x, rfl⟩))
  refine (c_ltoRequestS (by first | assumption | (apply Sl.to <;> first | assumption | infer_instance) | omega) (by first | assumption | (apply Sl.to <;> first | assumption | infer_instance) | omega) (by first | assumption | (apply Sl.to <;> first | assumption | infer_instance) | omega)).mono ?_
  rintro _ _ ⟨a_r4, c_r4, rfl, o_r4, y_r4, rfl⟩
  have s_r4 := o_r4.sl; have k_r4 := o_r4.cap; have i_r4 := o_r4.among
  go_wp2_with (first | ((with_reducible refine wp_region_later (by kernel_rfl) (by kernel_rfl) ?_); (repeat (first | go_big_quiet_step (first | fail))); refine wpQuiet_nil ?_; rintro _ ⟨x, rfl⟩))
  refine (c_iPlanPasses (by first | assumption | (apply Sl.to <;> first | assumption | infer_instance) | omega) (by first | assumption | (apply Sl.to <;> first | assumption | infer_instance) | omega) (by first | assumption | (apply Sl.to <;> first | assumption | infer_instance) | omega) (by first | assumption | (apply Sl.to <;> first | assumption | infer_instance) | omega)).mono ?_
  rintro _ _ ⟨a_p4, c_p4, rfl, o_p4, y_p4, rfl⟩
  have s_p4 := o_p4.sl; have k_p4 := o_p4.cap; have i_p4 := o_p4.among
  go_wp2_with (first | ((with_reducible refine wp_region_later (by kernel_rfl) (by kernel_rfl) ?_); (repeat (first | go_big_quiet_step (first | (go_at_call 55; exact Gives.quiet (c_leqSlotS (by first | assumption | (apply Sl.to <;> first | assumption | infer_instance) | omega) (by first | assumption | (apply Sl.to <;> first | assumption | infer_instance) | omega) (by first | assumption | (apply Sl.to <;> first | assumption | infer_instance) | omega) (by first | assumption | (apply Sl.to <;> first | assumption | infer_instance) | omega) (by first | assumption | (apply Sl.to <;> first | assumption | infer_instance) | omega) (by first | assumption | (apply Sl.to <;> first | assumption | infer_instance) | omega))) | (go_at_call 71; exact Gives.quiet (c_lheldSlotS (by first | assumption | (apply Sl.to <;> first | assumption | infer_instance) | omega) (by first | assumption | (apply Sl.to <;> first | assumption | infer_instance) | omega) (by first | assumption | (apply Sl.to <;> first | assumption | infer_instance) | omega) (by first | assumption | (apply Sl.to <;> first | assumption | infer_instance) | omega)))))); refine wpQuiet_nil ?_; rintro _ ⟨x, rfl⟩) | (go_at_call 55; refine (c_leqSlotS (by first | assumption | (apply Sl.to <;> first | assumption | infer_instance) | omega) (by first | assumption | (apply Sl.to <;> first | assumption | infer_instance) | omega) (by first | assumption | (apply Sl.to <;> first | assumption | infer_instance) | omega) (by first | assumption | (apply Sl.to <;> first | assumption | infer_instance) | omega) (by first | assumption | (apply Sl.to <;> first | assumption | infer_instance) | omega) (by first | assumption | (apply Sl.to <;> first | assumption | infer_instance) | omega)).mono ?_; rintro _ _ ⟨rfl, x, rfl⟩) | (go_at_call 71; refine (c_lheldSlotS (by first | assumption | (apply Sl.to <;> first | assumption | infer_instance) | omega) (by first | assumption | (apply Sl.to <;> first | assumption | infer_instance) | omega) (by first | assumption | (apply Sl.to <;> first | assumption | infer_instance) | omega) (by first | assumption | (apply Sl.to <;> first | assumption | infer_instance) | omega)).mono ?_; rintro _ _ ⟨rfl, x, rfl⟩))
  go_ret
  exact Gives.mk rfl
end Go.Proofs.Ytonclekalgaojaa
