/- The walk of the law on MissedOf. No condition but on lengths. -/
import Derived.Test.YtonclekalgaojaaMissed
import Derived.Test.YtonclekalgaojaaMarkR
import Derived.Test.YtonclekalgaojaaEqInt
namespace Go.Proofs.Ytonclekalgaojaa
set_option linter.unusedVariables false
open Go.ChangeShapes Go.WideShapes Go.ChangeAt Go.RowKit

set_option maxHeartbeats 2000000 in
theorem c_lFnExactMissedOf {p q : Option Addr} {n c n2 c2 : Nat} {l : List Request} {pl : List Slot} {w : World} (hs : Sl encRequest w p l) (hn : l.length = n) (hm : n ≤ 9223372036854775807) (hs2 : Sl encSlot w q pl) (hn2 : pl.length = n2) (hm2 : n2 ≤ 9223372036854775807) :
    Calls Try.prog 11 #[.slice p n c, .slice q n2 c2] w (Gives w (.bool true)) := by
  have he := eqAll_self eqRequest_self l
  have he2 := eqAll_self eqSlot_self pl
  by_cases h : 1048576 < n
  · go_enter Try.func11, Try.ntmps11
    go_wp2_with (first | ((with_reducible refine wp_region_later (by kernel_rfl) (by kernel_rfl) ?_); (repeat (first | go_big_quiet_step (first | (go_at_call 17; exact Gives.quiet (c_lszRequestS (by omega) (by omega) (by omega)))))); refine wpQuiet_nil ?_; rintro _ ⟨x, rfl⟩) | (go_at_call 17; refine (c_lszRequestS (by omega) (by omega) (by omega)).mono ?_; rintro _ _ ⟨rfl, x, rfl⟩))
    go_ret
    exact Gives.mk rfl
  by_cases h2 : 1048576 < n + n2
  · go_enter Try.func11, Try.ntmps11
    go_wp2_with (first | ((with_reducible refine wp_region_later (by kernel_rfl) (by kernel_rfl) ?_); (repeat (first | go_big_quiet_step (first | (go_at_call 17; exact Gives.quiet (c_lszRequestS (by omega) (by omega) (by omega))) | (go_at_call 50; exact Gives.quiet (c_lszSlotS (by omega) (by omega) (by omega)))))); refine wpQuiet_nil ?_; rintro _ ⟨x, rfl⟩) | (go_at_call 17; refine (c_lszRequestS (by omega) (by omega) (by omega)).mono ?_; rintro _ _ ⟨rfl, x, rfl⟩) | (go_at_call 50; refine (c_lszSlotS (by omega) (by omega) (by omega)).mono ?_; rintro _ _ ⟨rfl, x, rfl⟩))
    go_ret
    exact Gives.mk rfl
  have hle := missedOf_le pl l
  have he3 := eqAll_self eqInt_self (missedOf pl l)
  have hMl : (missedOf pl l).length ≤ 1048576 := by omega
  go_enter Try.func11, Try.ntmps11
  go_wp2_with (first | ((with_reducible refine wp_region_later (by kernel_rfl) (by kernel_rfl) ?_); (repeat (first | go_big_quiet_step (first | (go_at_call 17; exact Gives.quiet (c_lszRequestS (by omega) (by omega) (by omega))) | (go_at_call 50; exact Gives.quiet (c_lszSlotS (by omega) (by omega) (by omega)))))); refine wpQuiet_nil ?_; rintro _ ⟨x, rfl⟩) | (go_at_call 17; refine (c_lszRequestS (by omega) (by omega) (by omega)).mono ?_; rintro _ _ ⟨rfl, x, rfl⟩) | (go_at_call 50; refine (c_lszSlotS (by omega) (by omega) (by omega)).mono ?_; rintro _ _ ⟨rfl, x, rfl⟩))
  refine (c_ltoRequestS (by first | assumption | (apply Sl.to <;> first | assumption | infer_instance) | omega) (by first | assumption | (apply Sl.to <;> first | assumption | infer_instance) | omega) (by first | assumption | (apply Sl.to <;> first | assumption | infer_instance) | omega)).mono ?_
  rintro _ _ ⟨a_r1, c_r1, rfl, o_r1, y_r1, rfl⟩
  have s_r1 := o_r1.sl; have k_r1 := o_r1.cap; have i_r1 := o_r1.among
  go_wp2_with (first | ((with_reducible refine wp_region_later (by kernel_rfl) (by kernel_rfl) ?_); (repeat (first | go_big_quiet_step (first | fail))); refine wpQuiet_nil ?_; rintro _ ⟨x, rfl⟩))
  refine (c_ltoSlotS (by first | assumption | (apply Sl.to <;> first | assumption | infer_instance) | omega) (by first | assumption | (apply Sl.to <;> first | assumption | infer_instance) | omega) (by first | assumption | (apply Sl.to <;> first | assumption | infer_instance) | omega)).mono ?_
  rintro _ _ ⟨a_s1, c_s1, rfl, o_s1, y_s1, rfl⟩
  have s_s1 := o_s1.sl; have k_s1 := o_s1.cap; have i_s1 := o_s1.among
  go_wp2_with (first | ((with_reducible refine wp_region_later (by kernel_rfl) (by kernel_rfl) ?_); (repeat (first | go_big_quiet_step (first | fail))); refine wpQuiet_nil ?_; rintro _ ⟨x, rfl⟩))
  refine (c_sMissedOf (by first | assumption | (apply Sl.to <;> first | assumption | infer_instance) | omega) (by first | assumption | (apply Sl.to <;> first | assumption | infer_instance) | omega) (by first | assumption | (apply Sl.to <;> first | assumption | infer_instance) | omega) (by first | assumption | (apply Sl.to <;> first | assumption | infer_instance) | omega) (by first | assumption | (apply Sl.to <;> first | assumption | infer_instance) | omega) (by first | assumption | (apply Sl.to <;> first | assumption | infer_instance) | omega)).mono ?_
  rintro _ _ ⟨a_m1, c_m1, rfl, o_m1, y_m1, rfl⟩
  have s_m1 := o_m1.sl; have k_m1 := o_m1.cap; have i_m1 := o_m1.among
  go_wp2_with (first | ((with_reducible refine wp_region_later (by kernel_rfl) (by kernel_rfl) ?_); (repeat (first | go_big_quiet_step (first | fail))); refine wpQuiet_nil ?_; rintro _ ⟨x, rfl⟩))
  refine (c_ltoRequestS (by first | assumption | (apply Sl.to <;> first | assumption | infer_instance) | omega) (by first | assumption | (apply Sl.to <;> first | assumption | infer_instance) | omega) (by first | assumption | (apply Sl.to <;> first | assumption | infer_instance) | omega)).mono ?_
  rintro _ _ ⟨a_r2, c_r2, rfl, o_r2, y_r2, rfl⟩
  have s_r2 := o_r2.sl; have k_r2 := o_r2.cap; have i_r2 := o_r2.among
  go_wp2_with (first | ((with_reducible refine wp_region_later (by kernel_rfl) (by kernel_rfl) ?_); (repeat (first | go_big_quiet_step (first | fail))); refine wpQuiet_nil ?_; rintro _ ⟨x, rfl⟩))
  refine (c_ltoSlotS (by first | assumption | (apply Sl.to <;> first | assumption | infer_instance) | omega) (by first | assumption | (apply Sl.to <;> first | assumption | infer_instance) | omega) (by first | assumption | (apply Sl.to <;> first | assumption | infer_instance) | omega)).mono ?_
  rintro _ _ ⟨a_s2, c_s2, rfl, o_s2, y_s2, rfl⟩
  have s_s2 := o_s2.sl; have k_s2 := o_s2.cap; have i_s2 := o_s2.among
  go_wp2_with (first | ((with_reducible refine wp_region_later (by kernel_rfl) (by kernel_rfl) ?_); (repeat (first | go_big_quiet_step (first | fail))); refine wpQuiet_nil ?_; rintro _ ⟨x, rfl⟩))
  refine (c_iMissedOf (by first | assumption | (apply Sl.to <;> first | assumption | infer_instance) | omega) (by first | assumption | (apply Sl.to <;> first | assumption | infer_instance) | omega) (by first | assumption | (apply Sl.to <;> first | assumption | infer_instance) | omega) (by first | assumption | (apply Sl.to <;> first | assumption | infer_instance) | omega) (by first | assumption | (apply Sl.to <;> first | assumption | infer_instance) | omega) (by first | assumption | (apply Sl.to <;> first | assumption | infer_instance) | omega)).mono ?_
  rintro _ _ ⟨a_m2, c_m2, rfl, o_m2, y_m2, rfl⟩
  have s_m2 := o_m2.sl; have k_m2 := o_m2.cap; have i_m2 := o_m2.among
  go_wp2_with (first | ((with_reducible refine wp_region_later (by kernel_rfl) (by kernel_rfl) ?_); (repeat (first | go_big_quiet_step (first | (go_at_call 54; exact Gives.quiet (c_leqIntS (by first | assumption | (apply Sl.to <;> first | assumption | infer_instance) | omega) (by first | assumption | (apply Sl.to <;> first | assumption | infer_instance) | omega) (by first | assumption | (apply Sl.to <;> first | assumption | infer_instance) | omega) (by first | assumption | (apply Sl.to <;> first | assumption | infer_instance) | omega) (by first | assumption | (apply Sl.to <;> first | assumption | infer_instance) | omega) (by first | assumption | (apply Sl.to <;> first | assumption | infer_instance) | omega)))))); refine wpQuiet_nil ?_; rintro _ ⟨x, rfl⟩) | (go_at_call 54; refine (c_leqIntS (by first | assumption | (apply Sl.to <;> first | assumption | infer_instance) | omega) (by first | assumption | (apply Sl.to <;> first | assumption | infer_instance) | omega) (by first | assumption | (apply Sl.to <;> first | assumption | infer_instance) | omega) (by first | assumption | (apply Sl.to <;> first | assumption | infer_instance) | omega) (by first | assumption | (apply Sl.to <;> first | assumption | infer_instance) | omega) (by first | assumption | (apply Sl.to <;> first | assumption | infer_instance) | omega)).mono ?_; rintro _ _ ⟨rfl, x, rfl⟩))
  refine (c_ltoRequestS (by first | assumption | (apply Sl.to <;> first | assumption | infer_instance) | omega) (by first | assumption | (apply Sl.to <;> first | assumption | infer_instance) | omega) (by first | assumption | (apply Sl.to <;> first | assumption | infer_instance) | omega)).mono ?_
  rintro _ _ ⟨a_r3, c_r3, rfl, o_r3, y_r3, rfl⟩
  have s_r3 := o_r3.sl; have k_r3 := o_r3.cap; have i_r3 := o_r3.among
  go_wp2_with (first | ((with_reducible refine wp_region_later (by kernel_rfl) (by kernel_rfl) ?_); (repeat (first | go_big_quiet_step (first | (go_at_call 21; exact Gives.quiet (c_leqRequestS (by first | assumption | (apply Sl.to <;> first | assumption | infer_instance) | omega) (by first | assumption | (apply Sl.to <;> first | assumption | infer_instance) | omega) (by first | assumption | (apply Sl.to <;> first | assumption | infer_instance) | omega) (by first | assumption | (apply Sl.to <;> first | assumption | infer_instance) | omega) (by first | assumption | (apply Sl.to <;> first | assumption | infer_instance) | omega) (by first | assumption | (apply Sl.to <;> first | assumption | infer_instance) | omega)))))); refine wpQuiet_nil ?_; rintro _ ⟨x, rfl⟩) | (go_at_call 21; refine (c_leqRequestS (by first | assumption | (apply Sl.to <;> first | assumption | infer_instance) | omega) (by first | assumption | (apply Sl.to <;> first | assumption | infer_instance) | omega) (by first | assumption | (apply Sl.to <;> first | assumption | infer_instance) | omega) (by first | assumption | (apply Sl.to <;> first | assumption | infer_instance) | omega) (by first | assumption | (apply Sl.to <;> first | assumption | infer_instance) | omega) (by first | assumption | (apply Sl.to <;> first | assumption | infer_instance) | omega)).mono ?_; rintro _ _ ⟨rfl, x, rfl⟩))
  refine (c_ltoSlotS (by first | assumption | (apply Sl.to <;> first | assumption | infer_instance) | omega) (by first | assumption | (apply Sl.to <;> first | assumption | infer_instance) | omega) (by first | assumption | (apply Sl.to <;> first | assumption | infer_instance) | omega)).mono ?_
  rintro _ _ ⟨a_s3, c_s3, rfl, o_s3, y_s3, rfl⟩
  have s_s3 := o_s3.sl; have k_s3 := o_s3.cap; have i_s3 := o_s3.among
  go_wp2_with (first | ((with_reducible refine wp_region_later (by kernel_rfl) (by kernel_rfl) ?_); (repeat (first | go_big_quiet_step (first | (go_at_call 55; exact Gives.quiet (c_leqSlotS (by first | assumption | (apply Sl.to <;> first | assumption | infer_instance) | omega) (by first | assumption | (apply Sl.to <;> first | assumption | infer_instance) | omega) (by first | assumption | (apply Sl.to <;> first | assumption | infer_instance) | omega) (by first | assumption | (apply Sl.to <;> first | assumption | infer_instance) | omega) (by first | assumption | (apply Sl.to <;> first | assumption | infer_instance) | omega) (by first | assumption | (apply Sl.to <;> first | assumption | infer_instance) | omega)))))); refine wpQuiet_nil ?_; rintro _ ⟨x, rfl⟩) | (go_at_call 55; refine (c_leqSlotS (by first | assumption | (apply Sl.to <;> first | assumption | infer_instance) | omega) (by first | assumption | (apply Sl.to <;> first | assumption | infer_instance) | omega) (by first | assumption | (apply Sl.to <;> first | assumption | infer_instance) | omega) (by first | assumption | (apply Sl.to <;> first | assumption | infer_instance) | omega) (by first | assumption | (apply Sl.to <;> first | assumption | infer_instance) | omega) (by first | assumption | (apply Sl.to <;> first | assumption | infer_instance) | omega)).mono ?_; rintro _ _ ⟨rfl, x, rfl⟩))
  refine (c_lmarkRequestS (Own.to o_r2 inferInstance) (by first | assumption | (apply Sl.to <;> first | assumption | infer_instance) | omega) (by first | assumption | (apply Sl.to <;> first | assumption | infer_instance) | omega) (by omega) (by omega)).mono ?_
  rintro _ _ ⟨rfl, hgr, m_r2⟩
  replace o_m1 := (Own.to o_m1 inferInstance).keep hgr i_m1 i_r2 (by first | exact .inl inferInstance | exact .inr inferInstance)
  replace o_s2 := (Own.to o_s2 inferInstance).keep hgr i_s2 i_r2 (by first | exact .inl inferInstance | exact .inr inferInstance)
  replace o_m2 := (Own.to o_m2 inferInstance).keep hgr i_m2 i_r2 (by first | exact .inl inferInstance | exact .inr inferInstance)
  obtain ⟨z_r2, rfl⟩ := Later.marked (w := w) hgr i_r2 inferInstance inferInstance
  clear hgr; replace o_r2 := m_r2; clear m_r2 s_r2
  replace s_m1 := o_m1.sl
  replace s_s2 := o_s2.sl
  replace s_m2 := o_m2.sl
  have s_r2 := o_r2.sl
  go_wp2_with (first | ((with_reducible refine wp_region_later (by kernel_rfl) (by kernel_rfl) ?_); (repeat (first | go_big_quiet_step (first | fail))); refine wpQuiet_nil ?_; rintro _ ⟨x, rfl⟩))
  refine (c_lmarkSlotS (Own.to o_s2 inferInstance) (by first | assumption | (apply Sl.to <;> first | assumption | infer_instance) | omega) (by first | assumption | (apply Sl.to <;> first | assumption | infer_instance) | omega) (by omega) (by omega)).mono ?_
  rintro _ _ ⟨rfl, hgr, m_s2⟩
  replace o_m1 := (Own.to o_m1 inferInstance).keep hgr i_m1 i_s2 (by first | exact .inl inferInstance | exact .inr inferInstance)
  replace o_m2 := (Own.to o_m2 inferInstance).keep hgr i_m2 i_s2 (by first | exact .inl inferInstance | exact .inr inferInstance)
  obtain ⟨z_s2, rfl⟩ := Later.marked (w := w) hgr i_s2 inferInstance inferInstance
  clear hgr; replace o_s2 := m_s2; clear m_s2 s_s2
  replace s_m1 := o_m1.sl
  replace s_m2 := o_m2.sl
  have s_s2 := o_s2.sl
  go_wp2_with (first | ((with_reducible refine wp_region_later (by kernel_rfl) (by kernel_rfl) ?_); (repeat (first | go_big_quiet_step (first | (go_at_call 54; exact Gives.quiet (c_leqIntS (by first | assumption | (apply Sl.to <;> first | assumption | infer_instance) | omega) (by first | assumption | (apply Sl.to <;> first | assumption | infer_instance) | omega) (by first | assumption | (apply Sl.to <;> first | assumption | infer_instance) | omega) (by first | assumption | (apply Sl.to <;> first | assumption | infer_instance) | omega) (by first | assumption | (apply Sl.to <;> first | assumption | infer_instance) | omega) (by first | assumption | (apply Sl.to <;> first | assumption | infer_instance) | omega)))))); refine wpQuiet_nil ?_; rintro _ ⟨x, rfl⟩) | (go_at_call 54; refine (c_leqIntS (by first | assumption | (apply Sl.to <;> first | assumption | infer_instance) | omega) (by first | assumption | (apply Sl.to <;> first | assumption | infer_instance) | omega) (by first | assumption | (apply Sl.to <;> first | assumption | infer_instance) | omega) (by first | assumption | (apply Sl.to <;> first | assumption | infer_instance) | omega) (by first | assumption | (apply Sl.to <;> first | assumption | infer_instance) | omega) (by first | assumption | (apply Sl.to <;> first | assumption | infer_instance) | omega)).mono ?_; rintro _ _ ⟨rfl, x, rfl⟩))
  refine (c_lmarkIntS (Own.to o_m2 inferInstance) (by first | assumption | (apply Sl.to <;> first | assumption | infer_instance) | omega) (by first | assumption | (apply Sl.to <;> first | assumption | infer_instance) | omega) (by omega) (by omega)).mono ?_
  rintro _ _ ⟨rfl, hgr, m_m2⟩
  replace o_m1 := (Own.to o_m1 inferInstance).keep hgr i_m1 i_m2 (by first | exact .inl inferInstance | exact .inr inferInstance)
  obtain ⟨z_m2, rfl⟩ := Later.marked (w := w) hgr i_m2 inferInstance inferInstance
  clear hgr; replace o_m2 := m_m2; clear m_m2 s_m2
  replace s_m1 := o_m1.sl
  have s_m2 := o_m2.sl
  go_wp2_with (first | ((with_reducible refine wp_region_later (by kernel_rfl) (by kernel_rfl) ?_); (repeat (first | go_big_quiet_step (first | (go_at_call 59; exact Gives.quiet (c_lheldIntS (by first | assumption | (apply Sl.to <;> first | assumption | infer_instance) | omega) (by first | assumption | (apply Sl.to <;> first | assumption | infer_instance) | omega) (by first | assumption | (apply Sl.to <;> first | assumption | infer_instance) | omega) (by first | assumption | (apply Sl.to <;> first | assumption | infer_instance) | omega)))))); refine wpQuiet_nil ?_; rintro _ ⟨x, rfl⟩) | (go_at_call 59; refine (c_lheldIntS (by first | assumption | (apply Sl.to <;> first | assumption | infer_instance) | omega) (by first | assumption | (apply Sl.to <;> first | assumption | infer_instance) | omega) (by first | assumption | (apply Sl.to <;> first | assumption | infer_instance) | omega) (by first | assumption | (apply Sl.to <;> first | assumption | infer_instance) | omega)).mono ?_; rintro _ _ ⟨rfl, x, rfl⟩))
  refine (c_ltoRequestS (by first | assumption | (apply Sl.to <;> first | assumption | infer_instance) | omega) (by first | assumption | (apply Sl.to <;> first | assumption | infer_instance) | omega) (by first | assumption | (apply Sl.to <;> first | assumption | infer_instance) | omega)).mono ?_
  rintro _ _ ⟨a_r4, c_r4, rfl, o_r4, y_r4, rfl⟩
  have s_r4 := o_r4.sl; have k_r4 := o_r4.cap; have i_r4 := o_r4.among
  go_wp2_with (first | ((with_reducible refine wp_region_later (by kernel_rfl) (by kernel_rfl) ?_); (repeat (first | go_big_quiet_step (first | fail))); refine wpQuiet_nil ?_; rintro _ ⟨x, rfl⟩))
  refine (c_ltoSlotS (by first | assumption | (apply Sl.to <;> first | assumption | infer_instance) | omega) (by first | assumption | (apply Sl.to <;> first | assumption | infer_instance) | omega) (by first | assumption | (apply Sl.to <;> first | assumption | infer_instance) | omega)).mono ?_
  rintro _ _ ⟨a_s4, c_s4, rfl, o_s4, y_s4, rfl⟩
  have s_s4 := o_s4.sl; have k_s4 := o_s4.cap; have i_s4 := o_s4.among
  go_wp2_with (first | ((with_reducible refine wp_region_later (by kernel_rfl) (by kernel_rfl) ?_); (repeat (first | go_big_quiet_step (first | fail))); refine wpQuiet_nil ?_; rintro _ ⟨x, rfl⟩))
  refine (c_iMissedOf (by first | assumption | (apply Sl.to <;> first | assumption | infer_instance) | omega) (by first | assumption | (apply Sl.to <;> first | assumption | infer_instance) | omega) (by first | assumption | (apply Sl.to <;> first | assumption | infer_instance) | omega) (by first | assumption | (apply Sl.to <;> first | assumption | infer_instance) | omega) (by first | assumption | (apply Sl.to <;> first | assumption | infer_instance) | omega) (by first | assumption | (apply Sl.to <;> first | assumption | infer_instance) | omega)).mono ?_
  rintro _ _ ⟨a_m4, c_m4, rfl, o_m4, y_m4, rfl⟩
  have s_m4 := o_m4.sl; have k_m4 := o_m4.cap; have i_m4 := o_m4.among
  go_wp2_with (first | ((with_reducible refine wp_region_later (by kernel_rfl) (by kernel_rfl) ?_); (repeat (first | go_big_quiet_step (first | (go_at_call 54; exact Gives.quiet (c_leqIntS (by first | assumption | (apply Sl.to <;> first | assumption | infer_instance) | omega) (by first | assumption | (apply Sl.to <;> first | assumption | infer_instance) | omega) (by first | assumption | (apply Sl.to <;> first | assumption | infer_instance) | omega) (by first | assumption | (apply Sl.to <;> first | assumption | infer_instance) | omega) (by first | assumption | (apply Sl.to <;> first | assumption | infer_instance) | omega) (by first | assumption | (apply Sl.to <;> first | assumption | infer_instance) | omega))) | (go_at_call 59; exact Gives.quiet (c_lheldIntS (by first | assumption | (apply Sl.to <;> first | assumption | infer_instance) | omega) (by first | assumption | (apply Sl.to <;> first | assumption | infer_instance) | omega) (by first | assumption | (apply Sl.to <;> first | assumption | infer_instance) | omega) (by first | assumption | (apply Sl.to <;> first | assumption | infer_instance) | omega)))))); refine wpQuiet_nil ?_; rintro _ ⟨x, rfl⟩) | (go_at_call 54; refine (c_leqIntS (by first | assumption | (apply Sl.to <;> first | assumption | infer_instance) | omega) (by first | assumption | (apply Sl.to <;> first | assumption | infer_instance) | omega) (by first | assumption | (apply Sl.to <;> first | assumption | infer_instance) | omega) (by first | assumption | (apply Sl.to <;> first | assumption | infer_instance) | omega) (by first | assumption | (apply Sl.to <;> first | assumption | infer_instance) | omega) (by first | assumption | (apply Sl.to <;> first | assumption | infer_instance) | omega)).mono ?_; rintro _ _ ⟨rfl, x, rfl⟩) | (go_at_call 59; refine (c_lheldIntS (by first | assumption | (apply Sl.to <;> first | assumption | infer_instance) | omega) (by first | assumption | (apply Sl.to <;> first | assumption | infer_instance) | omega) (by first | assumption | (apply Sl.to <;> first | assumption | infer_instance) | omega) (by first | assumption | (apply Sl.to <;> first | assumption | infer_instance) | omega)).mono ?_; rintro _ _ ⟨rfl, x, rfl⟩))
  go_ret
  exact Gives.mk rfl
end Go.Proofs.Ytonclekalgaojaa
