/- The walk of the law on AddPair. No condition but on lengths. -/
import Derived.Test.YtonclekalgaojaaAddPair
import Derived.Test.YtonclekalgaojaaLaws1
namespace Go.Proofs.Ytonclekalgaojaa
set_option linter.unusedVariables false
open Go.ChangeShapes Go.WideShapes Go.ChangeAt Go.RowKit

theorem Own.nilcap {α : Type} {enc : α → List Value} {T size B : Nat} {w : World} {a : Option Addr} {c : Nat} {l : List α} (h : Own enc T size B w a c l) : a = none → c = 0 := by
  obtain ⟨-, -, ⟨h1, -⟩ | ⟨g, cap, cur, hv, -⟩⟩ := h
  · simp only [Value.slice.injEq] at h1; exact fun _ => h1.2.2
  · simp only [Value.slice.injEq] at hv; intro h; rw [hv.1] at h; cases h
theorem addPair_len {l : List Pair} {p : Pair} : (addPair l p).length ≤ max 200 l.length := by
  unfold addPair
  split
  · rename_i h
    simp only [pairsOk, Bool.and_eq_true, decide_eq_true_eq] at h
    omega
  · omega

theorem c_sAddPairB {a : Option Addr} {n c : Nat} {l : List Pair} {b t : Int} {w : World} (hs : Sl encPair w a l) (hnil : a = none → c = 0) (hn : l.length = n) (hm : n ≤ 1048576) :
    Calls Try.prog 42 #[.slice a n c, .agg #[.int .i64 b, .int .i64 t]] w (GivesSl encPair 58 2 w (addPair l ⟨b, t⟩)) := c_sAddPair (p := ⟨b, t⟩) hs hnil hn hm
theorem c_iAddPairB {a : Option Addr} {n c : Nat} {l : List Pair} {b t : Int} {w : World} (hs : Sl encPair w a l) (hn : l.length = n) (hm : n ≤ 1048576) :
    Calls Try.prog 44 #[.slice a n c, .agg #[.int .i64 b, .int .i64 t]] w (GivesSl encPair 58 2 w (addPair l ⟨b, t⟩)) := c_iAddPair (p := ⟨b, t⟩) hs hn hm
theorem c_ltoPairB {b t : Int} {w : World} : Calls Try.prog 43 #[.agg #[.int .i64 b, .int .i64 t]] w (Gives w (.agg #[.int .i64 b, .int .i64 t])) := c_ltoPair (s := ⟨b, t⟩)

set_option maxRecDepth 100000 in
set_option maxHeartbeats 2000000 in
theorem c_lFnExactAddPair {a : Option Addr} {n c : Nat} {b t : Int} {l : List Pair} {w : World} (hs : Sl encPair w a l) (hn : l.length = n) (hm : n ≤ 9223372036854775807) :
    Calls Try.prog 9 #[.slice a n c, .agg #[.int .i64 b, .int .i64 t]] w (Gives w (.bool true)) := by
  have he := eqAll_self eqPair_self l
  by_cases h : 1048576 < n
  · go_enter Try.func9, Try.ntmps9
    go_wp2_with (first | ((with_reducible refine wp_region_later (by kernel_rfl) (by kernel_rfl) ?_); (repeat (first | go_big_quiet_step (first | (go_at_call 22; exact Gives.quiet (c_lszPairS (by omega) (by omega) (by omega)))))); refine wpQuiet_nil ?_; rintro _ ⟨x, rfl⟩) | (go_at_call 22; refine (c_lszPairS (by omega) (by omega) (by omega)).mono ?_; rintro _ _ ⟨rfl, x, rfl⟩))
    go_ret
    exact Gives.mk rfl
  have hle := addPair_len (l := l) (p := ⟨b, t⟩)
  have he3 := eqAll_self eqPair_self (addPair l ⟨b, t⟩)
  have hMl : (addPair l ⟨b, t⟩).length ≤ 1048576 := by omega
  clear hle
  go_enter Try.func9, Try.ntmps9
  go_wp2_with (first | ((with_reducible refine wp_region_later (by kernel_rfl) (by kernel_rfl) ?_); (repeat (first | go_big_quiet_step (first | (go_at_call 22; exact Gives.quiet (c_lszPairS (by omega) (by omega) (by omega)))))); refine wpQuiet_nil ?_; rintro _ ⟨x, rfl⟩) | (go_at_call 22; refine (c_lszPairS (by omega) (by omega) (by omega)).mono ?_; rintro _ _ ⟨rfl, x, rfl⟩))
  go_region_law (first
    | (refine step_call rfl (f := 24) rfl Try.func24 (by kernel_rfl) (by kernel_rfl) [.slice a n c] rfl ((c_ltoPairS (by first | assumption | (apply Sl.to <;> first | assumption | infer_instance) | omega) (by first | assumption | (apply Sl.to <;> first | assumption | infer_instance) | omega) (by first | assumption | (apply Sl.to <;> first | assumption | infer_instance) | omega)).mono ?_); rintro _ _ ⟨a_r1, c_r1, rfl, o_r1, y_r1, rfl⟩; refine ⟨_, rfl, ?_⟩; obtain ⟨z_y_r1, hz_y_r1⟩ := Later.of (w := w.alloc (.cells #[.int .i64 b, .int .i64 t] 56)) (W := y_r1.w); rw [hz_y_r1] at o_r1 ⊢; clear hz_y_r1; have s_r1 := o_r1.sl; have n_r1 := o_r1.nilcap)
    | (refine step_call rfl (f := 43) rfl Try.func43 (by kernel_rfl) (by kernel_rfl) [.agg #[.int .i64 b, .int .i64 t]] rfl ((c_ltoPairB).mono ?_); rintro _ _ ⟨rfl, xt, rfl⟩; refine ⟨_, rfl, ?_⟩)
    | (refine step_call rfl (f := 42) rfl Try.func42 (by kernel_rfl) (by kernel_rfl) [.slice a_r1 n c_r1, .agg #[.int .i64 b, .int .i64 t]] rfl ((c_sAddPairB (s_r1.to inferInstance) n_r1 hn (by omega)).mono ?_); rintro _ _ ⟨a_p1, c_p1, rfl, o_p1, y_p1, rfl⟩; refine ⟨_, rfl, ?_⟩; obtain ⟨z_y_p1, hz_y_p1⟩ := Later.of (w := w.alloc (.cells #[.int .i64 b, .int .i64 t] 56)) (W := y_p1.w); rw [hz_y_p1] at o_p1 ⊢; clear hz_y_p1; have s_p1 := o_p1.sl; have k_p1 := o_p1.cap; have i_p1 := o_p1.among))
  all_goals
    go_wp2_with (first | ((with_reducible refine wp_region_later (by kernel_rfl) (by kernel_rfl) ?_); (repeat (first | go_big_quiet_step (first | fail))); refine wpQuiet_nil ?_; rintro _ ⟨x, rfl⟩))
    refine (c_ltoPairS (by first | assumption | (apply Sl.to <;> first | assumption | infer_instance) | omega) (by first | assumption | (apply Sl.to <;> first | assumption | infer_instance) | omega) (by first | assumption | (apply Sl.to <;> first | assumption | infer_instance) | omega)).mono ?_
    rintro _ _ ⟨a_r2, c_r2, rfl, o_r2, y_r2, rfl⟩
    have s_r2 := o_r2.sl; have k_r2 := o_r2.cap; have i_r2 := o_r2.among
    go_wp2_with (first | ((with_reducible refine wp_region_later (by kernel_rfl) (by kernel_rfl) ?_); (repeat (first | go_big_quiet_step (first | (go_at_call 43; exact Gives.quiet (c_ltoPairB))))); refine wpQuiet_nil ?_; rintro _ ⟨x, rfl⟩) | (go_at_call 43; refine (c_ltoPairB).mono ?_; rintro _ _ ⟨rfl, x, rfl⟩))
    refine (c_iAddPairB (by first | assumption | (apply Sl.to <;> first | assumption | infer_instance) | omega) (by first | assumption | (apply Sl.to <;> first | assumption | infer_instance) | omega) (by first | assumption | (apply Sl.to <;> first | assumption | infer_instance) | omega)).mono ?_
    rintro _ _ ⟨a_p2, c_p2, rfl, o_p2, y_p2, rfl⟩
    have s_p2 := o_p2.sl; have k_p2 := o_p2.cap; have i_p2 := o_p2.among
    go_wp2_with (first | ((with_reducible refine wp_region_later (by kernel_rfl) (by kernel_rfl) ?_); (repeat (first | go_big_quiet_step (first | (go_at_call 26; exact Gives.quiet (c_leqPairS (by first | assumption | (apply Sl.to <;> first | assumption | infer_instance) | omega) (by first | assumption | (apply Sl.to <;> first | assumption | infer_instance) | omega) (by first | assumption | (apply Sl.to <;> first | assumption | infer_instance) | omega) (by first | assumption | (apply Sl.to <;> first | assumption | infer_instance) | omega) (by first | assumption | (apply Sl.to <;> first | assumption | infer_instance) | omega) (by first | assumption | (apply Sl.to <;> first | assumption | infer_instance) | omega)))))); refine wpQuiet_nil ?_; rintro _ ⟨x, rfl⟩) | (go_at_call 26; refine (c_leqPairS (by first | assumption | (apply Sl.to <;> first | assumption | infer_instance) | omega) (by first | assumption | (apply Sl.to <;> first | assumption | infer_instance) | omega) (by first | assumption | (apply Sl.to <;> first | assumption | infer_instance) | omega) (by first | assumption | (apply Sl.to <;> first | assumption | infer_instance) | omega) (by first | assumption | (apply Sl.to <;> first | assumption | infer_instance) | omega) (by first | assumption | (apply Sl.to <;> first | assumption | infer_instance) | omega)).mono ?_; rintro _ _ ⟨rfl, x, rfl⟩))
    refine (c_ltoPairS (by first | assumption | (apply Sl.to <;> first | assumption | infer_instance) | omega) (by first | assumption | (apply Sl.to <;> first | assumption | infer_instance) | omega) (by first | assumption | (apply Sl.to <;> first | assumption | infer_instance) | omega)).mono ?_
    rintro _ _ ⟨a_r3, c_r3, rfl, o_r3, y_r3, rfl⟩
    have s_r3 := o_r3.sl; have k_r3 := o_r3.cap; have i_r3 := o_r3.among
    go_wp2_with (first | ((with_reducible refine wp_region_later (by kernel_rfl) (by kernel_rfl) ?_); (repeat (first | go_big_quiet_step (first | (go_at_call 26; exact Gives.quiet (c_leqPairS (by first | assumption | (apply Sl.to <;> first | assumption | infer_instance) | omega) (by first | assumption | (apply Sl.to <;> first | assumption | infer_instance) | omega) (by first | assumption | (apply Sl.to <;> first | assumption | infer_instance) | omega) (by first | assumption | (apply Sl.to <;> first | assumption | infer_instance) | omega) (by first | assumption | (apply Sl.to <;> first | assumption | infer_instance) | omega) (by first | assumption | (apply Sl.to <;> first | assumption | infer_instance) | omega)))))); refine wpQuiet_nil ?_; rintro _ ⟨x, rfl⟩) | (go_at_call 26; refine (c_leqPairS (by first | assumption | (apply Sl.to <;> first | assumption | infer_instance) | omega) (by first | assumption | (apply Sl.to <;> first | assumption | infer_instance) | omega) (by first | assumption | (apply Sl.to <;> first | assumption | infer_instance) | omega) (by first | assumption | (apply Sl.to <;> first | assumption | infer_instance) | omega) (by first | assumption | (apply Sl.to <;> first | assumption | infer_instance) | omega) (by first | assumption | (apply Sl.to <;> first | assumption | infer_instance) | omega)).mono ?_; rintro _ _ ⟨rfl, x, rfl⟩))
    refine (c_lmarkPairS (Own.to o_r2 inferInstance) (by first | assumption | (apply Sl.to <;> first | assumption | infer_instance) | omega) (by first | assumption | (apply Sl.to <;> first | assumption | infer_instance) | omega) (by omega) (by omega)).mono ?_
    rintro _ _ ⟨rfl, hgr, m_r2⟩
    replace o_p1 := (Own.to o_p1 inferInstance).keep hgr i_p1 i_r2 (by first | exact .inl inferInstance | exact .inr inferInstance)
    replace o_p2 := (Own.to o_p2 inferInstance).keep hgr i_p2 i_r2 (by first | exact .inl inferInstance | exact .inr inferInstance)
    obtain ⟨z_r2, rfl⟩ := Later.marked (w := w.alloc (.cells #[.int .i64 b, .int .i64 t] 56)) hgr i_r2 inferInstance inferInstance
    clear hgr; replace o_r2 := m_r2; clear m_r2 s_r2
    replace s_p1 := o_p1.sl
    replace s_p2 := o_p2.sl
    have s_r2 := o_r2.sl
    go_wp2_with (first | ((with_reducible refine wp_region_later (by kernel_rfl) (by kernel_rfl) ?_); (repeat (first | go_big_quiet_step (first | (go_at_call 26; exact Gives.quiet (c_leqPairS (by first | assumption | (apply Sl.to <;> first | assumption | infer_instance) | omega) (by first | assumption | (apply Sl.to <;> first | assumption | infer_instance) | omega) (by first | assumption | (apply Sl.to <;> first | assumption | infer_instance) | omega) (by first | assumption | (apply Sl.to <;> first | assumption | infer_instance) | omega) (by first | assumption | (apply Sl.to <;> first | assumption | infer_instance) | omega) (by first | assumption | (apply Sl.to <;> first | assumption | infer_instance) | omega)))))); refine wpQuiet_nil ?_; rintro _ ⟨x, rfl⟩) | (go_at_call 26; refine (c_leqPairS (by first | assumption | (apply Sl.to <;> first | assumption | infer_instance) | omega) (by first | assumption | (apply Sl.to <;> first | assumption | infer_instance) | omega) (by first | assumption | (apply Sl.to <;> first | assumption | infer_instance) | omega) (by first | assumption | (apply Sl.to <;> first | assumption | infer_instance) | omega) (by first | assumption | (apply Sl.to <;> first | assumption | infer_instance) | omega) (by first | assumption | (apply Sl.to <;> first | assumption | infer_instance) | omega)).mono ?_; rintro _ _ ⟨rfl, x, rfl⟩))
    refine (c_lmarkPairS (Own.to o_p2 inferInstance) (by first | assumption | (apply Sl.to <;> first | assumption | infer_instance) | omega) (by first | assumption | (apply Sl.to <;> first | assumption | infer_instance) | omega) (by omega) (by omega)).mono ?_
    rintro _ _ ⟨rfl, hgr, m_p2⟩
    replace o_p1 := (Own.to o_p1 inferInstance).keep hgr i_p1 i_p2 (by first | exact .inl inferInstance | exact .inr inferInstance)
    obtain ⟨z_p2, rfl⟩ := Later.marked (w := w.alloc (.cells #[.int .i64 b, .int .i64 t] 56)) hgr i_p2 inferInstance inferInstance
    clear hgr; replace o_p2 := m_p2; clear m_p2 s_p2
    replace s_p1 := o_p1.sl
    have s_p2 := o_p2.sl
    go_wp2_with (first | ((with_reducible refine wp_region_later (by kernel_rfl) (by kernel_rfl) ?_); (repeat (first | go_big_quiet_step (first | fail))); refine wpQuiet_nil ?_; rintro _ ⟨x, rfl⟩))
    refine (c_lheldPairS s_p2 (by omega) (by omega) (by omega)).mono ?_
    rintro _ _ ⟨rfl, x9, rfl⟩
    have q_p1 := o_p1.to (inferInstance : Grows z_p2.w x9.w)
    have q_p2 := o_p2.to (inferInstance : Grows z_p2.w x9.w)
    obtain ⟨z9, hz9⟩ := Later.of (w := w.alloc (.cells #[.int .i64 b, .int .i64 t] 56)) (W := x9.w)
    rw [hz9] at q_p1 q_p2 ⊢
    clear hz9 x9 s_p1 s_p2 o_p1 o_p2 z_p2 s_r1 o_r1 s_r2 s_r3
    go_wp2_with (first | ((with_reducible refine wp_region_later (by kernel_rfl) (by kernel_rfl) ?_); (repeat (first | go_big_quiet_step (first | fail))); refine wpQuiet_nil ?_; rintro _ ⟨x, rfl⟩))
    go_region_law (first
      | (refine step_call rfl (f := 24) rfl Try.func24 (by kernel_rfl) (by kernel_rfl) [.slice a n c] rfl ((c_ltoPairS (by first | assumption | (apply Sl.to <;> first | assumption | infer_instance) | omega) (by first | assumption | (apply Sl.to <;> first | assumption | infer_instance) | omega) (by first | assumption | (apply Sl.to <;> first | assumption | infer_instance) | omega)).mono ?_); rintro _ _ ⟨a_r4, c_r4, rfl, o_r4, y_r4, rfl⟩; refine ⟨_, rfl, ?_⟩; obtain ⟨z_y_r4, hz_y_r4⟩ := Later.of (w := z9.w) (W := y_r4.w); rw [hz_y_r4] at o_r4 ⊢; clear hz_y_r4; have s_r4 := o_r4.sl)
      | (refine step_call rfl (f := 43) rfl Try.func43 (by kernel_rfl) (by kernel_rfl) [.agg #[.int .i64 b, .int .i64 t]] rfl ((c_ltoPairB).mono ?_); rintro _ _ ⟨rfl, xt, rfl⟩; refine ⟨_, rfl, ?_⟩)
      | (refine step_call rfl (f := 44) rfl Try.func44 (by kernel_rfl) (by kernel_rfl) [.slice a_r4 n c_r4, .agg #[.int .i64 b, .int .i64 t]] rfl ((c_iAddPairB (s_r4.to inferInstance) hn (by omega)).mono ?_); rintro _ _ ⟨a_p4, c_p4, rfl, o_p4, y_p4, rfl⟩; refine ⟨_, rfl, ?_⟩; obtain ⟨z_y_p4, hz_y_p4⟩ := Later.of (w := z9.w) (W := y_p4.w); rw [hz_y_p4] at o_p4 ⊢; clear hz_y_p4; have s_p4 := o_p4.sl))
    all_goals
      have s_p1 := q_p1.sl
      have s_p2 := q_p2.sl
      go_wp2_with (first | ((with_reducible refine wp_region_later (by kernel_rfl) (by kernel_rfl) ?_); (repeat (first | go_big_quiet_step (first | (go_at_call 26; exact Gives.quiet (c_leqPairS (by first | assumption | (apply Sl.to <;> first | assumption | infer_instance) | omega) (by first | assumption | (apply Sl.to <;> first | assumption | infer_instance) | omega) (by first | assumption | (apply Sl.to <;> first | assumption | infer_instance) | omega) (by first | assumption | (apply Sl.to <;> first | assumption | infer_instance) | omega) (by first | assumption | (apply Sl.to <;> first | assumption | infer_instance) | omega) (by first | assumption | (apply Sl.to <;> first | assumption | infer_instance) | omega))) | (go_at_call 46; exact Gives.quiet (c_lheldPairS (by first | assumption | (apply Sl.to <;> first | assumption | infer_instance) | omega) (by first | assumption | (apply Sl.to <;> first | assumption | infer_instance) | omega) (by first | assumption | (apply Sl.to <;> first | assumption | infer_instance) | omega) (by first | assumption | (apply Sl.to <;> first | assumption | infer_instance) | omega)))))); refine wpQuiet_nil ?_; rintro _ ⟨x, rfl⟩) | (go_at_call 26; refine (c_leqPairS (by first | assumption | (apply Sl.to <;> first | assumption | infer_instance) | omega) (by first | assumption | (apply Sl.to <;> first | assumption | infer_instance) | omega) (by first | assumption | (apply Sl.to <;> first | assumption | infer_instance) | omega) (by first | assumption | (apply Sl.to <;> first | assumption | infer_instance) | omega) (by first | assumption | (apply Sl.to <;> first | assumption | infer_instance) | omega) (by first | assumption | (apply Sl.to <;> first | assumption | infer_instance) | omega)).mono ?_; rintro _ _ ⟨rfl, x, rfl⟩) | (go_at_call 46; refine (c_lheldPairS (by first | assumption | (apply Sl.to <;> first | assumption | infer_instance) | omega) (by first | assumption | (apply Sl.to <;> first | assumption | infer_instance) | omega) (by first | assumption | (apply Sl.to <;> first | assumption | infer_instance) | omega) (by first | assumption | (apply Sl.to <;> first | assumption | infer_instance) | omega)).mono ?_; rintro _ _ ⟨rfl, x, rfl⟩))
      go_ret
      exact Gives.mk rfl
end Go.Proofs.Ytonclekalgaojaa
