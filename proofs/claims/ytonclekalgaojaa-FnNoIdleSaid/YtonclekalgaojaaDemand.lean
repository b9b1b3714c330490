/- The contracts of DemandOf and Feasible. No condition but on lengths. -/
import Derived.Test.YtonclekalgaojaaReq
import Derived.Test.YtonclekalgaojaaNum2
namespace Go.Proofs.Ytonclekalgaojaa
set_option linter.unusedVariables false
open Go.ChangeShapes Go.WideShapes Go.ChangeAt Go.RowKit

theorem mem_of_drop' {α : Type} {l r : List α} {s : α} {k : Nat} (h : l.drop k = s :: r) : s ∈ l := by
  have : s ∈ l.drop k := by rw [h]; simp
  exact List.mem_of_mem_drop this

theorem reqsFrom_mem : ∀ {l b : List Request}, reqsFrom b l = true → ∀ s ∈ l, (0 ≤ s.Id ∧ s.Id ≤ 255) ∧ (0 ≤ s.Ready ∧ s.Ready ≤ 1000000) ∧ (s.Ready ≤ s.Deadline ∧ s.Deadline ≤ 1000000 ∧ s.Deadline ≤ s.Ready + 2000) ∧ 1 ≤ s.Need ∧ s.Need ≤ 100
  | [], _, _, s, hs => by simp at hs
  | q :: l, b, h, s, hs => by
    simp only [reqsFrom, Bool.and_eq_true] at h
    rcases List.mem_cons.1 hs with rfl | hs
    · have h1 := inB_iff.1 h.2.2.1
      exact ⟨inB_iff.1 h.1, inB_iff.1 h.2.1, ⟨by omega, by omega, by omega⟩, inB_iff.1 h.2.2.2.1⟩
    · exact reqsFrom_mem h.2.2.2.2.2 s hs

theorem requestsOk_mem {l : List Request} (h : requestsOk l = true) : l.length ≤ 12 ∧ ∀ s ∈ l, (0 ≤ s.Id ∧ s.Id ≤ 255) ∧ (0 ≤ s.Ready ∧ s.Ready ≤ 1000000) ∧ (s.Ready ≤ s.Deadline ∧ s.Deadline ≤ 1000000 ∧ s.Deadline ≤ s.Ready + 2000) ∧ 1 ≤ s.Need ∧ s.Need ≤ 100 := by
  simp only [requestsOk, Bool.and_eq_true, decide_eq_true_eq] at h
  exact ⟨h.1, reqsFrom_mem h.2⟩

def demandSum (a b : Int) : List Request → Int
  | [] => 0
  | s :: r => (if (decide (a ≤ s.Ready) && decide (s.Deadline ≤ b)) = true then s.Need else 0) + demandSum a b r
def demandOf (l : List Request) (a b : Int) : Int := if requestsOk l = true then demandSum a b l else 0

set_option maxRecDepth 100000 in
set_option maxHeartbeats 2000000 in
theorem c_iDemandOf {p : Option Addr} {n c : Nat} {a b : Int} {l : List Request} {w : World} (hs : Sl encRequest w p l) (hn : l.length = n) (hnc : n ≤ c) (hm : n ≤ 4611686018427387904) :
    Calls Try.prog 41 #[.slice p n c, .int .i64 a, .int .i64 b] w (Gives w (.int .i64 (demandOf l a b))) := by
  cases q1 : requestsOk l
  · go_enter Try.func41, Try.ntmps41
    go_wp2_with (first | ((with_reducible refine wp_region_later (by kernel_rfl) (by kernel_rfl) ?_); (repeat (first | go_big_quiet_step (first | (go_at_call 20; exact Gives.quiet (c_iRequestsOk (by first | assumption | (apply Sl.to <;> first | assumption | infer_instance) | omega) (by first | assumption | (apply Sl.to <;> first | assumption | infer_instance) | omega) (by first | assumption | (apply Sl.to <;> first | assumption | infer_instance) | omega) (by first | assumption | (apply Sl.to <;> first | assumption | infer_instance) | omega)))) | simp only [q1])); refine wpQuiet_nil ?_; rintro _ ⟨x, rfl⟩) | (go_at_call 20; refine (c_iRequestsOk (by first | assumption | (apply Sl.to <;> first | assumption | infer_instance) | omega) (by first | assumption | (apply Sl.to <;> first | assumption | infer_instance) | omega) (by first | assumption | (apply Sl.to <;> first | assumption | infer_instance) | omega) (by first | assumption | (apply Sl.to <;> first | assumption | infer_instance) | omega)).mono ?_; rintro _ _ ⟨rfl, x, rfl⟩))
    go_ret
    exact Gives.mk (by simp [demandOf, q1])
  have HD := Lib.hid (show demandOf l a b = demandSum a b l by simp [demandOf, q1])
  have hl := (requestsOk_mem q1).1
  have HM := Lib.hid (requestsOk_mem q1).2
  go_enter Try.func41, Try.ntmps41
  go_wp2_with (first | ((with_reducible refine wp_region_later (by kernel_rfl) (by kernel_rfl) ?_); (repeat (first | go_big_quiet_step (first | (go_at_call 20; exact Gives.quiet (c_iRequestsOk (by first | assumption | (apply Sl.to <;> first | assumption | infer_instance) | omega) (by first | assumption | (apply Sl.to <;> first | assumption | infer_instance) | omega) (by first | assumption | (apply Sl.to <;> first | assumption | infer_instance) | omega) (by first | assumption | (apply Sl.to <;> first | assumption | infer_instance) | omega)))) | simp only [q1])); refine wpQuiet_nil ?_; rintro _ ⟨x, rfl⟩) | (go_at_call 20; refine (c_iRequestsOk (by first | assumption | (apply Sl.to <;> first | assumption | infer_instance) | omega) (by first | assumption | (apply Sl.to <;> first | assumption | infer_instance) | omega) (by first | assumption | (apply Sl.to <;> first | assumption | infer_instance) | omega) (by first | assumption | (apply Sl.to <;> first | assumption | infer_instance) | omega)).mono ?_; rintro _ _ ⟨rfl, x, rfl⟩))
  go_loopw [7, 15] (fun u v wr => ∃ (k : Nat) (m : Int), v = .int .i64 k ∧ u = .int .i64 m ∧ k ≤ n ∧ 0 ≤ m ∧ m ≤ 100 * k ∧ Hid (m + demandSum a b (l.drop k) = demandSum a b l) ∧ ∃ x : Later w, wr = x.w) (fun _ v _ => (n - intOf v).toNat)
  case atStart => exact ⟨0, 0, rfl, rfl, by omega, by omega, by omega, by simp [Hid], Later.of⟩
  case round =>
    obtain ⟨k, m, rfl, rfl, hk, hm0, hm1, hf, x0, rfl⟩ := hrel
    by_cases h : k < n
    · obtain ⟨b1, off, s, rfl, hb, hd, h0, h1, h2, h3⟩ := hs.request (show k < l.length by omega)
      have hsb := HM.out s (mem_of_drop' hd.out)
      cases c1 : decide (a ≤ s.Ready)
      · go_wp2_with (first | ((with_reducible refine wp_region_later (by kernel_rfl) (by kernel_rfl) ?_); (repeat (first | go_big_quiet_step (first | fail) | simp only [c1])); refine wpQuiet_nil ?_; rintro _ ⟨x, rfl⟩))
        go_roundw
        case rel => exact ⟨k + 1, m, by go_num, rfl, by omega, by omega, by omega, by have := hf.out; rw [hd.out, demandSum, c1] at this; simpa [Hid] using this, Later.of⟩
        case measure => simp [intOf]; omega
      cases c2 : decide (s.Deadline ≤ b)
      · go_wp2_with (first | ((with_reducible refine wp_region_later (by kernel_rfl) (by kernel_rfl) ?_); (repeat (first | go_big_quiet_step (first | fail) | simp only [c1] | simp only [c2])); refine wpQuiet_nil ?_; rintro _ ⟨x, rfl⟩))
        go_roundw
        case rel => exact ⟨k + 1, m, by go_num, rfl, by omega, by omega, by omega, by have := hf.out; rw [hd.out, demandSum, c1, c2] at this; simpa [Hid] using this, Later.of⟩
        case measure => simp [intOf]; omega
      · go_wp2_with (first | ((with_reducible refine wp_region_later (by kernel_rfl) (by kernel_rfl) ?_); (repeat (first | go_big_quiet_step (first | fail) | simp only [c1] | simp only [c2])); refine wpQuiet_nil ?_; rintro _ ⟨x, rfl⟩))
        go_roundw
        case rel => exact ⟨k + 1, m + s.Need, by go_num, rfl, by omega, by omega, by omega, by have := hf.out; rw [hd.out, demandSum, c1, c2] at this; simpa [Hid, Int.add_assoc] using this, Later.of⟩
        case measure => simp [intOf]; omega
    · go_wp2_with (first | ((with_reducible refine wp_region_later (by kernel_rfl) (by kernel_rfl) ?_); (repeat (first | go_big_quiet_step (first | fail))); refine wpQuiet_nil ?_; rintro _ ⟨x, rfl⟩))
      go_ret
      exact Gives.mk (by have := hf.out; rw [List.drop_of_length_le (by omega), demandSum] at this; rw [HD.out, ← this, Int.add_zero]; rfl)

set_option maxRecDepth 100000 in
set_option maxHeartbeats 2000000 in
theorem c_sDemandOf {p : Option Addr} {n c : Nat} {a b : Int} {l : List Request} {w : World} (hs : Sl encRequest w p l) (hn : l.length = n) (hm : n ≤ 4611686018427387904) :
    Calls Try.prog 40 #[.slice p n c, .int .i64 a, .int .i64 b] w (Gives w (.int .i64 (demandOf l a b))) := by
  cases q1 : requestsOk l
  · by_cases hz : 0 < n
    · have hz2 : decide (0 < n) = true := by simpa using hz
      have hz3 : decide ((0 : Int) < n) = true := by simpa using hz
      go_enter Try.func40, Try.ntmps40
      go_wp2_with (first | ((with_reducible refine wp_region_later (by kernel_rfl) (by kernel_rfl) ?_); (repeat (first | go_big_quiet_step (first | (go_at_call 18; exact Gives.quiet (c_sRequestsOk (by first | assumption | (apply Sl.to <;> first | assumption | infer_instance) | omega) (by first | assumption | (apply Sl.to <;> first | assumption | infer_instance) | omega) (by first | assumption | (apply Sl.to <;> first | assumption | infer_instance) | omega)))) | simp only [q1] | simp only [hz2] | simp only [hz3])); refine wpQuiet_nil ?_; rintro _ ⟨x, rfl⟩) | (go_at_call 18; refine (c_sRequestsOk (by first | assumption | (apply Sl.to <;> first | assumption | infer_instance) | omega) (by first | assumption | (apply Sl.to <;> first | assumption | infer_instance) | omega) (by first | assumption | (apply Sl.to <;> first | assumption | infer_instance) | omega)).mono ?_; rintro _ _ ⟨rfl, x, rfl⟩))
      refine wp_loop_rounds 1 ?_; rw [rounds_succ]
      go_wp2_with (first | ((with_reducible refine wp_region_later (by kernel_rfl) (by kernel_rfl) ?_); (repeat (first | go_big_quiet_step (first | (go_at_call 18; exact Gives.quiet (c_sRequestsOk (by first | assumption | (apply Sl.to <;> first | assumption | infer_instance) | omega) (by first | assumption | (apply Sl.to <;> first | assumption | infer_instance) | omega) (by first | assumption | (apply Sl.to <;> first | assumption | infer_instance) | omega)))) | simp only [q1] | simp only [hz2] | simp only [hz3])); refine wpQuiet_nil ?_; rintro _ ⟨x, rfl⟩) | (go_at_call 18; refine (c_sRequestsOk (by first | assumption | (apply Sl.to <;> first | assumption | infer_instance) | omega) (by first | assumption | (apply Sl.to <;> first | assumption | infer_instance) | omega) (by first | assumption | (apply Sl.to <;> first | assumption | infer_instance) | omega)).mono ?_; rintro _ _ ⟨rfl, x, rfl⟩))
      go_ret
      exact Gives.mk (by simp [demandOf, q1])
    · have hz2 : decide (0 < n) = false := by simpa using hz
      have hz3 : decide ((0 : Int) < n) = false := by simpa using hz
      go_enter Try.func40, Try.ntmps40
      go_wp2_with (first | ((with_reducible refine wp_region_later (by kernel_rfl) (by kernel_rfl) ?_); (repeat (first | go_big_quiet_step (first | (go_at_call 18; exact Gives.quiet (c_sRequestsOk (by first | assumption | (apply Sl.to <;> first | assumption | infer_instance) | omega) (by first | assumption | (apply Sl.to <;> first | assumption | infer_instance) | omega) (by first | assumption | (apply Sl.to <;> first | assumption | infer_instance) | omega)))) | simp only [q1] | simp only [hz2] | simp only [hz3])); refine wpQuiet_nil ?_; rintro _ ⟨x, rfl⟩) | (go_at_call 18; refine (c_sRequestsOk (by first | assumption | (apply Sl.to <;> first | assumption | infer_instance) | omega) (by first | assumption | (apply Sl.to <;> first | assumption | infer_instance) | omega) (by first | assumption | (apply Sl.to <;> first | assumption | infer_instance) | omega)).mono ?_; rintro _ _ ⟨rfl, x, rfl⟩))
      refine wp_loop_rounds 1 ?_; rw [rounds_succ]
      go_wp2_with (first | ((with_reducible refine wp_region_later (by kernel_rfl) (by kernel_rfl) ?_); (repeat (first | go_big_quiet_step (first | (go_at_call 18; exact Gives.quiet (c_sRequestsOk (by first | assumption | (apply Sl.to <;> first | assumption | infer_instance) | omega) (by first | assumption | (apply Sl.to <;> first | assumption | infer_instance) | omega) (by first | assumption | (apply Sl.to <;> first | assumption | infer_instance) | omega)))) | simp only [q1] | simp only [hz2] | simp only [hz3])); refine wpQuiet_nil ?_; rintro _ ⟨x, rfl⟩) | (go_at_call 18; refine (c_sRequestsOk (by first | assumption | (apply Sl.to <;> first | assumption | infer_instance) | omega) (by first | assumption | (apply Sl.to <;> first | assumption | infer_instance) | omega) (by first | assumption | (apply Sl.to <;> first | assumption | infer_instance) | omega)).mono ?_; rintro _ _ ⟨rfl, x, rfl⟩))
      go_ret
      exact Gives.mk (by simp [demandOf, q1])
  have HD := Lib.hid (show demandOf l a b = demandSum a b l by simp [demandOf, q1])
  have hl := (requestsOk_mem q1).1
  have HM := Lib.hid (requestsOk_mem q1).2
  go_enter Try.func40, Try.ntmps40
  go_wp2_with (first | ((with_reducible refine wp_region_later (by kernel_rfl) (by kernel_rfl) ?_); (repeat (first | go_big_quiet_step (first | (go_at_call 18; exact Gives.quiet (c_sRequestsOk (by first | assumption | (apply Sl.to <;> first | assumption | infer_instance) | omega) (by first | assumption | (apply Sl.to <;> first | assumption | infer_instance) | omega) (by first | assumption | (apply Sl.to <;> first | assumption | infer_instance) | omega)))) | simp only [q1])); refine wpQuiet_nil ?_; rintro _ ⟨x, rfl⟩) | (go_at_call 18; refine (c_sRequestsOk (by first | assumption | (apply Sl.to <;> first | assumption | infer_instance) | omega) (by first | assumption | (apply Sl.to <;> first | assumption | infer_instance) | omega) (by first | assumption | (apply Sl.to <;> first | assumption | infer_instance) | omega)).mono ?_; rintro _ _ ⟨rfl, x, rfl⟩))
  go_loopw [7, 9] (fun u v wr => ∃ (k : Nat) (m : Int), v = .int .i64 k ∧ u = .int .i64 m ∧ k ≤ n ∧ 0 ≤ m ∧ m ≤ 100 * k ∧ Hid (m + demandSum a b (l.drop k) = demandSum a b l) ∧ ∃ x : Later w, wr = x.w) (fun _ v _ => (n - intOf v).toNat)
  case atStart => exact ⟨0, 0, rfl, rfl, by omega, by omega, by omega, by simp [Hid], Later.of⟩
  case round =>
    obtain ⟨k, m, rfl, rfl, hk, hm0, hm1, hf, x0, rfl⟩ := hrel
    by_cases h : k < n
    · obtain ⟨b1, off, s, rfl, hb, hd, h0, h1, h2, h3⟩ := hs.request (show k < l.length by omega)
      have hsb := HM.out s (mem_of_drop' hd.out)
      cases c1 : decide (a ≤ s.Ready)
      · go_wp2_with (first | ((with_reducible refine wp_region_later (by kernel_rfl) (by kernel_rfl) ?_); (repeat (first | go_big_quiet_step (first | fail) | simp only [c1])); refine wpQuiet_nil ?_; rintro _ ⟨x, rfl⟩))
        go_roundw
        case rel => exact ⟨k + 1, m, by go_num, rfl, by omega, by omega, by omega, by have := hf.out; rw [hd.out, demandSum, c1] at this; simpa [Hid] using this, Later.of⟩
        case measure => simp [intOf]; omega
      cases c2 : decide (s.Deadline ≤ b)
      · go_wp2_with (first | ((with_reducible refine wp_region_later (by kernel_rfl) (by kernel_rfl) ?_); (repeat (first | go_big_quiet_step (first | fail) | simp only [c1] | simp only [c2])); refine wpQuiet_nil ?_; rintro _ ⟨x, rfl⟩))
        go_roundw
        case rel => exact ⟨k + 1, m, by go_num, rfl, by omega, by omega, by omega, by have := hf.out; rw [hd.out, demandSum, c1, c2] at this; simpa [Hid] using this, Later.of⟩
        case measure => simp [intOf]; omega
      · go_wp2_with (first | ((with_reducible refine wp_region_later (by kernel_rfl) (by kernel_rfl) ?_); (repeat (first | go_big_quiet_step (first | fail) | simp only [c1] | simp only [c2])); refine wpQuiet_nil ?_; rintro _ ⟨x, rfl⟩))
        go_roundw
        case rel => exact ⟨k + 1, m + s.Need, by go_num, rfl, by omega, by omega, by omega, by have := hf.out; rw [hd.out, demandSum, c1, c2] at this; simpa [Hid, Int.add_assoc] using this, Later.of⟩
        case measure => simp [intOf]; omega
    · go_wp2_with (first | ((with_reducible refine wp_region_later (by kernel_rfl) (by kernel_rfl) ?_); (repeat (first | go_big_quiet_step (first | fail))); refine wpQuiet_nil ?_; rintro _ ⟨x, rfl⟩))
      go_ret
      exact Gives.mk (by have := hf.out; rw [List.drop_of_length_le (by omega), demandSum] at this; rw [HD.out, ← this, Int.add_zero]; rfl)
end Go.Proofs.Ytonclekalgaojaa
