/- The contracts of Feasible. No condition but on lengths. -/
import Derived.Test.YtonclekalgaojaaDemand
namespace Go.Proofs.Ytonclekalgaojaa
set_option linter.unusedVariables false
open Go.ChangeShapes Go.WideShapes Go.ChangeAt Go.RowKit

def feasIn (p s l : Int) (full : List Request) (a : Int) : List Request → Bool
  | [] => true
  | y :: r => !(decide (visCount p s l a y.Deadline < demandOf full a y.Deadline)) && feasIn p s l full a r
def feasOut (p s l : Int) (full : List Request) : List Request → Bool
  | [] => true
  | x :: r => feasIn p s l full x.Ready full && feasOut p s l full r
def feasible (p s l : Int) (full : List Request) : Bool := orbitOk p s l && (requestsOk full && feasOut p s l full full)

set_option maxRecDepth 100000 in
set_option maxHeartbeats 2000000 in
theorem c_iFeasible {p : Option Addr} {n c : Nat} {pp ss ll : Int} {l : List Request} {w : World} (hs : Sl encRequest w p l) (hn : l.length = n) (hnc : n ≤ c) (hm : n ≤ 4611686018427387904) :
    Calls Try.prog 62 #[.agg #[.int .i64 pp, .int .i64 ss, .int .i64 ll], .slice p n c] w (Gives w (.bool (feasible pp ss ll l))) := by
  cases q1 : orbitOk pp ss ll
  · go_enter Try.func62, Try.ntmps62
    go_wp2_with (first | ((with_reducible refine wp_region_later (by kernel_rfl) (by kernel_rfl) ?_); (repeat (first | go_big_quiet_step (first | (go_at_call 37; exact Gives.quiet (c_iOrbitOk))) | simp only [q1])); refine wpQuiet_nil ?_; rintro _ ⟨x, rfl⟩) | (go_at_call 37; refine (c_iOrbitOk).mono ?_; rintro _ _ ⟨rfl, x, rfl⟩))
    go_ret
    exact Gives.mk (by simp [feasible, q1])
  cases q2 : requestsOk l
  · go_enter Try.func62, Try.ntmps62
    go_wp2_with (first | ((with_reducible refine wp_region_later (by kernel_rfl) (by kernel_rfl) ?_); (repeat (first | go_big_quiet_step (first | (go_at_call 37; exact Gives.quiet (c_iOrbitOk)) | (go_at_call 20; exact Gives.quiet (c_iRequestsOk (by first | assumption | (apply Sl.to <;> first | assumption | infer_instance) | omega) (by first | assumption | (apply Sl.to <;> first | assumption | infer_instance) | omega) (by first | assumption | (apply Sl.to <;> first | assumption | infer_instance) | omega) (by first | assumption | (apply Sl.to <;> first | assumption | infer_instance) | omega)))) | simp only [q1] | simp only [q2])); refine wpQuiet_nil ?_; rintro _ ⟨x, rfl⟩) | (go_at_call 37; refine (c_iOrbitOk).mono ?_; rintro _ _ ⟨rfl, x, rfl⟩) | (go_at_call 20; refine (c_iRequestsOk (by first | assumption | (apply Sl.to <;> first | assumption | infer_instance) | omega) (by first | assumption | (apply Sl.to <;> first | assumption | infer_instance) | omega) (by first | assumption | (apply Sl.to <;> first | assumption | infer_instance) | omega) (by first | assumption | (apply Sl.to <;> first | assumption | infer_instance) | omega)).mono ?_; rintro _ _ ⟨rfl, x, rfl⟩))
    go_ret
    exact Gives.mk (by simp [feasible, q2])
  have HFE := Lib.hid (show feasible pp ss ll l = feasOut pp ss ll l l by simp [feasible, q1, q2])
  go_enter Try.func62, Try.ntmps62
  go_wp2_with (first | ((with_reducible refine wp_region_later (by kernel_rfl) (by kernel_rfl) ?_); (repeat (first | go_big_quiet_step (first | (go_at_call 37; exact Gives.quiet (c_iOrbitOk)) | (go_at_call 20; exact Gives.quiet (c_iRequestsOk (by first | assumption | (apply Sl.to <;> first | assumption | infer_instance) | omega) (by first | assumption | (apply Sl.to <;> first | assumption | infer_instance) | omega) (by first | assumption | (apply Sl.to <;> first | assumption | infer_instance) | omega) (by first | assumption | (apply Sl.to <;> first | assumption | infer_instance) | omega)))) | simp only [q1] | simp only [q2])); refine wpQuiet_nil ?_; rintro _ ⟨x, rfl⟩) | (go_at_call 37; refine (c_iOrbitOk).mono ?_; rintro _ _ ⟨rfl, x, rfl⟩) | (go_at_call 20; refine (c_iRequestsOk (by first | assumption | (apply Sl.to <;> first | assumption | infer_instance) | omega) (by first | assumption | (apply Sl.to <;> first | assumption | infer_instance) | omega) (by first | assumption | (apply Sl.to <;> first | assumption | infer_instance) | omega) (by first | assumption | (apply Sl.to <;> first | assumption | infer_instance) | omega)).mono ?_; rintro _ _ ⟨rfl, x, rfl⟩))
  go_loopw [19] (fun v wr => ∃ k : Nat, v = .int .i64 k ∧ k ≤ n ∧ Hid (feasOut pp ss ll l (l.drop k) = feasOut pp ss ll l l) ∧ ∃ x : Later (w.alloc (.cells #[.int .i64 pp, .int .i64 ss, .int .i64 ll] 43)), wr = x.w) (fun v _ => (n - intOf v).toNat)
  case atStart => exact ⟨0, rfl, by omega, rfl, Later.of⟩
  case round =>
    obtain ⟨k, rfl, hk, hf, x0, rfl⟩ := hrel
    by_cases h : k < n
    · obtain ⟨b, off, s, rfl, hb, hd, h0, h1, h2, h3⟩ := hs.request (show k < l.length by omega)
      go_wp2_with (first | ((with_reducible refine wp_region_later (by kernel_rfl) (by kernel_rfl) ?_); (repeat (first | go_big_quiet_step (first | fail))); refine wpQuiet_nil ?_; rintro _ ⟨x, rfl⟩))
      go_loopw [25] (fun v wi => ∃ j : Nat, v = .int .i64 j ∧ j ≤ n ∧ Hid (feasIn pp ss ll l s.Ready (l.drop j) = feasIn pp ss ll l s.Ready l) ∧ ∃ y : Later (x0.w.alloc (.cells #[.int .i64 s.Id, .int .i64 s.Ready, .int .i64 s.Deadline, .int .i64 s.Need] 87)), wi = y.w) (fun v _ => (n - intOf v).toNat)
      case atStart => exact ⟨0, rfl, by omega, rfl, Later.of⟩
      case round =>
        obtain ⟨j, rfl, hj, hg, y, rfl⟩ := hrel
        by_cases hjk : j < n
        · obtain ⟨b', off', s', hbo, hb', hd', g0, g1, g2, g3⟩ := hs.request (show j < l.length by omega)
          simp only [Option.some.injEq, Addr.mk.injEq, and_true] at hbo
          obtain ⟨rfl, rfl⟩ := hbo
          cases c5 : decide (visCount pp ss ll s.Ready s'.Deadline < demandOf l s.Ready s'.Deadline)
          · go_wp2_with (first | ((with_reducible refine wp_region_later (by kernel_rfl) (by kernel_rfl) ?_); (repeat (first | go_big_quiet_step (first | (go_at_call 41; exact Gives.quiet (c_iDemandOf (by first | assumption | (apply Sl.to <;> first | assumption | infer_instance) | omega) (by first | assumption | (apply Sl.to <;> first | assumption | infer_instance) | omega) (by first | assumption | (apply Sl.to <;> first | assumption | infer_instance) | omega) (by first | assumption | (apply Sl.to <;> first | assumption | infer_instance) | omega))) | (go_at_call 36; exact Gives.quiet (c_iVisibleCount))) | simp only [c5])); refine wpQuiet_nil ?_; rintro _ ⟨x, rfl⟩) | (go_at_call 41; refine (c_iDemandOf (by first | assumption | (apply Sl.to <;> first | assumption | infer_instance) | omega) (by first | assumption | (apply Sl.to <;> first | assumption | infer_instance) | omega) (by first | assumption | (apply Sl.to <;> first | assumption | infer_instance) | omega) (by first | assumption | (apply Sl.to <;> first | assumption | infer_instance) | omega)).mono ?_; rintro _ _ ⟨rfl, x, rfl⟩) | (go_at_call 36; refine (c_iVisibleCount).mono ?_; rintro _ _ ⟨rfl, x, rfl⟩))
            go_roundw
            case rel => exact ⟨j + 1, by go_num, by omega, by have := hg.out; rw [hd'.out, feasIn, c5] at this; exact this, Later.of⟩
            case measure => simp [intOf]; omega
          · go_wp2_with (first | ((with_reducible refine wp_region_later (by kernel_rfl) (by kernel_rfl) ?_); (repeat (first | go_big_quiet_step (first | (go_at_call 41; exact Gives.quiet (c_iDemandOf (by first | assumption | (apply Sl.to <;> first | assumption | infer_instance) | omega) (by first | assumption | (apply Sl.to <;> first | assumption | infer_instance) | omega) (by first | assumption | (apply Sl.to <;> first | assumption | infer_instance) | omega) (by first | assumption | (apply Sl.to <;> first | assumption | infer_instance) | omega))) | (go_at_call 36; exact Gives.quiet (c_iVisibleCount))) | simp only [c5])); refine wpQuiet_nil ?_; rintro _ ⟨x, rfl⟩) | (go_at_call 41; refine (c_iDemandOf (by first | assumption | (apply Sl.to <;> first | assumption | infer_instance) | omega) (by first | assumption | (apply Sl.to <;> first | assumption | infer_instance) | omega) (by first | assumption | (apply Sl.to <;> first | assumption | infer_instance) | omega) (by first | assumption | (apply Sl.to <;> first | assumption | infer_instance) | omega)).mono ?_; rintro _ _ ⟨rfl, x, rfl⟩) | (go_at_call 36; refine (c_iVisibleCount).mono ?_; rintro _ _ ⟨rfl, x, rfl⟩))
            go_ret
            exact Gives.mk (by have := hf.out; have h9 := hg.out; rw [hd'.out, feasIn, c5] at h9; rw [hd.out, feasOut, ← h9] at this; rw [HFE.out, ← this]; simp)
        · go_wp2_with (first | ((with_reducible refine wp_region_later (by kernel_rfl) (by kernel_rfl) ?_); (repeat (first | go_big_quiet_step (first | fail))); refine wpQuiet_nil ?_; rintro _ ⟨x, rfl⟩))
          go_roundw
          case rel =>
            have h9 := hg.out
            rw [List.drop_of_length_le (by omega), feasIn] at h9
            exact ⟨k + 1, by go_num, by omega, by have := hf.out; rw [hd.out, feasOut, ← h9] at this; exact this, Later.of⟩
          case measure => simp [intOf]; omega
    · go_wp2_with (first | ((with_reducible refine wp_region_later (by kernel_rfl) (by kernel_rfl) ?_); (repeat (first | go_big_quiet_step (first | fail))); refine wpQuiet_nil ?_; rintro _ ⟨x, rfl⟩))
      go_ret
      exact Gives.mk (by have := hf.out; rw [List.drop_of_length_le (by omega), feasOut] at this; rw [HFE.out, ← this]; rfl)

set_option maxRecDepth 100000 in
set_option maxHeartbeats 2000000 in
theorem c_sFeasible {p : Option Addr} {n c : Nat} {pp ss ll : Int} {l : List Request} {w : World} (hs : Sl encRequest w p l) (hn : l.length = n) (hm : n ≤ 4611686018427387904) :
    Calls Try.prog 60 #[.agg #[.int .i64 pp, .int .i64 ss, .int .i64 ll], .slice p n c] w (Gives w (.bool (feasible pp ss ll l))) := by
  cases q1 : orbitOk pp ss ll
  · go_enter Try.func60, Try.ntmps60
    go_wp2_with (first | ((with_reducible refine wp_region_later (by kernel_rfl) (by kernel_rfl) ?_); (repeat (first | go_big_quiet_step (first | (go_at_call 90; exact Gives.quiet (c_sOrbitOk))) | simp only [q1])); refine wpQuiet_nil ?_; rintro _ ⟨x, rfl⟩) | (go_at_call 90; refine (c_sOrbitOk).mono ?_; rintro _ _ ⟨rfl, x, rfl⟩))
    go_ret
    exact Gives.mk (by simp [feasible, q1])
  cases q2 : requestsOk l
  · go_enter Try.func60, Try.ntmps60
    go_wp2_with (first | ((with_reducible refine wp_region_later (by kernel_rfl) (by kernel_rfl) ?_); (repeat (first | go_big_quiet_step (first | (go_at_call 90; exact Gives.quiet (c_sOrbitOk)) | (go_at_call 18; exact Gives.quiet (c_sRequestsOk (by first | assumption | (apply Sl.to <;> first | assumption | infer_instance) | omega) (by first | assumption | (apply Sl.to <;> first | assumption | infer_instance) | omega) (by first | assumption | (apply Sl.to <;> first | assumption | infer_instance) | omega)))) | simp only [q1] | simp only [q2])); refine wpQuiet_nil ?_; rintro _ ⟨x, rfl⟩) | (go_at_call 90; refine (c_sOrbitOk).mono ?_; rintro _ _ ⟨rfl, x, rfl⟩) | (go_at_call 18; refine (c_sRequestsOk (by first | assumption | (apply Sl.to <;> first | assumption | infer_instance) | omega) (by first | assumption | (apply Sl.to <;> first | assumption | infer_instance) | omega) (by first | assumption | (apply Sl.to <;> first | assumption | infer_instance) | omega)).mono ?_; rintro _ _ ⟨rfl, x, rfl⟩))
    go_ret
    exact Gives.mk (by simp [feasible, q2])
  have HFE := Lib.hid (show feasible pp ss ll l = feasOut pp ss ll l l by simp [feasible, q1, q2])
  go_enter Try.func60, Try.ntmps60
  go_wp2_with (first | ((with_reducible refine wp_region_later (by kernel_rfl) (by kernel_rfl) ?_); (repeat (first | go_big_quiet_step (first | (go_at_call 90; exact Gives.quiet (c_sOrbitOk)) | (go_at_call 18; exact Gives.quiet (c_sRequestsOk (by first | assumption | (apply Sl.to <;> first | assumption | infer_instance) | omega) (by first | assumption | (apply Sl.to <;> first | assumption | infer_instance) | omega) (by first | assumption | (apply Sl.to <;> first | assumption | infer_instance) | omega)))) | simp only [q1] | simp only [q2])); refine wpQuiet_nil ?_; rintro _ ⟨x, rfl⟩) | (go_at_call 90; refine (c_sOrbitOk).mono ?_; rintro _ _ ⟨rfl, x, rfl⟩) | (go_at_call 18; refine (c_sRequestsOk (by first | assumption | (apply Sl.to <;> first | assumption | infer_instance) | omega) (by first | assumption | (apply Sl.to <;> first | assumption | infer_instance) | omega) (by first | assumption | (apply Sl.to <;> first | assumption | infer_instance) | omega)).mono ?_; rintro _ _ ⟨rfl, x, rfl⟩))
  go_loopw [5] (fun v wr => ∃ k : Nat, v = .int .i64 k ∧ k ≤ n ∧ Hid (feasOut pp ss ll l (l.drop k) = feasOut pp ss ll l l) ∧ ∃ x : Later (w.alloc (.cells #[.int .i64 pp, .int .i64 ss, .int .i64 ll] 43)), wr = x.w) (fun v _ => (n - intOf v).toNat)
  case atStart => exact ⟨0, rfl, by omega, rfl, Later.of⟩
  case round =>
    obtain ⟨k, rfl, hk, hf, x0, rfl⟩ := hrel
    by_cases h : k < n
    · obtain ⟨b, off, s, rfl, hb, hd, h0, h1, h2, h3⟩ := hs.request (show k < l.length by omega)
      go_wp2_with (first | ((with_reducible refine wp_region_later (by kernel_rfl) (by kernel_rfl) ?_); (repeat (first | go_big_quiet_step (first | fail))); refine wpQuiet_nil ?_; rintro _ ⟨x, rfl⟩))
      go_loopw [6, 7, 8] (fun v va vb wi => ∃ j : Nat, v = .int .i64 j ∧ j ≤ n ∧ Hid (feasIn pp ss ll l s.Ready (l.drop j) = feasIn pp ss ll l s.Ready l) ∧ ∃ y : Later (x0.w), wi = y.w) (fun v _ _ _ => (n - intOf v).toNat)
      case atStart => exact ⟨0, rfl, by omega, rfl, Later.of⟩
      case round =>
        obtain ⟨j, rfl, hj, hg, y, rfl⟩ := hrel
        by_cases hjk : j < n
        · obtain ⟨b', off', s', hbo, hb', hd', g0, g1, g2, g3⟩ := hs.request (show j < l.length by omega)
          simp only [Option.some.injEq, Addr.mk.injEq, and_true] at hbo
          obtain ⟨rfl, rfl⟩ := hbo
          cases c5 : decide (visCount pp ss ll s.Ready s'.Deadline < demandOf l s.Ready s'.Deadline)
          · go_wp2_with (first | ((with_reducible refine wp_region_later (by kernel_rfl) (by kernel_rfl) ?_); (repeat (first | go_big_quiet_step (first | (go_at_call 40; exact Gives.quiet (c_sDemandOf (by first | assumption | (apply Sl.to <;> first | assumption | infer_instance) | omega) (by first | assumption | (apply Sl.to <;> first | assumption | infer_instance) | omega) (by first | assumption | (apply Sl.to <;> first | assumption | infer_instance) | omega))) | (go_at_call 91; exact Gives.quiet (c_sVisibleCount))) | simp only [c5])); refine wpQuiet_nil ?_; rintro _ ⟨x, rfl⟩) | (go_at_call 40; refine (c_sDemandOf (by first | assumption | (apply Sl.to <;> first | assumption | infer_instance) | omega) (by first | assumption | (apply Sl.to <;> first | assumption | infer_instance) | omega) (by first | assumption | (apply Sl.to <;> first | assumption | infer_instance) | omega)).mono ?_; rintro _ _ ⟨rfl, x, rfl⟩) | (go_at_call 91; refine (c_sVisibleCount).mono ?_; rintro _ _ ⟨rfl, x, rfl⟩))
            go_roundw
            case rel => exact ⟨j + 1, by go_num, by omega, by have := hg.out; rw [hd'.out, feasIn, c5] at this; exact this, Later.of⟩
            case measure => simp [intOf]; omega
          · go_wp2_with (first | ((with_reducible refine wp_region_later (by kernel_rfl) (by kernel_rfl) ?_); (repeat (first | go_big_quiet_step (first | (go_at_call 40; exact Gives.quiet (c_sDemandOf (by first | assumption | (apply Sl.to <;> first | assumption | infer_instance) | omega) (by first | assumption | (apply Sl.to <;> first | assumption | infer_instance) | omega) (by first | assumption | (apply Sl.to <;> first | assumption | infer_instance) | omega))) | (go_at_call 91; exact Gives.quiet (c_sVisibleCount))) | simp only [c5])); refine wpQuiet_nil ?_; rintro _ ⟨x, rfl⟩) | (go_at_call 40; refine (c_sDemandOf (by first | assumption | (apply Sl.to <;> first | assumption | infer_instance) | omega) (by first | assumption | (apply Sl.to <;> first | assumption | infer_instance) | omega) (by first | assumption | (apply Sl.to <;> first | assumption | infer_instance) | omega)).mono ?_; rintro _ _ ⟨rfl, x, rfl⟩) | (go_at_call 91; refine (c_sVisibleCount).mono ?_; rintro _ _ ⟨rfl, x, rfl⟩))
            go_ret
            exact Gives.mk (by have := hf.out; have h9 := hg.out; rw [hd'.out, feasIn, c5] at h9; rw [hd.out, feasOut, ← h9] at this; rw [HFE.out, ← this]; simp)
        · go_wp2_with (first | ((with_reducible refine wp_region_later (by kernel_rfl) (by kernel_rfl) ?_); (repeat (first | go_big_quiet_step (first | fail))); refine wpQuiet_nil ?_; rintro _ ⟨x, rfl⟩))
          go_roundw
          case rel =>
            have h9 := hg.out
            rw [List.drop_of_length_le (by omega), feasIn] at h9
            exact ⟨k + 1, by go_num, by omega, by have := hf.out; rw [hd.out, feasOut, ← h9] at this; exact this, Later.of⟩
          case measure => simp [intOf]; omega
    · go_wp2_with (first | ((with_reducible refine wp_region_later (by kernel_rfl) (by kernel_rfl) ?_); (repeat (first | go_big_quiet_step (first | fail))); refine wpQuiet_nil ?_; rintro _ ⟨x, rfl⟩))
      go_ret
      exact Gives.mk (by have := hf.out; rw [List.drop_of_length_le (by omega), feasOut] at this; rw [HFE.out, ← this]; rfl)
end Go.Proofs.Ytonclekalgaojaa
