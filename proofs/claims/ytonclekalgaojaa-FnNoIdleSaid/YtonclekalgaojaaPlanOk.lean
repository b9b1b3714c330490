/- The contracts of PlanOk. No condition but on lengths. -/
import Derived.Test.YtonclekalgaojaaMissed
namespace Go.Proofs.Ytonclekalgaojaa
set_option linter.unusedVariables false
open Go.ChangeShapes Go.WideShapes Go.ChangeAt Go.RowKit

def anyOf {α : Type} (f : α → Bool) : List α → Bool
  | [] => false
  | x :: r => f x || anyOf f r
theorem anyOf_iff {α : Type} {f : α → Bool} : ∀ {l : List α}, anyOf f l = true ↔ ∃ x ∈ l, f x = true
  | [] => by simp [anyOf]
  | x :: r => by simp [anyOf, anyOf_iff (l := r)]

def after (o : Option Slot) (s : Slot) : Bool := match o with | none => true | some q => decide (q.Time < s.Time)
def fitI (s : Slot) (r : Request) : Bool := (r.Id == s.Id) && inB s.Time r.Ready r.Deadline
def fitS (plan : List Slot) (s : Slot) (r : Request) : Bool := (r.Id == s.Id) && (inB s.Time r.Ready r.Deadline && decide ((slotsOf r.Id plan : Int) ≤ r.Need))
/-- All slots, the first behind o: visible, ascending, and each found by g. -/
def slotsGood (p s l : Int) (g : Slot → Bool) : Option Slot → List Slot → Bool
  | _, [] => true
  | o, x :: r => visible p s l x.Time && (after o x && (g x && slotsGood p s l g (some x) r))
def needsOk (plan : List Slot) : List Request → Bool
  | [] => true
  | r :: rest => !(decide (r.Need < (slotsOf r.Id plan : Int))) && needsOk plan rest
def planOkI (p s l : Int) (list : List Request) (plan : List Slot) : Bool :=
  orbitOk p s l && (requestsOk list && (slotsGood p s l (fun x => anyOf (fitI x) list) none plan && needsOk plan list))
def planOkS (p s l : Int) (list : List Request) (plan : List Slot) : Bool :=
  slotsGood p s l (fun x => anyOf (fitS plan x) list) none plan && (orbitOk p s l && requestsOk list)

theorem prevAt_succ' {α : Type} {l r : List α} {k : Nat} {s : α} (h : l.drop k = s :: r) : prevAt l (k + 1) = some s := prevAt_succ h

set_option maxRecDepth 100000 in
set_option maxHeartbeats 2000000 in
theorem c_iPlanOk {a q : Option Addr} {n c n2 c2 : Nat} {p s l : Int} {list : List Request} {plan : List Slot} {w : World} (hs : Sl encRequest w a list) (hp : Sl encSlot w q plan) (hn : list.length = n) (hnc : n ≤ c) (hn2 : plan.length = n2) (hm : n ≤ 4611686018427387904) (hm2 : n2 ≤ 4611686018427387904) :
    Calls Try.prog 68 #[.agg #[.int .i64 p, .int .i64 s, .int .i64 l], .slice a n c, .slice q n2 c2] w (Gives w (.bool (planOkI p s l list plan))) := by
  cases q1 : orbitOk p s l
  · go_enter Try.func68, Try.ntmps68
    go_wp2_with (first | ((with_reducible refine wp_region_later (by kernel_rfl) (by kernel_rfl) ?_); (repeat (first | go_big_quiet_step (first | (go_at_call 37; exact Gives.quiet (c_iOrbitOk))) | simp only [q1])); refine wpQuiet_nil ?_; rintro _ ⟨x, rfl⟩) | (go_at_call 37; refine (c_iOrbitOk).mono ?_; rintro _ _ ⟨rfl, x, rfl⟩))
    go_ret
    exact Gives.mk (by simp [planOkI, q1])
  cases q2 : requestsOk list
  · go_enter Try.func68, Try.ntmps68
    go_wp2_with (first | ((with_reducible refine wp_region_later (by kernel_rfl) (by kernel_rfl) ?_); (repeat (first | go_big_quiet_step (first | (go_at_call 37; exact Gives.quiet (c_iOrbitOk)) | (go_at_call 20; exact Gives.quiet (c_iRequestsOk (by first | assumption | (apply Sl.to <;> first | assumption | infer_instance) | omega) (by first | assumption | (apply Sl.to <;> first | assumption | infer_instance) | omega) (by first | assumption | (apply Sl.to <;> first | assumption | infer_instance) | omega) (by first | assumption | (apply Sl.to <;> first | assumption | infer_instance) | omega)))) | simp only [q1] | simp only [q2])); refine wpQuiet_nil ?_; rintro _ ⟨x, rfl⟩) | (go_at_call 37; refine (c_iOrbitOk).mono ?_; rintro _ _ ⟨rfl, x, rfl⟩) | (go_at_call 20; refine (c_iRequestsOk (by first | assumption | (apply Sl.to <;> first | assumption | infer_instance) | omega) (by first | assumption | (apply Sl.to <;> first | assumption | infer_instance) | omega) (by first | assumption | (apply Sl.to <;> first | assumption | infer_instance) | omega) (by first | assumption | (apply Sl.to <;> first | assumption | infer_instance) | omega)).mono ?_; rintro _ _ ⟨rfl, x, rfl⟩))
    go_ret
    exact Gives.mk (by simp [planOkI, q2])
  have HFE := Lib.hid (show planOkI p s l list plan = (slotsGood p s l (fun x => anyOf (fitI x) list) none plan && needsOk plan list) by simp [planOkI, q1, q2])
  go_enter Try.func68, Try.ntmps68
  go_wp2_with (first | ((with_reducible refine wp_region_later (by kernel_rfl) (by kernel_rfl) ?_); (repeat (first | go_big_quiet_step (first | (go_at_call 37; exact Gives.quiet (c_iOrbitOk)) | (go_at_call 20; exact Gives.quiet (c_iRequestsOk (by first | assumption | (apply Sl.to <;> first | assumption | infer_instance) | omega) (by first | assumption | (apply Sl.to <;> first | assumption | infer_instance) | omega) (by first | assumption | (apply Sl.to <;> first | assumption | infer_instance) | omega) (by first | assumption | (apply Sl.to <;> first | assumption | infer_instance) | omega)))) | simp only [q1] | simp only [q2])); refine wpQuiet_nil ?_; rintro _ ⟨x, rfl⟩) | (go_at_call 37; refine (c_iOrbitOk).mono ?_; rintro _ _ ⟨rfl, x, rfl⟩) | (go_at_call 20; refine (c_iRequestsOk (by first | assumption | (apply Sl.to <;> first | assumption | infer_instance) | omega) (by first | assumption | (apply Sl.to <;> first | assumption | infer_instance) | omega) (by first | assumption | (apply Sl.to <;> first | assumption | infer_instance) | omega) (by first | assumption | (apply Sl.to <;> first | assumption | infer_instance) | omega)).mono ?_; rintro _ _ ⟨rfl, x, rfl⟩))
  go_loopw [24] (fun v wr => ∃ k : Nat, v = .int .i64 k ∧ k ≤ n2 ∧ Hid (slotsGood p s l (fun x => anyOf (fitI x) list) (prevAt plan k) (plan.drop k) = slotsGood p s l (fun x => anyOf (fitI x) list) none plan) ∧ ∃ x : Later (w.alloc (.cells #[.int .i64 p, .int .i64 s, .int .i64 l] 43)), wr = x.w) (fun v _ => (n2 - intOf v).toNat)
  case atStart => exact ⟨0, rfl, by omega, rfl, Later.of⟩
  case round =>
    obtain ⟨k, rfl, hk, hf, x0, rfl⟩ := hrel
    by_cases h : k < n2
    · obtain ⟨b, off, sl, rfl, hb, hd, h0, h1⟩ := hp.slot (show k < plan.length by omega)
      cases c1 : visible p s l sl.Time
      · go_wp2_with (first | ((with_reducible refine wp_region_later (by kernel_rfl) (by kernel_rfl) ?_); (repeat (first | go_big_quiet_step (first | (go_at_call 33; exact Gives.quiet (c_iVisible))) | simp only [c1])); refine wpQuiet_nil ?_; rintro _ ⟨x, rfl⟩) | (go_at_call 33; refine (c_iVisible).mono ?_; rintro _ _ ⟨rfl, x, rfl⟩))
        go_ret
        exact Gives.mk (by have := hf.out; rw [hd.out, slotsGood, c1] at this; rw [HFE.out, ← this]; rfl)
      by_cases hz : k = 0
      · have hz' : decide (0 < (k : Int)) = false := by simp; omega
        have hz2 : decide (0 < k) = false := by simp; omega
        have haf : Hid (after (prevAt plan k) sl = true) := by rw [hz]; rfl
        have HZ := Lib.hid hz; clear hz
        go_wp2_with (first | ((with_reducible refine wp_region_later (by kernel_rfl) (by kernel_rfl) ?_); (repeat (first | go_big_quiet_step (first | (go_at_call 33; exact Gives.quiet (c_iVisible))) | simp only [c1] | simp only [hz'] | simp only [hz2] | simp only [c3])); refine wpQuiet_nil ?_; rintro _ ⟨x, rfl⟩) | (go_at_call 33; refine (c_iVisible).mono ?_; rintro _ _ ⟨rfl, x, rfl⟩))
        go_loopw [9, 51] (fun u v wi => ∃ (j : Nat) (f : Bool), v = .int .i64 j ∧ u = .bool f ∧ j ≤ n ∧ Hid ((f || anyOf (fitI sl) (list.drop j)) = anyOf (fitI sl) list) ∧ ∃ y : Later (x0.w.alloc (.cells #[.int .i64 sl.Time, .int .i64 sl.Id] 85)), wi = y.w) (fun _ v _ => (n - intOf v).toNat)
        case atStart => exact ⟨0, false, rfl, rfl, by omega, rfl, Later.of⟩
        case round =>
          obtain ⟨j, f, rfl, rfl, hj, hg, y, rfl⟩ := hrel
          by_cases hjk : j < n
          · obtain ⟨b', off', r, rfl, hb', hd', g0, g1, g2, g3⟩ := hs.request (show j < list.length by omega)
            cases c5 : (r.Id == sl.Id)
            · go_wp2_with (first | ((with_reducible refine wp_region_later (by kernel_rfl) (by kernel_rfl) ?_); (repeat (first | go_big_quiet_step (first | fail) | simp only [c5])); refine wpQuiet_nil ?_; rintro _ ⟨x, rfl⟩))
              go_roundw
              case rel => exact ⟨j + 1, f, by go_num, rfl, by omega, by have := hg.out; rw [hd'.out, anyOf, fitI, c5] at this; simpa [Hid] using this, Later.of⟩
              case measure => simp [intOf]; omega
            cases c6 : inB sl.Time r.Ready r.Deadline
            · go_wp2_with (first | ((with_reducible refine wp_region_later (by kernel_rfl) (by kernel_rfl) ?_); (repeat (first | go_big_quiet_step (first | (go_at_call 74; exact Gives.quiet (c_ibetween))) | simp only [c5] | simp only [c6])); refine wpQuiet_nil ?_; rintro _ ⟨x, rfl⟩) | (go_at_call 74; refine (c_ibetween).mono ?_; rintro _ _ ⟨rfl, x, rfl⟩))
              go_roundw
              case rel => exact ⟨j + 1, f, by go_num, rfl, by omega, by have := hg.out; rw [hd'.out, anyOf, fitI, c5, c6] at this; simpa [Hid] using this, Later.of⟩
              case measure => simp [intOf]; omega
            · go_wp2_with (first | ((with_reducible refine wp_region_later (by kernel_rfl) (by kernel_rfl) ?_); (repeat (first | go_big_quiet_step (first | (go_at_call 74; exact Gives.quiet (c_ibetween))) | simp only [c5] | simp only [c6])); refine wpQuiet_nil ?_; rintro _ ⟨x, rfl⟩) | (go_at_call 74; refine (c_ibetween).mono ?_; rintro _ _ ⟨rfl, x, rfl⟩))
              go_roundw
              case rel => exact ⟨j + 1, true, by go_num, rfl, by omega, by have := hg.out; rw [hd'.out, anyOf, fitI, c5, c6] at this; simpa [Hid] using this, Later.of⟩
              case measure => simp [intOf]; omega
          · have hg' := hg.out
            rw [List.drop_of_length_le (by omega), anyOf, Bool.or_false] at hg'
            have HG := Lib.hid hg'; clear hg' hg
            cases f with
            | false =>
              go_wp2_with (first | ((with_reducible refine wp_region_later (by kernel_rfl) (by kernel_rfl) ?_); (repeat (first | go_big_quiet_step (first | fail))); refine wpQuiet_nil ?_; rintro _ ⟨x, rfl⟩))
              go_ret
              exact Gives.mk (by have := hf.out; rw [hd.out, slotsGood, c1, ← HG.out] at this; rw [HFE.out, ← this]; simp)
            | true =>
              go_wp2_with (first | ((with_reducible refine wp_region_later (by kernel_rfl) (by kernel_rfl) ?_); (repeat (first | go_big_quiet_step (first | fail))); refine wpQuiet_nil ?_; rintro _ ⟨x, rfl⟩))
              go_roundw
              case rel => exact ⟨k + 1, by go_num, by omega, by have := hf.out; rw [hd.out, slotsGood, c1, haf.out, ← HG.out] at this; rw [prevAt_succ hd.out]; exact this, Later.of⟩
              case measure => simp [intOf]; omega
      · obtain ⟨b2, off2, qs, hbo, hb2, hd2, h2, h3⟩ := hp.slot (show k - 1 < plan.length by omega)
        simp only [Option.some.injEq, Addr.mk.injEq, and_true] at hbo
        obtain ⟨rfl, rfl⟩ := hbo
        have hz' : decide (0 < (k : Int)) = true := by simp; omega
        have hz2 : decide (0 < k) = true := by simp; omega
        have hp2 : prevAt plan k = some qs := by have := prevAt_succ hd2.out; rwa [show k - 1 + 1 = k from by omega] at this
        have HP2 := Lib.hid hp2; clear hp2
        cases c3 : decide (sl.Time ≤ qs.Time)
        · have haf : Hid (after (prevAt plan k) sl = true) := by rw [HP2.out]; simp at c3; simp [Hid, after, c3]
          go_wp2_with (first | ((with_reducible refine wp_region_later (by kernel_rfl) (by kernel_rfl) ?_); (repeat (first | go_big_quiet_step (first | (go_at_call 33; exact Gives.quiet (c_iVisible))) | simp only [c1] | simp only [hz'] | simp only [hz2] | simp only [c3])); refine wpQuiet_nil ?_; rintro _ ⟨x, rfl⟩) | (go_at_call 33; refine (c_iVisible).mono ?_; rintro _ _ ⟨rfl, x, rfl⟩))
          go_loopw [9, 51] (fun u v wi => ∃ (j : Nat) (f : Bool), v = .int .i64 j ∧ u = .bool f ∧ j ≤ n ∧ Hid ((f || anyOf (fitI sl) (list.drop j)) = anyOf (fitI sl) list) ∧ ∃ y : Later (x0.w.alloc (.cells #[.int .i64 sl.Time, .int .i64 sl.Id] 85)), wi = y.w) (fun _ v _ => (n - intOf v).toNat)
          case atStart => exact ⟨0, false, rfl, rfl, by omega, rfl, Later.of⟩
          case round =>
            obtain ⟨j, f, rfl, rfl, hj, hg, y, rfl⟩ := hrel
            by_cases hjk : j < n
            · obtain ⟨b', off', r, rfl, hb', hd', g0, g1, g2, g3⟩ := hs.request (show j < list.length by omega)
              cases c5 : (r.Id == sl.Id)
              · go_wp2_with (first | ((with_reducible refine wp_region_later (by kernel_rfl) (by kernel_rfl) ?_); (repeat (first | go_big_quiet_step (first | fail) | simp only [c5])); refine wpQuiet_nil ?_; rintro _ ⟨x, rfl⟩))
                go_roundw
                case rel => exact ⟨j + 1, f, by go_num, rfl, by omega, by have := hg.out; rw [hd'.out, anyOf, fitI, c5] at this; simpa [Hid] using this, Later.of⟩
                case measure => simp [intOf]; omega
              cases c6 : inB sl.Time r.Ready r.Deadline
              · go_wp2_with (first | ((with_reducible refine wp_region_later (by kernel_rfl) (by kernel_rfl) ?_); (repeat (first | go_big_quiet_step (first | (go_at_call 74; exact Gives.quiet (c_ibetween))) | simp only [c5] | simp only [c6])); refine wpQuiet_nil ?_; rintro _ ⟨x, rfl⟩) | (go_at_call 74; refine (c_ibetween).mono ?_; rintro _ _ ⟨rfl, x, rfl⟩))
                go_roundw
                case rel => exact ⟨j + 1, f, by go_num, rfl, by omega, by have := hg.out; rw [hd'.out, anyOf, fitI, c5, c6] at this; simpa [Hid] using this, Later.of⟩
                case measure => simp [intOf]; omega
              · go_wp2_with (first | ((with_reducible refine wp_region_later (by kernel_rfl) (by kernel_rfl) ?_); (repeat (first | go_big_quiet_step (first | (go_at_call 74; exact Gives.quiet (c_ibetween))) | simp only [c5] | simp only [c6])); refine wpQuiet_nil ?_; rintro _ ⟨x, rfl⟩) | (go_at_call 74; refine (c_ibetween).mono ?_; rintro _ _ ⟨rfl, x, rfl⟩))
                go_roundw
                case rel => exact ⟨j + 1, true, by go_num, rfl, by omega, by have := hg.out; rw [hd'.out, anyOf, fitI, c5, c6] at this; simpa [Hid] using this, Later.of⟩
                case measure => simp [intOf]; omega
            · have hg' := hg.out
              rw [List.drop_of_length_le (by omega), anyOf, Bool.or_false] at hg'
              have HG := Lib.hid hg'; clear hg' hg
              cases f with
              | false =>
                go_wp2_with (first | ((with_reducible refine wp_region_later (by kernel_rfl) (by kernel_rfl) ?_); (repeat (first | go_big_quiet_step (first | fail))); refine wpQuiet_nil ?_; rintro _ ⟨x, rfl⟩))
                go_ret
                exact Gives.mk (by have := hf.out; rw [hd.out, slotsGood, c1, ← HG.out] at this; rw [HFE.out, ← this]; simp)
              | true =>
                go_wp2_with (first | ((with_reducible refine wp_region_later (by kernel_rfl) (by kernel_rfl) ?_); (repeat (first | go_big_quiet_step (first | fail))); refine wpQuiet_nil ?_; rintro _ ⟨x, rfl⟩))
                go_roundw
                case rel => exact ⟨k + 1, by go_num, by omega, by have := hf.out; rw [hd.out, slotsGood, c1, haf.out, ← HG.out] at this; rw [prevAt_succ hd.out]; exact this, Later.of⟩
                case measure => simp [intOf]; omega
        · go_wp2_with (first | ((with_reducible refine wp_region_later (by kernel_rfl) (by kernel_rfl) ?_); (repeat (first | go_big_quiet_step (first | (go_at_call 33; exact Gives.quiet (c_iVisible))) | simp only [c1] | simp only [hz'] | simp only [hz2] | simp only [c3])); refine wpQuiet_nil ?_; rintro _ ⟨x, rfl⟩) | (go_at_call 33; refine (c_iVisible).mono ?_; rintro _ _ ⟨rfl, x, rfl⟩))
          go_ret
          exact Gives.mk (by have := hf.out; rw [hd.out, slotsGood, c1, HP2.out] at this; rw [HFE.out, ← this]; simp at c3; simp [after]; omega)
    · have hf' := hf.out
      rw [List.drop_of_length_le (by omega), slotsGood] at hf'
      have HF := Lib.hid hf'; clear hf' hf
      go_wp2_with (first | ((with_reducible refine wp_region_later (by kernel_rfl) (by kernel_rfl) ?_); (repeat (first | go_big_quiet_step (first | fail))); refine wpQuiet_nil ?_; rintro _ ⟨x, rfl⟩))
      go_loopw [75] (fun v wi => ∃ j : Nat, v = .int .i64 j ∧ j ≤ n ∧ Hid (needsOk plan (list.drop j) = needsOk plan list) ∧ ∃ y : Later w, wi = y.w) (fun v _ => (n - intOf v).toNat)
      case atStart => exact ⟨0, rfl, by omega, rfl, Later.of⟩
      case round =>
        obtain ⟨j, rfl, hj, hg, y, rfl⟩ := hrel
        by_cases hjk : j < n
        · obtain ⟨b', off', r, rfl, hb', hd', g0, g1, g2, g3⟩ := hs.request (show j < list.length by omega)
          cases c7 : decide (r.Need < (slotsOf r.Id plan : Int))
          · go_wp2_with (first | ((with_reducible refine wp_region_later (by kernel_rfl) (by kernel_rfl) ?_); (repeat (first | go_big_quiet_step (first | (go_at_call 69; exact Gives.quiet (c_iSlotsOf (by first | assumption | (apply Sl.to <;> first | assumption | infer_instance) | omega) (by first | assumption | (apply Sl.to <;> first | assumption | infer_instance) | omega) (by first | assumption | (apply Sl.to <;> first | assumption | infer_instance) | omega)))) | simp only [c7])); refine wpQuiet_nil ?_; rintro _ ⟨x, rfl⟩) | (go_at_call 69; refine (c_iSlotsOf (by first | assumption | (apply Sl.to <;> first | assumption | infer_instance) | omega) (by first | assumption | (apply Sl.to <;> first | assumption | infer_instance) | omega) (by first | assumption | (apply Sl.to <;> first | assumption | infer_instance) | omega)).mono ?_; rintro _ _ ⟨rfl, x, rfl⟩))
            go_roundw
            case rel => exact ⟨j + 1, by go_num, by omega, by have := hg.out; rw [hd'.out, needsOk, c7] at this; exact this, Later.of⟩
            case measure => simp [intOf]; omega
          · go_wp2_with (first | ((with_reducible refine wp_region_later (by kernel_rfl) (by kernel_rfl) ?_); (repeat (first | go_big_quiet_step (first | (go_at_call 69; exact Gives.quiet (c_iSlotsOf (by first | assumption | (apply Sl.to <;> first | assumption | infer_instance) | omega) (by first | assumption | (apply Sl.to <;> first | assumption | infer_instance) | omega) (by first | assumption | (apply Sl.to <;> first | assumption | infer_instance) | omega)))) | simp only [c7])); refine wpQuiet_nil ?_; rintro _ ⟨x, rfl⟩) | (go_at_call 69; refine (c_iSlotsOf (by first | assumption | (apply Sl.to <;> first | assumption | infer_instance) | omega) (by first | assumption | (apply Sl.to <;> first | assumption | infer_instance) | omega) (by first | assumption | (apply Sl.to <;> first | assumption | infer_instance) | omega)).mono ?_; rintro _ _ ⟨rfl, x, rfl⟩))
            go_ret
            exact Gives.mk (by have := hg.out; rw [hd'.out, needsOk, c7] at this; rw [HFE.out, ← HF.out, ← this]; rfl)
        · go_wp2_with (first | ((with_reducible refine wp_region_later (by kernel_rfl) (by kernel_rfl) ?_); (repeat (first | go_big_quiet_step (first | fail))); refine wpQuiet_nil ?_; rintro _ ⟨x, rfl⟩))
          go_ret
          exact Gives.mk (by have := hg.out; rw [List.drop_of_length_le (by omega), needsOk] at this; rw [HFE.out, ← HF.out, ← this]; rfl)

set_option maxRecDepth 100000 in
set_option maxHeartbeats 2000000 in
theorem c_sPlanOk {a q : Option Addr} {n c n2 c2 : Nat} {p s l : Int} {list : List Request} {plan : List Slot} {w : World} (hs : Sl encRequest w a list) (hp : Sl encSlot w q plan) (hn : list.length = n) (hn2 : plan.length = n2) (hm : n ≤ 4611686018427387904) (hm2 : n2 ≤ 4611686018427387904) :
    Calls Try.prog 67 #[.agg #[.int .i64 p, .int .i64 s, .int .i64 l], .slice a n c, .slice q n2 c2] w (Gives w (.bool (planOkS p s l list plan))) := by
  have HFE := Lib.hid (show planOkS p s l list plan = (slotsGood p s l (fun x => anyOf (fitS plan x) list) none plan && (orbitOk p s l && requestsOk list)) from rfl)
  go_enter Try.func67, Try.ntmps67
  go_wp2_with (first | ((with_reducible refine wp_region_later (by kernel_rfl) (by kernel_rfl) ?_); (repeat (first | go_big_quiet_step (first | fail))); refine wpQuiet_nil ?_; rintro _ ⟨x, rfl⟩))
  go_loopw [7] (fun v wr => ∃ k : Nat, v = .int .i64 k ∧ k ≤ n2 ∧ Hid (slotsGood p s l (fun x => anyOf (fitS plan x) list) (prevAt plan k) (plan.drop k) = slotsGood p s l (fun x => anyOf (fitS plan x) list) none plan) ∧ ∃ x : Later (w.alloc (.cells #[.int .i64 p, .int .i64 s, .int .i64 l] 43)), wr = x.w) (fun v _ => (n2 - intOf v).toNat)
  case atStart => exact ⟨0, rfl, by omega, rfl, Later.of⟩
  case round =>
    obtain ⟨k, rfl, hk, hf, x0, rfl⟩ := hrel
    by_cases h : k < n2
    · obtain ⟨b, off, sl, rfl, hb, hd, h0, h1⟩ := hp.slot (show k < plan.length by omega)
      cases c1 : visible p s l sl.Time
      · go_wp2_with (first | ((with_reducible refine wp_region_later (by kernel_rfl) (by kernel_rfl) ?_); (repeat (first | go_big_quiet_step (first | (go_at_call 65; exact Gives.quiet (c_sVisible))) | simp only [c1])); refine wpQuiet_nil ?_; rintro _ ⟨x, rfl⟩) | (go_at_call 65; refine (c_sVisible).mono ?_; rintro _ _ ⟨rfl, x, rfl⟩))
        go_ret
        exact Gives.mk (by have := hf.out; rw [hd.out, slotsGood, c1] at this; rw [HFE.out, ← this]; rfl)
      by_cases hz : k = 0
      · have hz' : decide (0 < (k : Int)) = false := by simp; omega
        have hz2 : decide (0 < k) = false := by simp; omega
        have haf : Hid (after (prevAt plan k) sl = true) := by rw [hz]; rfl
        have HZ := Lib.hid hz; clear hz
        go_wp2_with (first | ((with_reducible refine wp_region_later (by kernel_rfl) (by kernel_rfl) ?_); (repeat (first | go_big_quiet_step (first | (go_at_call 65; exact Gives.quiet (c_sVisible))) | simp only [c1] | simp only [hz'] | simp only [hz2] | simp only [c3])); refine wpQuiet_nil ?_; rintro _ ⟨x, rfl⟩) | (go_at_call 65; refine (c_sVisible).mono ?_; rintro _ _ ⟨rfl, x, rfl⟩))
        go_loopw [8, 9] (fun u v wi => ∃ (j : Nat) (f : Bool), v = .int .i64 j ∧ u = .bool f ∧ j ≤ n ∧ Hid ((f || anyOf (fitS plan sl) (list.drop j)) = anyOf (fitS plan sl) list) ∧ ∃ y : Later x0.w, wi = y.w) (fun _ v _ => (n - intOf v).toNat)
        case atStart => exact ⟨0, false, rfl, rfl, by omega, rfl, Later.of⟩
        case round =>
          obtain ⟨j, f, rfl, rfl, hj, hg, y, rfl⟩ := hrel
          by_cases hjk : j < n
          · obtain ⟨b', off', r, rfl, hb', hd', g0, g1, g2, g3⟩ := hs.request (show j < list.length by omega)
            cases c5 : (r.Id == sl.Id)
            · go_wp2_with (first | ((with_reducible refine wp_region_later (by kernel_rfl) (by kernel_rfl) ?_); (repeat (first | go_big_quiet_step (first | fail) | simp only [c5])); refine wpQuiet_nil ?_; rintro _ ⟨x, rfl⟩))
              go_roundw
              case rel => exact ⟨j + 1, f, by go_num, rfl, by omega, by have := hg.out; rw [hd'.out, anyOf, fitS, c5] at this; simpa [Hid] using this, Later.of⟩
              case measure => simp [intOf]; omega
            cases c6 : inB sl.Time r.Ready r.Deadline
            · go_wp2_with (first | ((with_reducible refine wp_region_later (by kernel_rfl) (by kernel_rfl) ?_); (repeat (first | go_big_quiet_step (first | (go_at_call 72; exact Gives.quiet (c_sl01In))) | simp only [c5] | simp only [c6])); refine wpQuiet_nil ?_; rintro _ ⟨x, rfl⟩) | (go_at_call 72; refine (c_sl01In).mono ?_; rintro _ _ ⟨rfl, x, rfl⟩))
              go_roundw
              case rel => exact ⟨j + 1, f, by go_num, rfl, by omega, by have := hg.out; rw [hd'.out, anyOf, fitS, c5, c6] at this; simpa [Hid] using this, Later.of⟩
              case measure => simp [intOf]; omega
            cases c7 : decide ((slotsOf r.Id plan : Int) ≤ r.Need)
            · go_wp2_with (first | ((with_reducible refine wp_region_later (by kernel_rfl) (by kernel_rfl) ?_); (repeat (first | go_big_quiet_step (first | (go_at_call 72; exact Gives.quiet (c_sl01In)) | (go_at_call 87; exact Gives.quiet (c_sSlotsOf (by first | assumption | (apply Sl.to <;> first | assumption | infer_instance) | omega) (by first | assumption | (apply Sl.to <;> first | assumption | infer_instance) | omega) (by first | assumption | (apply Sl.to <;> first | assumption | infer_instance) | omega)))) | simp only [c5] | simp only [c6] | simp only [c7])); refine wpQuiet_nil ?_; rintro _ ⟨x, rfl⟩) | (go_at_call 72; refine (c_sl01In).mono ?_; rintro _ _ ⟨rfl, x, rfl⟩) | (go_at_call 87; refine (c_sSlotsOf (by first | assumption | (apply Sl.to <;> first | assumption | infer_instance) | omega) (by first | assumption | (apply Sl.to <;> first | assumption | infer_instance) | omega) (by first | assumption | (apply Sl.to <;> first | assumption | infer_instance) | omega)).mono ?_; rintro _ _ ⟨rfl, x, rfl⟩))
              go_roundw
              case rel => exact ⟨j + 1, f, by go_num, rfl, by omega, by have := hg.out; rw [hd'.out, anyOf, fitS, c5, c6, c7] at this; simpa [Hid] using this, Later.of⟩
              case measure => simp [intOf]; omega
            · go_wp2_with (first | ((with_reducible refine wp_region_later (by kernel_rfl) (by kernel_rfl) ?_); (repeat (first | go_big_quiet_step (first | (go_at_call 72; exact Gives.quiet (c_sl01In)) | (go_at_call 87; exact Gives.quiet (c_sSlotsOf (by first | assumption | (apply Sl.to <;> first | assumption | infer_instance) | omega) (by first | assumption | (apply Sl.to <;> first | assumption | infer_instance) | omega) (by first | assumption | (apply Sl.to <;> first | assumption | infer_instance) | omega)))) | simp only [c5] | simp only [c6] | simp only [c7])); refine wpQuiet_nil ?_; rintro _ ⟨x, rfl⟩) | (go_at_call 72; refine (c_sl01In).mono ?_; rintro _ _ ⟨rfl, x, rfl⟩) | (go_at_call 87; refine (c_sSlotsOf (by first | assumption | (apply Sl.to <;> first | assumption | infer_instance) | omega) (by first | assumption | (apply Sl.to <;> first | assumption | infer_instance) | omega) (by first | assumption | (apply Sl.to <;> first | assumption | infer_instance) | omega)).mono ?_; rintro _ _ ⟨rfl, x, rfl⟩))
              go_roundw
              case rel => exact ⟨j + 1, true, by go_num, rfl, by omega, by have := hg.out; rw [hd'.out, anyOf, fitS, c5, c6, c7] at this; simpa [Hid] using this, Later.of⟩
              case measure => simp [intOf]; omega
          · have hg' := hg.out
            rw [List.drop_of_length_le (by omega), anyOf, Bool.or_false] at hg'
            have HG := Lib.hid hg'; clear hg' hg
            cases f with
            | false =>
              go_wp2_with (first | ((with_reducible refine wp_region_later (by kernel_rfl) (by kernel_rfl) ?_); (repeat (first | go_big_quiet_step (first | fail))); refine wpQuiet_nil ?_; rintro _ ⟨x, rfl⟩))
              go_ret
              exact Gives.mk (by have := hf.out; rw [hd.out, slotsGood, c1, ← HG.out] at this; rw [HFE.out, ← this]; simp)
            | true =>
              go_wp2_with (first | ((with_reducible refine wp_region_later (by kernel_rfl) (by kernel_rfl) ?_); (repeat (first | go_big_quiet_step (first | fail))); refine wpQuiet_nil ?_; rintro _ ⟨x, rfl⟩))
              go_roundw
              case rel => exact ⟨k + 1, by go_num, by omega, by have := hf.out; rw [hd.out, slotsGood, c1, haf.out, ← HG.out] at this; rw [prevAt_succ hd.out]; exact this, Later.of⟩
              case measure => simp [intOf]; omega
      · obtain ⟨b2, off2, qs, hbo, hb2, hd2, h2, h3⟩ := hp.slot (show k - 1 < plan.length by omega)
        simp only [Option.some.injEq, Addr.mk.injEq, and_true] at hbo
        obtain ⟨rfl, rfl⟩ := hbo
        have hz' : decide (0 < (k : Int)) = true := by simp; omega
        have hz2 : decide (0 < k) = true := by simp; omega
        have hp2 : prevAt plan k = some qs := by have := prevAt_succ hd2.out; rwa [show k - 1 + 1 = k from by omega] at this
        have HP2 := Lib.hid hp2; clear hp2
        cases c3 : decide (sl.Time ≤ qs.Time)
        · have haf : Hid (after (prevAt plan k) sl = true) := by rw [HP2.out]; simp at c3; simp [Hid, after, c3]
          go_wp2_with (first | ((with_reducible refine wp_region_later (by kernel_rfl) (by kernel_rfl) ?_); (repeat (first | go_big_quiet_step (first | (go_at_call 65; exact Gives.quiet (c_sVisible))) | simp only [c1] | simp only [hz'] | simp only [hz2] | simp only [c3])); refine wpQuiet_nil ?_; rintro _ ⟨x, rfl⟩) | (go_at_call 65; refine (c_sVisible).mono ?_; rintro _ _ ⟨rfl, x, rfl⟩))
          go_loopw [8, 9] (fun u v wi => ∃ (j : Nat) (f : Bool), v = .int .i64 j ∧ u = .bool f ∧ j ≤ n ∧ Hid ((f || anyOf (fitS plan sl) (list.drop j)) = anyOf (fitS plan sl) list) ∧ ∃ y : Later x0.w, wi = y.w) (fun _ v _ => (n - intOf v).toNat)
          case atStart => exact ⟨0, false, rfl, rfl, by omega, rfl, Later.of⟩
          case round =>
            obtain ⟨j, f, rfl, rfl, hj, hg, y, rfl⟩ := hrel
            by_cases hjk : j < n
            · obtain ⟨b', off', r, rfl, hb', hd', g0, g1, g2, g3⟩ := hs.request (show j < list.length by omega)
              cases c5 : (r.Id == sl.Id)
              · go_wp2_with (first | ((with_reducible refine wp_region_later (by kernel_rfl) (by kernel_rfl) ?_); (repeat (first | go_big_quiet_step (first | fail) | simp only [c5])); refine wpQuiet_nil ?_; rintro _ ⟨x, rfl⟩))
                go_roundw
                case rel => exact ⟨j + 1, f, by go_num, rfl, by omega, by have := hg.out; rw [hd'.out, anyOf, fitS, c5] at this; simpa [Hid] using this, Later.of⟩
                case measure => simp [intOf]; omega
              cases c6 : inB sl.Time r.Ready r.Deadline
              · go_wp2_with (first | ((with_reducible refine wp_region_later (by kernel_rfl) (by kernel_rfl) ?_); (repeat (first | go_big_quiet_step (first | (go_at_call 72; exact Gives.quiet (c_sl01In))) | simp only [c5] | simp only [c6])); refine wpQuiet_nil ?_; rintro _ ⟨x, rfl⟩) | (go_at_call 72; refine (c_sl01In).mono ?_; rintro _ _ ⟨rfl, x, rfl⟩))
                go_roundw
                case rel => exact ⟨j + 1, f, by go_num, rfl, by omega, by have := hg.out; rw [hd'.out, anyOf, fitS, c5, c6] at this; simpa [Hid] using this, Later.of⟩
                case measure => simp [intOf]; omega
              cases c7 : decide ((slotsOf r.Id plan : Int) ≤ r.Need)
              · go_wp2_with (first | ((with_reducible refine wp_region_later (by kernel_rfl) (by kernel_rfl) ?_); (repeat (first | go_big_quiet_step (first | (go_at_call 72; exact Gives.quiet (c_sl01In)) | (go_at_call 87; exact Gives.quiet (c_sSlotsOf (by first | assumption | (apply Sl.to <;> first | assumption | infer_instance) | omega) (by first | assumption | (apply Sl.to <;> first | assumption | infer_instance) | omega) (by first | assumption | (apply Sl.to <;> first | assumption | infer_instance) | omega)))) | simp only [c5] | simp only [c6] | simp only [c7])); refine wpQuiet_nil ?_; rintro _ ⟨x, rfl⟩) | (go_at_call 72; refine (c_sl01In).mono ?_; rintro _ _ ⟨rfl, x, rfl⟩) | (go_at_call 87; refine (c_sSlotsOf (by first | assumption | (apply Sl.to <;> first | assumption | infer_instance) | omega) (by first | assumption | (apply Sl.to <;> first | assumption | infer_instance) | omega) (by first | assumption | (apply Sl.to <;> first | assumption | infer_instance) | omega)).mono ?_; rintro _ _ ⟨rfl, x, rfl⟩))
                go_roundw
                case rel => exact ⟨j + 1, f, by go_num, rfl, by omega, by have := hg.out; rw [hd'.out, anyOf, fitS, c5, c6, c7] at this; simpa [Hid] using this, Later.of⟩
                case measure => simp [intOf]; omega
              · go_wp2_with (first | ((with_reducible refine wp_region_later (by kernel_rfl) (by kernel_rfl) ?_); (repeat (first | go_big_quiet_step (first | (go_at_call 72; exact Gives.quiet (c_sl01In)) | (go_at_call 87; exact Gives.quiet (c_sSlotsOf (by first | assumption | (apply Sl.to <;> first | assumption | infer_instance) | omega) (by first | assumption | (apply Sl.to <;> first | assumption | infer_instance) | omega) (by first | assumption | (apply Sl.to <;> first | assumption | infer_instance) | omega)))) | simp only [c5] | simp only [c6] | simp only [c7])); refine wpQuiet_nil ?_; rintro _ ⟨x, rfl⟩) | (go_at_call 72; refine (c_sl01In).mono ?_; rintro _ _ ⟨rfl, x, rfl⟩) | (go_at_call 87; refine (c_sSlotsOf (by first | assumption | (apply Sl.to <;> first | assumption | infer_instance) | omega) (by first | assumption | (apply Sl.to <;> first | assumption | infer_instance) | omega) (by first | assumption | (apply Sl.to <;> first | assumption | infer_instance) | omega)).mono ?_; rintro _ _ ⟨rfl, x, rfl⟩))
                go_roundw
                case rel => exact ⟨j + 1, true, by go_num, rfl, by omega, by have := hg.out; rw [hd'.out, anyOf, fitS, c5, c6, c7] at this; simpa [Hid] using this, Later.of⟩
                case measure => simp [intOf]; omega
            · have hg' := hg.out
              rw [List.drop_of_length_le (by omega), anyOf, Bool.or_false] at hg'
              have HG := Lib.hid hg'; clear hg' hg
              cases f with
              | false =>
                go_wp2_with (first | ((with_reducible refine wp_region_later (by kernel_rfl) (by kernel_rfl) ?_); (repeat (first | go_big_quiet_step (first | fail))); refine wpQuiet_nil ?_; rintro _ ⟨x, rfl⟩))
                go_ret
                exact Gives.mk (by have := hf.out; rw [hd.out, slotsGood, c1, ← HG.out] at this; rw [HFE.out, ← this]; simp)
              | true =>
                go_wp2_with (first | ((with_reducible refine wp_region_later (by kernel_rfl) (by kernel_rfl) ?_); (repeat (first | go_big_quiet_step (first | fail))); refine wpQuiet_nil ?_; rintro _ ⟨x, rfl⟩))
                go_roundw
                case rel => exact ⟨k + 1, by go_num, by omega, by have := hf.out; rw [hd.out, slotsGood, c1, haf.out, ← HG.out] at this; rw [prevAt_succ hd.out]; exact this, Later.of⟩
                case measure => simp [intOf]; omega
        · go_wp2_with (first | ((with_reducible refine wp_region_later (by kernel_rfl) (by kernel_rfl) ?_); (repeat (first | go_big_quiet_step (first | (go_at_call 65; exact Gives.quiet (c_sVisible))) | simp only [c1] | simp only [hz'] | simp only [hz2] | simp only [c3])); refine wpQuiet_nil ?_; rintro _ ⟨x, rfl⟩) | (go_at_call 65; refine (c_sVisible).mono ?_; rintro _ _ ⟨rfl, x, rfl⟩))
          go_ret
          exact Gives.mk (by have := hf.out; rw [hd.out, slotsGood, c1, HP2.out] at this; rw [HFE.out, ← this]; simp at c3; simp [after]; omega)
    · have hf' := hf.out
      rw [List.drop_of_length_le (by omega), slotsGood] at hf'
      have HF := Lib.hid hf'; clear hf' hf
      cases q1 : orbitOk p s l
      · go_wp2_with (first | ((with_reducible refine wp_region_later (by kernel_rfl) (by kernel_rfl) ?_); (repeat (first | go_big_quiet_step (first | (go_at_call 90; exact Gives.quiet (c_sOrbitOk)) | (go_at_call 18; exact Gives.quiet (c_sRequestsOk (by first | assumption | (apply Sl.to <;> first | assumption | infer_instance) | omega) (by first | assumption | (apply Sl.to <;> first | assumption | infer_instance) | omega) (by first | assumption | (apply Sl.to <;> first | assumption | infer_instance) | omega)))) | simp only [q1])); refine wpQuiet_nil ?_; rintro _ ⟨x, rfl⟩) | (go_at_call 90; refine (c_sOrbitOk).mono ?_; rintro _ _ ⟨rfl, x, rfl⟩) | (go_at_call 18; refine (c_sRequestsOk (by first | assumption | (apply Sl.to <;> first | assumption | infer_instance) | omega) (by first | assumption | (apply Sl.to <;> first | assumption | infer_instance) | omega) (by first | assumption | (apply Sl.to <;> first | assumption | infer_instance) | omega)).mono ?_; rintro _ _ ⟨rfl, x, rfl⟩))
        go_ret
        exact Gives.mk (by rw [HFE.out, q1]; simp)
      · go_wp2_with (first | ((with_reducible refine wp_region_later (by kernel_rfl) (by kernel_rfl) ?_); (repeat (first | go_big_quiet_step (first | (go_at_call 90; exact Gives.quiet (c_sOrbitOk)) | (go_at_call 18; exact Gives.quiet (c_sRequestsOk (by first | assumption | (apply Sl.to <;> first | assumption | infer_instance) | omega) (by first | assumption | (apply Sl.to <;> first | assumption | infer_instance) | omega) (by first | assumption | (apply Sl.to <;> first | assumption | infer_instance) | omega)))) | simp only [q1])); refine wpQuiet_nil ?_; rintro _ ⟨x, rfl⟩) | (go_at_call 90; refine (c_sOrbitOk).mono ?_; rintro _ _ ⟨rfl, x, rfl⟩) | (go_at_call 18; refine (c_sRequestsOk (by first | assumption | (apply Sl.to <;> first | assumption | infer_instance) | omega) (by first | assumption | (apply Sl.to <;> first | assumption | infer_instance) | omega) (by first | assumption | (apply Sl.to <;> first | assumption | infer_instance) | omega)).mono ?_; rintro _ _ ⟨rfl, x, rfl⟩))
        go_ret
        exact Gives.mk (by rw [HFE.out, q1, ← HF.out]; simp)

/-! ### The two are one -/
theorem slotsGood_split {p s l : Int} {g : Slot → Bool} : ∀ {pl : List Slot} {o : Option Slot}, slotsGood p s l g o pl = (slotsGood p s l (fun _ => true) o pl && pl.all g)
  | [], _ => by simp [slotsGood]
  | x :: r, o => by
    rw [slotsGood, slotsGood, slotsGood_split (g := g) (pl := r), List.all_cons]
    cases visible p s l x.Time <;> cases after o x <;> cases g x <;> cases r.all g <;> simp

theorem reqsFrom_free : ∀ {l b : List Request}, reqsFrom b l = true → ∀ r ∈ l, ∀ x ∈ b, x.Id ≠ r.Id
  | [], _, _, r, hr => by simp at hr
  | s :: l, b, h, r, hr => by
    simp only [reqsFrom, Bool.and_eq_true] at h
    rcases List.mem_cons.1 hr with rfl | hr
    · have h1 := h.2.2.2.2.1
      clear h
      induction b with
      | nil => intro x hx; simp at hx
      | cons y b ih =>
        simp only [idFree, Bool.and_eq_true] at h1
        intro x hx
        rcases List.mem_cons.1 hx with rfl | hx
        · simpa using h1.1
        · exact ih (by have := h1.2; exact this) x hx
    · intro x hx
      exact reqsFrom_free h.2.2.2.2.2 r hr x (by simp [hx])

theorem reqs_one : ∀ {l b : List Request}, reqsFrom b l = true → ∀ r ∈ l, ∀ r' ∈ l, r.Id = r'.Id → r = r'
  | [], _, _, r, hr => by simp at hr
  | s :: l, b, h, r, hr => by
    have h' := h
    simp only [reqsFrom, Bool.and_eq_true] at h
    have hfr := reqsFrom_free h.2.2.2.2.2
    intro r' hr' he
    rcases List.mem_cons.1 hr with h1 | h1
    · rcases List.mem_cons.1 hr' with h2 | h2
      · rw [h1, h2]
      · exact absurd he (hfr r' h2 r (by simp [h1]))
    · rcases List.mem_cons.1 hr' with h2 | h2
      · exact absurd he.symm (hfr r h1 r' (by simp [h2]))
      · exact reqs_one h.2.2.2.2.2 r h1 r' h2 he

theorem slotsOf_pos {id : Int} : ∀ {pl : List Slot}, 0 < slotsOf id pl → ∃ x ∈ pl, x.Id = id
  | [], h => by simp [slotsOf] at h
  | x :: r, h => by
    by_cases hx : (x.Id == id) = true
    · exact ⟨x, by simp, by simpa using hx⟩
    · rw [slotsOf, if_neg hx, Nat.zero_add] at h
      obtain ⟨y, hy, he⟩ := slotsOf_pos h
      exact ⟨y, by simp [hy], he⟩
theorem needsOk_iff {plan : List Slot} : ∀ {l : List Request}, needsOk plan l = true ↔ ∀ r ∈ l, (slotsOf r.Id plan : Int) ≤ r.Need
  | [] => by simp [needsOk]
  | r :: l => by simp [needsOk, needsOk_iff (l := l)]

theorem planOk_same {p s l : Int} {list : List Request} {plan : List Slot} : planOkI p s l list plan = planOkS p s l list plan := by
  unfold planOkI planOkS
  cases q1 : orbitOk p s l
  · simp
  cases q2 : requestsOk list
  · simp
  have hmem := (requestsOk_mem q2).2
  have hone : ∀ r ∈ list, ∀ r' ∈ list, r.Id = r'.Id → r = r' := by
    simp only [requestsOk, Bool.and_eq_true] at q2
    exact reqs_one q2.2
  simp only [Bool.true_and, Bool.and_true, Bool.and_self]
  rw [slotsGood_split (g := fun x => anyOf (fitI x) list), slotsGood_split (g := fun x => anyOf (fitS plan x) list)]
  cases slotsGood p s l (fun _ => true) none plan
  · simp
  simp only [Bool.true_and]
  rw [Bool.eq_iff_iff, Bool.and_eq_true, List.all_eq_true, List.all_eq_true, needsOk_iff]
  constructor
  · rintro ⟨h1, h2⟩ x hx
    obtain ⟨r, hr, hf⟩ := anyOf_iff.1 (h1 x hx)
    refine anyOf_iff.2 ⟨r, hr, ?_⟩
    simp only [fitI, fitS, Bool.and_eq_true, decide_eq_true_eq] at hf ⊢
    exact ⟨hf.1, hf.2, h2 r hr⟩
  · intro h1
    refine ⟨fun x hx => ?_, fun r hr => ?_⟩
    · obtain ⟨r, hr, hf⟩ := anyOf_iff.1 (h1 x hx)
      refine anyOf_iff.2 ⟨r, hr, ?_⟩
      simp only [fitI, fitS, Bool.and_eq_true, decide_eq_true_eq] at hf ⊢
      exact ⟨hf.1, hf.2.1⟩
    · by_cases h0 : 0 < slotsOf r.Id plan
      · obtain ⟨x, hx, he⟩ := slotsOf_pos h0
        obtain ⟨r', hr', hf⟩ := anyOf_iff.1 (h1 x hx)
        simp only [fitS, Bool.and_eq_true, decide_eq_true_eq, beq_iff_eq] at hf
        have := hone r hr r' hr' (by rw [hf.1, he])
        subst this
        exact hf.2.2
      · have := (hmem r hr).2.2.2
        omega
end Go.Proofs.Ytonclekalgaojaa
