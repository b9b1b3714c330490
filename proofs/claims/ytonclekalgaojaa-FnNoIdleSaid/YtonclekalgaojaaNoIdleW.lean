/- FnNoIdle, walked. No condition but on lengths. -/
import Derived.Test.YtonclekalgaojaaWork
import Derived.Test.YtonclekalgaojaaAt
import Derived.Test.YtonclekalgaojaaPlanG
import Derived.Test.YtonclekalgaojaaPlanP
namespace Go.Proofs.Ytonclekalgaojaa
set_option linter.unusedVariables false
open Go.ChangeShapes Go.WideShapes Go.ChangeAt Go.RowKit

theorem c_lhas {a : Option Addr} {n c : Nat} {k : Int} {l : List Int} {w : World} (hs : Sl encInt w a l) (hn : l.length = n) (hm : n ≤ 4611686018427387904) :
    Calls Try.prog 64 #[.slice a n c, .int .i64 k] w (Gives w (.bool (hasI k l))) := by
  go_enter Try.func64, Try.ntmps64
  go_wp2_with (first | ((with_reducible refine wp_region_later (by kernel_rfl) (by kernel_rfl) ?_); (repeat (first | go_big_quiet_step (first | fail))); refine wpQuiet_nil ?_; rintro _ ⟨x, rfl⟩))
  go_loopw [5] (fun v wr => ∃ i : Nat, v = .int .i64 i ∧ i ≤ n ∧ Hid (hasI k (l.drop i) = hasI k l) ∧ ∃ x : Later w, wr = x.w) (fun v _ => (n - intOf v).toNat)
  case atStart => exact ⟨0, rfl, by omega, rfl, Later.of⟩
  case round =>
    obtain ⟨i, rfl, hi, hf, x, rfl⟩ := hrel
    by_cases h : i < n
    · obtain ⟨b, off, s, rfl, hb, hd, h0⟩ := hs.int (show i < l.length by omega)
      cases c1 : (s == k)
      · go_wp2_with (first | ((with_reducible refine wp_region_later (by kernel_rfl) (by kernel_rfl) ?_); (repeat (first | go_big_quiet_step (first | fail) | simp only [c1])); refine wpQuiet_nil ?_; rintro _ ⟨x, rfl⟩))
        go_roundw
        case rel => exact ⟨i + 1, by go_num, by omega, by have := hf.out; rw [hd.out, hasI, c1] at this; exact this, Later.of⟩
        case measure => simp [intOf]; omega
      · go_wp2_with (first | ((with_reducible refine wp_region_later (by kernel_rfl) (by kernel_rfl) ?_); (repeat (first | go_big_quiet_step (first | fail) | simp only [c1])); refine wpQuiet_nil ?_; rintro _ ⟨x, rfl⟩))
        go_ret
        exact Gives.mk (by have := hf.out; rw [hd.out, hasI, c1] at this; rw [← this]; rfl)
    · go_wp2_with (first | ((with_reducible refine wp_region_later (by kernel_rfl) (by kernel_rfl) ?_); (repeat (first | go_big_quiet_step (first | fail))); refine wpQuiet_nil ?_; rintro _ ⟨x, rfl⟩))
      go_ret
      exact Gives.mk (by have := hf.out; rw [List.drop_of_length_le (by omega), hasI] at this; rw [← this]; rfl)

/-- All that FnNoIdle asks, of the plan and of what is missed, under names. -/
theorem noidle_all {p s l : Int} {list : List Request} (ok : orbitOk p s l = true) (hr : requestsOk list = true) :
    ∃ PL ML, planAll p s l list = PL ∧ missedOf PL list = ML ∧ PL.length ≤ 1000001 ∧ ML.length ≤ list.length ∧ Hid (∀ r ∈ list, hasI r.Id ML = decide ((slotsOf r.Id PL : Int) < r.Need)) ∧
      Hid (∀ t, visible p s l t = true → slotAt t PL < 0 → ∀ r ∈ list, r.Ready ≤ t → t ≤ r.Deadline → hasI r.Id ML = false) ∧ (PL.length : Int) ≤ demandOf list 0 1000000 := by
  obtain ⟨PL, h1, h2, -⟩ := plan_all ok hr
  subst h1
  refine ⟨_, _, rfl, rfl, h2, missedOf_le _ _, plan_has hr, fun t hv ht r hm h3 h4 => ?_, plan_demand ok hr⟩
  rw [plan_has hr r hm, plan_idle ok hr hv ht r hm h3 h4]
  simp

set_option maxRecDepth 100000 in
set_option maxHeartbeats 2000000 in
theorem c_lFnNoIdle {w : World} {a : Option Addr} {n c : Nat} {l : List Int} (hs : Sl encByte w a l) (hn : l.length = n) (hz : n ≤ 9223372036854775807) (hby : ∀ x ∈ l, isByte x) :
    Calls Try.prog 13 #[.slice a n c] w (Gives w (.bool true)) := by
  cases q0 : decide (1048576 < (n : Int))
  · have hm : n ≤ 1048576 := by have := of_decide_eq_false q0; omega
    have HBY := Lib.hid hby; clear hby
    go_enter Try.func13, Try.ntmps13
    go_wp2_with (first | ((with_reducible refine wp_region_later (by kernel_rfl) (by kernel_rfl) ?_); (repeat (first | go_big_quiet_step (first | fail) | simp only [q0])); refine wpQuiet_nil ?_; rintro _ ⟨x, rfl⟩))
    refine c_lbig.mono ?_
    rintro _ _ ⟨rfl, x0, rfl⟩
    go_wp2_with (first | ((with_reducible refine wp_region_later (by kernel_rfl) (by kernel_rfl) ?_); (repeat (first | go_big_quiet_step (first | fail) | simp only [q0])); refine wpQuiet_nil ?_; rintro _ ⟨x, rfl⟩))
    refine (c_sDrawWork (hs.to inferInstance) hn hm HBY.out).mono ?_
    rintro _ _ ⟨pp, ss, ll, L, sa, sc, rfl, hd, hD, hO, d, rfl⟩
    have ok : orbitOk pp ss ll = true := orbitOk_iff.2 (by
      have h := hd.1; simp only [List.mem_cons, List.not_mem_nil, or_false] at h
      have := hd.2; omega)
    have hr := drawnReqs_ok hD
    have hL := hD.2.1
    obtain ⟨PL, ML, hPL, hML, hlen, hmlen, hhas, hidl, hdem⟩ := noidle_all ok hr
    have hOs := hO.sl
    have hOc := hO.cap
    obtain ⟨m0, hm0⟩ : ∃ m0, L.length = m0 := ⟨_, rfl⟩
    rw [hm0] at hOc ⊢
    clear hd hD hO
    go_wp2_with (first | ((with_reducible refine wp_region_later (by kernel_rfl) (by kernel_rfl) ?_); (repeat (first | go_big_quiet_step (first | fail) | simp only [q0])); refine wpQuiet_nil ?_; rintro _ ⟨x, rfl⟩))
    refine (c_iPlanPasses (hOs.to inferInstance) hm0 hOc (by omega)).mono ?_
    rintro _ _ ⟨sp, cp, rfl, hOP, y1, rfl⟩
    rw [hPL] at hOP ⊢
    clear hPL
    have hPs := hOP.sl
    obtain ⟨n1, hn1⟩ : ∃ n1, PL.length = n1 := ⟨_, rfl⟩
    rw [hn1] at hlen hdem ⊢
    clear hOP
    go_wp2_with (first | ((with_reducible refine wp_region_later (by kernel_rfl) (by kernel_rfl) ?_); (repeat (first | go_big_quiet_step (first | fail) | simp only [q0])); refine wpQuiet_nil ?_; rintro _ ⟨x, rfl⟩))
    refine (c_iMissedOf (hOs.to inferInstance) (hPs.to inferInstance) hm0 hn1 (by omega) (by omega)).mono ?_
    rintro _ _ ⟨sm, cm, rfl, hOM, y2, rfl⟩
    rw [hML] at hOM ⊢
    clear hML
    have hMs0 := hOM.sl
    obtain ⟨n2, hn2⟩ : ∃ n2, ML.length = n2 := ⟨_, rfl⟩
    rw [hn2] at hmlen ⊢
    clear hOM
    have hRs := hOs.to (inferInstance : Grows (x0.andThen d).w y2.w)
    have hQs := hPs.to (inferInstance : Grows y1.w y2.w)
    obtain ⟨Y, hY⟩ := Later.of (w := (x0.andThen d).w.alloc (.cells #[.int .i64 pp, .int .i64 ss, .int .i64 ll] 43)) (W := y2.w)
    rw [hY] at hMs0 hRs hQs ⊢
    clear hY y1 y2 hOs hPs
    go_wp2_with (first | ((with_reducible refine wp_region_later (by kernel_rfl) (by kernel_rfl) ?_); (repeat (first | go_big_quiet_step (first | fail) | simp only [q0])); refine wpQuiet_nil ?_; rintro _ ⟨x, rfl⟩))
    go_loopw [7] (fun vb wr => ∃ k : Nat, vb = .int .i64 k ∧ k ≤ m0 ∧ ∃ y : Later Y.w, wr = y.w) (fun v _ => (m0 - intOf v).toNat)
    case atStart => exact ⟨0, rfl, by omega, Later.of⟩
    case round =>
      obtain ⟨k, rfl, hk, y, rfl⟩ := hrel
      by_cases h : k < m0
      · obtain ⟨b1, off, r, rfl, hb, hdr, h0, h1, h2, h3⟩ := hRs.request (show k < L.length by omega)
        have hhr := hhas.out r (mem_of_drop' hdr.out)
        have HHR := Lib.hid hhr; clear hhr
        go_wp2_with (first | ((with_reducible refine wp_region_later (by kernel_rfl) (by kernel_rfl) ?_); (repeat (first | go_big_quiet_step (first | fail))); refine wpQuiet_nil ?_; rintro _ ⟨x, rfl⟩))
        go_loopw [8, 9] (fun va vb wr => ∃ i m : Nat, va = .int .i64 m ∧ vb = .int .i64 i ∧ i ≤ n1 ∧ m ≤ i ∧ Hid (m + slotsOf r.Id (PL.drop i) = slotsOf r.Id PL) ∧ ∃ z : Later y.w, wr = z.w) (fun _ v _ => (n1 - intOf v).toNat)
        case atStart => exact ⟨0, 0, rfl, rfl, by omega, by omega, by simp [Hid], Later.of⟩
        case round =>
          obtain ⟨i, m, rfl, rfl, hi, hmi, hf, z, rfl⟩ := hrel
          by_cases h2 : i < n1
          · obtain ⟨b2, off2, x2, rfl, hb2, hd2, e0, e1⟩ := hQs.slot (show i < PL.length by omega)
            cases ce : (x2.Id == r.Id)
            · go_wp2_with (first | ((with_reducible refine wp_region_later (by kernel_rfl) (by kernel_rfl) ?_); (repeat (first | go_big_quiet_step (first | (go_at_call 32; exact Gives.quiet (c_lbtoi))))); refine wpQuiet_nil ?_; rintro _ ⟨x, rfl⟩) | (go_at_call 32; refine (c_lbtoi).mono ?_; rintro _ _ ⟨rfl, x, rfl⟩))
              go_roundw
              case rel => exact ⟨i + 1, m, by go_num, by go_num, by omega, by omega, by have := hf.out; rw [hd2.out, slotsOf, ce] at this; simpa [Hid] using this, Later.of⟩
              case measure => simp [intOf]; omega
            · go_wp2_with (first | ((with_reducible refine wp_region_later (by kernel_rfl) (by kernel_rfl) ?_); (repeat (first | go_big_quiet_step (first | (go_at_call 32; exact Gives.quiet (c_lbtoi))))); refine wpQuiet_nil ?_; rintro _ ⟨x, rfl⟩) | (go_at_call 32; refine (c_lbtoi).mono ?_; rintro _ _ ⟨rfl, x, rfl⟩))
              go_roundw
              case rel => exact ⟨i + 1, m + 1, by go_num, by go_num, by omega, by omega, by have := hf.out; rw [hd2.out, slotsOf, ce, if_pos rfl] at this; simp only [Hid]; omega, Later.of⟩
              case measure => simp [intOf]; omega
          · have hm2 : m = slotsOf r.Id PL := by
              have := hf.out
              rw [List.drop_of_length_le (by omega), slotsOf] at this
              omega
            subst hm2
            clear hf
            have hhr := HHR.out
            cases ch : hasI r.Id ML
            all_goals
              rw [ch] at hhr
              have hhr2 := hhr.symm
              clear hhr
              go_wp2_with (first | ((with_reducible refine wp_region_later (by kernel_rfl) (by kernel_rfl) ?_); (repeat (first | go_big_quiet_step (first | (go_at_call 64; exact Gives.quiet (c_lhas (by first | assumption | (apply Sl.to <;> first | assumption | infer_instance) | omega) (by first | assumption | (apply Sl.to <;> first | assumption | infer_instance) | omega) (by first | assumption | (apply Sl.to <;> first | assumption | infer_instance) | omega)))) | simp only [ch] | simp only [hhr2])); refine wpQuiet_nil ?_; rintro _ ⟨x, rfl⟩) | (go_at_call 64; refine (c_lhas (by first | assumption | (apply Sl.to <;> first | assumption | infer_instance) | omega) (by first | assumption | (apply Sl.to <;> first | assumption | infer_instance) | omega) (by first | assumption | (apply Sl.to <;> first | assumption | infer_instance) | omega)).mono ?_; rintro _ _ ⟨rfl, x, rfl⟩))
              go_roundw
              case rel => exact ⟨k + 1, by go_num, by omega, Later.of⟩
              case measure => simp [intOf]; omega
      · go_wp2_with (first | ((with_reducible refine wp_region_later (by kernel_rfl) (by kernel_rfl) ?_); (repeat (first | go_big_quiet_step (first | fail))); refine wpQuiet_nil ?_; rintro _ ⟨x, rfl⟩))
        go_loopw [10] (fun vb wr => ∃ t : Nat, vb = .int .i64 t ∧ t ≤ 100 ∧ ∃ y : Later Y.w, wr = y.w) (fun v _ => (100 - intOf v).toNat)
        case atStart => exact ⟨0, rfl, by omega, Later.of⟩
        case round =>
          obtain ⟨t, rfl, ht, y3, rfl⟩ := hrel
          cases c0 : decide ((t : Int) < 100)
          · have HID := hidl
            go_wp2_with (first | ((with_reducible refine wp_region_later (by kernel_rfl) (by kernel_rfl) ?_); (repeat (first | go_big_quiet_step (first | (go_at_call 41; exact Gives.quiet (c_iDemandOf (by first | assumption | (apply Sl.to <;> first | assumption | infer_instance) | omega) (by first | assumption | (apply Sl.to <;> first | assumption | infer_instance) | omega) (by first | assumption | (apply Sl.to <;> first | assumption | infer_instance) | omega) (by first | assumption | (apply Sl.to <;> first | assumption | infer_instance) | omega)))) | simp only [c0])); refine wpQuiet_nil ?_; rintro _ ⟨x, rfl⟩) | (go_at_call 41; refine (c_iDemandOf (by first | assumption | (apply Sl.to <;> first | assumption | infer_instance) | omega) (by first | assumption | (apply Sl.to <;> first | assumption | infer_instance) | omega) (by first | assumption | (apply Sl.to <;> first | assumption | infer_instance) | omega) (by first | assumption | (apply Sl.to <;> first | assumption | infer_instance) | omega)).mono ?_; rintro _ _ ⟨rfl, x, rfl⟩))
            go_ret
            exact Gives.mk (by first | rfl | (simp; done) | (simp; omega))
          · have ht2 := of_decide_eq_true c0
            cases v1 : visible pp ss ll t
            · go_wp2_with (first | ((with_reducible refine wp_region_later (by kernel_rfl) (by kernel_rfl) ?_); (repeat (first | go_big_quiet_step (first | (go_at_call 65; exact Gives.quiet (c_sVisible)) | (go_at_call 66; exact Gives.quiet (c_iSlotAt (by first | assumption | (apply Sl.to <;> first | assumption | infer_instance) | omega) (by first | assumption | (apply Sl.to <;> first | assumption | infer_instance) | omega) (by first | assumption | (apply Sl.to <;> first | assumption | infer_instance) | omega)))) | simp only [c0] | simp only [v1])); refine wpQuiet_nil ?_; rintro _ ⟨x, rfl⟩) | (go_at_call 65; refine (c_sVisible).mono ?_; rintro _ _ ⟨rfl, x, rfl⟩) | (go_at_call 66; refine (c_iSlotAt (by first | assumption | (apply Sl.to <;> first | assumption | infer_instance) | omega) (by first | assumption | (apply Sl.to <;> first | assumption | infer_instance) | omega) (by first | assumption | (apply Sl.to <;> first | assumption | infer_instance) | omega)).mono ?_; rintro _ _ ⟨rfl, x, rfl⟩))
              go_roundw
              case rel => exact ⟨t + 1, by go_num, by omega, Later.of⟩
              case measure => simp [intOf]; omega
            · cases v2 : decide (0 ≤ slotAt t PL)
              · have v3 := Lib.hid (hidl.out t v1 (by have := of_decide_eq_false v2; omega))
                go_wp2_with (first | ((with_reducible refine wp_region_later (by kernel_rfl) (by kernel_rfl) ?_); (repeat (first | go_big_quiet_step (first | (go_at_call 65; exact Gives.quiet (c_sVisible)) | (go_at_call 66; exact Gives.quiet (c_iSlotAt (by first | assumption | (apply Sl.to <;> first | assumption | infer_instance) | omega) (by first | assumption | (apply Sl.to <;> first | assumption | infer_instance) | omega) (by first | assumption | (apply Sl.to <;> first | assumption | infer_instance) | omega)))) | simp only [c0] | simp only [v1] | simp only [v2])); refine wpQuiet_nil ?_; rintro _ ⟨x, rfl⟩) | (go_at_call 65; refine (c_sVisible).mono ?_; rintro _ _ ⟨rfl, x, rfl⟩) | (go_at_call 66; refine (c_iSlotAt (by first | assumption | (apply Sl.to <;> first | assumption | infer_instance) | omega) (by first | assumption | (apply Sl.to <;> first | assumption | infer_instance) | omega) (by first | assumption | (apply Sl.to <;> first | assumption | infer_instance) | omega)).mono ?_; rintro _ _ ⟨rfl, x, rfl⟩))
                go_loopw [11] (fun vb wr => ∃ k2 : Nat, vb = .int .i64 k2 ∧ k2 ≤ m0 ∧ ∃ y : Later y3.w, wr = y.w) (fun v _ => (m0 - intOf v).toNat)
                case atStart => exact ⟨0, rfl, by omega, Later.of⟩
                case round =>
                  obtain ⟨k2, rfl, hk2, y4, rfl⟩ := hrel
                  by_cases h2 : k2 < m0
                  · obtain ⟨b1, off, r, rfl, hb, hdr, h0, h1, h22, h3⟩ := hRs.request (show k2 < L.length by omega)
                    have hrm := Lib.hid (mem_of_drop' hdr.out)
                    cases c1 : hasI r.Id ML
                    · go_wp2_with (first | ((with_reducible refine wp_region_later (by kernel_rfl) (by kernel_rfl) ?_); (repeat (first | go_big_quiet_step (first | (go_at_call 64; exact Gives.quiet (c_lhas (by first | assumption | (apply Sl.to <;> first | assumption | infer_instance) | omega) (by first | assumption | (apply Sl.to <;> first | assumption | infer_instance) | omega) (by first | assumption | (apply Sl.to <;> first | assumption | infer_instance) | omega)))) | simp only [c1])); refine wpQuiet_nil ?_; rintro _ ⟨x, rfl⟩) | (go_at_call 64; refine (c_lhas (by first | assumption | (apply Sl.to <;> first | assumption | infer_instance) | omega) (by first | assumption | (apply Sl.to <;> first | assumption | infer_instance) | omega) (by first | assumption | (apply Sl.to <;> first | assumption | infer_instance) | omega)).mono ?_; rintro _ _ ⟨rfl, x, rfl⟩))
                      go_roundw
                      case rel => exact ⟨k2 + 1, by go_num, by omega, Later.of⟩
                      case measure => simp [intOf]; omega
                    cases c2 : decide (r.Ready ≤ (t : Int))
                    · go_wp2_with (first | ((with_reducible refine wp_region_later (by kernel_rfl) (by kernel_rfl) ?_); (repeat (first | go_big_quiet_step (first | (go_at_call 64; exact Gives.quiet (c_lhas (by first | assumption | (apply Sl.to <;> first | assumption | infer_instance) | omega) (by first | assumption | (apply Sl.to <;> first | assumption | infer_instance) | omega) (by first | assumption | (apply Sl.to <;> first | assumption | infer_instance) | omega)))) | simp only [c1] | simp only [c2])); refine wpQuiet_nil ?_; rintro _ ⟨x, rfl⟩) | (go_at_call 64; refine (c_lhas (by first | assumption | (apply Sl.to <;> first | assumption | infer_instance) | omega) (by first | assumption | (apply Sl.to <;> first | assumption | infer_instance) | omega) (by first | assumption | (apply Sl.to <;> first | assumption | infer_instance) | omega)).mono ?_; rintro _ _ ⟨rfl, x, rfl⟩))
                      go_roundw
                      case rel => exact ⟨k2 + 1, by go_num, by omega, Later.of⟩
                      case measure => simp [intOf]; omega
                    cases c3 : decide ((t : Int) ≤ r.Deadline)
                    · go_wp2_with (first | ((with_reducible refine wp_region_later (by kernel_rfl) (by kernel_rfl) ?_); (repeat (first | go_big_quiet_step (first | (go_at_call 64; exact Gives.quiet (c_lhas (by first | assumption | (apply Sl.to <;> first | assumption | infer_instance) | omega) (by first | assumption | (apply Sl.to <;> first | assumption | infer_instance) | omega) (by first | assumption | (apply Sl.to <;> first | assumption | infer_instance) | omega)))) | simp only [c1] | simp only [c2] | simp only [c3])); refine wpQuiet_nil ?_; rintro _ ⟨x, rfl⟩) | (go_at_call 64; refine (c_lhas (by first | assumption | (apply Sl.to <;> first | assumption | infer_instance) | omega) (by first | assumption | (apply Sl.to <;> first | assumption | infer_instance) | omega) (by first | assumption | (apply Sl.to <;> first | assumption | infer_instance) | omega)).mono ?_; rintro _ _ ⟨rfl, x, rfl⟩))
                      go_roundw
                      case rel => exact ⟨k2 + 1, by go_num, by omega, Later.of⟩
                      case measure => simp [intOf]; omega
                    · have := v3.out r hrm.out (of_decide_eq_true c2) (of_decide_eq_true c3)
                      rw [c1] at this; cases this
                  · go_wp2_with (first | ((with_reducible refine wp_region_later (by kernel_rfl) (by kernel_rfl) ?_); (repeat (first | go_big_quiet_step (first | fail))); refine wpQuiet_nil ?_; rintro _ ⟨x, rfl⟩))
                    go_roundw
                    case rel => exact ⟨t + 1, by go_num, by omega, Later.of⟩
                    case measure => simp [intOf]; omega
              · go_wp2_with (first | ((with_reducible refine wp_region_later (by kernel_rfl) (by kernel_rfl) ?_); (repeat (first | go_big_quiet_step (first | (go_at_call 65; exact Gives.quiet (c_sVisible)) | (go_at_call 66; exact Gives.quiet (c_iSlotAt (by first | assumption | (apply Sl.to <;> first | assumption | infer_instance) | omega) (by first | assumption | (apply Sl.to <;> first | assumption | infer_instance) | omega) (by first | assumption | (apply Sl.to <;> first | assumption | infer_instance) | omega)))) | simp only [c0] | simp only [v1] | simp only [v2])); refine wpQuiet_nil ?_; rintro _ ⟨x, rfl⟩) | (go_at_call 65; refine (c_sVisible).mono ?_; rintro _ _ ⟨rfl, x, rfl⟩) | (go_at_call 66; refine (c_iSlotAt (by first | assumption | (apply Sl.to <;> first | assumption | infer_instance) | omega) (by first | assumption | (apply Sl.to <;> first | assumption | infer_instance) | omega) (by first | assumption | (apply Sl.to <;> first | assumption | infer_instance) | omega)).mono ?_; rintro _ _ ⟨rfl, x, rfl⟩))
                go_roundw
                case rel => exact ⟨t + 1, by go_num, by omega, Later.of⟩
                case measure => simp [intOf]; omega
  · go_enter Try.func13, Try.ntmps13
    go_wp2_with (first | ((with_reducible refine wp_region_later (by kernel_rfl) (by kernel_rfl) ?_); (repeat (first | go_big_quiet_step (first | (go_at_call 29; exact Gives.quiet (c_lbig))) | simp only [q0])); refine wpQuiet_nil ?_; rintro _ ⟨x, rfl⟩) | (go_at_call 29; refine (c_lbig).mono ?_; rintro _ _ ⟨rfl, x, rfl⟩))
    go_ret
    exact Gives.mk rfl
end Go.Proofs.Ytonclekalgaojaa
