/- FnPlans, walked. No condition but on lengths. -/
import Derived.Test.YtonclekalgaojaaWork
import Derived.Test.YtonclekalgaojaaAt
import Derived.Test.YtonclekalgaojaaPlanG
import Derived.Test.YtonclekalgaojaaPlanP
import Derived.Deep.RegionHeld3
namespace Go.Proofs.Ytonclekalgaojaa
set_option linter.unusedVariables false
open Go.ChangeShapes Go.WideShapes Go.ChangeAt Go.RowKit

set_option maxRecDepth 100000 in
set_option maxHeartbeats 2000000 in
theorem c_lFnPlans {w : World} {a : Option Addr} {n c : Nat} {l : List Int} (hs : Sl encByte w a l) (hn : l.length = n) (hz : n ≤ 9223372036854775807) (hby : ∀ x ∈ l, isByte x) :
    Calls Try.prog 15 #[.slice a n c] w (Gives w (.bool true)) := by
  cases q0 : decide (1048576 < (n : Int))
  · have hm : n ≤ 1048576 := by have := of_decide_eq_false q0; omega
    have HBY := Lib.hid hby; clear hby
    go_enter Try.func15, Try.ntmps15
    go_wp2_with (first | ((with_reducible refine wp_region_later (by kernel_rfl) (by kernel_rfl) ?_); (repeat (first | go_big_quiet_step (first | fail) | simp only [q0])); refine wpQuiet_nil ?_; rintro _ ⟨x, rfl⟩))
    refine c_lbig.mono ?_
    rintro _ _ ⟨rfl, x0, rfl⟩
    go_wp2_with (first | ((with_reducible refine wp_region_later (by kernel_rfl) (by kernel_rfl) ?_); (repeat (first | go_big_quiet_step (first | fail) | simp only [q0])); refine wpQuiet_nil ?_; rintro _ ⟨x, rfl⟩))
    refine (c_sDrawWork (hs.to inferInstance) hn hm HBY.out).mono ?_
    rintro _ _ ⟨pp, ss, ll, L, sa, sc, rfl, hd, hD, hO, d, rfl⟩
    have HD := Lib.hid hd
    have ok : orbitOk pp ss ll = true := orbitOk_iff.2 (by
      have h := hd.1; simp only [List.mem_cons, List.not_mem_nil, or_false] at h
      have := hd.2; omega)
    have hr := drawnReqs_ok hD
    have hL := hD.2.1
    obtain ⟨PL, hPL, hlen, hsum, hok, hmiss, hle, hat⟩ := plan_all ok hr
    have HS := Lib.hid hsum
    have hOs := hO.sl
    have hOc := hO.cap
    obtain ⟨m0, hm0⟩ : ∃ m0, L.length = m0 := ⟨_, rfl⟩
    rw [hm0] at hOc ⊢
    clear hd hD hsum hO
    go_wp2_with (first | ((with_reducible refine wp_region_later (by kernel_rfl) (by kernel_rfl) ?_); (repeat (first | go_big_quiet_step (first | fail) | simp only [q0])); refine wpQuiet_nil ?_; rintro _ ⟨x, rfl⟩))
    refine (c_iPlanPasses (hOs.to inferInstance) hm0 hOc (by omega)).mono ?_
    rintro _ _ ⟨sp, cp, rfl, hOP, y1, rfl⟩
    rw [hPL] at hOP ⊢
    clear hPL
    have hPs := hOP.sl
    obtain ⟨n1, hn1⟩ : ∃ n1, PL.length = n1 := ⟨_, rfl⟩
    rw [hn1] at hlen ⊢
    clear hOP
    obtain ⟨Y, hY⟩ := Later.of (w := (x0.andThen d).w.alloc (.cells #[.int .i64 pp, .int .i64 ss, .int .i64 ll] 43)) (W := y1.w)
    have hRs := hOs.to (inferInstance : Grows (x0.andThen d).w y1.w)
    rw [hY] at hPs hRs ⊢
    clear hY y1 hOs
    go_wp2_with (first | ((with_reducible refine wp_region_later (by kernel_rfl) (by kernel_rfl) ?_); (repeat (first | go_big_quiet_step (first | fail) | simp only [q0])); refine wpQuiet_nil ?_; rintro _ ⟨x, rfl⟩))
    have HMI := Lib.hid hmiss; clear hmiss
    go_loopw [6, 7] (fun va vb wr => ∃ k m : Nat, va = .int .i64 m ∧ vb = .int .i64 k ∧ k ≤ m0 ∧ Hid (m + slotSum PL (L.drop k) = slotSum PL L) ∧ m ≤ k * n1 ∧ ∃ y : Later Y.w, wr = y.w) (fun _ v _ => (m0 - intOf v).toNat)
    case atStart => exact ⟨0, 0, rfl, rfl, by omega, by simp [Hid], by omega, Later.of⟩
    case round =>
      obtain ⟨k, m, rfl, rfl, hk, hf, hmk, y, rfl⟩ := hrel
      by_cases h : k < m0
      · obtain ⟨b1, off, r, rfl, hb, hdr, h0, h1, h2, h3⟩ := hRs.request (show k < L.length by omega)
        have hso := slotsOf_le r.Id PL
        have c1 : decide (r.Need < (slotsOf r.Id PL : Int)) = false := by
          have := hle.out r (mem_of_drop' hdr.out); simp; omega
        have hkn : k * n1 + n1 ≤ 5 * 1000001 := by
          have : (k + 1) * n1 ≤ 5 * 1000001 := Nat.mul_le_mul (by omega) hlen
          rw [Nat.add_mul] at this; omega
        have hkn2 : (k + 1) * n1 = k * n1 + n1 := by rw [Nat.add_mul]; omega
        have HK2 := Lib.hid hkn2; clear hkn2
        generalize k * n1 = kn at *
        go_wp2_with (first | ((with_reducible refine wp_region_later (by kernel_rfl) (by kernel_rfl) ?_); (repeat (first | go_big_quiet_step (first | (go_at_call 69; exact Gives.quiet (c_iSlotsOf (by first | assumption | (apply Sl.to <;> first | assumption | infer_instance) | omega) (by first | assumption | (apply Sl.to <;> first | assumption | infer_instance) | omega) (by first | assumption | (apply Sl.to <;> first | assumption | infer_instance) | omega)))) | simp only [c1])); refine wpQuiet_nil ?_; rintro _ ⟨x, rfl⟩) | (go_at_call 69; refine (c_iSlotsOf (by first | assumption | (apply Sl.to <;> first | assumption | infer_instance) | omega) (by first | assumption | (apply Sl.to <;> first | assumption | infer_instance) | omega) (by first | assumption | (apply Sl.to <;> first | assumption | infer_instance) | omega)).mono ?_; rintro _ _ ⟨rfl, x, rfl⟩))
        go_roundw
        case rel => exact ⟨k + 1, m + slotsOf r.Id PL, by go_num, by go_num, by omega, by have := hf.out; rw [hdr.out, slotSum] at this; simp only [Hid]; omega, by rw [HK2.out]; omega, Later.of⟩
        case measure => simp [intOf]; omega
      · have hm2 : m = n1 := by
          have := hf.out
          rw [List.drop_of_length_le (by omega), slotSum, HS.out, hn1] at this
          omega
        obtain rfl : m = n1 := hm2
        clear hf hmk
        go_wp2_with (first | ((with_reducible refine wp_region_later (by kernel_rfl) (by kernel_rfl) ?_); (repeat (first | go_big_quiet_step (first | fail))); refine wpQuiet_nil ?_; rintro _ ⟨x, rfl⟩))
        go_loopw [8] (fun vb wr => ∃ k : Nat, vb = .int .i64 k ∧ k ≤ m ∧ ∃ y : Later Y.w, wr = y.w) (fun v _ => (m - intOf v).toNat)
        case atStart => exact ⟨0, rfl, by omega, Later.of⟩
        case round =>
          obtain ⟨k2, rfl, hk2, y2, rfl⟩ := hrel
          by_cases h2 : k2 < m
          · obtain ⟨b2, off2, x2, rfl, hb2, hd2, e0, e1⟩ := hPs.slot (show k2 < PL.length by omega)
            have c2 : (slotAt x2.Time PL != x2.Id) = false := by
              have := hat.out x2 (mem_of_drop' hd2.out); simp [this]
            go_wp2_with (first | ((with_reducible refine wp_region_later (by kernel_rfl) (by kernel_rfl) ?_); (repeat (first | go_big_quiet_step (first | (go_at_call 66; exact Gives.quiet (c_iSlotAt (by first | assumption | (apply Sl.to <;> first | assumption | infer_instance) | omega) (by first | assumption | (apply Sl.to <;> first | assumption | infer_instance) | omega) (by first | assumption | (apply Sl.to <;> first | assumption | infer_instance) | omega)))) | simp only [c2])); refine wpQuiet_nil ?_; rintro _ ⟨x, rfl⟩) | (go_at_call 66; refine (c_iSlotAt (by first | assumption | (apply Sl.to <;> first | assumption | infer_instance) | omega) (by first | assumption | (apply Sl.to <;> first | assumption | infer_instance) | omega) (by first | assumption | (apply Sl.to <;> first | assumption | infer_instance) | omega)).mono ?_; rintro _ _ ⟨rfl, x, rfl⟩))
            go_roundw
            case rel => exact ⟨k2 + 1, by go_num, by omega, Later.of⟩
            case measure => simp [intOf]; omega
          · have hmi := HMI.out
            cases hfe : feasible pp ss ll L
            all_goals
              rw [hfe] at hmi
              have hm3 : (((missedOf PL L).length : Int) == 0) = decide ((missedOf PL L).length = 0) := by
                rw [Bool.eq_iff_iff]; simp
              rw [hmi] at hm3
              go_wp2_with (first | ((with_reducible refine wp_region_later (by kernel_rfl) (by kernel_rfl) ?_); (repeat (first | go_big_quiet_step (first | fail))); refine wpQuiet_nil ?_; rintro _ ⟨x, rfl⟩))
              go_region_held3 (fun W : World => W.cell? ⟨(x0.andThen d).w.heap.size, 0, none⟩ = some (.int .i64 pp) ∧ W.cell? ⟨(x0.andThen d).w.heap.size, 1, none⟩ = some (.int .i64 ss) ∧ W.cell? ⟨(x0.andThen d).w.heap.size, 2, none⟩ = some (.int .i64 ll)) (first | ((try dsimp only); (refine ⟨?_, ?_, ?_⟩ <;> go_simp))) (first
                | (go_at_call 68; refine (c_iPlanOk (hRs.to inferInstance) (hPs.to inferInstance) hm0 hOc hn1 (by omega) (by omega)).mono ?_; rintro _ _ ⟨rfl, v1, rfl⟩)
                | (go_at_call 53; refine (c_iMissedOf (hRs.to inferInstance) (hPs.to inferInstance) hm0 hn1 (by omega) (by omega)).mono ?_; rintro _ _ ⟨a5, c5, rfl, o5, v2, rfl⟩; clear o5)
                | (go_at_call 62; refine (c_iFeasible (hRs.to inferInstance) hm0 hOc (by omega)).mono ?_; rintro _ _ ⟨rfl, v3, rfl⟩)
                | (go_at_call 20; refine (c_iRequestsOk (hRs.to inferInstance) hm0 hOc (by omega)).mono ?_; rintro _ _ ⟨rfl, v4, rfl⟩))
              all_goals
                go_wp2_with (first | ((with_reducible refine wp_region_later (by kernel_rfl) (by kernel_rfl) ?_); (repeat (first | go_big_quiet_step (first | fail))); refine wpQuiet_nil ?_; rintro _ ⟨x, rfl⟩))
                go_ret
                exact Gives.mk rfl
  · go_enter Try.func15, Try.ntmps15
    go_wp2_with (first | ((with_reducible refine wp_region_later (by kernel_rfl) (by kernel_rfl) ?_); (repeat (first | go_big_quiet_step (first | (go_at_call 29; exact Gives.quiet (c_lbig))) | simp only [q0])); refine wpQuiet_nil ?_; rintro _ ⟨x, rfl⟩) | (go_at_call 29; refine (c_lbig).mono ?_; rintro _ _ ⟨rfl, x, rfl⟩))
    go_ret
    exact Gives.mk rfl
end Go.Proofs.Ytonclekalgaojaa
