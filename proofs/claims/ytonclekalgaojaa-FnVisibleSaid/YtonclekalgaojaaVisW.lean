/- FnVisible, walked. No condition but on lengths. -/
import Derived.Test.YtonclekalgaojaaWork
import Derived.Test.YtonclekalgaojaaAt
import Derived.Test.YtonclekalgaojaaVisL
namespace Go.Proofs.Ytonclekalgaojaa
set_option linter.unusedVariables false
open Go.ChangeShapes Go.WideShapes Go.ChangeAt Go.RowKit

set_option maxRecDepth 100000 in
set_option maxHeartbeats 2000000 in
theorem c_lFnVisible {w : World} {a : Option Addr} {n c : Nat} {l : List Int} (hs : Sl encByte w a l) (hn : l.length = n) (hz : n ≤ 9223372036854775807) (hby : ∀ x ∈ l, isByte x) :
    Calls Try.prog 6 #[.slice a n c] w (Gives w (.bool true)) := by
  cases q0 : decide (1048576 < (n : Int))
  · have hm : n ≤ 1048576 := by have := of_decide_eq_false q0; omega
    obtain ⟨u, hu, cu⟩ := at_is hs hn hm hby (c := c) 0 (by omega)
    obtain ⟨v, hv, cv⟩ := at_is hs hn hm hby (c := c) 1 (by omega)
    have HBY := Lib.hid hby; clear hby
    go_enter Try.func6, Try.ntmps6
    go_wp2_with (first | ((with_reducible refine wp_region_later (by kernel_rfl) (by kernel_rfl) ?_); (repeat (first | go_big_quiet_step (first | fail) | simp only [q0])); refine wpQuiet_nil ?_; rintro _ ⟨x, rfl⟩))
    refine c_lbig.mono ?_
    rintro _ _ ⟨rfl, x0, rfl⟩
    go_wp2_with (first | ((with_reducible refine wp_region_later (by kernel_rfl) (by kernel_rfl) ?_); (repeat (first | go_big_quiet_step (first | fail) | simp only [q0])); refine wpQuiet_nil ?_; rintro _ ⟨x, rfl⟩))
    refine (c_sDrawWork (hs.to inferInstance) hn hm HBY.out).mono ?_
    rintro _ _ ⟨pp, ss, ll, L, sa, sc, rfl, hd, -, -, d, rfl⟩
    have HD := Lib.hid hd; clear hd
    have hub : 0 ≤ u ∧ u ≤ 255 := hu
    have hvb : 0 ≤ v ∧ v ≤ 255 := hv
    obtain ⟨a0, rfl⟩ := Int.eq_ofNat_of_zero_le hub.1
    obtain ⟨b0, rfl⟩ := Int.eq_ofNat_of_zero_le hvb.1
    have hp1 : 1 ≤ pp ∧ pp ≤ 50 := by have h := HD.out.1; simp only [List.mem_cons, List.not_mem_nil, or_false] at h; omega
    have ok : orbitOk pp ss ll = true := orbitOk_iff.2 (by have := HD.out.2; omega)
    have ⟨⟨o1, o2⟩, ⟨o3, o4⟩, o5, o6⟩ := orbitOk_iff.1 ok
    go_wp2_with (first | ((with_reducible refine wp_region_later (by kernel_rfl) (by kernel_rfl) ?_); (repeat (first | go_big_quiet_step (first | fail) | simp only [q0])); refine wpQuiet_nil ?_; rintro _ ⟨x, rfl⟩))
    refine (cu _).mono ?_
    rintro _ _ ⟨rfl, x1, rfl⟩
    go_wp2_with (first | ((with_reducible refine wp_region_later (by kernel_rfl) (by kernel_rfl) ?_); (repeat (first | go_big_quiet_step (first | fail) | simp only [q0])); refine wpQuiet_nil ?_; rintro _ ⟨x, rfl⟩))
    refine (cv _).mono ?_
    rintro _ _ ⟨rfl, x2, rfl⟩
    go_wp2_with (first | ((with_reducible refine wp_region_later (by kernel_rfl) (by kernel_rfl) ?_); (repeat (first | go_big_quiet_step (first | fail) | simp only [q0])); refine wpQuiet_nil ?_; rintro _ ⟨x, rfl⟩))
    have na := nextAt_ge (p := pp) (s := ss) (l := ll) (t := (a0 : Int)) hp1.1
    have nl := nextAt_lt (p := pp) (s := ss) (l := ll) (t := (a0 : Int)) (by omega) ok
    go_loopw [7, 8] (fun va vb wr => ∃ k : Nat, va = .int .i64 (visBefore pp ss ll k - visBefore pp ss ll a0) ∧ vb = .int .i64 k ∧ a0 ≤ k ∧ k ≤ a0 + b0 + 1 ∧ ∃ y : Later ((x0.andThen d).w.alloc (.cells #[.int .i64 pp, .int .i64 ss, .int .i64 ll] 43)), wr = y.w) (fun _ v _ => (a0 + b0 + 1 - intOf v).toNat)
    case atStart => exact ⟨a0, by simp, rfl, by omega, by omega, Later.of⟩
    case round =>
      obtain ⟨k, rfl, rfl, hk, hk', y, rfl⟩ := hrel
      by_cases c1 : k ≤ a0 + b0
      · have hst := visBefore_step (t := (k : Int)) ok (by omega) (by omega)
        have hbd := visBefore_bd (t := (k : Int)) hp1.1 (by omega) (by omega) (by omega) (by omega)
        have hba := visBefore_bd (t := (a0 : Int)) hp1.1 (by omega) (by omega) (by omega) (by omega)
        have hps := visible_pass (p := pp) (s := ss) (l := ll) (t := (k : Int))
        cases v1 : visible pp ss ll k
        · have v2 : decide (0 ≤ passOf pp ss ll k) = false := by rw [← hps, v1]
          rw [v1] at hst
          simp only [Bool.false_eq_true, if_false, Int.add_zero] at hst
          have HST := Lib.hid hst; clear hst
          cases v3 : visible pp ss ll (k + pp)
          · go_wp2_with (first | ((with_reducible refine wp_region_later (by kernel_rfl) (by kernel_rfl) ?_); (repeat (first | go_big_quiet_step (first | (go_at_call 33; exact Gives.quiet (c_iVisible)) | (go_at_call 34; exact Gives.quiet (c_iPassOf)) | (go_at_call 32; exact Gives.quiet (c_lbtoi))) | simp only [v1] | simp only [v2] | simp only [v3])); refine wpQuiet_nil ?_; rintro _ ⟨x, rfl⟩) | (go_at_call 33; refine (c_iVisible).mono ?_; rintro _ _ ⟨rfl, x, rfl⟩) | (go_at_call 34; refine (c_iPassOf).mono ?_; rintro _ _ ⟨rfl, x, rfl⟩) | (go_at_call 32; refine (c_lbtoi).mono ?_; rintro _ _ ⟨rfl, x, rfl⟩))
            go_roundw
            case rel => exact ⟨k + 1, by rw [show ((k + 1 : Nat) : Int) = (k : Int) + 1 by omega, HST.out], by go_num, by omega, by omega, Later.of⟩
            case measure => simp [intOf]; omega
          · have v4 : decide (ss ≤ (k : Int)) = false := by
              apply decide_eq_false; intro h; have := visible_again h (by omega) ok; rw [v1, v3] at this; cases this
            go_wp2_with (first | ((with_reducible refine wp_region_later (by kernel_rfl) (by kernel_rfl) ?_); (repeat (first | go_big_quiet_step (first | (go_at_call 33; exact Gives.quiet (c_iVisible)) | (go_at_call 34; exact Gives.quiet (c_iPassOf)) | (go_at_call 32; exact Gives.quiet (c_lbtoi))) | simp only [v1] | simp only [v2] | simp only [v3] | simp only [v4])); refine wpQuiet_nil ?_; rintro _ ⟨x, rfl⟩) | (go_at_call 33; refine (c_iVisible).mono ?_; rintro _ _ ⟨rfl, x, rfl⟩) | (go_at_call 34; refine (c_iPassOf).mono ?_; rintro _ _ ⟨rfl, x, rfl⟩) | (go_at_call 32; refine (c_lbtoi).mono ?_; rintro _ _ ⟨rfl, x, rfl⟩))
            go_roundw
            case rel => exact ⟨k + 1, by rw [show ((k + 1 : Nat) : Int) = (k : Int) + 1 by omega, HST.out], by go_num, by omega, by omega, Later.of⟩
            case measure => simp [intOf]; omega
        · have v2 : decide (0 ≤ passOf pp ss ll k) = true := by rw [← hps, v1]
          have v3 : visible pp ss ll (k + pp) = true := by rw [← visible_again (visible_iff.1 v1).2.1.1 (by omega) ok, v1]
          rw [v1, if_pos rfl] at hst
          have HST := Lib.hid hst; clear hst
          go_wp2_with (first | ((with_reducible refine wp_region_later (by kernel_rfl) (by kernel_rfl) ?_); (repeat (first | go_big_quiet_step (first | (go_at_call 33; exact Gives.quiet (c_iVisible)) | (go_at_call 34; exact Gives.quiet (c_iPassOf)) | (go_at_call 32; exact Gives.quiet (c_lbtoi))) | simp only [v1] | simp only [v2] | simp only [v3])); refine wpQuiet_nil ?_; rintro _ ⟨x, rfl⟩) | (go_at_call 33; refine (c_iVisible).mono ?_; rintro _ _ ⟨rfl, x, rfl⟩) | (go_at_call 34; refine (c_iPassOf).mono ?_; rintro _ _ ⟨rfl, x, rfl⟩) | (go_at_call 32; refine (c_lbtoi).mono ?_; rintro _ _ ⟨rfl, x, rfl⟩))
          go_roundw
          case rel => exact ⟨k + 1, by rw [show ((k + 1 : Nat) : Int) = (k : Int) + 1 by omega, HST.out]; go_num, by go_num, by omega, by omega, Later.of⟩
          case measure => simp [intOf]; omega
      · obtain rfl : k = a0 + b0 + 1 := by omega
        obtain ⟨N, hN⟩ : ∃ N, N = nextVis pp ss ll a0 := ⟨_, rfl⟩
        have hNA : N = nextAt pp ss ll a0 := by rw [hN, nextVis, if_pos]; simp [ok]; omega
        have hNy := nextAt_yes (p := pp) (s := ss) (l := ll) (t := (a0 : Int)) ok (by omega)
        have hNn := Lib.hid (fun u => nextAt_not (p := pp) (s := ss) (l := ll) (t := (a0 : Int)) (u := u) ok)
        rw [← hNA] at na nl hNy hNn
        have HN := Lib.hid hN; clear hN hNA
        have hct : visCount pp ss ll a0 (a0 + b0) = visBefore pp ss ll (a0 + b0 + 1) - visBefore pp ss ll a0 := by
          rw [visCount, if_pos]; simp [ok, inB]; omega
        have hbd := visBefore_bd (t := (a0 + b0 + 1 : Int)) hp1.1 (by omega) (by omega) (by omega) (by omega)
        have hba := visBefore_bd (t := (a0 : Int)) hp1.1 (by omega) (by omega) (by omega) (by omega)
        have HCT := Lib.hid hct; have HNY := Lib.hid hNy; clear hct hNy
        go_wp2_with (first | ((with_reducible refine wp_region_later (by kernel_rfl) (by kernel_rfl) ?_); (repeat (first | go_big_quiet_step (first | fail))); refine wpQuiet_nil ?_; rintro _ ⟨x, rfl⟩))
        refine c_iNextVisible.mono ?_
        rintro _ _ ⟨rfl, y5, rfl⟩
        rw [← HN.out]
        go_wp2_with (first | ((with_reducible refine wp_region_later (by kernel_rfl) (by kernel_rfl) ?_); (repeat (first | go_big_quiet_step (first | fail))); refine wpQuiet_nil ?_; rintro _ ⟨x, rfl⟩))
        go_loopw [10] (fun va wr => ∃ k : Nat, va = .int .i64 k ∧ a0 ≤ k ∧ (k : Int) ≤ N ∧ ∃ y : Later ((x0.andThen d).w.alloc (.cells #[.int .i64 pp, .int .i64 ss, .int .i64 ll] 43)), wr = y.w) (fun v _ => (N - intOf v).toNat)
        case atStart => exact ⟨a0, rfl, by omega, by omega, Later.of⟩
        case round =>
          obtain ⟨k, rfl, hk1, hk2, y6, rfl⟩ := hrel
          by_cases hkN : (k : Int) < N
          · have v5 := hNn.out k (by omega) hkN
            go_wp2_with (first | ((with_reducible refine wp_region_later (by kernel_rfl) (by kernel_rfl) ?_); (repeat (first | go_big_quiet_step (first | (go_at_call 33; exact Gives.quiet (c_iVisible))) | simp only [v5])); refine wpQuiet_nil ?_; rintro _ ⟨x, rfl⟩) | (go_at_call 33; refine (c_iVisible).mono ?_; rintro _ _ ⟨rfl, x, rfl⟩))
            go_roundw
            case rel => exact ⟨k + 1, by go_num, by omega, by omega, Later.of⟩
            case measure => simp [intOf]; omega
          · have v5 := HNY.out
            have v6 := HCT.out
            go_wp2_with (first | ((with_reducible refine wp_region_later (by kernel_rfl) (by kernel_rfl) ?_); (repeat (first | go_big_quiet_step (first | (go_at_call 36; exact Gives.quiet (c_iVisibleCount)) | (go_at_call 33; exact Gives.quiet (c_iVisible)) | (go_at_call 37; exact Gives.quiet (c_iOrbitOk))) | simp only [v5] | simp only [v6])); refine wpQuiet_nil ?_; rintro _ ⟨x, rfl⟩) | (go_at_call 36; refine (c_iVisibleCount).mono ?_; rintro _ _ ⟨rfl, x, rfl⟩) | (go_at_call 33; refine (c_iVisible).mono ?_; rintro _ _ ⟨rfl, x, rfl⟩) | (go_at_call 37; refine (c_iOrbitOk).mono ?_; rintro _ _ ⟨rfl, x, rfl⟩))
            go_ret
            exact Gives.mk rfl
  · go_enter Try.func6, Try.ntmps6
    go_wp2_with (first | ((with_reducible refine wp_region_later (by kernel_rfl) (by kernel_rfl) ?_); (repeat (first | go_big_quiet_step (first | (go_at_call 29; exact Gives.quiet (c_lbig))) | simp only [q0])); refine wpQuiet_nil ?_; rintro _ ⟨x, rfl⟩) | (go_at_call 29; refine (c_lbig).mono ?_; rintro _ _ ⟨rfl, x, rfl⟩))
    go_ret
    exact Gives.mk rfl
end Go.Proofs.Ytonclekalgaojaa
