/- Marks in slices of requests. No condition but on lengths. -/
import Derived.Test.YtonclekalgaojaaMark
import Derived.Test.YtonclekalgaojaaReq
namespace Go.Proofs.Ytonclekalgaojaa
set_option linter.unusedVariables false
open Go.ChangeShapes Go.WideShapes Go.ChangeAt Go.RowKit

def mkRequest (k0 : Int) (i : Nat) : Request := (⟨k0 + i * 4, k0 + i * 4 + 1, k0 + i * 4 + 1 + 1, k0 + i * 4 + 1 + 1 + 1⟩ : Request)

theorem c_lmarkRequestS {a : Option Addr} {n c B : Nat} {k0 : Int} {l : List Request} {w : World} (hown0 : Own encRequest 87 4 B w a c l) (hn : l.length = n) (hm : n ≤ 1048576) (h1 : 0 ≤ k0) (h2 : k0 ≤ 1000000000000) :
    Calls Try.prog 56 #[.slice a n c, .int .i64 k0] w (Marks encRequest 87 4 B w a n c ((List.range n).map (mkRequest k0)) (k0 + n * 4)) := by
  go_enter Try.func56, Try.ntmps56
  go_wp2_with (first | ((with_reducible refine wp_region_later (by kernel_rfl) (by kernel_rfl) ?_); (repeat (first | go_big_quiet_step (first | fail))); refine wpQuiet_nil ?_; rintro _ ⟨x, rfl⟩))
  go_loopw [1, 5] (fun u v wr => ∃ j : Nat, v = .int .i64 j ∧ u = .int .i64 (k0 + j * 4) ∧ j ≤ n ∧ w.grownBy wr (Value.ownBlock (.slice a n c)) ∧ Own encRequest 87 4 B wr a c (mixed (mkRequest k0) l j)) (fun _ v _ => (n - intOf v).toNat)
  case atStart => exact ⟨0, rfl, by simp, by omega, grownBy_refl _ _, by rw [mixed_zero]; exact hown0⟩
  case round =>
    obtain ⟨j, rfl, rfl, hj, hgr, hown⟩ := hrel
    by_cases h : j < n
    · obtain ⟨g, rfl, hB, hlt⟩ := hown.open (n := n) (by rw [mixed_length (by omega)]; omega)
      obtain ⟨o0, g0⟩ := hown.cells (j := j * 4) (by rw [mixed_length (by omega)]; omega); obtain ⟨o1, g1⟩ := hown.cells (j := j * 4 + 1) (by rw [mixed_length (by omega)]; omega); obtain ⟨o2, g2⟩ := hown.cells (j := j * 4 + 2) (by rw [mixed_length (by omega)]; omega); obtain ⟨o3, g3⟩ := hown.cells (j := j * 4 + 3) (by rw [mixed_length (by omega)]; omega);
      have f0 := hown.free (j * 4); have f1 := hown.free (j * 4 + 1); have f2 := hown.free (j * 4 + 2); have f3 := hown.free (j * 4 + 3);
      have HG := Lib.hid hgr; clear hgr
      go_wp2_with (first | ((with_reducible refine wp_region_later (by kernel_rfl) (by kernel_rfl) ?_); (repeat (first | go_big_quiet_step (first | fail))); refine wpQuiet_nil ?_; rintro _ ⟨x, rfl⟩))
      go_roundw
      case rel =>
        have hp := hown.put4 (j := j) (y := mkRequest k0 j) (by rw [mixed_length (by omega)]; omega) rfl
        exact ⟨j + 1, by go_num, by go_num, by omega, grownBy_trans HG.out hp.2, by rw [← mixed_set (by omega)]; exact hp.1⟩
      case measure => simp [intOf]; omega
    · go_wp2_with (first | ((with_reducible refine wp_region_later (by kernel_rfl) (by kernel_rfl) ?_); (repeat (first | go_big_quiet_step (first | fail))); refine wpQuiet_nil ?_; rintro _ ⟨x, rfl⟩))
      go_ret
      obtain rfl : j = n := by omega
      refine ⟨rfl, hgr, ?_⟩
      rw [← hn, mixed_all] at hown
      rw [← hn]; exact hown
end Go.Proofs.Ytonclekalgaojaa
