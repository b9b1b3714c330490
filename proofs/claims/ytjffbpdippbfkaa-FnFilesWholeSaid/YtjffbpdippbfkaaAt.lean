/- The laws' small helpers: at, btoi, has, big. No condition but on lengths. -/
import Derived.Test.YtjffbpdippbfkaaDraw
namespace Go.Proofs.Ytjffbpdippbfkaa
set_option linter.unusedVariables false
open Go.ChangeShapes Go.WideShapes Go.ChangeAt Go.RowKit

theorem c_lbig {w : World} {a : Option Addr} {n c : Nat} : Calls Try.prog 7 #[.slice a n c] w (Gives w (.bool (decide (1048576 < (n : Int))))) := by
  go_enter Try.func7, Try.ntmps7
  go_wp2_with (first | ((with_reducible refine wp_region_later (by kernel_rfl) (by kernel_rfl) ?_); (repeat (first | go_big_quiet_step (first | fail))); refine wpQuiet_nil ?_; rintro _ ⟨x, rfl⟩))
  go_ret
  exact Gives.mk (by simp)

set_option maxRecDepth 100000 in
theorem at_is {w : World} {a : Option Addr} {n c : Nat} {l : List Int} (hs : Sl encByte w a l) (hn : l.length = n) (hm : n ≤ 1048576) (hby : ∀ x ∈ l, isByte x) (i : Nat) (hi : i ≤ 1000000) :
    ∃ v, isByte v ∧ ∀ (W : World) [Grows w W], Calls Try.prog 16 #[.slice a n c, .int .i64 i] W (Gives W (.int .i64 v)) := by
  cases q : decide ((n : Int) = 0)
  · have hn0 : 0 < n := by have := of_decide_eq_false q; omega
    have hk : (i * 5 + 1) % n < n := Nat.mod_lt _ hn0
    obtain ⟨b, off, s, rfl, hb, hd, g0⟩ := hs.byte (show (i * 5 + 1) % n < l.length by omega)
    have gs := hby s (by have : s ∈ l.drop ((i * 5 + 1) % n) := by rw [hd.out]; simp
                         exact List.mem_of_mem_drop this)
    refine ⟨s, gs, fun W g => ?_⟩
    have g1 := g0 W
    unfold isByte at gs
    have h1 := Int.emod_nonneg ((i : Int) * 5 + 1) (show (n : Int) ≠ 0 by omega)
    have h2 := Int.emod_lt_of_pos ((i : Int) * 5 + 1) (show 0 < (n : Int) by omega)
    have HBY := Lib.hid hby; clear hby g0 hd hs
    go_enter Try.func16, Try.ntmps16
    go_wp2_with (first | ((with_reducible refine wp_region_later (by kernel_rfl) (by kernel_rfl) ?_); (repeat (first | go_big_quiet_step (first | fail) | simp only [q])); refine wpQuiet_nil ?_; rintro _ ⟨x, rfl⟩))
    go_ret
    exact Gives.mk rfl
  · obtain rfl : n = 0 := by have := of_decide_eq_true q; omega
    refine ⟨0, by simp [isByte], fun W g => ?_⟩
    have HBY := Lib.hid hby; clear hby
    go_enter Try.func16, Try.ntmps16
    go_wp2_with (first | ((with_reducible refine wp_region_later (by kernel_rfl) (by kernel_rfl) ?_); (repeat (first | go_big_quiet_step (first | fail) | simp only [q])); refine wpQuiet_nil ?_; rintro _ ⟨x, rfl⟩))
    go_ret
    exact Gives.mk rfl
end Go.Proofs.Ytjffbpdippbfkaa
