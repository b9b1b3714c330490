/- Equality of slices of numbers. No condition but on lengths. -/
import Derived.Test.YtjffbpdippbfkaaOwn
namespace Go.Proofs.Ytjffbpdippbfkaa
set_option linter.unusedVariables false
open Go.ChangeShapes Go.WideShapes Go.ChangeAt Go.RowKit

def eqInt (s t : Int) : Bool := s == t
theorem eqInt_self (s : Int) : eqInt s s = true := by simp [eqInt]

set_option maxRecDepth 100000 in
set_option maxHeartbeats 2000000 in
theorem c_leqIntS {a a' : Option Addr} {n n' c c' : Nat} {l l' : List Int} {w : World} (hs : Sl encInt w a l) (hs' : Sl encInt w a' l') (hn : l.length = n) (hn' : l'.length = n') (hm : n ≤ 4611686018427387904) (hm' : n' ≤ 4611686018427387904) :
    Calls Try.prog 25 #[.slice a n c, .slice a' n' c'] w (Gives w (.bool ((n == n') && eqAll eqInt l l'))) := by
  by_cases hnn : n = n'
  · subst hnn
    have kn : ((n : Int) != (n : Int)) = false := by simp
    go_enter Try.func25, Try.ntmps25
    go_wp2_with (first | ((with_reducible refine wp_region_later (by kernel_rfl) (by kernel_rfl) ?_); (repeat (first | go_big_quiet_step (first | fail) | simp only [kn])); refine wpQuiet_nil ?_; rintro _ ⟨x, rfl⟩))
    go_loopw [5] (fun v wr => ∃ k : Nat, v = .int .i64 k ∧ k ≤ n ∧ Hid (eqAll eqInt (l.drop k) (l'.drop k) = eqAll eqInt l l') ∧ ∃ x : Later w, wr = x.w) (fun v _ => (n - intOf v).toNat)
    case atStart => exact ⟨0, rfl, by omega, rfl, Later.here w, rfl⟩
    case round =>
      obtain ⟨k, rfl, hk, hf, x, rfl⟩ := hrel
      by_cases h : k < n
      · obtain ⟨b, off, s, rfl, hb, hd, h0⟩ := hs.int (show k < l.length by omega)
        obtain ⟨b', off', s', rfl, hb', hd', h0'⟩ := hs'.int (show k < l'.length by omega)
        cases he : (s == s')
        · have he2 : (s != s') = true := by simp [bne, he]
          go_wp2_with (first | ((with_reducible refine wp_region_later (by kernel_rfl) (by kernel_rfl) ?_); (repeat (first | go_big_quiet_step (first | fail) | simp only [he2])); refine wpQuiet_nil ?_; rintro _ ⟨x, rfl⟩))
          go_ret
          exact Gives.mk (by have := hf.out; rw [hd.out, hd'.out, eqAll, eqInt, he] at this; simp [← this])
        · have he2 : (s != s') = false := by simp [bne, he]
          go_wp2_with (first | ((with_reducible refine wp_region_later (by kernel_rfl) (by kernel_rfl) ?_); (repeat (first | go_big_quiet_step (first | fail) | simp only [he2])); refine wpQuiet_nil ?_; rintro _ ⟨x, rfl⟩))
          go_roundw
          case rel => exact ⟨k + 1, by go_num, by omega, by have := hf.out; rw [hd.out, hd'.out, eqAll, eqInt, he, Bool.true_and] at this; exact this, Later.of⟩
          case measure => simp [intOf]; omega
      · go_wp2_with (first | ((with_reducible refine wp_region_later (by kernel_rfl) (by kernel_rfl) ?_); (repeat (first | go_big_quiet_step (first | fail))); refine wpQuiet_nil ?_; rintro _ ⟨x, rfl⟩))
        go_ret
        exact Gives.mk (by have := hf.out; rw [List.drop_of_length_le (by omega), List.drop_of_length_le (by omega)] at this; simp [← this, eqAll])
  · have kn : ((n : Int) != (n' : Int)) = true := by simp; omega
    go_enter Try.func25, Try.ntmps25
    go_wp2_with (first | ((with_reducible refine wp_region_later (by kernel_rfl) (by kernel_rfl) ?_); (repeat (first | go_big_quiet_step (first | fail) | simp only [kn])); refine wpQuiet_nil ?_; rintro _ ⟨x, rfl⟩))
    go_ret
    exact Gives.mk (by simp [hnn])
end Go.Proofs.Ytjffbpdippbfkaa
