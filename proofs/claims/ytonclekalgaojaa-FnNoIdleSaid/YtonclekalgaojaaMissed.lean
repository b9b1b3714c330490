/- The contracts of MissedOf. No condition but on lengths. -/
import Derived.Test.YtonclekalgaojaaDemand
import Derived.Test.YtonclekalgaojaaSlots2
import Derived.Test.YtonclekalgaojaaOwn
namespace Go.Proofs.Ytonclekalgaojaa
set_option linter.unusedVariables false
open Go.ChangeShapes Go.WideShapes Go.ChangeAt Go.RowKit

def missedOf (plan : List Slot) : List Request → List Int
  | [] => []
  | s :: r => if ((slotsOf s.Id plan : Int) < s.Need) then s.Id :: missedOf plan r else missedOf plan r
theorem missedOf_le (plan : List Slot) : ∀ l, (missedOf plan l).length ≤ l.length
  | [] => Nat.le_refl _
  | s :: r => by have := missedOf_le plan r; rw [missedOf]; split <;> simp <;> omega

theorem c_iMissedOf {p q : Option Addr} {n c n2 c2 : Nat} {l : List Request} {pl : List Slot} {w : World} (hs : Sl encRequest w p l) (hp : Sl encSlot w q pl) (hn : l.length = n) (hn2 : pl.length = n2) (hm : n ≤ 1048576) (hm2 : n2 ≤ 4611686018427387904) :
    Calls Try.prog 53 #[.slice p n c, .slice q n2 c2] w (GivesSl encInt 3 1 w (missedOf pl l)) := by
  go_enter Try.func53, Try.ntmps53
  go_wp2_with (first | ((with_reducible refine wp_region_later (by kernel_rfl) (by kernel_rfl) ?_); (repeat (first | go_big_quiet_step (first | fail))); refine wpQuiet_nil ?_; rintro _ ⟨x, rfl⟩))
  go_loopw [5, 10] (fun u v wr => ∃ (k : Nat) (acc : List Int) (m : Nat) (sa : Option Addr) (sc : Nat), v = .int .i64 k ∧ u = .slice sa m sc ∧ acc.length = m ∧ k ≤ n ∧ m ≤ k ∧ Hid (acc ++ missedOf pl (l.drop k) = missedOf pl l) ∧ Own encInt 3 1 w.heap.size wr sa sc acc ∧ ∃ x : Later w, wr = x.w) (fun _ v _ => (n - intOf v).toNat)
  case atStart => exact ⟨0, [], 0, none, 0, rfl, rfl, rfl, by omega, by omega, by simp [Hid], Own.nil encInt_len, Later.of⟩
  case round =>
    obtain ⟨k, acc, m, sa, sc, rfl, rfl, hacc, hk, hmk, hf, hown, x0, rfl⟩ := hrel
    by_cases h : k < n
    · obtain ⟨b1, off, s, rfl, hb, hd, h0, h1, h2, h3⟩ := hs.request (show k < l.length by omega)
      cases c1 : decide ((slotsOf s.Id pl : Int) < s.Need)
      · go_wp2_with (first | ((with_reducible refine wp_region_later (by kernel_rfl) (by kernel_rfl) ?_); (repeat (first | go_big_quiet_step (first | (go_at_call 69; exact Gives.quiet (c_iSlotsOf (by first | assumption | (apply Sl.to <;> first | assumption | infer_instance) | omega) (by first | assumption | (apply Sl.to <;> first | assumption | infer_instance) | omega) (by first | assumption | (apply Sl.to <;> first | assumption | infer_instance) | omega)))) | simp only [c1])); refine wpQuiet_nil ?_; rintro _ ⟨x, rfl⟩) | (go_at_call 69; refine (c_iSlotsOf (by first | assumption | (apply Sl.to <;> first | assumption | infer_instance) | omega) (by first | assumption | (apply Sl.to <;> first | assumption | infer_instance) | omega) (by first | assumption | (apply Sl.to <;> first | assumption | infer_instance) | omega)).mono ?_; rintro _ _ ⟨rfl, x, rfl⟩))
        go_roundw
        case rel => exact ⟨k + 1, acc, m, sa, sc, by go_num, rfl, hacc, by omega, by omega, by have := hf.out; rw [hd.out, missedOf, if_neg (by simpa using c1)] at this; exact this, Own.to hown inferInstance, Later.of⟩
        case measure => simp [intOf]; omega
      · go_wp2_with (first | ((with_reducible refine wp_region_later (by kernel_rfl) (by kernel_rfl) ?_); (repeat (first | go_big_quiet_step (first | (go_at_call 69; exact Gives.quiet (c_iSlotsOf (by first | assumption | (apply Sl.to <;> first | assumption | infer_instance) | omega) (by first | assumption | (apply Sl.to <;> first | assumption | infer_instance) | omega) (by first | assumption | (apply Sl.to <;> first | assumption | infer_instance) | omega)))) | simp only [c1])); refine wpQuiet_nil ?_; rintro _ ⟨x, rfl⟩) | (go_at_call 69; refine (c_iSlotsOf (by first | assumption | (apply Sl.to <;> first | assumption | infer_instance) | omega) (by first | assumption | (apply Sl.to <;> first | assumption | infer_instance) | omega) (by first | assumption | (apply Sl.to <;> first | assumption | infer_instance) | omega)).mono ?_; rintro _ _ ⟨rfl, x, rfl⟩) | (at_builtin; refine wpList_app1 (enc := encInt) (w0 := w) (z := .int .i64 0) (size := 1) (bytes := 8) s.Id rfl (.tmp 21) (.tmp 24) rfl Try.underlying69 (by kernel_rfl) rfl (by decide) (by decide) rfl rfl hacc (Own.to hown inferInstance) rfl (encInt_one _) (by omega) ?_; intro sa1 sc1 x1 hown1 hgr1))
        go_roundw
        case rel => exact ⟨k + 1, acc ++ [s.Id], m + 1, sa1, sc1, by go_num, rfl, by simp [hacc], by omega, by omega, by have := hf.out; rw [hd.out, missedOf, if_pos (by simpa using c1)] at this; simpa [Hid] using this, hown1, Later.of⟩
        case measure => simp [intOf]; omega
    · go_wp2_with (first | ((with_reducible refine wp_region_later (by kernel_rfl) (by kernel_rfl) ?_); (repeat (first | go_big_quiet_step (first | fail))); refine wpQuiet_nil ?_; rintro _ ⟨x, rfl⟩))
      go_ret
      have h9 := hf.out
      rw [List.drop_of_length_le (by omega), missedOf, List.append_nil] at h9
      subst h9
      exact ⟨sa, sc, by rw [hacc]; rfl, hown, Later.of⟩

theorem c_sMissedOf {p q : Option Addr} {n c n2 c2 : Nat} {l : List Request} {pl : List Slot} {w : World} (hs : Sl encRequest w p l) (hp : Sl encSlot w q pl) (hn : l.length = n) (hn2 : pl.length = n2) (hm : n ≤ 1048576) (hm2 : n2 ≤ 4611686018427387904) :
    Calls Try.prog 51 #[.slice p n c, .slice q n2 c2] w (GivesSl encInt 3 1 w (missedOf pl l)) := by
  go_enter Try.func51, Try.ntmps51
  go_wp2_with (first | ((with_reducible refine wp_region_later (by kernel_rfl) (by kernel_rfl) ?_); (repeat (first | go_big_quiet_step (first | fail))); refine wpQuiet_nil ?_; rintro _ ⟨x, rfl⟩))
  go_loopw [5, 6] (fun u v wr => ∃ (k : Nat) (acc : List Int) (m : Nat) (sa : Option Addr) (sc : Nat), v = .int .i64 k ∧ u = .slice sa m sc ∧ acc.length = m ∧ k ≤ n ∧ m ≤ k ∧ Hid (acc ++ missedOf pl (l.drop k) = missedOf pl l) ∧ Own encInt 3 1 w.heap.size wr sa sc acc ∧ ∃ x : Later w, wr = x.w) (fun _ v _ => (n - intOf v).toNat)
  case atStart => exact ⟨0, [], 0, _, 0, rfl, rfl, rfl, by omega, by omega, by simp [Hid], Own.empty0 encInt_len (Nat.le_refl _), Later.of⟩
  case round =>
    obtain ⟨k, acc, m, sa, sc, rfl, rfl, hacc, hk, hmk, hf, hown, x0, rfl⟩ := hrel
    by_cases h : k < n
    · obtain ⟨b1, off, s, rfl, hb, hd, h0, h1, h2, h3⟩ := hs.request (show k < l.length by omega)
      cases c1 : decide ((slotsOf s.Id pl : Int) < s.Need)
      · go_wp2_with (first | ((with_reducible refine wp_region_later (by kernel_rfl) (by kernel_rfl) ?_); (repeat (first | go_big_quiet_step (first | (go_at_call 87; exact Gives.quiet (c_sSlotsOf (by first | assumption | (apply Sl.to <;> first | assumption | infer_instance) | omega) (by first | assumption | (apply Sl.to <;> first | assumption | infer_instance) | omega) (by first | assumption | (apply Sl.to <;> first | assumption | infer_instance) | omega)))) | simp only [c1])); refine wpQuiet_nil ?_; rintro _ ⟨x, rfl⟩) | (go_at_call 87; refine (c_sSlotsOf (by first | assumption | (apply Sl.to <;> first | assumption | infer_instance) | omega) (by first | assumption | (apply Sl.to <;> first | assumption | infer_instance) | omega) (by first | assumption | (apply Sl.to <;> first | assumption | infer_instance) | omega)).mono ?_; rintro _ _ ⟨rfl, x, rfl⟩))
        go_roundw
        case rel => exact ⟨k + 1, acc, m, sa, sc, by go_num, rfl, hacc, by omega, by omega, by have := hf.out; rw [hd.out, missedOf, if_neg (by simpa using c1)] at this; exact this, Own.to hown inferInstance, Later.of⟩
        case measure => simp [intOf]; omega
      · go_wp2_with (first | ((with_reducible refine wp_region_later (by kernel_rfl) (by kernel_rfl) ?_); (repeat (first | go_big_quiet_step (first | (go_at_call 87; exact Gives.quiet (c_sSlotsOf (by first | assumption | (apply Sl.to <;> first | assumption | infer_instance) | omega) (by first | assumption | (apply Sl.to <;> first | assumption | infer_instance) | omega) (by first | assumption | (apply Sl.to <;> first | assumption | infer_instance) | omega)))) | simp only [c1])); refine wpQuiet_nil ?_; rintro _ ⟨x, rfl⟩) | (go_at_call 87; refine (c_sSlotsOf (by first | assumption | (apply Sl.to <;> first | assumption | infer_instance) | omega) (by first | assumption | (apply Sl.to <;> first | assumption | infer_instance) | omega) (by first | assumption | (apply Sl.to <;> first | assumption | infer_instance) | omega)).mono ?_; rintro _ _ ⟨rfl, x, rfl⟩) | (at_builtin; refine wpList_app1 (enc := encInt) (w0 := w) (z := .int .i64 0) (size := 1) (bytes := 8) s.Id rfl (.tmp 27) (.tmp 33) rfl Try.underlying69 (by kernel_rfl) rfl (by decide) (by decide) rfl rfl hacc (Own.to hown inferInstance) rfl (encInt_one _) (by omega) ?_; intro sa1 sc1 x1 hown1 hgr1))
        go_roundw
        case rel => exact ⟨k + 1, acc ++ [s.Id], m + 1, sa1, sc1, by go_num, rfl, by simp [hacc], by omega, by omega, by have := hf.out; rw [hd.out, missedOf, if_pos (by simpa using c1)] at this; simpa [Hid] using this, hown1, Later.of⟩
        case measure => simp [intOf]; omega
    · go_wp2_with (first | ((with_reducible refine wp_region_later (by kernel_rfl) (by kernel_rfl) ?_); (repeat (first | go_big_quiet_step (first | fail))); refine wpQuiet_nil ?_; rintro _ ⟨x, rfl⟩))
      go_ret
      have h9 := hf.out
      rw [List.drop_of_length_le (by omega), missedOf, List.append_nil] at h9
      subst h9
      exact ⟨sa, sc, by rw [hacc]; rfl, hown, Later.of⟩
end Go.Proofs.Ytonclekalgaojaa
