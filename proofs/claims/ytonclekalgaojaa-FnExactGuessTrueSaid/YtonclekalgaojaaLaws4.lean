/- The walk of the law on GuessTrue. No condition but on lengths. -/
import Derived.Test.YtonclekalgaojaaGuess
namespace Go.Proofs.Ytonclekalgaojaa
set_option linter.unusedVariables false
open Go.ChangeShapes Go.WideShapes Go.ChangeAt Go.RowKit

theorem c_lFnExactGuessTrue {a : Option Addr} {n c : Nat} {l : List Pair} {t : Int} {w : World} (hs : Sl encPair w a l) (hn : l.length = n) (hm : n ≤ 9223372036854775807) :
    Calls Try.prog 7 #[.slice a n c, .int .i64 t] w (Gives w (.bool true)) := by
  have he := eqAll_self eqPair_self l
  by_cases h : 1048576 < n
  · go_enter Try.func7, Try.ntmps7
    go_wp2_with (first | ((with_reducible refine wp_region_later (by kernel_rfl) (by kernel_rfl) ?_); (repeat (first | go_big_quiet_step (first | (go_at_call 22; exact Gives.quiet (c_lszPairS (by omega) (by omega) (by omega)))))); refine wpQuiet_nil ?_; rintro _ ⟨x, rfl⟩) | (go_at_call 22; refine (c_lszPairS (by omega) (by omega) (by omega)).mono ?_; rintro _ _ ⟨rfl, x, rfl⟩))
    go_ret
    exact Gives.mk rfl
  · obtain ⟨v, b, hv⟩ : ∃ v b, guessTrue l t = .tuple #[.int .i64 v, .bool b] := by
      unfold guessTrue guessList; split
      · split <;> exact ⟨_, _, rfl⟩
      · exact ⟨_, _, rfl⟩
    go_enter Try.func7, Try.ntmps7
    go_wp2_with (first | ((with_reducible refine wp_region_later (by kernel_rfl) (by kernel_rfl) ?_); (repeat (first | go_big_quiet_step (first | (go_at_call 22; exact Gives.quiet (c_lszPairS (by omega) (by omega) (by omega))) | (go_at_call 24; fail) | (go_at_call 38; exact Gives.quiet (c_sGuessTrue (by first | assumption | (apply Sl.to <;> first | assumption | infer_instance) | omega) (by first | assumption | (apply Sl.to <;> first | assumption | infer_instance) | omega) (by first | assumption | (apply Sl.to <;> first | assumption | infer_instance) | omega))) | (go_at_call 39; exact Gives.quiet (c_iGuessTrue (by first | assumption | (apply Sl.to <;> first | assumption | infer_instance) | omega) (by first | assumption | (apply Sl.to <;> first | assumption | infer_instance) | omega) (by first | assumption | (apply Sl.to <;> first | assumption | infer_instance) | omega))) | (go_at_call 26; exact Gives.quiet (c_leqPairS (by first | assumption | (apply Sl.to <;> first | assumption | infer_instance) | omega) (by first | assumption | (apply Sl.to <;> first | assumption | infer_instance) | omega) (by first | assumption | (apply Sl.to <;> first | assumption | infer_instance) | omega) (by first | assumption | (apply Sl.to <;> first | assumption | infer_instance) | omega) (by first | assumption | (apply Sl.to <;> first | assumption | infer_instance) | omega) (by first | assumption | (apply Sl.to <;> first | assumption | infer_instance) | omega)))))); refine wpQuiet_nil ?_; rintro _ ⟨x, rfl⟩) | (go_at_call 22; refine (c_lszPairS (by omega) (by omega) (by omega)).mono ?_; rintro _ _ ⟨rfl, x, rfl⟩) | (go_at_call 24; refine (c_ltoPairS (by first | assumption | (apply Sl.to <;> first | assumption | infer_instance) | omega) (by first | assumption | (apply Sl.to <;> first | assumption | infer_instance) | omega) (by first | assumption | (apply Sl.to <;> first | assumption | infer_instance) | omega)).mono ?_; rintro _ _ ⟨a1, c1, rfl, hown, x, rfl⟩; have hsl := hown.sl) | (go_at_call 38; refine (c_sGuessTrue (by first | assumption | (apply Sl.to <;> first | assumption | infer_instance) | omega) (by first | assumption | (apply Sl.to <;> first | assumption | infer_instance) | omega) (by first | assumption | (apply Sl.to <;> first | assumption | infer_instance) | omega)).mono ?_; rintro _ _ ⟨rfl, x, rfl⟩) | (go_at_call 39; refine (c_iGuessTrue (by first | assumption | (apply Sl.to <;> first | assumption | infer_instance) | omega) (by first | assumption | (apply Sl.to <;> first | assumption | infer_instance) | omega) (by first | assumption | (apply Sl.to <;> first | assumption | infer_instance) | omega)).mono ?_; rintro _ _ ⟨rfl, x, rfl⟩) | (go_at_call 26; refine (c_leqPairS (by first | assumption | (apply Sl.to <;> first | assumption | infer_instance) | omega) (by first | assumption | (apply Sl.to <;> first | assumption | infer_instance) | omega) (by first | assumption | (apply Sl.to <;> first | assumption | infer_instance) | omega) (by first | assumption | (apply Sl.to <;> first | assumption | infer_instance) | omega) (by first | assumption | (apply Sl.to <;> first | assumption | infer_instance) | omega) (by first | assumption | (apply Sl.to <;> first | assumption | infer_instance) | omega)).mono ?_; rintro _ _ ⟨rfl, x, rfl⟩))
    go_ret
    exact Gives.mk rfl
end Go.Proofs.Ytonclekalgaojaa
