/- The program's DriftOk, OrbitOk, Visible, PassOf, BoardTime, VisibleCount, NextVisible and TicksDue return what the reference's return, for all arguments. No condition. -/
import Derived.Test.YtjhchiabifnjaaaNum2
namespace Go.Proofs.Ytjhchiabifnjaaa
set_option linter.unusedVariables false
open Go.ChangeShapes Go.WideShapes Go.ChangeAt Go.RowKit

theorem c_ltoDrift {r o : Int} {w : World} :
    Calls Try.prog 16 #[.agg #[.int .i64 r, .int .i64 o]] w (Gives w (.agg #[.int .i64 r, .int .i64 o])) := by
  go_enter Try.func16, Try.ntmps16
  go_wp2
  exact bodyPost_ret (v := .agg #[.int .i64 r, .int .i64 o]) (by simp [results, Try.results16, go_sem]) rfl (Gives.mk rfl)

theorem c_ltoOrbit {p s l : Int} {w : World} :
    Calls Try.prog 19 #[.agg #[.int .i64 p, .int .i64 s, .int .i64 l]] w (Gives w (.agg #[.int .i64 p, .int .i64 s, .int .i64 l])) := by
  go_enter Try.func19, Try.ntmps19
  go_wp2
  exact bodyPost_ret (v := .agg #[.int .i64 p, .int .i64 s, .int .i64 l]) (by simp [results, Try.results19, go_sem]) rfl (Gives.mk rfl)

theorem c_lFnExactDriftOk {r o : Int} {w : World} : Calls Try.prog 3 #[.agg #[.int .i64 r, .int .i64 o]] w (Gives w (.bool true)) := by
  go_enter Try.func3, Try.ntmps3
  go_wp2_with (first | ((with_reducible refine wp_region_later (by kernel_rfl) (by kernel_rfl) ?_); (repeat (first | go_big_quiet_step (first | (go_at_call 16; exact Gives.quiet c_ltoDrift) | (go_at_call 15; exact Gives.quiet c_sDriftOk) | (go_at_call 17; exact Gives.quiet c_iDriftOk)))); refine wpQuiet_nil ?_; rintro _ ⟨x, rfl⟩) | (go_at_call 16; refine (c_ltoDrift).mono ?_; rintro _ _ ⟨rfl, x, rfl⟩) | (go_at_call 15; refine (c_sDriftOk).mono ?_; rintro _ _ ⟨rfl, x, rfl⟩) | (go_at_call 17; refine (c_iDriftOk).mono ?_; rintro _ _ ⟨rfl, x, rfl⟩))
  go_ret
  exact Gives.mk rfl


theorem c_lFnExactOrbitOk {p s l : Int} {w : World} : Calls Try.prog 4 #[.agg #[.int .i64 p, .int .i64 s, .int .i64 l]] w (Gives w (.bool true)) := by
  go_enter Try.func4, Try.ntmps4
  go_wp2_with (first | ((with_reducible refine wp_region_later (by kernel_rfl) (by kernel_rfl) ?_); (repeat (first | go_big_quiet_step (first | (go_at_call 19; exact Gives.quiet c_ltoOrbit) | (go_at_call 18; exact Gives.quiet c_sOrbitOk) | (go_at_call 20; exact Gives.quiet c_iOrbitOk)))); refine wpQuiet_nil ?_; rintro _ ⟨x, rfl⟩) | (go_at_call 19; refine (c_ltoOrbit).mono ?_; rintro _ _ ⟨rfl, x, rfl⟩) | (go_at_call 18; refine (c_sOrbitOk).mono ?_; rintro _ _ ⟨rfl, x, rfl⟩) | (go_at_call 20; refine (c_iOrbitOk).mono ?_; rintro _ _ ⟨rfl, x, rfl⟩))
  go_ret
  exact Gives.mk rfl


theorem c_lFnExactVisible {p s l t : Int} {w : World} : Calls Try.prog 5 #[.agg #[.int .i64 p, .int .i64 s, .int .i64 l], .int .i64 t] w (Gives w (.bool true)) := by
  go_enter Try.func5, Try.ntmps5
  go_wp2_with (first | ((with_reducible refine wp_region_later (by kernel_rfl) (by kernel_rfl) ?_); (repeat (first | go_big_quiet_step (first | (go_at_call 19; exact Gives.quiet c_ltoOrbit) | (go_at_call 21; exact Gives.quiet c_sVisible) | (go_at_call 22; exact Gives.quiet c_iVisible)))); refine wpQuiet_nil ?_; rintro _ ⟨x, rfl⟩) | (go_at_call 19; refine (c_ltoOrbit).mono ?_; rintro _ _ ⟨rfl, x, rfl⟩) | (go_at_call 21; refine (c_sVisible).mono ?_; rintro _ _ ⟨rfl, x, rfl⟩) | (go_at_call 22; refine (c_iVisible).mono ?_; rintro _ _ ⟨rfl, x, rfl⟩))
  go_ret
  exact Gives.mk rfl


theorem c_lFnExactPassOf {p s l t : Int} {w : World} : Calls Try.prog 6 #[.agg #[.int .i64 p, .int .i64 s, .int .i64 l], .int .i64 t] w (Gives w (.bool true)) := by
  go_enter Try.func6, Try.ntmps6
  go_wp2_with (first | ((with_reducible refine wp_region_later (by kernel_rfl) (by kernel_rfl) ?_); (repeat (first | go_big_quiet_step (first | (go_at_call 19; exact Gives.quiet c_ltoOrbit) | (go_at_call 23; exact Gives.quiet c_sPassOf) | (go_at_call 24; exact Gives.quiet c_iPassOf)))); refine wpQuiet_nil ?_; rintro _ ⟨x, rfl⟩) | (go_at_call 19; refine (c_ltoOrbit).mono ?_; rintro _ _ ⟨rfl, x, rfl⟩) | (go_at_call 23; refine (c_sPassOf).mono ?_; rintro _ _ ⟨rfl, x, rfl⟩) | (go_at_call 24; refine (c_iPassOf).mono ?_; rintro _ _ ⟨rfl, x, rfl⟩))
  go_ret
  exact Gives.mk rfl


theorem c_lFnExactBoardTime {r o t : Int} {w : World} : Calls Try.prog 7 #[.agg #[.int .i64 r, .int .i64 o], .int .i64 t] w (Gives w (.bool true)) := by
  go_enter Try.func7, Try.ntmps7
  go_wp2_with (first | ((with_reducible refine wp_region_later (by kernel_rfl) (by kernel_rfl) ?_); (repeat (first | go_big_quiet_step (first | (go_at_call 16; exact Gives.quiet c_ltoDrift) | (go_at_call 25; exact Gives.quiet c_sBoardTime) | (go_at_call 26; exact Gives.quiet c_iBoardTime)))); refine wpQuiet_nil ?_; rintro _ ⟨x, rfl⟩) | (go_at_call 16; refine (c_ltoDrift).mono ?_; rintro _ _ ⟨rfl, x, rfl⟩) | (go_at_call 25; refine (c_sBoardTime).mono ?_; rintro _ _ ⟨rfl, x, rfl⟩) | (go_at_call 26; refine (c_iBoardTime).mono ?_; rintro _ _ ⟨rfl, x, rfl⟩))
  go_ret
  exact Gives.mk rfl


theorem c_lFnExactVisibleCount {p s l a b : Int} {w : World} : Calls Try.prog 8 #[.agg #[.int .i64 p, .int .i64 s, .int .i64 l], .int .i64 a, .int .i64 b] w (Gives w (.bool true)) := by
  go_enter Try.func8, Try.ntmps8
  go_wp2_with (first | ((with_reducible refine wp_region_later (by kernel_rfl) (by kernel_rfl) ?_); (repeat (first | go_big_quiet_step (first | (go_at_call 19; exact Gives.quiet c_ltoOrbit) | (go_at_call 27; exact Gives.quiet c_sVisibleCount) | (go_at_call 28; exact Gives.quiet c_iVisibleCount)))); refine wpQuiet_nil ?_; rintro _ ⟨x, rfl⟩) | (go_at_call 19; refine (c_ltoOrbit).mono ?_; rintro _ _ ⟨rfl, x, rfl⟩) | (go_at_call 27; refine (c_sVisibleCount).mono ?_; rintro _ _ ⟨rfl, x, rfl⟩) | (go_at_call 28; refine (c_iVisibleCount).mono ?_; rintro _ _ ⟨rfl, x, rfl⟩))
  go_ret
  exact Gives.mk rfl


theorem c_lFnExactNextVisible {p s l t : Int} {w : World} : Calls Try.prog 9 #[.agg #[.int .i64 p, .int .i64 s, .int .i64 l], .int .i64 t] w (Gives w (.bool true)) := by
  go_enter Try.func9, Try.ntmps9
  go_wp2_with (first | ((with_reducible refine wp_region_later (by kernel_rfl) (by kernel_rfl) ?_); (repeat (first | go_big_quiet_step (first | (go_at_call 19; exact Gives.quiet c_ltoOrbit) | (go_at_call 29; exact Gives.quiet c_sNextVisible) | (go_at_call 30; exact Gives.quiet c_iNextVisible)))); refine wpQuiet_nil ?_; rintro _ ⟨x, rfl⟩) | (go_at_call 19; refine (c_ltoOrbit).mono ?_; rintro _ _ ⟨rfl, x, rfl⟩) | (go_at_call 29; refine (c_sNextVisible).mono ?_; rintro _ _ ⟨rfl, x, rfl⟩) | (go_at_call 30; refine (c_iNextVisible).mono ?_; rintro _ _ ⟨rfl, x, rfl⟩))
  go_ret
  exact Gives.mk rfl


theorem c_lFnExactTicksDue {r o t : Int} {w : World} : Calls Try.prog 10 #[.agg #[.int .i64 r, .int .i64 o], .int .i64 t] w (Gives w (.bool true)) := by
  go_enter Try.func10, Try.ntmps10
  go_wp2_with (first | ((with_reducible refine wp_region_later (by kernel_rfl) (by kernel_rfl) ?_); (repeat (first | go_big_quiet_step (first | (go_at_call 16; exact Gives.quiet c_ltoDrift) | (go_at_call 31; exact Gives.quiet c_sTicksDue) | (go_at_call 32; exact Gives.quiet c_iTicksDue)))); refine wpQuiet_nil ?_; rintro _ ⟨x, rfl⟩) | (go_at_call 16; refine (c_ltoDrift).mono ?_; rintro _ _ ⟨rfl, x, rfl⟩) | (go_at_call 31; refine (c_sTicksDue).mono ?_; rintro _ _ ⟨rfl, x, rfl⟩) | (go_at_call 32; refine (c_iTicksDue).mono ?_; rintro _ _ ⟨rfl, x, rfl⟩))
  go_ret
  exact Gives.mk rfl

end Go.Proofs.Ytjhchiabifnjaaa
