/- The program's DriftOk, OrbitOk, Visible, PassOf, BoardTime, VisibleCount, NextVisible and TicksDue return what the reference's return, for all arguments. No condition. -/
import Derived.Test.YtonclekalgaojaaNum2
namespace Go.Proofs.Ytonclekalgaojaa
set_option linter.unusedVariables false
open Go.ChangeShapes Go.WideShapes Go.ChangeAt Go.RowKit

theorem c_ltoOrbit {p s l : Int} {w : World} :
    Calls Try.prog 61 #[.agg #[.int .i64 p, .int .i64 s, .int .i64 l]] w (Gives w (.agg #[.int .i64 p, .int .i64 s, .int .i64 l])) := by
  go_enter Try.func61, Try.ntmps61
  go_wp2
  exact bodyPost_ret (v := .agg #[.int .i64 p, .int .i64 s, .int .i64 l]) (by simp [results, Try.results61, go_sem]) rfl (Gives.mk rfl)

end Go.Proofs.Ytonclekalgaojaa
