/- FnExactNewMission: whatever the arguments, the program's function and the reference's return the same mission and the same Boolean; the result shares no memory with the arguments, which read as they did. No condition. -/
import Derived.Test.YtbaffippdifbpaaGreatMM50
import Derived.Test.YtbaffippdifbpaaGreatMM0
namespace Go.Proofs.YtbaffippdifbpaaGreat
set_option linter.unusedVariables false
open Go.ChangeShapes Go.WideShapes Go.ChangeAt Go.RowKit
set_option maxRecDepth 100000 in
theorem FnExactNewMission_closed:joinedFacts Tryz.pinned.checked.prog 4 Tryz.f4 Rows.fnExactNewMissionSpec Rows.fnExactNewMissionRow=true:=by
 simp only[joinedFacts,Bool.and_eq_true]
 repeat' apply And.intro
 all_goals first|(with_reducible exact FnExactNewMission_inPlace)|(with_reducible exact FnExactNewMission_unfollowed)|(with_reducible exact FnExactNewMission_recurses)|(with_reducible exact FnExactNewMission_varsNamed)|(with_reducible exact laidOut)|kernel_rfl
theorem FnExactNewMission_holds:Rows.FnExactNewMissionSaid :=
 OpenClaim.holds_of_wide 4 Tryz.f4 rfl rfl rfl rfl rfl rfl rfl ⟨rfl,rfl,rfl,rfl,rfl⟩ rfl rfl rfl rfl rfl (by kernel_rfl) Tryz.func4 FnExactNewMission_closed
  (of_decide_eq_true (by kernel_rfl)) (by unfold Func.isWrapper;first|(rw[if_pos (by decide +kernel)];kernel_rfl)|(rw[if_neg (by decide +kernel)];exact⟨rfl,rfl⟩))
  (fun os started H enc _=>FnExactNewMission_lifted os started H enc)
end Go.Proofs.YtbaffippdifbpaaGreat
