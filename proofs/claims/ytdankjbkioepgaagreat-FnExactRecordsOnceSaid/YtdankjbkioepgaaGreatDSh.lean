/- What the laws on missions share. No condition but on sizes. -/
import Derived.Test.YtdankjbkioepgaaGreatDM6
import Derived.Test.YtdankjbkioepgaaGreatDM7
import Derived.Test.YtdankjbkioepgaaGreatBox2
namespace Go.Proofs.YtdankjbkioepgaaGreat
set_option linter.unusedVariables false
open Go.ChangeShapes Go.WideShapes Go.ChangeAt Go.RowKit

theorem mbounds {m : TMission} (ht : Enc.tot m ≤ 1048576) : totL m.Took ≤ 1048576 ∧ totL m.Offered ≤ 1048576 ∧ Enc.tot m.Ground ≤ 1048576 ∧ Enc.tot m.Space ≤ 1048576 ∧ totL m.Plan ≤ 1048576 ∧ totL m.Ups ≤ 1048576 ∧ totL m.Downs ≤ 1048576 := by
  have h : totL m.Plan + totL m.Ups + totL m.Downs + Enc.tot m.Ground + Enc.tot m.Space + totL m.Offered + totL m.Took ≤ 1048576 := ht
  have h1 := totL_nonneg m.Plan; have h2 := totL_nonneg m.Ups; have h3 := totL_nonneg m.Downs; have h4 := Enc.tot_nonneg m.Ground; have h5 := Enc.tot_nonneg m.Space; have h6 := totL_nonneg m.Offered; have h7 := totL_nonneg m.Took
  omega
theorem one_mission {B : Nat} {w : World} {vs : List Value} {m : TMission} (h : Enc.Rd B w vs m) : vs.all (·.oneCell') = true := by
  obtain ⟨A, h, -⟩ := h
  rw [h]; rfl

end Go.Proofs.YtdankjbkioepgaaGreat
