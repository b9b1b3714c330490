/- What the laws on missions share. No condition but on sizes. -/
import Derived.Test.YtbaffippdifbpaaGreatVDM6
import Derived.Test.YtbaffippdifbpaaGreatVDM7
import Derived.Test.YtbaffippdifbpaaGreatVM0
namespace Go.Proofs.YtbaffippdifbpaaGreat
set_option linter.unusedVariables false
open Go.ChangeShapes Go.WideShapes Go.ChangeAt Go.RowKit
theorem mbounds {m : TMission} {N : Int} (ht : Enc.tot m ≤ N) : totL m.Took ≤ N ∧ totL m.Offered ≤ N ∧ Enc.tot m.Ground ≤ N ∧ Enc.tot m.Space ≤ N ∧ totL m.Plan ≤ N ∧ totL m.Ups ≤ N ∧ totL m.Downs ≤ N := by
  have h : totL m.Plan + totL m.Ups + totL m.Downs + Enc.tot m.Ground + Enc.tot m.Space + totL m.Offered + totL m.Took ≤ N := ht
  have h1 := totL_nonneg m.Plan; have h2 := totL_nonneg m.Ups; have h3 := totL_nonneg m.Downs; have h4 := Enc.tot_nonneg m.Ground; have h5 := Enc.tot_nonneg m.Space; have h6 := totL_nonneg m.Offered; have h7 := totL_nonneg m.Took
  omega
theorem one_mission {B : Nat} {w : World} {vs : List Value} {m : TMission} (h : Enc.Rd B w vs m) : vs.all (·.oneCell') = true := by
  obtain ⟨A, h, -⟩ := h
  rw [h]; rfl
end Go.Proofs.YtbaffippdifbpaaGreat
