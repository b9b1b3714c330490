/- FnExactClearSky: whatever the mission, the program's function and the reference's return the same mission; the result shares no memory with the argument, which reads as it did. No condition. -/
import Derived.Test.YtbaffippdifbpaaGreatVLawClearSky
import Derived.Test.YtbaffippdifbpaaGreatVM0
namespace Go.Proofs.YtbaffippdifbpaaGreat
set_option linter.unusedVariables false
open Go.ChangeShapes Go.WideShapes Go.ChangeAt Go.RowKit
set_option maxRecDepth 100000 in
theorem FnExactClearSky_lifted (os : Os) (started : os.Started) (H : Type) (enc : TypeId × Value → H) :
    ReturnsInHanded {} Tryz.checked os 5 .any (Rows.fnExactClearSkySpec.pre6 enc Tryz.prog Tryz.f5 Rows.fnExactClearSkyRow.domain false) (Rows.fnExactClearSkySpec.post enc Tryz.prog Tryz.f5 false true false false) := by
  refine returnsInHanded_of_change (C := Tryz.checked) own started (by kernel_rfl) Tryz.func5
    (ChangeSpec.witness6 (enc := enc) (C := Tryz.checked) false ⟨#[], #[.agg zMission.toArray], []⟩ 8 (by kernel_rfl) (by kernel_rfl) (by kernel_rfl) (by kernel_rfl)) ?_
  intro W base args ds gs before hval0 hW hcnd _
  have hval : ∀ (j : Nat) t v, Tryz.f5.params[j]? = some t → args[j]? = some v → Value.okWide Tryz.prog W .any base t v := hval0
  have hW' := hW
  obtain ⟨p, q, hA0, hV, rfl, hfz, hnd⟩ := hW
  have hA : DataW.TrodAll enc Tryz.prog W 0 (fun _ => true) true Tryz.f5.params.toList args.toList ds p := hA0
  rw [Tryz.params5] at hA hval
  obtain ⟨rfl, rfl⟩ := trodVars_none hV
  obtain ⟨v0, vs0, d0, ds0, p0, q0, hargs, rfl, rfl, h0, r0⟩ := trodAll_cons hA
  obtain ⟨rfl, rfl, rfl⟩ := trodAll_nil r0
  obtain rfl : args = #[v0] := by cases args; simp_all
  obtain ⟨cb0, rfl, hcz0⟩ := okWide_struct Tryz.underlying116 (hval 0 116 v0 rfl rfl)
  obtain ⟨ca0, rfl⟩ : ∃ ca : List Value, cb0 = ca.toArray := ⟨cb0.toList, by simp⟩
  obtain ⟨f0, t0⟩ := h0
  obtain ⟨hl0, rd0⟩ := codes_sound 10 _ _ _ _ _ (show codes Tryz.prog 10 116 = some [.int, .int, .int, .int, .int, .int, .int, .sl [.int, .int], .int, .int, .int, .int, .int, .int, .sl [.int, .str], .sl [.int, .str], .sl [.str], .int, .int, .sl [.int, .str], .int, .int, .bool, .bool, .int, .int, .bool, .str, .int, .sl [.int, .int], .sl [.int, .int, .int, .str], .sl [.int, .int, .int, .sl [.str]], .sl [.bool], .int, .bool, .bool, .int, .int, .sl [.int], .bool, .sl [.int, .int, .int], .sl [.int, .int, .int, .int, .int], .sl [.int, .int, .int], .int, .sl [.int, .int, .int, .str], .sl [.int], .int, .int, .sl [.int], .int, .int, .str, .sl [.int], .int, .sl [.str], .sl [.int, .str, .sl [.int], .bool], .int, .sl [.int, .int, .int, .str], .sl [.str], .sl [.str], .int] by kernel_rfl) t0
  obtain ⟨x0, hx0⟩ := ofTMission _ hl0 rd0
  clear hA0 hval0
  refine (Gives.below (c_lFnExactClearSky hx0)).mono fun e W' ⟨he, hb⟩ => ?_
  subst he
  exact ⟨_, rfl, law_post laidOut (by kernel_rfl) rfl rfl rfl Tryz.underlying4 hW' hb⟩
end Go.Proofs.YtbaffippdifbpaaGreat
