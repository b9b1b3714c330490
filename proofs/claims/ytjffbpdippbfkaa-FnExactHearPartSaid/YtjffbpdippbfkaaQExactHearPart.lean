/- FnExactHearPart: whatever the arguments, the program's function and the reference's return the same, in memory of their own, and the arguments read as they did. No condition. -/
import Derived.Test.YtjffbpdippbfkaaLawHP
import Derived.Test.YtjffbpdippbfkaaFrame
import Derived.ChangeMaps5
namespace Go.Proofs.Ytjffbpdippbfkaa
set_option linter.unusedVariables false
open Go.ChangeShapes Go.WideShapes Go.ChangeAt Go.RowKit
set_option maxRecDepth 100000 in
theorem FnExactHearPart_lifted (os : Os) (started : os.Started) (H : Type) (enc : TypeId × Value → H) :
    ReturnsInHanded {} Try.checked os 5 .any (Rows.fnExactHearPartSpec.pre6 enc Try.prog Try.f5 Rows.fnExactHearPartRow.domain false) (Rows.fnExactHearPartSpec.post enc Try.prog Try.f5 false true false false) := by
  refine returnsInHanded_of_change (C := Try.checked) own started (by kernel_rfl) Try.func5
    (ChangeSpec.witness6 (enc := enc) (C := Try.checked) false ⟨#[], #[.agg #[.int .i64 0, .int .i64 0, .int .i64 0, .slice none 0 0], .string ⟨#[]⟩], []⟩ 8 (by kernel_rfl) (by kernel_rfl) (by kernel_rfl) (by kernel_rfl)) ?_
  intro W base args ds gs before hval0 hW hcnd _
  have hval : ∀ (j : Nat) t v, Try.f5.params[j]? = some t → args[j]? = some v → Value.okWide Try.prog W .any base t v := hval0
  have hW' := hW
  obtain ⟨p, q, hA0, hV, rfl, hfz, hnd⟩ := hW
  have hA : DataW.TrodAll enc Try.prog W 0 (fun _ => true) true Try.f5.params.toList args.toList ds p := hA0
  rw [Try.params5] at hA hval
  obtain ⟨rfl, rfl⟩ := trodVars_none hV
  obtain ⟨v0, vs0, d0, ds0, p0, q0, hargs, rfl, rfl, h0, r0⟩ := trodAll_cons hA
  obtain ⟨v1, vs1, d1, ds1, p1, q1, rfl, rfl, rfl, h1, r1⟩ := trodAll_cons r0
  obtain ⟨rfl, rfl, rfl⟩ := trodAll_nil r1
  obtain rfl : args = #[v0, v1] := by cases args; simp_all
  obtain ⟨ca0, rfl, hcz0⟩ := okWide_struct Try.underlying54 (hval 0 54 v0 rfl rfl)
  obtain ⟨f0, t0⟩ := h0
  obtain ⟨hl0, rd0⟩ := codes_sound 6 _ _ _ _ _ (show codes Try.prog 6 54 = some [.int, .int, .int, .sl [.str]] by kernel_rfl) t0
  obtain ⟨u0_0, g0_0, r0_0⟩ := rd0.at (j := 0) rfl
  obtain ⟨x0_0, rfl, p0_0⟩ := r0_0.int_inv
  obtain ⟨u0_1, g0_1, r0_1⟩ := rd0.at (j := 1) rfl
  obtain ⟨x0_1, rfl, p0_1⟩ := r0_1.int_inv
  obtain ⟨u0_2, g0_2, r0_2⟩ := rd0.at (j := 2) rfl
  obtain ⟨x0_2, rfl, p0_2⟩ := r0_2.int_inv
  obtain ⟨u0_3, g0_3, r0_3⟩ := rd0.at (j := 3) rfl
  obtain ⟨a0_3, n0_3, k0_3, l0_3, rfl, hn0_3, hc0_3, hm0_3, ok0_3, sl0_3⟩ := open_sl (fun cs => flatStr) r0_3
  have hz0_3 : n0_3 ≤ 9223372036854775807 := by unfold maxLen at hm0_3; omega
  obtain rfl : ca0 = #[.int .i64 x0_0, .int .i64 x0_1, .int .i64 x0_2, .slice a0_3 n0_3 k0_3] := by
    refine Array.ext' (list_all hl0 ?_)
    intro j y hy
    match j, hy with
    | 0, hy => cases hy; exact g0_0
    | 1, hy => cases hy; exact g0_1
    | 2, hy => cases hy; exact g0_2
    | 3, hy => cases hy; exact g0_3
  obtain ⟨s1, rfl, rfl, rfl, w1⟩ := Go.ChangeMaps.open_string Try.underlying9 (hval 1 9 v1 rfl rfl) h1
  have hz1 : s1.size ≤ 9223372036854775807 := by unfold maxLen at w1; omega
  clear hA0 hval0
  refine (Gives.below (c_lFnExactHearPart sl0_3 hn0_3 hz0_3 (fun t ht => by have := ok0_3 t ht; unfold maxLen at this; omega) hz1)).mono fun e W' ⟨he, hb⟩ => ?_
  subst he
  exact ⟨_, rfl, law_post laidOut (by kernel_rfl) rfl rfl rfl Try.underlying4 hW' hb⟩
/-- The statement. -/
theorem FnExactHearPart_holds : Rows.FnExactHearPartSaid :=
  OpenClaim.holds_of_wide 5 Try.f5 rfl rfl rfl rfl rfl rfl rfl ⟨rfl, rfl, rfl, rfl, rfl⟩ rfl rfl rfl rfl rfl (by kernel_rfl) Try.func5 (by kernel_rfl)
    (of_decide_eq_true (by kernel_rfl)) (by unfold Func.isWrapper; first | (rw [if_pos (by decide +kernel)]; kernel_rfl) | (rw [if_neg (by decide +kernel)]; exact ⟨rfl, rfl⟩))
    (fun os started H enc _ => FnExactHearPart_lifted os started H enc)

end Go.Proofs.Ytjffbpdippbfkaa
