/- FnExactNextPart: whatever the argument, the program's function and the reference's return the same, in memory of their own, and the argument reads as it did. No condition. -/
import Derived.Test.YtjffbpdippbfkaaLawNP
import Derived.Test.YtjffbpdippbfkaaFrame
namespace Go.Proofs.Ytjffbpdippbfkaa
set_option linter.unusedVariables false
open Go.ChangeShapes Go.WideShapes Go.ChangeAt Go.RowKit
set_option maxRecDepth 100000 in
theorem FnExactNextPart_lifted (os : Os) (started : os.Started) (H : Type) (enc : TypeId × Value → H) :
    ReturnsInHanded {} Try.checked os 6 .any (Rows.fnExactNextPartSpec.pre6 enc Try.prog Try.f6 Rows.fnExactNextPartRow.domain false) (Rows.fnExactNextPartSpec.post enc Try.prog Try.f6 false true false false) := by
  refine returnsInHanded_of_change (C := Try.checked) own started (by kernel_rfl) Try.func6
    (ChangeSpec.witness6 (enc := enc) (C := Try.checked) false ⟨#[], #[.agg #[.int .i64 0, .string ⟨#[]⟩, .slice none 0 0, .bool false]], []⟩ 8 (by kernel_rfl) (by kernel_rfl) (by kernel_rfl) (by kernel_rfl)) ?_
  intro W base args ds gs before hval0 hW hcnd _
  have hval : ∀ (j : Nat) t v, Try.f6.params[j]? = some t → args[j]? = some v → Value.okWide Try.prog W .any base t v := hval0
  have hW' := hW
  obtain ⟨p, q, hA0, hV, rfl, hfz, hnd⟩ := hW
  have hA : DataW.TrodAll enc Try.prog W 0 (fun _ => true) true Try.f6.params.toList args.toList ds p := hA0
  rw [Try.params6] at hA hval
  obtain ⟨rfl, rfl⟩ := trodVars_none hV
  obtain ⟨v0, vs0, d0, ds0, p0, q0, hargs, rfl, rfl, h0, r0⟩ := trodAll_cons hA
  obtain ⟨rfl, rfl, rfl⟩ := trodAll_nil r0
  obtain rfl : args = #[v0] := by cases args; simp_all
  obtain ⟨ca0, rfl, hcz0⟩ := okWide_struct Try.underlying45 (hval 0 45 v0 rfl rfl)
  obtain ⟨f0, t0⟩ := h0
  obtain ⟨hl0, rd0⟩ := codes_sound 6 _ _ _ _ _ (show codes Try.prog 6 45 = some [.int, .str, .sl [.int], .bool] by kernel_rfl) t0
  obtain ⟨u0_0, g0_0, r0_0⟩ := rd0.at (j := 0) rfl
  obtain ⟨x0_0, rfl, p0_0⟩ := r0_0.int_inv
  obtain ⟨u0_1, g0_1, r0_1⟩ := rd0.at (j := 1) rfl
  obtain ⟨x0_1, rfl, p0_1⟩ := r0_1.str_inv
  have q0_1 : x0_1.size ≤ 9223372036854775807 := by unfold maxLen at p0_1; omega
  obtain ⟨u0_2, g0_2, r0_2⟩ := rd0.at (j := 2) rfl
  obtain ⟨a0_2, n0_2, k0_2, l0_2, rfl, hn0_2, hc0_2, hm0_2, ok0_2, sl0_2⟩ := open_sl (fun cs => flatInt) r0_2
  have hz0_2 : n0_2 ≤ 9223372036854775807 := by unfold maxLen at hm0_2; omega
  obtain ⟨u0_3, g0_3, r0_3⟩ := rd0.at (j := 3) rfl
  obtain ⟨x0_3, rfl⟩ := r0_3.bool_inv
  obtain rfl : ca0 = #[.int .i64 x0_0, .string x0_1, .slice a0_2 n0_2 k0_2, .bool x0_3] := by
    refine Array.ext' (list_all hl0 ?_)
    intro j y hy
    match j, hy with
    | 0, hy => cases hy; exact g0_0
    | 1, hy => cases hy; exact g0_1
    | 2, hy => cases hy; exact g0_2
    | 3, hy => cases hy; exact g0_3
  clear hA0 hval0
  refine (Gives.below (c_lFnExactNextPart sl0_2 hn0_2 hz0_2 q0_1)).mono fun e W' ⟨he, hb⟩ => ?_
  subst he
  exact ⟨_, rfl, law_post laidOut (by kernel_rfl) rfl rfl rfl Try.underlying4 hW' hb⟩
/-- The statement. -/
theorem FnExactNextPart_holds : Rows.FnExactNextPartSaid :=
  OpenClaim.holds_of_wide 6 Try.f6 rfl rfl rfl rfl rfl rfl rfl ⟨rfl, rfl, rfl, rfl, rfl⟩ rfl rfl rfl rfl rfl (by kernel_rfl) Try.func6 (by kernel_rfl)
    (of_decide_eq_true (by kernel_rfl)) (by unfold Func.isWrapper; first | (rw [if_pos (by decide +kernel)]; kernel_rfl) | (rw [if_neg (by decide +kernel)]; exact ⟨rfl, rfl⟩))
    (fun os started H enc _ => FnExactNextPart_lifted os started H enc)

end Go.Proofs.Ytjffbpdippbfkaa
