/- FnExactPlanOk: whatever the arguments, the program's function and the reference's return the same, and the arguments read as they did. No condition. -/
import Derived.Test.YtonclekalgaojaaLaws7
import Derived.Test.YtonclekalgaojaaFrame
namespace Go.Proofs.Ytonclekalgaojaa
set_option linter.unusedVariables false
open Go.ChangeShapes Go.WideShapes Go.ChangeAt Go.RowKit
set_option maxRecDepth 100000 in
theorem FnExactPlanOk_lifted (os : Os) (started : os.Started) (H : Type) (enc : TypeId × Value → H) :
    ReturnsInHanded {} Try.checked os 14 .any (Rows.fnExactPlanOkSpec.pre6 enc Try.prog Try.f14 Rows.fnExactPlanOkRow.domain false) (Rows.fnExactPlanOkSpec.post enc Try.prog Try.f14 false true false false) := by
  refine returnsInHanded_of_change (C := Try.checked) own started (by kernel_rfl) Try.func14
    (ChangeSpec.witness6 (enc := enc) (C := Try.checked) false ⟨#[], #[.agg #[.int .i64 0, .int .i64 0, .int .i64 0], .slice none 0 0, .slice none 0 0], []⟩ 8 (by kernel_rfl) (by kernel_rfl) (by kernel_rfl) (by kernel_rfl)) ?_
  intro W base args ds gs before hval0 hW hcnd _
  have hval : ∀ (j : Nat) t v, Try.f14.params[j]? = some t → args[j]? = some v → Value.okWide Try.prog W .any base t v := hval0
  have hW' := hW
  obtain ⟨p, q, hA0, hV, rfl, hfz, hnd⟩ := hW
  have hA : DataW.TrodAll enc Try.prog W 0 (fun _ => true) true Try.f14.params.toList args.toList ds p := hA0
  rw [Try.params14] at hA hval
  obtain ⟨rfl, rfl⟩ := trodVars_none hV
  obtain ⟨v0, vs0, d0, ds0, p0, q0, hargs, rfl, rfl, h0, r0⟩ := trodAll_cons hA
  obtain ⟨v1, vs1, d1, ds1, p1, q1, rfl, rfl, rfl, h1, r1⟩ := trodAll_cons r0
  obtain ⟨v2, vs2, d2, ds2, p2, q2, rfl, rfl, rfl, h2, r2⟩ := trodAll_cons r1
  obtain ⟨rfl, rfl, rfl⟩ := trodAll_nil r2
  obtain rfl : args = #[v0, v1, v2] := by cases args; simp_all
  obtain ⟨c0_0, c0_1, c0_2, y0_0, y0_1, y0_2, m0, rfl, rfl, rfl, hy0_0, hy0_1, hy0_2⟩ := Joins.open_agg3 Try.underlying79 (by kernel_rfl) (by kernel_rfl) (hval 0 79 v0 rfl rfl) h0
  obtain ⟨b0_0, e0_0, z0_0, w0_0⟩ := DataW.trod_int Try.underlying3 hy0_0
  simp only [List.cons.injEq, and_true] at e0_0; subst e0_0
  obtain ⟨b0_1, e0_1, z0_1, w0_1⟩ := DataW.trod_int Try.underlying3 hy0_1
  simp only [List.cons.injEq, and_true] at e0_1; subst e0_1
  obtain ⟨b0_2, e0_2, z0_2, w0_2⟩ := DataW.trod_int Try.underlying3 hy0_2
  simp only [List.cons.injEq, and_true] at e0_2; subst e0_2
  obtain ⟨xa1, xn1, xc1, rfl⟩ := okWide_slice Try.underlying22 (hval 1 22 v1 rfl rfl)
  obtain ⟨f1, t1⟩ := h1
  obtain ⟨-, rd1⟩ := codes_sound 4 _ _ _ _ _ (show codes Try.prog 4 22 = some [.sl [.int, .int, .int, .int]] by kernel_rfl) t1
  obtain ⟨u1, g1, rc1⟩ := rd1.at (j := 0) rfl
  obtain rfl : Value.slice xa1 xn1 xc1 = u1 := by simpa [Value.cells] using g1
  obtain ⟨a1, n1, k1, l1, e1, hn1, hc1, hm1, ok1, sl1⟩ := open_sl (fun cs => flatRequest) rc1
  cases e1
  have hz1 : xn1 ≤ 9223372036854775807 := by unfold maxLen at hm1; omega
  obtain ⟨xa2, xn2, xc2, rfl⟩ := okWide_slice Try.underlying67 (hval 2 67 v2 rfl rfl)
  obtain ⟨f2, t2⟩ := h2
  obtain ⟨-, rd2⟩ := codes_sound 4 _ _ _ _ _ (show codes Try.prog 4 67 = some [.sl [.int, .int]] by kernel_rfl) t2
  obtain ⟨u2, g2, rc2⟩ := rd2.at (j := 0) rfl
  obtain rfl : Value.slice xa2 xn2 xc2 = u2 := by simpa [Value.cells] using g2
  obtain ⟨a2, n2, k2, l2, e2, hn2, hc2, hm2, ok2, sl2⟩ := open_sl (fun cs => flatSlot) rc2
  cases e2
  have hz2 : xn2 ≤ 9223372036854775807 := by unfold maxLen at hm2; omega
  clear hA0 hval0
  refine (Gives.below (c_lFnExactPlanOk sl1 hn1 hz1 sl2 hn2 hz2)).mono fun e W' ⟨he, hb⟩ => ?_
  subst he
  exact ⟨_, rfl, law_post laidOut (by kernel_rfl) rfl rfl rfl Try.underlying4 hW' hb⟩
/-- The statement. -/
theorem FnExactPlanOk_holds : Rows.FnExactPlanOkSaid :=
  OpenClaim.holds_of_wide 14 Try.f14 rfl rfl rfl rfl rfl rfl rfl ⟨rfl, rfl, rfl, rfl, rfl⟩ rfl rfl rfl rfl rfl (by kernel_rfl) Try.func14 (by kernel_rfl)
    (of_decide_eq_true (by kernel_rfl)) (by unfold Func.isWrapper; first | (rw [if_pos (by decide +kernel)]; kernel_rfl) | (rw [if_neg (by decide +kernel)]; exact ⟨rfl, rfl⟩))
    (fun os started H enc _ => FnExactPlanOk_lifted os started H enc)

end Go.Proofs.Ytonclekalgaojaa
