/- FnExactAddPair: whatever the arguments, the program's function and the reference's return the same, in memory of their own, and the arguments read as they did. No condition. -/
import Derived.Test.YtonclekalgaojaaLaws9
import Derived.Test.YtonclekalgaojaaFrame
namespace Go.Proofs.Ytonclekalgaojaa
set_option linter.unusedVariables false
open Go.ChangeShapes Go.WideShapes Go.ChangeAt Go.RowKit
set_option maxRecDepth 100000 in
theorem FnExactAddPair_lifted (os : Os) (started : os.Started) (H : Type) (enc : TypeId × Value → H) :
    ReturnsInHanded {} Try.checked os 9 .any (Rows.fnExactAddPairSpec.pre6 enc Try.prog Try.f9 Rows.fnExactAddPairRow.domain false) (Rows.fnExactAddPairSpec.post enc Try.prog Try.f9 false true false false) := by
  refine returnsInHanded_of_change (C := Try.checked) own started (by kernel_rfl) Try.func9
    (ChangeSpec.witness6 (enc := enc) (C := Try.checked) false ⟨#[], #[.slice none 0 0, .agg #[.int .i64 0, .int .i64 0]], []⟩ 8 (by kernel_rfl) (by kernel_rfl) (by kernel_rfl) (by kernel_rfl)) ?_
  intro W base args ds gs before hval0 hW hcnd _
  have hval : ∀ (j : Nat) t v, Try.f9.params[j]? = some t → args[j]? = some v → Value.okWide Try.prog W .any base t v := hval0
  have hW' := hW
  obtain ⟨p, q, hA0, hV, rfl, hfz, hnd⟩ := hW
  have hA : DataW.TrodAll enc Try.prog W 0 (fun _ => true) true Try.f9.params.toList args.toList ds p := hA0
  rw [Try.params9] at hA hval
  obtain ⟨rfl, rfl⟩ := trodVars_none hV
  obtain ⟨v0, vs0, d0, ds0, p0, q0, hargs, rfl, rfl, h0, r0⟩ := trodAll_cons hA
  obtain ⟨v1, vs1, d1, ds1, p1, q1, rfl, rfl, rfl, h1, r1⟩ := trodAll_cons r0
  obtain ⟨rfl, rfl, rfl⟩ := trodAll_nil r1
  obtain rfl : args = #[v0, v1] := by cases args; simp_all
  obtain ⟨xa0, xn0, xc0, rfl⟩ := okWide_slice Try.underlying29 (hval 0 29 v0 rfl rfl)
  obtain ⟨f0, t0⟩ := h0
  obtain ⟨-, rd0⟩ := codes_sound 4 _ _ _ _ _ (show codes Try.prog 4 29 = some [.sl [.int, .int]] by kernel_rfl) t0
  obtain ⟨u0, g0, rc0⟩ := rd0.at (j := 0) rfl
  obtain rfl : Value.slice xa0 xn0 xc0 = u0 := by simpa [Value.cells] using g0
  obtain ⟨a0, n0, k0, l0, e0, hn0, hc0, hm0, ok0, sl0⟩ := open_sl (fun cs => flatPair) rc0
  cases e0
  have hz0 : xn0 ≤ 9223372036854775807 := by unfold maxLen at hm0; omega
  obtain ⟨c1_0, c1_1, y1_0, y1_1, m1, rfl, rfl, rfl, hy1_0, hy1_1⟩ := Joins.open_agg2 Try.underlying56 (by kernel_rfl) (by kernel_rfl) (hval 1 56 v1 rfl rfl) h1
  obtain ⟨b1_0, e1_0, z1_0, w1_0⟩ := DataW.trod_int Try.underlying3 hy1_0
  simp only [List.cons.injEq, and_true] at e1_0; subst e1_0
  obtain ⟨b1_1, e1_1, z1_1, w1_1⟩ := DataW.trod_int Try.underlying3 hy1_1
  simp only [List.cons.injEq, and_true] at e1_1; subst e1_1
  clear hA0 hval0
  refine (Gives.below (c_lFnExactAddPair sl0 hn0 hz0)).mono fun e W' ⟨he, hb⟩ => ?_
  subst he
  exact ⟨_, rfl, law_post laidOut (by kernel_rfl) rfl rfl rfl Try.underlying4 hW' hb⟩
/-- The statement. -/
theorem FnExactAddPair_holds : Rows.FnExactAddPairSaid :=
  OpenClaim.holds_of_wide 9 Try.f9 rfl rfl rfl rfl rfl rfl rfl ⟨rfl, rfl, rfl, rfl, rfl⟩ rfl rfl rfl rfl rfl (by kernel_rfl) Try.func9 (by kernel_rfl)
    (of_decide_eq_true (by kernel_rfl)) (by unfold Func.isWrapper; first | (rw [if_pos (by decide +kernel)]; kernel_rfl) | (rw [if_neg (by decide +kernel)]; exact ⟨rfl, rfl⟩))
    (fun os started H enc _ => FnExactAddPair_lifted os started H enc)

end Go.Proofs.Ytonclekalgaojaa
