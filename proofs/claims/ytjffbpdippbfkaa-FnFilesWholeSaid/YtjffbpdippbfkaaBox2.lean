/- Boxes known whole: a store, and all other blocks as they were. No condition. -/
import Derived.Test.YtjffbpdippbfkaaBox
import Derived.Deep.RegionHeld3
namespace Go.Proofs.Ytjffbpdippbfkaa
set_option linter.unusedVariables false
open Go.ChangeShapes Go.WideShapes Go.ChangeAt Go.RowKit

/-- All blocks but one are as they were. -/
structure But (b : Nat) (w w' : World) : Prop where
  size : w.heap.size ≤ w'.heap.size
  block : ∀ k, k ≠ b → k < w.heap.size → w'.heap[k]? = w.heap[k]?
theorem But.setCells {b : Nat} : ∀ (us : List Value) {a w : World} (o : Nat), But b a w → But b a (w.setCells b o us)
  | [], _, _, _, h => h
  | v :: r, _, w, o, h => But.setCells r (o + 1) ⟨by simpa using h.size, fun k h1 h2 => by
    rw [Below.heap_setCell _ _ _ _ (fun e => h1 (by simpa using e))]; exact h.block k h1 h2⟩
/-- What lies in blocks below one that alone is written. -/
theorem But.under {B b : Nat} {u w w' : World} (h : But b w w') (g : Keeps B u w) (hb : u.heap.size ≤ b) : Keeps B u w' := ⟨Nat.le_trans g.size h.size, fun k h1 h2 => by
  rw [h.block k (by omega) (Nat.lt_of_lt_of_le h2 g.size)]; exact g.block k h1 h2⟩
theorem But.above {b : Nat} {w w' : World} (h : But b w w') : Keeps (b + 1) w w' := ⟨h.size, fun k h1 h2 => h.block k (by omega) h2⟩
theorem Held.but {b c : Nat} {w w' : World} {cs : List Value} {T : TypeId} (h : Held w c cs T) (g : But b w w') (hne : c ≠ b) : Held w' c cs T := by
  unfold Held
  rw [g.block c hne h.lt]; exact h
section
variable {P : Program} {ops : Array Oper} {rest : List Oper} {op : Oper} {a : Act} {w : World} {Q : Exit → Act → World → Prop}
theorem stepStore2 (hgd : op.guard = none) (ty : TypeId) (x y : Operand) (ho : op.op = .store ty x y) (b o : Nat) (hx : a.eval x = .pointer (some ⟨b, o, none⟩)) {cs us cs2 : List Value} {T : TypeId} (H : Held w b cs T)
    (hv : (a.eval y).cells.toList = us) (hi : (P.info? ty).map (·.size) = some us.length) (h1 : us.all (·.oneCell') = true) (hl : o + us.length ≤ cs.length) (hcs : splice cs o us = cs2) {w0 : World} (g : Grows w0 w) (hb : w0.heap.size ≤ b)
    (h : ∀ z : Later w0, Held z.w b cs2 T → But b w z.w → wpList P ops Q rest (a.put op.dst undef) z.w) : wpList P ops Q (op :: rest) a w := by
  subst hcs
  refine wpList_plain hgd fun _ hK => ?_
  unfold Oper.wp execOp
  simp only [ho, hx, Instr.storeAt, Instr.sureAddr, Sem.run_bind, Sem.run_pure, Result.andThen_ok, run_storeVar_held hv (H.there hl) hi (fun u hu => List.all_eq_true.1 h1 u hu)]
  exact hK _ _ (h ⟨_, below_setCells hb us o g.out⟩ (H.setCells us o) (But.setCells us o ⟨Nat.le_refl _, fun _ _ _ => rfl⟩))
end
theorem splice_pre : ∀ (us pre post : List Value), us.length = post.length → splice (pre ++ post) pre.length us = pre ++ us
  | [], pre, post, h => by
    have : post = [] := List.length_eq_zero_iff.1 h.symm
    subst this; rfl
  | v :: r, pre, [], h => by simp at h
  | v :: r, pre, u :: post, h => by
    have := splice_pre r (pre ++ [v]) post (by simpa using h)
    rw [splice]
    rw [List.set_append_right _ _ (Nat.le_refl _), Nat.sub_self, List.set_cons_zero]
    simpa using this
theorem splice_all {cs us : List Value} (h : us.length = cs.length) : splice cs 0 us = us := splice_pre us [] cs h
end Go.Proofs.Ytjffbpdippbfkaa
