/- Boxes known whole: loads and stores of many cells, by one step each. No condition. -/
import Derived.Test.YtjffbpdippbfkaaDeep
import Derived.Deep.MidRow
namespace Go.Proofs.Ytjffbpdippbfkaa
set_option linter.unusedVariables false
open Go.ChangeShapes Go.WideShapes Go.ChangeAt Go.RowKit

def splice : List Value → Nat → List Value → List Value
  | cs, _, [] => cs
  | cs, o, v :: r => splice (cs.set o v) (o + 1) r
theorem Held.setCells {b : Nat} {T : TypeId} : ∀ (us : List Value) {w : World} {cs : List Value} (o : Nat), Held w b cs T → Held (w.setCells b o us) b (splice cs o us) T
  | [], _, _, _, h => h
  | v :: r, _, _, o, h => (h.set o v).setCells r (o + 1)
theorem Keeps.setCells {B b : Nat} (hb : b < B) : ∀ (us : List Value) {a w : World} (o : Nat), Keeps B a w → Keeps B a (w.setCells b o us)
  | [], _, _, _, h => h
  | v :: r, _, _, o, h => Keeps.setCells hb r (o + 1) (h.set' b o v hb)
theorem below_setCells {B b : Nat} (hb : B ≤ b) : ∀ (us : List Value) {a w : World} (o : Nat), Below B a w → Below B a (w.setCells b o us)
  | [], _, _, _, h => h
  | v :: r, _, _, o, h => below_setCells hb r (o + 1) (h.setCell hb v)
theorem Held.range {w : World} {b : Nat} {cs row : List Value} {T : TypeId} (h : Held w b cs T) {o n : Nat} (hr : (cs.drop o).take n = row) : w.rangeAt b o row := fun j v hv => by
  rw [h.cell, ← hv, ← hr]
  have hj : j < n := by
    have := (List.getElem?_eq_some_iff.1 hv).1
    rw [← hr] at this
    simp at this; omega
  rw [List.getElem?_take_of_lt hj, List.getElem?_drop]
theorem Held.there {w : World} {b : Nat} {cs : List Value} {T : TypeId} (h : Held w b cs T) {o n : Nat} (hn : o + n ≤ cs.length) : w.there b o n := fun j hj => by
  rw [h.cell, h.free, List.getElem?_eq_getElem (by omega)]
  exact ⟨rfl, rfl⟩
section
variable {P : Program} {ops : Array Oper} {rest : List Oper} {op : Oper} {a : Act} {w : World} {Q : Exit → Act → World → Prop}
theorem run_storeVar_held {b o ty : Nat} {v : Value} {us : List Value} (hv : v.cells.toList = us) (ht : w.there b o us.length) (hi : (P.info? ty).map (·.size) = some us.length) (h1 : ∀ u ∈ us, u.oneCell' = true) :
    (storeVar ty ⟨b, o, none⟩ v).run P w = .ok () (w.setCells b o us) := by
  have := run_storeCells_cells (P := P) b o us 0 w (fun j hj => by simpa using (ht j hj).1) (fun j hj => by simpa using (ht j hj).2) h1
  have hvs : v.cells.size = us.length := by rw [← hv, Array.length_toList]
  cases hq : P.info? ty with
  | none => simp [hq] at hi
  | some i =>
    have hs : us.length = i.size := by simp [hq] at hi; omega
    simp only [Nat.add_zero] at this
    simp [storeVar, sizeOf, typeInfo, hq, hvs, hs, hv, this]
/-- A store into a box known whole; the world behind it is given a name. -/
theorem stepStore (hgd : op.guard = none) (ty : TypeId) (x y : Operand) (ho : op.op = .store ty x y) (b o : Nat) (hx : a.eval x = .pointer (some ⟨b, o, none⟩)) {cs us cs2 : List Value} {T : TypeId} (H : Held w b cs T)
    (hv : (a.eval y).cells.toList = us) (hi : (P.info? ty).map (·.size) = some us.length) (h1 : us.all (·.oneCell') = true) (hl : o + us.length ≤ cs.length) (hcs : splice cs o us = cs2) {w0 : World} (g : Grows w0 w) (hb : w0.heap.size ≤ b)
    (h : ∀ z : Later w0, Held z.w b cs2 T → Keeps (b + 1) w z.w → wpList P ops Q rest (a.put op.dst undef) z.w) : wpList P ops Q (op :: rest) a w := by
  subst hcs
  refine wpList_plain hgd fun _ hK => ?_
  unfold Oper.wp execOp
  simp only [ho, hx, Instr.storeAt, Instr.sureAddr, Sem.run_bind, Sem.run_pure, Result.andThen_ok, run_storeVar_held hv (H.there hl) hi (fun u hu => List.all_eq_true.1 h1 u hu)]
  exact hK _ _ (h ⟨_, below_setCells hb us o g.out⟩ (H.setCells us o) (Keeps.setCells (by omega) us o (Keeps.same _ _)))
/-- A load of many cells out of a box known whole. -/
theorem stepLoad (hgd : op.guard = none) (ty : TypeId) (x : Operand) (ho : op.op = .load ty x) (b o : Nat) (hx : a.eval x = .pointer (some ⟨b, o, none⟩)) {cs row : List Value} {T : TypeId} (H : Held w b cs T)
    (d : TypeDesc) (hu : P.underlying ty = some d) (hd : d.isRow = true) (hi : (P.info? ty).map (·.size) = some row.length) (hr : (cs.drop o).take row.length = row)
    (h : wpList P ops Q rest (a.put op.dst (.agg row.toArray)) w) : wpList P ops Q (op :: rest) a w :=
  wpList_load_mid hgd ty x ho b o hx row d (H.range hr) hu hd hi h
theorem results_cell {fn : Func} {p t : Nat} (hf : fn.results = #[.cell p t]) {tmps : Array Value} {b : Nat} (hp : tmps.getD p undef = .pointer (some ⟨b, 0, none⟩)) {cs : List Value} {T : TypeId} (H : Held w b cs T)
    (d : TypeDesc) (hu : P.underlying t = some d) (hd : d.isRow = true) (hi : (P.info? t).map (·.size) = some cs.length) : (results fn tmps).run P w = .ok (.agg cs.toArray) w := by
  have := run_loadVar_mid w b 0 t cs d (H.range (o := 0) (n := cs.length) (by simp)) hu hd hi
  have hp2 : tmps[p]?.getD undef = .pointer (some ⟨b, 0, none⟩) := by rw [← hp]; simp [Array.getD_eq_getD_getElem?]
  simp [results, hf, hp2, asAddr, this]
end
end Go.Proofs.Ytjffbpdippbfkaa
