/- Maps keyed by records in walks: steps, and what is kept; the reference's search in a list of records. No condition but on sizes. -/
import Derived.Test.YtdankjbkioepgaaGreatMapR
import Derived.Test.YtdankjbkioepgaaGreatTimL
import Derived.Maps.Own
namespace Go.Proofs.YtdankjbkioepgaaGreat
set_option linter.unusedVariables false
open Go.ChangeShapes Go.WideShapes Go.ChangeAt Go.RowKit

theorem addR_any (rs : List TRecord) (x y : TRecord) : (addR rs y).any (recEq x) = (rs.any (recEq x) || recEq x y) := by
  rw [addR]
  split
  · rename_i h
    cases hx : recEq x y
    · rw [Bool.or_false]
    · have := recEq_eq hx
      subst this
      rw [h]; rfl
  · rw [List.any_append]
    simp
theorem MapR.new (W : World) (b : Nat) (hb : W.heap.size = b) : MapR (W.alloc (.map #[] 0)) b [] := ⟨#[], 0, by subst hb; rw [blk_alloc W _ _ rfl], trivial⟩
@[go_sem] theorem run_makeMapR (w : World) : (Instr.makeMap 127 none).run Tryz.prog w = .ok (.map (some w.heap.size)) (w.alloc (.map #[] 0)) := by
  simp [Instr.makeMap, go_sem]
/-- A map's block is not a slice's. -/
theorem MapR.notOwn {α : Type} {enc : α → List Value} {T size B n : Nat} {w : World} {a : Option Addr} {c b : Nat} {l : List α} {rs : List TRecord} (hb : MapR w b rs) (h : Own enc T size B w a c l) : some b ≠ Value.ownBlock (.slice a n c) := by
  obtain ⟨es, clk, hb, -⟩ := hb
  obtain ⟨-, -, ⟨h1, -⟩ | ⟨g, cap, cur, hv, -, hh, -⟩⟩ := h
  · simp only [Value.slice.injEq] at h1; obtain ⟨rfl, -⟩ := h1; simp [Value.ownBlock]
  · simp only [Value.slice.injEq] at hv; obtain ⟨rfl, -⟩ := hv
    simp only [Value.ownBlock, ne_eq, Option.some.injEq]
    rintro rfl
    rw [hb] at hh
    simp at hh
theorem MapR.kept {α : Type} {enc : α → List Value} {T size B n : Nat} {w w' : World} {a : Option Addr} {c b : Nat} {l : List α} {rs : List TRecord} (hb : MapR w b rs) (h : Own enc T size B w a c l) (hg : w.grownBy w' (Value.ownBlock (.slice a n c))) : MapR w' b rs := by
  have hne := hb.notOwn (n := n) h
  have hl := hb.lt
  obtain ⟨es, clk, hb, he⟩ := hb
  exact ⟨es, clk, by rw [hg.block b hl hne]; exact hb, he⟩
theorem Own.mapped {α : Type} {enc : α → List Value} {T size B : Nat} {w w' : World} {a : Option Addr} {c b : Nat} {l : List α} {rs : List TRecord} (h : Own enc T size B w a c l) (hb : MapR w b rs) (hw : ∃ o, w' = { w with heap := w.heap.setIfInBounds b o }) : Own enc T size B w' a c l := by
  obtain ⟨o, rfl⟩ := hw
  refine ⟨h.1, h.2.kept (row := some b) ⟨rfl, rfl, rfl, by simp, fun k hk hr => ?_⟩ (.inr (fun e => hb.notOwn (n := l.length) h e.symm))⟩
  have : b ≠ k := fun e => hr (by rw [e])
  show (w.heap.setIfInBounds b o)[k]? = _
  rw [Array.getElem?_setIfInBounds_ne this]
theorem Later.mapped {W w w' : World} {b : Nat} (hw : ∃ o, w' = { w with heap := w.heap.setIfInBounds b o }) (g : Grows W w) (hb : W.heap.size ≤ b) : ∃ y : Later W, w' = y.w := by
  obtain ⟨o, rfl⟩ := hw
  refine ⟨⟨_, ?_⟩, rfl⟩
  have h := g.out
  refine ⟨h.os, h.tape, h.output, by simpa using h.size, fun k hk => ?_⟩
  show (w.heap.setIfInBounds b o)[k]? = _
  rw [Array.getElem?_setIfInBounds_ne (by omega)]
  exact h.block k hk
section
variable {ops : Array Oper} {rest : List Oper} {op : Oper} {a : Act} {w : World} {Q : Exit → Act → World → Prop}
theorem wpList_mapR (hgd : op.guard = none) (m k v : Operand) (ho : op.op = .mapUpdate 127 m k v) {b : Nat} {rs : List TRecord} {x : TRecord} (hm : a.eval m = .map (some b)) (hk : a.eval k = recV x) (hv : a.eval v = .bool true) (H : MapR w b rs)
    (h : ∀ w', MapR w' b (addR rs x) → (∃ o, w' = { w with heap := w.heap.setIfInBounds b o }) → wpList Tryz.prog ops Q rest (a.put op.dst undef) w') : wpList Tryz.prog ops Q (op :: rest) a w := by
  refine wpList_plain hgd fun K hK => ?_
  obtain ⟨w', hrun, r1, r2⟩ := run_updateR H x
  unfold Oper.wp
  simp [execOp, ho, hm, hk, hv, hrun, Result.andThen]
  exact hK _ _ (h w' r1 r2)
end
section
variable {ops : Array Oper} {C : World → Prop} {Q : Act → Prop} {o : Oper} {rest : List Oper} {a : Act}
theorem quiet_lookupR (hg : o.guard = none) (m k : Operand) (ho : o.op = .lookup 127 m k false) {b : Nat} {rs : List TRecord} {x : TRecord} (hm : a.eval m = .map (some b)) (hk : a.eval k = recV x) (hS : ∀ w, C w → MapR w b rs)
    (h : wpQuiet Tryz.prog ops C Q rest (a.put o.dst (.bool (rs.any (recEq x))))) : wpQuiet Tryz.prog ops C Q (o :: rest) a :=
  BigFrame.wpQuiet_want (by simp [Region.wanted, hg]) fun K hK => ⟨.bool (rs.any (recEq x)), fun w hw => by
    have hrun := run_lookupR (hS w hw) x
    unfold Oper.quietAt
    simp [execOp, ho, hm, hk, hrun, Result.andThen]
    exact ⟨rfl, rfl⟩, hK _ h⟩
theorem quiet_eqR (hg : o.guard = none) (p q : Operand) (t' : TypeId) (ho : o.op = .binOp .eql 124 p q t') {x y : TRecord} (hp : a.eval p = recV x) (hq : a.eval q = recV y)
    (h : wpQuiet Tryz.prog ops C Q rest (a.put o.dst (.bool (recEq x y)))) : wpQuiet Tryz.prog ops C Q (o :: rest) a :=
  BigFrame.wpQuiet_want (by simp [Region.wanted, hg]) fun K hK => ⟨.bool (recEq x y), fun w hw => by
    have hrun := run_recEq x y 9998 w
    have h1 : (eqGuard .eql 124 p q (recV x) (recV y)).run Tryz.prog w = .ok () w := run_eqGuard_agg w _ _ _ _ _ _ (by kernel_rfl)
    have h2 : (binOp .eql 124 (recV x) (recV y)).run Tryz.prog w = .ok (.bool (recEq x y)) w := by
      rw [recV, recV, run_eql_struct, ← recV, ← recV, hrun]; rfl
    unfold Oper.quietAt execOp
    simp only [ho, hp, hq, Sem.run_bind, h1, h2, Result.andThen_ok, Sem.run_pure]
    exact ⟨rfl, rfl⟩, hK _ h⟩
end

end Go.Proofs.YtdankjbkioepgaaGreat
