/- Words for walks: 'Later W' is a world that has grown out of W (below W's size nothing has turned); a contract that gives one value and a later world. No condition. -/
import Derived.Test.YtjffbpdippbfkaaRows
import Derived.WalkKit
import Derived.ProofKit
import Derived.OpenShut
import Derived.WalkLawsBesides
import Derived.WalkSpells
import Derived.Outline
import Derived.Deep.QuietTactic
import Derived.BigQuiet
import Derived.Lib.Hide
namespace Go.Proofs.Ytjffbpdippbfkaa
set_option linter.unusedVariables false
open Go.ChangeShapes Go.WideShapes Go.ChangeAt Go.RowKit

/-- A world that has grown out of W. -/
structure Later (W : World) where
  w : World
  h : Below W.heap.size W w

namespace Later
variable {W : World}
def here (W : World) : Later W := ⟨W, Below.refl _ _⟩
instance : Nonempty (Later W) := ⟨here W⟩
def draw (x : Later W) : Later W := ⟨x.w.drew, x.h.drew⟩
def andThen (x : Later W) (y : Later x.w) : Later W := ⟨y.w, x.h.trans (y.h.mono x.h.size)⟩
theorem below_set {B : Nat} {w w' : World} (h : Below B w w') (a : Addr) (v : Value) : Below B (w.setCell a v) (w'.setCell a v) := by
  refine ⟨h.os, h.tape, h.output, by simpa [World.setCell] using h.size, fun k hk => ?_⟩
  have := h.block k hk
  simp only [World.setCell, Array.getElem?_modify, this]
def set (x : Later W) (a : Addr) (v : Value) : Later (W.setCell a v) := ⟨x.w.setCell a v, by
  have := below_set x.h a v
  rwa [show (W.setCell a v).heap.size = W.heap.size from by simp]⟩
@[go_sem] theorem drew_eq (x : Later W) : x.w.drew = x.draw.w := rfl
@[go_sem] theorem andThen_eq (x : Later W) (y : Later x.w) : y.w = (x.andThen y).w := rfl
@[go_sem] theorem setCell_eq (x : Later W) (a : Addr) (v : Value) : x.w.setCell a v = (x.set a v).w := rfl
theorem size_le (x : Later W) : W.heap.size ≤ x.w.heap.size := x.h.size
end Later

/-! ### Facts that are found by their form: by instances, not by simp's own side goals (which go two deep alone) -/
class LeN (a b : Nat) : Prop where
  out : a ≤ b
class LtN (a b : Nat) : Prop where
  out : a < b
instance (priority := 50) LeN.ofLt (a b : Nat) [h : LtN a b] : LeN a b := ⟨Nat.le_of_lt h.out⟩
instance LeN.same (a : Nat) : LeN a a := ⟨Nat.le_refl _⟩
instance LeN.succ (a b : Nat) [h : LeN a b] : LeN a (b + 1) := ⟨Nat.le_succ_of_le h.out⟩
instance LeN.later (a : Nat) {W : World} (x : Later W) [h : LeN a W.heap.size] : LeN a x.w.heap.size := ⟨Nat.le_trans h.out x.size_le⟩
instance LeN.alloc (a : Nat) (W : World) (o : Obj) [h : LeN a W.heap.size] : LeN a (W.alloc o).heap.size := ⟨by have := h.out; simp; omega⟩
instance LeN.setCell (a : Nat) (W : World) (p : Addr) (v : Value) [h : LeN a W.heap.size] : LeN a (W.setCell p v).heap.size := ⟨by simpa using h.out⟩
instance (priority := 900) LeN.andThen (a : Nat) {W : World} (x : Later W) (y : Later x.w) [h : LeN a x.w.heap.size] : LeN a (x.andThen y).w.heap.size := ⟨Nat.le_trans h.out y.size_le⟩
instance LeN.allocS (a : Nat) (W : World) (o : Obj) [h : LeN a W.heap.size] : LeN (a + 1) (W.alloc o).heap.size := ⟨by have := h.out; simp; omega⟩
instance LeN.succS (a b : Nat) [h : LeN a b] : LeN (a + 1) (b + 1) := ⟨Nat.succ_le_succ h.out⟩
instance LtN.allocS (a : Nat) (W : World) (o : Obj) [h : LtN a W.heap.size] : LtN (a + 1) (W.alloc o).heap.size := ⟨by have := h.out; simp; omega⟩
instance LtN.succS (a b : Nat) [h : LtN a b] : LtN (a + 1) (b + 1) := ⟨Nat.succ_lt_succ h.out⟩
instance LtN.succ (a b : Nat) [h : LeN a b] : LtN a (b + 1) := ⟨Nat.lt_succ_of_le h.out⟩
instance LtN.later (a : Nat) {W : World} (x : Later W) [h : LtN a W.heap.size] : LtN a x.w.heap.size := ⟨Nat.lt_of_lt_of_le h.out x.size_le⟩
instance LtN.alloc (a : Nat) (W : World) (o : Obj) [h : LeN a W.heap.size] : LtN a (W.alloc o).heap.size := ⟨by have := h.out; simp; omega⟩
instance LtN.setCell (a : Nat) (W : World) (p : Addr) (v : Value) [h : LtN a W.heap.size] : LtN a (W.setCell p v).heap.size := ⟨by simpa using h.out⟩
instance (priority := 900) LtN.andThen (a : Nat) {W : World} (x : Later W) (y : Later x.w) [h : LtN a x.w.heap.size] : LtN a (x.andThen y).w.heap.size := ⟨Nat.lt_of_lt_of_le h.out y.size_le⟩
instance (priority := 800) LtN.andThen2 (a : Nat) {W : World} (x : Later W) (y : Later x.w) [h : LtN a y.w.heap.size] : LtN a (x.andThen y).w.heap.size := h
instance (priority := 800) LeN.andThen2 (a : Nat) {W : World} (x : Later W) (y : Later x.w) [h : LeN a y.w.heap.size] : LeN a (x.andThen y).w.heap.size := h

namespace Later
variable {W : World}
@[go_sem] theorem cell_eq (x : Later W) (b o : Nat) [h : LtN b W.heap.size] : x.w.cell? ⟨b, o, none⟩ = W.cell? ⟨b, o, none⟩ := x.h.cell (p := ⟨b, o, none⟩) h.out
@[go_sem] theorem frozen_eq (x : Later W) (b o : Nat) [h : LtN b W.heap.size] : x.w.frozen? ⟨b, o, none⟩ = W.frozen? ⟨b, o, none⟩ := x.h.frozen (p := ⟨b, o, none⟩) h.out
@[go_sem] theorem cell_past (w : World) (o : Obj) (n i : Nat) [h : LtN n w.heap.size] : (w.alloc o).cell? ⟨n, i, none⟩ = w.cell? ⟨n, i, none⟩ := World.cell?_alloc_past o n i h.out
@[go_sem] theorem frozen_past (w : World) (o : Obj) (n i : Nat) [h : LtN n w.heap.size] : (w.alloc o).frozen? ⟨n, i, none⟩ = w.frozen? ⟨n, i, none⟩ := World.frozen?_alloc_past o n i h.out
@[go_sem] theorem set_past (w : World) (o : Obj) (n i : Nat) (v : Value) [h : LtN n w.heap.size] : (w.alloc o).setCell ⟨n, i, none⟩ v = (w.setCell ⟨n, i, none⟩ v).alloc o := World.setCell_alloc_past o n i v h.out
@[go_sem] theorem lt_size (x : Later W) (b : Nat) [h : LtN b W.heap.size] : (b < x.w.heap.size) = True := eq_true (Nat.lt_of_lt_of_le h.out x.h.size)
@[go_sem] theorem le_size (x : Later W) (b : Nat) [h : LeN b W.heap.size] : (b ≤ x.w.heap.size) = True := eq_true (Nat.le_trans h.out x.h.size)
end Later

/-- W has grown out of w: found by its form. -/
class Grows (w W : World) : Prop where
  out : Below w.heap.size w W
instance Grows.same (w : World) : Grows w w := ⟨Below.refl _ _⟩
instance Grows.alloc (w W : World) (o : Obj) [h : Grows w W] : Grows w (W.alloc o) := ⟨h.out.alloc h.out.size o⟩
instance Grows.later (w W : World) [h : Grows w W] (x : Later W) : Grows w x.w := ⟨h.out.trans (x.h.mono h.out.size)⟩
instance Grows.drew (w W : World) [h : Grows w W] : Grows w W.drew := ⟨h.out.drew⟩
instance Grows.set (w W : World) (b i : Nat) (v : Value) [h : Grows w W] [k : LeN w.heap.size b] : Grows w (W.setCell ⟨b, i, none⟩ v) := ⟨h.out.setCell k.out v⟩
instance (priority := 900) Grows.andThen (a : World) {W : World} (x : Later W) (y : Later x.w) [h : Grows a x.w] : Grows a (x.andThen y).w := ⟨h.out.trans (y.h.mono h.out.size)⟩
instance (priority := 950) Grows.andThenSelf {W : World} (x : Later W) (y : Later x.w) : Grows y.w (x.andThen y).w := ⟨Below.refl _ _⟩
instance (priority := 50) LeN.grows (w W : World) [h : Grows w W] : LeN w.heap.size W.heap.size := ⟨h.out.size⟩
theorem Later.of {w W : World} [h : Grows w W] : ∃ x : Later w, W = x.w := ⟨⟨W, h.out⟩, rfl⟩
/-- A cell of a world, in every world that has grown out of it. -/
theorem cell_grown {w : World} {b o : Nat} {v : Value} (hb : b < w.heap.size) (h : w.cell? ⟨b, o, none⟩ = some v) (W : World) [g : Grows w W] : W.cell? ⟨b, o, none⟩ = some v := by
  rw [g.out.cell (p := ⟨b, o, none⟩) hb]; exact h

/-- One value, and a world that has grown. -/
def Gives (w : World) (v : Value) : Ending → World → Prop := fun e w' => e = .returned v ∧ ∃ x : Later w, w' = x.w

theorem Gives.mk {w : World} {v u : Value} {w' : World} (hv : u = v) [h : Grows w w'] : Gives w v (.returned u) w' := ⟨by rw [hv], ⟨w', h.out⟩, rfl⟩

theorem Gives.below {P : Program} {f : FuncId} {args : Array Value} {w : World} {v : Value} (h : Calls P f args w (Gives w v)) :
    Calls P f args w fun e w' => e = .returned v ∧ Below w.heap.size w w' :=
  h.mono fun _ _ ⟨he, x, hx⟩ => ⟨he, by rw [hx]; exact x.h⟩

/-- A contract inside a region that draws its order. -/
theorem Gives.quiet {P : Program} {f : FuncId} {args : Array Value} {W : World} {x : Later W} {v : Value} (h : Calls P f args x.w (Gives x.w v)) :
    Calls P f args x.w fun e w' => e = .returned v ∧ ∃ y : Later W, w' = y.w :=
  h.mono fun _ _ ⟨he, y, hy⟩ => ⟨he, x.andThen y, hy⟩

/-- A region that draws its order and whose operations read, and call what gives one value: walked once, in the text's order. -/
theorem wp_region_later {P : Program} {id : Nat} {Q : Exit → Act → World → Prop} {a : Act} {W : World} {l : List Oper} (hm : P.follows .mixedOrders = true) (hB : Region.lexB .any l.toArray = true)
    (h : wpQuiet P l.toArray (fun w' => ∃ x : Later W, w' = x.w) (fun a' => ∀ w', (∃ x : Later W, w' = x.w) → Q .normal a' w') l a) : (Code.region id l.toArray true).wp P Q a W :=
  wp_region_quiet (C := fun w' => ∃ x : Later W, w' = x.w) hm hB ⟨⟨_, (Below.refl _ W).drew⟩, rfl⟩ (by simpa using h)
end Go.Proofs.Ytjffbpdippbfkaa
