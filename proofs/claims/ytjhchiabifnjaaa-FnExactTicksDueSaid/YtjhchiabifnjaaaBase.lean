/- Words for walks: 'Later W' is a world that has grown out of W (below W's size nothing has turned); a contract that gives one value and a later world. No condition. -/
import Derived.Test.YtjhchiabifnjaaaRows
import Derived.WalkKit
import Derived.ProofKit
import Derived.OpenShut
import Derived.WalkLawsBesides
import Derived.WalkSpells
import Derived.Outline
import Derived.Deep.QuietTactic
import Derived.BigQuiet
import Derived.Lib.Hide
namespace Go.Proofs.Ytjhchiabifnjaaa
set_option linter.unusedVariables false
open Go.ChangeShapes Go.WideShapes Go.ChangeAt Go.RowKit

/-- A world that has grown out of W. -/
structure Later (W : World) where
  w : World
  h : Below W.heap.size W w

namespace Later
variable {W : World}
def here (W : World) : Later W := ⟨W, Below.refl _ _⟩
instance : Nonempty (Later W) := ⟨here W⟩
def draw (x : Later W) : Later W := ⟨x.w.drew, x.h.drew⟩
def andThen (x : Later W) (y : Later x.w) : Later W := ⟨y.w, x.h.trans (y.h.mono x.h.size)⟩
theorem below_set {B : Nat} {w w' : World} (h : Below B w w') (a : Addr) (v : Value) : Below B (w.setCell a v) (w'.setCell a v) := by
  refine ⟨h.os, h.tape, h.output, by simpa [World.setCell] using h.size, fun k hk => ?_⟩
  have := h.block k hk
  simp only [World.setCell, Array.getElem?_modify, this]
def set (x : Later W) (a : Addr) (v : Value) : Later (W.setCell a v) := ⟨x.w.setCell a v, by
  have := below_set x.h a v
  rwa [show (W.setCell a v).heap.size = W.heap.size from by simp]⟩
@[go_sem] theorem drew_eq (x : Later W) : x.w.drew = x.draw.w := rfl
@[go_sem] theorem andThen_eq (x : Later W) (y : Later x.w) : y.w = (x.andThen y).w := rfl
@[go_sem] theorem setCell_eq (x : Later W) (a : Addr) (v : Value) : x.w.setCell a v = (x.set a v).w := rfl
@[go_sem] theorem cell_eq (x : Later W) (b o : Nat) (h : b < W.heap.size) : x.w.cell? ⟨b, o, none⟩ = W.cell? ⟨b, o, none⟩ := x.h.cell (p := ⟨b, o, none⟩) h
@[go_sem] theorem frozen_eq (x : Later W) (b o : Nat) (h : b < W.heap.size) : x.w.frozen? ⟨b, o, none⟩ = W.frozen? ⟨b, o, none⟩ := x.h.frozen (p := ⟨b, o, none⟩) h
theorem size_le (x : Later W) : W.heap.size ≤ x.w.heap.size := x.h.size
@[go_sem] theorem lt_size (x : Later W) (b : Nat) (h : b < W.heap.size) : (b < x.w.heap.size) = True := eq_true (Nat.lt_of_lt_of_le h x.h.size)
@[go_sem] theorem le_size (x : Later W) (b : Nat) (h : b ≤ W.heap.size) : (b ≤ x.w.heap.size) = True := eq_true (Nat.le_trans h x.h.size)
end Later

/-- W has grown out of w: found by its form. -/
class Grows (w W : World) : Prop where
  out : Below w.heap.size w W
instance Grows.same (w : World) : Grows w w := ⟨Below.refl _ _⟩
instance Grows.alloc (w W : World) (o : Obj) [h : Grows w W] : Grows w (W.alloc o) := ⟨h.out.alloc h.out.size o⟩
instance Grows.later (w W : World) [h : Grows w W] (x : Later W) : Grows w x.w := ⟨h.out.trans (x.h.mono h.out.size)⟩
instance Grows.drew (w W : World) [h : Grows w W] : Grows w W.drew := ⟨h.out.drew⟩

/-- One value, and a world that has grown. -/
def Gives (w : World) (v : Value) : Ending → World → Prop := fun e w' => e = .returned v ∧ ∃ x : Later w, w' = x.w

theorem Gives.mk {w : World} {v u : Value} {w' : World} (hv : u = v) [h : Grows w w'] : Gives w v (.returned u) w' := ⟨by rw [hv], ⟨w', h.out⟩, rfl⟩

theorem Gives.below {P : Program} {f : FuncId} {args : Array Value} {w : World} {v : Value} (h : Calls P f args w (Gives w v)) :
    Calls P f args w fun e w' => e = .returned v ∧ Below w.heap.size w w' :=
  h.mono fun _ _ ⟨he, x, hx⟩ => ⟨he, by rw [hx]; exact x.h⟩

/-- A contract inside a region that draws its order. -/
theorem Gives.quiet {P : Program} {f : FuncId} {args : Array Value} {W : World} {x : Later W} {v : Value} (h : Calls P f args x.w (Gives x.w v)) :
    Calls P f args x.w fun e w' => e = .returned v ∧ ∃ y : Later W, w' = y.w :=
  h.mono fun _ _ ⟨he, y, hy⟩ => ⟨he, x.andThen y, hy⟩

/-- A region that draws its order and whose operations read, and call what gives one value: walked once, in the text's order. -/
theorem wp_region_later {P : Program} {id : Nat} {Q : Exit → Act → World → Prop} {a : Act} {W : World} {l : List Oper} (hm : P.follows .mixedOrders = true) (hB : Region.lexB .any l.toArray = true)
    (h : wpQuiet P l.toArray (fun w' => ∃ x : Later W, w' = x.w) (fun a' => ∀ w', (∃ x : Later W, w' = x.w) → Q .normal a' w') l a) : (Code.region id l.toArray true).wp P Q a W :=
  wp_region_quiet (C := fun w' => ∃ x : Later W, w' = x.w) hm hB ⟨⟨_, (Below.refl _ W).drew⟩, rfl⟩ (by simpa using h)
end Go.Proofs.Ytjhchiabifnjaaa
