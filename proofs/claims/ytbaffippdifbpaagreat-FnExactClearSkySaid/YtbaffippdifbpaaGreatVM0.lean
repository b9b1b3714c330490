/- Words for walks: 'Later W' is a world that has grown out of W (below W's size nothing has turned); a contract that gives one value and a later world. No condition. A LAW's FRAME, once for every law of the seat: a call that returns true and leaves all old memory as it was answers the row's post. Conditions: no package variable is named; the specification hands each argument back. Words for slices of flat elements: 'Sl enc w a l': the slice at a reads as the list l. No condition. What came in, opened: the cells of a value by its type's code, all the way down through slices. No condition. -/
import Derived.Test.YtbaffippdifbpaaGreatRows
import Derived.WalkKit
import Derived.ProofKit
import Derived.OpenShut
import Derived.WalkLawsBesides
import Derived.WalkSpells
import Derived.Outline
import Derived.Deep.QuietTactic
import Derived.BigQuiet
import Derived.Lib.Hide
import Derived.Lib.SmallJoins
import Derived.Deep.Slices
import Derived.Laws.AppendOwnNone
import Derived.Deep.RegionLaw
import Derived.Lib.LazyBuf
import Derived.Deep.RegionHeld3
import Derived.Deep.MidRow
namespace Go.Proofs.YtbaffippdifbpaaGreat
set_option linter.unusedVariables false
open Go.ChangeShapes Go.WideShapes Go.ChangeAt Go.RowKit
structure Later (W : World) where
  w : World
  h : Below W.heap.size W w
namespace Later
variable {W : World}
def here (W : World) : Later W := ⟨W, Below.refl _ _⟩
instance : Nonempty (Later W) := ⟨here W⟩
def draw (x : Later W) : Later W := ⟨x.w.drew, x.h.drew⟩
def andThen (x : Later W) (y : Later x.w) : Later W := ⟨y.w, x.h.trans (y.h.mono x.h.size)⟩
theorem below_set {B : Nat} {w w' : World} (h : Below B w w') (a : Addr) (v : Value) : Below B (w.setCell a v) (w'.setCell a v) := by
  refine ⟨h.os, h.tape, h.output, by simpa [World.setCell] using h.size, fun k hk => ?_⟩
  have := h.block k hk
  simp only [World.setCell, Array.getElem?_modify, this]
def set (x : Later W) (a : Addr) (v : Value) : Later (W.setCell a v) := ⟨x.w.setCell a v, by
  have := below_set x.h a v
  rwa [show (W.setCell a v).heap.size = W.heap.size from by simp]⟩
@[go_sem] theorem drew_eq (x : Later W) : x.w.drew = x.draw.w := rfl
@[go_sem] theorem andThen_eq (x : Later W) (y : Later x.w) : y.w = (x.andThen y).w := rfl
@[go_sem] theorem setCell_eq (x : Later W) (a : Addr) (v : Value) : x.w.setCell a v = (x.set a v).w := rfl
theorem size_le (x : Later W) : W.heap.size ≤ x.w.heap.size := x.h.size
end Later
/-! ### Facts that are found by their form: by instances, not by simp's own side goals (which go two deep alone) -/
class LeN (a b : Nat) : Prop where
  out : a ≤ b
class LtN (a b : Nat) : Prop where
  out : a < b
instance (priority := 50) LeN.ofLt (a b : Nat) [h : LtN a b] : LeN a b := ⟨Nat.le_of_lt h.out⟩
instance LeN.same (a : Nat) : LeN a a := ⟨Nat.le_refl _⟩
instance LeN.succ (a b : Nat) [h : LeN a b] : LeN a (b + 1) := ⟨Nat.le_succ_of_le h.out⟩
instance LeN.later (a : Nat) {W : World} (x : Later W) [h : LeN a W.heap.size] : LeN a x.w.heap.size := ⟨Nat.le_trans h.out x.size_le⟩
instance LeN.alloc (a : Nat) (W : World) (o : Obj) [h : LeN a W.heap.size] : LeN a (W.alloc o).heap.size := ⟨by have := h.out; simp; omega⟩
instance LeN.setCell (a : Nat) (W : World) (p : Addr) (v : Value) [h : LeN a W.heap.size] : LeN a (W.setCell p v).heap.size := ⟨by simpa using h.out⟩
instance (priority := 900) LeN.andThen (a : Nat) {W : World} (x : Later W) (y : Later x.w) [h : LeN a x.w.heap.size] : LeN a (x.andThen y).w.heap.size := ⟨Nat.le_trans h.out y.size_le⟩
instance LeN.allocS (a : Nat) (W : World) (o : Obj) [h : LeN a W.heap.size] : LeN (a + 1) (W.alloc o).heap.size := ⟨by have := h.out; simp; omega⟩
instance LeN.succS (a b : Nat) [h : LeN a b] : LeN (a + 1) (b + 1) := ⟨Nat.succ_le_succ h.out⟩
instance LtN.allocS (a : Nat) (W : World) (o : Obj) [h : LtN a W.heap.size] : LtN (a + 1) (W.alloc o).heap.size := ⟨by have := h.out; simp; omega⟩
instance LtN.succS (a b : Nat) [h : LtN a b] : LtN (a + 1) (b + 1) := ⟨Nat.succ_lt_succ h.out⟩
instance LtN.succ (a b : Nat) [h : LeN a b] : LtN a (b + 1) := ⟨Nat.lt_succ_of_le h.out⟩
instance LtN.later (a : Nat) {W : World} (x : Later W) [h : LtN a W.heap.size] : LtN a x.w.heap.size := ⟨Nat.lt_of_lt_of_le h.out x.size_le⟩
instance LtN.alloc (a : Nat) (W : World) (o : Obj) [h : LeN a W.heap.size] : LtN a (W.alloc o).heap.size := ⟨by have := h.out; simp; omega⟩
instance LtN.setCell (a : Nat) (W : World) (p : Addr) (v : Value) [h : LtN a W.heap.size] : LtN a (W.setCell p v).heap.size := ⟨by simpa using h.out⟩
instance (priority := 900) LtN.andThen (a : Nat) {W : World} (x : Later W) (y : Later x.w) [h : LtN a x.w.heap.size] : LtN a (x.andThen y).w.heap.size := ⟨Nat.lt_of_lt_of_le h.out y.size_le⟩
instance (priority := 800) LtN.andThen2 (a : Nat) {W : World} (x : Later W) (y : Later x.w) [h : LtN a y.w.heap.size] : LtN a (x.andThen y).w.heap.size := h
instance (priority := 800) LeN.andThen2 (a : Nat) {W : World} (x : Later W) (y : Later x.w) [h : LeN a y.w.heap.size] : LeN a (x.andThen y).w.heap.size := h
namespace Later
variable {W : World}
@[go_sem] theorem cell_eq (x : Later W) (b o : Nat) [h : LtN b W.heap.size] : x.w.cell? ⟨b, o, none⟩ = W.cell? ⟨b, o, none⟩ := x.h.cell (p := ⟨b, o, none⟩) h.out
@[go_sem] theorem frozen_eq (x : Later W) (b o : Nat) [h : LtN b W.heap.size] : x.w.frozen? ⟨b, o, none⟩ = W.frozen? ⟨b, o, none⟩ := x.h.frozen (p := ⟨b, o, none⟩) h.out
@[go_sem] theorem cell_past (w : World) (o : Obj) (n i : Nat) [h : LtN n w.heap.size] : (w.alloc o).cell? ⟨n, i, none⟩ = w.cell? ⟨n, i, none⟩ := World.cell?_alloc_past o n i h.out
@[go_sem] theorem frozen_past (w : World) (o : Obj) (n i : Nat) [h : LtN n w.heap.size] : (w.alloc o).frozen? ⟨n, i, none⟩ = w.frozen? ⟨n, i, none⟩ := World.frozen?_alloc_past o n i h.out
@[go_sem] theorem set_past (w : World) (o : Obj) (n i : Nat) (v : Value) [h : LtN n w.heap.size] : (w.alloc o).setCell ⟨n, i, none⟩ v = (w.setCell ⟨n, i, none⟩ v).alloc o := World.setCell_alloc_past o n i v h.out
@[go_sem] theorem lt_size (x : Later W) (b : Nat) [h : LtN b W.heap.size] : (b < x.w.heap.size) = True := eq_true (Nat.lt_of_lt_of_le h.out x.h.size)
@[go_sem] theorem le_size (x : Later W) (b : Nat) [h : LeN b W.heap.size] : (b ≤ x.w.heap.size) = True := eq_true (Nat.le_trans h.out x.h.size)
end Later
class Grows (w W : World) : Prop where
  out : Below w.heap.size w W
instance Grows.same (w : World) : Grows w w := ⟨Below.refl _ _⟩
instance Grows.alloc (w W : World) (o : Obj) [h : Grows w W] : Grows w (W.alloc o) := ⟨h.out.alloc h.out.size o⟩
instance Grows.later (w W : World) [h : Grows w W] (x : Later W) : Grows w x.w := ⟨h.out.trans (x.h.mono h.out.size)⟩
instance Grows.drew (w W : World) [h : Grows w W] : Grows w W.drew := ⟨h.out.drew⟩
instance Grows.set (w W : World) (b i : Nat) (v : Value) [h : Grows w W] [k : LeN w.heap.size b] : Grows w (W.setCell ⟨b, i, none⟩ v) := ⟨h.out.setCell k.out v⟩
instance (priority := 900) Grows.andThen (a : World) {W : World} (x : Later W) (y : Later x.w) [h : Grows a x.w] : Grows a (x.andThen y).w := ⟨h.out.trans (y.h.mono h.out.size)⟩
instance (priority := 950) Grows.andThenSelf {W : World} (x : Later W) (y : Later x.w) : Grows y.w (x.andThen y).w := ⟨Below.refl _ _⟩
instance (priority := 50) LeN.grows (w W : World) [h : Grows w W] : LeN w.heap.size W.heap.size := ⟨h.out.size⟩
theorem Later.of {w W : World} [h : Grows w W] : ∃ x : Later w, W = x.w := ⟨⟨W, h.out⟩, rfl⟩
theorem cell_grown {w : World} {b o : Nat} {v : Value} (hb : b < w.heap.size) (h : w.cell? ⟨b, o, none⟩ = some v) (W : World) [g : Grows w W] : W.cell? ⟨b, o, none⟩ = some v := by
  rw [g.out.cell (p := ⟨b, o, none⟩) hb]; exact h
def Gives (w : World) (v : Value) : Ending → World → Prop := fun e w' => e = .returned v ∧ ∃ x : Later w, w' = x.w
theorem Gives.mk {w : World} {v u : Value} {w' : World} (hv : u = v) [h : Grows w w'] : Gives w v (.returned u) w' := ⟨by rw [hv], ⟨w', h.out⟩, rfl⟩
theorem Gives.below {P : Program} {f : FuncId} {args : Array Value} {w : World} {v : Value} (h : Calls P f args w (Gives w v)) :
    Calls P f args w fun e w' => e = .returned v ∧ Below w.heap.size w w' :=
  h.mono fun _ _ ⟨he, x, hx⟩ => ⟨he, by rw [hx]; exact x.h⟩
theorem Gives.quiet {P : Program} {f : FuncId} {args : Array Value} {W : World} {x : Later W} {v : Value} (h : Calls P f args x.w (Gives x.w v)) :
    Calls P f args x.w fun e w' => e = .returned v ∧ ∃ y : Later W, w' = y.w :=
  h.mono fun _ _ ⟨he, y, hy⟩ => ⟨he, x.andThen y, hy⟩
theorem wp_region_later {P : Program} {id : Nat} {Q : Exit → Act → World → Prop} {a : Act} {W : World} {l : List Oper} (hm : P.follows .mixedOrders = true) (hB : Region.lexB .any l.toArray = true)
    (h : wpQuiet P l.toArray (fun w' => ∃ x : Later W, w' = x.w) (fun a' => ∀ w', (∃ x : Later W, w' = x.w) → Q .normal a' w') l a) : (Code.region id l.toArray true).wp P Q a W :=
  wp_region_quiet (C := fun w' => ∃ x : Later W, w' = x.w) hm hB ⟨⟨_, (Below.refl _ W).drew⟩, rfl⟩ (by simpa using h)
end Go.Proofs.YtbaffippdifbpaaGreat
namespace Go.Proofs.YtbaffippdifbpaaGreat
set_option linter.unusedVariables false
open Go.ChangeShapes Go.WideShapes Go.ChangeAt Go.RowKit
theorem own : ownKnob Tryz.prog.godebug = none := by kernel_rfl
theorem laidOut : laidOutB Tryz.prog = true := by kernel_rfl
theorem trodAll_below {H : Type} {enc : TypeId × Value → H} {P : Program} (hl : laidOutB P = true) {W W' : World} (hb : Below W.heap.size W W') :
    ∀ {ts : List TypeId} {vs : List Value} {ds : List (DataW H)} {ps : List MemPlace}, (∀ t ∈ ts, P.readableRec t = true ∧ t < P.types.size) →
    DataW.TrodAll enc P W 0 (fun _ => true) true ts vs ds ps → (∀ x ∈ ps, x.block < W.heap.size) →
    DataW.TrodAll enc P W' 0 (fun b => decide (b < W.heap.size)) true ts vs ds ps
  | [], _, _, _, _, h, _ => by
    obtain ⟨rfl, rfl, rfl⟩ := trodAll_nil h
    exact trodAll_mk0
  | t :: ts, vs, ds, ps, ht, h, hp => by
    obtain ⟨v, vs', d, ds', p, q, rfl, rfl, rfl, h1, h2⟩ := trodAll_cons h
    have a := ht t (by simp)
    exact trodAll_cons_mk (Below.trod hl a.1 a.2 h1 hb (fun x hx => hp x (by simp [hx]))) (trodAll_below hl hb (fun u hu => ht u (by simp [hu])) h2 (fun x hx => hp x (by simp [hx])))
theorem law_post {H : Type} {enc : TypeId × Value → H} {P : Program} {f : Func} {s : ChangeSpec} {fresh : Bool} {W W' : World} {args : Array Value} {ds : List (DataW H)} {before : List MemPlace} {bt : TypeId}
    (hl : laidOutB P = true) (hts0 : (f.params.toList.all fun t => P.readableRec t && decide (t < P.types.size)) = true)
    (hv : s.vars = []) (hfn : s.fn H (ds ++ []) = { results := [.lit (.bool true)], args := ds }) (hr : f.resultTypes = #[bt]) (hbt : P.underlying bt = some .bool)
    (hW : DataW.Whole enc P f.params.toList s.vars false W args.toList ds [] before) (hb : Below W.heap.size W W') :
    s.post enc P f false fresh false false W args (.bool true) W' := by
  have hts : ∀ t ∈ f.params.toList, P.readableRec t = true ∧ t < P.types.size := fun t ht => by
    have := List.all_eq_true.1 hts0 t ht
    simpa using this
  have hW' := hW
  obtain ⟨p, q, hA, hV, rfl, hfz, hnd⟩ := hW
  rw [hv] at hV
  obtain ⟨_, rfl⟩ := trodVars_none hV
  refine ⟨ds, [], p ++ [], [], p, [], hW', ?_, ?_, ?_, hb.frame _, fun h => by cases h⟩
  · rw [hfn, hr]
    exact trodAll_cons_mk (shut_bool hbt _) trodAll_mk0
  · rw [hfn]
    exact trodAll_below hl hb hts hA (DataW.TrodAll.lt hA)
  · rw [hv, hfn]
    rfl
end Go.Proofs.YtbaffippdifbpaaGreat
namespace Go.Proofs.YtbaffippdifbpaaGreat
set_option linter.unusedVariables false
open Go.ChangeShapes Go.WideShapes Go.ChangeAt Go.RowKit
def i64 (n : Int) : Prop := -9223372036854775808 ≤ n ∧ n ≤ 9223372036854775807
theorem i64_wf {n : Int} (h : (Lit.int .i64 n).wf = true) : i64 n := by
  simp [Lit.wf, IntKind.min, IntKind.max, IntKind.signed, IntKind.bits] at h
  exact h
def Sl {α : Type} (enc : α → List Value) (w : World) (a : Option Addr) (l : List α) : Prop :=
  ∀ (i : Nat) (x : α), l[i]? = some x → ∃ b off, a = some ⟨b, off, none⟩ ∧ b < w.heap.size ∧ ∀ (j : Nat) (v : Value), (enc x)[j]? = some v → w.cell? ⟨b, off + i * (enc x).length + j, none⟩ = some v
theorem Sl.later {α : Type} {enc : α → List Value} {W : World} {a : Option Addr} {l : List α} (h : Sl enc W a l) (x : Later W) : Sl enc x.w a l := fun i y hy => by
  obtain ⟨b, off, rfl, hb, hc⟩ := h i y hy
  exact ⟨b, off, rfl, Nat.lt_of_lt_of_le hb x.size_le, fun j v hv => by rw [x.h.cell (p := ⟨b, _, none⟩) hb]; exact hc j v hv⟩
theorem drop_at {α : Type} {l : List α} {k : Nat} (hk : k < l.length) : ∃ x, l[k]? = some x ∧ Hid (l.drop k = x :: l.drop (k + 1)) := ⟨l[k], List.getElem?_eq_getElem hk, List.drop_eq_getElem_cons hk⟩
theorem Later.cast {W W' : World} (h : W = W') (x : Later W) : ∃ y : Later W', x.w = y.w := by subst h; exact ⟨x, rfl⟩
theorem Later.set_at {W : World} {C : Array Value} {T : TypeId} (x : Later (W.alloc (.cells C T))) (i : Nat) (v : Value) :
    ∃ y : Later (W.alloc (.cells (C.setIfInBounds i v) T)), (x.set ⟨W.heap.size, i, none⟩ v).w = y.w :=
  Later.cast (World.setCell_alloc_at C T _ i v rfl) _
theorem Later.set2_at {W : World} {C : Array Value} {T : TypeId} (x : Later (W.alloc (.cells C T))) (i i' : Nat) (v v' : Value) :
    ∃ y : Later (W.alloc (.cells ((C.setIfInBounds i v).setIfInBounds i' v') T)), ((x.set ⟨W.heap.size, i, none⟩ v).set ⟨W.heap.size, i', none⟩ v').w = y.w :=
  Later.cast (by rw [World.setCell_alloc_at C T _ i v rfl, World.setCell_alloc_at _ T _ i' v' rfl]) _
theorem run_mk {P : Program} {t e size bytes : Nat} {z : Value} (h1 : P.underlying t = some (.slice e)) (h2 : (P.info? e).map (fun i => (i.zero, i.size, i.bytes)) = some (some z, size, bytes)) (n : Nat)
    (hb : bytes * n ≤ 281474976710656) (hn : n ≤ 1000000000000) :
    ∃ C : Array Value, C = madeCells z.cells (n * size) ∧ ∀ w : World, (Instr.makeSlice t (.int .i64 n) (.int .i64 n)).run P w = .ok (.slice (some ⟨w.heap.size, 0, none⟩) n n) (w.alloc (.cells C e)) := by
  refine ⟨_, rfl, fun w => ?_⟩
  obtain ⟨i, hi, h3⟩ := Option.map_eq_some_iff.1 h2
  simp only [Prod.mk.injEq] at h3
  obtain ⟨h4, h5, h6⟩ := h3
  have := run_make (P := P) w t e i z h1 hi h4 .i64 .i64 (n : Int) (n : Int) (by omega) (by omega) (by rw [h6]; omega) (by omega)
  simpa [h5] using this
theorem getD_lt {C : Array Value} {i m : Nat} (h : C.size = m) (hi : i < m) : ∃ v, C[i]? = some v := ⟨C[i], Array.getElem?_eq_getElem (by omega)⟩
def Own {α : Type} (enc : α → List Value) (T size B : Nat) (w : World) (a : Option Addr) (c : Nat) (l : List α) : Prop :=
  (∀ x : α, (enc x).length = size) ∧ w.ownsRow B T size (.slice a l.length c) l.length (l.flatMap enc)
theorem flatMap_length {α : Type} {enc : α → List Value} {size : Nat} (h : ∀ x : α, (enc x).length = size) (l : List α) : (l.flatMap enc).length = l.length * size := by
  induction l with
  | nil => simp
  | cons x l ih => simp [List.flatMap_cons, h, ih, Nat.add_mul]; omega
theorem flatMap_at {α : Type} {enc : α → List Value} {size : Nat} (h : ∀ x : α, (enc x).length = size) : ∀ (l : List α) (i j : Nat) (x : α) (v : Value), l[i]? = some x → (enc x)[j]? = some v → (l.flatMap enc)[i * size + j]? = some v
  | [], i, j, x, v, hi, _ => by simp at hi
  | y :: l, 0, j, x, v, hi, hj => by
    simp only [List.getElem?_cons_zero, Option.some.injEq] at hi
    subst hi
    have : j < (enc y).length := (List.getElem?_eq_some_iff.1 hj).1
    rw [List.flatMap_cons, Nat.zero_mul, Nat.zero_add, List.getElem?_append_left this, hj]
  | y :: l, i + 1, j, x, v, hi, hj => by
    have hh := flatMap_at h l i j x v (by simpa using hi) hj
    rw [List.flatMap_cons, List.getElem?_append_right (by rw [h]; rw [Nat.add_mul]; omega), h]
    rw [show (i + 1) * size + j - size = i * size + j from by rw [Nat.add_mul]; omega, hh]
theorem Own.sl {α : Type} {enc : α → List Value} {T size B : Nat} {w : World} {a : Option Addr} {c : Nat} {l : List α} (h : Own enc T size B w a c l) : Sl enc w a l := by
  intro i x hx
  obtain ⟨hsz, hlen, h1 | ⟨g, cap, cur, hv, hg, hh, hn, hc, hcs, ht⟩⟩ := h
  · have : i < l.length := (List.getElem?_eq_some_iff.1 hx).1
    omega
  · simp only [Value.slice.injEq] at hv
    obtain ⟨rfl, -, rfl⟩ := hv
    have hi : i < l.length := (List.getElem?_eq_some_iff.1 hx).1
    have hlt : g < w.heap.size := by
      have := (Array.getElem?_eq_some_iff.1 hh).1
      exact this
    refine ⟨g, 0, rfl, hlt, fun j v hj => ?_⟩
    have h3 := flatMap_at hsz l i j x v hx hj
    rw [← ht, List.getElem?_take] at h3
    split at h3
    · have h4 : cur[i * size + j]? = some v := by rw [← Array.getElem?_toList]; exact h3
      simp only [World.cell?, hh, hsz, Nat.zero_add]
      simpa using h4
    · cases h3
theorem own_later {W : World} {B e size n : Nat} {v : Value} {xs : List Value} (h : W.ownsRow B e size v n xs) (x : Later W) : x.w.ownsRow B e size v n xs := by
  obtain ⟨h1, h2⟩ := h
  refine ⟨h1, ?_⟩
  rcases h2 with h2 | ⟨g, cap, cur, hv, hg, hh, r⟩
  · exact .inl h2
  · exact .inr ⟨g, cap, cur, hv, hg, by rw [x.h.block g (Array.getElem?_eq_some_iff.1 hh).1]; exact hh, r⟩
theorem Own.later {α : Type} {enc : α → List Value} {T size B : Nat} {W : World} {a : Option Addr} {c : Nat} {l : List α} (h : Own enc T size B W a c l) (x : Later W) : Own enc T size B x.w a c l := ⟨h.1, own_later h.2 x⟩
theorem Own.mono {α : Type} {enc : α → List Value} {T size B B' : Nat} {W : World} {a : Option Addr} {c : Nat} {l : List α} (h : Own enc T size B W a c l) (hB : B' ≤ B) : Own enc T size B' W a c l := by
  obtain ⟨h0, h1, h2 | ⟨g, cap, cur, hv, hg, r⟩⟩ := h
  · exact ⟨h0, h1, .inl h2⟩
  · exact ⟨h0, h1, .inr ⟨g, cap, cur, hv, Nat.le_trans hB hg, r⟩⟩
def GivesSl {α : Type} (enc : α → List Value) (T size : Nat) (w : World) (l : List α) : Ending → World → Prop := fun e w' => ∃ a c, e = .returned (.slice a l.length c) ∧ Own enc T size w.heap.size w' a c l ∧ ∃ x : Later w, w' = x.w
theorem own_block {α : Type} {enc : α → List Value} {T size n B : Nat} {W : World} {D : Array Value} {l : List α} (hsz : ∀ x : α, (enc x).length = size) (hn : l.length = n) (hm : n ≤ 1000000000000) (hB : B ≤ W.heap.size)
    (hD : D.size = n * size) (ht : D.toList = l.flatMap enc) (x : Later (W.alloc (.cells D T))) : Own enc T size B x.w (some ⟨W.heap.size, 0, none⟩) n l := by
  refine ⟨hsz, by rw [flatMap_length hsz], .inr ⟨W.heap.size, n, D, by rw [hn], hB, ?_, by omega, by unfold maxLen; omega, hD, ?_⟩⟩
  · rw [x.h.block _ (by simp)]
    show (W.heap.push _)[W.heap.size]? = _
    simp
  · rw [← ht, List.take_of_length_le (by simp [hD, hn])]
theorem Sl.to {α : Type} {enc : α → List Value} {W W' : World} {a : Option Addr} {l : List α} (h : Sl enc W a l) (g : Grows W W') : Sl enc W' a l := h.later ⟨W', g.out⟩
theorem Own.to {α : Type} {enc : α → List Value} {T size B : Nat} {W W' : World} {a : Option Addr} {c : Nat} {l : List α} (h : Own enc T size B W a c l) (g : Grows W W') : Own enc T size B W' a c l := h.later ⟨W', g.out⟩
theorem Later.set1_at {W : World} {C : Array Value} {T : TypeId} (x : Later (W.alloc (.cells C T))) (i : Nat) (v : Value) :
    ∃ y : Later (W.alloc (.cells (C.setIfInBounds i v) T)), (x.set ⟨W.heap.size, i, none⟩ v).w = y.w := x.set_at i v
theorem Later.set3_at {W : World} {C : Array Value} {T : TypeId} (x : Later (W.alloc (.cells C T))) (i i' i2 : Nat) (v v' v2 : Value) :
    ∃ y : Later (W.alloc (.cells (((C.setIfInBounds i v).setIfInBounds i' v').setIfInBounds i2 v2) T)), (((x.set ⟨W.heap.size, i, none⟩ v).set ⟨W.heap.size, i', none⟩ v').set ⟨W.heap.size, i2, none⟩ v2).w = y.w :=
  Later.cast (by rw [World.setCell_alloc_at C T _ i v rfl, World.setCell_alloc_at _ T _ i' v' rfl, World.setCell_alloc_at _ T _ i2 v2 rfl]) _
theorem Later.set4_at {W : World} {C : Array Value} {T : TypeId} (x : Later (W.alloc (.cells C T))) (i i' i2 i3 : Nat) (v v' v2 v3 : Value) :
    ∃ y : Later (W.alloc (.cells ((((C.setIfInBounds i v).setIfInBounds i' v').setIfInBounds i2 v2).setIfInBounds i3 v3) T)), ((((x.set ⟨W.heap.size, i, none⟩ v).set ⟨W.heap.size, i', none⟩ v').set ⟨W.heap.size, i2, none⟩ v2).set ⟨W.heap.size, i3, none⟩ v3).w = y.w :=
  Later.cast (by rw [World.setCell_alloc_at C T _ i v rfl, World.setCell_alloc_at _ T _ i' v' rfl, World.setCell_alloc_at _ T _ i2 v2 rfl, World.setCell_alloc_at _ T _ i3 v3 rfl]) _
end Go.Proofs.YtbaffippdifbpaaGreat
namespace Go.Proofs.YtbaffippdifbpaaGreat
set_option linter.unusedVariables false
open Go.ChangeShapes Go.WideShapes Go.ChangeAt Go.RowKit
inductive Cd where
  | int | byte | bool | str
  | sl (es : List Cd)
inductive RdC (w : World) : Cd → Value → Prop
  | int {n : Int} : i64 n → RdC w .int (.int .i64 n)
  | byte {n : Int} : 0 ≤ n → n ≤ 255 → RdC w .byte (.int .u8 n)
  | bool {b : Bool} : RdC w .bool (.bool b)
  | str {s : ByteArray} : s.size ≤ maxLen → RdC w .str (.string s)
  | nil {es : List Cd} : RdC w (.sl es) (.slice none 0 0)
  | sl {es : List Cd} {a : Addr} {n c : Nat} (U : Nat → Nat → Value) : 0 < es.length → n ≤ c → c ≤ maxLen →
      (∀ i, i < n → ∀ j, j < es.length → ∃ b off, a = ⟨b, off, none⟩ ∧ b < w.heap.size ∧ w.cell? ⟨b, off + (i * es.length + j), none⟩ = some (U i j)) →
      (∀ i, i < n → ∀ (j : Nat) (e : Cd), es[j]? = some e → RdC w e (U i j)) → RdC w (.sl es) (.slice (some a) n c)
def codesF (f : TypeId → Option (List Cd)) (P : Program) : List Field → Nat → Option (List Cd)
  | [], _ => some []
  | x :: r, off =>
    if x.offset = off then
      match f x.type with
      | some L => if P.cellsOf x.type = L.length then (codesF f P r (off + L.length)).map (L ++ ·) else none
      | none => none
    else none
def codes (P : Program) : Nat → TypeId → Option (List Cd)
  | 0, _ => none
  | k + 1, t =>
    match P.underlying t with
    | some .bool => some [.bool]
    | some (.int .i64) => some [.int]
    | some (.int .u8) => some [.byte]
    | some .string => some [.str]
    | some (.slice e) =>
      match codes P k e with
      | some (c :: es) => if P.cellsOf e = es.length + 1 then some [.sl (c :: es)] else none
      | _ => none
    | some (.struct fs) =>
      match codesF (codes P k) P fs.toList 0 with
      | some L => if P.cellsOf t = L.length then some L else none
      | none => none
    | _ => none
section
variable {H : Type} {enc : TypeId × Value → H} {P : Program} {w : World} {base : Nat} {spare : Nat → Bool} {held : Bool}
def RdL (w : World) (L : List Cd) (cs : List Value) : Prop := ∀ (j : Nat) (c : Cd), L[j]? = some c → ∃ u, cs[j]? = some u ∧ RdC w c u
theorem codesF_sound {f : TypeId → Option (List Cd)} {n : Nat} (hf : ∀ t L cs x, f t = some L → DataW.trod enc P w base spare held n t cs = some x → cs.length = L.length ∧ RdL w L cs) :
    ∀ (r : List Field) (off : Nat) (L : List Cd) (cs : List Value), codesF f P r off = some L →
      (∀ (i : Nat) (fl : Field), r[i]? = some fl → ∃ y, DataW.trod enc P w base spare held n fl.type ((cs.drop fl.offset).take (P.cellsOf fl.type)) = some y) → RdL w L (cs.drop off)
  | [], off, L, cs, h, _ => by
    simp only [codesF, Option.some.injEq] at h
    subst h
    intro j c hj; simp at hj
  | x :: r, off, L, cs, h, hy => by
    simp only [codesF] at h
    split at h
    · rename_i ho
      split at h
      · rename_i L1 hL1
        split at h
        · rename_i hc
          obtain ⟨L2, hL2, rfl⟩ := Option.map_eq_some_iff.1 h
          obtain ⟨y, hy0⟩ := hy 0 x (by simp)
          have h1 := hf _ _ _ _ hL1 hy0
          have h2 := codesF_sound hf r _ _ cs hL2 (fun i fl hi => hy (i + 1) fl (by simpa using hi))
          intro j c hj
          by_cases hlt : j < L1.length
          · rw [List.getElem?_append_left hlt] at hj
            obtain ⟨u, hu, hr⟩ := h1.2 j c hj
            refine ⟨u, ?_, hr⟩
            rw [List.getElem?_take] at hu
            split at hu
            · rw [ho] at hu; exact hu
            · cases hu
          · rw [List.getElem?_append_right (by omega)] at hj
            obtain ⟨u, hu, hr⟩ := h2 _ c hj
            refine ⟨u, ?_, hr⟩
            rw [List.getElem?_drop] at hu ⊢
            rw [← hu]; congr 1; omega
        · cases h
      · cases h
    · cases h
theorem codes_sound : ∀ (k fuel : Nat) (t : TypeId) (L : List Cd) (cs : List Value) (x : DataW H × List MemPlace), codes P k t = some L → DataW.trod enc P w base spare held fuel t cs = some x → cs.length = L.length ∧ RdL w L cs
  | 0, _, _, _, _, _, h, _ => by simp [codes] at h
  | k + 1, fuel, t, L, cs, x, h, ht => by
    have one : ∀ (c : Cd) (u : Value), L = [c] → cs = [u] → RdC w c u → cs.length = L.length ∧ RdL w L cs := fun c u hL hc hr => by
      subst hL; subst hc
      refine ⟨rfl, fun j d hj => ?_⟩
      match j, hj with
      | 0, hj => simp only [List.getElem?_cons_zero, Option.some.injEq] at hj; subst hj; exact ⟨u, rfl, hr⟩
    simp only [codes] at h
    split at h
    · rename_i hu
      obtain ⟨b, hb, -⟩ := DataW.trod_bool hu ht
      exact one .bool _ (by simpa using h.symm) hb .bool
    · rename_i hu
      obtain ⟨n, hn, -, hw⟩ := DataW.trod_int hu ht
      exact one .int _ (by simpa using h.symm) hn (.int (i64_wf hw))
    · rename_i hu
      obtain ⟨n, hn, -, hw⟩ := DataW.trod_int hu ht
      have : 0 ≤ n ∧ n ≤ 255 := by simpa [Lit.wf, IntKind.min, IntKind.max, IntKind.signed, IntKind.bits] using hw
      exact one .byte _ (by simpa using h.symm) hn (.byte this.1 this.2)
    · rename_i hu
      obtain ⟨s, hs, -, hw⟩ := DataW.trod_string hu ht
      exact one .str _ (by simpa using h.symm) hs (.str hw)
    · rename_i e hu
      split at h
      · rename_i c es hc
        split at h
        · rename_i hsz
          rcases Deep.open_slice hu ht with ⟨h1, -⟩ | ⟨a, len, cap, m, n, D, Pl, hcs, hb, hl, hm, hmm, hx, hi⟩
          · exact one _ _ (by simpa using h.symm) h1 .nil
          · have main : ∀ i, i < len → ∀ (j : Nat) (e' : Cd), (c :: es)[j]? = some e' → ∃ u, a = ⟨a.block, a.off, none⟩ ∧ a.block < w.heap.size ∧ w.cell? ⟨a.block, a.off + (i * (c :: es).length + j), none⟩ = some u ∧ RdC w e' u := ?_
            · refine one _ _ (by simpa using h.symm) hcs (.sl (fun i j => (w.cell? ⟨a.block, a.off + (i * (c :: es).length + j), none⟩).getD undef) (by simp) hl hm (fun i hi j hj => ?_) (fun i hi j e' hj => ?_))
              · obtain ⟨u, h7, h8, h9, -⟩ := main i hi j _ (List.getElem?_eq_getElem hj)
                exact ⟨_, _, h7, h8, by rw [h9]; rfl⟩
              · obtain ⟨u, -, -, h9, h10⟩ := main i hi j e' hj
                rw [h9]; exact h10
            intro i hil j e' hj
            obtain ⟨cs', hc1, hc2⟩ := hi i (by rw [hmm]; split <;> omega)
            obtain ⟨-, hlen, hat⟩ := World.cells?_some hc1
            obtain ⟨h3, h4⟩ := codes_sound k n e _ cs' _ hc hc2
            obtain ⟨u, hu1, hu2⟩ := h4 j e' hj
            have hj' : j < P.cellsOf e := by rw [← hlen]; exact (List.getElem?_eq_some_iff.1 hu1).1
            have h5 := hat j hj'
            rw [Deep.add_add, hu1, hsz] at h5
            have hsp : a.spot = none := by
              obtain ⟨cs0, hc3, -⟩ := hi 0 (by rw [hmm]; split <;> omega)
              obtain ⟨-, hlen0, hat0⟩ := World.cells?_some hc3
              have h6 := hat0 0 (by rw [hsz]; omega)
              simp only [Nat.zero_mul, Addr.add, if_true] at h6
              have : 0 < cs0.length := by rw [hlen0, hsz]; omega
              rw [List.getElem?_eq_getElem this] at h6
              unfold World.cell? at h6
              split at h6
              · split at h6
                · cases h6
                · rename_i hns; simpa using hns
              · cases h6
            have ha : a.add (i * (es.length + 1) + j) = ⟨a.block, a.off + (i * (es.length + 1) + j), none⟩ := by
              unfold Addr.add
              split
              · rename_i h0; rw [h0]; cases a; simp only at hsp; subst hsp; rfl
              · cases a; simp only at hsp; subst hsp; rfl
            rw [ha] at h5
            exact ⟨u, by cases a; simp only at hsp; subst hsp; rfl, World.block_lt_of_cell? w ⟨a.block, _, none⟩ h5, by simpa using h5, hu2⟩
        · cases h
      · cases h
    · rename_i fs hu
      split at h
      · rename_i L1 hL1
        split at h
        · rename_i hsz
          simp only [Option.some.injEq] at h
          subst h
          obtain ⟨xs, n, -, -, hlen, hxl, hf⟩ := DataW.trod_struct hu ht
          refine ⟨by rw [hlen, hsz], ?_⟩
          have := codesF_sound (enc := enc) (base := base) (spare := spare) (held := held) (f := codes P k) (n := n) (fun t L cs x h h' => codes_sound k n t L cs x h h') fs.toList 0 L1 cs hL1 (fun i fl hi => by
            have h1 : fs[i]? = some fl := by rw [← Array.getElem?_toList]; exact hi
            have hi' : i < xs.length := by rw [hxl]; exact (Array.getElem?_eq_some_iff.1 h1).1
            exact ⟨_, (hf i fl h1).trans (List.getElem?_eq_getElem hi')⟩)
          simpa using this
        · cases h
      · cases h
    · cases h
end
theorem choose_list {α : Type} : ∀ (n : Nat) {p : Nat → α → Prop}, (∀ i, i < n → ∃ x, p i x) → ∃ l : List α, l.length = n ∧ ∀ i x, l[i]? = some x → p i x
  | 0, p, _ => ⟨[], rfl, fun i x h => by simp at h⟩
  | n + 1, p, h => by
    obtain ⟨l, hl, hp⟩ := choose_list n (p := p) (fun i hi => h i (by omega))
    obtain ⟨x, hx⟩ := h n (by omega)
    refine ⟨l ++ [x], by simp [hl], fun i y hy => ?_⟩
    by_cases hi : i < n
    · rw [List.getElem?_append_left (by omega)] at hy; exact hp i y hy
    · rw [List.getElem?_append_right (by omega), hl] at hy
      have : i = n := by
        have := (List.getElem?_eq_some_iff.1 hy).1
        simp at this; omega
      subst this
      simp at hy; subst hy; exact hx
theorem RdL.at {w : World} {L : List Cd} {cs : List Value} (h : RdL w L cs) {j : Nat} {c : Cd} (hj : L[j]? = some c) : ∃ u, cs[j]? = some u ∧ RdC w c u := h j c hj
theorem RdC.int_inv {w : World} {v : Value} (h : RdC w .int v) : ∃ n, v = .int .i64 n ∧ i64 n := by cases h with | int h => exact ⟨_, rfl, h⟩
theorem RdC.bool_inv {w : World} {v : Value} (h : RdC w .bool v) : ∃ b, v = .bool b := by cases h with | bool => exact ⟨_, rfl⟩
theorem RdC.str_inv {w : World} {v : Value} (h : RdC w .str v) : ∃ s, v = .string s ∧ s.size ≤ maxLen := by cases h with | str h => exact ⟨_, rfl, h⟩
theorem list_all {α : Type} : ∀ {l m : List α}, l.length = m.length → (∀ (j : Nat) (x : α), m[j]? = some x → l[j]? = some x) → l = m
  | [], [], _, _ => rfl
  | x :: l, y :: m, h, hj => by
    have h0 := hj 0 y rfl
    simp only [List.getElem?_cons_zero, Option.some.injEq] at h0
    subst h0
    exact congrArg (x :: ·) (list_all (l := l) (m := m) (by simpa using h) (fun j z hz => by have := hj (j + 1) z (by simpa using hz); simpa using this))
end Go.Proofs.YtbaffippdifbpaaGreat
namespace Go.Proofs.YtbaffippdifbpaaGreat
set_option linter.unusedVariables false
open Go.ChangeShapes Go.WideShapes Go.ChangeAt Go.RowKit
section
variable {α : Type} {enc : α → List Value} {T size : Nat}
theorem Own.nil {B : Nat} {w : World} (hsz : ∀ x : α, (enc x).length = size) : Own enc T size B w none 0 [] := ⟨hsz, by simp, .inl ⟨rfl, rfl⟩⟩
theorem Own.empty {W : World} (hsz : ∀ x : α, (enc x).length = size) (x : Later (W.alloc (.cells #[] T))) {B : Nat} (hB : B ≤ W.heap.size) : Own enc T size B x.w (some ⟨W.heap.size, 0, none⟩) 0 [] := by
  refine ⟨hsz, by simp, .inr ⟨W.heap.size, 0, #[], rfl, hB, ?_, Nat.le_refl _, by unfold maxLen; omega, by simp, by simp⟩⟩
  rw [x.h.block _ (by simp)]
  show (W.heap.push _)[W.heap.size]? = _
  simp
def xs_form (v : Value) (n : Nat) : Prop := ∃ a c, v = .slice a n c
theorem wpList_appS {P : Program} {ops : Array Oper} {rest : List Oper} {o : Oper} {a : Act} {Q : Exit → Act → World → Prop} {w0 W : World} {t : TypeId} {bytes : Nat} {z : Value}
    (hgd : o.guard = none) (s x : Operand) (ho : o.op = .call { callee := .builtin .append, args := #[s, x], argTypes := #[t, t] })
    (ht : P.underlying t = some (.slice T)) (hinfo : (P.info? T).map (fun i => (i.zero, i.size, i.bytes)) = some (some z, size, bytes)) (hzs : z.cells.size = size) (hsz : 0 < size) (hby : bytes ≤ 1000)
    {l r : List α} {n m c : Nat} {sa ra : Option Addr} {sc : Nat} (hs : a.eval s = .slice sa n sc) (hx : a.eval x = .slice ra m c) (hnil : ra = none → c = 0) (hn : l.length = n) (hm : r.length = m) (hown : Own enc T size w0.heap.size W sa sc l)
    (hr : Sl enc W ra r) (h1 : ∀ y, ∀ u ∈ enc y, u.oneCell' = true) (hb : n + m ≤ 1000000000) [g : Grows w0 W]
    (h : ∀ (sa' : Option Addr) (sc' : Nat) (x' : Later w0), Own enc T size w0.heap.size x'.w sa' sc' (l ++ r) → W.grownBy x'.w (Value.ownBlock (.slice sa n sc)) → wpList P ops Q rest (a.put o.dst (.slice sa' (n + m) sc')) x'.w) :
    wpList P ops Q (o :: rest) a W := by
  obtain ⟨i, hi, h3⟩ := Option.map_eq_some_iff.1 hinfo
  simp only [Prod.mk.injEq] at h3
  obtain ⟨h4, h5, h6⟩ := h3
  subst hn; subst hm
  cases ra with
  | none =>
    obtain rfl := hnil rfl
    have hr0 : r = [] := by
      cases r with
      | nil => rfl
      | cons y r => obtain ⟨b, off, h0, -⟩ := hr 0 y rfl; cases h0
    subst hr0
    refine wpList_append_own_none (a := a) (w := W) hgd s x t ho w0.heap.size T i size ht hi _ l.length (l.flatMap enc) hs hown.2 hx ?_
    exact h sa sc ⟨W, g.out⟩ (by rw [List.append_nil]; exact hown) ⟨rfl, rfl, rfl, Nat.le_refl _, fun k hk hr => rfl⟩
  | some ad =>
    have hb' : (l.length + r.length) * bytes ≤ 140737488355328 := by
      have : (l.length + r.length) * bytes ≤ (l.length + r.length) * 1000 := Nat.mul_le_mul_left _ hby
      omega
    refine wpList_append_own (a := a) (w := W) hgd s x t ho w0.heap.size T i z size bytes ht hi h4 h5 h6 hzs hsz _ l.length (l.flatMap enc) hs hown.2 ad r.length c (r.flatMap enc) hx (flatMap_length hown.1 r)
      (fun j u hj => ?_) (fun u hu => ?_) (by unfold maxLen; omega) hb' g.out.size ?_
    · have hlt : j < r.length * size := by rw [← flatMap_length hown.1 r]; exact (List.getElem?_eq_some_iff.1 hj).1
      have hq : j / size < r.length := Nat.div_lt_of_lt_mul (by rw [Nat.mul_comm]; exact hlt)
      have hy := List.getElem?_eq_getElem hq
      have hmod : j % size < (enc r[j / size]).length := by rw [hown.1]; exact Nat.mod_lt _ hsz
      have hu := List.getElem?_eq_getElem hmod
      have h8 := flatMap_at hown.1 r _ _ _ _ hy hu
      have hj' : j / size * size + j % size = j := by rw [Nat.mul_comm]; exact Nat.div_add_mod _ _
      rw [hj', hj] at h8
      obtain ⟨b, off, hbo, -, hc⟩ := hr _ _ hy
      simp only [Option.some.injEq] at hbo
      subst hbo
      have h9 := hc _ _ hu
      rw [hown.1, Nat.add_assoc, hj'] at h9
      simp only [Option.some.injEq] at h8
      rw [h8]
      have e : (⟨b, off, none⟩ : Addr).add j = ⟨b, off + j, none⟩ := by
        unfold Addr.add; split
        · rename_i h; rw [h, Nat.add_zero]
        · rfl
      rw [e]; exact h9
    · obtain ⟨y, -, hy⟩ := List.mem_flatMap.1 hu
      exact h1 y u hy
    · intro v' w' ho' hg' hnil'
      have hlt := hown.2.lt
      have hbel : Below w0.heap.size w0 w' := g.out.grown hg' g.out.size (fun k hk => (hlt k hk).1)
      have hf : xs_form v' (l.length + r.length) := by
        rcases ho'.2 with ⟨hv, hn0⟩ | ⟨g', cap, cur, hv, -⟩
        · exact ⟨none, 0, by rw [hn0]; exact hv⟩
        · exact ⟨_, _, hv⟩
      obtain ⟨sa', sc', rfl⟩ := hf
      refine h sa' sc' ⟨w', hbel⟩ ⟨hown.1, ?_⟩ hg'
      rw [List.flatMap_append, List.length_append]; exact ho'
end
def encInt (n : Int) : List Value := [.int .i64 n]
theorem encInt_len (n : Int) : (encInt n).length = 1 := rfl
theorem encInt_one (n : Int) : ∀ u ∈ encInt n, u.oneCell' = true := by intro u hu; simp [encInt] at hu; subst hu; rfl
theorem Sl.int {w : World} {a : Option Addr} {l : List Int} (h : Sl encInt w a l) {k : Nat} (hk : k < l.length) :
    ∃ b off s, a = some ⟨b, off, none⟩ ∧ LtN b w.heap.size ∧ Hid (l.drop k = s :: l.drop (k + 1)) ∧ (∀ (W : World) [Grows w W], W.cell? ⟨b, off + k, none⟩ = some (.int .i64 s)) := by
  obtain ⟨s, hs, hd⟩ := drop_at hk
  obtain ⟨b, off, ha, hb, hc⟩ := h k s hs
  exact ⟨b, off, s, ha, ⟨hb⟩, hd, cell_grown hb (by simpa [encInt] using hc 0 _ rfl)⟩
theorem grownBy_trans {w w1 w2 : World} {row : Option Nat} (h : w.grownBy w1 row) (k : w1.grownBy w2 row) : w.grownBy w2 row :=
  ⟨k.os.trans h.os, k.tape.trans h.tape, k.output.trans h.output, Nat.le_trans h.size k.size, fun i hi hr => (k.block i (Nat.lt_of_lt_of_le hi h.size) hr).trans (h.block i hi hr)⟩
theorem grownBy_refl (w : World) (row : Option Nat) : w.grownBy w row := ⟨rfl, rfl, rfl, Nat.le_refl _, fun _ _ _ => rfl⟩
end Go.Proofs.YtbaffippdifbpaaGreat
namespace Go.Proofs.YtbaffippdifbpaaGreat
set_option linter.unusedVariables false
open Go.ChangeShapes Go.WideShapes Go.ChangeAt Go.RowKit
def encByte (n : Int) : List Value := [.int .u8 n]
theorem Sl.byte {w : World} {a : Option Addr} {l : List Int} (h : Sl encByte w a l) {k : Nat} (hk : k < l.length) :
    ∃ b off s, a = some ⟨b, off, none⟩ ∧ LtN b w.heap.size ∧ Hid (l.drop k = s :: l.drop (k + 1)) ∧ (∀ (W : World) [Grows w W], W.cell? ⟨b, off + k, none⟩ = some (.int .u8 s)) := by
  obtain ⟨s, hs, hd⟩ := drop_at hk
  obtain ⟨b, off, ha, hb, hc⟩ := h k s hs
  exact ⟨b, off, s, ha, ⟨hb⟩, hd, cell_grown hb (by simpa [encByte] using hc 0 _ rfl)⟩
@[go_sem] theorem i64_and255 (n : Int) : bits .and .i64 n 255 = n % 256 := by
  have h255 : (BitVec.ofInt 64 255).toNat = 2 ^ 8 - 1 := by decide
  have key : (BitVec.ofInt 64 n &&& BitVec.ofInt 64 255).toNat = (n % ((2 ^ 64 : Nat) : Int)).toNat % 2 ^ 8 := by
    rw [BitVec.toNat_and, BitVec.toNat_ofInt, h255, Nat.and_two_pow_sub_one_eq_mod]
  show IntKind.i64.wrap ((BitVec.ofInt 64 n &&& BitVec.ofInt 64 255).toNat : Nat) = n % 256
  rw [key, IntKind.wrap_i64]
  omega
theorem Sl.lit {α : Type} {enc : α → List Value} {W : World} {cs : Array Value} {T size : Nat} {l : List α} (hsz : ∀ x : α, (enc x).length = size) (h : cs.toList = l.flatMap enc) : Sl enc (W.alloc (.cells cs T)) (some ⟨W.heap.size, 0, none⟩) l := fun k y hy => by
  refine ⟨W.heap.size, 0, rfl, by simp, fun j v hv => ?_⟩
  rw [World.cell?_alloc_at _ _ _ _ rfl, ← Array.getElem?_toList, h, hsz, Nat.zero_add]
  exact flatMap_at hsz l k j y v hy hv
end Go.Proofs.YtbaffippdifbpaaGreat
namespace Go.Proofs.YtbaffippdifbpaaGreat
set_option linter.unusedVariables false
open Go.ChangeShapes Go.WideShapes Go.ChangeAt Go.RowKit
end Go.Proofs.YtbaffippdifbpaaGreat
namespace Go.Proofs.YtbaffippdifbpaaGreat
set_option linter.unusedVariables false
open Go.ChangeShapes Go.WideShapes Go.ChangeAt Go.RowKit
instance (priority := 800) Grows.andThen2 (a : World) {W : World} (x : Later W) (y : Later x.w) [h : Grows a y.w] : Grows a (x.andThen y).w := ⟨h.out⟩
instance (priority := 850) Grows.drawn (a : World) {W : World} (x : Later W) [h : Grows a x.w] : Grows a x.draw.w := ⟨h.out.drew⟩
instance LtN.drew (a : Nat) (W : World) [h : LtN a W.heap.size] : LtN a W.drew.heap.size := ⟨h.out⟩
instance LeN.drew (a : Nat) (W : World) [h : LeN a W.heap.size] : LeN a W.drew.heap.size := ⟨h.out⟩
section
variable {P : Program} {ops : Array Oper} {o : Oper} {a : Act} {w : World} {K : Act → World → Prop} {Q : Exit → Act → World → Prop} {E : Prop}
theorem step_of (hg : o.guard = none) (h : Oper.wp P o a w K Q) : if Region.wanted o (yielded ops a.tmps) = true then Oper.wp P o a w K Q else E := by
  rw [if_pos (by simp [Region.wanted, hg])]; exact h
theorem run_call {f : FuncId} {fn : Func} {xs : Array Operand} {ts : Array TypeId} (hop : o.op = .call { callee := .value (.func f), args := xs, argTypes := ts }) (hf : P.funcs[f]? = some fn) (hname : (fn.name == "runtime.NumGoroutine") = false) (hb : fn.body.isNone = false) :
    (execOp a.eval o).run P w = .ok (.enter f (xs.map a.eval)) w := by
  have h1 : fn.name ≠ "runtime.NumGoroutine" := by simpa using hname
  have h2 : fn.body ≠ none := by intro h; rw [h] at hb; simp at hb
  unfold execOp
  simp only [hop]
  simp [go_sem, resolve, invoke, callFunc, hf, h1, h2]
theorem step_call (hg : o.guard = none) {f : FuncId} {fn : Func} {xs : Array Operand} {ts : Array TypeId} (hop : o.op = .call { callee := .value (.func f), args := xs, argTypes := ts }) (hf : P.funcs[f]? = some fn) (hname : (fn.name == "runtime.NumGoroutine") = false) (hb : fn.body.isNone = false)
    (args : List Value) (hv : xs.toList.map a.eval = args) (hc : Calls P f args.toArray w fun e w' => ∃ v, e = .returned v ∧ K (a.put o.dst v) w') :
    if Region.wanted o (yielded ops a.tmps) = true then Oper.wp P o a w K Q else E := by
  refine step_of hg ?_
  unfold Oper.wp
  have hv' : xs.map a.eval = args.toArray := by apply Array.ext'; rw [Array.toList_map, hv]
  rw [run_call hop hf hname hb, hv', Oper.upon_enter]
  exact hc.mono fun e w' ⟨v, he, hk⟩ => by subst he; exact hk
theorem step_callw (hw : Region.wanted o (yielded ops a.tmps) = true) {f : FuncId} {fn : Func} {xs : Array Operand} {ts : Array TypeId} (hop : o.op = .call { callee := .value (.func f), args := xs, argTypes := ts }) (hf : P.funcs[f]? = some fn) (hname : (fn.name == "runtime.NumGoroutine") = false) (hb : fn.body.isNone = false)
    (args : List Value) (hv : xs.toList.map a.eval = args) (hc : Calls P f args.toArray w fun e w' => ∃ v, e = .returned v ∧ K (a.put o.dst v) w') :
    if Region.wanted o (yielded ops a.tmps) = true then Oper.wp P o a w K Q else E := by
  rw [if_pos hw]
  unfold Oper.wp
  have hv' : xs.map a.eval = args.toArray := by apply Array.ext'; rw [Array.toList_map, hv]
  rw [run_call hop hf hname hb, hv', Oper.upon_enter]
  exact hc.mono fun e w' ⟨v, he, hk⟩ => by subst he; exact hk
variable {α : Type} {enc : α → List Value} {T size : Nat}
end
theorem blk_alloc (w : World) (o : Obj) (g : Nat) (h : w.heap.size = g) : (w.alloc o).heap[g]? = some o := by
  subst h
  show (w.heap.push _)[w.heap.size]? = _
  simp
theorem blk_grows {w W : World} [gr : Grows w W] {o' : Obj} {g : Nat} (h : w.heap[g]? = some o') : W.heap[g]? = some o' := by
  rw [gr.out.block _ (Array.getElem?_eq_some_iff.1 h).1]; exact h
theorem Own.emptyAt {α : Type} {enc : α → List Value} {T size g : Nat} {W : World} (hsz : ∀ x : α, (enc x).length = size) {B : Nat} (hB : B ≤ W.heap.size) (hg : W.heap.size = g) : Own enc T size B (W.alloc (.cells #[] T)) (some ⟨g, 0, none⟩) 0 [] := hg ▸ Own.empty (T := T) (size := size) (B := B) hsz (Later.here (W.alloc (.cells #[] T))) hB
theorem blk_grown {w w' : World} {row : Option Nat} {o' : Obj} {g : Nat} (hg : w.grownBy w' row) (h : w.heap[g]? = some o') (hne : some g ≠ row) : w'.heap[g]? = some o' := by
  rw [hg.block _ (Array.getElem?_eq_some_iff.1 h).1 hne]; exact h
theorem GivesSl.nilOf {α : Type} {enc : α → List Value} {T size : Nat} {w w' : World} {l : List α} (hsz : ∀ x : α, (enc x).length = size) (hl : l = []) [h : Grows w w'] : GivesSl enc T size w l (.returned (.slice none 0 0)) w' :=
  ⟨none, 0, by rw [hl]; rfl, by rw [hl]; exact Own.nil hsz, ⟨w', h.out⟩, rfl⟩
end Go.Proofs.YtbaffippdifbpaaGreat
namespace Go.Proofs.YtbaffippdifbpaaGreat
set_option linter.unusedVariables false
open Go.ChangeShapes Go.WideShapes Go.ChangeAt Go.RowKit
structure Slot where
  Time : Int
  Id : Int
def encSlot (s : Slot) : List Value := [.int .i64 s.Time, .int .i64 s.Id]
theorem encSlot_len (s : Slot) : (encSlot s).length = 2 := rfl
theorem Sl.slot {w : World} {a : Option Addr} {l : List Slot} (h : Sl encSlot w a l) {k : Nat} (hk : k < l.length) :
    ∃ b off s, a = some ⟨b, off, none⟩ ∧ LtN b w.heap.size ∧ Hid (l.drop k = s :: l.drop (k + 1)) ∧ (∀ (W : World) [Grows w W], W.cell? ⟨b, off + k * 2, none⟩ = some (.int .i64 s.Time)) ∧ (∀ (W : World) [Grows w W], W.cell? ⟨b, off + k * 2 + 1, none⟩ = some (.int .i64 s.Id)) := by
  obtain ⟨s, hs, hd⟩ := drop_at hk
  obtain ⟨b, off, ha, hb, hc⟩ := h k s hs
  exact ⟨b, off, s, ha, ⟨hb⟩, hd, cell_grown hb (hc 0 _ rfl), cell_grown hb (hc 1 _ rfl)⟩
structure Pair where
  Board : Int
  True : Int
def encPair (s : Pair) : List Value := [.int .i64 s.Board, .int .i64 s.True]
theorem encPair_len (s : Pair) : (encPair s).length = 2 := rfl
theorem Sl.pair {w : World} {a : Option Addr} {l : List Pair} (h : Sl encPair w a l) {k : Nat} (hk : k < l.length) :
    ∃ b off s, a = some ⟨b, off, none⟩ ∧ LtN b w.heap.size ∧ Hid (l.drop k = s :: l.drop (k + 1)) ∧ (∀ (W : World) [Grows w W], W.cell? ⟨b, off + k * 2, none⟩ = some (.int .i64 s.Board)) ∧ (∀ (W : World) [Grows w W], W.cell? ⟨b, off + k * 2 + 1, none⟩ = some (.int .i64 s.True)) := by
  obtain ⟨s, hs, hd⟩ := drop_at hk
  obtain ⟨b, off, ha, hb, hc⟩ := h k s hs
  exact ⟨b, off, s, ha, ⟨hb⟩, hd, cell_grown hb (hc 0 _ rfl), cell_grown hb (hc 1 _ rfl)⟩
end Go.Proofs.YtbaffippdifbpaaGreat
namespace Go.Proofs.YtbaffippdifbpaaGreat
set_option linter.unusedVariables false
open Go.ChangeShapes Go.WideShapes Go.ChangeAt Go.RowKit
theorem fset1 {α : Type} {enc : α → List Value} (hsz : ∀ x : α, (enc x).length = 1) {y : α} {v0 : Value} (hy : enc y = [v0]) : ∀ (l : List α) (j : Nat), j < l.length → (l.flatMap enc).set (j) v0 = (l.set j y).flatMap enc
  | [], j, h => by simp at h
  | x :: l, 0, _ => by
    have hx := hsz x
    match he : enc x, hx with
    | [u0], _ => simp [List.flatMap_cons, he, hy]
  | x :: l, j + 1, h => by
    have ih := fset1 hsz hy l j (by simpa using h)
    rw [List.flatMap_cons, List.set_cons_succ, List.flatMap_cons, ← ih]
    have hx := hsz x
    match he : enc x, hx with
    | [u0], _ =>
      simp
theorem fset2 {α : Type} {enc : α → List Value} (hsz : ∀ x : α, (enc x).length = 2) {y : α} {v0 v1 : Value} (hy : enc y = [v0, v1]) : ∀ (l : List α) (j : Nat), j < l.length → ((l.flatMap enc).set (j * 2) v0).set (j * 2 + 1) v1 = (l.set j y).flatMap enc
  | [], j, h => by simp at h
  | x :: l, 0, _ => by
    have hx := hsz x
    match he : enc x, hx with
    | [u0, u1], _ => simp [List.flatMap_cons, he, hy]
  | x :: l, j + 1, h => by
    have ih := fset2 hsz hy l j (by simpa using h)
    rw [List.flatMap_cons, List.set_cons_succ, List.flatMap_cons, ← ih]
    have hx := hsz x
    match he : enc x, hx with
    | [u0, u1], _ =>
      rw [show (j + 1) * 2 = j * 2 + 2 from by omega]; simp
theorem fset3 {α : Type} {enc : α → List Value} (hsz : ∀ x : α, (enc x).length = 3) {y : α} {v0 v1 v2 : Value} (hy : enc y = [v0, v1, v2]) : ∀ (l : List α) (j : Nat), j < l.length → (((l.flatMap enc).set (j * 3) v0).set (j * 3 + 1) v1).set (j * 3 + 2) v2 = (l.set j y).flatMap enc
  | [], j, h => by simp at h
  | x :: l, 0, _ => by
    have hx := hsz x
    match he : enc x, hx with
    | [u0, u1, u2], _ => simp [List.flatMap_cons, he, hy]
  | x :: l, j + 1, h => by
    have ih := fset3 hsz hy l j (by simpa using h)
    rw [List.flatMap_cons, List.set_cons_succ, List.flatMap_cons, ← ih]
    have hx := hsz x
    match he : enc x, hx with
    | [u0, u1, u2], _ =>
      rw [show (j + 1) * 3 = j * 3 + 3 from by omega]; simp
theorem fset4 {α : Type} {enc : α → List Value} (hsz : ∀ x : α, (enc x).length = 4) {y : α} {v0 v1 v2 v3 : Value} (hy : enc y = [v0, v1, v2, v3]) : ∀ (l : List α) (j : Nat), j < l.length → ((((l.flatMap enc).set (j * 4) v0).set (j * 4 + 1) v1).set (j * 4 + 2) v2).set (j * 4 + 3) v3 = (l.set j y).flatMap enc
  | [], j, h => by simp at h
  | x :: l, 0, _ => by
    have hx := hsz x
    match he : enc x, hx with
    | [u0, u1, u2, u3], _ => simp [List.flatMap_cons, he, hy]
  | x :: l, j + 1, h => by
    have ih := fset4 hsz hy l j (by simpa using h)
    rw [List.flatMap_cons, List.set_cons_succ, List.flatMap_cons, ← ih]
    have hx := hsz x
    match he : enc x, hx with
    | [u0, u1, u2, u3], _ =>
      rw [show (j + 1) * 4 = j * 4 + 4 from by omega]; simp
def mixed {α : Type} (mk : Nat → α) (l : List α) (j : Nat) : List α := (List.range j).map mk ++ l.drop j
theorem mixed_length {α : Type} {mk : Nat → α} {l : List α} {j : Nat} (hj : j ≤ l.length) : (mixed mk l j).length = l.length := by simp [mixed]; omega
theorem mixed_set {α : Type} {mk : Nat → α} {l : List α} {j : Nat} (hj : j < l.length) : (mixed mk l j).set j (mk j) = mixed mk l (j + 1) := by
  have e : ∀ y : α, (l.drop j).set 0 y = y :: l.drop (j + 1) := fun y => by rw [List.drop_eq_getElem_cons hj]; rfl
  unfold mixed
  rw [List.set_append_right _ _ (by simp), List.range_succ, List.map_append]
  simp [e]
theorem mixed_zero {α : Type} {mk : Nat → α} {l : List α} : mixed mk l 0 = l := by simp [mixed]
theorem mixed_all {α : Type} {mk : Nat → α} {l : List α} : mixed mk l l.length = (List.range l.length).map mk := by simp [mixed]
theorem Own.open {α : Type} {enc : α → List Value} {T size B n : Nat} {w : World} {a : Option Addr} {c : Nat} {l : List α} (h : Own enc T size B w a c l) (hn : 0 < l.length) :
    ∃ g, a = some ⟨g, 0, none⟩ ∧ B ≤ g ∧ g < w.heap.size := by
  obtain ⟨hsz, hlen, h1 | ⟨g, cap, cur, hv, hg, hh, -⟩⟩ := h
  · omega
  · simp only [Value.slice.injEq] at hv
    exact ⟨g, hv.1, hg, (Array.getElem?_eq_some_iff.1 hh).1⟩
theorem Own.cells {α : Type} {enc : α → List Value} {T size B g : Nat} {w : World} {c : Nat} {l : List α} (h : Own enc T size B w (some ⟨g, 0, none⟩) c l) {j : Nat} (hj : j < l.length * size) : ∃ v, w.cell? ⟨g, j, none⟩ = some v := by
  have h1 := h.2.cellAt (n := l.length) j hj
  exact ⟨_, h1.trans (List.getElem?_eq_getElem (by rw [flatMap_length h.1]; exact hj))⟩
theorem Own.free {α : Type} {enc : α → List Value} {T size B g : Nat} {w : World} {c : Nat} {l : List α} (h : Own enc T size B w (some ⟨g, 0, none⟩) c l) (j : Nat) : w.frozen? ⟨g, j, none⟩ = false := h.2.frozenAt j
def Marks {α : Type} (enc : α → List Value) (T size B : Nat) (w : World) (a : Option Addr) (n c : Nat) (l' : List α) (k : Int) : Ending → World → Prop := fun e w' =>
  e = .returned (.int .i64 k) ∧ w.grownBy w' (Value.ownBlock (.slice a n c)) ∧ Own enc T size B w' a c l'
theorem Own.put1 {α : Type} {enc : α → List Value} {T B g : Nat} {w : World} {c : Nat} {l : List α} (h : Own enc T 1 B w (some ⟨g, 0, none⟩) c l) {j : Nat} (hj : j < l.length) {y : α} {v0 : Value} (hy : enc y = [v0]) :
    Own enc T 1 B ((w).setCell ⟨g, j, none⟩ v0) (some ⟨g, 0, none⟩) c (l.set j y) ∧ w.grownBy ((w).setCell ⟨g, j, none⟩ v0) (some g) := by
  have s0 := (h.2).stored (j) v0
  refine ⟨⟨h.1, ?_⟩, s0.2⟩
  rw [← fset1 h.1 hy l j hj, List.length_set]
  exact s0.1
theorem Own.put2 {α : Type} {enc : α → List Value} {T B g : Nat} {w : World} {c : Nat} {l : List α} (h : Own enc T 2 B w (some ⟨g, 0, none⟩) c l) {j : Nat} (hj : j < l.length) {y : α} {v0 v1 : Value} (hy : enc y = [v0, v1]) :
    Own enc T 2 B (((w).setCell ⟨g, j * 2, none⟩ v0).setCell ⟨g, j * 2 + 1, none⟩ v1) (some ⟨g, 0, none⟩) c (l.set j y) ∧ w.grownBy (((w).setCell ⟨g, j * 2, none⟩ v0).setCell ⟨g, j * 2 + 1, none⟩ v1) (some g) := by
  have s0 := (h.2).stored (j * 2) v0
  have s1 := (s0.1).stored (j * 2 + 1) v1
  refine ⟨⟨h.1, ?_⟩, (grownBy_trans s0.2 s1.2)⟩
  rw [← fset2 h.1 hy l j hj, List.length_set]
  exact s1.1
theorem Own.put3 {α : Type} {enc : α → List Value} {T B g : Nat} {w : World} {c : Nat} {l : List α} (h : Own enc T 3 B w (some ⟨g, 0, none⟩) c l) {j : Nat} (hj : j < l.length) {y : α} {v0 v1 v2 : Value} (hy : enc y = [v0, v1, v2]) :
    Own enc T 3 B ((((w).setCell ⟨g, j * 3, none⟩ v0).setCell ⟨g, j * 3 + 1, none⟩ v1).setCell ⟨g, j * 3 + 2, none⟩ v2) (some ⟨g, 0, none⟩) c (l.set j y) ∧ w.grownBy ((((w).setCell ⟨g, j * 3, none⟩ v0).setCell ⟨g, j * 3 + 1, none⟩ v1).setCell ⟨g, j * 3 + 2, none⟩ v2) (some g) := by
  have s0 := (h.2).stored (j * 3) v0
  have s1 := (s0.1).stored (j * 3 + 1) v1
  have s2 := (s1.1).stored (j * 3 + 2) v2
  refine ⟨⟨h.1, ?_⟩, (grownBy_trans (grownBy_trans s0.2 s1.2) s2.2)⟩
  rw [← fset3 h.1 hy l j hj, List.length_set]
  exact s2.1
theorem Own.put4 {α : Type} {enc : α → List Value} {T B g : Nat} {w : World} {c : Nat} {l : List α} (h : Own enc T 4 B w (some ⟨g, 0, none⟩) c l) {j : Nat} (hj : j < l.length) {y : α} {v0 v1 v2 v3 : Value} (hy : enc y = [v0, v1, v2, v3]) :
    Own enc T 4 B (((((w).setCell ⟨g, j * 4, none⟩ v0).setCell ⟨g, j * 4 + 1, none⟩ v1).setCell ⟨g, j * 4 + 2, none⟩ v2).setCell ⟨g, j * 4 + 3, none⟩ v3) (some ⟨g, 0, none⟩) c (l.set j y) ∧ w.grownBy (((((w).setCell ⟨g, j * 4, none⟩ v0).setCell ⟨g, j * 4 + 1, none⟩ v1).setCell ⟨g, j * 4 + 2, none⟩ v2).setCell ⟨g, j * 4 + 3, none⟩ v3) (some g) := by
  have s0 := (h.2).stored (j * 4) v0
  have s1 := (s0.1).stored (j * 4 + 1) v1
  have s2 := (s1.1).stored (j * 4 + 2) v2
  have s3 := (s2.1).stored (j * 4 + 3) v3
  refine ⟨⟨h.1, ?_⟩, (grownBy_trans (grownBy_trans (grownBy_trans s0.2 s1.2) s2.2) s3.2)⟩
  rw [← fset4 h.1 hy l j hj, List.length_set]
  exact s3.1
def mkSlot (k0 : Int) (i : Nat) : Slot := (⟨k0 + i * 2, k0 + i * 2 + 1⟩ : Slot)
theorem c_lmarkSlotS {a : Option Addr} {n c B : Nat} {k0 : Int} {l : List Slot} {w : World} (hown0 : Own encSlot 205 2 B w a c l) (hn : l.length = n) (hm : n ≤ 100000000) (h1 : 0 ≤ k0) (h2 : k0 ≤ 1000000000000) :
    Calls Tryz.prog 80 #[.slice a n c, .int .i64 k0] w (Marks encSlot 205 2 B w a n c ((List.range n).map (mkSlot k0)) (k0 + n * 2)) := by
  go_enter Tryz.func80, Tryz.ntmps80
  go_wp2_with fail
  go_loopw [1, 5] (fun u v wr => ∃ j : Nat, v = .int .i64 j ∧ u = .int .i64 (k0 + j * 2) ∧ j ≤ n ∧ w.grownBy wr (Value.ownBlock (.slice a n c)) ∧ Own encSlot 205 2 B wr a c (mixed (mkSlot k0) l j)) (fun _ v _ => (n - intOf v).toNat)
  case atStart => exact ⟨0, rfl, by simp, by omega, grownBy_refl _ _, by rw [mixed_zero]; exact hown0⟩
  case round =>
    obtain ⟨j, rfl, rfl, hj, hgr, hown⟩ := hrel
    by_cases h : j < n
    · obtain ⟨g, rfl, hB, hlt⟩ := hown.open (n := n) (by rw [mixed_length (by omega)]; omega)
      obtain ⟨o0, g0⟩ := hown.cells (j := j * 2) (by rw [mixed_length (by omega)]; omega); obtain ⟨o1, g1⟩ := hown.cells (j := j * 2 + 1) (by rw [mixed_length (by omega)]; omega);
      have f0 := hown.free (j * 2); have f1 := hown.free (j * 2 + 1);
      have HG := Lib.hid hgr; clear hgr
      go_wp2_with fail
      go_roundw
      case rel =>
        have hp := hown.put2 (j := j) (y := mkSlot k0 j) (by rw [mixed_length (by omega)]; omega) rfl
        exact ⟨j + 1, by go_num, by go_num, by omega, grownBy_trans HG.out hp.2, by rw [← mixed_set (by omega)]; exact hp.1⟩
      case measure => simp [intOf]; omega
    · go_wp2_with fail
      go_ret
      obtain rfl : j = n := by omega
      refine ⟨rfl, hgr, ?_⟩
      rw [← hn, mixed_all] at hown
      rw [← hn]; exact hown
theorem c_lheldSlotS {a : Option Addr} {n c : Nat} {k0 : Int} {w : World} (hs : Sl encSlot w a ((List.range n).map (mkSlot k0))) (hm : n ≤ 100000000) (h1 : 0 ≤ k0) (h2 : k0 ≤ 1000000000000) :
    Calls Tryz.prog 84 #[.slice a n c, .int .i64 k0] w (Gives w (.int .i64 (k0 + n * 2))) := by
  go_enter Tryz.func84, Tryz.ntmps84
  go_wp2_with fail
  go_loopw [1, 5] (fun u v wr => ∃ j : Nat, v = .int .i64 j ∧ u = .int .i64 (k0 + j * 2) ∧ j ≤ n ∧ ∃ x : Later w, wr = x.w) (fun _ v _ => (n - intOf v).toNat)
  case atStart => exact ⟨0, rfl, by simp, by omega, Later.of⟩
  case round =>
    obtain ⟨j, rfl, rfl, hj, x0, rfl⟩ := hrel
    by_cases h : j < n
    · obtain ⟨b, off, s, rfl, hb, hd, e0, e1⟩ := hs.slot (k := j) (by simpa using h)
      obtain rfl : s = mkSlot k0 j := by
        have := congrArg (fun m => m[0]?) hd.out
        simpa [h] using this.symm
      simp only [mkSlot] at e0 e1
      clear hd
      go_wp2_with fail
      go_roundw
      case rel => exact ⟨j + 1, by go_num, by go_num, by omega, Later.of⟩
      case measure => simp [intOf]; omega
    · go_wp2_with fail
      go_ret
      obtain rfl : j = n := by omega
      exact Gives.mk rfl
def mkPair (k0 : Int) (i : Nat) : Pair := (⟨k0 + i * 2, k0 + i * 2 + 1⟩ : Pair)
theorem c_lmarkPairS {a : Option Addr} {n c B : Nat} {k0 : Int} {l : List Pair} {w : World} (hown0 : Own encPair 221 2 B w a c l) (hn : l.length = n) (hm : n ≤ 100000000) (h1 : 0 ≤ k0) (h2 : k0 ≤ 1000000000000) :
    Calls Tryz.prog 172 #[.slice a n c, .int .i64 k0] w (Marks encPair 221 2 B w a n c ((List.range n).map (mkPair k0)) (k0 + n * 2)) := by
  go_enter Tryz.func172, Tryz.ntmps172
  go_wp2_with fail
  go_loopw [1, 5] (fun u v wr => ∃ j : Nat, v = .int .i64 j ∧ u = .int .i64 (k0 + j * 2) ∧ j ≤ n ∧ w.grownBy wr (Value.ownBlock (.slice a n c)) ∧ Own encPair 221 2 B wr a c (mixed (mkPair k0) l j)) (fun _ v _ => (n - intOf v).toNat)
  case atStart => exact ⟨0, rfl, by simp, by omega, grownBy_refl _ _, by rw [mixed_zero]; exact hown0⟩
  case round =>
    obtain ⟨j, rfl, rfl, hj, hgr, hown⟩ := hrel
    by_cases h : j < n
    · obtain ⟨g, rfl, hB, hlt⟩ := hown.open (n := n) (by rw [mixed_length (by omega)]; omega)
      obtain ⟨o0, g0⟩ := hown.cells (j := j * 2) (by rw [mixed_length (by omega)]; omega); obtain ⟨o1, g1⟩ := hown.cells (j := j * 2 + 1) (by rw [mixed_length (by omega)]; omega);
      have f0 := hown.free (j * 2); have f1 := hown.free (j * 2 + 1);
      have HG := Lib.hid hgr; clear hgr
      go_wp2_with fail
      go_roundw
      case rel =>
        have hp := hown.put2 (j := j) (y := mkPair k0 j) (by rw [mixed_length (by omega)]; omega) rfl
        exact ⟨j + 1, by go_num, by go_num, by omega, grownBy_trans HG.out hp.2, by rw [← mixed_set (by omega)]; exact hp.1⟩
      case measure => simp [intOf]; omega
    · go_wp2_with fail
      go_ret
      obtain rfl : j = n := by omega
      refine ⟨rfl, hgr, ?_⟩
      rw [← hn, mixed_all] at hown
      rw [← hn]; exact hown
theorem c_lheldPairS {a : Option Addr} {n c : Nat} {k0 : Int} {w : World} (hs : Sl encPair w a ((List.range n).map (mkPair k0))) (hm : n ≤ 100000000) (h1 : 0 ≤ k0) (h2 : k0 ≤ 1000000000000) :
    Calls Tryz.prog 180 #[.slice a n c, .int .i64 k0] w (Gives w (.int .i64 (k0 + n * 2))) := by
  go_enter Tryz.func180, Tryz.ntmps180
  go_wp2_with fail
  go_loopw [1, 5] (fun u v wr => ∃ j : Nat, v = .int .i64 j ∧ u = .int .i64 (k0 + j * 2) ∧ j ≤ n ∧ ∃ x : Later w, wr = x.w) (fun _ v _ => (n - intOf v).toNat)
  case atStart => exact ⟨0, rfl, by simp, by omega, Later.of⟩
  case round =>
    obtain ⟨j, rfl, rfl, hj, x0, rfl⟩ := hrel
    by_cases h : j < n
    · obtain ⟨b, off, s, rfl, hb, hd, e0, e1⟩ := hs.pair (k := j) (by simpa using h)
      obtain rfl : s = mkPair k0 j := by
        have := congrArg (fun m => m[0]?) hd.out
        simpa [h] using this.symm
      simp only [mkPair] at e0 e1
      clear hd
      go_wp2_with fail
      go_roundw
      case rel => exact ⟨j + 1, by go_num, by go_num, by omega, Later.of⟩
      case measure => simp [intOf]; omega
    · go_wp2_with fail
      go_ret
      obtain rfl : j = n := by omega
      exact Gives.mk rfl
def mkInt (k0 : Int) (i : Nat) : Int := (k0 + i)
theorem c_lmarkIntS {a : Option Addr} {n c B : Nat} {k0 : Int} {l : List Int} {w : World} (hown0 : Own encInt 3 1 B w a c l) (hn : l.length = n) (hm : n ≤ 100000000) (h1 : 0 ≤ k0) (h2 : k0 ≤ 1000000000000) :
    Calls Tryz.prog 263 #[.slice a n c, .int .i64 k0] w (Marks encInt 3 1 B w a n c ((List.range n).map (mkInt k0)) (k0 + n * 1)) := by
  go_enter Tryz.func263, Tryz.ntmps263
  go_wp2_with fail
  go_loopw [1, 5] (fun u v wr => ∃ j : Nat, v = .int .i64 j ∧ u = .int .i64 (k0 + j * 1) ∧ j ≤ n ∧ w.grownBy wr (Value.ownBlock (.slice a n c)) ∧ Own encInt 3 1 B wr a c (mixed (mkInt k0) l j)) (fun _ v _ => (n - intOf v).toNat)
  case atStart => exact ⟨0, rfl, by simp, by omega, grownBy_refl _ _, by rw [mixed_zero]; exact hown0⟩
  case round =>
    obtain ⟨j, rfl, rfl, hj, hgr, hown⟩ := hrel
    by_cases h : j < n
    · obtain ⟨g, rfl, hB, hlt⟩ := hown.open (n := n) (by rw [mixed_length (by omega)]; omega)
      obtain ⟨o0, g0⟩ := hown.cells (j := j) (by rw [mixed_length (by omega)]; omega);
      have f0 := hown.free (j);
      have HG := Lib.hid hgr; clear hgr
      go_wp2_with fail
      go_roundw
      case rel =>
        have hp := hown.put1 (j := j) (y := mkInt k0 j) (by rw [mixed_length (by omega)]; omega) rfl
        exact ⟨j + 1, by go_num, by go_num, by omega, grownBy_trans HG.out hp.2, by rw [← mixed_set (by omega)]; exact hp.1⟩
      case measure => simp [intOf]; omega
    · go_wp2_with fail
      go_ret
      obtain rfl : j = n := by omega
      refine ⟨rfl, hgr, ?_⟩
      rw [← hn, mixed_all] at hown
      rw [← hn]; exact hown
theorem c_lheldIntS {a : Option Addr} {n c : Nat} {k0 : Int} {w : World} (hs : Sl encInt w a ((List.range n).map (mkInt k0))) (hm : n ≤ 100000000) (h1 : 0 ≤ k0) (h2 : k0 ≤ 1000000000000) :
    Calls Tryz.prog 268 #[.slice a n c, .int .i64 k0] w (Gives w (.int .i64 (k0 + n * 1))) := by
  go_enter Tryz.func268, Tryz.ntmps268
  go_wp2_with fail
  go_loopw [1, 5] (fun u v wr => ∃ j : Nat, v = .int .i64 j ∧ u = .int .i64 (k0 + j * 1) ∧ j ≤ n ∧ ∃ x : Later w, wr = x.w) (fun _ v _ => (n - intOf v).toNat)
  case atStart => exact ⟨0, rfl, by simp, by omega, Later.of⟩
  case round =>
    obtain ⟨j, rfl, rfl, hj, x0, rfl⟩ := hrel
    by_cases h : j < n
    · obtain ⟨b, off, s, rfl, hb, hd, e0⟩ := hs.int (k := j) (by simpa using h)
      obtain rfl : s = mkInt k0 j := by
        have := congrArg (fun m => m[0]?) hd.out
        simpa [h] using this.symm
      simp only [mkInt] at e0
      clear hd
      go_wp2_with fail
      go_roundw
      case rel => exact ⟨j + 1, by go_num, by go_num, by omega, Later.of⟩
      case measure => simp [intOf]; omega
    · go_wp2_with fail
      go_ret
      obtain rfl : j = n := by omega
      exact Gives.mk rfl
end Go.Proofs.YtbaffippdifbpaaGreat
namespace Go.Proofs.YtbaffippdifbpaaGreat
set_option linter.unusedVariables false
open Go.ChangeShapes Go.WideShapes Go.ChangeAt Go.RowKit
def Held (w : World) (b : Nat) (cs : List Value) (T : TypeId) : Prop := w.heap[b]? = some (.cells cs.toArray T (0, 0))
theorem Held.new (W : World) (cs : List Value) (T g : Nat) (hg : W.heap.size = g) : Held (W.alloc (.cells cs.toArray T)) g cs T := blk_alloc W _ g hg
theorem Held.to {w W : World} {b : Nat} {cs : List Value} {T : TypeId} (h : Held w b cs T) (g : Grows w W) : Held W b cs T := blk_grows (gr := g) h
theorem Held.lt {w : World} {b : Nat} {cs : List Value} {T : TypeId} (h : Held w b cs T) : b < w.heap.size := (Array.getElem?_eq_some_iff.1 h).1
theorem Held.cell {w : World} {b : Nat} {cs : List Value} {T : TypeId} (h : Held w b cs T) (i : Nat) : w.cell? ⟨b, i, none⟩ = cs[i]? := by simp [World.cell?, show w.heap[b]? = _ from h]
theorem Held.free {w : World} {b : Nat} {cs : List Value} {T : TypeId} (h : Held w b cs T) (i : Nat) : w.frozen? ⟨b, i, none⟩ = false := by simp [World.frozen?, show w.heap[b]? = _ from h]
theorem Held.set {w : World} {b : Nat} {cs : List Value} {T : TypeId} (h : Held w b cs T) (i : Nat) (v : Value) : Held (w.setCell ⟨b, i, none⟩ v) b (cs.set i v) T := by
  have h' : w.heap[b]? = some (.cells cs.toArray T (0, 0)) := h
  unfold Held World.setCell
  simp [Array.getElem?_modify, h']
theorem Held.cellG {w : World} {b : Nat} {cs : List Value} {T : TypeId} (h : Held w b cs T) (i : Nat) (v : Value) (hv : cs[i]? = some v) : ∀ (W : World) [Grows w W], W.cell? ⟨b, i, none⟩ = some v := fun W g => by rw [(h.to g).cell i]; exact hv
theorem okWide_struct {P : Program} {w : World} {r : Reach} {base : Nat} {t : TypeId} {v : Value} {fs : Array Field} (ht : P.underlying t = some (.struct fs)) (h : Value.okWide P w r base t v) : ∃ cs, v = .agg cs ∧ cs.size = P.cellsOf t := by
  simp only [Value.okWide, ht] at h
  obtain ⟨cs, h1, h2, -⟩ := h
  exact ⟨cs, h1, h2⟩
/-! ### Slices of numbers -/
theorem c_cloneInt {a : Option Addr} {n c : Nat} {l : List Int} {w : World} (hs : Sl encInt w a l) (hn : l.length = n) (hm : n ≤ 100000000) :
    Calls Tryz.prog 141 #[.slice a n c] w (GivesSl encInt 3 1 w l) := by
  cases a with
  | none =>
    have hl : l = [] := by
      cases l with
      | nil => rfl
      | cons y r => obtain ⟨b, off, h0, -⟩ := hs 0 y rfl; cases h0
    have hq := fun (w : World) => run_eql_slice_nil (P := Tryz.prog) w 48 3 none n c Tryz.underlying48
    simp only [Option.isNone] at hq
    have HL := Lib.hid hl; clear hl
    go_enter Tryz.func141, Tryz.ntmps141
    go_wp2_with fail
    go_ret
    exact GivesSl.nilOf encInt_len HL.out
  | some ad =>
    have hq := fun (w : World) => run_eql_slice_nil (P := Tryz.prog) w 48 3 (some ad) n c Tryz.underlying48
    simp only [Option.isNone] at hq
    go_enter Tryz.func141, Tryz.ntmps141
    go_wp2_with (first | (at_builtin; refine wpList_appS (enc := encInt) (w0 := w) (z := .int .i64 0) (size := 1) (bytes := 8) (n := 0) (l := []) rfl (.tmp 5) (.tmp 6) rfl Tryz.underlying48 (by kernel_rfl) rfl (by decide) (by decide) rfl rfl (fun h => by cases h) rfl hn (Own.emptyAt encInt_len (Nat.le_refl _) rfl) (hs.to inferInstance) encInt_one (by omega) ?_; intro sa1 sc1 x1 hown1 hgr1))
    go_ret
    rw [List.nil_append] at hown1
    exact ⟨sa1, sc1, by rw [hn]; first | rfl | simp, hown1, Later.of⟩
end Go.Proofs.YtbaffippdifbpaaGreat
namespace Go.Proofs.YtbaffippdifbpaaGreat
set_option linter.unusedVariables false
open Go.ChangeShapes Go.WideShapes Go.ChangeAt Go.RowKit
class NeN (a b : Nat) : Prop where
  out : a ≠ b
instance (priority := 60) NeN.ofLt (a b : Nat) [h : LtN a b] : NeN a b := ⟨Nat.ne_of_lt h.out⟩
instance (priority := 55) NeN.ofGt (a b : Nat) [h : LtN b a] : NeN a b := ⟨Nat.ne_of_gt h.out⟩
theorem cell_farH (W : World) (b i b' j : Nat) (v : Value) (h : b ≠ b') : (W.setCell ⟨b, i, none⟩ v).cell? ⟨b', j, none⟩ = W.cell? ⟨b', j, none⟩ := World.cell?_setCell_far W ⟨b, i, none⟩ ⟨b', j, none⟩ v h
@[go_sem] theorem cell_farN (W : World) (b i b' j : Nat) (v : Value) [h : NeN b b'] : (W.setCell ⟨b, i, none⟩ v).cell? ⟨b', j, none⟩ = W.cell? ⟨b', j, none⟩ := cell_farH W b i b' j v h.out
namespace Later
variable {W : World}
@[go_sem] theorem set_cell_far (x : Later W) (b i b' j : Nat) (v : Value) [h : NeN b b'] : (x.set ⟨b, i, none⟩ v).w.cell? ⟨b', j, none⟩ = x.w.cell? ⟨b', j, none⟩ := cell_farH x.w b i b' j v h.out
@[go_sem] theorem set_frozen (x : Later W) (b i : Nat) (v : Value) (p : Addr) : (x.set ⟨b, i, none⟩ v).w.frozen? p = x.w.frozen? p := by simp [Later.set]
end Later
instance Grows.setL (a : World) {W : World} (x : Later W) (b i : Nat) (v : Value) [h : Grows a x.w] [k : LeN a.heap.size b] : Grows a (x.set ⟨b, i, none⟩ v).w := ⟨h.out.setCell k.out v⟩
class SzN (g : Nat) (W : World) : Prop where
  out : W.heap.size = g
instance SzN.same (W : World) : SzN W.heap.size W := ⟨rfl⟩
instance SzN.set (g : Nat) {W : World} (x : Later W) (p : Addr) (v : Value) [h : SzN g x.w] : SzN g (x.set p v).w := ⟨by have := h.out; simpa [Later.set] using this⟩
instance SzN.setCell (g : Nat) (W : World) (p : Addr) (v : Value) [h : SzN g W] : SzN g (W.setCell p v) := ⟨by have := h.out; simpa using this⟩
instance SzN.drew (g : Nat) (W : World) [h : SzN g W] : SzN g W.drew := ⟨h.out⟩
@[go_sem] theorem cell_newN (W : World) (C : Array Value) (T : TypeId) (g i : Nat) [h : SzN g W] : (W.alloc (.cells C T)).cell? ⟨g, i, none⟩ = C[i]? := by
  have := blk_alloc W (.cells C T) g h.out
  simp [World.cell?, this]
@[go_sem] theorem frozen_newN (W : World) (C : Array Value) (T : TypeId) (g i : Nat) [h : SzN g W] : (W.alloc (.cells C T)).frozen? ⟨g, i, none⟩ = false := by
  have := blk_alloc W (.cells C T) g h.out
  simp [World.frozen?, this]
end Go.Proofs.YtbaffippdifbpaaGreat
namespace Go.Proofs.YtbaffippdifbpaaGreat
set_option linter.unusedVariables false
open Go.ChangeShapes Go.WideShapes Go.ChangeAt Go.RowKit
class Keeps (B : Nat) (w w' : World) : Prop where
  size : w.heap.size ≤ w'.heap.size
  block : ∀ b, B ≤ b → b < w.heap.size → w'.heap[b]? = w.heap[b]?
instance (priority := 2000) Keeps.same (B : Nat) (w : World) : Keeps B w w := ⟨Nat.le_refl _, fun _ _ _ => rfl⟩
theorem Keeps.trans {B : Nat} {a b c : World} (h : Keeps B a b) (k : Keeps B b c) : Keeps B a c := ⟨Nat.le_trans h.size k.size, fun i h1 h2 => (k.block i h1 (Nat.lt_of_lt_of_le h2 h.size)).trans (h.block i h1 h2)⟩
theorem Keeps.later' {B : Nat} {w W : World} (h : Keeps B w W) (x : Later W) : Keeps B w x.w := h.trans ⟨x.h.size, fun b _ h2 => x.h.block b h2⟩
instance (priority := 1500) Keeps.andThenSelf (B : Nat) {W : World} (x : Later W) (y : Later x.w) : Keeps B y.w (x.andThen y).w := ⟨Nat.le_refl _, fun _ _ _ => rfl⟩
instance (priority := 1400) Keeps.andThenMid (B : Nat) {W : World} (x : Later W) (y : Later x.w) : Keeps B x.w (x.andThen y).w := ⟨y.h.size, fun b _ h2 => y.h.block b h2⟩
instance (priority := 1300) Keeps.andThen (B : Nat) (a : World) {W : World} (x : Later W) (y : Later x.w) [h : Keeps B a x.w] : Keeps B a (x.andThen y).w := h.later' y
instance (priority := 1200) Keeps.drawn (B : Nat) (a : World) {W : World} (x : Later W) [h : Keeps B a x.w] : Keeps B a x.draw.w := ⟨h.size, h.block⟩
instance (priority := 1200) Keeps.drew (B : Nat) (a w : World) [h : Keeps B a w] : Keeps B a w.drew := ⟨h.size, h.block⟩
theorem Keeps.set' {B : Nat} {a w : World} (h : Keeps B a w) (b i : Nat) (v : Value) (k : b < B) : Keeps B a (w.setCell ⟨b, i, none⟩ v) := ⟨by simpa using h.size, fun c h1 h2 => by
  rw [Below.heap_setCell _ _ _ _ (fun e => by simp only at e; omega)]; exact h.block c h1 h2⟩
instance (priority := 1200) Keeps.setCell (B : Nat) (a w : World) (b i : Nat) (v : Value) [h : Keeps B a w] [k : LtN b B] : Keeps B a (w.setCell ⟨b, i, none⟩ v) := h.set' b i v k.out
instance (priority := 1200) Keeps.setL (B : Nat) (a : World) {W : World} (x : Later W) (b i : Nat) (v : Value) [h : Keeps B a x.w] [k : LtN b B] : Keeps B a (x.set ⟨b, i, none⟩ v).w := h.set' b i v k.out
instance (priority := 1250) Keeps.setL8 (B : Nat) (a : World) {W : World} (x : Later W) (b i0 i1 i2 i3 i4 i5 i6 i7 : Nat) (v0 v1 v2 v3 v4 v5 v6 v7 : Value) [h : Keeps B a x.w] [k : LtN b B] : Keeps B a ((((((((x.set ⟨b, i0, none⟩ v0).set ⟨b, i1, none⟩ v1).set ⟨b, i2, none⟩ v2).set ⟨b, i3, none⟩ v3).set ⟨b, i4, none⟩ v4).set ⟨b, i5, none⟩ v5).set ⟨b, i6, none⟩ v6).set ⟨b, i7, none⟩ v7).w :=
  (((((((h.set' b i0 v0 k.out).set' b i1 v1 k.out).set' b i2 v2 k.out).set' b i3 v3 k.out).set' b i4 v4 k.out).set' b i5 v5 k.out).set' b i6 v6 k.out).set' b i7 v7 k.out
instance (priority := 1200) Keeps.alloc (B : Nat) (a w : World) (o : Obj) [h : Keeps B a w] : Keeps B a (w.alloc o) := ⟨by have := h.size; simp; omega, fun b h1 h2 => by rw [Below.heap_alloc _ _ _ (Nat.lt_of_lt_of_le h2 h.size)]; exact h.block b h1 h2⟩
instance (priority := 1000) Keeps.later (B : Nat) (a : World) {W : World} (x : Later W) [h : Keeps B a W] : Keeps B a x.w := h.later' x
instance (priority := 100) Keeps.grows (B : Nat) (w W : World) [h : Grows w W] : Keeps B w W := ⟨h.out.size, fun b _ h2 => h.out.block b h2⟩
class Enc (α : Type) where
  size : Nat
  Rd : Nat → World → List Value → α → Prop
  len : ∀ {B w vs x}, Rd B w vs x → vs.length = size
  keep : ∀ {B w w' vs x}, Rd B w vs x → Keeps B w w' → Rd B w' vs x
  mono : ∀ {B B' w vs x}, Rd B w vs x → B' ≤ B → Rd B' w vs x
  tot : α → Int
  tot_nonneg : ∀ x, 0 ≤ tot x
def totL {α : Type} [Enc α] : List α → Int
  | [] => 0
  | x :: r => 1 + Enc.tot x + totL r
theorem totL_len {α : Type} [Enc α] (l : List α) : (l.length : Int) ≤ totL l := by
  induction l with
  | nil => simp [totL]
  | cons x r ih => have := Enc.tot_nonneg x; simp only [totL, List.length_cons]; omega
theorem totL_nonneg {α : Type} [Enc α] (l : List α) : 0 ≤ totL l := by have := totL_len l; omega
theorem totL_mem {α : Type} [Enc α] {l : List α} {x : α} (h : x ∈ l) : Enc.tot x ≤ totL l := by
  induction l with
  | nil => cases h
  | cons y r ih =>
    have h1 := totL_nonneg r; have h2 := Enc.tot_nonneg y
    simp only [totL]
    rcases List.mem_cons.1 h with rfl | h
    · omega
    · have := ih h; omega
def RdS {α : Type} [E : Enc α] (B : Nat) (w : World) (a : Option Addr) (c : Nat) (l : List α) : Prop :=
  l.length ≤ c ∧ c ≤ maxLen ∧ (a = none → c = 0) ∧ ∀ (i : Nat) (x : α), l[i]? = some x → ∃ b off vs, a = some ⟨b, off, none⟩ ∧ B ≤ b ∧ b < w.heap.size ∧ E.Rd B w vs x ∧ ∀ (j : Nat) (u : Value), vs[j]? = some u → w.cell? ⟨b, off + i * E.size + j, none⟩ = some u
section
variable {α : Type} [E : Enc α] {B : Nat} {w : World} {a : Option Addr} {c : Nat} {l : List α}
theorem RdS.max (h : RdS B w a c l) : l.length ≤ 9223372036854775807 := by have h1 := h.1; have h2 := h.2.1; unfold maxLen at h2; omega
theorem RdS.nilcap (h : RdS B w a c l) : a = none → c = 0 := h.2.2.1
theorem RdS.keep {w' : World} (h : RdS B w a c l) (k : Keeps B w w') : RdS B w' a c l := by
  refine ⟨h.1, h.2.1, h.2.2.1, fun i x hx => ?_⟩
  obtain ⟨b, off, vs, rfl, h1, h2, h3, h4⟩ := h.2.2.2 i x hx
  exact ⟨b, off, vs, rfl, h1, Nat.lt_of_lt_of_le h2 k.size, E.keep h3 k, fun j u hu => by rw [World.cell?_of_block (w := w) (k.block b h1 h2)]; exact h4 j u hu⟩
theorem RdS.mono {B' : Nat} (h : RdS B w a c l) (k : B' ≤ B) : RdS B' w a c l := by
  refine ⟨h.1, h.2.1, h.2.2.1, fun i x hx => ?_⟩
  obtain ⟨b, off, vs, rfl, h1, h2, h3, h4⟩ := h.2.2.2 i x hx
  exact ⟨b, off, vs, rfl, by omega, h2, E.mono h3 k, h4⟩
theorem RdS.to {w' : World} (h : RdS B w a c l) (g : Keeps B w w') : RdS B w' a c l := h.keep g
theorem RdS.nil : RdS B w none 0 ([] : List α) := ⟨Nat.le_refl _, by unfold maxLen; omega, fun _ => rfl, fun i x h => by simp at h⟩
theorem RdS.at (h : RdS B w a c l) {k : Nat} (hk : k < l.length) : ∃ b off x vs, a = some ⟨b, off, none⟩ ∧ LtN b w.heap.size ∧ Hid (l.drop k = x :: l.drop (k + 1)) ∧ E.Rd B w vs x ∧ ∀ (j : Nat) (u : Value), vs[j]? = some u → w.cell? ⟨b, off + k * E.size + j, none⟩ = some u := by
  obtain ⟨x, hx, hd⟩ := drop_at hk
  obtain ⟨b, off, vs, h0, -, h2, h3, h4⟩ := h.2.2.2 k x hx
  exact ⟨b, off, x, vs, h0, ⟨h2⟩, hd, h3, h4⟩
end
def GivesD {α : Type} [E : Enc α] (w : World) (x : α) : Ending → World → Prop := fun e w' => ∃ vs : List Value, e = .returned (.agg vs.toArray) ∧ E.Rd w.heap.size w' vs x ∧ ∃ y : Later w, w' = y.w
instance Enc.int : Enc Int where
  size := 1
  Rd _ _ vs n := vs = [.int .i64 n] ∧ i64 n
  len h := by rw [h.1]; rfl
  keep h _ := h
  mono h _ := h
  tot _ := 0
  tot_nonneg _ := Int.le_refl _
instance Enc.bool : Enc Bool where
  size := 1
  Rd _ _ vs b := vs = [.bool b]
  len h := by rw [h]; rfl
  keep h _ := h
  mono h _ := h
  tot _ := 0
  tot_nonneg _ := Int.le_refl _
instance Enc.str : Enc ByteArray where
  size := 1
  Rd _ _ vs s := vs = [.string s] ∧ s.size ≤ 9223372036854775807
  len h := by rw [h.1]; rfl
  keep h _ := h
  mono h _ := h
  tot s := s.size
  tot_nonneg _ := by omega
/-! ### A block that is filled row by row -/
def RowsIn {α : Type} [E : Enc α] (B : Nat) (w : World) (D : Array Value) (l : List α) : Prop := ∀ (i : Nat) (x : α), l[i]? = some x → ∃ vs, E.Rd B w vs x ∧ ∀ (j : Nat) (u : Value), vs[j]? = some u → D[i * E.size + j]? = some u
def putAt (D : Array Value) (p j : Nat) : List Value → Array Value
  | [] => D
  | v :: r => putAt (D.setIfInBounds (p + j) v) p (j + 1) r
theorem putAt_low : ∀ (vs : List Value) (D : Array Value) (p j i : Nat), i < p + j → (putAt D p j vs)[i]? = D[i]?
  | [], D, p, j, i, h => rfl
  | v :: r, D, p, j, i, h => by
    rw [putAt, putAt_low r _ _ _ _ (by omega), Array.getElem?_setIfInBounds_ne (by omega)]
theorem putAt_new : ∀ (vs : List Value) (D : Array Value) (p j : Nat), p + j + vs.length ≤ D.size → ∀ (i : Nat) (u : Value), vs[i]? = some u → (putAt D p j vs)[p + j + i]? = some u
  | [], D, p, j, h, i, u, hu => by simp at hu
  | v :: r, D, p, j, h, 0, u, hu => by
    simp only [List.getElem?_cons_zero, Option.some.injEq] at hu
    subst hu
    simp only [List.length_cons] at h
    show (putAt (D.setIfInBounds (p + j) v) p (j + 1) r)[p + j]? = some v
    rw [putAt_low r _ _ _ _ (by omega), Array.getElem?_setIfInBounds_self_of_lt (by omega)]
  | v :: r, D, p, j, h, i + 1, u, hu => by
    simp only [List.length_cons] at h
    have := putAt_new r (D.setIfInBounds (p + j) v) p (j + 1) (by simp; omega) i u (by simpa using hu)
    rw [putAt, ← this]; congr 1; omega
theorem RowsIn.nil {α : Type} [E : Enc α] {B : Nat} {w : World} {D : Array Value} : RowsIn B w D ([] : List α) := fun i x h => by simp at h
theorem RowsIn.put {α : Type} [E : Enc α] {B n k : Nat} {W W' : World} {D : Array Value} {l r : List α} {x : α} {vs : List Value} (h : RowsIn B W D (l.take k)) (hd : l.drop k = x :: r) (hk : k < n) (hl : l.length = n) (hD : D.size = n * E.size) (hR : E.Rd B W' vs x) (g : Keeps B W W') :
    RowsIn B W' (putAt D (k * E.size) 0 vs) (l.take (k + 1)) := by
  have hkx : l[k]? = some x := by
    have := congrArg (fun m => m[0]?) hd
    simpa using this
  have hle : k * E.size + E.size ≤ n * E.size := by rw [← Nat.succ_mul]; exact Nat.mul_le_mul_right _ hk
  intro i y hy
  by_cases hi : i < k
  · obtain ⟨us, h1, h2⟩ := h i y (by rw [List.getElem?_take_of_lt (by omega)] at hy; rw [List.getElem?_take_of_lt hi]; exact hy)
    refine ⟨us, E.keep h1 g, fun j u hu => ?_⟩
    have hj : j < E.size := by rw [← E.len h1]; exact (List.getElem?_eq_some_iff.1 hu).1
    have : (i + 1) * E.size ≤ k * E.size := Nat.mul_le_mul_right _ hi
    rw [Nat.succ_mul] at this
    rw [putAt_low _ _ _ _ _ (by omega)]; exact h2 j u hu
  · have hik : i = k := by
      have := (List.getElem?_eq_some_iff.1 hy).1
      simp at this; omega
    subst hik
    rw [List.getElem?_take_of_lt (by omega), hkx] at hy
    cases hy
    refine ⟨vs, hR, fun j u hu => ?_⟩
    exact putAt_new vs D _ 0 (by rw [E.len hR]; omega) j u hu
theorem Later.set5_at {W : World} {C : Array Value} {T : TypeId} (x : Later (W.alloc (.cells C T))) (i i' i2 i3 i4 : Nat) (v v' v2 v3 v4 : Value) :
    ∃ y : Later (W.alloc (.cells (((((C.setIfInBounds i v).setIfInBounds i' v').setIfInBounds i2 v2).setIfInBounds i3 v3).setIfInBounds i4 v4) T)), (((((x.set ⟨W.heap.size, i, none⟩ v).set ⟨W.heap.size, i', none⟩ v').set ⟨W.heap.size, i2, none⟩ v2).set ⟨W.heap.size, i3, none⟩ v3).set ⟨W.heap.size, i4, none⟩ v4).w = y.w :=
  Later.cast (by rw [World.setCell_alloc_at C T _ i v rfl, World.setCell_alloc_at _ T _ i' v' rfl, World.setCell_alloc_at _ T _ i2 v2 rfl, World.setCell_alloc_at _ T _ i3 v3 rfl, World.setCell_alloc_at _ T _ i4 v4 rfl]) _
theorem openS {α : Type} [E : Enc α] {w : World} {es : List Cd} {v : Value} (hs : E.size = es.length) (hf : ∀ vs, vs.length = es.length → RdL w es vs → ∃ x : α, E.Rd 0 w vs x) (h : RdC w (.sl es) v) :
    ∃ a c l, v = .slice a l.length c ∧ RdS (α := α) 0 w a c l := by
  cases h with
  | nil => exact ⟨none, 0, [], rfl, RdS.nil⟩
  | @sl _ a n c U h0 h1 h2 h3 h4 =>
    have : ∀ i, i < n → ∃ x : α, ∃ vs, E.Rd 0 w vs x ∧ vs = (List.range es.length).map (U i) := fun i hi => by
      obtain ⟨x, hx⟩ := hf ((List.range es.length).map (U i)) (by simp) (fun j e hj => by
        have hj' : j < es.length := (List.getElem?_eq_some_iff.1 hj).1
        exact ⟨U i j, by simp [hj'], h4 i hi j e hj⟩)
      exact ⟨x, _, hx, rfl⟩
    obtain ⟨l, hl, hp⟩ := choose_list n this
    refine ⟨some a, c, l, by rw [hl], by rw [hl]; exact h1, h2, (by intro e; cases e), fun i x hx => ?_⟩
    obtain ⟨vs, hR, rfl⟩ := hp i x hx
    have hi : i < n := by rw [← hl]; exact (List.getElem?_eq_some_iff.1 hx).1
    obtain ⟨b, off, rfl, hb, -⟩ := h3 i hi 0 h0
    refine ⟨b, off, _, rfl, Nat.zero_le _, hb, hR, fun j u hu => ?_⟩
    have hj : j < es.length := by have := (List.getElem?_eq_some_iff.1 hu).1; simpa using this
    simp [hj] at hu
    subst hu
    obtain ⟨b', off', hbo, -, h6⟩ := h3 i hi j hj
    simp only [Addr.mk.injEq, and_true] at hbo
    obtain ⟨rfl, rfl⟩ := hbo
    rw [hs, Nat.add_assoc]; exact h6
theorem openInt {w : World} (vs : List Value) (hl : vs.length = 1) (h : RdL w [.int] vs) : ∃ x : Int, Enc.Rd 0 w vs x := by
  obtain ⟨u0, g0, r0⟩ := h.at (j := 0) rfl
  obtain ⟨x0, rfl, p0⟩ := r0.int_inv
  refine ⟨x0, list_all hl ?_, p0⟩
  intro j y hy
  match j, hy with
  | 0, hy => cases hy; exact g0
theorem openBool {w : World} (vs : List Value) (hl : vs.length = 1) (h : RdL w [.bool] vs) : ∃ x : Bool, Enc.Rd 0 w vs x := by
  obtain ⟨u0, g0, r0⟩ := h.at (j := 0) rfl
  obtain ⟨x0, rfl⟩ := r0.bool_inv
  refine ⟨x0, list_all hl ?_⟩
  intro j y hy
  match j, hy with
  | 0, hy => cases hy; exact g0
theorem openStr {w : World} (vs : List Value) (hl : vs.length = 1) (h : RdL w [.str] vs) : ∃ x : ByteArray, Enc.Rd 0 w vs x := by
  obtain ⟨u0, g0, r0⟩ := h.at (j := 0) rfl
  obtain ⟨x0, rfl, p0⟩ := r0.str_inv
  refine ⟨x0, list_all hl ?_, by unfold maxLen at p0; omega⟩
  intro j y hy
  match j, hy with
  | 0, hy => cases hy; exact g0
def szD (left : Int) (t : Int) : Int := if left - t < 0 then -1 else left - t
theorem szD_neg {l t : Int} (h : l - t < 0) : szD l t = -1 := if_pos h
theorem szD_pos {l t : Int} (h : ¬ l - t < 0) : szD l t = l - t := if_neg h
end Go.Proofs.YtbaffippdifbpaaGreat
namespace Go.Proofs.YtbaffippdifbpaaGreat
set_option linter.unusedVariables false
open Go.ChangeShapes Go.WideShapes Go.ChangeAt Go.RowKit
def splice : List Value → Nat → List Value → List Value
  | cs, _, [] => cs
  | cs, o, v :: r => splice (cs.set o v) (o + 1) r
theorem Held.setCells {b : Nat} {T : TypeId} : ∀ (us : List Value) {w : World} {cs : List Value} (o : Nat), Held w b cs T → Held (w.setCells b o us) b (splice cs o us) T
  | [], _, _, _, h => h
  | v :: r, _, _, o, h => (h.set o v).setCells r (o + 1)
theorem Keeps.setCells {B b : Nat} (hb : b < B) : ∀ (us : List Value) {a w : World} (o : Nat), Keeps B a w → Keeps B a (w.setCells b o us)
  | [], _, _, _, h => h
  | v :: r, _, _, o, h => Keeps.setCells hb r (o + 1) (h.set' b o v hb)
theorem below_setCells {B b : Nat} (hb : B ≤ b) : ∀ (us : List Value) {a w : World} (o : Nat), Below B a w → Below B a (w.setCells b o us)
  | [], _, _, _, h => h
  | v :: r, _, _, o, h => below_setCells hb r (o + 1) (h.setCell hb v)
theorem Held.range {w : World} {b : Nat} {cs row : List Value} {T : TypeId} (h : Held w b cs T) {o n : Nat} (hr : (cs.drop o).take n = row) : w.rangeAt b o row := fun j v hv => by
  rw [h.cell, ← hv, ← hr]
  have hj : j < n := by
    have := (List.getElem?_eq_some_iff.1 hv).1
    rw [← hr] at this
    simp at this; omega
  rw [List.getElem?_take_of_lt hj, List.getElem?_drop]
theorem Held.there {w : World} {b : Nat} {cs : List Value} {T : TypeId} (h : Held w b cs T) {o n : Nat} (hn : o + n ≤ cs.length) : w.there b o n := fun j hj => by
  rw [h.cell, h.free, List.getElem?_eq_getElem (by omega)]
  exact ⟨rfl, rfl⟩
section
variable {P : Program} {ops : Array Oper} {rest : List Oper} {op : Oper} {a : Act} {w : World} {Q : Exit → Act → World → Prop}
theorem run_storeVar_held {b o ty : Nat} {v : Value} {us : List Value} (hv : v.cells.toList = us) (ht : w.there b o us.length) (hi : (P.info? ty).map (·.size) = some us.length) (h1 : ∀ u ∈ us, u.oneCell' = true) :
    (storeVar ty ⟨b, o, none⟩ v).run P w = .ok () (w.setCells b o us) := by
  have := run_storeCells_cells (P := P) b o us 0 w (fun j hj => by simpa using (ht j hj).1) (fun j hj => by simpa using (ht j hj).2) h1
  have hvs : v.cells.size = us.length := by rw [← hv, Array.length_toList]
  cases hq : P.info? ty with
  | none => simp [hq] at hi
  | some i =>
    have hs : us.length = i.size := by simp [hq] at hi; omega
    simp only [Nat.add_zero] at this
    simp [storeVar, sizeOf, typeInfo, hq, hvs, hs, hv, this]
theorem stepStore (hgd : op.guard = none) (ty : TypeId) (x y : Operand) (ho : op.op = .store ty x y) (b o : Nat) (hx : a.eval x = .pointer (some ⟨b, o, none⟩)) {cs us cs2 : List Value} {T : TypeId} (H : Held w b cs T)
    (hv : (a.eval y).cells.toList = us) (hi : (P.info? ty).map (·.size) = some us.length) (h1 : us.all (·.oneCell') = true) (hl : o + us.length ≤ cs.length) (hcs : splice cs o us = cs2) {w0 : World} (g : Grows w0 w) (hb : w0.heap.size ≤ b)
    (h : ∀ z : Later w0, Held z.w b cs2 T → Keeps (b + 1) w z.w → wpList P ops Q rest (a.put op.dst undef) z.w) : wpList P ops Q (op :: rest) a w := by
  subst hcs
  refine wpList_plain hgd fun _ hK => ?_
  unfold Oper.wp execOp
  simp only [ho, hx, Instr.storeAt, Instr.sureAddr, Sem.run_bind, Sem.run_pure, Result.andThen_ok, run_storeVar_held hv (H.there hl) hi (fun u hu => List.all_eq_true.1 h1 u hu)]
  exact hK _ _ (h ⟨_, below_setCells hb us o g.out⟩ (H.setCells us o) (Keeps.setCells (by omega) us o (Keeps.same _ _)))
theorem stepLoad (hgd : op.guard = none) (ty : TypeId) (x : Operand) (ho : op.op = .load ty x) (b o : Nat) (hx : a.eval x = .pointer (some ⟨b, o, none⟩)) {cs row : List Value} {T : TypeId} (H : Held w b cs T)
    (d : TypeDesc) (hu : P.underlying ty = some d) (hd : d.isRow = true) (hi : (P.info? ty).map (·.size) = some row.length) (hr : (cs.drop o).take row.length = row)
    (h : wpList P ops Q rest (a.put op.dst (.agg row.toArray)) w) : wpList P ops Q (op :: rest) a w :=
  wpList_load_mid hgd ty x ho b o hx row d (H.range hr) hu hd hi h
theorem results_cell {fn : Func} {p t : Nat} (hf : fn.results = #[.cell p t]) {tmps : Array Value} {b : Nat} (hp : tmps.getD p undef = .pointer (some ⟨b, 0, none⟩)) {cs : List Value} {T : TypeId} (H : Held w b cs T)
    (d : TypeDesc) (hu : P.underlying t = some d) (hd : d.isRow = true) (hi : (P.info? t).map (·.size) = some cs.length) : (results fn tmps).run P w = .ok (.agg cs.toArray) w := by
  have := run_loadVar_mid w b 0 t cs d (H.range (o := 0) (n := cs.length) (by simp)) hu hd hi
  have hp2 : tmps[p]?.getD undef = .pointer (some ⟨b, 0, none⟩) := by rw [← hp]; simp [Array.getD_eq_getD_getElem?]
  simp [results, hf, hp2, asAddr, this]
end
end Go.Proofs.YtbaffippdifbpaaGreat
namespace Go.Proofs.YtbaffippdifbpaaGreat
set_option linter.unusedVariables false
open Go.ChangeShapes Go.WideShapes Go.ChangeAt Go.RowKit
theorem RdS.atInt {B : Nat} {w : World} {a : Option Addr} {c : Nat} {l : List Int} (h : RdS B w a c l) {k : Nat} (hk : k < l.length) :
    ∃ b off x, a = some ⟨b, off, none⟩ ∧ LtN b w.heap.size ∧ Hid (l.drop k = x :: l.drop (k + 1)) ∧ i64 x ∧ (∀ (W : World) [Grows w W], W.cell? ⟨b, off + k, none⟩ = some (.int .i64 x)) := by
  obtain ⟨b, off, x, vs, h0, h1, h2, ⟨rfl, q⟩, hc⟩ := h.at hk
  have := hc 0 _ rfl
  rw [show off + k * Enc.size Int + 0 = off + k from by rw [show Enc.size Int = 1 from rfl]; omega] at this
  exact ⟨b, off, x, h0, h1, h2, q, cell_grown h1.out this⟩
theorem RdS.atBool {B : Nat} {w : World} {a : Option Addr} {c : Nat} {l : List Bool} (h : RdS B w a c l) {k : Nat} (hk : k < l.length) :
    ∃ b off x, a = some ⟨b, off, none⟩ ∧ LtN b w.heap.size ∧ Hid (l.drop k = x :: l.drop (k + 1)) ∧ (∀ (W : World) [Grows w W], W.cell? ⟨b, off + k, none⟩ = some (.bool x)) := by
  obtain ⟨b, off, x, vs, h0, h1, h2, rfl, hc⟩ := h.at hk
  have := hc 0 _ rfl
  rw [show off + k * Enc.size Bool + 0 = off + k from by rw [show Enc.size Bool = 1 from rfl]; omega] at this
  exact ⟨b, off, x, h0, h1, h2, cell_grown h1.out this⟩
theorem RdS.atStr {B : Nat} {w : World} {a : Option Addr} {c : Nat} {l : List ByteArray} (h : RdS B w a c l) {k : Nat} (hk : k < l.length) :
    ∃ b off x, a = some ⟨b, off, none⟩ ∧ LtN b w.heap.size ∧ Hid (l.drop k = x :: l.drop (k + 1)) ∧ x.size ≤ 9223372036854775807 ∧ (∀ (W : World) [Grows w W], W.cell? ⟨b, off + k, none⟩ = some (.string x)) := by
  obtain ⟨b, off, x, vs, h0, h1, h2, ⟨rfl, q⟩, hc⟩ := h.at hk
  have := hc 0 _ rfl
  rw [show off + k * Enc.size ByteArray + 0 = off + k from by rw [show Enc.size ByteArray = 1 from rfl]; omega] at this
  exact ⟨b, off, x, h0, h1, h2, q, cell_grown h1.out this⟩
structure TChannel where
  Seed : Int
  Burst : Int
  Loss : Int
def okDTChannel (x : TChannel) : Prop := i64 x.Seed ∧ i64 x.Burst ∧ i64 x.Loss ∧ True
instance : Enc TChannel where
  size := 3
  Rd B w vs x := vs = [.int .i64 x.Seed, .int .i64 x.Burst, .int .i64 x.Loss] ∧ okDTChannel x
  len := by rintro _ _ _ _ ⟨rfl, hok⟩; rfl
  keep := by rintro _ _ _ _ _ ⟨rfl, hok⟩ g; exact ⟨rfl, hok⟩
  mono := by rintro _ _ _ _ _ ⟨rfl, hok⟩ g; exact ⟨rfl, hok⟩
  tot x := 0
  tot_nonneg x := by exact Int.le_refl _
structure TPacker where
  Channel : Int
  Count : Int
  Rest : ByteArray
  Starts : List Int
def okDTPacker (x : TPacker) : Prop := i64 x.Channel ∧ i64 x.Count ∧ x.Rest.size ≤ 9223372036854775807 ∧ True
instance : Enc TPacker where
  size := 4
  Rd B w vs x := ∃ (a0 : Option Addr) (c0 : Nat), vs = [.int .i64 x.Channel, .int .i64 x.Count, .string x.Rest, .slice a0 x.Starts.length c0] ∧ RdS B w a0 c0 x.Starts ∧ okDTPacker x
  len := by rintro _ _ _ _ ⟨a0, c0, rfl, q0, hok⟩; rfl
  keep := by rintro _ _ _ _ _ ⟨a0, c0, rfl, q0, hok⟩ g; exact ⟨a0, c0, rfl, q0.keep g, hok⟩
  mono := by rintro _ _ _ _ _ ⟨a0, c0, rfl, q0, hok⟩ g; exact ⟨a0, c0, rfl, q0.mono g, hok⟩
  tot x := (x.Rest.size : Int) + totL x.Starts
  tot_nonneg x := by have h0 := totL_nonneg x.Starts; omega
structure TUnpacker where
  Channel : Int
  Next : Int
  Synced : Bool
  Rest : ByteArray
  Lost : Int
def okDTUnpacker (x : TUnpacker) : Prop := i64 x.Channel ∧ i64 x.Next ∧ x.Rest.size ≤ 9223372036854775807 ∧ i64 x.Lost ∧ True
instance : Enc TUnpacker where
  size := 5
  Rd B w vs x := vs = [.int .i64 x.Channel, .int .i64 x.Next, .bool x.Synced, .string x.Rest, .int .i64 x.Lost] ∧ okDTUnpacker x
  len := by rintro _ _ _ _ ⟨rfl, hok⟩; rfl
  keep := by rintro _ _ _ _ _ ⟨rfl, hok⟩ g; exact ⟨rfl, hok⟩
  mono := by rintro _ _ _ _ _ ⟨rfl, hok⟩ g; exact ⟨rfl, hok⟩
  tot x := (x.Rest.size : Int)
  tot_nonneg x := by omega
structure TSent where
  Seq : Int
  Data : ByteArray
def okDTSent (x : TSent) : Prop := i64 x.Seq ∧ x.Data.size ≤ 9223372036854775807 ∧ True
instance : Enc TSent where
  size := 2
  Rd B w vs x := vs = [.int .i64 x.Seq, .string x.Data] ∧ okDTSent x
  len := by rintro _ _ _ _ ⟨rfl, hok⟩; rfl
  keep := by rintro _ _ _ _ _ ⟨rfl, hok⟩ g; exact ⟨rfl, hok⟩
  mono := by rintro _ _ _ _ _ ⟨rfl, hok⟩ g; exact ⟨rfl, hok⟩
  tot x := (x.Data.size : Int)
  tot_nonneg x := by omega
theorem RdS.atTSent {B : Nat} {w : World} {a : Option Addr} {c : Nat} {l : List TSent} (h : RdS B w a c l) {k : Nat} (hk : k < l.length) :
    ∃ b off x, a = some ⟨b, off, none⟩ ∧ LtN b w.heap.size ∧ Hid (l.drop k = x :: l.drop (k + 1)) ∧ okDTSent x ∧ (∀ (W : World) [Grows w W], W.cell? ⟨b, off + k * 2, none⟩ = some (.int .i64 x.Seq)) ∧ (∀ (W : World) [Grows w W], W.cell? ⟨b, off + k * 2 + 1, none⟩ = some (.string x.Data)) := by
  obtain ⟨b, off, x, vs, h0, h1, h2, ⟨rfl, hok⟩, hc⟩ := h.at hk
  exact ⟨b, off, x, h0, h1, h2, hok, cell_grown h1.out (hc 0 _ rfl), cell_grown h1.out (hc 1 _ rfl)⟩
structure TSender where
  Next : Int
  Window : Int
  Waiting : List TSent
  Done : Int
def okDTSender (x : TSender) : Prop := i64 x.Next ∧ i64 x.Window ∧ i64 x.Done ∧ True
instance : Enc TSender where
  size := 4
  Rd B w vs x := ∃ (a0 : Option Addr) (c0 : Nat), vs = [.int .i64 x.Next, .int .i64 x.Window, .slice a0 x.Waiting.length c0, .int .i64 x.Done] ∧ RdS B w a0 c0 x.Waiting ∧ okDTSender x
  len := by rintro _ _ _ _ ⟨a0, c0, rfl, q0, hok⟩; rfl
  keep := by rintro _ _ _ _ _ ⟨a0, c0, rfl, q0, hok⟩ g; exact ⟨a0, c0, rfl, q0.keep g, hok⟩
  mono := by rintro _ _ _ _ _ ⟨a0, c0, rfl, q0, hok⟩ g; exact ⟨a0, c0, rfl, q0.mono g, hok⟩
  tot x := totL x.Waiting
  tot_nonneg x := by have h0 := totL_nonneg x.Waiting; omega
structure TReceiver where
  Expect : Int
  Locked : Bool
  Again : Bool
  Taken : Int
def okDTReceiver (x : TReceiver) : Prop := i64 x.Expect ∧ i64 x.Taken ∧ True
instance : Enc TReceiver where
  size := 4
  Rd B w vs x := vs = [.int .i64 x.Expect, .bool x.Locked, .bool x.Again, .int .i64 x.Taken] ∧ okDTReceiver x
  len := by rintro _ _ _ _ ⟨rfl, hok⟩; rfl
  keep := by rintro _ _ _ _ _ ⟨rfl, hok⟩ g; exact ⟨rfl, hok⟩
  mono := by rintro _ _ _ _ _ ⟨rfl, hok⟩ g; exact ⟨rfl, hok⟩
  tot x := 0
  tot_nonneg x := by exact Int.le_refl _
structure TNotice where
  Expect : Int
  Locked : Bool
  Again : Bool
def okDTNotice (x : TNotice) : Prop := i64 x.Expect ∧ True
instance : Enc TNotice where
  size := 3
  Rd B w vs x := vs = [.int .i64 x.Expect, .bool x.Locked, .bool x.Again] ∧ okDTNotice x
  len := by rintro _ _ _ _ ⟨rfl, hok⟩; rfl
  keep := by rintro _ _ _ _ _ ⟨rfl, hok⟩ g; exact ⟨rfl, hok⟩
  mono := by rintro _ _ _ _ _ ⟨rfl, hok⟩ g; exact ⟨rfl, hok⟩
  tot x := 0
  tot_nonneg x := by exact Int.le_refl _
structure TOrder where
  Kind : Int
  At : Int
  A : Int
  B : Int
def okDTOrder (x : TOrder) : Prop := i64 x.Kind ∧ i64 x.At ∧ i64 x.A ∧ i64 x.B ∧ True
instance : Enc TOrder where
  size := 4
  Rd B w vs x := vs = [.int .i64 x.Kind, .int .i64 x.At, .int .i64 x.A, .int .i64 x.B] ∧ okDTOrder x
  len := by rintro _ _ _ _ ⟨rfl, hok⟩; rfl
  keep := by rintro _ _ _ _ _ ⟨rfl, hok⟩ g; exact ⟨rfl, hok⟩
  mono := by rintro _ _ _ _ _ ⟨rfl, hok⟩ g; exact ⟨rfl, hok⟩
  tot x := 0
  tot_nonneg x := by exact Int.le_refl _
structure TRecord where
  Id : Int
  Priority : Int
  Time : Int
  Data : ByteArray
def okDTRecord (x : TRecord) : Prop := i64 x.Id ∧ i64 x.Priority ∧ i64 x.Time ∧ x.Data.size ≤ 9223372036854775807 ∧ True
instance : Enc TRecord where
  size := 4
  Rd B w vs x := vs = [.int .i64 x.Id, .int .i64 x.Priority, .int .i64 x.Time, .string x.Data] ∧ okDTRecord x
  len := by rintro _ _ _ _ ⟨rfl, hok⟩; rfl
  keep := by rintro _ _ _ _ _ ⟨rfl, hok⟩ g; exact ⟨rfl, hok⟩
  mono := by rintro _ _ _ _ _ ⟨rfl, hok⟩ g; exact ⟨rfl, hok⟩
  tot x := (x.Data.size : Int)
  tot_nonneg x := by omega
theorem RdS.atTRecord {B : Nat} {w : World} {a : Option Addr} {c : Nat} {l : List TRecord} (h : RdS B w a c l) {k : Nat} (hk : k < l.length) :
    ∃ b off x, a = some ⟨b, off, none⟩ ∧ LtN b w.heap.size ∧ Hid (l.drop k = x :: l.drop (k + 1)) ∧ okDTRecord x ∧ (∀ (W : World) [Grows w W], W.cell? ⟨b, off + k * 4, none⟩ = some (.int .i64 x.Id)) ∧ (∀ (W : World) [Grows w W], W.cell? ⟨b, off + k * 4 + 1, none⟩ = some (.int .i64 x.Priority)) ∧ (∀ (W : World) [Grows w W], W.cell? ⟨b, off + k * 4 + 2, none⟩ = some (.int .i64 x.Time)) ∧ (∀ (W : World) [Grows w W], W.cell? ⟨b, off + k * 4 + 3, none⟩ = some (.string x.Data)) := by
  obtain ⟨b, off, x, vs, h0, h1, h2, ⟨rfl, hok⟩, hc⟩ := h.at hk
  exact ⟨b, off, x, h0, h1, h2, hok, cell_grown h1.out (hc 0 _ rfl), cell_grown h1.out (hc 1 _ rfl), cell_grown h1.out (hc 2 _ rfl), cell_grown h1.out (hc 3 _ rfl)⟩
structure TRecorder where
  Room : Int
  Records : List TRecord
  Dropped : List Int
def okDTRecorder (x : TRecorder) : Prop := i64 x.Room ∧ True
instance : Enc TRecorder where
  size := 3
  Rd B w vs x := ∃ (a0 : Option Addr) (c0 : Nat), ∃ (a1 : Option Addr) (c1 : Nat), vs = [.int .i64 x.Room, .slice a0 x.Records.length c0, .slice a1 x.Dropped.length c1] ∧ RdS B w a0 c0 x.Records ∧ RdS B w a1 c1 x.Dropped ∧ okDTRecorder x
  len := by rintro _ _ _ _ ⟨a0, c0, a1, c1, rfl, q0, q1, hok⟩; rfl
  keep := by rintro _ _ _ _ _ ⟨a0, c0, a1, c1, rfl, q0, q1, hok⟩ g; exact ⟨a0, c0, a1, c1, rfl, q0.keep g, q1.keep g, hok⟩
  mono := by rintro _ _ _ _ _ ⟨a0, c0, a1, c1, rfl, q0, q1, hok⟩ g; exact ⟨a0, c0, a1, c1, rfl, q0.mono g, q1.mono g, hok⟩
  tot x := totL x.Records + totL x.Dropped
  tot_nonneg x := by have h0 := totL_nonneg x.Records; have h1 := totL_nonneg x.Dropped; omega
structure TLimit where
  Param : Int
  Low : Int
  High : Int
def okDTLimit (x : TLimit) : Prop := i64 x.Param ∧ i64 x.Low ∧ i64 x.High ∧ True
instance : Enc TLimit where
  size := 3
  Rd B w vs x := vs = [.int .i64 x.Param, .int .i64 x.Low, .int .i64 x.High] ∧ okDTLimit x
  len := by rintro _ _ _ _ ⟨rfl, hok⟩; rfl
  keep := by rintro _ _ _ _ _ ⟨rfl, hok⟩ g; exact ⟨rfl, hok⟩
  mono := by rintro _ _ _ _ _ ⟨rfl, hok⟩ g; exact ⟨rfl, hok⟩
  tot x := 0
  tot_nonneg x := by exact Int.le_refl _
theorem RdS.atTLimit {B : Nat} {w : World} {a : Option Addr} {c : Nat} {l : List TLimit} (h : RdS B w a c l) {k : Nat} (hk : k < l.length) :
    ∃ b off x, a = some ⟨b, off, none⟩ ∧ LtN b w.heap.size ∧ Hid (l.drop k = x :: l.drop (k + 1)) ∧ okDTLimit x ∧ (∀ (W : World) [Grows w W], W.cell? ⟨b, off + k * 3, none⟩ = some (.int .i64 x.Param)) ∧ (∀ (W : World) [Grows w W], W.cell? ⟨b, off + k * 3 + 1, none⟩ = some (.int .i64 x.Low)) ∧ (∀ (W : World) [Grows w W], W.cell? ⟨b, off + k * 3 + 2, none⟩ = some (.int .i64 x.High)) := by
  obtain ⟨b, off, x, vs, h0, h1, h2, ⟨rfl, hok⟩, hc⟩ := h.at hk
  exact ⟨b, off, x, h0, h1, h2, hok, cell_grown h1.out (hc 0 _ rfl), cell_grown h1.out (hc 1 _ rfl), cell_grown h1.out (hc 2 _ rfl)⟩
structure TWaiting where
  Number : Int
  Order : TOrder
def okDTWaiting (x : TWaiting) : Prop := i64 x.Number ∧ okDTOrder x.Order ∧ True
instance : Enc TWaiting where
  size := 5
  Rd B w vs x := vs = [.int .i64 x.Number, .int .i64 x.Order.Kind, .int .i64 x.Order.At, .int .i64 x.Order.A, .int .i64 x.Order.B] ∧ okDTWaiting x
  len := by rintro _ _ _ _ ⟨rfl, hok⟩; rfl
  keep := by rintro _ _ _ _ _ ⟨rfl, hok⟩ g; exact ⟨rfl, hok⟩
  mono := by rintro _ _ _ _ _ ⟨rfl, hok⟩ g; exact ⟨rfl, hok⟩
  tot x := 0
  tot_nonneg x := by exact Int.le_refl _
theorem RdS.atTWaiting {B : Nat} {w : World} {a : Option Addr} {c : Nat} {l : List TWaiting} (h : RdS B w a c l) {k : Nat} (hk : k < l.length) :
    ∃ b off x, a = some ⟨b, off, none⟩ ∧ LtN b w.heap.size ∧ Hid (l.drop k = x :: l.drop (k + 1)) ∧ okDTWaiting x ∧ (∀ (W : World) [Grows w W], W.cell? ⟨b, off + k * 5, none⟩ = some (.int .i64 x.Number)) ∧ (∀ (W : World) [Grows w W], W.cell? ⟨b, off + k * 5 + 1, none⟩ = some (.int .i64 x.Order.Kind)) ∧ (∀ (W : World) [Grows w W], W.cell? ⟨b, off + k * 5 + 2, none⟩ = some (.int .i64 x.Order.At)) ∧ (∀ (W : World) [Grows w W], W.cell? ⟨b, off + k * 5 + 3, none⟩ = some (.int .i64 x.Order.A)) ∧ (∀ (W : World) [Grows w W], W.cell? ⟨b, off + k * 5 + 4, none⟩ = some (.int .i64 x.Order.B)) := by
  obtain ⟨b, off, x, vs, h0, h1, h2, ⟨rfl, hok⟩, hc⟩ := h.at hk
  exact ⟨b, off, x, h0, h1, h2, hok, cell_grown h1.out (hc 0 _ rfl), cell_grown h1.out (hc 1 _ rfl), cell_grown h1.out (hc 2 _ rfl), cell_grown h1.out (hc 3 _ rfl), cell_grown h1.out (hc 4 _ rfl)⟩
structure TDone where
  Number : Int
  Time : Int
  Result : Int
def okDTDone (x : TDone) : Prop := i64 x.Number ∧ i64 x.Time ∧ i64 x.Result ∧ True
instance : Enc TDone where
  size := 3
  Rd B w vs x := vs = [.int .i64 x.Number, .int .i64 x.Time, .int .i64 x.Result] ∧ okDTDone x
  len := by rintro _ _ _ _ ⟨rfl, hok⟩; rfl
  keep := by rintro _ _ _ _ _ ⟨rfl, hok⟩ g; exact ⟨rfl, hok⟩
  mono := by rintro _ _ _ _ _ ⟨rfl, hok⟩ g; exact ⟨rfl, hok⟩
  tot x := 0
  tot_nonneg x := by exact Int.le_refl _
theorem RdS.atTDone {B : Nat} {w : World} {a : Option Addr} {c : Nat} {l : List TDone} (h : RdS B w a c l) {k : Nat} (hk : k < l.length) :
    ∃ b off x, a = some ⟨b, off, none⟩ ∧ LtN b w.heap.size ∧ Hid (l.drop k = x :: l.drop (k + 1)) ∧ okDTDone x ∧ (∀ (W : World) [Grows w W], W.cell? ⟨b, off + k * 3, none⟩ = some (.int .i64 x.Number)) ∧ (∀ (W : World) [Grows w W], W.cell? ⟨b, off + k * 3 + 1, none⟩ = some (.int .i64 x.Time)) ∧ (∀ (W : World) [Grows w W], W.cell? ⟨b, off + k * 3 + 2, none⟩ = some (.int .i64 x.Result)) := by
  obtain ⟨b, off, x, vs, h0, h1, h2, ⟨rfl, hok⟩, hc⟩ := h.at hk
  exact ⟨b, off, x, h0, h1, h2, hok, cell_grown h1.out (hc 0 _ rfl), cell_grown h1.out (hc 1 _ rfl), cell_grown h1.out (hc 2 _ rfl)⟩
structure TBoard where
  Clock : Int
  Params : List Int
  Safe : Bool
  Limits : List TLimit
  Orders : List TWaiting
  Done : List TDone
  Recorder : TRecorder
  Made : Int
  Taken : Int
  Asked : List Int
abbrev cBoard (x : TBoard) (a0 : Option Addr) (c0 : Nat) (a1 : Option Addr) (c1 : Nat) (a2 : Option Addr) (c2 : Nat) (a3 : Option Addr) (c3 : Nat) (a4 : Option Addr) (c4 : Nat) (a5 : Option Addr) (c5 : Nat) (a6 : Option Addr) (c6 : Nat) : List Value := [.int .i64 x.Clock, .slice a0 x.Params.length c0, .bool x.Safe, .slice a1 x.Limits.length c1, .slice a2 x.Orders.length c2, .slice a3 x.Done.length c3, .int .i64 x.Recorder.Room, .slice a4 x.Recorder.Records.length c4, .slice a5 x.Recorder.Dropped.length c5, .int .i64 x.Made, .int .i64 x.Taken, .slice a6 x.Asked.length c6]
abbrev zBoard : List Value := [.int .i64 0, .slice none 0 0, .bool false, .slice none 0 0, .slice none 0 0, .slice none 0 0, .int .i64 0, .slice none 0 0, .slice none 0 0, .int .i64 0, .int .i64 0, .slice none 0 0]
def okDTBoard (x : TBoard) : Prop := i64 x.Clock ∧ okDTRecorder x.Recorder ∧ i64 x.Made ∧ i64 x.Taken ∧ True
structure TBoardA where
  a0 : Option Addr
  c0 : Nat
  a1 : Option Addr
  c1 : Nat
  a2 : Option Addr
  c2 : Nat
  a3 : Option Addr
  c3 : Nat
  a4 : Option Addr
  c4 : Nat
  a5 : Option Addr
  c5 : Nat
  a6 : Option Addr
  c6 : Nat
structure TBoardF (B : Nat) (w : World) (A : TBoardA) (x : TBoard) : Prop where
  q0 : RdS B w A.a0 A.c0 x.Params
  q1 : RdS B w A.a1 A.c1 x.Limits
  q2 : RdS B w A.a2 A.c2 x.Orders
  q3 : RdS B w A.a3 A.c3 x.Done
  q4 : RdS B w A.a4 A.c4 x.Recorder.Records
  q5 : RdS B w A.a5 A.c5 x.Recorder.Dropped
  q6 : RdS B w A.a6 A.c6 x.Asked
  ok : okDTBoard x
theorem TBoardF.keep {B : Nat} {w w2 : World} {A : TBoardA} {x : TBoard} (h : TBoardF B w A x) (g : Keeps B w w2) : TBoardF B w2 A x := ⟨h.q0.keep g, h.q1.keep g, h.q2.keep g, h.q3.keep g, h.q4.keep g, h.q5.keep g, h.q6.keep g, h.ok⟩
theorem TBoardF.mono {B B2 : Nat} {w : World} {A : TBoardA} {x : TBoard} (h : TBoardF B w A x) (g : B2 ≤ B) : TBoardF B2 w A x := ⟨h.q0.mono g, h.q1.mono g, h.q2.mono g, h.q3.mono g, h.q4.mono g, h.q5.mono g, h.q6.mono g, h.ok⟩
instance : Enc TBoard where
  size := 12
  Rd B w vs x := ∃ A : TBoardA, vs = [.int .i64 x.Clock, .slice A.a0 x.Params.length A.c0, .bool x.Safe, .slice A.a1 x.Limits.length A.c1, .slice A.a2 x.Orders.length A.c2, .slice A.a3 x.Done.length A.c3, .int .i64 x.Recorder.Room, .slice A.a4 x.Recorder.Records.length A.c4, .slice A.a5 x.Recorder.Dropped.length A.c5, .int .i64 x.Made, .int .i64 x.Taken, .slice A.a6 x.Asked.length A.c6] ∧ TBoardF B w A x
  len := by rintro _ _ _ _ ⟨A, h, F⟩; rw [h]; rfl
  keep := by rintro _ _ _ _ _ ⟨A, h, F⟩ g; exact ⟨A, h, F.keep g⟩
  mono := by rintro _ _ _ _ _ ⟨A, h, F⟩ g; exact ⟨A, h, F.mono g⟩
  tot x := totL x.Params + totL x.Limits + totL x.Orders + totL x.Done + Enc.tot x.Recorder + totL x.Asked
  tot_nonneg x := by have h0 := totL_nonneg x.Params; have h1 := totL_nonneg x.Limits; have h2 := totL_nonneg x.Orders; have h3 := totL_nonneg x.Done; have h4 := Enc.tot_nonneg x.Recorder; have h5 := totL_nonneg x.Asked; omega
structure TFileIn where
  File : Int
  Size : Int
  Check : Int
  Parts : List ByteArray
def okDTFileIn (x : TFileIn) : Prop := i64 x.File ∧ i64 x.Size ∧ i64 x.Check ∧ True
instance : Enc TFileIn where
  size := 4
  Rd B w vs x := ∃ (a0 : Option Addr) (c0 : Nat), vs = [.int .i64 x.File, .int .i64 x.Size, .int .i64 x.Check, .slice a0 x.Parts.length c0] ∧ RdS B w a0 c0 x.Parts ∧ okDTFileIn x
  len := by rintro _ _ _ _ ⟨a0, c0, rfl, q0, hok⟩; rfl
  keep := by rintro _ _ _ _ _ ⟨a0, c0, rfl, q0, hok⟩ g; exact ⟨a0, c0, rfl, q0.keep g, hok⟩
  mono := by rintro _ _ _ _ _ ⟨a0, c0, rfl, q0, hok⟩ g; exact ⟨a0, c0, rfl, q0.mono g, hok⟩
  tot x := totL x.Parts
  tot_nonneg x := by have h0 := totL_nonneg x.Parts; omega
theorem RdS.atTFileIn {B : Nat} {w : World} {a : Option Addr} {c : Nat} {l : List TFileIn} (h : RdS B w a c l) {k : Nat} (hk : k < l.length) :
    ∃ b off x, ∃ (a0 : Option Addr) (c0 : Nat), a = some ⟨b, off, none⟩ ∧ LtN b w.heap.size ∧ Hid (l.drop k = x :: l.drop (k + 1)) ∧ RdS B w a0 c0 x.Parts ∧ okDTFileIn x ∧ (∀ (W : World) [Grows w W], W.cell? ⟨b, off + k * 4, none⟩ = some (.int .i64 x.File)) ∧ (∀ (W : World) [Grows w W], W.cell? ⟨b, off + k * 4 + 1, none⟩ = some (.int .i64 x.Size)) ∧ (∀ (W : World) [Grows w W], W.cell? ⟨b, off + k * 4 + 2, none⟩ = some (.int .i64 x.Check)) ∧ (∀ (W : World) [Grows w W], W.cell? ⟨b, off + k * 4 + 3, none⟩ = some (.slice a0 x.Parts.length c0)) := by
  obtain ⟨b, off, x, vs, h0, h1, h2, ⟨a0, c0, rfl, q0, hok⟩, hc⟩ := h.at hk
  exact ⟨b, off, x, a0, c0, h0, h1, h2, q0, hok, cell_grown h1.out (hc 0 _ rfl), cell_grown h1.out (hc 1 _ rfl), cell_grown h1.out (hc 2 _ rfl), cell_grown h1.out (hc 3 _ rfl)⟩
structure TFileOut where
  File : Int
  Data : ByteArray
  Queue : List Int
  Done : Bool
def okDTFileOut (x : TFileOut) : Prop := i64 x.File ∧ x.Data.size ≤ 9223372036854775807 ∧ True
instance : Enc TFileOut where
  size := 4
  Rd B w vs x := ∃ (a0 : Option Addr) (c0 : Nat), vs = [.int .i64 x.File, .string x.Data, .slice a0 x.Queue.length c0, .bool x.Done] ∧ RdS B w a0 c0 x.Queue ∧ okDTFileOut x
  len := by rintro _ _ _ _ ⟨a0, c0, rfl, q0, hok⟩; rfl
  keep := by rintro _ _ _ _ _ ⟨a0, c0, rfl, q0, hok⟩ g; exact ⟨a0, c0, rfl, q0.keep g, hok⟩
  mono := by rintro _ _ _ _ _ ⟨a0, c0, rfl, q0, hok⟩ g; exact ⟨a0, c0, rfl, q0.mono g, hok⟩
  tot x := (x.Data.size : Int) + totL x.Queue
  tot_nonneg x := by have h0 := totL_nonneg x.Queue; omega
theorem RdS.atTFileOut {B : Nat} {w : World} {a : Option Addr} {c : Nat} {l : List TFileOut} (h : RdS B w a c l) {k : Nat} (hk : k < l.length) :
    ∃ b off x, ∃ (a0 : Option Addr) (c0 : Nat), a = some ⟨b, off, none⟩ ∧ LtN b w.heap.size ∧ Hid (l.drop k = x :: l.drop (k + 1)) ∧ RdS B w a0 c0 x.Queue ∧ okDTFileOut x ∧ (∀ (W : World) [Grows w W], W.cell? ⟨b, off + k * 4, none⟩ = some (.int .i64 x.File)) ∧ (∀ (W : World) [Grows w W], W.cell? ⟨b, off + k * 4 + 1, none⟩ = some (.string x.Data)) ∧ (∀ (W : World) [Grows w W], W.cell? ⟨b, off + k * 4 + 2, none⟩ = some (.slice a0 x.Queue.length c0)) ∧ (∀ (W : World) [Grows w W], W.cell? ⟨b, off + k * 4 + 3, none⟩ = some (.bool x.Done)) := by
  obtain ⟨b, off, x, vs, h0, h1, h2, ⟨a0, c0, rfl, q0, hok⟩, hc⟩ := h.at hk
  exact ⟨b, off, x, a0, c0, h0, h1, h2, q0, hok, cell_grown h1.out (hc 0 _ rfl), cell_grown h1.out (hc 1 _ rfl), cell_grown h1.out (hc 2 _ rfl), cell_grown h1.out (hc 3 _ rfl)⟩
structure TDrift where
  Rate : Int
  Offset : Int
def okDTDrift (x : TDrift) : Prop := i64 x.Rate ∧ i64 x.Offset ∧ True
instance : Enc TDrift where
  size := 2
  Rd B w vs x := vs = [.int .i64 x.Rate, .int .i64 x.Offset] ∧ okDTDrift x
  len := by rintro _ _ _ _ ⟨rfl, hok⟩; rfl
  keep := by rintro _ _ _ _ _ ⟨rfl, hok⟩ g; exact ⟨rfl, hok⟩
  mono := by rintro _ _ _ _ _ ⟨rfl, hok⟩ g; exact ⟨rfl, hok⟩
  tot x := 0
  tot_nonneg x := by exact Int.le_refl _
def okDPair (x : Pair) : Prop := i64 x.Board ∧ i64 x.True ∧ True
instance : Enc Pair where
  size := 2
  Rd B w vs x := vs = [.int .i64 x.Board, .int .i64 x.True] ∧ okDPair x
  len := by rintro _ _ _ _ ⟨rfl, hok⟩; rfl
  keep := by rintro _ _ _ _ _ ⟨rfl, hok⟩ g; exact ⟨rfl, hok⟩
  mono := by rintro _ _ _ _ _ ⟨rfl, hok⟩ g; exact ⟨rfl, hok⟩
  tot x := 0
  tot_nonneg x := by exact Int.le_refl _
theorem RdS.atPair {B : Nat} {w : World} {a : Option Addr} {c : Nat} {l : List Pair} (h : RdS B w a c l) {k : Nat} (hk : k < l.length) :
    ∃ b off x, a = some ⟨b, off, none⟩ ∧ LtN b w.heap.size ∧ Hid (l.drop k = x :: l.drop (k + 1)) ∧ okDPair x ∧ (∀ (W : World) [Grows w W], W.cell? ⟨b, off + k * 2, none⟩ = some (.int .i64 x.Board)) ∧ (∀ (W : World) [Grows w W], W.cell? ⟨b, off + k * 2 + 1, none⟩ = some (.int .i64 x.True)) := by
  obtain ⟨b, off, x, vs, h0, h1, h2, ⟨rfl, hok⟩, hc⟩ := h.at hk
  exact ⟨b, off, x, h0, h1, h2, hok, cell_grown h1.out (hc 0 _ rfl), cell_grown h1.out (hc 1 _ rfl)⟩
structure TOrbit where
  Period : Int
  Start : Int
  Length : Int
def okDTOrbit (x : TOrbit) : Prop := i64 x.Period ∧ i64 x.Start ∧ i64 x.Length ∧ True
instance : Enc TOrbit where
  size := 3
  Rd B w vs x := vs = [.int .i64 x.Period, .int .i64 x.Start, .int .i64 x.Length] ∧ okDTOrbit x
  len := by rintro _ _ _ _ ⟨rfl, hok⟩; rfl
  keep := by rintro _ _ _ _ _ ⟨rfl, hok⟩ g; exact ⟨rfl, hok⟩
  mono := by rintro _ _ _ _ _ ⟨rfl, hok⟩ g; exact ⟨rfl, hok⟩
  tot x := 0
  tot_nonneg x := by exact Int.le_refl _
def okDSlot (x : Slot) : Prop := i64 x.Time ∧ i64 x.Id ∧ True
instance : Enc Slot where
  size := 2
  Rd B w vs x := vs = [.int .i64 x.Time, .int .i64 x.Id] ∧ okDSlot x
  len := by rintro _ _ _ _ ⟨rfl, hok⟩; rfl
  keep := by rintro _ _ _ _ _ ⟨rfl, hok⟩ g; exact ⟨rfl, hok⟩
  mono := by rintro _ _ _ _ _ ⟨rfl, hok⟩ g; exact ⟨rfl, hok⟩
  tot x := 0
  tot_nonneg x := by exact Int.le_refl _
theorem RdS.atSlot {B : Nat} {w : World} {a : Option Addr} {c : Nat} {l : List Slot} (h : RdS B w a c l) {k : Nat} (hk : k < l.length) :
    ∃ b off x, a = some ⟨b, off, none⟩ ∧ LtN b w.heap.size ∧ Hid (l.drop k = x :: l.drop (k + 1)) ∧ okDSlot x ∧ (∀ (W : World) [Grows w W], W.cell? ⟨b, off + k * 2, none⟩ = some (.int .i64 x.Time)) ∧ (∀ (W : World) [Grows w W], W.cell? ⟨b, off + k * 2 + 1, none⟩ = some (.int .i64 x.Id)) := by
  obtain ⟨b, off, x, vs, h0, h1, h2, ⟨rfl, hok⟩, hc⟩ := h.at hk
  exact ⟨b, off, x, h0, h1, h2, hok, cell_grown h1.out (hc 0 _ rfl), cell_grown h1.out (hc 1 _ rfl)⟩
structure TFlight where
  At : Int
  Data : ByteArray
def okDTFlight (x : TFlight) : Prop := i64 x.At ∧ x.Data.size ≤ 9223372036854775807 ∧ True
instance : Enc TFlight where
  size := 2
  Rd B w vs x := vs = [.int .i64 x.At, .string x.Data] ∧ okDTFlight x
  len := by rintro _ _ _ _ ⟨rfl, hok⟩; rfl
  keep := by rintro _ _ _ _ _ ⟨rfl, hok⟩ g; exact ⟨rfl, hok⟩
  mono := by rintro _ _ _ _ _ ⟨rfl, hok⟩ g; exact ⟨rfl, hok⟩
  tot x := (x.Data.size : Int)
  tot_nonneg x := by omega
theorem RdS.atTFlight {B : Nat} {w : World} {a : Option Addr} {c : Nat} {l : List TFlight} (h : RdS B w a c l) {k : Nat} (hk : k < l.length) :
    ∃ b off x, a = some ⟨b, off, none⟩ ∧ LtN b w.heap.size ∧ Hid (l.drop k = x :: l.drop (k + 1)) ∧ okDTFlight x ∧ (∀ (W : World) [Grows w W], W.cell? ⟨b, off + k * 2, none⟩ = some (.int .i64 x.At)) ∧ (∀ (W : World) [Grows w W], W.cell? ⟨b, off + k * 2 + 1, none⟩ = some (.string x.Data)) := by
  obtain ⟨b, off, x, vs, h0, h1, h2, ⟨rfl, hok⟩, hc⟩ := h.at hk
  exact ⟨b, off, x, h0, h1, h2, hok, cell_grown h1.out (hc 0 _ rfl), cell_grown h1.out (hc 1 _ rfl)⟩
structure TGround where
  Offers : List ByteArray
  Sender : TSender
  Notice : TNotice
  Unpacker : TUnpacker
  Pairs : List Pair
  Records : List TRecord
  Files : List TFileIn
  Told : List Bool
abbrev cGround (x : TGround) (a0 : Option Addr) (c0 : Nat) (a1 : Option Addr) (c1 : Nat) (a2 : Option Addr) (c2 : Nat) (a3 : Option Addr) (c3 : Nat) (a4 : Option Addr) (c4 : Nat) (a5 : Option Addr) (c5 : Nat) : List Value := [.slice a0 x.Offers.length c0, .int .i64 x.Sender.Next, .int .i64 x.Sender.Window, .slice a1 x.Sender.Waiting.length c1, .int .i64 x.Sender.Done, .int .i64 x.Notice.Expect, .bool x.Notice.Locked, .bool x.Notice.Again, .int .i64 x.Unpacker.Channel, .int .i64 x.Unpacker.Next, .bool x.Unpacker.Synced, .string x.Unpacker.Rest, .int .i64 x.Unpacker.Lost, .slice a2 x.Pairs.length c2, .slice a3 x.Records.length c3, .slice a4 x.Files.length c4, .slice a5 x.Told.length c5]
abbrev zGround : List Value := [.slice none 0 0, .int .i64 0, .int .i64 0, .slice none 0 0, .int .i64 0, .int .i64 0, .bool false, .bool false, .int .i64 0, .int .i64 0, .bool false, .string ⟨#[]⟩, .int .i64 0, .slice none 0 0, .slice none 0 0, .slice none 0 0, .slice none 0 0]
def okDTGround (x : TGround) : Prop := okDTSender x.Sender ∧ okDTNotice x.Notice ∧ okDTUnpacker x.Unpacker ∧ True
structure TGroundA where
  a0 : Option Addr
  c0 : Nat
  a1 : Option Addr
  c1 : Nat
  a2 : Option Addr
  c2 : Nat
  a3 : Option Addr
  c3 : Nat
  a4 : Option Addr
  c4 : Nat
  a5 : Option Addr
  c5 : Nat
structure TGroundF (B : Nat) (w : World) (A : TGroundA) (x : TGround) : Prop where
  q0 : RdS B w A.a0 A.c0 x.Offers
  q1 : RdS B w A.a1 A.c1 x.Sender.Waiting
  q2 : RdS B w A.a2 A.c2 x.Pairs
  q3 : RdS B w A.a3 A.c3 x.Records
  q4 : RdS B w A.a4 A.c4 x.Files
  q5 : RdS B w A.a5 A.c5 x.Told
  ok : okDTGround x
theorem TGroundF.keep {B : Nat} {w w2 : World} {A : TGroundA} {x : TGround} (h : TGroundF B w A x) (g : Keeps B w w2) : TGroundF B w2 A x := ⟨h.q0.keep g, h.q1.keep g, h.q2.keep g, h.q3.keep g, h.q4.keep g, h.q5.keep g, h.ok⟩
theorem TGroundF.mono {B B2 : Nat} {w : World} {A : TGroundA} {x : TGround} (h : TGroundF B w A x) (g : B2 ≤ B) : TGroundF B2 w A x := ⟨h.q0.mono g, h.q1.mono g, h.q2.mono g, h.q3.mono g, h.q4.mono g, h.q5.mono g, h.ok⟩
instance : Enc TGround where
  size := 17
  Rd B w vs x := ∃ A : TGroundA, vs = [.slice A.a0 x.Offers.length A.c0, .int .i64 x.Sender.Next, .int .i64 x.Sender.Window, .slice A.a1 x.Sender.Waiting.length A.c1, .int .i64 x.Sender.Done, .int .i64 x.Notice.Expect, .bool x.Notice.Locked, .bool x.Notice.Again, .int .i64 x.Unpacker.Channel, .int .i64 x.Unpacker.Next, .bool x.Unpacker.Synced, .string x.Unpacker.Rest, .int .i64 x.Unpacker.Lost, .slice A.a2 x.Pairs.length A.c2, .slice A.a3 x.Records.length A.c3, .slice A.a4 x.Files.length A.c4, .slice A.a5 x.Told.length A.c5] ∧ TGroundF B w A x
  len := by rintro _ _ _ _ ⟨A, h, F⟩; rw [h]; rfl
  keep := by rintro _ _ _ _ _ ⟨A, h, F⟩ g; exact ⟨A, h, F.keep g⟩
  mono := by rintro _ _ _ _ _ ⟨A, h, F⟩ g; exact ⟨A, h, F.mono g⟩
  tot x := totL x.Offers + Enc.tot x.Sender + Enc.tot x.Unpacker + totL x.Pairs + totL x.Records + totL x.Files + totL x.Told
  tot_nonneg x := by have h0 := totL_nonneg x.Offers; have h1 := Enc.tot_nonneg x.Sender; have h2 := Enc.tot_nonneg x.Unpacker; have h3 := totL_nonneg x.Pairs; have h4 := totL_nonneg x.Records; have h5 := totL_nonneg x.Files; have h6 := totL_nonneg x.Told; omega
structure TSpace where
  Receiver : TReceiver
  Board : TBoard
  Packer : TPacker
  Seq : Int
  Files : List ByteArray
  Outs : List TFileOut
  Begun : Int
  Sent : List TRecord
abbrev cSpace (x : TSpace) (a0 : Option Addr) (c0 : Nat) (a1 : Option Addr) (c1 : Nat) (a2 : Option Addr) (c2 : Nat) (a3 : Option Addr) (c3 : Nat) (a4 : Option Addr) (c4 : Nat) (a5 : Option Addr) (c5 : Nat) (a6 : Option Addr) (c6 : Nat) (a7 : Option Addr) (c7 : Nat) (a8 : Option Addr) (c8 : Nat) (a9 : Option Addr) (c9 : Nat) (a10 : Option Addr) (c10 : Nat) : List Value := [.int .i64 x.Receiver.Expect, .bool x.Receiver.Locked, .bool x.Receiver.Again, .int .i64 x.Receiver.Taken, .int .i64 x.Board.Clock, .slice a0 x.Board.Params.length c0, .bool x.Board.Safe, .slice a1 x.Board.Limits.length c1, .slice a2 x.Board.Orders.length c2, .slice a3 x.Board.Done.length c3, .int .i64 x.Board.Recorder.Room, .slice a4 x.Board.Recorder.Records.length c4, .slice a5 x.Board.Recorder.Dropped.length c5, .int .i64 x.Board.Made, .int .i64 x.Board.Taken, .slice a6 x.Board.Asked.length c6, .int .i64 x.Packer.Channel, .int .i64 x.Packer.Count, .string x.Packer.Rest, .slice a7 x.Packer.Starts.length c7, .int .i64 x.Seq, .slice a8 x.Files.length c8, .slice a9 x.Outs.length c9, .int .i64 x.Begun, .slice a10 x.Sent.length c10]
abbrev zSpace : List Value := [.int .i64 0, .bool false, .bool false, .int .i64 0, .int .i64 0, .slice none 0 0, .bool false, .slice none 0 0, .slice none 0 0, .slice none 0 0, .int .i64 0, .slice none 0 0, .slice none 0 0, .int .i64 0, .int .i64 0, .slice none 0 0, .int .i64 0, .int .i64 0, .string ⟨#[]⟩, .slice none 0 0, .int .i64 0, .slice none 0 0, .slice none 0 0, .int .i64 0, .slice none 0 0]
def okDTSpace (x : TSpace) : Prop := okDTReceiver x.Receiver ∧ okDTBoard x.Board ∧ okDTPacker x.Packer ∧ i64 x.Seq ∧ i64 x.Begun ∧ True
structure TSpaceA where
  a0 : Option Addr
  c0 : Nat
  a1 : Option Addr
  c1 : Nat
  a2 : Option Addr
  c2 : Nat
  a3 : Option Addr
  c3 : Nat
  a4 : Option Addr
  c4 : Nat
  a5 : Option Addr
  c5 : Nat
  a6 : Option Addr
  c6 : Nat
  a7 : Option Addr
  c7 : Nat
  a8 : Option Addr
  c8 : Nat
  a9 : Option Addr
  c9 : Nat
  a10 : Option Addr
  c10 : Nat
structure TSpaceF (B : Nat) (w : World) (A : TSpaceA) (x : TSpace) : Prop where
  q0 : RdS B w A.a0 A.c0 x.Board.Params
  q1 : RdS B w A.a1 A.c1 x.Board.Limits
  q2 : RdS B w A.a2 A.c2 x.Board.Orders
  q3 : RdS B w A.a3 A.c3 x.Board.Done
  q4 : RdS B w A.a4 A.c4 x.Board.Recorder.Records
  q5 : RdS B w A.a5 A.c5 x.Board.Recorder.Dropped
  q6 : RdS B w A.a6 A.c6 x.Board.Asked
  q7 : RdS B w A.a7 A.c7 x.Packer.Starts
  q8 : RdS B w A.a8 A.c8 x.Files
  q9 : RdS B w A.a9 A.c9 x.Outs
  q10 : RdS B w A.a10 A.c10 x.Sent
  ok : okDTSpace x
theorem TSpaceF.keep {B : Nat} {w w2 : World} {A : TSpaceA} {x : TSpace} (h : TSpaceF B w A x) (g : Keeps B w w2) : TSpaceF B w2 A x := ⟨h.q0.keep g, h.q1.keep g, h.q2.keep g, h.q3.keep g, h.q4.keep g, h.q5.keep g, h.q6.keep g, h.q7.keep g, h.q8.keep g, h.q9.keep g, h.q10.keep g, h.ok⟩
theorem TSpaceF.mono {B B2 : Nat} {w : World} {A : TSpaceA} {x : TSpace} (h : TSpaceF B w A x) (g : B2 ≤ B) : TSpaceF B2 w A x := ⟨h.q0.mono g, h.q1.mono g, h.q2.mono g, h.q3.mono g, h.q4.mono g, h.q5.mono g, h.q6.mono g, h.q7.mono g, h.q8.mono g, h.q9.mono g, h.q10.mono g, h.ok⟩
instance : Enc TSpace where
  size := 25
  Rd B w vs x := ∃ A : TSpaceA, vs = [.int .i64 x.Receiver.Expect, .bool x.Receiver.Locked, .bool x.Receiver.Again, .int .i64 x.Receiver.Taken, .int .i64 x.Board.Clock, .slice A.a0 x.Board.Params.length A.c0, .bool x.Board.Safe, .slice A.a1 x.Board.Limits.length A.c1, .slice A.a2 x.Board.Orders.length A.c2, .slice A.a3 x.Board.Done.length A.c3, .int .i64 x.Board.Recorder.Room, .slice A.a4 x.Board.Recorder.Records.length A.c4, .slice A.a5 x.Board.Recorder.Dropped.length A.c5, .int .i64 x.Board.Made, .int .i64 x.Board.Taken, .slice A.a6 x.Board.Asked.length A.c6, .int .i64 x.Packer.Channel, .int .i64 x.Packer.Count, .string x.Packer.Rest, .slice A.a7 x.Packer.Starts.length A.c7, .int .i64 x.Seq, .slice A.a8 x.Files.length A.c8, .slice A.a9 x.Outs.length A.c9, .int .i64 x.Begun, .slice A.a10 x.Sent.length A.c10] ∧ TSpaceF B w A x
  len := by rintro _ _ _ _ ⟨A, h, F⟩; rw [h]; rfl
  keep := by rintro _ _ _ _ _ ⟨A, h, F⟩ g; exact ⟨A, h, F.keep g⟩
  mono := by rintro _ _ _ _ _ ⟨A, h, F⟩ g; exact ⟨A, h, F.mono g⟩
  tot x := Enc.tot x.Board + Enc.tot x.Packer + totL x.Files + totL x.Outs + totL x.Sent
  tot_nonneg x := by have h0 := Enc.tot_nonneg x.Board; have h1 := Enc.tot_nonneg x.Packer; have h2 := totL_nonneg x.Files; have h3 := totL_nonneg x.Outs; have h4 := totL_nonneg x.Sent; omega
structure TMission where
  Time : Int
  Light : Int
  Drift : TDrift
  Orbit : TOrbit
  Plan : List Slot
  Up : TChannel
  Down : TChannel
  Ups : List TFlight
  Downs : List TFlight
  Ground : TGround
  Space : TSpace
  Offered : List ByteArray
  Took : List ByteArray
  Bad : Int
abbrev cMission (x : TMission) (a0 : Option Addr) (c0 : Nat) (a1 : Option Addr) (c1 : Nat) (a2 : Option Addr) (c2 : Nat) (a3 : Option Addr) (c3 : Nat) (a4 : Option Addr) (c4 : Nat) (a5 : Option Addr) (c5 : Nat) (a6 : Option Addr) (c6 : Nat) (a7 : Option Addr) (c7 : Nat) (a8 : Option Addr) (c8 : Nat) (a9 : Option Addr) (c9 : Nat) (a10 : Option Addr) (c10 : Nat) (a11 : Option Addr) (c11 : Nat) (a12 : Option Addr) (c12 : Nat) (a13 : Option Addr) (c13 : Nat) (a14 : Option Addr) (c14 : Nat) (a15 : Option Addr) (c15 : Nat) (a16 : Option Addr) (c16 : Nat) (a17 : Option Addr) (c17 : Nat) (a18 : Option Addr) (c18 : Nat) (a19 : Option Addr) (c19 : Nat) (a20 : Option Addr) (c20 : Nat) (a21 : Option Addr) (c21 : Nat) : List Value := [.int .i64 x.Time, .int .i64 x.Light, .int .i64 x.Drift.Rate, .int .i64 x.Drift.Offset, .int .i64 x.Orbit.Period, .int .i64 x.Orbit.Start, .int .i64 x.Orbit.Length, .slice a0 x.Plan.length c0, .int .i64 x.Up.Seed, .int .i64 x.Up.Burst, .int .i64 x.Up.Loss, .int .i64 x.Down.Seed, .int .i64 x.Down.Burst, .int .i64 x.Down.Loss, .slice a1 x.Ups.length c1, .slice a2 x.Downs.length c2, .slice a3 x.Ground.Offers.length c3, .int .i64 x.Ground.Sender.Next, .int .i64 x.Ground.Sender.Window, .slice a4 x.Ground.Sender.Waiting.length c4, .int .i64 x.Ground.Sender.Done, .int .i64 x.Ground.Notice.Expect, .bool x.Ground.Notice.Locked, .bool x.Ground.Notice.Again, .int .i64 x.Ground.Unpacker.Channel, .int .i64 x.Ground.Unpacker.Next, .bool x.Ground.Unpacker.Synced, .string x.Ground.Unpacker.Rest, .int .i64 x.Ground.Unpacker.Lost, .slice a5 x.Ground.Pairs.length c5, .slice a6 x.Ground.Records.length c6, .slice a7 x.Ground.Files.length c7, .slice a8 x.Ground.Told.length c8, .int .i64 x.Space.Receiver.Expect, .bool x.Space.Receiver.Locked, .bool x.Space.Receiver.Again, .int .i64 x.Space.Receiver.Taken, .int .i64 x.Space.Board.Clock, .slice a9 x.Space.Board.Params.length c9, .bool x.Space.Board.Safe, .slice a10 x.Space.Board.Limits.length c10, .slice a11 x.Space.Board.Orders.length c11, .slice a12 x.Space.Board.Done.length c12, .int .i64 x.Space.Board.Recorder.Room, .slice a13 x.Space.Board.Recorder.Records.length c13, .slice a14 x.Space.Board.Recorder.Dropped.length c14, .int .i64 x.Space.Board.Made, .int .i64 x.Space.Board.Taken, .slice a15 x.Space.Board.Asked.length c15, .int .i64 x.Space.Packer.Channel, .int .i64 x.Space.Packer.Count, .string x.Space.Packer.Rest, .slice a16 x.Space.Packer.Starts.length c16, .int .i64 x.Space.Seq, .slice a17 x.Space.Files.length c17, .slice a18 x.Space.Outs.length c18, .int .i64 x.Space.Begun, .slice a19 x.Space.Sent.length c19, .slice a20 x.Offered.length c20, .slice a21 x.Took.length c21, .int .i64 x.Bad]
abbrev zMission : List Value := [.int .i64 0, .int .i64 0, .int .i64 0, .int .i64 0, .int .i64 0, .int .i64 0, .int .i64 0, .slice none 0 0, .int .i64 0, .int .i64 0, .int .i64 0, .int .i64 0, .int .i64 0, .int .i64 0, .slice none 0 0, .slice none 0 0, .slice none 0 0, .int .i64 0, .int .i64 0, .slice none 0 0, .int .i64 0, .int .i64 0, .bool false, .bool false, .int .i64 0, .int .i64 0, .bool false, .string ⟨#[]⟩, .int .i64 0, .slice none 0 0, .slice none 0 0, .slice none 0 0, .slice none 0 0, .int .i64 0, .bool false, .bool false, .int .i64 0, .int .i64 0, .slice none 0 0, .bool false, .slice none 0 0, .slice none 0 0, .slice none 0 0, .int .i64 0, .slice none 0 0, .slice none 0 0, .int .i64 0, .int .i64 0, .slice none 0 0, .int .i64 0, .int .i64 0, .string ⟨#[]⟩, .slice none 0 0, .int .i64 0, .slice none 0 0, .slice none 0 0, .int .i64 0, .slice none 0 0, .slice none 0 0, .slice none 0 0, .int .i64 0]
abbrev eMission (x : TMission) (a0 : Option Addr) (n0 c0 : Nat) (a1 : Option Addr) (n1 c1 : Nat) (a2 : Option Addr) (n2 c2 : Nat) (a3 : Option Addr) (n3 c3 : Nat) (a4 : Option Addr) (n4 c4 : Nat) (a5 : Option Addr) (n5 c5 : Nat) (a6 : Option Addr) (n6 c6 : Nat) (a7 : Option Addr) (n7 c7 : Nat) (a8 : Option Addr) (n8 c8 : Nat) (a9 : Option Addr) (n9 c9 : Nat) (a10 : Option Addr) (n10 c10 : Nat) (a11 : Option Addr) (n11 c11 : Nat) (a12 : Option Addr) (n12 c12 : Nat) (a13 : Option Addr) (n13 c13 : Nat) (a14 : Option Addr) (n14 c14 : Nat) (a15 : Option Addr) (n15 c15 : Nat) (a16 : Option Addr) (n16 c16 : Nat) (a17 : Option Addr) (n17 c17 : Nat) (a18 : Option Addr) (n18 c18 : Nat) (a19 : Option Addr) (n19 c19 : Nat) (a20 : Option Addr) (n20 c20 : Nat) (a21 : Option Addr) (n21 c21 : Nat) : List Value := [.int .i64 x.Time, .int .i64 x.Light, .int .i64 x.Drift.Rate, .int .i64 x.Drift.Offset, .int .i64 x.Orbit.Period, .int .i64 x.Orbit.Start, .int .i64 x.Orbit.Length, .slice a0 n0 c0, .int .i64 x.Up.Seed, .int .i64 x.Up.Burst, .int .i64 x.Up.Loss, .int .i64 x.Down.Seed, .int .i64 x.Down.Burst, .int .i64 x.Down.Loss, .slice a1 n1 c1, .slice a2 n2 c2, .slice a3 n3 c3, .int .i64 x.Ground.Sender.Next, .int .i64 x.Ground.Sender.Window, .slice a4 n4 c4, .int .i64 x.Ground.Sender.Done, .int .i64 x.Ground.Notice.Expect, .bool x.Ground.Notice.Locked, .bool x.Ground.Notice.Again, .int .i64 x.Ground.Unpacker.Channel, .int .i64 x.Ground.Unpacker.Next, .bool x.Ground.Unpacker.Synced, .string x.Ground.Unpacker.Rest, .int .i64 x.Ground.Unpacker.Lost, .slice a5 n5 c5, .slice a6 n6 c6, .slice a7 n7 c7, .slice a8 n8 c8, .int .i64 x.Space.Receiver.Expect, .bool x.Space.Receiver.Locked, .bool x.Space.Receiver.Again, .int .i64 x.Space.Receiver.Taken, .int .i64 x.Space.Board.Clock, .slice a9 n9 c9, .bool x.Space.Board.Safe, .slice a10 n10 c10, .slice a11 n11 c11, .slice a12 n12 c12, .int .i64 x.Space.Board.Recorder.Room, .slice a13 n13 c13, .slice a14 n14 c14, .int .i64 x.Space.Board.Made, .int .i64 x.Space.Board.Taken, .slice a15 n15 c15, .int .i64 x.Space.Packer.Channel, .int .i64 x.Space.Packer.Count, .string x.Space.Packer.Rest, .slice a16 n16 c16, .int .i64 x.Space.Seq, .slice a17 n17 c17, .slice a18 n18 c18, .int .i64 x.Space.Begun, .slice a19 n19 c19, .slice a20 n20 c20, .slice a21 n21 c21, .int .i64 x.Bad]
def okDTMission (x : TMission) : Prop := i64 x.Time ∧ i64 x.Light ∧ okDTDrift x.Drift ∧ okDTOrbit x.Orbit ∧ okDTChannel x.Up ∧ okDTChannel x.Down ∧ okDTGround x.Ground ∧ okDTSpace x.Space ∧ i64 x.Bad ∧ True
structure TMissionA where
  a0 : Option Addr
  c0 : Nat
  a1 : Option Addr
  c1 : Nat
  a2 : Option Addr
  c2 : Nat
  a3 : Option Addr
  c3 : Nat
  a4 : Option Addr
  c4 : Nat
  a5 : Option Addr
  c5 : Nat
  a6 : Option Addr
  c6 : Nat
  a7 : Option Addr
  c7 : Nat
  a8 : Option Addr
  c8 : Nat
  a9 : Option Addr
  c9 : Nat
  a10 : Option Addr
  c10 : Nat
  a11 : Option Addr
  c11 : Nat
  a12 : Option Addr
  c12 : Nat
  a13 : Option Addr
  c13 : Nat
  a14 : Option Addr
  c14 : Nat
  a15 : Option Addr
  c15 : Nat
  a16 : Option Addr
  c16 : Nat
  a17 : Option Addr
  c17 : Nat
  a18 : Option Addr
  c18 : Nat
  a19 : Option Addr
  c19 : Nat
  a20 : Option Addr
  c20 : Nat
  a21 : Option Addr
  c21 : Nat
structure TMissionF (B : Nat) (w : World) (A : TMissionA) (x : TMission) : Prop where
  q0 : RdS B w A.a0 A.c0 x.Plan
  q1 : RdS B w A.a1 A.c1 x.Ups
  q2 : RdS B w A.a2 A.c2 x.Downs
  q3 : RdS B w A.a3 A.c3 x.Ground.Offers
  q4 : RdS B w A.a4 A.c4 x.Ground.Sender.Waiting
  q5 : RdS B w A.a5 A.c5 x.Ground.Pairs
  q6 : RdS B w A.a6 A.c6 x.Ground.Records
  q7 : RdS B w A.a7 A.c7 x.Ground.Files
  q8 : RdS B w A.a8 A.c8 x.Ground.Told
  q9 : RdS B w A.a9 A.c9 x.Space.Board.Params
  q10 : RdS B w A.a10 A.c10 x.Space.Board.Limits
  q11 : RdS B w A.a11 A.c11 x.Space.Board.Orders
  q12 : RdS B w A.a12 A.c12 x.Space.Board.Done
  q13 : RdS B w A.a13 A.c13 x.Space.Board.Recorder.Records
  q14 : RdS B w A.a14 A.c14 x.Space.Board.Recorder.Dropped
  q15 : RdS B w A.a15 A.c15 x.Space.Board.Asked
  q16 : RdS B w A.a16 A.c16 x.Space.Packer.Starts
  q17 : RdS B w A.a17 A.c17 x.Space.Files
  q18 : RdS B w A.a18 A.c18 x.Space.Outs
  q19 : RdS B w A.a19 A.c19 x.Space.Sent
  q20 : RdS B w A.a20 A.c20 x.Offered
  q21 : RdS B w A.a21 A.c21 x.Took
  ok : okDTMission x
theorem TMissionF.keep {B : Nat} {w w2 : World} {A : TMissionA} {x : TMission} (h : TMissionF B w A x) (g : Keeps B w w2) : TMissionF B w2 A x := ⟨h.q0.keep g, h.q1.keep g, h.q2.keep g, h.q3.keep g, h.q4.keep g, h.q5.keep g, h.q6.keep g, h.q7.keep g, h.q8.keep g, h.q9.keep g, h.q10.keep g, h.q11.keep g, h.q12.keep g, h.q13.keep g, h.q14.keep g, h.q15.keep g, h.q16.keep g, h.q17.keep g, h.q18.keep g, h.q19.keep g, h.q20.keep g, h.q21.keep g, h.ok⟩
theorem TMissionF.mono {B B2 : Nat} {w : World} {A : TMissionA} {x : TMission} (h : TMissionF B w A x) (g : B2 ≤ B) : TMissionF B2 w A x := ⟨h.q0.mono g, h.q1.mono g, h.q2.mono g, h.q3.mono g, h.q4.mono g, h.q5.mono g, h.q6.mono g, h.q7.mono g, h.q8.mono g, h.q9.mono g, h.q10.mono g, h.q11.mono g, h.q12.mono g, h.q13.mono g, h.q14.mono g, h.q15.mono g, h.q16.mono g, h.q17.mono g, h.q18.mono g, h.q19.mono g, h.q20.mono g, h.q21.mono g, h.ok⟩
instance : Enc TMission where
  size := 61
  Rd B w vs x := ∃ A : TMissionA, vs = [.int .i64 x.Time, .int .i64 x.Light, .int .i64 x.Drift.Rate, .int .i64 x.Drift.Offset, .int .i64 x.Orbit.Period, .int .i64 x.Orbit.Start, .int .i64 x.Orbit.Length, .slice A.a0 x.Plan.length A.c0, .int .i64 x.Up.Seed, .int .i64 x.Up.Burst, .int .i64 x.Up.Loss, .int .i64 x.Down.Seed, .int .i64 x.Down.Burst, .int .i64 x.Down.Loss, .slice A.a1 x.Ups.length A.c1, .slice A.a2 x.Downs.length A.c2, .slice A.a3 x.Ground.Offers.length A.c3, .int .i64 x.Ground.Sender.Next, .int .i64 x.Ground.Sender.Window, .slice A.a4 x.Ground.Sender.Waiting.length A.c4, .int .i64 x.Ground.Sender.Done, .int .i64 x.Ground.Notice.Expect, .bool x.Ground.Notice.Locked, .bool x.Ground.Notice.Again, .int .i64 x.Ground.Unpacker.Channel, .int .i64 x.Ground.Unpacker.Next, .bool x.Ground.Unpacker.Synced, .string x.Ground.Unpacker.Rest, .int .i64 x.Ground.Unpacker.Lost, .slice A.a5 x.Ground.Pairs.length A.c5, .slice A.a6 x.Ground.Records.length A.c6, .slice A.a7 x.Ground.Files.length A.c7, .slice A.a8 x.Ground.Told.length A.c8, .int .i64 x.Space.Receiver.Expect, .bool x.Space.Receiver.Locked, .bool x.Space.Receiver.Again, .int .i64 x.Space.Receiver.Taken, .int .i64 x.Space.Board.Clock, .slice A.a9 x.Space.Board.Params.length A.c9, .bool x.Space.Board.Safe, .slice A.a10 x.Space.Board.Limits.length A.c10, .slice A.a11 x.Space.Board.Orders.length A.c11, .slice A.a12 x.Space.Board.Done.length A.c12, .int .i64 x.Space.Board.Recorder.Room, .slice A.a13 x.Space.Board.Recorder.Records.length A.c13, .slice A.a14 x.Space.Board.Recorder.Dropped.length A.c14, .int .i64 x.Space.Board.Made, .int .i64 x.Space.Board.Taken, .slice A.a15 x.Space.Board.Asked.length A.c15, .int .i64 x.Space.Packer.Channel, .int .i64 x.Space.Packer.Count, .string x.Space.Packer.Rest, .slice A.a16 x.Space.Packer.Starts.length A.c16, .int .i64 x.Space.Seq, .slice A.a17 x.Space.Files.length A.c17, .slice A.a18 x.Space.Outs.length A.c18, .int .i64 x.Space.Begun, .slice A.a19 x.Space.Sent.length A.c19, .slice A.a20 x.Offered.length A.c20, .slice A.a21 x.Took.length A.c21, .int .i64 x.Bad] ∧ TMissionF B w A x
  len := by rintro _ _ _ _ ⟨A, h, F⟩; rw [h]; rfl
  keep := by rintro _ _ _ _ _ ⟨A, h, F⟩ g; exact ⟨A, h, F.keep g⟩
  mono := by rintro _ _ _ _ _ ⟨A, h, F⟩ g; exact ⟨A, h, F.mono g⟩
  tot x := totL x.Plan + totL x.Ups + totL x.Downs + Enc.tot x.Ground + Enc.tot x.Space + totL x.Offered + totL x.Took
  tot_nonneg x := by have h0 := totL_nonneg x.Plan; have h1 := totL_nonneg x.Ups; have h2 := totL_nonneg x.Downs; have h3 := Enc.tot_nonneg x.Ground; have h4 := Enc.tot_nonneg x.Space; have h5 := totL_nonneg x.Offered; have h6 := totL_nonneg x.Took; omega
end Go.Proofs.YtbaffippdifbpaaGreat
namespace Go.Proofs.YtbaffippdifbpaaGreat
set_option linter.unusedVariables false
open Go.ChangeShapes Go.WideShapes Go.ChangeAt Go.RowKit
structure But (b : Nat) (w w' : World) : Prop where
  size : w.heap.size ≤ w'.heap.size
  block : ∀ k, k ≠ b → k < w.heap.size → w'.heap[k]? = w.heap[k]?
theorem But.setCells {b : Nat} : ∀ (us : List Value) {a w : World} (o : Nat), But b a w → But b a (w.setCells b o us)
  | [], _, _, _, h => h
  | v :: r, _, w, o, h => But.setCells r (o + 1) ⟨by simpa using h.size, fun k h1 h2 => by
    rw [Below.heap_setCell _ _ _ _ (fun e => h1 (by simpa using e))]; exact h.block k h1 h2⟩
theorem But.under {B b : Nat} {u w w' : World} (h : But b w w') (g : Keeps B u w) (hb : u.heap.size ≤ b) : Keeps B u w' := ⟨Nat.le_trans g.size h.size, fun k h1 h2 => by
  rw [h.block k (by omega) (Nat.lt_of_lt_of_le h2 g.size)]; exact g.block k h1 h2⟩
theorem But.above {b : Nat} {w w' : World} (h : But b w w') : Keeps (b + 1) w w' := ⟨h.size, fun k h1 h2 => h.block k (by omega) h2⟩
theorem Held.but {b c : Nat} {w w' : World} {cs : List Value} {T : TypeId} (h : Held w c cs T) (g : But b w w') (hne : c ≠ b) : Held w' c cs T := by
  unfold Held
  rw [g.block c hne h.lt]; exact h
section
variable {P : Program} {ops : Array Oper} {rest : List Oper} {op : Oper} {a : Act} {w : World} {Q : Exit → Act → World → Prop}
theorem stepStore2 (hgd : op.guard = none) (ty : TypeId) (x y : Operand) (ho : op.op = .store ty x y) (b o : Nat) (hx : a.eval x = .pointer (some ⟨b, o, none⟩)) {cs us cs2 : List Value} {T : TypeId} (H : Held w b cs T)
    (hv : (a.eval y).cells.toList = us) (hi : (P.info? ty).map (·.size) = some us.length) (h1 : us.all (·.oneCell') = true) (hl : o + us.length ≤ cs.length) (hcs : splice cs o us = cs2) {w0 : World} (g : Grows w0 w) (hb : w0.heap.size ≤ b)
    (h : ∀ z : Later w0, Held z.w b cs2 T → But b w z.w → wpList P ops Q rest (a.put op.dst undef) z.w) : wpList P ops Q (op :: rest) a w := by
  subst hcs
  refine wpList_plain hgd fun _ hK => ?_
  unfold Oper.wp execOp
  simp only [ho, hx, Instr.storeAt, Instr.sureAddr, Sem.run_bind, Sem.run_pure, Result.andThen_ok, run_storeVar_held hv (H.there hl) hi (fun u hu => List.all_eq_true.1 h1 u hu)]
  exact hK _ _ (h ⟨_, below_setCells hb us o g.out⟩ (H.setCells us o) (But.setCells us o ⟨Nat.le_refl _, fun _ _ _ => rfl⟩))
end
theorem splice_pre : ∀ (us pre post : List Value), us.length = post.length → splice (pre ++ post) pre.length us = pre ++ us
  | [], pre, post, h => by
    have : post = [] := List.length_eq_zero_iff.1 h.symm
    subst this; rfl
  | v :: r, pre, [], h => by simp at h
  | v :: r, pre, u :: post, h => by
    have := splice_pre r (pre ++ [v]) post (by simpa using h)
    rw [splice]
    rw [List.set_append_right _ _ (Nat.le_refl _), Nat.sub_self, List.set_cons_zero]
    simpa using this
theorem splice_all {cs us : List Value} (h : us.length = cs.length) : splice cs 0 us = us := splice_pre us [] cs h
end Go.Proofs.YtbaffippdifbpaaGreat
namespace Go.Proofs.YtbaffippdifbpaaGreat
set_option linter.unusedVariables false
open Go.ChangeShapes Go.WideShapes Go.ChangeAt Go.RowKit
theorem ofTSent {w : World} (vs : List Value) (hl : vs.length = 2) (h : RdL w [.int, .str] vs) : ∃ x : TSent, Enc.Rd 0 w vs x := by
  obtain ⟨u0, g0, r0⟩ := h.at (j := 0) rfl
  obtain ⟨x0, rfl, p0⟩ := r0.int_inv
  obtain ⟨u1, g1, r1⟩ := h.at (j := 1) rfl
  obtain ⟨x1, rfl, p1⟩ := r1.str_inv
  replace p1 : x1.size ≤ 9223372036854775807 := by unfold maxLen at p1; omega
  refine ⟨⟨x0, x1⟩, ⟨list_all hl ?_, ⟨p0, p1, trivial⟩⟩⟩
  intro j y hy
  match j, hy with
  | 0, hy => cases hy; exact g0
  | 1, hy => cases hy; exact g1
theorem ofTRecord {w : World} (vs : List Value) (hl : vs.length = 4) (h : RdL w [.int, .int, .int, .str] vs) : ∃ x : TRecord, Enc.Rd 0 w vs x := by
  obtain ⟨u0, g0, r0⟩ := h.at (j := 0) rfl
  obtain ⟨x0, rfl, p0⟩ := r0.int_inv
  obtain ⟨u1, g1, r1⟩ := h.at (j := 1) rfl
  obtain ⟨x1, rfl, p1⟩ := r1.int_inv
  obtain ⟨u2, g2, r2⟩ := h.at (j := 2) rfl
  obtain ⟨x2, rfl, p2⟩ := r2.int_inv
  obtain ⟨u3, g3, r3⟩ := h.at (j := 3) rfl
  obtain ⟨x3, rfl, p3⟩ := r3.str_inv
  replace p3 : x3.size ≤ 9223372036854775807 := by unfold maxLen at p3; omega
  refine ⟨⟨x0, x1, x2, x3⟩, ⟨list_all hl ?_, ⟨p0, p1, p2, p3, trivial⟩⟩⟩
  intro j y hy
  match j, hy with
  | 0, hy => cases hy; exact g0
  | 1, hy => cases hy; exact g1
  | 2, hy => cases hy; exact g2
  | 3, hy => cases hy; exact g3
theorem ofTLimit {w : World} (vs : List Value) (hl : vs.length = 3) (h : RdL w [.int, .int, .int] vs) : ∃ x : TLimit, Enc.Rd 0 w vs x := by
  obtain ⟨u0, g0, r0⟩ := h.at (j := 0) rfl
  obtain ⟨x0, rfl, p0⟩ := r0.int_inv
  obtain ⟨u1, g1, r1⟩ := h.at (j := 1) rfl
  obtain ⟨x1, rfl, p1⟩ := r1.int_inv
  obtain ⟨u2, g2, r2⟩ := h.at (j := 2) rfl
  obtain ⟨x2, rfl, p2⟩ := r2.int_inv
  refine ⟨⟨x0, x1, x2⟩, ⟨list_all hl ?_, ⟨p0, p1, p2, trivial⟩⟩⟩
  intro j y hy
  match j, hy with
  | 0, hy => cases hy; exact g0
  | 1, hy => cases hy; exact g1
  | 2, hy => cases hy; exact g2
theorem ofTWaiting {w : World} (vs : List Value) (hl : vs.length = 5) (h : RdL w [.int, .int, .int, .int, .int] vs) : ∃ x : TWaiting, Enc.Rd 0 w vs x := by
  obtain ⟨u0, g0, r0⟩ := h.at (j := 0) rfl
  obtain ⟨x0, rfl, p0⟩ := r0.int_inv
  obtain ⟨u1, g1, r1⟩ := h.at (j := 1) rfl
  obtain ⟨x1, rfl, p1⟩ := r1.int_inv
  obtain ⟨u2, g2, r2⟩ := h.at (j := 2) rfl
  obtain ⟨x2, rfl, p2⟩ := r2.int_inv
  obtain ⟨u3, g3, r3⟩ := h.at (j := 3) rfl
  obtain ⟨x3, rfl, p3⟩ := r3.int_inv
  obtain ⟨u4, g4, r4⟩ := h.at (j := 4) rfl
  obtain ⟨x4, rfl, p4⟩ := r4.int_inv
  refine ⟨⟨x0, ⟨x1, x2, x3, x4⟩⟩, ⟨list_all hl ?_, ⟨p0, ⟨p1, p2, p3, p4, trivial⟩, trivial⟩⟩⟩
  intro j y hy
  match j, hy with
  | 0, hy => cases hy; exact g0
  | 1, hy => cases hy; exact g1
  | 2, hy => cases hy; exact g2
  | 3, hy => cases hy; exact g3
  | 4, hy => cases hy; exact g4
theorem ofTDone {w : World} (vs : List Value) (hl : vs.length = 3) (h : RdL w [.int, .int, .int] vs) : ∃ x : TDone, Enc.Rd 0 w vs x := by
  obtain ⟨u0, g0, r0⟩ := h.at (j := 0) rfl
  obtain ⟨x0, rfl, p0⟩ := r0.int_inv
  obtain ⟨u1, g1, r1⟩ := h.at (j := 1) rfl
  obtain ⟨x1, rfl, p1⟩ := r1.int_inv
  obtain ⟨u2, g2, r2⟩ := h.at (j := 2) rfl
  obtain ⟨x2, rfl, p2⟩ := r2.int_inv
  refine ⟨⟨x0, x1, x2⟩, ⟨list_all hl ?_, ⟨p0, p1, p2, trivial⟩⟩⟩
  intro j y hy
  match j, hy with
  | 0, hy => cases hy; exact g0
  | 1, hy => cases hy; exact g1
  | 2, hy => cases hy; exact g2
theorem ofTFileIn {w : World} (vs : List Value) (hl : vs.length = 4) (h : RdL w [.int, .int, .int, .sl [.str]] vs) : ∃ x : TFileIn, Enc.Rd 0 w vs x := by
  obtain ⟨u0, g0, r0⟩ := h.at (j := 0) rfl
  obtain ⟨x0, rfl, p0⟩ := r0.int_inv
  obtain ⟨u1, g1, r1⟩ := h.at (j := 1) rfl
  obtain ⟨x1, rfl, p1⟩ := r1.int_inv
  obtain ⟨u2, g2, r2⟩ := h.at (j := 2) rfl
  obtain ⟨x2, rfl, p2⟩ := r2.int_inv
  obtain ⟨u3, g3, r3⟩ := h.at (j := 3) rfl
  obtain ⟨a3, c3, x3, rfl, p3⟩ := openS (α := ByteArray) (es := [.str]) rfl openStr r3
  refine ⟨⟨x0, x1, x2, x3⟩, ⟨a3, c3, list_all hl ?_, p3, ⟨p0, p1, p2, trivial⟩⟩⟩
  intro j y hy
  match j, hy with
  | 0, hy => cases hy; exact g0
  | 1, hy => cases hy; exact g1
  | 2, hy => cases hy; exact g2
  | 3, hy => cases hy; exact g3
theorem ofTFileOut {w : World} (vs : List Value) (hl : vs.length = 4) (h : RdL w [.int, .str, .sl [.int], .bool] vs) : ∃ x : TFileOut, Enc.Rd 0 w vs x := by
  obtain ⟨u0, g0, r0⟩ := h.at (j := 0) rfl
  obtain ⟨x0, rfl, p0⟩ := r0.int_inv
  obtain ⟨u1, g1, r1⟩ := h.at (j := 1) rfl
  obtain ⟨x1, rfl, p1⟩ := r1.str_inv
  replace p1 : x1.size ≤ 9223372036854775807 := by unfold maxLen at p1; omega
  obtain ⟨u2, g2, r2⟩ := h.at (j := 2) rfl
  obtain ⟨a2, c2, x2, rfl, p2⟩ := openS (α := Int) (es := [.int]) rfl openInt r2
  obtain ⟨u3, g3, r3⟩ := h.at (j := 3) rfl
  obtain ⟨x3, rfl⟩ := r3.bool_inv
  refine ⟨⟨x0, x1, x2, x3⟩, ⟨a2, c2, list_all hl ?_, p2, ⟨p0, p1, trivial⟩⟩⟩
  intro j y hy
  match j, hy with
  | 0, hy => cases hy; exact g0
  | 1, hy => cases hy; exact g1
  | 2, hy => cases hy; exact g2
  | 3, hy => cases hy; exact g3
theorem ofPair {w : World} (vs : List Value) (hl : vs.length = 2) (h : RdL w [.int, .int] vs) : ∃ x : Pair, Enc.Rd 0 w vs x := by
  obtain ⟨u0, g0, r0⟩ := h.at (j := 0) rfl
  obtain ⟨x0, rfl, p0⟩ := r0.int_inv
  obtain ⟨u1, g1, r1⟩ := h.at (j := 1) rfl
  obtain ⟨x1, rfl, p1⟩ := r1.int_inv
  refine ⟨⟨x0, x1⟩, ⟨list_all hl ?_, ⟨p0, p1, trivial⟩⟩⟩
  intro j y hy
  match j, hy with
  | 0, hy => cases hy; exact g0
  | 1, hy => cases hy; exact g1
theorem ofSlot {w : World} (vs : List Value) (hl : vs.length = 2) (h : RdL w [.int, .int] vs) : ∃ x : Slot, Enc.Rd 0 w vs x := by
  obtain ⟨u0, g0, r0⟩ := h.at (j := 0) rfl
  obtain ⟨x0, rfl, p0⟩ := r0.int_inv
  obtain ⟨u1, g1, r1⟩ := h.at (j := 1) rfl
  obtain ⟨x1, rfl, p1⟩ := r1.int_inv
  refine ⟨⟨x0, x1⟩, ⟨list_all hl ?_, ⟨p0, p1, trivial⟩⟩⟩
  intro j y hy
  match j, hy with
  | 0, hy => cases hy; exact g0
  | 1, hy => cases hy; exact g1
theorem ofTFlight {w : World} (vs : List Value) (hl : vs.length = 2) (h : RdL w [.int, .str] vs) : ∃ x : TFlight, Enc.Rd 0 w vs x := by
  obtain ⟨u0, g0, r0⟩ := h.at (j := 0) rfl
  obtain ⟨x0, rfl, p0⟩ := r0.int_inv
  obtain ⟨u1, g1, r1⟩ := h.at (j := 1) rfl
  obtain ⟨x1, rfl, p1⟩ := r1.str_inv
  replace p1 : x1.size ≤ 9223372036854775807 := by unfold maxLen at p1; omega
  refine ⟨⟨x0, x1⟩, ⟨list_all hl ?_, ⟨p0, p1, trivial⟩⟩⟩
  intro j y hy
  match j, hy with
  | 0, hy => cases hy; exact g0
  | 1, hy => cases hy; exact g1
theorem ofTMission {w : World} (vs : List Value) (hl : vs.length = 61) (h : RdL w [.int, .int, .int, .int, .int, .int, .int, .sl [.int, .int], .int, .int, .int, .int, .int, .int, .sl [.int, .str], .sl [.int, .str], .sl [.str], .int, .int, .sl [.int, .str], .int, .int, .bool, .bool, .int, .int, .bool, .str, .int, .sl [.int, .int], .sl [.int, .int, .int, .str], .sl [.int, .int, .int, .sl [.str]], .sl [.bool], .int, .bool, .bool, .int, .int, .sl [.int], .bool, .sl [.int, .int, .int], .sl [.int, .int, .int, .int, .int], .sl [.int, .int, .int], .int, .sl [.int, .int, .int, .str], .sl [.int], .int, .int, .sl [.int], .int, .int, .str, .sl [.int], .int, .sl [.str], .sl [.int, .str, .sl [.int], .bool], .int, .sl [.int, .int, .int, .str], .sl [.str], .sl [.str], .int] vs) : ∃ x : TMission, Enc.Rd 0 w vs x := by
  obtain ⟨u0, g0, r0⟩ := h.at (j := 0) rfl
  obtain ⟨x0, rfl, p0⟩ := r0.int_inv
  obtain ⟨u1, g1, r1⟩ := h.at (j := 1) rfl
  obtain ⟨x1, rfl, p1⟩ := r1.int_inv
  obtain ⟨u2, g2, r2⟩ := h.at (j := 2) rfl
  obtain ⟨x2, rfl, p2⟩ := r2.int_inv
  obtain ⟨u3, g3, r3⟩ := h.at (j := 3) rfl
  obtain ⟨x3, rfl, p3⟩ := r3.int_inv
  obtain ⟨u4, g4, r4⟩ := h.at (j := 4) rfl
  obtain ⟨x4, rfl, p4⟩ := r4.int_inv
  obtain ⟨u5, g5, r5⟩ := h.at (j := 5) rfl
  obtain ⟨x5, rfl, p5⟩ := r5.int_inv
  obtain ⟨u6, g6, r6⟩ := h.at (j := 6) rfl
  obtain ⟨x6, rfl, p6⟩ := r6.int_inv
  obtain ⟨u7, g7, r7⟩ := h.at (j := 7) rfl
  obtain ⟨a7, c7, x7, rfl, p7⟩ := openS (α := Slot) (es := [.int, .int]) rfl ofSlot r7
  obtain ⟨u8, g8, r8⟩ := h.at (j := 8) rfl
  obtain ⟨x8, rfl, p8⟩ := r8.int_inv
  obtain ⟨u9, g9, r9⟩ := h.at (j := 9) rfl
  obtain ⟨x9, rfl, p9⟩ := r9.int_inv
  obtain ⟨u10, g10, r10⟩ := h.at (j := 10) rfl
  obtain ⟨x10, rfl, p10⟩ := r10.int_inv
  obtain ⟨u11, g11, r11⟩ := h.at (j := 11) rfl
  obtain ⟨x11, rfl, p11⟩ := r11.int_inv
  obtain ⟨u12, g12, r12⟩ := h.at (j := 12) rfl
  obtain ⟨x12, rfl, p12⟩ := r12.int_inv
  obtain ⟨u13, g13, r13⟩ := h.at (j := 13) rfl
  obtain ⟨x13, rfl, p13⟩ := r13.int_inv
  obtain ⟨u14, g14, r14⟩ := h.at (j := 14) rfl
  obtain ⟨a14, c14, x14, rfl, p14⟩ := openS (α := TFlight) (es := [.int, .str]) rfl ofTFlight r14
  obtain ⟨u15, g15, r15⟩ := h.at (j := 15) rfl
  obtain ⟨a15, c15, x15, rfl, p15⟩ := openS (α := TFlight) (es := [.int, .str]) rfl ofTFlight r15
  obtain ⟨u16, g16, r16⟩ := h.at (j := 16) rfl
  obtain ⟨a16, c16, x16, rfl, p16⟩ := openS (α := ByteArray) (es := [.str]) rfl openStr r16
  obtain ⟨u17, g17, r17⟩ := h.at (j := 17) rfl
  obtain ⟨x17, rfl, p17⟩ := r17.int_inv
  obtain ⟨u18, g18, r18⟩ := h.at (j := 18) rfl
  obtain ⟨x18, rfl, p18⟩ := r18.int_inv
  obtain ⟨u19, g19, r19⟩ := h.at (j := 19) rfl
  obtain ⟨a19, c19, x19, rfl, p19⟩ := openS (α := TSent) (es := [.int, .str]) rfl ofTSent r19
  obtain ⟨u20, g20, r20⟩ := h.at (j := 20) rfl
  obtain ⟨x20, rfl, p20⟩ := r20.int_inv
  obtain ⟨u21, g21, r21⟩ := h.at (j := 21) rfl
  obtain ⟨x21, rfl, p21⟩ := r21.int_inv
  obtain ⟨u22, g22, r22⟩ := h.at (j := 22) rfl
  obtain ⟨x22, rfl⟩ := r22.bool_inv
  obtain ⟨u23, g23, r23⟩ := h.at (j := 23) rfl
  obtain ⟨x23, rfl⟩ := r23.bool_inv
  obtain ⟨u24, g24, r24⟩ := h.at (j := 24) rfl
  obtain ⟨x24, rfl, p24⟩ := r24.int_inv
  obtain ⟨u25, g25, r25⟩ := h.at (j := 25) rfl
  obtain ⟨x25, rfl, p25⟩ := r25.int_inv
  obtain ⟨u26, g26, r26⟩ := h.at (j := 26) rfl
  obtain ⟨x26, rfl⟩ := r26.bool_inv
  obtain ⟨u27, g27, r27⟩ := h.at (j := 27) rfl
  obtain ⟨x27, rfl, p27⟩ := r27.str_inv
  replace p27 : x27.size ≤ 9223372036854775807 := by unfold maxLen at p27; omega
  obtain ⟨u28, g28, r28⟩ := h.at (j := 28) rfl
  obtain ⟨x28, rfl, p28⟩ := r28.int_inv
  obtain ⟨u29, g29, r29⟩ := h.at (j := 29) rfl
  obtain ⟨a29, c29, x29, rfl, p29⟩ := openS (α := Pair) (es := [.int, .int]) rfl ofPair r29
  obtain ⟨u30, g30, r30⟩ := h.at (j := 30) rfl
  obtain ⟨a30, c30, x30, rfl, p30⟩ := openS (α := TRecord) (es := [.int, .int, .int, .str]) rfl ofTRecord r30
  obtain ⟨u31, g31, r31⟩ := h.at (j := 31) rfl
  obtain ⟨a31, c31, x31, rfl, p31⟩ := openS (α := TFileIn) (es := [.int, .int, .int, .sl [.str]]) rfl ofTFileIn r31
  obtain ⟨u32, g32, r32⟩ := h.at (j := 32) rfl
  obtain ⟨a32, c32, x32, rfl, p32⟩ := openS (α := Bool) (es := [.bool]) rfl openBool r32
  obtain ⟨u33, g33, r33⟩ := h.at (j := 33) rfl
  obtain ⟨x33, rfl, p33⟩ := r33.int_inv
  obtain ⟨u34, g34, r34⟩ := h.at (j := 34) rfl
  obtain ⟨x34, rfl⟩ := r34.bool_inv
  obtain ⟨u35, g35, r35⟩ := h.at (j := 35) rfl
  obtain ⟨x35, rfl⟩ := r35.bool_inv
  obtain ⟨u36, g36, r36⟩ := h.at (j := 36) rfl
  obtain ⟨x36, rfl, p36⟩ := r36.int_inv
  obtain ⟨u37, g37, r37⟩ := h.at (j := 37) rfl
  obtain ⟨x37, rfl, p37⟩ := r37.int_inv
  obtain ⟨u38, g38, r38⟩ := h.at (j := 38) rfl
  obtain ⟨a38, c38, x38, rfl, p38⟩ := openS (α := Int) (es := [.int]) rfl openInt r38
  obtain ⟨u39, g39, r39⟩ := h.at (j := 39) rfl
  obtain ⟨x39, rfl⟩ := r39.bool_inv
  obtain ⟨u40, g40, r40⟩ := h.at (j := 40) rfl
  obtain ⟨a40, c40, x40, rfl, p40⟩ := openS (α := TLimit) (es := [.int, .int, .int]) rfl ofTLimit r40
  obtain ⟨u41, g41, r41⟩ := h.at (j := 41) rfl
  obtain ⟨a41, c41, x41, rfl, p41⟩ := openS (α := TWaiting) (es := [.int, .int, .int, .int, .int]) rfl ofTWaiting r41
  obtain ⟨u42, g42, r42⟩ := h.at (j := 42) rfl
  obtain ⟨a42, c42, x42, rfl, p42⟩ := openS (α := TDone) (es := [.int, .int, .int]) rfl ofTDone r42
  obtain ⟨u43, g43, r43⟩ := h.at (j := 43) rfl
  obtain ⟨x43, rfl, p43⟩ := r43.int_inv
  obtain ⟨u44, g44, r44⟩ := h.at (j := 44) rfl
  obtain ⟨a44, c44, x44, rfl, p44⟩ := openS (α := TRecord) (es := [.int, .int, .int, .str]) rfl ofTRecord r44
  obtain ⟨u45, g45, r45⟩ := h.at (j := 45) rfl
  obtain ⟨a45, c45, x45, rfl, p45⟩ := openS (α := Int) (es := [.int]) rfl openInt r45
  obtain ⟨u46, g46, r46⟩ := h.at (j := 46) rfl
  obtain ⟨x46, rfl, p46⟩ := r46.int_inv
  obtain ⟨u47, g47, r47⟩ := h.at (j := 47) rfl
  obtain ⟨x47, rfl, p47⟩ := r47.int_inv
  obtain ⟨u48, g48, r48⟩ := h.at (j := 48) rfl
  obtain ⟨a48, c48, x48, rfl, p48⟩ := openS (α := Int) (es := [.int]) rfl openInt r48
  obtain ⟨u49, g49, r49⟩ := h.at (j := 49) rfl
  obtain ⟨x49, rfl, p49⟩ := r49.int_inv
  obtain ⟨u50, g50, r50⟩ := h.at (j := 50) rfl
  obtain ⟨x50, rfl, p50⟩ := r50.int_inv
  obtain ⟨u51, g51, r51⟩ := h.at (j := 51) rfl
  obtain ⟨x51, rfl, p51⟩ := r51.str_inv
  replace p51 : x51.size ≤ 9223372036854775807 := by unfold maxLen at p51; omega
  obtain ⟨u52, g52, r52⟩ := h.at (j := 52) rfl
  obtain ⟨a52, c52, x52, rfl, p52⟩ := openS (α := Int) (es := [.int]) rfl openInt r52
  obtain ⟨u53, g53, r53⟩ := h.at (j := 53) rfl
  obtain ⟨x53, rfl, p53⟩ := r53.int_inv
  obtain ⟨u54, g54, r54⟩ := h.at (j := 54) rfl
  obtain ⟨a54, c54, x54, rfl, p54⟩ := openS (α := ByteArray) (es := [.str]) rfl openStr r54
  obtain ⟨u55, g55, r55⟩ := h.at (j := 55) rfl
  obtain ⟨a55, c55, x55, rfl, p55⟩ := openS (α := TFileOut) (es := [.int, .str, .sl [.int], .bool]) rfl ofTFileOut r55
  obtain ⟨u56, g56, r56⟩ := h.at (j := 56) rfl
  obtain ⟨x56, rfl, p56⟩ := r56.int_inv
  obtain ⟨u57, g57, r57⟩ := h.at (j := 57) rfl
  obtain ⟨a57, c57, x57, rfl, p57⟩ := openS (α := TRecord) (es := [.int, .int, .int, .str]) rfl ofTRecord r57
  obtain ⟨u58, g58, r58⟩ := h.at (j := 58) rfl
  obtain ⟨a58, c58, x58, rfl, p58⟩ := openS (α := ByteArray) (es := [.str]) rfl openStr r58
  obtain ⟨u59, g59, r59⟩ := h.at (j := 59) rfl
  obtain ⟨a59, c59, x59, rfl, p59⟩ := openS (α := ByteArray) (es := [.str]) rfl openStr r59
  obtain ⟨u60, g60, r60⟩ := h.at (j := 60) rfl
  obtain ⟨x60, rfl, p60⟩ := r60.int_inv
  refine ⟨⟨x0, x1, ⟨x2, x3⟩, ⟨x4, x5, x6⟩, x7, ⟨x8, x9, x10⟩, ⟨x11, x12, x13⟩, x14, x15, ⟨x16, ⟨x17, x18, x19, x20⟩, ⟨x21, x22, x23⟩, ⟨x24, x25, x26, x27, x28⟩, x29, x30, x31, x32⟩, ⟨⟨x33, x34, x35, x36⟩, ⟨x37, x38, x39, x40, x41, x42, ⟨x43, x44, x45⟩, x46, x47, x48⟩, ⟨x49, x50, x51, x52⟩, x53, x54, x55, x56, x57⟩, x58, x59, x60⟩, ⟨⟨a7, c7, a14, c14, a15, c15, a16, c16, a19, c19, a29, c29, a30, c30, a31, c31, a32, c32, a38, c38, a40, c40, a41, c41, a42, c42, a44, c44, a45, c45, a48, c48, a52, c52, a54, c54, a55, c55, a57, c57, a58, c58, a59, c59⟩, list_all hl ?_, ⟨p7, p14, p15, p16, p19, p29, p30, p31, p32, p38, p40, p41, p42, p44, p45, p48, p52, p54, p55, p57, p58, p59, ⟨p0, p1, ⟨p2, p3, trivial⟩, ⟨p4, p5, p6, trivial⟩, ⟨p8, p9, p10, trivial⟩, ⟨p11, p12, p13, trivial⟩, ⟨⟨p17, p18, p20, trivial⟩, ⟨p21, trivial⟩, ⟨p24, p25, p27, p28, trivial⟩, trivial⟩, ⟨⟨p33, p36, trivial⟩, ⟨p37, ⟨p43, trivial⟩, p46, p47, trivial⟩, ⟨p49, p50, p51, trivial⟩, p53, p56, trivial⟩, p60, trivial⟩⟩⟩⟩
  intro j y hy
  match j, hy with
  | 0, hy => cases hy; exact g0
  | 1, hy => cases hy; exact g1
  | 2, hy => cases hy; exact g2
  | 3, hy => cases hy; exact g3
  | 4, hy => cases hy; exact g4
  | 5, hy => cases hy; exact g5
  | 6, hy => cases hy; exact g6
  | 7, hy => cases hy; exact g7
  | 8, hy => cases hy; exact g8
  | 9, hy => cases hy; exact g9
  | 10, hy => cases hy; exact g10
  | 11, hy => cases hy; exact g11
  | 12, hy => cases hy; exact g12
  | 13, hy => cases hy; exact g13
  | 14, hy => cases hy; exact g14
  | 15, hy => cases hy; exact g15
  | 16, hy => cases hy; exact g16
  | 17, hy => cases hy; exact g17
  | 18, hy => cases hy; exact g18
  | 19, hy => cases hy; exact g19
  | 20, hy => cases hy; exact g20
  | 21, hy => cases hy; exact g21
  | 22, hy => cases hy; exact g22
  | 23, hy => cases hy; exact g23
  | 24, hy => cases hy; exact g24
  | 25, hy => cases hy; exact g25
  | 26, hy => cases hy; exact g26
  | 27, hy => cases hy; exact g27
  | 28, hy => cases hy; exact g28
  | 29, hy => cases hy; exact g29
  | 30, hy => cases hy; exact g30
  | 31, hy => cases hy; exact g31
  | 32, hy => cases hy; exact g32
  | 33, hy => cases hy; exact g33
  | 34, hy => cases hy; exact g34
  | 35, hy => cases hy; exact g35
  | 36, hy => cases hy; exact g36
  | 37, hy => cases hy; exact g37
  | 38, hy => cases hy; exact g38
  | 39, hy => cases hy; exact g39
  | 40, hy => cases hy; exact g40
  | 41, hy => cases hy; exact g41
  | 42, hy => cases hy; exact g42
  | 43, hy => cases hy; exact g43
  | 44, hy => cases hy; exact g44
  | 45, hy => cases hy; exact g45
  | 46, hy => cases hy; exact g46
  | 47, hy => cases hy; exact g47
  | 48, hy => cases hy; exact g48
  | 49, hy => cases hy; exact g49
  | 50, hy => cases hy; exact g50
  | 51, hy => cases hy; exact g51
  | 52, hy => cases hy; exact g52
  | 53, hy => cases hy; exact g53
  | 54, hy => cases hy; exact g54
  | 55, hy => cases hy; exact g55
  | 56, hy => cases hy; exact g56
  | 57, hy => cases hy; exact g57
  | 58, hy => cases hy; exact g58
  | 59, hy => cases hy; exact g59
  | 60, hy => cases hy; exact g60
end Go.Proofs.YtbaffippdifbpaaGreat
namespace Go.Proofs.YtbaffippdifbpaaGreat
set_option linter.unusedVariables false
open Go.ChangeShapes Go.WideShapes Go.ChangeAt Go.RowKit
theorem d_lszIntS {B : Nat} {a : Option Addr} {c : Nat} {l : List Int} {left : Int} {w : World} (hs : RdS B w a c l) (hl : 0 ≤ left) (hl2 : left ≤ 1048576) :
    Calls Tryz.prog 276 #[.slice a l.length c, .int .i64 left] w (Gives w (.int .i64 (szD left (totL l)))) := by
  have hmx := hs.max
  have hln := totL_len l
  obtain ⟨n, hn⟩ : ∃ n, l.length = n := ⟨_, rfl⟩
  rw [hn] at hln hmx
  rw [hn]
  have HN := Lib.hid hn; clear hn
  have htl : totL l = n := by rw [← HN.out]; clear hs HN hmx hln; induction l with | nil => rfl | cons x r ih => simp only [totL, List.length_cons, ih]; show 1 + 0 + _ = _; omega
  rw [htl]; clear htl hln hs
  by_cases h : left - n < 0
  · rw [szD_neg h]
    go_enter Tryz.func276, Tryz.ntmps276
    go_wp2_with fail
    go_ret
    exact Gives.mk rfl
  · rw [szD_pos h]
    go_enter Tryz.func276, Tryz.ntmps276
    go_wp2_with fail
    go_ret
    exact Gives.mk rfl
theorem d_leqIntS {B B2 : Nat} {a a2 : Option Addr} {c c2 : Nat} {l : List Int} {w : World} (hs : RdS B w a c l) (hs2 : RdS B2 w a2 c2 l) :
    Calls Tryz.prog 257 #[.slice a l.length c, .slice a2 l.length c2] w (Gives w (.bool true)) := by
  have hmx := hs.max
  obtain ⟨n, hn⟩ : ∃ n, l.length = n := ⟨_, rfl⟩
  rw [hn] at hmx
  rw [hn]
  have HN := Lib.hid hn; clear hn
  have kn : ((n : Int) != (n : Int)) = false := by simp
  go_enter Tryz.func257, Tryz.ntmps257
  go_wp2_with (first | ((with_reducible refine wp_region_later (by kernel_rfl) (by kernel_rfl) ?_); (repeat (first | go_big_quiet_step (first | fail) | simp only [kn])); refine wpQuiet_nil ?_; rintro _ ⟨x, rfl⟩))
  go_loopw [5] (fun v wr => ∃ k : Nat, v = .int .i64 k ∧ k ≤ n ∧ ∃ x : Later w, wr = x.w) (fun v _ => (n - intOf v).toNat)
  case atStart => exact ⟨0, rfl, by omega, Later.of⟩
  case round =>
    obtain ⟨k, rfl, hk, x, rfl⟩ := hrel
    by_cases h : k < n
    · have hlk : k < l.length := by have := HN.out; omega
      obtain ⟨eb, eoff, ex, rfl, ehb, ehd, eok, eh0⟩ := hs.atInt (show k < l.length by omega)
      obtain ⟨fb, foff, fx, rfl, fhb, fhd, fok, fh0⟩ := hs2.atInt (show k < l.length by omega)
      obtain rfl : ex = fx := by have := ehd.out.symm.trans fhd.out; simpa using this
      clear ehd fhd hlk hs hs2
      have k2 : (ex != ex) = false := by simp
      go_wp2_with (first | ((with_reducible refine wp_region_later (by kernel_rfl) (by kernel_rfl) ?_); (repeat (first | go_big_quiet_step (first | fail) | simp only [k2])); refine wpQuiet_nil ?_; rintro _ ⟨x, rfl⟩))
      go_roundw
      case rel => exact ⟨k + 1, by go_num, by omega, Later.of⟩
      case measure => simp [intOf]; omega
    · go_wp2_with fail
      go_ret
      exact Gives.mk rfl
theorem d_lszBoolS {B : Nat} {a : Option Addr} {c : Nat} {l : List Bool} {left : Int} {w : World} (hs : RdS B w a c l) (hl : 0 ≤ left) (hl2 : left ≤ 1048576) :
    Calls Tryz.prog 193 #[.slice a l.length c, .int .i64 left] w (Gives w (.int .i64 (szD left (totL l)))) := by
  have hmx := hs.max
  have hln := totL_len l
  obtain ⟨n, hn⟩ : ∃ n, l.length = n := ⟨_, rfl⟩
  rw [hn] at hln hmx
  rw [hn]
  have HN := Lib.hid hn; clear hn
  have htl : totL l = n := by rw [← HN.out]; clear hs HN hmx hln; induction l with | nil => rfl | cons x r ih => simp only [totL, List.length_cons, ih]; show 1 + 0 + _ = _; omega
  rw [htl]; clear htl hln hs
  by_cases h : left - n < 0
  · rw [szD_neg h]
    go_enter Tryz.func193, Tryz.ntmps193
    go_wp2_with fail
    go_ret
    exact Gives.mk rfl
  · rw [szD_pos h]
    go_enter Tryz.func193, Tryz.ntmps193
    go_wp2_with fail
    go_ret
    exact Gives.mk rfl
theorem d_leqBoolS {B B2 : Nat} {a a2 : Option Addr} {c c2 : Nat} {l : List Bool} {w : World} (hs : RdS B w a c l) (hs2 : RdS B2 w a2 c2 l) :
    Calls Tryz.prog 166 #[.slice a l.length c, .slice a2 l.length c2] w (Gives w (.bool true)) := by
  have hmx := hs.max
  obtain ⟨n, hn⟩ : ∃ n, l.length = n := ⟨_, rfl⟩
  rw [hn] at hmx
  rw [hn]
  have HN := Lib.hid hn; clear hn
  have kn : ((n : Int) != (n : Int)) = false := by simp
  go_enter Tryz.func166, Tryz.ntmps166
  go_wp2_with (first | ((with_reducible refine wp_region_later (by kernel_rfl) (by kernel_rfl) ?_); (repeat (first | go_big_quiet_step (first | fail) | simp only [kn])); refine wpQuiet_nil ?_; rintro _ ⟨x, rfl⟩))
  go_loopw [5] (fun v wr => ∃ k : Nat, v = .int .i64 k ∧ k ≤ n ∧ ∃ x : Later w, wr = x.w) (fun v _ => (n - intOf v).toNat)
  case atStart => exact ⟨0, rfl, by omega, Later.of⟩
  case round =>
    obtain ⟨k, rfl, hk, x, rfl⟩ := hrel
    by_cases h : k < n
    · have hlk : k < l.length := by have := HN.out; omega
      obtain ⟨eb, eoff, ex, rfl, ehb, ehd, eh0⟩ := hs.atBool (show k < l.length by omega)
      obtain ⟨fb, foff, fx, rfl, fhb, fhd, fh0⟩ := hs2.atBool (show k < l.length by omega)
      obtain rfl : ex = fx := by have := ehd.out.symm.trans fhd.out; simpa using this
      clear ehd fhd hlk hs hs2
      have k2 : (ex != ex) = false := by simp
      go_wp2_with (first | ((with_reducible refine wp_region_later (by kernel_rfl) (by kernel_rfl) ?_); (repeat (first | go_big_quiet_step (first | fail) | simp only [k2])); refine wpQuiet_nil ?_; rintro _ ⟨x, rfl⟩))
      go_roundw
      case rel => exact ⟨k + 1, by go_num, by omega, Later.of⟩
      case measure => simp [intOf]; omega
    · go_wp2_with fail
      go_ret
      exact Gives.mk rfl
theorem d_lszStringS {B : Nat} {a : Option Addr} {c : Nat} {l : List ByteArray} {left : Int} {w : World} (hs : RdS B w a c l) (hl : 0 ≤ left) (hl2 : left ≤ 1048576) :
    Calls Tryz.prog 16 #[.slice a l.length c, .int .i64 left] w (Gives w (.int .i64 (szD left (totL l)))) := by
  have hmx := hs.max
  have hln := totL_len l
  obtain ⟨n, hn⟩ : ∃ n, l.length = n := ⟨_, rfl⟩
  rw [hn] at hln hmx
  rw [hn]
  have HN := Lib.hid hn; clear hn
  by_cases h : left - n < 0
  · have HV := Lib.hid (show szD left (totL l) = -1 from szD_neg (by omega))
    go_enter Tryz.func16, Tryz.ntmps16
    go_wp2_with fail
    go_ret
    exact Gives.mk (by rw [HV.out]; rfl)
  · go_enter Tryz.func16, Tryz.ntmps16
    go_wp2_with fail
    go_loopw [1, 5] (fun u v wr => ∃ (k : Nat) (r : Int), v = .int .i64 k ∧ u = .int .i64 r ∧ k ≤ n ∧ 0 ≤ r ∧ r ≤ 1048576 ∧ Hid (r - totL (l.drop k) + (n - k) = left - totL l) ∧ ∃ x : Later w, wr = x.w) (fun _ v _ => (n - intOf v).toNat)
    case atStart => exact ⟨0, left - n, rfl, by go_num, by omega, by omega, by omega, by unfold Hid; rw [List.drop_zero]; omega, Later.of⟩
    case round =>
      obtain ⟨k, r, rfl, rfl, hk, hr, hr2, hf, x, rfl⟩ := hrel
      by_cases h2 : k < n
      · have hlk : k < l.length := by have := HN.out; omega
        obtain ⟨eb, eoff, ex, rfl, ehb, ehd, eok, eh0⟩ := hs.atStr (show k < l.length by omega)
        have hd2 := totL_len (l.drop (k + 1))
        have HD2 := Lib.hid (show ((n : Int) - k - 1 ≤ totL (l.drop (k + 1))) by rw [List.length_drop, HN.out] at hd2; omega); clear hd2 hlk
        have ht0 := Enc.tot_nonneg ex
        obtain ⟨t, htt⟩ : ∃ t, Enc.tot ex = t := ⟨_, rfl⟩
        have hf2 : Hid (r - (1 + t + totL (l.drop (k + 1))) + (n - k) = left - totL l) := by
          have := hf.out; rw [ehd.out] at this; rw [← htt]; exact this
        rw [htt] at ht0
        have HTT := Lib.hid htt; clear htt hf
        have hts : (ex.size : Int) = t := HTT.out
        have HTS := Lib.hid hts; clear hts
        by_cases h3 : r - ex.size < 0
        · have HV := Lib.hid (show szD left (totL l) = -1 from szD_neg (by have h7 := hf2.out; have h8 := HD2.out; have h9 := HTS.out; omega))
          go_wp2_with fail
          go_ret
          exact Gives.mk (by rw [HV.out]; rfl)
        · go_wp2_with fail
          go_roundw
          case rel => exact ⟨k + 1, r - ex.size, by go_num, by go_num, by omega, by omega, by omega, by have h7 := hf2.out; have h9 := HTS.out; unfold Hid; omega, Later.of⟩
          case measure => simp [intOf]; omega
      · have HV := Lib.hid (show szD left (totL l) = r by
          have h7 := hf.out
          rw [List.drop_of_length_le (by have := HN.out; omega)] at h7
          simp only [totL] at h7
          rw [szD_pos (by omega)]; omega)
        go_wp2_with fail
        go_ret
        exact Gives.mk (by rw [HV.out]; rfl)
theorem d_leqStringS {B B2 : Nat} {a a2 : Option Addr} {c c2 : Nat} {l : List ByteArray} {w : World} (hs : RdS B w a c l) (hs2 : RdS B2 w a2 c2 l) :
    Calls Tryz.prog 27 #[.slice a l.length c, .slice a2 l.length c2] w (Gives w (.bool true)) := by
  have hmx := hs.max
  obtain ⟨n, hn⟩ : ∃ n, l.length = n := ⟨_, rfl⟩
  rw [hn] at hmx
  rw [hn]
  have HN := Lib.hid hn; clear hn
  have kn : ((n : Int) != (n : Int)) = false := by simp
  go_enter Tryz.func27, Tryz.ntmps27
  go_wp2_with (first | ((with_reducible refine wp_region_later (by kernel_rfl) (by kernel_rfl) ?_); (repeat (first | go_big_quiet_step (first | fail) | simp only [kn])); refine wpQuiet_nil ?_; rintro _ ⟨x, rfl⟩))
  go_loopw [5] (fun v wr => ∃ k : Nat, v = .int .i64 k ∧ k ≤ n ∧ ∃ x : Later w, wr = x.w) (fun v _ => (n - intOf v).toNat)
  case atStart => exact ⟨0, rfl, by omega, Later.of⟩
  case round =>
    obtain ⟨k, rfl, hk, x, rfl⟩ := hrel
    by_cases h : k < n
    · have hlk : k < l.length := by have := HN.out; omega
      obtain ⟨eb, eoff, ex, rfl, ehb, ehd, eok, eh0⟩ := hs.atStr (show k < l.length by omega)
      obtain ⟨fb, foff, fx, rfl, fhb, fhd, fok, fh0⟩ := hs2.atStr (show k < l.length by omega)
      obtain rfl : ex = fx := by have := ehd.out.symm.trans fhd.out; simpa using this
      clear ehd fhd hlk hs hs2
      have k2 : (ex.toList != ex.toList) = false := by simp
      go_wp2_with (first | ((with_reducible refine wp_region_later (by kernel_rfl) (by kernel_rfl) ?_); (repeat (first | go_big_quiet_step (first | fail) | simp only [k2])); refine wpQuiet_nil ?_; rintro _ ⟨x, rfl⟩))
      go_roundw
      case rel => exact ⟨k + 1, by go_num, by omega, Later.of⟩
      case measure => simp [intOf]; omega
    · go_wp2_with fail
      go_ret
      exact Gives.mk rfl
end Go.Proofs.YtbaffippdifbpaaGreat
namespace Go.Proofs.YtbaffippdifbpaaGreat
set_option linter.unusedVariables false
open Go.ChangeShapes Go.WideShapes Go.ChangeAt Go.RowKit
theorem But.grown1 {b : Nat} {w0 w : World} {z : Later w0} (h : But b w z.w) (g : Grows w0 w) : w.grownBy z.w (some b) :=
  ⟨z.h.os.trans g.out.os.symm, z.h.tape.trans g.out.tape.symm, z.h.output.trans g.out.output.symm, h.size, fun k hk hr => h.block k (fun e => hr (by rw [e])) hk⟩
theorem Held.at {w w' : World} {b b2 : Nat} {cs : List Value} {T : TypeId} (h : Held w b cs T) (hg : w.grownBy w' (some b2)) (hne : b ≠ b2) : Held w' b cs T := blk_grown hg h (by simpa using hne)
section
variable {P : Program} {ops : Array Oper} {op : Oper} {a : Act} {w : World} {Q : Exit → Act → World → Prop} {K : Act → World → Prop} {E : Prop}
theorem st_loadH (hw : Region.wanted op (yielded ops a.tmps) = true) (ty : TypeId) (x : Operand) (ho : op.op = .load ty x) (b o : Nat) (hx : a.eval x = .pointer (some ⟨b, o, none⟩)) {cs row : List Value} {T : TypeId} (H : Held w b cs T)
    (d : TypeDesc) (hu : P.underlying ty = some d) (hd : d.isRow = true) (hi : (P.info? ty).map (·.size) = some row.length) (hr : (cs.drop o).take row.length = row)
    (h : K (a.put op.dst (.agg row.toArray)) w) : if Region.wanted op (yielded ops a.tmps) = true then Oper.wp P op a w K Q else E := by
  rw [if_pos hw]
  exact wp_load_mid ty x ho b o hx row d (H.range hr) hu hd hi h
theorem st_load1 (hw : Region.wanted op (yielded ops a.tmps) = true) (ty : TypeId) (x : Operand) (ho : op.op = .load ty x) (b o : Nat) (hx : a.eval x = .pointer (some ⟨b, o, none⟩)) {cs : List Value} {T : TypeId} (H : Held w b cs T) (v : Value) (hv : cs[o]? = some v)
    (d : TypeDesc) (hu : P.underlying ty = some d) (hd : d.isRow = false)
    (h : K (a.put op.dst v) w) : if Region.wanted op (yielded ops a.tmps) = true then Oper.wp P op a w K Q else E := by
  rw [if_pos hw]
  have hagg : (isAgg ty).run P w = .ok false w := by
    unfold isAgg
    rw [Sem.run_bind, run_underlying hu w]
    cases d <;> simp_all [TypeDesc.isRow]
  have hl : (loadVar ty ⟨b, o, none⟩).run P w = .ok v w := by
    have hc := H.cell o
    rw [hv] at hc
    simp [loadVar, Sem.run_bind, hagg, go_sem, hc]
  unfold Oper.wp execOp
  simp only [ho, hx, Instr.loadAt, Instr.sureAddr, Sem.run_bind, Sem.run_pure, Result.andThen_ok, hl]
  exact h
theorem st_storeH (hw : Region.wanted op (yielded ops a.tmps) = true) (ty : TypeId) (x y : Operand) (ho : op.op = .store ty x y) (b o : Nat) (hx : a.eval x = .pointer (some ⟨b, o, none⟩)) {cs us cs2 : List Value} {T : TypeId} (H : Held w b cs T)
    (hv : (a.eval y).cells.toList = us) (hi : (P.info? ty).map (·.size) = some us.length) (h1 : us.all (·.oneCell') = true) (hl : o + us.length ≤ cs.length) (hcs : splice cs o us = cs2) {w0 : World} (g : Grows w0 w) (hb : w0.heap.size ≤ b)
    (h : ∀ z : Later w0, Held z.w b cs2 T → w.grownBy z.w (some b) → K (a.put op.dst undef) z.w) : if Region.wanted op (yielded ops a.tmps) = true then Oper.wp P op a w K Q else E := by
  subst hcs
  rw [if_pos hw]
  unfold Oper.wp execOp
  simp only [ho, hx, Instr.storeAt, Instr.sureAddr, Sem.run_bind, Sem.run_pure, Result.andThen_ok, run_storeVar_held hv (H.there hl) hi (fun u hu => List.all_eq_true.1 h1 u hu)]
  have bt : But b w (w.setCells b o us) := But.setCells us o ⟨Nat.le_refl _, fun _ _ _ => rfl⟩
  exact h ⟨_, below_setCells hb us o g.out⟩ (H.setCells us o) (But.grown1 (z := ⟨_, below_setCells hb us o g.out⟩) bt g)
end
theorem heldCast {w : World} {b : Nat} {cs cs' : List Value} {T : TypeId} (h : Held w b cs' T) (e : cs' = cs) : Held w b cs T := e ▸ h
end Go.Proofs.YtbaffippdifbpaaGreat
