/- Marks: what the laws write into slices, and find again. No condition but on lengths. · Blocks known whole, and what is kept while they are written. No condition. · A store into one block and the cells of another, by instances. No condition. · The contracts on slices of strings: their mirrors, their size, their equality, their marks. No condition but on lengths. · The contracts of PutWord and CheckOf. No condition but on numbers. · The contracts of CheckOf. No condition but on numbers. · Data with depth: what a value's cells read as, through slices, in blocks from a bound on. No condition. · The contracts on marks that are texts. No condition but on numbers. · Boxes known whole: loads and stores of many cells, by one step each. No condition. · The structs of the mission: what their cells read as. No condition but on sizes. · Boxes known whole: a store, and all other blocks as they were. No condition. · What came in, read. No condition but on sizes. · The contracts of the mirrors, sizes and equalities of slices of plain values. No condition but on sizes. -/
import Derived.Test.YtdankjbkioepgaaGreatVM0
import Derived.Test.YtdankjbkioepgaaGreatVSlots
import Derived.Deep.RegionHeld3
import Derived.Laws.BytesArg
import Derived.Deep.MidRow
namespace Go.Proofs.YtdankjbkioepgaaGreat
set_option linter.unusedVariables false
open Go.ChangeShapes Go.WideShapes Go.ChangeAt Go.RowKit

theorem Own.open {α : Type} {enc : α → List Value} {T size B n : Nat} {w : World} {a : Option Addr} {c : Nat} {l : List α} (h : Own enc T size B w a c l) (hn : 0 < l.length) :
    ∃ g, a = some ⟨g, 0, none⟩ ∧ B ≤ g ∧ g < w.heap.size := by
  obtain ⟨hsz, hlen, h1 | ⟨g, cap, cur, hv, hg, hh, -⟩⟩ := h
  · omega
  · simp only [Value.slice.injEq] at hv
    exact ⟨g, hv.1, hg, (Array.getElem?_eq_some_iff.1 hh).1⟩
theorem Own.cells {α : Type} {enc : α → List Value} {T size B g : Nat} {w : World} {c : Nat} {l : List α} (h : Own enc T size B w (some ⟨g, 0, none⟩) c l) {j : Nat} (hj : j < l.length * size) : ∃ v, w.cell? ⟨g, j, none⟩ = some v := by
  have h1 := h.2.cellAt (n := l.length) j hj
  exact ⟨_, h1.trans (List.getElem?_eq_getElem (by rw [flatMap_length h.1]; exact hj))⟩
theorem Own.free {α : Type} {enc : α → List Value} {T size B g : Nat} {w : World} {c : Nat} {l : List α} (h : Own enc T size B w (some ⟨g, 0, none⟩) c l) (j : Nat) : w.frozen? ⟨g, j, none⟩ = false := h.2.frozenAt j

/-- Which blocks a slice's own one lies among. -/
def Among (a : Option Addr) (B U : Nat) : Prop := ∀ k, Value.ownBlock (.slice a 0 0) = some k → B ≤ k ∧ k < U
theorem Own.among {α : Type} {enc : α → List Value} {T size B : Nat} {w : World} {a : Option Addr} {c : Nat} {l : List α} (h : Own enc T size B w a c l) : Among a B w.heap.size := fun k hk =>
  h.2.lt k (by cases a with
    | none => simp [Value.ownBlock] at hk
    | some a => simpa [Value.ownBlock] using hk)

/-- Kept while another slice, that lies among other blocks, is written. -/
theorem Own.keep {α : Type} {enc : α → List Value} {T size B B1 U1 B2 U2 n2 c2 : Nat} {V w1 : World} {a a2 : Option Addr} {c : Nat} {l : List α} (h : Own enc T size B V a c l) (hg : V.grownBy w1 (Value.ownBlock (.slice a2 n2 c2)))
    (i1 : Among a B1 U1) (i2 : Among a2 B2 U2) (hd : LeN U1 B2 ∨ LeN U2 B1) : Own enc T size B w1 a c l := by
  refine ⟨h.1, h.2.kept hg ?_⟩
  cases a with
  | none => exact .inl rfl
  | some a =>
    right
    cases a2 with
    | none => simp [Value.ownBlock]
    | some b =>
      have h1 := i1 _ rfl
      have h2 := i2 _ rfl
      intro he
      simp only [Value.ownBlock, Option.some.injEq] at he
      rcases hd with hd | hd
      · have := hd.out; omega
      · have := hd.out; omega
theorem Later.marked {w V w1 : World} {B U n c : Nat} {a : Option Addr} (hg : V.grownBy w1 (Value.ownBlock (.slice a n c))) (i : Among a B U) (g : Grows w V) (hB : LeN w.heap.size B) : ∃ z : Later w, w1 = z.w :=
  ⟨⟨w1, g.out.grown hg g.out.size (fun k hk => by
    have := i k (by cases a with
      | none => simp [Value.ownBlock] at hk
      | some a => simpa [Value.ownBlock] using hk)
    have := hB.out; omega)⟩, rfl⟩

def mkInt (k0 : Int) (i : Nat) : Int := (k0 + i)
end Go.Proofs.YtdankjbkioepgaaGreat

namespace Go.Proofs.YtdankjbkioepgaaGreat
set_option linter.unusedVariables false
open Go.ChangeShapes Go.WideShapes Go.ChangeAt Go.RowKit

/-- A block known whole. -/
def Held (w : World) (b : Nat) (cs : List Value) (T : TypeId) : Prop := w.heap[b]? = some (.cells cs.toArray T (0, 0))
theorem Held.new (W : World) (cs : List Value) (T g : Nat) (hg : W.heap.size = g) : Held (W.alloc (.cells cs.toArray T)) g cs T := blk_alloc W _ g hg
theorem Held.to {w W : World} {b : Nat} {cs : List Value} {T : TypeId} (h : Held w b cs T) (g : Grows w W) : Held W b cs T := blk_grows (gr := g) h
theorem Held.lt {w : World} {b : Nat} {cs : List Value} {T : TypeId} (h : Held w b cs T) : b < w.heap.size := (Array.getElem?_eq_some_iff.1 h).1
theorem Held.ltN {w : World} {b : Nat} {cs : List Value} {T : TypeId} (h : Held w b cs T) : LtN b w.heap.size := ⟨h.lt⟩
theorem Held.cell {w : World} {b : Nat} {cs : List Value} {T : TypeId} (h : Held w b cs T) (i : Nat) : w.cell? ⟨b, i, none⟩ = cs[i]? := by simp [World.cell?, show w.heap[b]? = _ from h]
theorem Held.free {w : World} {b : Nat} {cs : List Value} {T : TypeId} (h : Held w b cs T) (i : Nat) : w.frozen? ⟨b, i, none⟩ = false := by simp [World.frozen?, show w.heap[b]? = _ from h]
theorem Held.set {w : World} {b : Nat} {cs : List Value} {T : TypeId} (h : Held w b cs T) (i : Nat) (v : Value) : Held (w.setCell ⟨b, i, none⟩ v) b (cs.set i v) T := by
  have h' : w.heap[b]? = some (.cells cs.toArray T (0, 0)) := h
  unfold Held World.setCell
  simp [Array.getElem?_modify, h']
theorem Held.far {w : World} {b b' : Nat} {cs : List Value} {T : TypeId} (h : Held w b cs T) (hne : b' ≠ b) (i : Nat) (v : Value) : Held (w.setCell ⟨b', i, none⟩ v) b cs T := by
  unfold Held
  rw [Below.heap_setCell _ _ _ _ (fun e => hne (by simpa using e.symm))]
  exact h
/-- A slice of the call's own is not a block of another type. -/
theorem Own.notHeld {α : Type} {enc : α → List Value} {T T' size B n : Nat} {w : World} {a : Option Addr} {c b : Nat} {l : List α} {cs : List Value} (h : Own enc T size B w a c l) (hb : Held w b cs T') (hT : T ≠ T') : some b ≠ Value.ownBlock (.slice a n c) := by
  obtain ⟨-, -, ⟨h1, -⟩ | ⟨g, cap, cur, hv, -, hh, -⟩⟩ := h
  · simp only [Value.slice.injEq] at h1; obtain ⟨rfl, -⟩ := h1; simp [Value.ownBlock]
  · simp only [Value.slice.injEq] at hv; obtain ⟨rfl, -⟩ := hv
    simp only [Value.ownBlock, ne_eq, Option.some.injEq]
    rintro rfl
    have hb' : w.heap[b]? = some (.cells cs.toArray T' (0, 0)) := hb
    rw [hb'] at hh
    simp only [Option.some.injEq, Obj.cells.injEq] at hh
    exact hT hh.2.1.symm
/-- A block known whole, while a slice of another type is written. -/
theorem Held.kept {α : Type} {enc : α → List Value} {T T' size B n : Nat} {w w' : World} {a : Option Addr} {c b : Nat} {l : List α} {cs : List Value} (hb : Held w b cs T') (h : Own enc T size B w a c l) (hT : T ≠ T') (hg : w.grownBy w' (Value.ownBlock (.slice a n c))) : Held w' b cs T' :=
  blk_grown hg hb (h.notHeld hb hT)
/-- A slice of the call's own, while a block of another type is written. -/
theorem Own.set {α : Type} {enc : α → List Value} {T T' size B : Nat} {w : World} {a : Option Addr} {c b : Nat} {l : List α} {cs : List Value} (h : Own enc T size B w a c l) (hb : Held w b cs T') (hT : T ≠ T') (i : Nat) (v : Value) : Own enc T size B (w.setCell ⟨b, i, none⟩ v) a c l := by
  refine ⟨h.1, h.2.kept (row := some b) ⟨rfl, rfl, rfl, by simp, fun k hk hr => ?_⟩ (.inr (fun e => h.notHeld (n := l.length) hb hT e.symm))⟩
  rw [Below.heap_setCell _ _ _ _ (fun e => hr (by simp only at e; rw [e]))]
/-- A slice of the call's own, while a block below is written. -/
theorem Own.low {α : Type} {enc : α → List Value} {T size B : Nat} {w : World} {a : Option Addr} {c b : Nat} {l : List α} (h : Own enc T size B w a c l) (hb : b < B) (i : Nat) (v : Value) : Own enc T size B (w.setCell ⟨b, i, none⟩ v) a c l := by
  refine ⟨h.1, h.2.kept (row := some b) ⟨rfl, rfl, rfl, by simp, fun k hk hr => ?_⟩ ?_⟩
  · rw [Below.heap_setCell _ _ _ _ (fun e => hr (by simp only at e; rw [e]))]
  · cases ha : Value.ownBlock (.slice a l.length c) with
    | none => exact .inl rfl
    | some k =>
      right
      have := h.2.lt k ha
      intro e
      simp only [Option.some.injEq] at e
      omega

theorem Own.lowS {α : Type} {enc : α → List Value} {T size B : Nat} {w : World} {x : Later w} {a : Option Addr} {c b : Nat} {l : List α} (h : Own enc T size B x.w a c l) (hb : b < B) (i : Nat) (v : Value) : Own enc T size B (x.set ⟨b, i, none⟩ v).w a c l := h.low hb i v
theorem grownBy_news {w : World} {row : Option Nat} (o : Obj) {W : World} (h : (w.alloc o).grownBy W row) : w.grownBy W row :=
  ⟨h.os, h.tape, h.output, by have := h.size; simp at this; omega, fun k hk hr => by rw [h.block k (by simp; omega) hr, Below.heap_alloc _ _ _ hk]⟩
/-- The cells of a block known whole, in every world that has grown. -/
theorem Held.cellG {w : World} {b : Nat} {cs : List Value} {T : TypeId} (h : Held w b cs T) (i : Nat) (v : Value) (hv : cs[i]? = some v) : ∀ (W : World) [Grows w W], W.cell? ⟨b, i, none⟩ = some v := fun W g => by rw [(h.to g).cell i]; exact hv
theorem Held.freeG {w : World} {b : Nat} {cs : List Value} {T : TypeId} (h : Held w b cs T) (i : Nat) : ∀ (W : World) [Grows w W], W.frozen? ⟨b, i, none⟩ = false := fun W g => (h.to g).free i
theorem Held.four {w : World} {b : Nat} {v0 v1 v2 v3 : Value} {T : TypeId} (h : Held w b [v0, v1, v2, v3] T) :
    (∀ (W : World) [Grows w W], W.cell? ⟨b, 0, none⟩ = some v0) ∧ (∀ (W : World) [Grows w W], W.cell? ⟨b, 1, none⟩ = some v1) ∧ (∀ (W : World) [Grows w W], W.cell? ⟨b, 2, none⟩ = some v2) ∧ (∀ (W : World) [Grows w W], W.cell? ⟨b, 3, none⟩ = some v3) ∧
    (∀ (W : World) [Grows w W], W.frozen? ⟨b, 0, none⟩ = false) ∧ (∀ (W : World) [Grows w W], W.frozen? ⟨b, 1, none⟩ = false) ∧ (∀ (W : World) [Grows w W], W.frozen? ⟨b, 2, none⟩ = false) ∧ (∀ (W : World) [Grows w W], W.frozen? ⟨b, 3, none⟩ = false) :=
  ⟨h.cellG 0 _ rfl, h.cellG 1 _ rfl, h.cellG 2 _ rfl, h.cellG 3 _ rfl, h.freeG 0, h.freeG 1, h.freeG 2, h.freeG 3⟩

theorem Own.nilcap {α : Type} {enc : α → List Value} {T size B : Nat} {w : World} {a : Option Addr} {c : Nat} {l : List α} (h : Own enc T size B w a c l) : a = none → c = 0 := by
  obtain ⟨-, -, ⟨h1, -⟩ | ⟨g, cap, cur, hv, -⟩⟩ := h
  · simp only [Value.slice.injEq] at h1; exact fun _ => h1.2.2
  · simp only [Value.slice.injEq] at hv; intro h; rw [hv.1] at h; cases h

theorem flatInt {w : World} {cs : List Value} (hl : cs.length = 1) (h : RdL w [.int] cs) : ∃ s : Int, encInt s = cs ∧ i64 s := by
  obtain ⟨u0, g0, r0⟩ := h.at (j := 0) rfl
  obtain ⟨x0, rfl, p0⟩ := r0.int_inv
  refine ⟨x0, (list_all hl ?_).symm, p0⟩
  intro j y hy
  match j, hy with
  | 0, hy => cases hy; exact g0
theorem okWide_struct {P : Program} {w : World} {r : Reach} {base : Nat} {t : TypeId} {v : Value} {fs : Array Field} (ht : P.underlying t = some (.struct fs)) (h : Value.okWide P w r base t v) : ∃ cs, v = .agg cs ∧ cs.size = P.cellsOf t := by
  simp only [Value.okWide, ht] at h
  obtain ⟨cs, h1, h2, -⟩ := h
  exact ⟨cs, h1, h2⟩

/-! ### Slices of numbers -/
theorem c_cloneInt {a : Option Addr} {n c : Nat} {l : List Int} {w : World} (hs : Sl encInt w a l) (hn : l.length = n) (hm : n ≤ 100000000) :
    Calls Tryz.prog 52 #[.slice a n c] w (GivesSl encInt 3 1 w l) := by
  cases a with
  | none =>
    have hl : l = [] := by
      cases l with
      | nil => rfl
      | cons y r => obtain ⟨b, off, h0, -⟩ := hs 0 y rfl; cases h0
    have hq := fun (w : World) => run_eql_slice_nil (P := Tryz.prog) w 46 3 none n c Tryz.underlying46
    simp only [Option.isNone] at hq
    have HL := Lib.hid hl; clear hl
    go_enter Tryz.func52, Tryz.ntmps52
    go_wp2_with (first | ((with_reducible refine wp_region_later (by kernel_rfl) (by kernel_rfl) ?_); (repeat (first | go_big_quiet_step (first | fail))); refine wpQuiet_nil ?_; rintro _ ⟨x, rfl⟩))
    go_ret
    exact GivesSl.nilOf encInt_len HL.out
  | some ad =>
    have hq := fun (w : World) => run_eql_slice_nil (P := Tryz.prog) w 46 3 (some ad) n c Tryz.underlying46
    simp only [Option.isNone] at hq
    go_enter Tryz.func52, Tryz.ntmps52
    go_wp2_with (first | ((with_reducible refine wp_region_later (by kernel_rfl) (by kernel_rfl) ?_); (repeat (first | go_big_quiet_step (first | fail))); refine wpQuiet_nil ?_; rintro _ ⟨x, rfl⟩) | (at_builtin; refine wpList_appS (enc := encInt) (w0 := w) (z := .int .i64 0) (size := 1) (bytes := 8) (n := 0) (l := []) rfl (.tmp 5) (.tmp 6) rfl Tryz.underlying46 (by kernel_rfl) rfl (by decide) (by decide) rfl rfl (fun h => by cases h) rfl hn (Own.emptyAt encInt_len (Nat.le_refl _) rfl) (hs.to inferInstance) encInt_one (by omega) ?_; intro sa1 sc1 x1 hown1 hgr1))
    go_ret
    rw [List.nil_append] at hown1
    exact ⟨sa1, sc1, by rw [hn]; first | rfl | simp, hown1, Later.of⟩

set_option maxRecDepth 100000 in
set_option maxHeartbeats 2000000 in
theorem c_ltoIntS {a : Option Addr} {n c : Nat} {l : List Int} {w : World} (hs : Sl encInt w a l) (hn : l.length = n) (hm : n ≤ 1048576) :
    Calls Tryz.prog 151 #[.slice a n c] w (GivesSl encInt 3 1 w l) := by
  obtain ⟨C, hC, hmk⟩ := run_mk (P := Tryz.prog) Tryz.underlying46 (e := 3) (z := .int .i64 0) (size := 1) (bytes := 8) (by kernel_rfl) n (by omega) (by omega)
  have hCz : C.size = n := by rw [hC, size_madeCells, Nat.mul_one]
  clear hC
  go_enter Tryz.func151, Tryz.ntmps151
  go_wp2_with (first | ((with_reducible refine wp_region_later (by kernel_rfl) (by kernel_rfl) ?_); (repeat (first | go_big_quiet_step (first | fail))); refine wpQuiet_nil ?_; rintro _ ⟨x, rfl⟩))
  clear hmk
  go_loopw [4] (fun v wr => ∃ k : Nat, v = .int .i64 k ∧ k ≤ n ∧ ∃ D : Array Value, D.size = n ∧ Hid (D.toList.take k = (l.take k).flatMap encInt) ∧ ∃ x : Later (w.alloc (.cells D 3)), wr = x.w) (fun v _ => (n - intOf v).toNat)
  case atStart => exact ⟨0, rfl, by omega, C, hCz, by simp [Hid], Later.here _, rfl⟩
  case round =>
    obtain ⟨k, rfl, hk, D, hDz, hf, x, rfl⟩ := hrel
    by_cases h : k < n
    · obtain ⟨b, off, s, rfl, hb, hd, h10⟩ := hs.int (show k < l.length by omega)
      obtain ⟨o0, g0⟩ := getD_lt hDz (show k < n by omega)
      go_wp2_with (first | ((with_reducible refine wp_region_later (by kernel_rfl) (by kernel_rfl) ?_); (repeat (first | go_big_quiet_step (first | fail))); refine wpQuiet_nil ?_; rintro _ ⟨x, rfl⟩))
      go_roundw
      case rel => exact ⟨k + 1, by go_num, by omega, _, by simpa using hDz, fill1 hf.out hDz h hd.out rfl, Later.set1_at _ _ _⟩
      case measure => simp [intOf]; omega
    · go_wp2_with (first | ((with_reducible refine wp_region_later (by kernel_rfl) (by kernel_rfl) ?_); (repeat (first | go_big_quiet_step (first | fail))); refine wpQuiet_nil ?_; rintro _ ⟨x, rfl⟩))
      go_ret
      refine ⟨_, _, by rw [hn]; rfl, own_block encInt_len hn (by omega) (Nat.le_refl _) (by rw [Nat.mul_one]; exact hDz) ?_ x, ⟨x.w, Grows.out⟩, rfl⟩
      have hf' := hf.out
      rw [List.take_of_length_le (by simp; omega), List.take_of_length_le (by omega)] at hf'
      exact hf'
end Go.Proofs.YtdankjbkioepgaaGreat

namespace Go.Proofs.YtdankjbkioepgaaGreat
set_option linter.unusedVariables false
open Go.ChangeShapes Go.WideShapes Go.ChangeAt Go.RowKit

/-- Two blocks are not the same: found by form. -/
class NeN (a b : Nat) : Prop where
  out : a ≠ b
instance (priority := 60) NeN.ofLt (a b : Nat) [h : LtN a b] : NeN a b := ⟨Nat.ne_of_lt h.out⟩
instance (priority := 55) NeN.ofGt (a b : Nat) [h : LtN b a] : NeN a b := ⟨Nat.ne_of_gt h.out⟩
theorem cell_farH (W : World) (b i b' j : Nat) (v : Value) (h : b ≠ b') : (W.setCell ⟨b, i, none⟩ v).cell? ⟨b', j, none⟩ = W.cell? ⟨b', j, none⟩ := World.cell?_setCell_far W ⟨b, i, none⟩ ⟨b', j, none⟩ v h
@[go_sem] theorem cell_farN (W : World) (b i b' j : Nat) (v : Value) [h : NeN b b'] : (W.setCell ⟨b, i, none⟩ v).cell? ⟨b', j, none⟩ = W.cell? ⟨b', j, none⟩ := cell_farH W b i b' j v h.out
namespace Later
variable {W : World}
@[go_sem] theorem set_cell_far (x : Later W) (b i b' j : Nat) (v : Value) [h : NeN b b'] : (x.set ⟨b, i, none⟩ v).w.cell? ⟨b', j, none⟩ = x.w.cell? ⟨b', j, none⟩ := cell_farH x.w b i b' j v h.out
@[go_sem] theorem set_frozen (x : Later W) (b i : Nat) (v : Value) (p : Addr) : (x.set ⟨b, i, none⟩ v).w.frozen? p = x.w.frozen? p := by simp [Later.set]
end Later
instance Grows.setL (a : World) {W : World} (x : Later W) (b i : Nat) (v : Value) [h : Grows a x.w] [k : LeN a.heap.size b] : Grows a (x.set ⟨b, i, none⟩ v).w := ⟨h.out.setCell k.out v⟩
/-- A world has so many blocks: found by form. -/
class SzN (g : Nat) (W : World) : Prop where
  out : W.heap.size = g
instance SzN.same (W : World) : SzN W.heap.size W := ⟨rfl⟩
instance SzN.set (g : Nat) {W : World} (x : Later W) (p : Addr) (v : Value) [h : SzN g x.w] : SzN g (x.set p v).w := ⟨by have := h.out; simpa [Later.set] using this⟩
instance SzN.setCell (g : Nat) (W : World) (p : Addr) (v : Value) [h : SzN g W] : SzN g (W.setCell p v) := ⟨by have := h.out; simpa using this⟩
instance SzN.drew (g : Nat) (W : World) [h : SzN g W] : SzN g W.drew := ⟨h.out⟩
@[go_sem] theorem cell_newN (W : World) (C : Array Value) (T : TypeId) (g i : Nat) [h : SzN g W] : (W.alloc (.cells C T)).cell? ⟨g, i, none⟩ = C[i]? := by
  have := blk_alloc W (.cells C T) g h.out
  simp [World.cell?, this]
@[go_sem] theorem frozen_newN (W : World) (C : Array Value) (T : TypeId) (g i : Nat) [h : SzN g W] : (W.alloc (.cells C T)).frozen? ⟨g, i, none⟩ = false := by
  have := blk_alloc W (.cells C T) g h.out
  simp [World.frozen?, this]
end Go.Proofs.YtdankjbkioepgaaGreat

namespace Go.Proofs.YtdankjbkioepgaaGreat
set_option linter.unusedVariables false
open Go.ChangeShapes Go.WideShapes Go.ChangeAt Go.RowKit

/-- One string. -/
def encStr (s : ByteArray) : List Value := [.string s]
theorem encStr_len (n : ByteArray) : (encStr n).length = 1 := rfl
theorem encStr_one (n : ByteArray) : ∀ u ∈ encStr n, u.oneCell' = true := by intro u hu; simp [encStr] at hu; subst hu; rfl
theorem Sl.str {w : World} {a : Option Addr} {l : List ByteArray} (h : Sl encStr w a l) {k : Nat} (hk : k < l.length) :
    ∃ b off s, a = some ⟨b, off, none⟩ ∧ LtN b w.heap.size ∧ Hid (l.drop k = s :: l.drop (k + 1)) ∧ (∀ (W : World) [Grows w W], W.cell? ⟨b, off + k, none⟩ = some (.string s)) := by
  obtain ⟨s, hs, hd⟩ := drop_at hk
  obtain ⟨b, off, ha, hb, hc⟩ := h k s hs
  exact ⟨b, off, s, ha, ⟨hb⟩, hd, cell_grown hb (by simpa [encStr] using hc 0 _ rfl)⟩
theorem flatStr {w : World} {cs : List Value} (hl : cs.length = 1) (h : RdL w [.str] cs) : ∃ s : ByteArray, encStr s = cs ∧ s.size ≤ maxLen := by
  obtain ⟨u0, g0, r0⟩ := h.at (j := 0) rfl
  obtain ⟨x0, rfl, p0⟩ := r0.str_inv
  refine ⟨x0, (list_all hl ?_).symm, p0⟩
  intro j y hy
  match j, hy with
  | 0, hy => cases hy; exact g0
def eqStr (s t : ByteArray) : Bool := s.toList == t.toList
theorem eqStr_self (s : ByteArray) : eqStr s s = true := by simp [eqStr]

set_option maxRecDepth 100000 in
set_option maxHeartbeats 2000000 in
theorem c_leqStringS {a a' : Option Addr} {n n' c c' : Nat} {l l' : List ByteArray} {w : World} (hs : Sl encStr w a l) (hs' : Sl encStr w a' l') (hn : l.length = n) (hn' : l'.length = n') (hm : n ≤ 4611686018427387904) (hm' : n' ≤ 4611686018427387904) :
    Calls Tryz.prog 48 #[.slice a n c, .slice a' n' c'] w (Gives w (.bool ((n == n') && eqAll eqStr l l'))) := by
  by_cases hnn : n = n'
  · subst hnn
    have kn : ((n : Int) != (n : Int)) = false := by simp
    go_enter Tryz.func48, Tryz.ntmps48
    go_wp2_with (first | ((with_reducible refine wp_region_later (by kernel_rfl) (by kernel_rfl) ?_); (repeat (first | go_big_quiet_step (first | fail) | simp only [kn])); refine wpQuiet_nil ?_; rintro _ ⟨x, rfl⟩))
    go_loopw [5] (fun v wr => ∃ k : Nat, v = .int .i64 k ∧ k ≤ n ∧ Hid (eqAll eqStr (l.drop k) (l'.drop k) = eqAll eqStr l l') ∧ ∃ x : Later w, wr = x.w) (fun v _ => (n - intOf v).toNat)
    case atStart => exact ⟨0, rfl, by omega, rfl, Later.here w, rfl⟩
    case round =>
      obtain ⟨k, rfl, hk, hf, x, rfl⟩ := hrel
      by_cases h : k < n
      · obtain ⟨b, off, s, rfl, hb, hd, h0⟩ := hs.str (show k < l.length by omega)
        obtain ⟨b', off', s', rfl, hb', hd', h0'⟩ := hs'.str (show k < l'.length by omega)
        cases he : (s.toList == s'.toList)
        · have he2 : (s.toList != s'.toList) = true := by simp [bne, he]
          go_wp2_with (first | ((with_reducible refine wp_region_later (by kernel_rfl) (by kernel_rfl) ?_); (repeat (first | go_big_quiet_step (first | fail) | simp only [he2])); refine wpQuiet_nil ?_; rintro _ ⟨x, rfl⟩))
          go_ret
          exact Gives.mk (by have := hf.out; rw [hd.out, hd'.out, eqAll, eqStr, he] at this; simp [← this])
        · have he2 : (s.toList != s'.toList) = false := by simp [bne, he]
          go_wp2_with (first | ((with_reducible refine wp_region_later (by kernel_rfl) (by kernel_rfl) ?_); (repeat (first | go_big_quiet_step (first | fail) | simp only [he2])); refine wpQuiet_nil ?_; rintro _ ⟨x, rfl⟩))
          go_roundw
          case rel => exact ⟨k + 1, by go_num, by omega, by have := hf.out; rw [hd.out, hd'.out, eqAll, eqStr, he, Bool.true_and] at this; exact this, Later.of⟩
          case measure => simp [intOf]; omega
      · go_wp2_with (first | ((with_reducible refine wp_region_later (by kernel_rfl) (by kernel_rfl) ?_); (repeat (first | go_big_quiet_step (first | fail))); refine wpQuiet_nil ?_; rintro _ ⟨x, rfl⟩))
        go_ret
        exact Gives.mk (by have := hf.out; rw [List.drop_of_length_le (by omega), List.drop_of_length_le (by omega)] at this; simp [← this, eqAll])
  · have kn : ((n : Int) != (n' : Int)) = true := by simp; omega
    go_enter Tryz.func48, Tryz.ntmps48
    go_wp2_with (first | ((with_reducible refine wp_region_later (by kernel_rfl) (by kernel_rfl) ?_); (repeat (first | go_big_quiet_step (first | fail) | simp only [kn])); refine wpQuiet_nil ?_; rintro _ ⟨x, rfl⟩))
    go_ret
    exact Gives.mk (by simp [hnn])
end Go.Proofs.YtdankjbkioepgaaGreat

namespace Go.Proofs.YtdankjbkioepgaaGreat
set_option linter.unusedVariables false
open Go.ChangeShapes Go.WideShapes Go.ChangeAt Go.RowKit

/-! ### CheckOf -/
@[go_sem] theorem i64_and65535 (n : Int) : bits .and .i64 n 65535 = n % 65536 := by
  have h : (BitVec.ofInt 64 65535).toNat = 2 ^ 16 - 1 := by decide
  have key : (BitVec.ofInt 64 n &&& BitVec.ofInt 64 65535).toNat = (n % ((2 ^ 64 : Nat) : Int)).toNat % 2 ^ 16 := by
    rw [BitVec.toNat_and, BitVec.toNat_ofInt, h, Nat.and_two_pow_sub_one_eq_mod]
  show IntKind.i64.wrap ((BitVec.ofInt 64 n &&& BitVec.ofInt 64 65535).toNat : Nat) = n % 65536
  rw [key, IntKind.wrap_i64]
  omega
theorem and_top {n : Int} (h0 : 0 ≤ n) (h1 : n ≤ 65535) : (bits .and .i64 n 32768 != 0) = decide (32768 ≤ n) := by
  have h : (BitVec.ofInt 64 32768).toNat = 2 ^ 15 := by decide
  have hn : (BitVec.ofInt 64 n).toNat = n.toNat := by rw [BitVec.toNat_ofInt]; omega
  have hlt : n.toNat < 2 ^ 16 := by omega
  have key : (BitVec.ofInt 64 n &&& BitVec.ofInt 64 32768).toNat = if 2 ^ 15 ≤ n.toNat then 2 ^ 15 else 0 := by
    rw [BitVec.toNat_and, hn, h]
    apply Nat.eq_of_testBit_eq
    intro i
    rw [Nat.testBit_and, Nat.testBit_two_pow]
    by_cases hc : 2 ^ 15 ≤ n.toNat
    · rw [if_pos hc, Nat.testBit_two_pow]
      by_cases hi : 15 = i
      · subst hi
        have h15 : n.toNat.testBit 15 = true := by
          rw [Nat.testBit_eq_decide_div_mod_eq]
          have : n.toNat / 2 ^ 15 % 2 = 1 := by omega
          simp [this]
        simp [h15]
      · simp [hi]
    · rw [if_neg hc, Nat.zero_testBit]
      by_cases hi : 15 = i
      · subst hi
        rw [Nat.testBit_lt_two_pow (by omega)]; rfl
      · simp [hi]
  have e : bits .and .i64 n 32768 = (((if 2 ^ 15 ≤ n.toNat then 2 ^ 15 else 0 : Nat)) : Int) := by
    show IntKind.i64.wrap ((BitVec.ofInt 64 n &&& BitVec.ofInt 64 32768).toNat : Nat) = _
    rw [key, IntKind.wrap_i64]
    split <;> omega
  rw [e]
  by_cases hc : 32768 ≤ n
  · rw [if_pos (by omega)]; simp [hc]
  · rw [if_neg (by omega)]; simp [hc]
theorem xor_bd {a b : Int} (h0 : 0 ≤ a) (h1 : a ≤ 65535) (h2 : 0 ≤ b) (h3 : b ≤ 65535) : 0 ≤ bits .xor .i64 a b ∧ bits .xor .i64 a b ≤ 65535 := by
  have ha : (BitVec.ofInt 64 a).toNat = a.toNat := by rw [BitVec.toNat_ofInt]; omega
  have hb : (BitVec.ofInt 64 b).toNat = b.toNat := by rw [BitVec.toNat_ofInt]; omega
  have key : (BitVec.ofInt 64 a ^^^ BitVec.ofInt 64 b).toNat = a.toNat ^^^ b.toNat := by rw [BitVec.toNat_xor, ha, hb]
  have hlt : a.toNat ^^^ b.toNat < 2 ^ 16 := Nat.xor_lt_two_pow (by omega) (by omega)
  have e : bits .xor .i64 a b = ((a.toNat ^^^ b.toNat : Nat) : Int) := by
    show IntKind.i64.wrap ((BitVec.ofInt 64 a ^^^ BitVec.ofInt 64 b).toNat : Nat) = _
    rw [key, IntKind.wrap_i64]
    omega
  rw [e]
  omega

def crcBit (n : Int) : Int := if 32768 ≤ n then bits .xor .i64 (2 * n % 65536) 4129 else 2 * n
def crcBits : Nat → Int → Int
  | 0, n => n
  | k + 1, n => crcBits k (crcBit n)
def crc : Int → List Int → Int
  | n, [] => n
  | n, b :: l => crc (crcBits 8 (bits .xor .i64 n (256 * b))) l
theorem crcBit_bd {n : Int} (h0 : 0 ≤ n) (h1 : n ≤ 65535) : 0 ≤ crcBit n ∧ crcBit n ≤ 65535 := by
  unfold crcBit
  split
  · exact xor_bd (by omega) (by omega) (by omega) (by omega)
  · omega
end Go.Proofs.YtdankjbkioepgaaGreat

namespace Go.Proofs.YtdankjbkioepgaaGreat
set_option linter.unusedVariables false
open Go.ChangeShapes Go.WideShapes Go.ChangeAt Go.RowKit

def byteList (s : ByteArray) : List Int := s.data.toList.map (fun b => (b.toNat : Int))
@[irreducible] def checkOf (s : ByteArray) : Int := crc 65535 (byteList s)
theorem checkOf_eq (s : ByteArray) : checkOf s = crc 65535 (byteList s) := by unfold checkOf; rfl
theorem crc_cons (n b : Int) (l : List Int) : crc n (b :: l) = crc (crcBits 8 (bits .xor .i64 n (256 * b))) l := by with_unfolding_all rfl
theorem crc_nil (n : Int) : crc n [] = n := by with_unfolding_all rfl
theorem byteList_len (s : ByteArray) : (byteList s).length = s.size := by simp [byteList]
theorem byteList_at {s : ByteArray} {k : Nat} (h : k < s.size) : ((s[k]'h).toNat : Int) ≤ 255 ∧ (byteList s).drop k = ((s[k]'h).toNat : Int) :: (byteList s).drop (k + 1) := by
  refine ⟨?_, ?_⟩
  · have := (s[k]'h).toNat_lt; omega
  · have hk : k < (byteList s).length := by rw [byteList_len]; exact h
    rw [List.drop_eq_getElem_cons hk]
    congr 1
    simp [byteList]; rfl

set_option maxRecDepth 100000 in
set_option maxHeartbeats 2000000 in
theorem c_iCheckOf {s : ByteArray} {w : World} (hm : s.size ≤ 4611686018427387904) :
    Calls Tryz.prog 119 #[.string s] w (Gives w (.int .i64 (checkOf s))) := by
  have hlen := byteList_len s
  have HC := Lib.hid (show checkOf s = crc 65535 (byteList s) from checkOf_eq s)
  go_enter Tryz.func119, Tryz.ntmps119
  go_wp2_with (first | ((with_reducible refine wp_region_later (by kernel_rfl) (by kernel_rfl) ?_); (repeat (first | go_big_quiet_step (first | fail))); refine wpQuiet_nil ?_; rintro _ ⟨x, rfl⟩))
  go_loopw [3, 4] (fun u v wr => ∃ (k : Nat) (m : Int), v = .int .i64 k ∧ u = .int .i64 m ∧ k ≤ s.size ∧ 0 ≤ m ∧ m ≤ 65535 ∧ Hid (crc m ((byteList s).drop k) = checkOf s) ∧ ∃ x : Later w, wr = x.w) (fun _ v _ => (s.size - intOf v).toNat)
  case atStart => exact ⟨0, 65535, rfl, rfl, by omega, by omega, by omega, by rw [HC.out]; rfl, Later.of⟩
  case round =>
    obtain ⟨k, m, rfl, rfl, hk, hm0, hm1, hf, x0, rfl⟩ := hrel
    by_cases h : k < s.size
    · obtain ⟨hb1, hd⟩ := byteList_at h
      have ⟨hx0, hx1⟩ := xor_bd hm0 hm1 (show 0 ≤ 256 * ((s[k]'h).toNat : Int) by omega) (show 256 * ((s[k]'h).toNat : Int) ≤ 65535 by omega)
      go_wp2_with (first | ((with_reducible refine wp_region_later (by kernel_rfl) (by kernel_rfl) ?_); (repeat (first | go_big_quiet_step (first | fail))); refine wpQuiet_nil ?_; rintro _ ⟨x, rfl⟩))
      go_loopw [3, 5] (fun u v wr => ∃ (j : Nat) (m1 : Int), v = .int .i64 j ∧ u = .int .i64 m1 ∧ j ≤ 8 ∧ 0 ≤ m1 ∧ m1 ≤ 65535 ∧ Hid (crcBits (8 - j) m1 = crcBits 8 (bits .xor .i64 m (256 * ((s[k]'h).toNat : Int)))) ∧ ∃ y : Later x0.w, wr = y.w) (fun _ v _ => (8 - intOf v).toNat)
      case atStart => exact ⟨0, _, rfl, rfl, by omega, hx0, hx1, by simp [Hid], Later.of⟩
      case round =>
        obtain ⟨j, m1, rfl, rfl, hj, hn0, hn1, hg, y, rfl⟩ := hrel
        by_cases h2 : j < 8
        · have ht := and_top hn0 hn1
          have ⟨hc0, hc1⟩ := crcBit_bd hn0 hn1
          cases c1 : decide (32768 ≤ m1)
          · go_wp2_with (first | ((with_reducible refine wp_region_later (by kernel_rfl) (by kernel_rfl) ?_); (repeat (first | go_big_quiet_step (first | fail) | simp only [c1] | simp only [ht])); refine wpQuiet_nil ?_; rintro _ ⟨x, rfl⟩))
            go_roundw
            case rel => exact ⟨j + 1, crcBit m1, by go_num, by simp only [crcBit, if_neg (show ¬ 32768 ≤ m1 by simpa using c1), Int.mul_comm m1 2], by omega, hc0, hc1, by have := hg.out; rw [show 8 - j = (8 - (j + 1)) + 1 by omega, crcBits] at this; exact this, Later.of⟩
            case measure => simp [intOf]; omega
          · go_wp2_with (first | ((with_reducible refine wp_region_later (by kernel_rfl) (by kernel_rfl) ?_); (repeat (first | go_big_quiet_step (first | fail) | simp only [c1] | simp only [ht])); refine wpQuiet_nil ?_; rintro _ ⟨x, rfl⟩))
            go_roundw
            case rel => exact ⟨j + 1, crcBit m1, by go_num, by simp only [crcBit, if_pos (show 32768 ≤ m1 by simpa using c1)], by omega, hc0, hc1, by have := hg.out; rw [show 8 - j = (8 - (j + 1)) + 1 by omega, crcBits] at this; exact this, Later.of⟩
            case measure => simp [intOf]; omega
        · have : j = 8 := by omega
          subst this
          have hm1 := Lib.hid (show crcBits 8 (bits .xor .i64 m (256 * ((s[k]'h).toNat : Int))) = m1 by rw [← hg.out]; rfl)
          go_wp2_with (first | ((with_reducible refine wp_region_later (by kernel_rfl) (by kernel_rfl) ?_); (repeat (first | go_big_quiet_step (first | fail))); refine wpQuiet_nil ?_; rintro _ ⟨x, rfl⟩))
          go_roundw
          case rel => exact ⟨k + 1, m1, by go_num, rfl, by omega, hn0, hn1, by have := hf.out; rw [hd, crc_cons, hm1.out] at this; exact Lib.hid this, Later.of⟩
          case measure => simp [intOf]; omega
    · go_wp2_with (first | ((with_reducible refine wp_region_later (by kernel_rfl) (by kernel_rfl) ?_); (repeat (first | go_big_quiet_step (first | fail))); refine wpQuiet_nil ?_; rintro _ ⟨x, rfl⟩))
      go_ret
      exact Gives.mk (by have := hf.out; rw [List.drop_of_length_le (by omega), crc_nil] at this; rw [← this]; rfl)

set_option maxRecDepth 100000 in
set_option maxHeartbeats 2000000 in
theorem c_sCheckOf {s : ByteArray} {w : World} (hm : s.size ≤ 4611686018427387904) :
    Calls Tryz.prog 116 #[.string s] w (Gives w (.int .i64 (checkOf s))) := by
  have hlen := byteList_len s
  have HC := Lib.hid (show checkOf s = crc 65535 (byteList s) from checkOf_eq s)
  go_enter Tryz.func116, Tryz.ntmps116
  go_wp2_with (first | ((with_reducible refine wp_region_later (by kernel_rfl) (by kernel_rfl) ?_); (repeat (first | go_big_quiet_step (first | fail))); refine wpQuiet_nil ?_; rintro _ ⟨x, rfl⟩))
  go_loopw [3, 4] (fun u v wr => ∃ (k : Nat) (m : Int), v = .int .i64 k ∧ u = .int .i64 m ∧ k ≤ s.size ∧ 0 ≤ m ∧ m ≤ 65535 ∧ Hid (crc m ((byteList s).drop k) = checkOf s) ∧ ∃ x : Later w, wr = x.w) (fun _ v _ => (s.size - intOf v).toNat)
  case atStart => exact ⟨0, 65535, rfl, rfl, by omega, by omega, by omega, by rw [HC.out]; rfl, Later.of⟩
  case round =>
    obtain ⟨k, m, rfl, rfl, hk, hm0, hm1, hf, x0, rfl⟩ := hrel
    by_cases h : k < s.size
    · obtain ⟨hb1, hd⟩ := byteList_at h
      have ⟨hx0, hx1⟩ := xor_bd hm0 hm1 (show 0 ≤ ((s[k]'h).toNat : Int) * 256 by omega) (show ((s[k]'h).toNat : Int) * 256 ≤ 65535 by omega)
      go_wp2_with (first | ((with_reducible refine wp_region_later (by kernel_rfl) (by kernel_rfl) ?_); (repeat (first | go_big_quiet_step (first | fail))); refine wpQuiet_nil ?_; rintro _ ⟨x, rfl⟩))
      go_loopw [3, 5] (fun u v wr => ∃ (j : Nat) (m1 : Int), v = .int .i64 j ∧ u = .int .i64 m1 ∧ j ≤ 8 ∧ 0 ≤ m1 ∧ m1 ≤ 65535 ∧ Hid (crcBits (8 - j) m1 = crcBits 8 (bits .xor .i64 m (((s[k]'h).toNat : Int) * 256))) ∧ ∃ y : Later x0.w, wr = y.w) (fun _ v _ => (8 - intOf v).toNat)
      case atStart => exact ⟨0, _, rfl, rfl, by omega, hx0, hx1, by simp [Hid], Later.of⟩
      case round =>
        obtain ⟨j, m1, rfl, rfl, hj, hn0, hn1, hg, y, rfl⟩ := hrel
        by_cases h2 : j < 8
        · have ht := and_top hn0 hn1
          have ⟨hc0, hc1⟩ := crcBit_bd hn0 hn1
          cases c1 : decide (32768 ≤ m1)
          · go_wp2_with (first | ((with_reducible refine wp_region_later (by kernel_rfl) (by kernel_rfl) ?_); (repeat (first | go_big_quiet_step (first | fail) | simp only [c1] | simp only [ht])); refine wpQuiet_nil ?_; rintro _ ⟨x, rfl⟩))
            go_roundw
            case rel => exact ⟨j + 1, crcBit m1, by go_num, by simp only [crcBit, if_neg (show ¬ 32768 ≤ m1 by simpa using c1), Int.mul_comm m1 2], by omega, hc0, hc1, by have := hg.out; rw [show 8 - j = (8 - (j + 1)) + 1 by omega, crcBits] at this; exact this, Later.of⟩
            case measure => simp [intOf]; omega
          · go_wp2_with (first | ((with_reducible refine wp_region_later (by kernel_rfl) (by kernel_rfl) ?_); (repeat (first | go_big_quiet_step (first | fail) | simp only [c1] | simp only [ht])); refine wpQuiet_nil ?_; rintro _ ⟨x, rfl⟩))
            go_roundw
            case rel => exact ⟨j + 1, crcBit m1, by go_num, by simp only [crcBit, if_pos (show 32768 ≤ m1 by simpa using c1), Int.mul_comm m1 2], by omega, hc0, hc1, by have := hg.out; rw [show 8 - j = (8 - (j + 1)) + 1 by omega, crcBits] at this; exact this, Later.of⟩
            case measure => simp [intOf]; omega
        · have : j = 8 := by omega
          subst this
          have hm1 := Lib.hid (show crcBits 8 (bits .xor .i64 m (((s[k]'h).toNat : Int) * 256)) = m1 by rw [← hg.out]; rfl)
          go_wp2_with (first | ((with_reducible refine wp_region_later (by kernel_rfl) (by kernel_rfl) ?_); (repeat (first | go_big_quiet_step (first | fail))); refine wpQuiet_nil ?_; rintro _ ⟨x, rfl⟩))
          go_roundw
          case rel => exact ⟨k + 1, m1, by go_num, rfl, by omega, hn0, hn1, by have := hf.out; rw [hd, crc_cons, ← Int.mul_comm _ 256, hm1.out] at this; exact Lib.hid this, Later.of⟩
          case measure => simp [intOf]; omega
    · go_wp2_with (first | ((with_reducible refine wp_region_later (by kernel_rfl) (by kernel_rfl) ?_); (repeat (first | go_big_quiet_step (first | fail))); refine wpQuiet_nil ?_; rintro _ ⟨x, rfl⟩))
      go_ret
      exact Gives.mk (by have := hf.out; rw [List.drop_of_length_le (by omega), crc_nil] at this; rw [← this]; rfl)

end Go.Proofs.YtdankjbkioepgaaGreat

namespace Go.Proofs.YtdankjbkioepgaaGreat
set_option linter.unusedVariables false
open Go.ChangeShapes Go.WideShapes Go.ChangeAt Go.RowKit

/-- Blocks from B on, as far as there were any, are as they were. -/
class Keeps (B : Nat) (w w' : World) : Prop where
  size : w.heap.size ≤ w'.heap.size
  block : ∀ b, B ≤ b → b < w.heap.size → w'.heap[b]? = w.heap[b]?
instance (priority := 2000) Keeps.same (B : Nat) (w : World) : Keeps B w w := ⟨Nat.le_refl _, fun _ _ _ => rfl⟩
theorem Keeps.trans {B : Nat} {a b c : World} (h : Keeps B a b) (k : Keeps B b c) : Keeps B a c := ⟨Nat.le_trans h.size k.size, fun i h1 h2 => (k.block i h1 (Nat.lt_of_lt_of_le h2 h.size)).trans (h.block i h1 h2)⟩
theorem Keeps.later' {B : Nat} {w W : World} (h : Keeps B w W) (x : Later W) : Keeps B w x.w := h.trans ⟨x.h.size, fun b _ h2 => x.h.block b h2⟩
instance (priority := 1500) Keeps.andThenSelf (B : Nat) {W : World} (x : Later W) (y : Later x.w) : Keeps B y.w (x.andThen y).w := ⟨Nat.le_refl _, fun _ _ _ => rfl⟩
instance (priority := 1400) Keeps.andThenMid (B : Nat) {W : World} (x : Later W) (y : Later x.w) : Keeps B x.w (x.andThen y).w := ⟨y.h.size, fun b _ h2 => y.h.block b h2⟩
instance (priority := 1300) Keeps.andThen (B : Nat) (a : World) {W : World} (x : Later W) (y : Later x.w) [h : Keeps B a x.w] : Keeps B a (x.andThen y).w := h.later' y
instance (priority := 1200) Keeps.drawn (B : Nat) (a : World) {W : World} (x : Later W) [h : Keeps B a x.w] : Keeps B a x.draw.w := ⟨h.size, h.block⟩
instance (priority := 1200) Keeps.drew (B : Nat) (a w : World) [h : Keeps B a w] : Keeps B a w.drew := ⟨h.size, h.block⟩
theorem Keeps.set' {B : Nat} {a w : World} (h : Keeps B a w) (b i : Nat) (v : Value) (k : b < B) : Keeps B a (w.setCell ⟨b, i, none⟩ v) := ⟨by simpa using h.size, fun c h1 h2 => by
  rw [Below.heap_setCell _ _ _ _ (fun e => by simp only at e; omega)]; exact h.block c h1 h2⟩
instance (priority := 1200) Keeps.setCell (B : Nat) (a w : World) (b i : Nat) (v : Value) [h : Keeps B a w] [k : LtN b B] : Keeps B a (w.setCell ⟨b, i, none⟩ v) := h.set' b i v k.out
instance (priority := 1200) Keeps.setL (B : Nat) (a : World) {W : World} (x : Later W) (b i : Nat) (v : Value) [h : Keeps B a x.w] [k : LtN b B] : Keeps B a (x.set ⟨b, i, none⟩ v).w := h.set' b i v k.out
instance (priority := 1250) Keeps.setL8 (B : Nat) (a : World) {W : World} (x : Later W) (b i0 i1 i2 i3 i4 i5 i6 i7 : Nat) (v0 v1 v2 v3 v4 v5 v6 v7 : Value) [h : Keeps B a x.w] [k : LtN b B] : Keeps B a ((((((((x.set ⟨b, i0, none⟩ v0).set ⟨b, i1, none⟩ v1).set ⟨b, i2, none⟩ v2).set ⟨b, i3, none⟩ v3).set ⟨b, i4, none⟩ v4).set ⟨b, i5, none⟩ v5).set ⟨b, i6, none⟩ v6).set ⟨b, i7, none⟩ v7).w :=
  (((((((h.set' b i0 v0 k.out).set' b i1 v1 k.out).set' b i2 v2 k.out).set' b i3 v3 k.out).set' b i4 v4 k.out).set' b i5 v5 k.out).set' b i6 v6 k.out).set' b i7 v7 k.out
instance (priority := 1200) Keeps.alloc (B : Nat) (a w : World) (o : Obj) [h : Keeps B a w] : Keeps B a (w.alloc o) := ⟨by have := h.size; simp; omega, fun b h1 h2 => by rw [Below.heap_alloc _ _ _ (Nat.lt_of_lt_of_le h2 h.size)]; exact h.block b h1 h2⟩
instance (priority := 1000) Keeps.later (B : Nat) (a : World) {W : World} (x : Later W) [h : Keeps B a W] : Keeps B a x.w := h.later' x
instance (priority := 100) Keeps.grows (B : Nat) (w W : World) [h : Grows w W] : Keeps B w W := ⟨h.out.size, fun b _ h2 => h.out.block b h2⟩

/-- What cells read as. -/
class Enc (α : Type) where
  size : Nat
  Rd : Nat → World → List Value → α → Prop
  len : ∀ {B w vs x}, Rd B w vs x → vs.length = size
  keep : ∀ {B w w' vs x}, Rd B w vs x → Keeps B w w' → Rd B w' vs x
  mono : ∀ {B B' w vs x}, Rd B w vs x → B' ≤ B → Rd B' w vs x
  tot : α → Int
  tot_nonneg : ∀ x, 0 ≤ tot x
/-- The sizes of a list's elements, and one for each. -/
def totL {α : Type} [Enc α] : List α → Int
  | [] => 0
  | x :: r => 1 + Enc.tot x + totL r
theorem totL_len {α : Type} [Enc α] (l : List α) : (l.length : Int) ≤ totL l := by
  induction l with
  | nil => simp [totL]
  | cons x r ih => have := Enc.tot_nonneg x; simp only [totL, List.length_cons]; omega
theorem totL_nonneg {α : Type} [Enc α] (l : List α) : 0 ≤ totL l := by have := totL_len l; omega
theorem totL_mem {α : Type} [Enc α] {l : List α} {x : α} (h : x ∈ l) : Enc.tot x ≤ totL l := by
  induction l with
  | nil => cases h
  | cons y r ih =>
    have h1 := totL_nonneg r; have h2 := Enc.tot_nonneg y
    simp only [totL]
    rcases List.mem_cons.1 h with rfl | h
    · omega
    · have := ih h; omega

/-- A slice reads as a list. -/
def RdS {α : Type} [E : Enc α] (B : Nat) (w : World) (a : Option Addr) (c : Nat) (l : List α) : Prop :=
  l.length ≤ c ∧ c ≤ maxLen ∧ (a = none → c = 0) ∧ ∀ (i : Nat) (x : α), l[i]? = some x → ∃ b off vs, a = some ⟨b, off, none⟩ ∧ B ≤ b ∧ b < w.heap.size ∧ E.Rd B w vs x ∧ ∀ (j : Nat) (u : Value), vs[j]? = some u → w.cell? ⟨b, off + i * E.size + j, none⟩ = some u
section
variable {α : Type} [E : Enc α] {B : Nat} {w : World} {a : Option Addr} {c : Nat} {l : List α}
theorem RdS.cap (h : RdS B w a c l) : l.length ≤ c := h.1
theorem RdS.max (h : RdS B w a c l) : l.length ≤ 9223372036854775807 := by have h1 := h.1; have h2 := h.2.1; unfold maxLen at h2; omega
theorem RdS.nilcap (h : RdS B w a c l) : a = none → c = 0 := h.2.2.1
theorem RdS.keep {w' : World} (h : RdS B w a c l) (k : Keeps B w w') : RdS B w' a c l := by
  refine ⟨h.1, h.2.1, h.2.2.1, fun i x hx => ?_⟩
  obtain ⟨b, off, vs, rfl, h1, h2, h3, h4⟩ := h.2.2.2 i x hx
  exact ⟨b, off, vs, rfl, h1, Nat.lt_of_lt_of_le h2 k.size, E.keep h3 k, fun j u hu => by rw [World.cell?_of_block (w := w) (k.block b h1 h2)]; exact h4 j u hu⟩
theorem RdS.mono {B' : Nat} (h : RdS B w a c l) (k : B' ≤ B) : RdS B' w a c l := by
  refine ⟨h.1, h.2.1, h.2.2.1, fun i x hx => ?_⟩
  obtain ⟨b, off, vs, rfl, h1, h2, h3, h4⟩ := h.2.2.2 i x hx
  exact ⟨b, off, vs, rfl, by omega, h2, E.mono h3 k, h4⟩
theorem RdS.to {w' : World} (h : RdS B w a c l) (g : Keeps B w w') : RdS B w' a c l := h.keep g
theorem RdS.nil : RdS B w none 0 ([] : List α) := ⟨Nat.le_refl _, by unfold maxLen; omega, fun _ => rfl, fun i x h => by simp at h⟩
theorem RdS.at (h : RdS B w a c l) {k : Nat} (hk : k < l.length) : ∃ b off x vs, a = some ⟨b, off, none⟩ ∧ LtN b w.heap.size ∧ Hid (l.drop k = x :: l.drop (k + 1)) ∧ E.Rd B w vs x ∧ ∀ (j : Nat) (u : Value), vs[j]? = some u → w.cell? ⟨b, off + k * E.size + j, none⟩ = some u := by
  obtain ⟨x, hx, hd⟩ := drop_at hk
  obtain ⟨b, off, vs, h0, -, h2, h3, h4⟩ := h.2.2.2 k x hx
  exact ⟨b, off, x, vs, h0, ⟨h2⟩, hd, h3, h4⟩
end
/-- One struct, and a later world. -/
def GivesD {α : Type} [E : Enc α] (w : World) (x : α) : Ending → World → Prop := fun e w' => ∃ vs : List Value, e = .returned (.agg vs.toArray) ∧ E.Rd w.heap.size w' vs x ∧ ∃ y : Later w, w' = y.w
def GivesDS {α : Type} [E : Enc α] (w : World) (l : List α) : Ending → World → Prop := fun e w' => ∃ a c, e = .returned (.slice a l.length c) ∧ RdS w.heap.size w' a c l ∧ ∃ y : Later w, w' = y.w

instance Enc.int : Enc Int where
  size := 1
  Rd _ _ vs n := vs = [.int .i64 n] ∧ i64 n
  len h := by rw [h.1]; rfl
  keep h _ := h
  mono h _ := h
  tot _ := 0
  tot_nonneg _ := Int.le_refl _
instance Enc.bool : Enc Bool where
  size := 1
  Rd _ _ vs b := vs = [.bool b]
  len h := by rw [h]; rfl
  keep h _ := h
  mono h _ := h
  tot _ := 0
  tot_nonneg _ := Int.le_refl _
instance Enc.str : Enc ByteArray where
  size := 1
  Rd _ _ vs s := vs = [.string s] ∧ s.size ≤ 9223372036854775807
  len h := by rw [h.1]; rfl
  keep h _ := h
  mono h _ := h
  tot s := s.size
  tot_nonneg _ := by omega

/-! ### A block that is filled row by row -/
def RowsIn {α : Type} [E : Enc α] (B : Nat) (w : World) (D : Array Value) (l : List α) : Prop := ∀ (i : Nat) (x : α), l[i]? = some x → ∃ vs, E.Rd B w vs x ∧ ∀ (j : Nat) (u : Value), vs[j]? = some u → D[i * E.size + j]? = some u
def putAt (D : Array Value) (p j : Nat) : List Value → Array Value
  | [] => D
  | v :: r => putAt (D.setIfInBounds (p + j) v) p (j + 1) r
theorem putAt_size : ∀ (vs : List Value) (D : Array Value) (p j : Nat), (putAt D p j vs).size = D.size
  | [], D, p, j => rfl
  | v :: r, D, p, j => by rw [putAt, putAt_size r]; simp
theorem putAt_low : ∀ (vs : List Value) (D : Array Value) (p j i : Nat), i < p + j → (putAt D p j vs)[i]? = D[i]?
  | [], D, p, j, i, h => rfl
  | v :: r, D, p, j, i, h => by
    rw [putAt, putAt_low r _ _ _ _ (by omega), Array.getElem?_setIfInBounds_ne (by omega)]
theorem putAt_new : ∀ (vs : List Value) (D : Array Value) (p j : Nat), p + j + vs.length ≤ D.size → ∀ (i : Nat) (u : Value), vs[i]? = some u → (putAt D p j vs)[p + j + i]? = some u
  | [], D, p, j, h, i, u, hu => by simp at hu
  | v :: r, D, p, j, h, 0, u, hu => by
    simp only [List.getElem?_cons_zero, Option.some.injEq] at hu
    subst hu
    simp only [List.length_cons] at h
    show (putAt (D.setIfInBounds (p + j) v) p (j + 1) r)[p + j]? = some v
    rw [putAt_low r _ _ _ _ (by omega), Array.getElem?_setIfInBounds_self_of_lt (by omega)]
  | v :: r, D, p, j, h, i + 1, u, hu => by
    simp only [List.length_cons] at h
    have := putAt_new r (D.setIfInBounds (p + j) v) p (j + 1) (by simp; omega) i u (by simpa using hu)
    rw [putAt, ← this]; congr 1; omega
theorem RowsIn.nil {α : Type} [E : Enc α] {B : Nat} {w : World} {D : Array Value} : RowsIn B w D ([] : List α) := fun i x h => by simp at h
theorem RowsIn.put {α : Type} [E : Enc α] {B n k : Nat} {W W' : World} {D : Array Value} {l r : List α} {x : α} {vs : List Value} (h : RowsIn B W D (l.take k)) (hd : l.drop k = x :: r) (hk : k < n) (hl : l.length = n) (hD : D.size = n * E.size) (hR : E.Rd B W' vs x) (g : Keeps B W W') :
    RowsIn B W' (putAt D (k * E.size) 0 vs) (l.take (k + 1)) := by
  have hkx : l[k]? = some x := by
    have := congrArg (fun m => m[0]?) hd
    simpa using this
  have hle : k * E.size + E.size ≤ n * E.size := by rw [← Nat.succ_mul]; exact Nat.mul_le_mul_right _ hk
  intro i y hy
  by_cases hi : i < k
  · obtain ⟨us, h1, h2⟩ := h i y (by rw [List.getElem?_take_of_lt (by omega)] at hy; rw [List.getElem?_take_of_lt hi]; exact hy)
    refine ⟨us, E.keep h1 g, fun j u hu => ?_⟩
    have hj : j < E.size := by rw [← E.len h1]; exact (List.getElem?_eq_some_iff.1 hu).1
    have : (i + 1) * E.size ≤ k * E.size := Nat.mul_le_mul_right _ hi
    rw [Nat.succ_mul] at this
    rw [putAt_low _ _ _ _ _ (by omega)]; exact h2 j u hu
  · have hik : i = k := by
      have := (List.getElem?_eq_some_iff.1 hy).1
      simp at this; omega
    subst hik
    rw [List.getElem?_take_of_lt (by omega), hkx] at hy
    cases hy
    refine ⟨vs, hR, fun j u hu => ?_⟩
    exact putAt_new vs D _ 0 (by rw [E.len hR]; omega) j u hu
theorem RowsIn.done {α : Type} [E : Enc α] {B n T : Nat} {W : World} {D : Array Value} {l : List α} (x : Later (W.alloc (.cells D T))) (h : RowsIn B x.w D l) (hl : l.length = n) (hm : n ≤ 1048576) (hB : W.heap.size ≤ B) : RdS W.heap.size x.w (some ⟨W.heap.size, 0, none⟩) n l := by
  refine ⟨by omega, by unfold maxLen; omega, (by intro e; cases e), fun i y hy => ?_⟩
  obtain ⟨vs, h1, h2⟩ := h i y hy
  have hlt : W.heap.size < (W.alloc (.cells D T)).heap.size := by simp
  refine ⟨W.heap.size, 0, vs, rfl, Nat.le_refl _, Nat.lt_of_lt_of_le hlt x.size_le, E.mono h1 hB, fun j u hu => ?_⟩
  rw [x.h.cell (p := ⟨W.heap.size, _, none⟩) hlt, World.cell?_alloc_at _ _ _ _ rfl, Nat.zero_add]; exact h2 j u hu
theorem Later.set5_at {W : World} {C : Array Value} {T : TypeId} (x : Later (W.alloc (.cells C T))) (i i' i2 i3 i4 : Nat) (v v' v2 v3 v4 : Value) :
    ∃ y : Later (W.alloc (.cells (((((C.setIfInBounds i v).setIfInBounds i' v').setIfInBounds i2 v2).setIfInBounds i3 v3).setIfInBounds i4 v4) T)), (((((x.set ⟨W.heap.size, i, none⟩ v).set ⟨W.heap.size, i', none⟩ v').set ⟨W.heap.size, i2, none⟩ v2).set ⟨W.heap.size, i3, none⟩ v3).set ⟨W.heap.size, i4, none⟩ v4).w = y.w :=
  Later.cast (by rw [World.setCell_alloc_at C T _ i v rfl, World.setCell_alloc_at _ T _ i' v' rfl, World.setCell_alloc_at _ T _ i2 v2 rfl, World.setCell_alloc_at _ T _ i3 v3 rfl, World.setCell_alloc_at _ T _ i4 v4 rfl]) _

/-- A slice that came in. -/
theorem openS {α : Type} [E : Enc α] {w : World} {es : List Cd} {v : Value} (hs : E.size = es.length) (hf : ∀ vs, vs.length = es.length → RdL w es vs → ∃ x : α, E.Rd 0 w vs x) (h : RdC w (.sl es) v) :
    ∃ a c l, v = .slice a l.length c ∧ RdS (α := α) 0 w a c l := by
  cases h with
  | nil => exact ⟨none, 0, [], rfl, RdS.nil⟩
  | @sl _ a n c U h0 h1 h2 h3 h4 =>
    have : ∀ i, i < n → ∃ x : α, ∃ vs, E.Rd 0 w vs x ∧ vs = (List.range es.length).map (U i) := fun i hi => by
      obtain ⟨x, hx⟩ := hf ((List.range es.length).map (U i)) (by simp) (fun j e hj => by
        have hj' : j < es.length := (List.getElem?_eq_some_iff.1 hj).1
        exact ⟨U i j, by simp [hj'], h4 i hi j e hj⟩)
      exact ⟨x, _, hx, rfl⟩
    obtain ⟨l, hl, hp⟩ := choose_list n this
    refine ⟨some a, c, l, by rw [hl], by rw [hl]; exact h1, h2, (by intro e; cases e), fun i x hx => ?_⟩
    obtain ⟨vs, hR, rfl⟩ := hp i x hx
    have hi : i < n := by rw [← hl]; exact (List.getElem?_eq_some_iff.1 hx).1
    obtain ⟨b, off, rfl, hb, -⟩ := h3 i hi 0 h0
    refine ⟨b, off, _, rfl, Nat.zero_le _, hb, hR, fun j u hu => ?_⟩
    have hj : j < es.length := by have := (List.getElem?_eq_some_iff.1 hu).1; simpa using this
    simp [hj] at hu
    subst hu
    obtain ⟨b', off', hbo, -, h6⟩ := h3 i hi j hj
    simp only [Addr.mk.injEq, and_true] at hbo
    obtain ⟨rfl, rfl⟩ := hbo
    rw [hs, Nat.add_assoc]; exact h6
theorem openInt {w : World} (vs : List Value) (hl : vs.length = 1) (h : RdL w [.int] vs) : ∃ x : Int, Enc.Rd 0 w vs x := by
  obtain ⟨u0, g0, r0⟩ := h.at (j := 0) rfl
  obtain ⟨x0, rfl, p0⟩ := r0.int_inv
  refine ⟨x0, list_all hl ?_, p0⟩
  intro j y hy
  match j, hy with
  | 0, hy => cases hy; exact g0
theorem openBool {w : World} (vs : List Value) (hl : vs.length = 1) (h : RdL w [.bool] vs) : ∃ x : Bool, Enc.Rd 0 w vs x := by
  obtain ⟨u0, g0, r0⟩ := h.at (j := 0) rfl
  obtain ⟨x0, rfl⟩ := r0.bool_inv
  refine ⟨x0, list_all hl ?_⟩
  intro j y hy
  match j, hy with
  | 0, hy => cases hy; exact g0
theorem openStr {w : World} (vs : List Value) (hl : vs.length = 1) (h : RdL w [.str] vs) : ∃ x : ByteArray, Enc.Rd 0 w vs x := by
  obtain ⟨u0, g0, r0⟩ := h.at (j := 0) rfl
  obtain ⟨x0, rfl, p0⟩ := r0.str_inv
  refine ⟨x0, list_all hl ?_, by unfold maxLen at p0; omega⟩
  intro j y hy
  match j, hy with
  | 0, hy => cases hy; exact g0
/-- What is left of a size. -/
def szD (left : Int) (t : Int) : Int := if left - t < 0 then -1 else left - t
theorem szD_neg {l t : Int} (h : l - t < 0) : szD l t = -1 := if_pos h
theorem szD_pos {l t : Int} (h : ¬ l - t < 0) : szD l t = l - t := if_neg h
end Go.Proofs.YtdankjbkioepgaaGreat

namespace Go.Proofs.YtdankjbkioepgaaGreat
set_option linter.unusedVariables false
open Go.ChangeShapes Go.WideShapes Go.ChangeAt Go.RowKit

/-- The decimal digits of a number, ahead of what stands. -/
def digs (k : Nat) (acc : ByteArray) : ByteArray := if h : k = 0 then acc else digs (k / 10) (strOfNums [48 + (k : Int) % 10] ++ acc)
termination_by k
decreasing_by omega
/-- The mark of a number. -/
def markTx (k : Int) : ByteArray := if k ≤ 0 then ⟨#[109, 48]⟩ else ⟨#[109]⟩ ++ digs k.toNat ⟨#[]⟩

def mkStr (k0 : Int) (i : Nat) : ByteArray := markTx (k0 + i)
theorem grownBy_laterR {w : World} (x : Later w) (row : Option Nat) : w.grownBy x.w row := ⟨x.h.os, x.h.tape, x.h.output, x.h.size, fun i hi _ => x.h.block i hi⟩
end Go.Proofs.YtdankjbkioepgaaGreat

namespace Go.Proofs.YtdankjbkioepgaaGreat
set_option linter.unusedVariables false
open Go.ChangeShapes Go.WideShapes Go.ChangeAt Go.RowKit

def splice : List Value → Nat → List Value → List Value
  | cs, _, [] => cs
  | cs, o, v :: r => splice (cs.set o v) (o + 1) r
theorem Held.setCells {b : Nat} {T : TypeId} : ∀ (us : List Value) {w : World} {cs : List Value} (o : Nat), Held w b cs T → Held (w.setCells b o us) b (splice cs o us) T
  | [], _, _, _, h => h
  | v :: r, _, _, o, h => (h.set o v).setCells r (o + 1)
theorem Keeps.setCells {B b : Nat} (hb : b < B) : ∀ (us : List Value) {a w : World} (o : Nat), Keeps B a w → Keeps B a (w.setCells b o us)
  | [], _, _, _, h => h
  | v :: r, _, _, o, h => Keeps.setCells hb r (o + 1) (h.set' b o v hb)
theorem below_setCells {B b : Nat} (hb : B ≤ b) : ∀ (us : List Value) {a w : World} (o : Nat), Below B a w → Below B a (w.setCells b o us)
  | [], _, _, _, h => h
  | v :: r, _, _, o, h => below_setCells hb r (o + 1) (h.setCell hb v)
theorem Held.range {w : World} {b : Nat} {cs row : List Value} {T : TypeId} (h : Held w b cs T) {o n : Nat} (hr : (cs.drop o).take n = row) : w.rangeAt b o row := fun j v hv => by
  rw [h.cell, ← hv, ← hr]
  have hj : j < n := by
    have := (List.getElem?_eq_some_iff.1 hv).1
    rw [← hr] at this
    simp at this; omega
  rw [List.getElem?_take_of_lt hj, List.getElem?_drop]
theorem Held.there {w : World} {b : Nat} {cs : List Value} {T : TypeId} (h : Held w b cs T) {o n : Nat} (hn : o + n ≤ cs.length) : w.there b o n := fun j hj => by
  rw [h.cell, h.free, List.getElem?_eq_getElem (by omega)]
  exact ⟨rfl, rfl⟩
section
variable {P : Program} {ops : Array Oper} {rest : List Oper} {op : Oper} {a : Act} {w : World} {Q : Exit → Act → World → Prop}
theorem run_storeVar_held {b o ty : Nat} {v : Value} {us : List Value} (hv : v.cells.toList = us) (ht : w.there b o us.length) (hi : (P.info? ty).map (·.size) = some us.length) (h1 : ∀ u ∈ us, u.oneCell' = true) :
    (storeVar ty ⟨b, o, none⟩ v).run P w = .ok () (w.setCells b o us) := by
  have := run_storeCells_cells (P := P) b o us 0 w (fun j hj => by simpa using (ht j hj).1) (fun j hj => by simpa using (ht j hj).2) h1
  have hvs : v.cells.size = us.length := by rw [← hv, Array.length_toList]
  cases hq : P.info? ty with
  | none => simp [hq] at hi
  | some i =>
    have hs : us.length = i.size := by simp [hq] at hi; omega
    simp only [Nat.add_zero] at this
    simp [storeVar, sizeOf, typeInfo, hq, hvs, hs, hv, this]
/-- A store into a box known whole; the world behind it is given a name. -/
theorem stepStore (hgd : op.guard = none) (ty : TypeId) (x y : Operand) (ho : op.op = .store ty x y) (b o : Nat) (hx : a.eval x = .pointer (some ⟨b, o, none⟩)) {cs us cs2 : List Value} {T : TypeId} (H : Held w b cs T)
    (hv : (a.eval y).cells.toList = us) (hi : (P.info? ty).map (·.size) = some us.length) (h1 : us.all (·.oneCell') = true) (hl : o + us.length ≤ cs.length) (hcs : splice cs o us = cs2) {w0 : World} (g : Grows w0 w) (hb : w0.heap.size ≤ b)
    (h : ∀ z : Later w0, Held z.w b cs2 T → Keeps (b + 1) w z.w → wpList P ops Q rest (a.put op.dst undef) z.w) : wpList P ops Q (op :: rest) a w := by
  subst hcs
  refine wpList_plain hgd fun _ hK => ?_
  unfold Oper.wp execOp
  simp only [ho, hx, Instr.storeAt, Instr.sureAddr, Sem.run_bind, Sem.run_pure, Result.andThen_ok, run_storeVar_held hv (H.there hl) hi (fun u hu => List.all_eq_true.1 h1 u hu)]
  exact hK _ _ (h ⟨_, below_setCells hb us o g.out⟩ (H.setCells us o) (Keeps.setCells (by omega) us o (Keeps.same _ _)))
/-- A load of many cells out of a box known whole. -/
theorem stepLoad (hgd : op.guard = none) (ty : TypeId) (x : Operand) (ho : op.op = .load ty x) (b o : Nat) (hx : a.eval x = .pointer (some ⟨b, o, none⟩)) {cs row : List Value} {T : TypeId} (H : Held w b cs T)
    (d : TypeDesc) (hu : P.underlying ty = some d) (hd : d.isRow = true) (hi : (P.info? ty).map (·.size) = some row.length) (hr : (cs.drop o).take row.length = row)
    (h : wpList P ops Q rest (a.put op.dst (.agg row.toArray)) w) : wpList P ops Q (op :: rest) a w :=
  wpList_load_mid hgd ty x ho b o hx row d (H.range hr) hu hd hi h
theorem results_cell {fn : Func} {p t : Nat} (hf : fn.results = #[.cell p t]) {tmps : Array Value} {b : Nat} (hp : tmps.getD p undef = .pointer (some ⟨b, 0, none⟩)) {cs : List Value} {T : TypeId} (H : Held w b cs T)
    (d : TypeDesc) (hu : P.underlying t = some d) (hd : d.isRow = true) (hi : (P.info? t).map (·.size) = some cs.length) : (results fn tmps).run P w = .ok (.agg cs.toArray) w := by
  have := run_loadVar_mid w b 0 t cs d (H.range (o := 0) (n := cs.length) (by simp)) hu hd hi
  have hp2 : tmps[p]?.getD undef = .pointer (some ⟨b, 0, none⟩) := by rw [← hp]; simp [Array.getD_eq_getD_getElem?]
  simp [results, hf, hp2, asAddr, this]
end
end Go.Proofs.YtdankjbkioepgaaGreat

namespace Go.Proofs.YtdankjbkioepgaaGreat
set_option linter.unusedVariables false
open Go.ChangeShapes Go.WideShapes Go.ChangeAt Go.RowKit

theorem RdS.atInt {B : Nat} {w : World} {a : Option Addr} {c : Nat} {l : List Int} (h : RdS B w a c l) {k : Nat} (hk : k < l.length) :
    ∃ b off x, a = some ⟨b, off, none⟩ ∧ LtN b w.heap.size ∧ Hid (l.drop k = x :: l.drop (k + 1)) ∧ i64 x ∧ (∀ (W : World) [Grows w W], W.cell? ⟨b, off + k, none⟩ = some (.int .i64 x)) := by
  obtain ⟨b, off, x, vs, h0, h1, h2, ⟨rfl, q⟩, hc⟩ := h.at hk
  have := hc 0 _ rfl
  rw [show off + k * Enc.size Int + 0 = off + k from by rw [show Enc.size Int = 1 from rfl]; omega] at this
  exact ⟨b, off, x, h0, h1, h2, q, cell_grown h1.out this⟩

theorem RdS.atBool {B : Nat} {w : World} {a : Option Addr} {c : Nat} {l : List Bool} (h : RdS B w a c l) {k : Nat} (hk : k < l.length) :
    ∃ b off x, a = some ⟨b, off, none⟩ ∧ LtN b w.heap.size ∧ Hid (l.drop k = x :: l.drop (k + 1)) ∧ (∀ (W : World) [Grows w W], W.cell? ⟨b, off + k, none⟩ = some (.bool x)) := by
  obtain ⟨b, off, x, vs, h0, h1, h2, rfl, hc⟩ := h.at hk
  have := hc 0 _ rfl
  rw [show off + k * Enc.size Bool + 0 = off + k from by rw [show Enc.size Bool = 1 from rfl]; omega] at this
  exact ⟨b, off, x, h0, h1, h2, cell_grown h1.out this⟩

theorem RdS.atStr {B : Nat} {w : World} {a : Option Addr} {c : Nat} {l : List ByteArray} (h : RdS B w a c l) {k : Nat} (hk : k < l.length) :
    ∃ b off x, a = some ⟨b, off, none⟩ ∧ LtN b w.heap.size ∧ Hid (l.drop k = x :: l.drop (k + 1)) ∧ x.size ≤ 9223372036854775807 ∧ (∀ (W : World) [Grows w W], W.cell? ⟨b, off + k, none⟩ = some (.string x)) := by
  obtain ⟨b, off, x, vs, h0, h1, h2, ⟨rfl, q⟩, hc⟩ := h.at hk
  have := hc 0 _ rfl
  rw [show off + k * Enc.size ByteArray + 0 = off + k from by rw [show Enc.size ByteArray = 1 from rfl]; omega] at this
  exact ⟨b, off, x, h0, h1, h2, q, cell_grown h1.out this⟩

structure TChannel where
  Seed : Int
  Burst : Int
  Loss : Int

def okDTChannel (x : TChannel) : Prop := i64 x.Seed ∧ i64 x.Burst ∧ i64 x.Loss ∧ True

instance : Enc TChannel where
  size := 3
  Rd B w vs x := vs = [.int .i64 x.Seed, .int .i64 x.Burst, .int .i64 x.Loss] ∧ okDTChannel x
  len := by rintro _ _ _ _ ⟨rfl, hok⟩; rfl
  keep := by rintro _ _ _ _ _ ⟨rfl, hok⟩ g; exact ⟨rfl, hok⟩
  mono := by rintro _ _ _ _ _ ⟨rfl, hok⟩ g; exact ⟨rfl, hok⟩
  tot x := 0
  tot_nonneg x := by exact Int.le_refl _

structure TPacker where
  Channel : Int
  Count : Int
  Rest : ByteArray
  Starts : List Int

def okDTPacker (x : TPacker) : Prop := i64 x.Channel ∧ i64 x.Count ∧ x.Rest.size ≤ 9223372036854775807 ∧ True

instance : Enc TPacker where
  size := 4
  Rd B w vs x := ∃ (a0 : Option Addr) (c0 : Nat), vs = [.int .i64 x.Channel, .int .i64 x.Count, .string x.Rest, .slice a0 x.Starts.length c0] ∧ RdS B w a0 c0 x.Starts ∧ okDTPacker x
  len := by rintro _ _ _ _ ⟨a0, c0, rfl, q0, hok⟩; rfl
  keep := by rintro _ _ _ _ _ ⟨a0, c0, rfl, q0, hok⟩ g; exact ⟨a0, c0, rfl, q0.keep g, hok⟩
  mono := by rintro _ _ _ _ _ ⟨a0, c0, rfl, q0, hok⟩ g; exact ⟨a0, c0, rfl, q0.mono g, hok⟩
  tot x := (x.Rest.size : Int) + totL x.Starts
  tot_nonneg x := by have h0 := totL_nonneg x.Starts; omega

structure TUnpacker where
  Channel : Int
  Next : Int
  Synced : Bool
  Rest : ByteArray
  Lost : Int

def okDTUnpacker (x : TUnpacker) : Prop := i64 x.Channel ∧ i64 x.Next ∧ x.Rest.size ≤ 9223372036854775807 ∧ i64 x.Lost ∧ True

instance : Enc TUnpacker where
  size := 5
  Rd B w vs x := vs = [.int .i64 x.Channel, .int .i64 x.Next, .bool x.Synced, .string x.Rest, .int .i64 x.Lost] ∧ okDTUnpacker x
  len := by rintro _ _ _ _ ⟨rfl, hok⟩; rfl
  keep := by rintro _ _ _ _ _ ⟨rfl, hok⟩ g; exact ⟨rfl, hok⟩
  mono := by rintro _ _ _ _ _ ⟨rfl, hok⟩ g; exact ⟨rfl, hok⟩
  tot x := (x.Rest.size : Int)
  tot_nonneg x := by omega

structure TSent where
  Seq : Int
  Data : ByteArray

def okDTSent (x : TSent) : Prop := i64 x.Seq ∧ x.Data.size ≤ 9223372036854775807 ∧ True

instance : Enc TSent where
  size := 2
  Rd B w vs x := vs = [.int .i64 x.Seq, .string x.Data] ∧ okDTSent x
  len := by rintro _ _ _ _ ⟨rfl, hok⟩; rfl
  keep := by rintro _ _ _ _ _ ⟨rfl, hok⟩ g; exact ⟨rfl, hok⟩
  mono := by rintro _ _ _ _ _ ⟨rfl, hok⟩ g; exact ⟨rfl, hok⟩
  tot x := (x.Data.size : Int)
  tot_nonneg x := by omega

theorem RdS.atTSent {B : Nat} {w : World} {a : Option Addr} {c : Nat} {l : List TSent} (h : RdS B w a c l) {k : Nat} (hk : k < l.length) :
    ∃ b off x, a = some ⟨b, off, none⟩ ∧ LtN b w.heap.size ∧ Hid (l.drop k = x :: l.drop (k + 1)) ∧ okDTSent x ∧ (∀ (W : World) [Grows w W], W.cell? ⟨b, off + k * 2, none⟩ = some (.int .i64 x.Seq)) ∧ (∀ (W : World) [Grows w W], W.cell? ⟨b, off + k * 2 + 1, none⟩ = some (.string x.Data)) := by
  obtain ⟨b, off, x, vs, h0, h1, h2, ⟨rfl, hok⟩, hc⟩ := h.at hk
  exact ⟨b, off, x, h0, h1, h2, hok, cell_grown h1.out (hc 0 _ rfl), cell_grown h1.out (hc 1 _ rfl)⟩

structure TSender where
  Next : Int
  Window : Int
  Waiting : List TSent
  Done : Int

def okDTSender (x : TSender) : Prop := i64 x.Next ∧ i64 x.Window ∧ i64 x.Done ∧ True

instance : Enc TSender where
  size := 4
  Rd B w vs x := ∃ (a0 : Option Addr) (c0 : Nat), vs = [.int .i64 x.Next, .int .i64 x.Window, .slice a0 x.Waiting.length c0, .int .i64 x.Done] ∧ RdS B w a0 c0 x.Waiting ∧ okDTSender x
  len := by rintro _ _ _ _ ⟨a0, c0, rfl, q0, hok⟩; rfl
  keep := by rintro _ _ _ _ _ ⟨a0, c0, rfl, q0, hok⟩ g; exact ⟨a0, c0, rfl, q0.keep g, hok⟩
  mono := by rintro _ _ _ _ _ ⟨a0, c0, rfl, q0, hok⟩ g; exact ⟨a0, c0, rfl, q0.mono g, hok⟩
  tot x := totL x.Waiting
  tot_nonneg x := by have h0 := totL_nonneg x.Waiting; omega

structure TReceiver where
  Expect : Int
  Locked : Bool
  Again : Bool
  Taken : Int

def okDTReceiver (x : TReceiver) : Prop := i64 x.Expect ∧ i64 x.Taken ∧ True

instance : Enc TReceiver where
  size := 4
  Rd B w vs x := vs = [.int .i64 x.Expect, .bool x.Locked, .bool x.Again, .int .i64 x.Taken] ∧ okDTReceiver x
  len := by rintro _ _ _ _ ⟨rfl, hok⟩; rfl
  keep := by rintro _ _ _ _ _ ⟨rfl, hok⟩ g; exact ⟨rfl, hok⟩
  mono := by rintro _ _ _ _ _ ⟨rfl, hok⟩ g; exact ⟨rfl, hok⟩
  tot x := 0
  tot_nonneg x := by exact Int.le_refl _

structure TNotice where
  Expect : Int
  Locked : Bool
  Again : Bool

def okDTNotice (x : TNotice) : Prop := i64 x.Expect ∧ True

instance : Enc TNotice where
  size := 3
  Rd B w vs x := vs = [.int .i64 x.Expect, .bool x.Locked, .bool x.Again] ∧ okDTNotice x
  len := by rintro _ _ _ _ ⟨rfl, hok⟩; rfl
  keep := by rintro _ _ _ _ _ ⟨rfl, hok⟩ g; exact ⟨rfl, hok⟩
  mono := by rintro _ _ _ _ _ ⟨rfl, hok⟩ g; exact ⟨rfl, hok⟩
  tot x := 0
  tot_nonneg x := by exact Int.le_refl _

structure TOrder where
  Kind : Int
  At : Int
  A : Int
  B : Int

def okDTOrder (x : TOrder) : Prop := i64 x.Kind ∧ i64 x.At ∧ i64 x.A ∧ i64 x.B ∧ True

instance : Enc TOrder where
  size := 4
  Rd B w vs x := vs = [.int .i64 x.Kind, .int .i64 x.At, .int .i64 x.A, .int .i64 x.B] ∧ okDTOrder x
  len := by rintro _ _ _ _ ⟨rfl, hok⟩; rfl
  keep := by rintro _ _ _ _ _ ⟨rfl, hok⟩ g; exact ⟨rfl, hok⟩
  mono := by rintro _ _ _ _ _ ⟨rfl, hok⟩ g; exact ⟨rfl, hok⟩
  tot x := 0
  tot_nonneg x := by exact Int.le_refl _

structure TRecord where
  Id : Int
  Priority : Int
  Time : Int
  Data : ByteArray

def okDTRecord (x : TRecord) : Prop := i64 x.Id ∧ i64 x.Priority ∧ i64 x.Time ∧ x.Data.size ≤ 9223372036854775807 ∧ True

instance : Enc TRecord where
  size := 4
  Rd B w vs x := vs = [.int .i64 x.Id, .int .i64 x.Priority, .int .i64 x.Time, .string x.Data] ∧ okDTRecord x
  len := by rintro _ _ _ _ ⟨rfl, hok⟩; rfl
  keep := by rintro _ _ _ _ _ ⟨rfl, hok⟩ g; exact ⟨rfl, hok⟩
  mono := by rintro _ _ _ _ _ ⟨rfl, hok⟩ g; exact ⟨rfl, hok⟩
  tot x := (x.Data.size : Int)
  tot_nonneg x := by omega

theorem RdS.atTRecord {B : Nat} {w : World} {a : Option Addr} {c : Nat} {l : List TRecord} (h : RdS B w a c l) {k : Nat} (hk : k < l.length) :
    ∃ b off x, a = some ⟨b, off, none⟩ ∧ LtN b w.heap.size ∧ Hid (l.drop k = x :: l.drop (k + 1)) ∧ okDTRecord x ∧ (∀ (W : World) [Grows w W], W.cell? ⟨b, off + k * 4, none⟩ = some (.int .i64 x.Id)) ∧ (∀ (W : World) [Grows w W], W.cell? ⟨b, off + k * 4 + 1, none⟩ = some (.int .i64 x.Priority)) ∧ (∀ (W : World) [Grows w W], W.cell? ⟨b, off + k * 4 + 2, none⟩ = some (.int .i64 x.Time)) ∧ (∀ (W : World) [Grows w W], W.cell? ⟨b, off + k * 4 + 3, none⟩ = some (.string x.Data)) := by
  obtain ⟨b, off, x, vs, h0, h1, h2, ⟨rfl, hok⟩, hc⟩ := h.at hk
  exact ⟨b, off, x, h0, h1, h2, hok, cell_grown h1.out (hc 0 _ rfl), cell_grown h1.out (hc 1 _ rfl), cell_grown h1.out (hc 2 _ rfl), cell_grown h1.out (hc 3 _ rfl)⟩

structure TRecorder where
  Room : Int
  Records : List TRecord
  Dropped : List Int

def okDTRecorder (x : TRecorder) : Prop := i64 x.Room ∧ True

instance : Enc TRecorder where
  size := 3
  Rd B w vs x := ∃ (a0 : Option Addr) (c0 : Nat), ∃ (a1 : Option Addr) (c1 : Nat), vs = [.int .i64 x.Room, .slice a0 x.Records.length c0, .slice a1 x.Dropped.length c1] ∧ RdS B w a0 c0 x.Records ∧ RdS B w a1 c1 x.Dropped ∧ okDTRecorder x
  len := by rintro _ _ _ _ ⟨a0, c0, a1, c1, rfl, q0, q1, hok⟩; rfl
  keep := by rintro _ _ _ _ _ ⟨a0, c0, a1, c1, rfl, q0, q1, hok⟩ g; exact ⟨a0, c0, a1, c1, rfl, q0.keep g, q1.keep g, hok⟩
  mono := by rintro _ _ _ _ _ ⟨a0, c0, a1, c1, rfl, q0, q1, hok⟩ g; exact ⟨a0, c0, a1, c1, rfl, q0.mono g, q1.mono g, hok⟩
  tot x := totL x.Records + totL x.Dropped
  tot_nonneg x := by have h0 := totL_nonneg x.Records; have h1 := totL_nonneg x.Dropped; omega

structure TLimit where
  Param : Int
  Low : Int
  High : Int

def okDTLimit (x : TLimit) : Prop := i64 x.Param ∧ i64 x.Low ∧ i64 x.High ∧ True

instance : Enc TLimit where
  size := 3
  Rd B w vs x := vs = [.int .i64 x.Param, .int .i64 x.Low, .int .i64 x.High] ∧ okDTLimit x
  len := by rintro _ _ _ _ ⟨rfl, hok⟩; rfl
  keep := by rintro _ _ _ _ _ ⟨rfl, hok⟩ g; exact ⟨rfl, hok⟩
  mono := by rintro _ _ _ _ _ ⟨rfl, hok⟩ g; exact ⟨rfl, hok⟩
  tot x := 0
  tot_nonneg x := by exact Int.le_refl _

theorem RdS.atTLimit {B : Nat} {w : World} {a : Option Addr} {c : Nat} {l : List TLimit} (h : RdS B w a c l) {k : Nat} (hk : k < l.length) :
    ∃ b off x, a = some ⟨b, off, none⟩ ∧ LtN b w.heap.size ∧ Hid (l.drop k = x :: l.drop (k + 1)) ∧ okDTLimit x ∧ (∀ (W : World) [Grows w W], W.cell? ⟨b, off + k * 3, none⟩ = some (.int .i64 x.Param)) ∧ (∀ (W : World) [Grows w W], W.cell? ⟨b, off + k * 3 + 1, none⟩ = some (.int .i64 x.Low)) ∧ (∀ (W : World) [Grows w W], W.cell? ⟨b, off + k * 3 + 2, none⟩ = some (.int .i64 x.High)) := by
  obtain ⟨b, off, x, vs, h0, h1, h2, ⟨rfl, hok⟩, hc⟩ := h.at hk
  exact ⟨b, off, x, h0, h1, h2, hok, cell_grown h1.out (hc 0 _ rfl), cell_grown h1.out (hc 1 _ rfl), cell_grown h1.out (hc 2 _ rfl)⟩

structure TWaiting where
  Number : Int
  Order : TOrder

def okDTWaiting (x : TWaiting) : Prop := i64 x.Number ∧ okDTOrder x.Order ∧ True

instance : Enc TWaiting where
  size := 5
  Rd B w vs x := vs = [.int .i64 x.Number, .int .i64 x.Order.Kind, .int .i64 x.Order.At, .int .i64 x.Order.A, .int .i64 x.Order.B] ∧ okDTWaiting x
  len := by rintro _ _ _ _ ⟨rfl, hok⟩; rfl
  keep := by rintro _ _ _ _ _ ⟨rfl, hok⟩ g; exact ⟨rfl, hok⟩
  mono := by rintro _ _ _ _ _ ⟨rfl, hok⟩ g; exact ⟨rfl, hok⟩
  tot x := 0
  tot_nonneg x := by exact Int.le_refl _

theorem RdS.atTWaiting {B : Nat} {w : World} {a : Option Addr} {c : Nat} {l : List TWaiting} (h : RdS B w a c l) {k : Nat} (hk : k < l.length) :
    ∃ b off x, a = some ⟨b, off, none⟩ ∧ LtN b w.heap.size ∧ Hid (l.drop k = x :: l.drop (k + 1)) ∧ okDTWaiting x ∧ (∀ (W : World) [Grows w W], W.cell? ⟨b, off + k * 5, none⟩ = some (.int .i64 x.Number)) ∧ (∀ (W : World) [Grows w W], W.cell? ⟨b, off + k * 5 + 1, none⟩ = some (.int .i64 x.Order.Kind)) ∧ (∀ (W : World) [Grows w W], W.cell? ⟨b, off + k * 5 + 2, none⟩ = some (.int .i64 x.Order.At)) ∧ (∀ (W : World) [Grows w W], W.cell? ⟨b, off + k * 5 + 3, none⟩ = some (.int .i64 x.Order.A)) ∧ (∀ (W : World) [Grows w W], W.cell? ⟨b, off + k * 5 + 4, none⟩ = some (.int .i64 x.Order.B)) := by
  obtain ⟨b, off, x, vs, h0, h1, h2, ⟨rfl, hok⟩, hc⟩ := h.at hk
  exact ⟨b, off, x, h0, h1, h2, hok, cell_grown h1.out (hc 0 _ rfl), cell_grown h1.out (hc 1 _ rfl), cell_grown h1.out (hc 2 _ rfl), cell_grown h1.out (hc 3 _ rfl), cell_grown h1.out (hc 4 _ rfl)⟩

structure TDone where
  Number : Int
  Time : Int
  Result : Int

def okDTDone (x : TDone) : Prop := i64 x.Number ∧ i64 x.Time ∧ i64 x.Result ∧ True

instance : Enc TDone where
  size := 3
  Rd B w vs x := vs = [.int .i64 x.Number, .int .i64 x.Time, .int .i64 x.Result] ∧ okDTDone x
  len := by rintro _ _ _ _ ⟨rfl, hok⟩; rfl
  keep := by rintro _ _ _ _ _ ⟨rfl, hok⟩ g; exact ⟨rfl, hok⟩
  mono := by rintro _ _ _ _ _ ⟨rfl, hok⟩ g; exact ⟨rfl, hok⟩
  tot x := 0
  tot_nonneg x := by exact Int.le_refl _

theorem RdS.atTDone {B : Nat} {w : World} {a : Option Addr} {c : Nat} {l : List TDone} (h : RdS B w a c l) {k : Nat} (hk : k < l.length) :
    ∃ b off x, a = some ⟨b, off, none⟩ ∧ LtN b w.heap.size ∧ Hid (l.drop k = x :: l.drop (k + 1)) ∧ okDTDone x ∧ (∀ (W : World) [Grows w W], W.cell? ⟨b, off + k * 3, none⟩ = some (.int .i64 x.Number)) ∧ (∀ (W : World) [Grows w W], W.cell? ⟨b, off + k * 3 + 1, none⟩ = some (.int .i64 x.Time)) ∧ (∀ (W : World) [Grows w W], W.cell? ⟨b, off + k * 3 + 2, none⟩ = some (.int .i64 x.Result)) := by
  obtain ⟨b, off, x, vs, h0, h1, h2, ⟨rfl, hok⟩, hc⟩ := h.at hk
  exact ⟨b, off, x, h0, h1, h2, hok, cell_grown h1.out (hc 0 _ rfl), cell_grown h1.out (hc 1 _ rfl), cell_grown h1.out (hc 2 _ rfl)⟩

structure TBoard where
  Clock : Int
  Params : List Int
  Safe : Bool
  Limits : List TLimit
  Orders : List TWaiting
  Done : List TDone
  Recorder : TRecorder
  Made : Int
  Taken : Int
  Asked : List Int

def okDTBoard (x : TBoard) : Prop := i64 x.Clock ∧ okDTRecorder x.Recorder ∧ i64 x.Made ∧ i64 x.Taken ∧ True

structure TBoardA where
  a0 : Option Addr
  c0 : Nat
  a1 : Option Addr
  c1 : Nat
  a2 : Option Addr
  c2 : Nat
  a3 : Option Addr
  c3 : Nat
  a4 : Option Addr
  c4 : Nat
  a5 : Option Addr
  c5 : Nat
  a6 : Option Addr
  c6 : Nat

structure TBoardF (B : Nat) (w : World) (A : TBoardA) (x : TBoard) : Prop where
  q0 : RdS B w A.a0 A.c0 x.Params
  q1 : RdS B w A.a1 A.c1 x.Limits
  q2 : RdS B w A.a2 A.c2 x.Orders
  q3 : RdS B w A.a3 A.c3 x.Done
  q4 : RdS B w A.a4 A.c4 x.Recorder.Records
  q5 : RdS B w A.a5 A.c5 x.Recorder.Dropped
  q6 : RdS B w A.a6 A.c6 x.Asked
  ok : okDTBoard x

theorem TBoardF.keep {B : Nat} {w w2 : World} {A : TBoardA} {x : TBoard} (h : TBoardF B w A x) (g : Keeps B w w2) : TBoardF B w2 A x := ⟨h.q0.keep g, h.q1.keep g, h.q2.keep g, h.q3.keep g, h.q4.keep g, h.q5.keep g, h.q6.keep g, h.ok⟩

theorem TBoardF.mono {B B2 : Nat} {w : World} {A : TBoardA} {x : TBoard} (h : TBoardF B w A x) (g : B2 ≤ B) : TBoardF B2 w A x := ⟨h.q0.mono g, h.q1.mono g, h.q2.mono g, h.q3.mono g, h.q4.mono g, h.q5.mono g, h.q6.mono g, h.ok⟩

instance : Enc TBoard where
  size := 12
  Rd B w vs x := ∃ A : TBoardA, vs = [.int .i64 x.Clock, .slice A.a0 x.Params.length A.c0, .bool x.Safe, .slice A.a1 x.Limits.length A.c1, .slice A.a2 x.Orders.length A.c2, .slice A.a3 x.Done.length A.c3, .int .i64 x.Recorder.Room, .slice A.a4 x.Recorder.Records.length A.c4, .slice A.a5 x.Recorder.Dropped.length A.c5, .int .i64 x.Made, .int .i64 x.Taken, .slice A.a6 x.Asked.length A.c6] ∧ TBoardF B w A x
  len := by rintro _ _ _ _ ⟨A, h, F⟩; rw [h]; rfl
  keep := by rintro _ _ _ _ _ ⟨A, h, F⟩ g; exact ⟨A, h, F.keep g⟩
  mono := by rintro _ _ _ _ _ ⟨A, h, F⟩ g; exact ⟨A, h, F.mono g⟩
  tot x := totL x.Params + totL x.Limits + totL x.Orders + totL x.Done + Enc.tot x.Recorder + totL x.Asked
  tot_nonneg x := by have h0 := totL_nonneg x.Params; have h1 := totL_nonneg x.Limits; have h2 := totL_nonneg x.Orders; have h3 := totL_nonneg x.Done; have h4 := Enc.tot_nonneg x.Recorder; have h5 := totL_nonneg x.Asked; omega

structure TFileIn where
  File : Int
  Size : Int
  Check : Int
  Parts : List ByteArray

def okDTFileIn (x : TFileIn) : Prop := i64 x.File ∧ i64 x.Size ∧ i64 x.Check ∧ True

instance : Enc TFileIn where
  size := 4
  Rd B w vs x := ∃ (a0 : Option Addr) (c0 : Nat), vs = [.int .i64 x.File, .int .i64 x.Size, .int .i64 x.Check, .slice a0 x.Parts.length c0] ∧ RdS B w a0 c0 x.Parts ∧ okDTFileIn x
  len := by rintro _ _ _ _ ⟨a0, c0, rfl, q0, hok⟩; rfl
  keep := by rintro _ _ _ _ _ ⟨a0, c0, rfl, q0, hok⟩ g; exact ⟨a0, c0, rfl, q0.keep g, hok⟩
  mono := by rintro _ _ _ _ _ ⟨a0, c0, rfl, q0, hok⟩ g; exact ⟨a0, c0, rfl, q0.mono g, hok⟩
  tot x := totL x.Parts
  tot_nonneg x := by have h0 := totL_nonneg x.Parts; omega

theorem RdS.atTFileIn {B : Nat} {w : World} {a : Option Addr} {c : Nat} {l : List TFileIn} (h : RdS B w a c l) {k : Nat} (hk : k < l.length) :
    ∃ b off x, ∃ (a0 : Option Addr) (c0 : Nat), a = some ⟨b, off, none⟩ ∧ LtN b w.heap.size ∧ Hid (l.drop k = x :: l.drop (k + 1)) ∧ RdS B w a0 c0 x.Parts ∧ okDTFileIn x ∧ (∀ (W : World) [Grows w W], W.cell? ⟨b, off + k * 4, none⟩ = some (.int .i64 x.File)) ∧ (∀ (W : World) [Grows w W], W.cell? ⟨b, off + k * 4 + 1, none⟩ = some (.int .i64 x.Size)) ∧ (∀ (W : World) [Grows w W], W.cell? ⟨b, off + k * 4 + 2, none⟩ = some (.int .i64 x.Check)) ∧ (∀ (W : World) [Grows w W], W.cell? ⟨b, off + k * 4 + 3, none⟩ = some (.slice a0 x.Parts.length c0)) := by
  obtain ⟨b, off, x, vs, h0, h1, h2, ⟨a0, c0, rfl, q0, hok⟩, hc⟩ := h.at hk
  exact ⟨b, off, x, a0, c0, h0, h1, h2, q0, hok, cell_grown h1.out (hc 0 _ rfl), cell_grown h1.out (hc 1 _ rfl), cell_grown h1.out (hc 2 _ rfl), cell_grown h1.out (hc 3 _ rfl)⟩

structure TFileOut where
  File : Int
  Data : ByteArray
  Queue : List Int
  Done : Bool

def okDTFileOut (x : TFileOut) : Prop := i64 x.File ∧ x.Data.size ≤ 9223372036854775807 ∧ True

instance : Enc TFileOut where
  size := 4
  Rd B w vs x := ∃ (a0 : Option Addr) (c0 : Nat), vs = [.int .i64 x.File, .string x.Data, .slice a0 x.Queue.length c0, .bool x.Done] ∧ RdS B w a0 c0 x.Queue ∧ okDTFileOut x
  len := by rintro _ _ _ _ ⟨a0, c0, rfl, q0, hok⟩; rfl
  keep := by rintro _ _ _ _ _ ⟨a0, c0, rfl, q0, hok⟩ g; exact ⟨a0, c0, rfl, q0.keep g, hok⟩
  mono := by rintro _ _ _ _ _ ⟨a0, c0, rfl, q0, hok⟩ g; exact ⟨a0, c0, rfl, q0.mono g, hok⟩
  tot x := (x.Data.size : Int) + totL x.Queue
  tot_nonneg x := by have h0 := totL_nonneg x.Queue; omega

theorem RdS.atTFileOut {B : Nat} {w : World} {a : Option Addr} {c : Nat} {l : List TFileOut} (h : RdS B w a c l) {k : Nat} (hk : k < l.length) :
    ∃ b off x, ∃ (a0 : Option Addr) (c0 : Nat), a = some ⟨b, off, none⟩ ∧ LtN b w.heap.size ∧ Hid (l.drop k = x :: l.drop (k + 1)) ∧ RdS B w a0 c0 x.Queue ∧ okDTFileOut x ∧ (∀ (W : World) [Grows w W], W.cell? ⟨b, off + k * 4, none⟩ = some (.int .i64 x.File)) ∧ (∀ (W : World) [Grows w W], W.cell? ⟨b, off + k * 4 + 1, none⟩ = some (.string x.Data)) ∧ (∀ (W : World) [Grows w W], W.cell? ⟨b, off + k * 4 + 2, none⟩ = some (.slice a0 x.Queue.length c0)) ∧ (∀ (W : World) [Grows w W], W.cell? ⟨b, off + k * 4 + 3, none⟩ = some (.bool x.Done)) := by
  obtain ⟨b, off, x, vs, h0, h1, h2, ⟨a0, c0, rfl, q0, hok⟩, hc⟩ := h.at hk
  exact ⟨b, off, x, a0, c0, h0, h1, h2, q0, hok, cell_grown h1.out (hc 0 _ rfl), cell_grown h1.out (hc 1 _ rfl), cell_grown h1.out (hc 2 _ rfl), cell_grown h1.out (hc 3 _ rfl)⟩

structure TDrift where
  Rate : Int
  Offset : Int

def okDTDrift (x : TDrift) : Prop := i64 x.Rate ∧ i64 x.Offset ∧ True

instance : Enc TDrift where
  size := 2
  Rd B w vs x := vs = [.int .i64 x.Rate, .int .i64 x.Offset] ∧ okDTDrift x
  len := by rintro _ _ _ _ ⟨rfl, hok⟩; rfl
  keep := by rintro _ _ _ _ _ ⟨rfl, hok⟩ g; exact ⟨rfl, hok⟩
  mono := by rintro _ _ _ _ _ ⟨rfl, hok⟩ g; exact ⟨rfl, hok⟩
  tot x := 0
  tot_nonneg x := by exact Int.le_refl _

def okDPair (x : Pair) : Prop := i64 x.Board ∧ i64 x.True ∧ True

instance : Enc Pair where
  size := 2
  Rd B w vs x := vs = [.int .i64 x.Board, .int .i64 x.True] ∧ okDPair x
  len := by rintro _ _ _ _ ⟨rfl, hok⟩; rfl
  keep := by rintro _ _ _ _ _ ⟨rfl, hok⟩ g; exact ⟨rfl, hok⟩
  mono := by rintro _ _ _ _ _ ⟨rfl, hok⟩ g; exact ⟨rfl, hok⟩
  tot x := 0
  tot_nonneg x := by exact Int.le_refl _

theorem RdS.atPair {B : Nat} {w : World} {a : Option Addr} {c : Nat} {l : List Pair} (h : RdS B w a c l) {k : Nat} (hk : k < l.length) :
    ∃ b off x, a = some ⟨b, off, none⟩ ∧ LtN b w.heap.size ∧ Hid (l.drop k = x :: l.drop (k + 1)) ∧ okDPair x ∧ (∀ (W : World) [Grows w W], W.cell? ⟨b, off + k * 2, none⟩ = some (.int .i64 x.Board)) ∧ (∀ (W : World) [Grows w W], W.cell? ⟨b, off + k * 2 + 1, none⟩ = some (.int .i64 x.True)) := by
  obtain ⟨b, off, x, vs, h0, h1, h2, ⟨rfl, hok⟩, hc⟩ := h.at hk
  exact ⟨b, off, x, h0, h1, h2, hok, cell_grown h1.out (hc 0 _ rfl), cell_grown h1.out (hc 1 _ rfl)⟩

structure TOrbit where
  Period : Int
  Start : Int
  Length : Int

def okDTOrbit (x : TOrbit) : Prop := i64 x.Period ∧ i64 x.Start ∧ i64 x.Length ∧ True

instance : Enc TOrbit where
  size := 3
  Rd B w vs x := vs = [.int .i64 x.Period, .int .i64 x.Start, .int .i64 x.Length] ∧ okDTOrbit x
  len := by rintro _ _ _ _ ⟨rfl, hok⟩; rfl
  keep := by rintro _ _ _ _ _ ⟨rfl, hok⟩ g; exact ⟨rfl, hok⟩
  mono := by rintro _ _ _ _ _ ⟨rfl, hok⟩ g; exact ⟨rfl, hok⟩
  tot x := 0
  tot_nonneg x := by exact Int.le_refl _

def okDSlot (x : Slot) : Prop := i64 x.Time ∧ i64 x.Id ∧ True

instance : Enc Slot where
  size := 2
  Rd B w vs x := vs = [.int .i64 x.Time, .int .i64 x.Id] ∧ okDSlot x
  len := by rintro _ _ _ _ ⟨rfl, hok⟩; rfl
  keep := by rintro _ _ _ _ _ ⟨rfl, hok⟩ g; exact ⟨rfl, hok⟩
  mono := by rintro _ _ _ _ _ ⟨rfl, hok⟩ g; exact ⟨rfl, hok⟩
  tot x := 0
  tot_nonneg x := by exact Int.le_refl _

theorem RdS.atSlot {B : Nat} {w : World} {a : Option Addr} {c : Nat} {l : List Slot} (h : RdS B w a c l) {k : Nat} (hk : k < l.length) :
    ∃ b off x, a = some ⟨b, off, none⟩ ∧ LtN b w.heap.size ∧ Hid (l.drop k = x :: l.drop (k + 1)) ∧ okDSlot x ∧ (∀ (W : World) [Grows w W], W.cell? ⟨b, off + k * 2, none⟩ = some (.int .i64 x.Time)) ∧ (∀ (W : World) [Grows w W], W.cell? ⟨b, off + k * 2 + 1, none⟩ = some (.int .i64 x.Id)) := by
  obtain ⟨b, off, x, vs, h0, h1, h2, ⟨rfl, hok⟩, hc⟩ := h.at hk
  exact ⟨b, off, x, h0, h1, h2, hok, cell_grown h1.out (hc 0 _ rfl), cell_grown h1.out (hc 1 _ rfl)⟩

structure TFlight where
  At : Int
  Data : ByteArray

def okDTFlight (x : TFlight) : Prop := i64 x.At ∧ x.Data.size ≤ 9223372036854775807 ∧ True

instance : Enc TFlight where
  size := 2
  Rd B w vs x := vs = [.int .i64 x.At, .string x.Data] ∧ okDTFlight x
  len := by rintro _ _ _ _ ⟨rfl, hok⟩; rfl
  keep := by rintro _ _ _ _ _ ⟨rfl, hok⟩ g; exact ⟨rfl, hok⟩
  mono := by rintro _ _ _ _ _ ⟨rfl, hok⟩ g; exact ⟨rfl, hok⟩
  tot x := (x.Data.size : Int)
  tot_nonneg x := by omega

theorem RdS.atTFlight {B : Nat} {w : World} {a : Option Addr} {c : Nat} {l : List TFlight} (h : RdS B w a c l) {k : Nat} (hk : k < l.length) :
    ∃ b off x, a = some ⟨b, off, none⟩ ∧ LtN b w.heap.size ∧ Hid (l.drop k = x :: l.drop (k + 1)) ∧ okDTFlight x ∧ (∀ (W : World) [Grows w W], W.cell? ⟨b, off + k * 2, none⟩ = some (.int .i64 x.At)) ∧ (∀ (W : World) [Grows w W], W.cell? ⟨b, off + k * 2 + 1, none⟩ = some (.string x.Data)) := by
  obtain ⟨b, off, x, vs, h0, h1, h2, ⟨rfl, hok⟩, hc⟩ := h.at hk
  exact ⟨b, off, x, h0, h1, h2, hok, cell_grown h1.out (hc 0 _ rfl), cell_grown h1.out (hc 1 _ rfl)⟩

structure TGround where
  Offers : List ByteArray
  Sender : TSender
  Notice : TNotice
  Unpacker : TUnpacker
  Pairs : List Pair
  Records : List TRecord
  Files : List TFileIn
  Told : List Bool

def okDTGround (x : TGround) : Prop := okDTSender x.Sender ∧ okDTNotice x.Notice ∧ okDTUnpacker x.Unpacker ∧ True

structure TGroundA where
  a0 : Option Addr
  c0 : Nat
  a1 : Option Addr
  c1 : Nat
  a2 : Option Addr
  c2 : Nat
  a3 : Option Addr
  c3 : Nat
  a4 : Option Addr
  c4 : Nat
  a5 : Option Addr
  c5 : Nat

structure TGroundF (B : Nat) (w : World) (A : TGroundA) (x : TGround) : Prop where
  q0 : RdS B w A.a0 A.c0 x.Offers
  q1 : RdS B w A.a1 A.c1 x.Sender.Waiting
  q2 : RdS B w A.a2 A.c2 x.Pairs
  q3 : RdS B w A.a3 A.c3 x.Records
  q4 : RdS B w A.a4 A.c4 x.Files
  q5 : RdS B w A.a5 A.c5 x.Told
  ok : okDTGround x

theorem TGroundF.keep {B : Nat} {w w2 : World} {A : TGroundA} {x : TGround} (h : TGroundF B w A x) (g : Keeps B w w2) : TGroundF B w2 A x := ⟨h.q0.keep g, h.q1.keep g, h.q2.keep g, h.q3.keep g, h.q4.keep g, h.q5.keep g, h.ok⟩

theorem TGroundF.mono {B B2 : Nat} {w : World} {A : TGroundA} {x : TGround} (h : TGroundF B w A x) (g : B2 ≤ B) : TGroundF B2 w A x := ⟨h.q0.mono g, h.q1.mono g, h.q2.mono g, h.q3.mono g, h.q4.mono g, h.q5.mono g, h.ok⟩

instance : Enc TGround where
  size := 17
  Rd B w vs x := ∃ A : TGroundA, vs = [.slice A.a0 x.Offers.length A.c0, .int .i64 x.Sender.Next, .int .i64 x.Sender.Window, .slice A.a1 x.Sender.Waiting.length A.c1, .int .i64 x.Sender.Done, .int .i64 x.Notice.Expect, .bool x.Notice.Locked, .bool x.Notice.Again, .int .i64 x.Unpacker.Channel, .int .i64 x.Unpacker.Next, .bool x.Unpacker.Synced, .string x.Unpacker.Rest, .int .i64 x.Unpacker.Lost, .slice A.a2 x.Pairs.length A.c2, .slice A.a3 x.Records.length A.c3, .slice A.a4 x.Files.length A.c4, .slice A.a5 x.Told.length A.c5] ∧ TGroundF B w A x
  len := by rintro _ _ _ _ ⟨A, h, F⟩; rw [h]; rfl
  keep := by rintro _ _ _ _ _ ⟨A, h, F⟩ g; exact ⟨A, h, F.keep g⟩
  mono := by rintro _ _ _ _ _ ⟨A, h, F⟩ g; exact ⟨A, h, F.mono g⟩
  tot x := totL x.Offers + Enc.tot x.Sender + Enc.tot x.Unpacker + totL x.Pairs + totL x.Records + totL x.Files + totL x.Told
  tot_nonneg x := by have h0 := totL_nonneg x.Offers; have h1 := Enc.tot_nonneg x.Sender; have h2 := Enc.tot_nonneg x.Unpacker; have h3 := totL_nonneg x.Pairs; have h4 := totL_nonneg x.Records; have h5 := totL_nonneg x.Files; have h6 := totL_nonneg x.Told; omega

structure TSpace where
  Receiver : TReceiver
  Board : TBoard
  Packer : TPacker
  Seq : Int
  Files : List ByteArray
  Outs : List TFileOut
  Begun : Int
  Sent : List TRecord

def okDTSpace (x : TSpace) : Prop := okDTReceiver x.Receiver ∧ okDTBoard x.Board ∧ okDTPacker x.Packer ∧ i64 x.Seq ∧ i64 x.Begun ∧ True

structure TSpaceA where
  a0 : Option Addr
  c0 : Nat
  a1 : Option Addr
  c1 : Nat
  a2 : Option Addr
  c2 : Nat
  a3 : Option Addr
  c3 : Nat
  a4 : Option Addr
  c4 : Nat
  a5 : Option Addr
  c5 : Nat
  a6 : Option Addr
  c6 : Nat
  a7 : Option Addr
  c7 : Nat
  a8 : Option Addr
  c8 : Nat
  a9 : Option Addr
  c9 : Nat
  a10 : Option Addr
  c10 : Nat

structure TSpaceF (B : Nat) (w : World) (A : TSpaceA) (x : TSpace) : Prop where
  q0 : RdS B w A.a0 A.c0 x.Board.Params
  q1 : RdS B w A.a1 A.c1 x.Board.Limits
  q2 : RdS B w A.a2 A.c2 x.Board.Orders
  q3 : RdS B w A.a3 A.c3 x.Board.Done
  q4 : RdS B w A.a4 A.c4 x.Board.Recorder.Records
  q5 : RdS B w A.a5 A.c5 x.Board.Recorder.Dropped
  q6 : RdS B w A.a6 A.c6 x.Board.Asked
  q7 : RdS B w A.a7 A.c7 x.Packer.Starts
  q8 : RdS B w A.a8 A.c8 x.Files
  q9 : RdS B w A.a9 A.c9 x.Outs
  q10 : RdS B w A.a10 A.c10 x.Sent
  ok : okDTSpace x

theorem TSpaceF.keep {B : Nat} {w w2 : World} {A : TSpaceA} {x : TSpace} (h : TSpaceF B w A x) (g : Keeps B w w2) : TSpaceF B w2 A x := ⟨h.q0.keep g, h.q1.keep g, h.q2.keep g, h.q3.keep g, h.q4.keep g, h.q5.keep g, h.q6.keep g, h.q7.keep g, h.q8.keep g, h.q9.keep g, h.q10.keep g, h.ok⟩

theorem TSpaceF.mono {B B2 : Nat} {w : World} {A : TSpaceA} {x : TSpace} (h : TSpaceF B w A x) (g : B2 ≤ B) : TSpaceF B2 w A x := ⟨h.q0.mono g, h.q1.mono g, h.q2.mono g, h.q3.mono g, h.q4.mono g, h.q5.mono g, h.q6.mono g, h.q7.mono g, h.q8.mono g, h.q9.mono g, h.q10.mono g, h.ok⟩

instance : Enc TSpace where
  size := 25
  Rd B w vs x := ∃ A : TSpaceA, vs = [.int .i64 x.Receiver.Expect, .bool x.Receiver.Locked, .bool x.Receiver.Again, .int .i64 x.Receiver.Taken, .int .i64 x.Board.Clock, .slice A.a0 x.Board.Params.length A.c0, .bool x.Board.Safe, .slice A.a1 x.Board.Limits.length A.c1, .slice A.a2 x.Board.Orders.length A.c2, .slice A.a3 x.Board.Done.length A.c3, .int .i64 x.Board.Recorder.Room, .slice A.a4 x.Board.Recorder.Records.length A.c4, .slice A.a5 x.Board.Recorder.Dropped.length A.c5, .int .i64 x.Board.Made, .int .i64 x.Board.Taken, .slice A.a6 x.Board.Asked.length A.c6, .int .i64 x.Packer.Channel, .int .i64 x.Packer.Count, .string x.Packer.Rest, .slice A.a7 x.Packer.Starts.length A.c7, .int .i64 x.Seq, .slice A.a8 x.Files.length A.c8, .slice A.a9 x.Outs.length A.c9, .int .i64 x.Begun, .slice A.a10 x.Sent.length A.c10] ∧ TSpaceF B w A x
  len := by rintro _ _ _ _ ⟨A, h, F⟩; rw [h]; rfl
  keep := by rintro _ _ _ _ _ ⟨A, h, F⟩ g; exact ⟨A, h, F.keep g⟩
  mono := by rintro _ _ _ _ _ ⟨A, h, F⟩ g; exact ⟨A, h, F.mono g⟩
  tot x := Enc.tot x.Board + Enc.tot x.Packer + totL x.Files + totL x.Outs + totL x.Sent
  tot_nonneg x := by have h0 := Enc.tot_nonneg x.Board; have h1 := Enc.tot_nonneg x.Packer; have h2 := totL_nonneg x.Files; have h3 := totL_nonneg x.Outs; have h4 := totL_nonneg x.Sent; omega

structure TMission where
  Time : Int
  Light : Int
  Drift : TDrift
  Orbit : TOrbit
  Plan : List Slot
  Up : TChannel
  Down : TChannel
  Ups : List TFlight
  Downs : List TFlight
  Ground : TGround
  Space : TSpace
  Offered : List ByteArray
  Took : List ByteArray
  Bad : Int

def okDTMission (x : TMission) : Prop := i64 x.Time ∧ i64 x.Light ∧ okDTDrift x.Drift ∧ okDTOrbit x.Orbit ∧ okDTChannel x.Up ∧ okDTChannel x.Down ∧ okDTGround x.Ground ∧ okDTSpace x.Space ∧ i64 x.Bad ∧ True

structure TMissionA where
  a0 : Option Addr
  c0 : Nat
  a1 : Option Addr
  c1 : Nat
  a2 : Option Addr
  c2 : Nat
  a3 : Option Addr
  c3 : Nat
  a4 : Option Addr
  c4 : Nat
  a5 : Option Addr
  c5 : Nat
  a6 : Option Addr
  c6 : Nat
  a7 : Option Addr
  c7 : Nat
  a8 : Option Addr
  c8 : Nat
  a9 : Option Addr
  c9 : Nat
  a10 : Option Addr
  c10 : Nat
  a11 : Option Addr
  c11 : Nat
  a12 : Option Addr
  c12 : Nat
  a13 : Option Addr
  c13 : Nat
  a14 : Option Addr
  c14 : Nat
  a15 : Option Addr
  c15 : Nat
  a16 : Option Addr
  c16 : Nat
  a17 : Option Addr
  c17 : Nat
  a18 : Option Addr
  c18 : Nat
  a19 : Option Addr
  c19 : Nat
  a20 : Option Addr
  c20 : Nat
  a21 : Option Addr
  c21 : Nat

structure TMissionF (B : Nat) (w : World) (A : TMissionA) (x : TMission) : Prop where
  q0 : RdS B w A.a0 A.c0 x.Plan
  q1 : RdS B w A.a1 A.c1 x.Ups
  q2 : RdS B w A.a2 A.c2 x.Downs
  q3 : RdS B w A.a3 A.c3 x.Ground.Offers
  q4 : RdS B w A.a4 A.c4 x.Ground.Sender.Waiting
  q5 : RdS B w A.a5 A.c5 x.Ground.Pairs
  q6 : RdS B w A.a6 A.c6 x.Ground.Records
  q7 : RdS B w A.a7 A.c7 x.Ground.Files
  q8 : RdS B w A.a8 A.c8 x.Ground.Told
  q9 : RdS B w A.a9 A.c9 x.Space.Board.Params
  q10 : RdS B w A.a10 A.c10 x.Space.Board.Limits
  q11 : RdS B w A.a11 A.c11 x.Space.Board.Orders
  q12 : RdS B w A.a12 A.c12 x.Space.Board.Done
  q13 : RdS B w A.a13 A.c13 x.Space.Board.Recorder.Records
  q14 : RdS B w A.a14 A.c14 x.Space.Board.Recorder.Dropped
  q15 : RdS B w A.a15 A.c15 x.Space.Board.Asked
  q16 : RdS B w A.a16 A.c16 x.Space.Packer.Starts
  q17 : RdS B w A.a17 A.c17 x.Space.Files
  q18 : RdS B w A.a18 A.c18 x.Space.Outs
  q19 : RdS B w A.a19 A.c19 x.Space.Sent
  q20 : RdS B w A.a20 A.c20 x.Offered
  q21 : RdS B w A.a21 A.c21 x.Took
  ok : okDTMission x

theorem TMissionF.keep {B : Nat} {w w2 : World} {A : TMissionA} {x : TMission} (h : TMissionF B w A x) (g : Keeps B w w2) : TMissionF B w2 A x := ⟨h.q0.keep g, h.q1.keep g, h.q2.keep g, h.q3.keep g, h.q4.keep g, h.q5.keep g, h.q6.keep g, h.q7.keep g, h.q8.keep g, h.q9.keep g, h.q10.keep g, h.q11.keep g, h.q12.keep g, h.q13.keep g, h.q14.keep g, h.q15.keep g, h.q16.keep g, h.q17.keep g, h.q18.keep g, h.q19.keep g, h.q20.keep g, h.q21.keep g, h.ok⟩

theorem TMissionF.mono {B B2 : Nat} {w : World} {A : TMissionA} {x : TMission} (h : TMissionF B w A x) (g : B2 ≤ B) : TMissionF B2 w A x := ⟨h.q0.mono g, h.q1.mono g, h.q2.mono g, h.q3.mono g, h.q4.mono g, h.q5.mono g, h.q6.mono g, h.q7.mono g, h.q8.mono g, h.q9.mono g, h.q10.mono g, h.q11.mono g, h.q12.mono g, h.q13.mono g, h.q14.mono g, h.q15.mono g, h.q16.mono g, h.q17.mono g, h.q18.mono g, h.q19.mono g, h.q20.mono g, h.q21.mono g, h.ok⟩

instance : Enc TMission where
  size := 61
  Rd B w vs x := ∃ A : TMissionA, vs = [.int .i64 x.Time, .int .i64 x.Light, .int .i64 x.Drift.Rate, .int .i64 x.Drift.Offset, .int .i64 x.Orbit.Period, .int .i64 x.Orbit.Start, .int .i64 x.Orbit.Length, .slice A.a0 x.Plan.length A.c0, .int .i64 x.Up.Seed, .int .i64 x.Up.Burst, .int .i64 x.Up.Loss, .int .i64 x.Down.Seed, .int .i64 x.Down.Burst, .int .i64 x.Down.Loss, .slice A.a1 x.Ups.length A.c1, .slice A.a2 x.Downs.length A.c2, .slice A.a3 x.Ground.Offers.length A.c3, .int .i64 x.Ground.Sender.Next, .int .i64 x.Ground.Sender.Window, .slice A.a4 x.Ground.Sender.Waiting.length A.c4, .int .i64 x.Ground.Sender.Done, .int .i64 x.Ground.Notice.Expect, .bool x.Ground.Notice.Locked, .bool x.Ground.Notice.Again, .int .i64 x.Ground.Unpacker.Channel, .int .i64 x.Ground.Unpacker.Next, .bool x.Ground.Unpacker.Synced, .string x.Ground.Unpacker.Rest, .int .i64 x.Ground.Unpacker.Lost, .slice A.a5 x.Ground.Pairs.length A.c5, .slice A.a6 x.Ground.Records.length A.c6, .slice A.a7 x.Ground.Files.length A.c7, .slice A.a8 x.Ground.Told.length A.c8, .int .i64 x.Space.Receiver.Expect, .bool x.Space.Receiver.Locked, .bool x.Space.Receiver.Again, .int .i64 x.Space.Receiver.Taken, .int .i64 x.Space.Board.Clock, .slice A.a9 x.Space.Board.Params.length A.c9, .bool x.Space.Board.Safe, .slice A.a10 x.Space.Board.Limits.length A.c10, .slice A.a11 x.Space.Board.Orders.length A.c11, .slice A.a12 x.Space.Board.Done.length A.c12, .int .i64 x.Space.Board.Recorder.Room, .slice A.a13 x.Space.Board.Recorder.Records.length A.c13, .slice A.a14 x.Space.Board.Recorder.Dropped.length A.c14, .int .i64 x.Space.Board.Made, .int .i64 x.Space.Board.Taken, .slice A.a15 x.Space.Board.Asked.length A.c15, .int .i64 x.Space.Packer.Channel, .int .i64 x.Space.Packer.Count, .string x.Space.Packer.Rest, .slice A.a16 x.Space.Packer.Starts.length A.c16, .int .i64 x.Space.Seq, .slice A.a17 x.Space.Files.length A.c17, .slice A.a18 x.Space.Outs.length A.c18, .int .i64 x.Space.Begun, .slice A.a19 x.Space.Sent.length A.c19, .slice A.a20 x.Offered.length A.c20, .slice A.a21 x.Took.length A.c21, .int .i64 x.Bad] ∧ TMissionF B w A x
  len := by rintro _ _ _ _ ⟨A, h, F⟩; rw [h]; rfl
  keep := by rintro _ _ _ _ _ ⟨A, h, F⟩ g; exact ⟨A, h, F.keep g⟩
  mono := by rintro _ _ _ _ _ ⟨A, h, F⟩ g; exact ⟨A, h, F.mono g⟩
  tot x := totL x.Plan + totL x.Ups + totL x.Downs + Enc.tot x.Ground + Enc.tot x.Space + totL x.Offered + totL x.Took
  tot_nonneg x := by have h0 := totL_nonneg x.Plan; have h1 := totL_nonneg x.Ups; have h2 := totL_nonneg x.Downs; have h3 := Enc.tot_nonneg x.Ground; have h4 := Enc.tot_nonneg x.Space; have h5 := totL_nonneg x.Offered; have h6 := totL_nonneg x.Took; omega

end Go.Proofs.YtdankjbkioepgaaGreat

namespace Go.Proofs.YtdankjbkioepgaaGreat
set_option linter.unusedVariables false
open Go.ChangeShapes Go.WideShapes Go.ChangeAt Go.RowKit

/-- All blocks but one are as they were. -/
structure But (b : Nat) (w w' : World) : Prop where
  size : w.heap.size ≤ w'.heap.size
  block : ∀ k, k ≠ b → k < w.heap.size → w'.heap[k]? = w.heap[k]?
theorem But.setCells {b : Nat} : ∀ (us : List Value) {a w : World} (o : Nat), But b a w → But b a (w.setCells b o us)
  | [], _, _, _, h => h
  | v :: r, _, w, o, h => But.setCells r (o + 1) ⟨by simpa using h.size, fun k h1 h2 => by
    rw [Below.heap_setCell _ _ _ _ (fun e => h1 (by simpa using e))]; exact h.block k h1 h2⟩
/-- What lies in blocks below one that alone is written. -/
theorem But.under {B b : Nat} {u w w' : World} (h : But b w w') (g : Keeps B u w) (hb : u.heap.size ≤ b) : Keeps B u w' := ⟨Nat.le_trans g.size h.size, fun k h1 h2 => by
  rw [h.block k (by omega) (Nat.lt_of_lt_of_le h2 g.size)]; exact g.block k h1 h2⟩
theorem But.above {b : Nat} {w w' : World} (h : But b w w') : Keeps (b + 1) w w' := ⟨h.size, fun k h1 h2 => h.block k (by omega) h2⟩
theorem Held.but {b c : Nat} {w w' : World} {cs : List Value} {T : TypeId} (h : Held w c cs T) (g : But b w w') (hne : c ≠ b) : Held w' c cs T := by
  unfold Held
  rw [g.block c hne h.lt]; exact h
section
variable {P : Program} {ops : Array Oper} {rest : List Oper} {op : Oper} {a : Act} {w : World} {Q : Exit → Act → World → Prop}
theorem stepStore2 (hgd : op.guard = none) (ty : TypeId) (x y : Operand) (ho : op.op = .store ty x y) (b o : Nat) (hx : a.eval x = .pointer (some ⟨b, o, none⟩)) {cs us cs2 : List Value} {T : TypeId} (H : Held w b cs T)
    (hv : (a.eval y).cells.toList = us) (hi : (P.info? ty).map (·.size) = some us.length) (h1 : us.all (·.oneCell') = true) (hl : o + us.length ≤ cs.length) (hcs : splice cs o us = cs2) {w0 : World} (g : Grows w0 w) (hb : w0.heap.size ≤ b)
    (h : ∀ z : Later w0, Held z.w b cs2 T → But b w z.w → wpList P ops Q rest (a.put op.dst undef) z.w) : wpList P ops Q (op :: rest) a w := by
  subst hcs
  refine wpList_plain hgd fun _ hK => ?_
  unfold Oper.wp execOp
  simp only [ho, hx, Instr.storeAt, Instr.sureAddr, Sem.run_bind, Sem.run_pure, Result.andThen_ok, run_storeVar_held hv (H.there hl) hi (fun u hu => List.all_eq_true.1 h1 u hu)]
  exact hK _ _ (h ⟨_, below_setCells hb us o g.out⟩ (H.setCells us o) (But.setCells us o ⟨Nat.le_refl _, fun _ _ _ => rfl⟩))
end
theorem splice_pre : ∀ (us pre post : List Value), us.length = post.length → splice (pre ++ post) pre.length us = pre ++ us
  | [], pre, post, h => by
    have : post = [] := List.length_eq_zero_iff.1 h.symm
    subst this; rfl
  | v :: r, pre, [], h => by simp at h
  | v :: r, pre, u :: post, h => by
    have := splice_pre r (pre ++ [v]) post (by simpa using h)
    rw [splice]
    rw [List.set_append_right _ _ (Nat.le_refl _), Nat.sub_self, List.set_cons_zero]
    simpa using this
theorem splice_all {cs us : List Value} (h : us.length = cs.length) : splice cs 0 us = us := splice_pre us [] cs h
end Go.Proofs.YtdankjbkioepgaaGreat

namespace Go.Proofs.YtdankjbkioepgaaGreat
set_option linter.unusedVariables false
open Go.ChangeShapes Go.WideShapes Go.ChangeAt Go.RowKit

theorem ofTSent {w : World} (vs : List Value) (hl : vs.length = 2) (h : RdL w [.int, .str] vs) : ∃ x : TSent, Enc.Rd 0 w vs x := by
  obtain ⟨u0, g0, r0⟩ := h.at (j := 0) rfl
  obtain ⟨x0, rfl, p0⟩ := r0.int_inv
  obtain ⟨u1, g1, r1⟩ := h.at (j := 1) rfl
  obtain ⟨x1, rfl, p1⟩ := r1.str_inv
  replace p1 : x1.size ≤ 9223372036854775807 := by unfold maxLen at p1; omega
  refine ⟨⟨x0, x1⟩, ⟨list_all hl ?_, ⟨p0, p1, trivial⟩⟩⟩
  intro j y hy
  match j, hy with
  | 0, hy => cases hy; exact g0
  | 1, hy => cases hy; exact g1

theorem ofTRecord {w : World} (vs : List Value) (hl : vs.length = 4) (h : RdL w [.int, .int, .int, .str] vs) : ∃ x : TRecord, Enc.Rd 0 w vs x := by
  obtain ⟨u0, g0, r0⟩ := h.at (j := 0) rfl
  obtain ⟨x0, rfl, p0⟩ := r0.int_inv
  obtain ⟨u1, g1, r1⟩ := h.at (j := 1) rfl
  obtain ⟨x1, rfl, p1⟩ := r1.int_inv
  obtain ⟨u2, g2, r2⟩ := h.at (j := 2) rfl
  obtain ⟨x2, rfl, p2⟩ := r2.int_inv
  obtain ⟨u3, g3, r3⟩ := h.at (j := 3) rfl
  obtain ⟨x3, rfl, p3⟩ := r3.str_inv
  replace p3 : x3.size ≤ 9223372036854775807 := by unfold maxLen at p3; omega
  refine ⟨⟨x0, x1, x2, x3⟩, ⟨list_all hl ?_, ⟨p0, p1, p2, p3, trivial⟩⟩⟩
  intro j y hy
  match j, hy with
  | 0, hy => cases hy; exact g0
  | 1, hy => cases hy; exact g1
  | 2, hy => cases hy; exact g2
  | 3, hy => cases hy; exact g3

theorem ofTLimit {w : World} (vs : List Value) (hl : vs.length = 3) (h : RdL w [.int, .int, .int] vs) : ∃ x : TLimit, Enc.Rd 0 w vs x := by
  obtain ⟨u0, g0, r0⟩ := h.at (j := 0) rfl
  obtain ⟨x0, rfl, p0⟩ := r0.int_inv
  obtain ⟨u1, g1, r1⟩ := h.at (j := 1) rfl
  obtain ⟨x1, rfl, p1⟩ := r1.int_inv
  obtain ⟨u2, g2, r2⟩ := h.at (j := 2) rfl
  obtain ⟨x2, rfl, p2⟩ := r2.int_inv
  refine ⟨⟨x0, x1, x2⟩, ⟨list_all hl ?_, ⟨p0, p1, p2, trivial⟩⟩⟩
  intro j y hy
  match j, hy with
  | 0, hy => cases hy; exact g0
  | 1, hy => cases hy; exact g1
  | 2, hy => cases hy; exact g2

theorem ofTWaiting {w : World} (vs : List Value) (hl : vs.length = 5) (h : RdL w [.int, .int, .int, .int, .int] vs) : ∃ x : TWaiting, Enc.Rd 0 w vs x := by
  obtain ⟨u0, g0, r0⟩ := h.at (j := 0) rfl
  obtain ⟨x0, rfl, p0⟩ := r0.int_inv
  obtain ⟨u1, g1, r1⟩ := h.at (j := 1) rfl
  obtain ⟨x1, rfl, p1⟩ := r1.int_inv
  obtain ⟨u2, g2, r2⟩ := h.at (j := 2) rfl
  obtain ⟨x2, rfl, p2⟩ := r2.int_inv
  obtain ⟨u3, g3, r3⟩ := h.at (j := 3) rfl
  obtain ⟨x3, rfl, p3⟩ := r3.int_inv
  obtain ⟨u4, g4, r4⟩ := h.at (j := 4) rfl
  obtain ⟨x4, rfl, p4⟩ := r4.int_inv
  refine ⟨⟨x0, ⟨x1, x2, x3, x4⟩⟩, ⟨list_all hl ?_, ⟨p0, ⟨p1, p2, p3, p4, trivial⟩, trivial⟩⟩⟩
  intro j y hy
  match j, hy with
  | 0, hy => cases hy; exact g0
  | 1, hy => cases hy; exact g1
  | 2, hy => cases hy; exact g2
  | 3, hy => cases hy; exact g3
  | 4, hy => cases hy; exact g4

theorem ofTDone {w : World} (vs : List Value) (hl : vs.length = 3) (h : RdL w [.int, .int, .int] vs) : ∃ x : TDone, Enc.Rd 0 w vs x := by
  obtain ⟨u0, g0, r0⟩ := h.at (j := 0) rfl
  obtain ⟨x0, rfl, p0⟩ := r0.int_inv
  obtain ⟨u1, g1, r1⟩ := h.at (j := 1) rfl
  obtain ⟨x1, rfl, p1⟩ := r1.int_inv
  obtain ⟨u2, g2, r2⟩ := h.at (j := 2) rfl
  obtain ⟨x2, rfl, p2⟩ := r2.int_inv
  refine ⟨⟨x0, x1, x2⟩, ⟨list_all hl ?_, ⟨p0, p1, p2, trivial⟩⟩⟩
  intro j y hy
  match j, hy with
  | 0, hy => cases hy; exact g0
  | 1, hy => cases hy; exact g1
  | 2, hy => cases hy; exact g2

theorem ofTFileIn {w : World} (vs : List Value) (hl : vs.length = 4) (h : RdL w [.int, .int, .int, .sl [.str]] vs) : ∃ x : TFileIn, Enc.Rd 0 w vs x := by
  obtain ⟨u0, g0, r0⟩ := h.at (j := 0) rfl
  obtain ⟨x0, rfl, p0⟩ := r0.int_inv
  obtain ⟨u1, g1, r1⟩ := h.at (j := 1) rfl
  obtain ⟨x1, rfl, p1⟩ := r1.int_inv
  obtain ⟨u2, g2, r2⟩ := h.at (j := 2) rfl
  obtain ⟨x2, rfl, p2⟩ := r2.int_inv
  obtain ⟨u3, g3, r3⟩ := h.at (j := 3) rfl
  obtain ⟨a3, c3, x3, rfl, p3⟩ := openS (α := ByteArray) (es := [.str]) rfl openStr r3
  refine ⟨⟨x0, x1, x2, x3⟩, ⟨a3, c3, list_all hl ?_, p3, ⟨p0, p1, p2, trivial⟩⟩⟩
  intro j y hy
  match j, hy with
  | 0, hy => cases hy; exact g0
  | 1, hy => cases hy; exact g1
  | 2, hy => cases hy; exact g2
  | 3, hy => cases hy; exact g3

theorem ofTFileOut {w : World} (vs : List Value) (hl : vs.length = 4) (h : RdL w [.int, .str, .sl [.int], .bool] vs) : ∃ x : TFileOut, Enc.Rd 0 w vs x := by
  obtain ⟨u0, g0, r0⟩ := h.at (j := 0) rfl
  obtain ⟨x0, rfl, p0⟩ := r0.int_inv
  obtain ⟨u1, g1, r1⟩ := h.at (j := 1) rfl
  obtain ⟨x1, rfl, p1⟩ := r1.str_inv
  replace p1 : x1.size ≤ 9223372036854775807 := by unfold maxLen at p1; omega
  obtain ⟨u2, g2, r2⟩ := h.at (j := 2) rfl
  obtain ⟨a2, c2, x2, rfl, p2⟩ := openS (α := Int) (es := [.int]) rfl openInt r2
  obtain ⟨u3, g3, r3⟩ := h.at (j := 3) rfl
  obtain ⟨x3, rfl⟩ := r3.bool_inv
  refine ⟨⟨x0, x1, x2, x3⟩, ⟨a2, c2, list_all hl ?_, p2, ⟨p0, p1, trivial⟩⟩⟩
  intro j y hy
  match j, hy with
  | 0, hy => cases hy; exact g0
  | 1, hy => cases hy; exact g1
  | 2, hy => cases hy; exact g2
  | 3, hy => cases hy; exact g3

theorem ofPair {w : World} (vs : List Value) (hl : vs.length = 2) (h : RdL w [.int, .int] vs) : ∃ x : Pair, Enc.Rd 0 w vs x := by
  obtain ⟨u0, g0, r0⟩ := h.at (j := 0) rfl
  obtain ⟨x0, rfl, p0⟩ := r0.int_inv
  obtain ⟨u1, g1, r1⟩ := h.at (j := 1) rfl
  obtain ⟨x1, rfl, p1⟩ := r1.int_inv
  refine ⟨⟨x0, x1⟩, ⟨list_all hl ?_, ⟨p0, p1, trivial⟩⟩⟩
  intro j y hy
  match j, hy with
  | 0, hy => cases hy; exact g0
  | 1, hy => cases hy; exact g1

theorem ofSlot {w : World} (vs : List Value) (hl : vs.length = 2) (h : RdL w [.int, .int] vs) : ∃ x : Slot, Enc.Rd 0 w vs x := by
  obtain ⟨u0, g0, r0⟩ := h.at (j := 0) rfl
  obtain ⟨x0, rfl, p0⟩ := r0.int_inv
  obtain ⟨u1, g1, r1⟩ := h.at (j := 1) rfl
  obtain ⟨x1, rfl, p1⟩ := r1.int_inv
  refine ⟨⟨x0, x1⟩, ⟨list_all hl ?_, ⟨p0, p1, trivial⟩⟩⟩
  intro j y hy
  match j, hy with
  | 0, hy => cases hy; exact g0
  | 1, hy => cases hy; exact g1

theorem ofTFlight {w : World} (vs : List Value) (hl : vs.length = 2) (h : RdL w [.int, .str] vs) : ∃ x : TFlight, Enc.Rd 0 w vs x := by
  obtain ⟨u0, g0, r0⟩ := h.at (j := 0) rfl
  obtain ⟨x0, rfl, p0⟩ := r0.int_inv
  obtain ⟨u1, g1, r1⟩ := h.at (j := 1) rfl
  obtain ⟨x1, rfl, p1⟩ := r1.str_inv
  replace p1 : x1.size ≤ 9223372036854775807 := by unfold maxLen at p1; omega
  refine ⟨⟨x0, x1⟩, ⟨list_all hl ?_, ⟨p0, p1, trivial⟩⟩⟩
  intro j y hy
  match j, hy with
  | 0, hy => cases hy; exact g0
  | 1, hy => cases hy; exact g1

theorem ofTMission {w : World} (vs : List Value) (hl : vs.length = 61) (h : RdL w [.int, .int, .int, .int, .int, .int, .int, .sl [.int, .int], .int, .int, .int, .int, .int, .int, .sl [.int, .str], .sl [.int, .str], .sl [.str], .int, .int, .sl [.int, .str], .int, .int, .bool, .bool, .int, .int, .bool, .str, .int, .sl [.int, .int], .sl [.int, .int, .int, .str], .sl [.int, .int, .int, .sl [.str]], .sl [.bool], .int, .bool, .bool, .int, .int, .sl [.int], .bool, .sl [.int, .int, .int], .sl [.int, .int, .int, .int, .int], .sl [.int, .int, .int], .int, .sl [.int, .int, .int, .str], .sl [.int], .int, .int, .sl [.int], .int, .int, .str, .sl [.int], .int, .sl [.str], .sl [.int, .str, .sl [.int], .bool], .int, .sl [.int, .int, .int, .str], .sl [.str], .sl [.str], .int] vs) : ∃ x : TMission, Enc.Rd 0 w vs x := by
  obtain ⟨u0, g0, r0⟩ := h.at (j := 0) rfl
  obtain ⟨x0, rfl, p0⟩ := r0.int_inv
  obtain ⟨u1, g1, r1⟩ := h.at (j := 1) rfl
  obtain ⟨x1, rfl, p1⟩ := r1.int_inv
  obtain ⟨u2, g2, r2⟩ := h.at (j := 2) rfl
  obtain ⟨x2, rfl, p2⟩ := r2.int_inv
  obtain ⟨u3, g3, r3⟩ := h.at (j := 3) rfl
  obtain ⟨x3, rfl, p3⟩ := r3.int_inv
  obtain ⟨u4, g4, r4⟩ := h.at (j := 4) rfl
  obtain ⟨x4, rfl, p4⟩ := r4.int_inv
  obtain ⟨u5, g5, r5⟩ := h.at (j := 5) rfl
  obtain ⟨x5, rfl, p5⟩ := r5.int_inv
  obtain ⟨u6, g6, r6⟩ := h.at (j := 6) rfl
  obtain ⟨x6, rfl, p6⟩ := r6.int_inv
  obtain ⟨u7, g7, r7⟩ := h.at (j := 7) rfl
  obtain ⟨a7, c7, x7, rfl, p7⟩ := openS (α := Slot) (es := [.int, .int]) rfl ofSlot r7
  obtain ⟨u8, g8, r8⟩ := h.at (j := 8) rfl
  obtain ⟨x8, rfl, p8⟩ := r8.int_inv
  obtain ⟨u9, g9, r9⟩ := h.at (j := 9) rfl
  obtain ⟨x9, rfl, p9⟩ := r9.int_inv
  obtain ⟨u10, g10, r10⟩ := h.at (j := 10) rfl
  obtain ⟨x10, rfl, p10⟩ := r10.int_inv
  obtain ⟨u11, g11, r11⟩ := h.at (j := 11) rfl
  obtain ⟨x11, rfl, p11⟩ := r11.int_inv
  obtain ⟨u12, g12, r12⟩ := h.at (j := 12) rfl
  obtain ⟨x12, rfl, p12⟩ := r12.int_inv
  obtain ⟨u13, g13, r13⟩ := h.at (j := 13) rfl
  obtain ⟨x13, rfl, p13⟩ := r13.int_inv
  obtain ⟨u14, g14, r14⟩ := h.at (j := 14) rfl
  obtain ⟨a14, c14, x14, rfl, p14⟩ := openS (α := TFlight) (es := [.int, .str]) rfl ofTFlight r14
  obtain ⟨u15, g15, r15⟩ := h.at (j := 15) rfl
  obtain ⟨a15, c15, x15, rfl, p15⟩ := openS (α := TFlight) (es := [.int, .str]) rfl ofTFlight r15
  obtain ⟨u16, g16, r16⟩ := h.at (j := 16) rfl
  obtain ⟨a16, c16, x16, rfl, p16⟩ := openS (α := ByteArray) (es := [.str]) rfl openStr r16
  obtain ⟨u17, g17, r17⟩ := h.at (j := 17) rfl
  obtain ⟨x17, rfl, p17⟩ := r17.int_inv
  obtain ⟨u18, g18, r18⟩ := h.at (j := 18) rfl
  obtain ⟨x18, rfl, p18⟩ := r18.int_inv
  obtain ⟨u19, g19, r19⟩ := h.at (j := 19) rfl
  obtain ⟨a19, c19, x19, rfl, p19⟩ := openS (α := TSent) (es := [.int, .str]) rfl ofTSent r19
  obtain ⟨u20, g20, r20⟩ := h.at (j := 20) rfl
  obtain ⟨x20, rfl, p20⟩ := r20.int_inv
  obtain ⟨u21, g21, r21⟩ := h.at (j := 21) rfl
  obtain ⟨x21, rfl, p21⟩ := r21.int_inv
  obtain ⟨u22, g22, r22⟩ := h.at (j := 22) rfl
  obtain ⟨x22, rfl⟩ := r22.bool_inv
  obtain ⟨u23, g23, r23⟩ := h.at (j := 23) rfl
  obtain ⟨x23, rfl⟩ := r23.bool_inv
  obtain ⟨u24, g24, r24⟩ := h.at (j := 24) rfl
  obtain ⟨x24, rfl, p24⟩ := r24.int_inv
  obtain ⟨u25, g25, r25⟩ := h.at (j := 25) rfl
  obtain ⟨x25, rfl, p25⟩ := r25.int_inv
  obtain ⟨u26, g26, r26⟩ := h.at (j := 26) rfl
  obtain ⟨x26, rfl⟩ := r26.bool_inv
  obtain ⟨u27, g27, r27⟩ := h.at (j := 27) rfl
  obtain ⟨x27, rfl, p27⟩ := r27.str_inv
  replace p27 : x27.size ≤ 9223372036854775807 := by unfold maxLen at p27; omega
  obtain ⟨u28, g28, r28⟩ := h.at (j := 28) rfl
  obtain ⟨x28, rfl, p28⟩ := r28.int_inv
  obtain ⟨u29, g29, r29⟩ := h.at (j := 29) rfl
  obtain ⟨a29, c29, x29, rfl, p29⟩ := openS (α := Pair) (es := [.int, .int]) rfl ofPair r29
  obtain ⟨u30, g30, r30⟩ := h.at (j := 30) rfl
  obtain ⟨a30, c30, x30, rfl, p30⟩ := openS (α := TRecord) (es := [.int, .int, .int, .str]) rfl ofTRecord r30
  obtain ⟨u31, g31, r31⟩ := h.at (j := 31) rfl
  obtain ⟨a31, c31, x31, rfl, p31⟩ := openS (α := TFileIn) (es := [.int, .int, .int, .sl [.str]]) rfl ofTFileIn r31
  obtain ⟨u32, g32, r32⟩ := h.at (j := 32) rfl
  obtain ⟨a32, c32, x32, rfl, p32⟩ := openS (α := Bool) (es := [.bool]) rfl openBool r32
  obtain ⟨u33, g33, r33⟩ := h.at (j := 33) rfl
  obtain ⟨x33, rfl, p33⟩ := r33.int_inv
  obtain ⟨u34, g34, r34⟩ := h.at (j := 34) rfl
  obtain ⟨x34, rfl⟩ := r34.bool_inv
  obtain ⟨u35, g35, r35⟩ := h.at (j := 35) rfl
  obtain ⟨x35, rfl⟩ := r35.bool_inv
  obtain ⟨u36, g36, r36⟩ := h.at (j := 36) rfl
  obtain ⟨x36, rfl, p36⟩ := r36.int_inv
  obtain ⟨u37, g37, r37⟩ := h.at (j := 37) rfl
  obtain ⟨x37, rfl, p37⟩ := r37.int_inv
  obtain ⟨u38, g38, r38⟩ := h.at (j := 38) rfl
  obtain ⟨a38, c38, x38, rfl, p38⟩ := openS (α := Int) (es := [.int]) rfl openInt r38
  obtain ⟨u39, g39, r39⟩ := h.at (j := 39) rfl
  obtain ⟨x39, rfl⟩ := r39.bool_inv
  obtain ⟨u40, g40, r40⟩ := h.at (j := 40) rfl
  obtain ⟨a40, c40, x40, rfl, p40⟩ := openS (α := TLimit) (es := [.int, .int, .int]) rfl ofTLimit r40
  obtain ⟨u41, g41, r41⟩ := h.at (j := 41) rfl
  obtain ⟨a41, c41, x41, rfl, p41⟩ := openS (α := TWaiting) (es := [.int, .int, .int, .int, .int]) rfl ofTWaiting r41
  obtain ⟨u42, g42, r42⟩ := h.at (j := 42) rfl
  obtain ⟨a42, c42, x42, rfl, p42⟩ := openS (α := TDone) (es := [.int, .int, .int]) rfl ofTDone r42
  obtain ⟨u43, g43, r43⟩ := h.at (j := 43) rfl
  obtain ⟨x43, rfl, p43⟩ := r43.int_inv
  obtain ⟨u44, g44, r44⟩ := h.at (j := 44) rfl
  obtain ⟨a44, c44, x44, rfl, p44⟩ := openS (α := TRecord) (es := [.int, .int, .int, .str]) rfl ofTRecord r44
  obtain ⟨u45, g45, r45⟩ := h.at (j := 45) rfl
  obtain ⟨a45, c45, x45, rfl, p45⟩ := openS (α := Int) (es := [.int]) rfl openInt r45
  obtain ⟨u46, g46, r46⟩ := h.at (j := 46) rfl
  obtain ⟨x46, rfl, p46⟩ := r46.int_inv
  obtain ⟨u47, g47, r47⟩ := h.at (j := 47) rfl
  obtain ⟨x47, rfl, p47⟩ := r47.int_inv
  obtain ⟨u48, g48, r48⟩ := h.at (j := 48) rfl
  obtain ⟨a48, c48, x48, rfl, p48⟩ := openS (α := Int) (es := [.int]) rfl openInt r48
  obtain ⟨u49, g49, r49⟩ := h.at (j := 49) rfl
  obtain ⟨x49, rfl, p49⟩ := r49.int_inv
  obtain ⟨u50, g50, r50⟩ := h.at (j := 50) rfl
  obtain ⟨x50, rfl, p50⟩ := r50.int_inv
  obtain ⟨u51, g51, r51⟩ := h.at (j := 51) rfl
  obtain ⟨x51, rfl, p51⟩ := r51.str_inv
  replace p51 : x51.size ≤ 9223372036854775807 := by unfold maxLen at p51; omega
  obtain ⟨u52, g52, r52⟩ := h.at (j := 52) rfl
  obtain ⟨a52, c52, x52, rfl, p52⟩ := openS (α := Int) (es := [.int]) rfl openInt r52
  obtain ⟨u53, g53, r53⟩ := h.at (j := 53) rfl
  obtain ⟨x53, rfl, p53⟩ := r53.int_inv
  obtain ⟨u54, g54, r54⟩ := h.at (j := 54) rfl
  obtain ⟨a54, c54, x54, rfl, p54⟩ := openS (α := ByteArray) (es := [.str]) rfl openStr r54
  obtain ⟨u55, g55, r55⟩ := h.at (j := 55) rfl
  obtain ⟨a55, c55, x55, rfl, p55⟩ := openS (α := TFileOut) (es := [.int, .str, .sl [.int], .bool]) rfl ofTFileOut r55
  obtain ⟨u56, g56, r56⟩ := h.at (j := 56) rfl
  obtain ⟨x56, rfl, p56⟩ := r56.int_inv
  obtain ⟨u57, g57, r57⟩ := h.at (j := 57) rfl
  obtain ⟨a57, c57, x57, rfl, p57⟩ := openS (α := TRecord) (es := [.int, .int, .int, .str]) rfl ofTRecord r57
  obtain ⟨u58, g58, r58⟩ := h.at (j := 58) rfl
  obtain ⟨a58, c58, x58, rfl, p58⟩ := openS (α := ByteArray) (es := [.str]) rfl openStr r58
  obtain ⟨u59, g59, r59⟩ := h.at (j := 59) rfl
  obtain ⟨a59, c59, x59, rfl, p59⟩ := openS (α := ByteArray) (es := [.str]) rfl openStr r59
  obtain ⟨u60, g60, r60⟩ := h.at (j := 60) rfl
  obtain ⟨x60, rfl, p60⟩ := r60.int_inv
  refine ⟨⟨x0, x1, ⟨x2, x3⟩, ⟨x4, x5, x6⟩, x7, ⟨x8, x9, x10⟩, ⟨x11, x12, x13⟩, x14, x15, ⟨x16, ⟨x17, x18, x19, x20⟩, ⟨x21, x22, x23⟩, ⟨x24, x25, x26, x27, x28⟩, x29, x30, x31, x32⟩, ⟨⟨x33, x34, x35, x36⟩, ⟨x37, x38, x39, x40, x41, x42, ⟨x43, x44, x45⟩, x46, x47, x48⟩, ⟨x49, x50, x51, x52⟩, x53, x54, x55, x56, x57⟩, x58, x59, x60⟩, ⟨⟨a7, c7, a14, c14, a15, c15, a16, c16, a19, c19, a29, c29, a30, c30, a31, c31, a32, c32, a38, c38, a40, c40, a41, c41, a42, c42, a44, c44, a45, c45, a48, c48, a52, c52, a54, c54, a55, c55, a57, c57, a58, c58, a59, c59⟩, list_all hl ?_, ⟨p7, p14, p15, p16, p19, p29, p30, p31, p32, p38, p40, p41, p42, p44, p45, p48, p52, p54, p55, p57, p58, p59, ⟨p0, p1, ⟨p2, p3, trivial⟩, ⟨p4, p5, p6, trivial⟩, ⟨p8, p9, p10, trivial⟩, ⟨p11, p12, p13, trivial⟩, ⟨⟨p17, p18, p20, trivial⟩, ⟨p21, trivial⟩, ⟨p24, p25, p27, p28, trivial⟩, trivial⟩, ⟨⟨p33, p36, trivial⟩, ⟨p37, ⟨p43, trivial⟩, p46, p47, trivial⟩, ⟨p49, p50, p51, trivial⟩, p53, p56, trivial⟩, p60, trivial⟩⟩⟩⟩
  intro j y hy
  match j, hy with
  | 0, hy => cases hy; exact g0
  | 1, hy => cases hy; exact g1
  | 2, hy => cases hy; exact g2
  | 3, hy => cases hy; exact g3
  | 4, hy => cases hy; exact g4
  | 5, hy => cases hy; exact g5
  | 6, hy => cases hy; exact g6
  | 7, hy => cases hy; exact g7
  | 8, hy => cases hy; exact g8
  | 9, hy => cases hy; exact g9
  | 10, hy => cases hy; exact g10
  | 11, hy => cases hy; exact g11
  | 12, hy => cases hy; exact g12
  | 13, hy => cases hy; exact g13
  | 14, hy => cases hy; exact g14
  | 15, hy => cases hy; exact g15
  | 16, hy => cases hy; exact g16
  | 17, hy => cases hy; exact g17
  | 18, hy => cases hy; exact g18
  | 19, hy => cases hy; exact g19
  | 20, hy => cases hy; exact g20
  | 21, hy => cases hy; exact g21
  | 22, hy => cases hy; exact g22
  | 23, hy => cases hy; exact g23
  | 24, hy => cases hy; exact g24
  | 25, hy => cases hy; exact g25
  | 26, hy => cases hy; exact g26
  | 27, hy => cases hy; exact g27
  | 28, hy => cases hy; exact g28
  | 29, hy => cases hy; exact g29
  | 30, hy => cases hy; exact g30
  | 31, hy => cases hy; exact g31
  | 32, hy => cases hy; exact g32
  | 33, hy => cases hy; exact g33
  | 34, hy => cases hy; exact g34
  | 35, hy => cases hy; exact g35
  | 36, hy => cases hy; exact g36
  | 37, hy => cases hy; exact g37
  | 38, hy => cases hy; exact g38
  | 39, hy => cases hy; exact g39
  | 40, hy => cases hy; exact g40
  | 41, hy => cases hy; exact g41
  | 42, hy => cases hy; exact g42
  | 43, hy => cases hy; exact g43
  | 44, hy => cases hy; exact g44
  | 45, hy => cases hy; exact g45
  | 46, hy => cases hy; exact g46
  | 47, hy => cases hy; exact g47
  | 48, hy => cases hy; exact g48
  | 49, hy => cases hy; exact g49
  | 50, hy => cases hy; exact g50
  | 51, hy => cases hy; exact g51
  | 52, hy => cases hy; exact g52
  | 53, hy => cases hy; exact g53
  | 54, hy => cases hy; exact g54
  | 55, hy => cases hy; exact g55
  | 56, hy => cases hy; exact g56
  | 57, hy => cases hy; exact g57
  | 58, hy => cases hy; exact g58
  | 59, hy => cases hy; exact g59
  | 60, hy => cases hy; exact g60

end Go.Proofs.YtdankjbkioepgaaGreat

namespace Go.Proofs.YtdankjbkioepgaaGreat
set_option linter.unusedVariables false
open Go.ChangeShapes Go.WideShapes Go.ChangeAt Go.RowKit

theorem d_ltoIntS {B : Nat} {a : Option Addr} {c : Nat} {l : List Int} {w : World} (hs : RdS B w a c l) (ht : totL l ≤ 1048576) :
    Calls Tryz.prog 151 #[.slice a l.length c] w (GivesDS w l) := by
  have hln := totL_len l
  have HT := Lib.hid (show ∀ x ∈ l, Enc.tot x ≤ 1048576 from fun x hx => Int.le_trans (totL_mem hx) ht)
  obtain ⟨n, hn⟩ : ∃ n, l.length = n := ⟨_, rfl⟩
  have HN := Lib.hid hn
  have hm : n ≤ 1048576 := by omega
  rw [hn]; clear ht hln hn
  obtain ⟨C, hC, hmk⟩ := run_mk (P := Tryz.prog) Tryz.underlying46 (e := 3) (z := .int .i64 0) (size := 1) (bytes := 8) (by kernel_rfl) n (by omega) (by omega)
  have hCz : C.size = n := by rw [hC, size_madeCells, Nat.mul_one]
  clear hC
  go_enter Tryz.func151, Tryz.ntmps151
  go_wp2_with (first | ((with_reducible refine wp_region_later (by kernel_rfl) (by kernel_rfl) ?_); (repeat (first | go_big_quiet_step (first | fail))); refine wpQuiet_nil ?_; rintro _ ⟨x, rfl⟩))
  clear hmk
  go_loopw [4] (fun v wr => ∃ k : Nat, v = .int .i64 k ∧ k ≤ n ∧ ∃ (D : Array Value) (x : Later (w.alloc (.cells D 3))), D.size = n ∧ Hid (RowsIn (w.heap.size + 1) x.w D (l.take k)) ∧ wr = x.w) (fun v _ => (n - intOf v).toNat)
  case atStart => exact ⟨0, rfl, by omega, C, Later.here _, hCz, by rw [List.take_zero]; exact RowsIn.nil, rfl⟩
  case round =>
    obtain ⟨k, rfl, hk, D, x, hDz, hf, rfl⟩ := hrel
    by_cases h : k < n
    · have hlk : k < l.length := by have := HN.out; omega
      obtain ⟨eb, eoff, ex, rfl, ehb, ehd, eok, eh0⟩ := hs.atInt (show k < l.length by omega)
      obtain ⟨o0, g0⟩ := getD_lt hDz (show k < n by omega)
      go_wp2_with (first | ((with_reducible refine wp_region_later (by kernel_rfl) (by kernel_rfl) ?_); (repeat (first | go_big_quiet_step (first | fail))); refine wpQuiet_nil ?_; rintro _ ⟨x, rfl⟩))
      go_roundw
      case rel =>
        obtain ⟨x2, hx2⟩ := Later.set1_at x k (.int .i64 ex)
        rw [hx2]
        have hP := RowsIn.put (W' := x2.w) hf.out ehd.out h HN.out (show D.size = n * 1 by omega) (vs := [.int .i64 ex]) ⟨rfl, eok⟩ (by rw [← hx2]; infer_instance)
        rw [show k * Enc.size Int = k from Nat.mul_one k] at hP
        exact ⟨k + 1, by go_num, by omega, D.setIfInBounds k _, x2, by simpa using hDz, hP, rfl⟩
      case measure => simp [intOf]; omega
    · go_wp2_with (first | ((with_reducible refine wp_region_later (by kernel_rfl) (by kernel_rfl) ?_); (repeat (first | go_big_quiet_step (first | fail))); refine wpQuiet_nil ?_; rintro _ ⟨x, rfl⟩))
      go_ret
      have hf2 := hf.out
      rw [List.take_of_length_le (by have := HN.out; omega)] at hf2
      exact ⟨_, n, by rw [HN.out]; rfl, RowsIn.done x hf2 HN.out hm (by omega), ⟨x.w, Grows.out⟩, rfl⟩

theorem d_lszIntS {B : Nat} {a : Option Addr} {c : Nat} {l : List Int} {left : Int} {w : World} (hs : RdS B w a c l) (hl : 0 ≤ left) (hl2 : left ≤ 1048576) :
    Calls Tryz.prog 141 #[.slice a l.length c, .int .i64 left] w (Gives w (.int .i64 (szD left (totL l)))) := by
  have hmx := hs.max
  have hln := totL_len l
  obtain ⟨n, hn⟩ : ∃ n, l.length = n := ⟨_, rfl⟩
  rw [hn] at hln hmx
  rw [hn]
  have HN := Lib.hid hn; clear hn
  have htl : totL l = n := by rw [← HN.out]; clear hs HN hmx hln; induction l with | nil => rfl | cons x r ih => simp only [totL, List.length_cons, ih]; show 1 + 0 + _ = _; omega
  rw [htl]; clear htl hln hs
  by_cases h : left - n < 0
  · rw [szD_neg h]
    go_enter Tryz.func141, Tryz.ntmps141
    go_wp2_with (first | ((with_reducible refine wp_region_later (by kernel_rfl) (by kernel_rfl) ?_); (repeat (first | go_big_quiet_step (first | fail))); refine wpQuiet_nil ?_; rintro _ ⟨x, rfl⟩))
    go_ret
    exact Gives.mk rfl
  · rw [szD_pos h]
    go_enter Tryz.func141, Tryz.ntmps141
    go_wp2_with (first | ((with_reducible refine wp_region_later (by kernel_rfl) (by kernel_rfl) ?_); (repeat (first | go_big_quiet_step (first | fail))); refine wpQuiet_nil ?_; rintro _ ⟨x, rfl⟩))
    go_ret
    exact Gives.mk rfl

theorem d_leqIntS {B B2 : Nat} {a a2 : Option Addr} {c c2 : Nat} {l : List Int} {w : World} (hs : RdS B w a c l) (hs2 : RdS B2 w a2 c2 l) :
    Calls Tryz.prog 161 #[.slice a l.length c, .slice a2 l.length c2] w (Gives w (.bool true)) := by
  have hmx := hs.max
  obtain ⟨n, hn⟩ : ∃ n, l.length = n := ⟨_, rfl⟩
  rw [hn] at hmx
  rw [hn]
  have HN := Lib.hid hn; clear hn
  have kn : ((n : Int) != (n : Int)) = false := by simp
  go_enter Tryz.func161, Tryz.ntmps161
  go_wp2_with (first | ((with_reducible refine wp_region_later (by kernel_rfl) (by kernel_rfl) ?_); (repeat (first | go_big_quiet_step (first | fail) | simp only [kn])); refine wpQuiet_nil ?_; rintro _ ⟨x, rfl⟩))
  go_loopw [5] (fun v wr => ∃ k : Nat, v = .int .i64 k ∧ k ≤ n ∧ ∃ x : Later w, wr = x.w) (fun v _ => (n - intOf v).toNat)
  case atStart => exact ⟨0, rfl, by omega, Later.of⟩
  case round =>
    obtain ⟨k, rfl, hk, x, rfl⟩ := hrel
    by_cases h : k < n
    · have hlk : k < l.length := by have := HN.out; omega
      obtain ⟨eb, eoff, ex, rfl, ehb, ehd, eok, eh0⟩ := hs.atInt (show k < l.length by omega)
      obtain ⟨fb, foff, fx, rfl, fhb, fhd, fok, fh0⟩ := hs2.atInt (show k < l.length by omega)
      obtain rfl : ex = fx := by have := ehd.out.symm.trans fhd.out; simpa using this
      clear ehd fhd hlk hs hs2
      have k2 : (ex != ex) = false := by simp
      go_wp2_with (first | ((with_reducible refine wp_region_later (by kernel_rfl) (by kernel_rfl) ?_); (repeat (first | go_big_quiet_step (first | fail) | simp only [k2])); refine wpQuiet_nil ?_; rintro _ ⟨x, rfl⟩))
      go_roundw
      case rel => exact ⟨k + 1, by go_num, by omega, Later.of⟩
      case measure => simp [intOf]; omega
    · go_wp2_with (first | ((with_reducible refine wp_region_later (by kernel_rfl) (by kernel_rfl) ?_); (repeat (first | go_big_quiet_step (first | fail))); refine wpQuiet_nil ?_; rintro _ ⟨x, rfl⟩))
      go_ret
      exact Gives.mk rfl

theorem d_ltoBoolS {B : Nat} {a : Option Addr} {c : Nat} {l : List Bool} {w : World} (hs : RdS B w a c l) (ht : totL l ≤ 1048576) :
    Calls Tryz.prog 94 #[.slice a l.length c] w (GivesDS w l) := by
  have hln := totL_len l
  have HT := Lib.hid (show ∀ x ∈ l, Enc.tot x ≤ 1048576 from fun x hx => Int.le_trans (totL_mem hx) ht)
  obtain ⟨n, hn⟩ : ∃ n, l.length = n := ⟨_, rfl⟩
  have HN := Lib.hid hn
  have hm : n ≤ 1048576 := by omega
  rw [hn]; clear ht hln hn
  obtain ⟨C, hC, hmk⟩ := run_mk (P := Tryz.prog) Tryz.underlying41 (e := 4) (z := .bool false) (size := 1) (bytes := 1) (by kernel_rfl) n (by omega) (by omega)
  have hCz : C.size = n := by rw [hC, size_madeCells, Nat.mul_one]
  clear hC
  go_enter Tryz.func94, Tryz.ntmps94
  go_wp2_with (first | ((with_reducible refine wp_region_later (by kernel_rfl) (by kernel_rfl) ?_); (repeat (first | go_big_quiet_step (first | fail))); refine wpQuiet_nil ?_; rintro _ ⟨x, rfl⟩))
  clear hmk
  go_loopw [4] (fun v wr => ∃ k : Nat, v = .int .i64 k ∧ k ≤ n ∧ ∃ (D : Array Value) (x : Later (w.alloc (.cells D 4))), D.size = n ∧ Hid (RowsIn (w.heap.size + 1) x.w D (l.take k)) ∧ wr = x.w) (fun v _ => (n - intOf v).toNat)
  case atStart => exact ⟨0, rfl, by omega, C, Later.here _, hCz, by rw [List.take_zero]; exact RowsIn.nil, rfl⟩
  case round =>
    obtain ⟨k, rfl, hk, D, x, hDz, hf, rfl⟩ := hrel
    by_cases h : k < n
    · have hlk : k < l.length := by have := HN.out; omega
      obtain ⟨eb, eoff, ex, rfl, ehb, ehd, eh0⟩ := hs.atBool (show k < l.length by omega)
      obtain ⟨o0, g0⟩ := getD_lt hDz (show k < n by omega)
      go_wp2_with (first | ((with_reducible refine wp_region_later (by kernel_rfl) (by kernel_rfl) ?_); (repeat (first | go_big_quiet_step (first | fail))); refine wpQuiet_nil ?_; rintro _ ⟨x, rfl⟩))
      go_roundw
      case rel =>
        obtain ⟨x2, hx2⟩ := Later.set1_at x k (.bool ex)
        rw [hx2]
        have hP := RowsIn.put (W' := x2.w) hf.out ehd.out h HN.out (show D.size = n * 1 by omega) (vs := [.bool ex]) rfl (by rw [← hx2]; infer_instance)
        rw [show k * Enc.size Bool = k from Nat.mul_one k] at hP
        exact ⟨k + 1, by go_num, by omega, D.setIfInBounds k _, x2, by simpa using hDz, hP, rfl⟩
      case measure => simp [intOf]; omega
    · go_wp2_with (first | ((with_reducible refine wp_region_later (by kernel_rfl) (by kernel_rfl) ?_); (repeat (first | go_big_quiet_step (first | fail))); refine wpQuiet_nil ?_; rintro _ ⟨x, rfl⟩))
      go_ret
      have hf2 := hf.out
      rw [List.take_of_length_le (by have := HN.out; omega)] at hf2
      exact ⟨_, n, by rw [HN.out]; rfl, RowsIn.done x hf2 HN.out hm (by omega), ⟨x.w, Grows.out⟩, rfl⟩

theorem d_lszBoolS {B : Nat} {a : Option Addr} {c : Nat} {l : List Bool} {left : Int} {w : World} (hs : RdS B w a c l) (hl : 0 ≤ left) (hl2 : left ≤ 1048576) :
    Calls Tryz.prog 82 #[.slice a l.length c, .int .i64 left] w (Gives w (.int .i64 (szD left (totL l)))) := by
  have hmx := hs.max
  have hln := totL_len l
  obtain ⟨n, hn⟩ : ∃ n, l.length = n := ⟨_, rfl⟩
  rw [hn] at hln hmx
  rw [hn]
  have HN := Lib.hid hn; clear hn
  have htl : totL l = n := by rw [← HN.out]; clear hs HN hmx hln; induction l with | nil => rfl | cons x r ih => simp only [totL, List.length_cons, ih]; show 1 + 0 + _ = _; omega
  rw [htl]; clear htl hln hs
  by_cases h : left - n < 0
  · rw [szD_neg h]
    go_enter Tryz.func82, Tryz.ntmps82
    go_wp2_with (first | ((with_reducible refine wp_region_later (by kernel_rfl) (by kernel_rfl) ?_); (repeat (first | go_big_quiet_step (first | fail))); refine wpQuiet_nil ?_; rintro _ ⟨x, rfl⟩))
    go_ret
    exact Gives.mk rfl
  · rw [szD_pos h]
    go_enter Tryz.func82, Tryz.ntmps82
    go_wp2_with (first | ((with_reducible refine wp_region_later (by kernel_rfl) (by kernel_rfl) ?_); (repeat (first | go_big_quiet_step (first | fail))); refine wpQuiet_nil ?_; rintro _ ⟨x, rfl⟩))
    go_ret
    exact Gives.mk rfl

theorem d_leqBoolS {B B2 : Nat} {a a2 : Option Addr} {c c2 : Nat} {l : List Bool} {w : World} (hs : RdS B w a c l) (hs2 : RdS B2 w a2 c2 l) :
    Calls Tryz.prog 107 #[.slice a l.length c, .slice a2 l.length c2] w (Gives w (.bool true)) := by
  have hmx := hs.max
  obtain ⟨n, hn⟩ : ∃ n, l.length = n := ⟨_, rfl⟩
  rw [hn] at hmx
  rw [hn]
  have HN := Lib.hid hn; clear hn
  have kn : ((n : Int) != (n : Int)) = false := by simp
  go_enter Tryz.func107, Tryz.ntmps107
  go_wp2_with (first | ((with_reducible refine wp_region_later (by kernel_rfl) (by kernel_rfl) ?_); (repeat (first | go_big_quiet_step (first | fail) | simp only [kn])); refine wpQuiet_nil ?_; rintro _ ⟨x, rfl⟩))
  go_loopw [5] (fun v wr => ∃ k : Nat, v = .int .i64 k ∧ k ≤ n ∧ ∃ x : Later w, wr = x.w) (fun v _ => (n - intOf v).toNat)
  case atStart => exact ⟨0, rfl, by omega, Later.of⟩
  case round =>
    obtain ⟨k, rfl, hk, x, rfl⟩ := hrel
    by_cases h : k < n
    · have hlk : k < l.length := by have := HN.out; omega
      obtain ⟨eb, eoff, ex, rfl, ehb, ehd, eh0⟩ := hs.atBool (show k < l.length by omega)
      obtain ⟨fb, foff, fx, rfl, fhb, fhd, fh0⟩ := hs2.atBool (show k < l.length by omega)
      obtain rfl : ex = fx := by have := ehd.out.symm.trans fhd.out; simpa using this
      clear ehd fhd hlk hs hs2
      have k2 : (ex != ex) = false := by simp
      go_wp2_with (first | ((with_reducible refine wp_region_later (by kernel_rfl) (by kernel_rfl) ?_); (repeat (first | go_big_quiet_step (first | fail) | simp only [k2])); refine wpQuiet_nil ?_; rintro _ ⟨x, rfl⟩))
      go_roundw
      case rel => exact ⟨k + 1, by go_num, by omega, Later.of⟩
      case measure => simp [intOf]; omega
    · go_wp2_with (first | ((with_reducible refine wp_region_later (by kernel_rfl) (by kernel_rfl) ?_); (repeat (first | go_big_quiet_step (first | fail))); refine wpQuiet_nil ?_; rintro _ ⟨x, rfl⟩))
      go_ret
      exact Gives.mk rfl

theorem d_ltoStringS {B : Nat} {a : Option Addr} {c : Nat} {l : List ByteArray} {w : World} (hs : RdS B w a c l) (ht : totL l ≤ 1048576) :
    Calls Tryz.prog 39 #[.slice a l.length c] w (GivesDS w l) := by
  have hln := totL_len l
  have HT := Lib.hid (show ∀ x ∈ l, Enc.tot x ≤ 1048576 from fun x hx => Int.le_trans (totL_mem hx) ht)
  obtain ⟨n, hn⟩ : ∃ n, l.length = n := ⟨_, rfl⟩
  have HN := Lib.hid hn
  have hm : n ≤ 1048576 := by omega
  rw [hn]; clear ht hln hn
  obtain ⟨C, hC, hmk⟩ := run_mk (P := Tryz.prog) Tryz.underlying30 (e := 9) (z := .string ByteArray.empty) (size := 1) (bytes := 16) (by kernel_rfl) n (by omega) (by omega)
  have hCz : C.size = n := by rw [hC, size_madeCells, Nat.mul_one]
  clear hC
  go_enter Tryz.func39, Tryz.ntmps39
  go_wp2_with (first | ((with_reducible refine wp_region_later (by kernel_rfl) (by kernel_rfl) ?_); (repeat (first | go_big_quiet_step (first | fail))); refine wpQuiet_nil ?_; rintro _ ⟨x, rfl⟩))
  clear hmk
  go_loopw [4] (fun v wr => ∃ k : Nat, v = .int .i64 k ∧ k ≤ n ∧ ∃ (D : Array Value) (x : Later (w.alloc (.cells D 9))), D.size = n ∧ Hid (RowsIn (w.heap.size + 1) x.w D (l.take k)) ∧ wr = x.w) (fun v _ => (n - intOf v).toNat)
  case atStart => exact ⟨0, rfl, by omega, C, Later.here _, hCz, by rw [List.take_zero]; exact RowsIn.nil, rfl⟩
  case round =>
    obtain ⟨k, rfl, hk, D, x, hDz, hf, rfl⟩ := hrel
    by_cases h : k < n
    · have hlk : k < l.length := by have := HN.out; omega
      obtain ⟨eb, eoff, ex, rfl, ehb, ehd, eok, eh0⟩ := hs.atStr (show k < l.length by omega)
      obtain ⟨o0, g0⟩ := getD_lt hDz (show k < n by omega)
      go_wp2_with (first | ((with_reducible refine wp_region_later (by kernel_rfl) (by kernel_rfl) ?_); (repeat (first | go_big_quiet_step (first | fail))); refine wpQuiet_nil ?_; rintro _ ⟨x, rfl⟩))
      go_roundw
      case rel =>
        obtain ⟨x2, hx2⟩ := Later.set1_at x k (.string ex)
        rw [hx2]
        have hP := RowsIn.put (W' := x2.w) hf.out ehd.out h HN.out (show D.size = n * 1 by omega) (vs := [.string ex]) ⟨rfl, eok⟩ (by rw [← hx2]; infer_instance)
        rw [show k * Enc.size ByteArray = k from Nat.mul_one k] at hP
        exact ⟨k + 1, by go_num, by omega, D.setIfInBounds k _, x2, by simpa using hDz, hP, rfl⟩
      case measure => simp [intOf]; omega
    · go_wp2_with (first | ((with_reducible refine wp_region_later (by kernel_rfl) (by kernel_rfl) ?_); (repeat (first | go_big_quiet_step (first | fail))); refine wpQuiet_nil ?_; rintro _ ⟨x, rfl⟩))
      go_ret
      have hf2 := hf.out
      rw [List.take_of_length_le (by have := HN.out; omega)] at hf2
      exact ⟨_, n, by rw [HN.out]; rfl, RowsIn.done x hf2 HN.out hm (by omega), ⟨x.w, Grows.out⟩, rfl⟩

theorem d_lszStringS {B : Nat} {a : Option Addr} {c : Nat} {l : List ByteArray} {left : Int} {w : World} (hs : RdS B w a c l) (hl : 0 ≤ left) (hl2 : left ≤ 1048576) :
    Calls Tryz.prog 31 #[.slice a l.length c, .int .i64 left] w (Gives w (.int .i64 (szD left (totL l)))) := by
  have hmx := hs.max
  have hln := totL_len l
  obtain ⟨n, hn⟩ : ∃ n, l.length = n := ⟨_, rfl⟩
  rw [hn] at hln hmx
  rw [hn]
  have HN := Lib.hid hn; clear hn
  by_cases h : left - n < 0
  · have HV := Lib.hid (show szD left (totL l) = -1 from szD_neg (by omega))
    go_enter Tryz.func31, Tryz.ntmps31
    go_wp2_with (first | ((with_reducible refine wp_region_later (by kernel_rfl) (by kernel_rfl) ?_); (repeat (first | go_big_quiet_step (first | fail))); refine wpQuiet_nil ?_; rintro _ ⟨x, rfl⟩))
    go_ret
    exact Gives.mk (by rw [HV.out]; rfl)
  · go_enter Tryz.func31, Tryz.ntmps31
    go_wp2_with (first | ((with_reducible refine wp_region_later (by kernel_rfl) (by kernel_rfl) ?_); (repeat (first | go_big_quiet_step (first | fail))); refine wpQuiet_nil ?_; rintro _ ⟨x, rfl⟩))
    go_loopw [1, 5] (fun u v wr => ∃ (k : Nat) (r : Int), v = .int .i64 k ∧ u = .int .i64 r ∧ k ≤ n ∧ 0 ≤ r ∧ r ≤ 1048576 ∧ Hid (r - totL (l.drop k) + (n - k) = left - totL l) ∧ ∃ x : Later w, wr = x.w) (fun _ v _ => (n - intOf v).toNat)
    case atStart => exact ⟨0, left - n, rfl, by go_num, by omega, by omega, by omega, by unfold Hid; rw [List.drop_zero]; omega, Later.of⟩
    case round =>
      obtain ⟨k, r, rfl, rfl, hk, hr, hr2, hf, x, rfl⟩ := hrel
      by_cases h2 : k < n
      · have hlk : k < l.length := by have := HN.out; omega
        obtain ⟨eb, eoff, ex, rfl, ehb, ehd, eok, eh0⟩ := hs.atStr (show k < l.length by omega)
        have hd2 := totL_len (l.drop (k + 1))
        have HD2 := Lib.hid (show ((n : Int) - k - 1 ≤ totL (l.drop (k + 1))) by rw [List.length_drop, HN.out] at hd2; omega); clear hd2 hlk
        have ht0 := Enc.tot_nonneg ex
        obtain ⟨t, htt⟩ : ∃ t, Enc.tot ex = t := ⟨_, rfl⟩
        have hf2 : Hid (r - (1 + t + totL (l.drop (k + 1))) + (n - k) = left - totL l) := by
          have := hf.out; rw [ehd.out] at this; rw [← htt]; exact this
        rw [htt] at ht0
        have HTT := Lib.hid htt; clear htt hf
        have hts : (ex.size : Int) = t := HTT.out
        have HTS := Lib.hid hts; clear hts
        by_cases h3 : r - ex.size < 0
        · have HV := Lib.hid (show szD left (totL l) = -1 from szD_neg (by have h7 := hf2.out; have h8 := HD2.out; have h9 := HTS.out; omega))
          go_wp2_with (first | ((with_reducible refine wp_region_later (by kernel_rfl) (by kernel_rfl) ?_); (repeat (first | go_big_quiet_step (first | fail))); refine wpQuiet_nil ?_; rintro _ ⟨x, rfl⟩))
          go_ret
          exact Gives.mk (by rw [HV.out]; rfl)
        · go_wp2_with (first | ((with_reducible refine wp_region_later (by kernel_rfl) (by kernel_rfl) ?_); (repeat (first | go_big_quiet_step (first | fail))); refine wpQuiet_nil ?_; rintro _ ⟨x, rfl⟩))
          go_roundw
          case rel => exact ⟨k + 1, r - ex.size, by go_num, by go_num, by omega, by omega, by omega, by have h7 := hf2.out; have h9 := HTS.out; unfold Hid; omega, Later.of⟩
          case measure => simp [intOf]; omega
      · have HV := Lib.hid (show szD left (totL l) = r by
          have h7 := hf.out
          rw [List.drop_of_length_le (by have := HN.out; omega)] at h7
          simp only [totL] at h7
          rw [szD_pos (by omega)]; omega)
        go_wp2_with (first | ((with_reducible refine wp_region_later (by kernel_rfl) (by kernel_rfl) ?_); (repeat (first | go_big_quiet_step (first | fail))); refine wpQuiet_nil ?_; rintro _ ⟨x, rfl⟩))
        go_ret
        exact Gives.mk (by rw [HV.out]; rfl)

theorem d_leqStringS {B B2 : Nat} {a a2 : Option Addr} {c c2 : Nat} {l : List ByteArray} {w : World} (hs : RdS B w a c l) (hs2 : RdS B2 w a2 c2 l) :
    Calls Tryz.prog 48 #[.slice a l.length c, .slice a2 l.length c2] w (Gives w (.bool true)) := by
  have hmx := hs.max
  obtain ⟨n, hn⟩ : ∃ n, l.length = n := ⟨_, rfl⟩
  rw [hn] at hmx
  rw [hn]
  have HN := Lib.hid hn; clear hn
  have kn : ((n : Int) != (n : Int)) = false := by simp
  go_enter Tryz.func48, Tryz.ntmps48
  go_wp2_with (first | ((with_reducible refine wp_region_later (by kernel_rfl) (by kernel_rfl) ?_); (repeat (first | go_big_quiet_step (first | fail) | simp only [kn])); refine wpQuiet_nil ?_; rintro _ ⟨x, rfl⟩))
  go_loopw [5] (fun v wr => ∃ k : Nat, v = .int .i64 k ∧ k ≤ n ∧ ∃ x : Later w, wr = x.w) (fun v _ => (n - intOf v).toNat)
  case atStart => exact ⟨0, rfl, by omega, Later.of⟩
  case round =>
    obtain ⟨k, rfl, hk, x, rfl⟩ := hrel
    by_cases h : k < n
    · have hlk : k < l.length := by have := HN.out; omega
      obtain ⟨eb, eoff, ex, rfl, ehb, ehd, eok, eh0⟩ := hs.atStr (show k < l.length by omega)
      obtain ⟨fb, foff, fx, rfl, fhb, fhd, fok, fh0⟩ := hs2.atStr (show k < l.length by omega)
      obtain rfl : ex = fx := by have := ehd.out.symm.trans fhd.out; simpa using this
      clear ehd fhd hlk hs hs2
      have k2 : (ex.toList != ex.toList) = false := by simp
      go_wp2_with (first | ((with_reducible refine wp_region_later (by kernel_rfl) (by kernel_rfl) ?_); (repeat (first | go_big_quiet_step (first | fail) | simp only [k2])); refine wpQuiet_nil ?_; rintro _ ⟨x, rfl⟩))
      go_roundw
      case rel => exact ⟨k + 1, by go_num, by omega, Later.of⟩
      case measure => simp [intOf]; omega
    · go_wp2_with (first | ((with_reducible refine wp_region_later (by kernel_rfl) (by kernel_rfl) ?_); (repeat (first | go_big_quiet_step (first | fail))); refine wpQuiet_nil ?_; rintro _ ⟨x, rfl⟩))
      go_ret
      exact Gives.mk rfl

end Go.Proofs.YtdankjbkioepgaaGreat
