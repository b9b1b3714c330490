/- The contracts on slots and pairs: their mirrors and their equality. No condition but on lengths. -/
import Derived.Test.YtjffbpdippbfkaaOpen
namespace Go.Proofs.Ytjffbpdippbfkaa
set_option linter.unusedVariables false
open Go.ChangeShapes Go.WideShapes Go.ChangeAt Go.RowKit

structure Slot where
  Time : Int
  Id : Int

def encSlot (s : Slot) : List Value := [.int .i64 s.Time, .int .i64 s.Id]

theorem encSlot_len (s : Slot) : (encSlot s).length = 2 := rfl

theorem Sl.slot {w : World} {a : Option Addr} {l : List Slot} (h : Sl encSlot w a l) {k : Nat} (hk : k < l.length) :
    ∃ b off s, a = some ⟨b, off, none⟩ ∧ LtN b w.heap.size ∧ Hid (l.drop k = s :: l.drop (k + 1)) ∧ (∀ (W : World) [Grows w W], W.cell? ⟨b, off + k * 2, none⟩ = some (.int .i64 s.Time)) ∧ (∀ (W : World) [Grows w W], W.cell? ⟨b, off + k * 2 + 1, none⟩ = some (.int .i64 s.Id)) := by
  obtain ⟨s, hs, hd⟩ := drop_at hk
  obtain ⟨b, off, ha, hb, hc⟩ := h k s hs
  exact ⟨b, off, s, ha, ⟨hb⟩, hd, cell_grown hb (hc 0 _ rfl), cell_grown hb (hc 1 _ rfl)⟩

def eqSlot (s t : Slot) : Bool := (s.Time == t.Time) && (s.Id == t.Id)

theorem eqSlot_self (s : Slot) : eqSlot s s = true := by simp [eqSlot]

def okSlot (s : Slot) : Prop := i64 s.Time ∧ i64 s.Id ∧ True

theorem flatSlot {w : World} {cs : List Value} (hl : cs.length = 2) (h : RdL w [.int, .int] cs) : ∃ s : Slot, encSlot s = cs ∧ okSlot s := by
  obtain ⟨u0, g0, r0⟩ := h.at (j := 0) rfl
  obtain ⟨x0, rfl, p0⟩ := r0.int_inv
  obtain ⟨u1, g1, r1⟩ := h.at (j := 1) rfl
  obtain ⟨x1, rfl, p1⟩ := r1.int_inv
  refine ⟨⟨x0, x1⟩, (list_all hl ?_).symm, p0, p1, trivial⟩
  intro j y hy
  match j, hy with
  | 0, hy => cases hy; exact g0
  | 1, hy => cases hy; exact g1

structure Pair where
  Board : Int
  True : Int

def encPair (s : Pair) : List Value := [.int .i64 s.Board, .int .i64 s.True]

theorem encPair_len (s : Pair) : (encPair s).length = 2 := rfl

theorem Sl.pair {w : World} {a : Option Addr} {l : List Pair} (h : Sl encPair w a l) {k : Nat} (hk : k < l.length) :
    ∃ b off s, a = some ⟨b, off, none⟩ ∧ LtN b w.heap.size ∧ Hid (l.drop k = s :: l.drop (k + 1)) ∧ (∀ (W : World) [Grows w W], W.cell? ⟨b, off + k * 2, none⟩ = some (.int .i64 s.Board)) ∧ (∀ (W : World) [Grows w W], W.cell? ⟨b, off + k * 2 + 1, none⟩ = some (.int .i64 s.True)) := by
  obtain ⟨s, hs, hd⟩ := drop_at hk
  obtain ⟨b, off, ha, hb, hc⟩ := h k s hs
  exact ⟨b, off, s, ha, ⟨hb⟩, hd, cell_grown hb (hc 0 _ rfl), cell_grown hb (hc 1 _ rfl)⟩

def eqPair (s t : Pair) : Bool := (s.Board == t.Board) && (s.True == t.True)

theorem eqPair_self (s : Pair) : eqPair s s = true := by simp [eqPair]

def okPair (s : Pair) : Prop := i64 s.Board ∧ i64 s.True ∧ True

theorem flatPair {w : World} {cs : List Value} (hl : cs.length = 2) (h : RdL w [.int, .int] cs) : ∃ s : Pair, encPair s = cs ∧ okPair s := by
  obtain ⟨u0, g0, r0⟩ := h.at (j := 0) rfl
  obtain ⟨x0, rfl, p0⟩ := r0.int_inv
  obtain ⟨u1, g1, r1⟩ := h.at (j := 1) rfl
  obtain ⟨x1, rfl, p1⟩ := r1.int_inv
  refine ⟨⟨x0, x1⟩, (list_all hl ?_).symm, p0, p1, trivial⟩
  intro j y hy
  match j, hy with
  | 0, hy => cases hy; exact g0
  | 1, hy => cases hy; exact g1

end Go.Proofs.Ytjffbpdippbfkaa
