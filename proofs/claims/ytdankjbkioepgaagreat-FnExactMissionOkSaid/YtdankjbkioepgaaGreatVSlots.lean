/- The contracts on slots and pairs: their mirrors and their equality. No condition but on lengths. -/
import Derived.Test.YtdankjbkioepgaaGreatVM0
namespace Go.Proofs.YtdankjbkioepgaaGreat
set_option linter.unusedVariables false
open Go.ChangeShapes Go.WideShapes Go.ChangeAt Go.RowKit

structure Slot where
  Time : Int
  Id : Int

structure Pair where
  Board : Int
  True : Int

def encPair (s : Pair) : List Value := [.int .i64 s.Board, .int .i64 s.True]

theorem Sl.pair {w : World} {a : Option Addr} {l : List Pair} (h : Sl encPair w a l) {k : Nat} (hk : k < l.length) :
    ∃ b off s, a = some ⟨b, off, none⟩ ∧ LtN b w.heap.size ∧ Hid (l.drop k = s :: l.drop (k + 1)) ∧ (∀ (W : World) [Grows w W], W.cell? ⟨b, off + k * 2, none⟩ = some (.int .i64 s.Board)) ∧ (∀ (W : World) [Grows w W], W.cell? ⟨b, off + k * 2 + 1, none⟩ = some (.int .i64 s.True)) := by
  obtain ⟨s, hs, hd⟩ := drop_at hk
  obtain ⟨b, off, ha, hb, hc⟩ := h k s hs
  exact ⟨b, off, s, ha, ⟨hb⟩, hd, cell_grown hb (hc 0 _ rfl), cell_grown hb (hc 1 _ rfl)⟩

end Go.Proofs.YtdankjbkioepgaaGreat
