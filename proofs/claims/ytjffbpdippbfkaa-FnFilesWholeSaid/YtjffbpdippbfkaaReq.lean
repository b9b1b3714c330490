/- The contracts on requests: RequestsOk and DemandOf. No condition but on lengths. -/
import Derived.Test.YtjffbpdippbfkaaOpen
import Derived.Test.YtjffbpdippbfkaaNum
namespace Go.Proofs.Ytjffbpdippbfkaa
set_option linter.unusedVariables false
open Go.ChangeShapes Go.WideShapes Go.ChangeAt Go.RowKit

structure Request where
  Id : Int
  Ready : Int
  Deadline : Int
  Need : Int

def encRequest (s : Request) : List Value := [.int .i64 s.Id, .int .i64 s.Ready, .int .i64 s.Deadline, .int .i64 s.Need]

theorem encRequest_len (s : Request) : (encRequest s).length = 4 := rfl

theorem Sl.request {w : World} {a : Option Addr} {l : List Request} (h : Sl encRequest w a l) {k : Nat} (hk : k < l.length) :
    ∃ b off s, a = some ⟨b, off, none⟩ ∧ LtN b w.heap.size ∧ Hid (l.drop k = s :: l.drop (k + 1)) ∧ (∀ (W : World) [Grows w W], W.cell? ⟨b, off + k * 4, none⟩ = some (.int .i64 s.Id)) ∧ (∀ (W : World) [Grows w W], W.cell? ⟨b, off + k * 4 + 1, none⟩ = some (.int .i64 s.Ready)) ∧ (∀ (W : World) [Grows w W], W.cell? ⟨b, off + k * 4 + 2, none⟩ = some (.int .i64 s.Deadline)) ∧ (∀ (W : World) [Grows w W], W.cell? ⟨b, off + k * 4 + 3, none⟩ = some (.int .i64 s.Need)) := by
  obtain ⟨s, hs, hd⟩ := drop_at hk
  obtain ⟨b, off, ha, hb, hc⟩ := h k s hs
  exact ⟨b, off, s, ha, ⟨hb⟩, hd, cell_grown hb (hc 0 _ rfl), cell_grown hb (hc 1 _ rfl), cell_grown hb (hc 2 _ rfl), cell_grown hb (hc 3 _ rfl)⟩

def eqRequest (s t : Request) : Bool := (s.Id == t.Id) && (s.Ready == t.Ready) && (s.Deadline == t.Deadline) && (s.Need == t.Need)

theorem eqRequest_self (s : Request) : eqRequest s s = true := by simp [eqRequest]

def okRequest (s : Request) : Prop := i64 s.Id ∧ i64 s.Ready ∧ i64 s.Deadline ∧ i64 s.Need ∧ True

theorem flatRequest {w : World} {cs : List Value} (hl : cs.length = 4) (h : RdL w [.int, .int, .int, .int] cs) : ∃ s : Request, encRequest s = cs ∧ okRequest s := by
  obtain ⟨u0, g0, r0⟩ := h.at (j := 0) rfl
  obtain ⟨x0, rfl, p0⟩ := r0.int_inv
  obtain ⟨u1, g1, r1⟩ := h.at (j := 1) rfl
  obtain ⟨x1, rfl, p1⟩ := r1.int_inv
  obtain ⟨u2, g2, r2⟩ := h.at (j := 2) rfl
  obtain ⟨x2, rfl, p2⟩ := r2.int_inv
  obtain ⟨u3, g3, r3⟩ := h.at (j := 3) rfl
  obtain ⟨x3, rfl, p3⟩ := r3.int_inv
  refine ⟨⟨x0, x1, x2, x3⟩, (list_all hl ?_).symm, p0, p1, p2, p3, trivial⟩
  intro j y hy
  match j, hy with
  | 0, hy => cases hy; exact g0
  | 1, hy => cases hy; exact g1
  | 2, hy => cases hy; exact g2
  | 3, hy => cases hy; exact g3

def idFree (id : Int) : List Request → Bool
  | [] => true
  | s :: r => !(s.Id == id) && idFree id r

def dueOk (s : Request) : Bool := inB s.Deadline s.Ready (min 1000000 (s.Ready + 2000))

def reqsFrom : List Request → List Request → Bool
  | _, [] => true
  | b, s :: r => inB s.Id 0 255 && (inB s.Ready 0 1000000 && (dueOk s && (inB s.Need 1 100 && (idFree s.Id b && reqsFrom (b ++ [s]) r))))

def requestsOk (l : List Request) : Bool := decide (l.length ≤ 12) && reqsFrom [] l

theorem drop_take_at {α : Type} {l : List α} {s : α} {j k : Nat} (hj : j < k) (h : l.drop j = s :: l.drop (j + 1)) : (l.take k).drop j = s :: (l.take k).drop (j + 1) := by
  have h1 : l[j]? = some s := by have := congrArg (fun m => m[0]?) h; simpa using this
  have h2 : (l.take k)[j]? = some s := by rw [List.getElem?_take, if_pos hj, h1]
  obtain ⟨h3, h4⟩ := List.getElem?_eq_some_iff.1 h2
  rw [List.drop_eq_getElem_cons h3, h4]

theorem due_cases (R : Int) : ∃ M, min 1000000 (R + 2000) = M ∧ (M = R + 2000 ∧ R + 2000 < 1000000 ∨ M = 1000000 ∧ 1000000 ≤ R + 2000) :=
  ⟨_, rfl, by omega⟩
end Go.Proofs.Ytjffbpdippbfkaa
