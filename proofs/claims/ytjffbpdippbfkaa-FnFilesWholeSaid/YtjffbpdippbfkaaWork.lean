/- The contracts of what draws a piece of work: an orbit and a list of requests. No condition but on lengths. -/
import Derived.Test.YtjffbpdippbfkaaDraw
import Derived.Test.YtjffbpdippbfkaaReq
import Derived.Deep.RegionHeld3
namespace Go.Proofs.Ytjffbpdippbfkaa
set_option linter.unusedVariables false
open Go.ChangeShapes Go.WideShapes Go.ChangeAt Go.RowKit

theorem held_cell {W : World} {B : Nat} {cs : Array Value} {T : TypeId} (h : W.heap[B]? = some (.cells cs T)) (i : Nat) : W.cell? ⟨B, i, none⟩ = cs[i]? := by simp [World.cell?, h]
theorem held_frozen {W : World} {B : Nat} {cs : Array Value} {T : TypeId} (h : W.heap[B]? = some (.cells cs T)) (i : Nat) : W.frozen? ⟨B, i, none⟩ = false := by simp [World.frozen?, h]
theorem held_new (W : World) (o : Obj) : (W.alloc o).heap[W.heap.size]? = some o := by
  show (W.heap.push _)[W.heap.size]? = _
  simp
theorem held_past {W : World} {B : Nat} {x : Obj} (h : W.heap[B]? = some x) (o : Obj) : (W.alloc o).heap[B]? = some x := by
  rw [Below.heap_alloc _ _ _ (Array.getElem?_eq_some_iff.1 h).1]; exact h
theorem held_grown {w W : World} {B p : Nat} {x : Obj} (hg : w.grownBy W (some p)) (h : w.heap[B]? = some x) (hp : B ≠ p) : W.heap[B]? = some x := by
  rw [hg.block B (Array.getElem?_eq_some_iff.1 h).1 (fun e => hp (Option.some.inj e))]; exact h
theorem held_later {W : World} {B : Nat} {x : Obj} (h : W.heap[B]? = some x) (y : Later W) : y.w.heap[B]? = some x := by
  rw [y.h.block B (Array.getElem?_eq_some_iff.1 h).1]; exact h

/-- 'append(s, y)', the slice's blocks at or above B. -/
theorem wpList_app1B {α : Type} {enc : α → List Value} {T size : Nat} {P : Program} {ops : Array Oper} {rest : List Oper} {o : Oper} {a : Act} {Q : Exit → Act → World → Prop} {B : Nat} {W : World} {T1 : TypeId} {cs : Array Value} {t : TypeId} {bytes : Nat} {z : Value} (y : α)
    (hgd : o.guard = none) (s x : Operand) (ho : o.op = .call { callee := .builtin .append, args := #[s, x], argTypes := #[t, t] })
    (ht : P.underlying t = some (.slice T)) (hinfo : (P.info? T).map (fun i => (i.zero, i.size, i.bytes)) = some (some z, size, bytes)) (hzs : z.cells.size = size) (hsz : 0 < size) (hby : bytes ≤ 1000)
    {l : List α} {n : Nat} {sa : Option Addr} {sc : Nat} (hs : a.eval s = .slice sa n sc) (hx : a.eval x = .slice (some ⟨W.heap.size, 0, none⟩) 1 1) (hn : l.length = n) (hown : Own enc T size B W sa sc l)
    (hy : cs.toList = enc y) (h1 : ∀ u ∈ enc y, u.oneCell' = true) (hb : n ≤ 1000000000) (hB : B ≤ W.heap.size)
    (h : ∀ (sa' : Option Addr) (sc' : Nat) (w' : World), Own enc T size B w' sa' sc' (l ++ [y]) → W.grownBy w' (Value.ownBlock (.slice sa n sc)) → wpList P ops Q rest (a.put o.dst (.slice sa' (n + 1) sc')) w') :
    wpList P ops Q (o :: rest) a (W.alloc (.cells cs T1)) := by
  obtain ⟨i, hi, h3⟩ := Option.map_eq_some_iff.1 hinfo
  simp only [Prod.mk.injEq] at h3
  obtain ⟨h4, h5, h6⟩ := h3
  subst hn
  have hb' : (l.length + 1) * bytes ≤ 140737488355328 := by
    have : (l.length + 1) * bytes ≤ (l.length + 1) * 1000 := Nat.mul_le_mul_left _ hby
    omega
  have hnl : (enc y).length = 1 * size := by rw [hown.1]; omega
  refine wpList_append_own (a := a) (w := W.alloc (.cells cs T1)) hgd s x t ho B T i z size bytes ht hi h4 h5 h6 hzs hsz _ l.length (l.flatMap enc) hs (hown.2.alloc _) ⟨W.heap.size, 0, none⟩ 1 1 (enc y) hx hnl
    (fun j u hj => by rw [cells_new, ← Array.getElem?_toList, hy]; exact hj) h1 (by unfold maxLen; omega) hb' (Nat.le_trans hB (by simp)) ?_
  intro v' w' ho' hg' _
  have hf : xs_form v' (l.length + 1) := by
    rcases ho'.2 with ⟨hv, hn0⟩ | ⟨g', cap, cur, hv, -⟩
    · omega
    · exact ⟨_, _, hv⟩
  obtain ⟨sa', sc', rfl⟩ := hf
  refine h sa' sc' w' ⟨hown.1, ?_⟩ ⟨hg'.os, hg'.tape, hg'.output, Nat.le_trans (by simp) hg'.size, fun k hk hr => ?_⟩
  · rw [List.flatMap_append, List.flatMap_singleton, List.length_append, List.length_singleton]; exact ho'
  · rw [hg'.block k (by simp; omega) hr]; exact Below.heap_alloc _ _ _ hk

theorem reqsFrom_snoc (s : Request) : ∀ (L b : List Request), reqsFrom b (L ++ [s]) = (reqsFrom b L && (inB s.Id 0 255 && (inB s.Ready 0 1000000 && (dueOk s && (inB s.Need 1 100 && idFree s.Id (b ++ L))))))
  | [], b => by simp [reqsFrom]
  | x :: L, b => by
    simp only [List.cons_append, reqsFrom]
    rw [reqsFrom_snoc s L (b ++ [x])]
    simp [Bool.and_assoc, List.append_assoc]
theorem idFree_of {id : Int} : ∀ {L : List Request}, (∀ x ∈ L, x.Id ≠ id) → idFree id L = true
  | [], _ => rfl
  | x :: L, h => by
    simp only [idFree, idFree_of (fun y hy => h y (List.mem_cons_of_mem _ hy)), Bool.and_true]
    have := h x (List.mem_cons_self ..)
    simpa using this

/-- What the draw's requests keep to, with k rounds to go. -/
def drawnReqs (k : Nat) (L : List Request) : Prop :=
  reqsFrom [] L = true ∧ L.length + k ≤ 5 ∧ ∀ x ∈ L, (k : Int) < x.Id % 9 ∧ 0 ≤ x.Id ∧ x.Id ≤ 23 ∧ 0 ≤ x.Ready ∧ x.Ready ≤ 39 ∧ x.Ready ≤ x.Deadline ∧ x.Deadline ≤ 88 ∧ 1 ≤ x.Need ∧ x.Need ≤ 9
theorem drawnReqs_step {k : Nat} {L : List Request} (h : drawnReqs (k + 1) L) {x r d m : Int} (hx : 0 ≤ x ∧ x < 3) (hr : 0 ≤ r ∧ r < 40) (hd : 0 ≤ d ∧ d < 50) (hm : 0 ≤ m ∧ m < 9) :
    drawnReqs k (L ++ [⟨x * 9 + (k + 1 : Nat), r, r + d, 1 + m⟩]) := by
  obtain ⟨h1, h2, h3⟩ := h
  refine ⟨?_, by simp; omega, fun y hy => ?_⟩
  · rw [reqsFrom_snoc, h1, idFree_of (fun y hy he => by have := (h3 y (by simpa using hy)).1; simp only at he; omega)]
    simp [inB, dueOk]
    omega
  · rcases List.mem_append.1 hy with hy | hy
    · have := h3 y hy; omega
    · simp only [List.mem_singleton] at hy
      subst hy
      simp only
      omega
theorem drawnReqs_ok {k : Nat} {L : List Request} (h : drawnReqs k L) : requestsOk L = true := by
  obtain ⟨h1, h2, -⟩ := h
  simp [requestsOk, h1]; omega

theorem Own.belowLater {α : Type} {enc : α → List Value} {T size B : Nat} {W W' : World} {a : Option Addr} {c : Nat} {l : List α} (h : Own enc T size B W a c l) (e : W = W') : Own enc T size B W' a c l := e ▸ h

theorem Later.ofGrownW {W w' : World} {p : Nat} (x : Later W) (hg : x.w.grownBy w' (some p)) (hp : W.heap.size ≤ p) : ∃ y : Later W, w' = y.w :=
  ⟨⟨w', x.h.os ▸ hg.os, by rw [hg.tape, x.h.tape], by rw [hg.output, x.h.output], Nat.le_trans x.h.size hg.size, fun k hk => by
    rw [hg.block k (Nat.lt_of_lt_of_le hk x.h.size) (by simp only [ne_eq, Option.some.injEq]; omega)]; exact x.h.block k hk⟩, rfl⟩
theorem IsCur.drew {w : World} {p : Nat} {a : Option Addr} {n c : Nat} {l : List Int} {i : Nat} (h : IsCur w p a n c l i) : IsCur w.drew p a n c l i := h.kept (Nat.le_refl _) (fun _ _ => rfl)
theorem grownBy_drew {w W : World} {row : Option Nat} (h : w.grownBy W row) : w.grownBy W.drew row := ⟨h.os, h.tape, h.output, h.size, h.block⟩
end Go.Proofs.Ytjffbpdippbfkaa
