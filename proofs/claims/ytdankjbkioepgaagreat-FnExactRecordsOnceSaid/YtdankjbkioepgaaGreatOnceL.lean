/- Each number once: two ways to say it. No program. -/
import Derived.Test.YtdankjbkioepgaaGreatNum
namespace Go.Proofs.YtdankjbkioepgaaGreat
set_option linter.unusedVariables false
open Go.ChangeShapes Go.WideShapes Go.ChangeAt Go.RowKit

/-- The numbers below N, each counted in a list, summed up. -/
def sumTo (f : Nat → Nat) : Nat → Nat
  | 0 => 0
  | N + 1 => sumTo f N + f N
theorem sumTo_cons (x : Int) (r : List Int) : ∀ N : Nat, sumTo (fun i => (x :: r).count (i : Int)) N = sumTo (fun i => r.count (i : Int)) N + (if 0 ≤ x ∧ x < N then 1 else 0)
  | 0 => by
    have : ¬ (0 ≤ x ∧ x < ((0 : Nat) : Int)) := by omega
    rw [if_neg this]; rfl
  | N + 1 => by
    have ih := sumTo_cons x r N
    have hc : (x :: r).count (N : Int) = r.count (N : Int) + (if x = (N : Int) then 1 else 0) := by simp [List.count_cons]
    show sumTo (fun i => (x :: r).count (i : Int)) N + (x :: r).count (N : Int) = (sumTo (fun i => r.count (i : Int)) N + r.count (N : Int)) + _
    rw [ih, hc]
    by_cases h1 : x = (N : Int)
    · rw [if_pos h1, if_neg (by omega), if_pos (by omega)]; omega
    · rw [if_neg h1]
      by_cases h2 : 0 ≤ x ∧ x < (N : Int)
      · rw [if_pos h2, if_pos (by omega)]; omega
      · rw [if_neg h2, if_neg (by omega)]; omega
theorem sumTo_nil (N : Nat) : sumTo (fun i => ([] : List Int).count (i : Int)) N = 0 := by
  induction N with
  | zero => rfl
  | succ N ih => rw [sumTo, ih]; rfl
theorem sumTo_le (N : Nat) : ∀ l : List Int, sumTo (fun i => l.count (i : Int)) N ≤ l.length
  | [] => by rw [sumTo_nil]; exact Nat.le_refl _
  | x :: r => by
    have := sumTo_le N r
    rw [sumTo_cons, List.length_cons]
    split <;> omega
theorem sumTo_all (N : Nat) : ∀ l : List Int, sumTo (fun i => l.count (i : Int)) N = l.length ↔ ∀ x ∈ l, 0 ≤ x ∧ x < (N : Int)
  | [] => by rw [sumTo_nil]; exact ⟨(fun _ x hx => by cases hx), (fun _ => rfl)⟩
  | x :: r => by
    have h1 := sumTo_le N r
    have ih := sumTo_all N r
    rw [sumTo_cons, List.length_cons]
    constructor
    · intro h y hy
      by_cases hx : 0 ≤ x ∧ x < (N : Int)
      · rw [if_pos hx] at h
        rcases List.mem_cons.1 hy with rfl | hy
        · exact hx
        · exact ih.1 (by omega) y hy
      · rw [if_neg hx] at h; omega
    · intro h
      rw [if_pos (h x (List.mem_cons_self ..)), ih.2 (fun y hy => h y (List.mem_cons_of_mem _ hy))]
theorem sumTo_one {f : Nat → Nat} : ∀ N : Nat, (∀ i, i < N → f i = 1) → sumTo f N = N
  | 0, _ => rfl
  | N + 1, h => by rw [sumTo, sumTo_one N (fun i hi => h i (by omega)), h N (by omega)]
theorem sumTo_bd {f : Nat → Nat} : ∀ N : Nat, (∀ i, i < N → f i ≤ 1) → sumTo f N ≤ N
  | 0, _ => Nat.le_refl _
  | N + 1, h => by have := sumTo_bd N (fun i hi => h i (by omega)); have := h N (by omega); rw [sumTo]; omega
theorem sumTo_full {f : Nat → Nat} : ∀ N : Nat, (∀ i, i < N → f i ≤ 1) → sumTo f N = N → ∀ i, i < N → f i = 1
  | 0, _, _, i, hi => by omega
  | N + 1, h, hs, i, hi => by
    have h1 := sumTo_bd N (fun i hi => h i (by omega))
    have h2 := h N (by omega)
    rw [sumTo] at hs
    by_cases hiN : i = N
    · subst hiN; omega
    · exact sumTo_full N (fun i hi => h i (by omega)) (by omega) i (by omega)

def countsOne (l : List Int) : Nat → Bool
  | 0 => true
  | N + 1 => countsOne l N && decide (l.count (N : Int) = 1)
theorem countsOne_iff (l : List Int) : ∀ N : Nat, countsOne l N = true ↔ ∀ i, i < N → l.count (i : Int) = 1
  | 0 => by simp [countsOne]
  | N + 1 => by
    rw [countsOne, Bool.and_eq_true, countsOne_iff l N, decide_eq_true_eq]
    constructor
    · rintro ⟨h1, h2⟩ i hi
      by_cases h : i = N
      · subst h; exact h2
      · exact h1 i (by omega)
    · intro h
      exact ⟨fun i hi => h i (by omega), h N (by omega)⟩
def onceGo (n : Int) : List Int → List Int → Bool
  | _, [] => true
  | seen, x :: r => inB x 0 (n - 1) && (!(seen.contains x) && onceGo n (x :: seen) r)
theorem onceGo_iff (n : Int) : ∀ (l seen : List Int), onceGo n seen l = true ↔ (∀ x ∈ l, 0 ≤ x ∧ x < n) ∧ ∀ x ∈ l, x ∉ seen ∧ l.count x ≤ 1
  | [], seen => by simp [onceGo]
  | x :: r, seen => by
    have ih := onceGo_iff n r (x :: seen)
    rw [onceGo, Bool.and_eq_true, Bool.and_eq_true, ih, inB_iff]
    simp only [Bool.not_eq_true', List.contains_eq_mem, decide_eq_false_iff_not, List.mem_cons, not_or]
    constructor
    · rintro ⟨hx, hs, h1, h2⟩
      refine ⟨?_, ?_⟩
      · rintro y (rfl | hy)
        · omega
        · exact h1 y hy
      · rintro y (rfl | hy)
        · refine ⟨hs, ?_⟩
          have : y ∉ r := fun hm => (h2 y hm).1.1 rfl
          rw [List.count_cons_self, List.count_eq_zero.2 this]
          exact Nat.le_refl _
        · refine ⟨(h2 y hy).1.2, ?_⟩
          rw [List.count_cons_of_ne (fun e => (h2 y hy).1.1 e.symm)]
          exact (h2 y hy).2
    · rintro ⟨h1, h2⟩
      have hx := h1 x (.inl rfl)
      have hxr : x ∉ r := fun hm => by
        have := (h2 x (.inl rfl)).2
        rw [List.count_cons_self] at this
        have h3 := List.count_pos_iff.2 hm
        omega
      refine ⟨by omega, (h2 x (.inl rfl)).1, fun y hy => h1 y (.inr hy), fun y hy => ?_⟩
      have hne : y ≠ x := fun e => hxr (e ▸ hy)
      refine ⟨⟨hne, (h2 y (.inr hy)).1⟩, ?_⟩
      have := (h2 y (.inr hy)).2
      rwa [List.count_cons_of_ne (fun e => hne e.symm)] at this
/-- The two ways come to the same for a list of that length. -/
theorem once_same {l : List Int} {N : Nat} (h : l.length = N) : onceGo N [] l = countsOne l N := by
  rw [Bool.eq_iff_iff, onceGo_iff, countsOne_iff]
  constructor
  · rintro ⟨h1, h2⟩
    have hs := (sumTo_all N l).2 h1
    refine sumTo_full N (fun i _ => ?_) (by rw [hs, h])
    by_cases hi : (i : Int) ∈ l
    · exact (h2 _ hi).2
    · rw [List.count_eq_zero.2 hi]; omega
  · intro h1
    have hs := sumTo_one N h1
    have h2 := (sumTo_all N l).1 (by rw [hs, h])
    refine ⟨h2, fun x hx => ⟨by simp, ?_⟩⟩
    obtain ⟨hx0, hx1⟩ := h2 x hx
    obtain ⟨i, rfl⟩ := Int.eq_ofNat_of_zero_le hx0
    exact Nat.le_of_eq (h1 i (by omega))
def once (l : List Int) (t : Int) : Bool := decide (l.length = t.toNat) && countsOne l t.toNat
end Go.Proofs.YtdankjbkioepgaaGreat
