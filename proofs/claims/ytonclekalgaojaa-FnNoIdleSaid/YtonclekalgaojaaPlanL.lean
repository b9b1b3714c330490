/- The plan as a function of lists, and what it keeps to. No program in sight. -/
import Derived.Test.YtonclekalgaojaaVisL
import Derived.Test.YtonclekalgaojaaMissed
import Derived.Test.YtonclekalgaojaaFeas
import Derived.Test.YtonclekalgaojaaPlanOk
namespace Go.Proofs.Ytonclekalgaojaa
set_option linter.unusedVariables false
open Go.ChangeShapes Go.WideShapes Go.ChangeAt Go.RowKit

/-! ### One time: who gets it, and when is the next one wanted -/
/-- Does the request want the time, with g slots left to get? -/
def wants (t : Int) (r : Request) (g : Int) : Bool := !(g == 0) && inB t r.Ready r.Deadline
def beats (r : Request) : Option (Nat × Request) → Bool
  | none => true
  | some (_, b) => decide (r.Deadline < b.Deadline) || ((r.Deadline == b.Deadline) && decide (r.Id < b.Id))
def pick (t : Int) : Option (Nat × Request) → Nat → List Request → List Int → Option (Nat × Request)
  | o, k, r :: rs, g :: gs => pick t (if (wants t r g && beats r o) = true then some (k, r) else o) (k + 1) rs gs
  | o, _, _, _ => o
def nextStep (t : Int) (n : Int) (r : Request) (g : Int) : Int :=
  if ((g == 0) || decide (r.Deadline < t)) = true then n else if (decide (n < 0) || decide (max t r.Ready < n)) = true then max t r.Ready else n
def nextW (t : Int) : Int → List Request → List Int → Int
  | n, r :: rs, g :: gs => nextW t (nextStep t n r g) rs gs
  | n, _, _ => n

/-- Nobody wants a time. -/
def idle (t : Int) : List Request → List Int → Prop
  | r :: rs, g :: gs => wants t r g = false ∧ idle t rs gs
  | _, _ => True

theorem pick_idle {t : Int} : ∀ {rs : List Request} {gs : List Int} {o : Option (Nat × Request)} {k : Nat}, idle t rs gs → pick t o k rs gs = o
  | [], _, _, _, _ => by simp [pick]
  | _ :: _, [], _, _, _ => by simp [pick]
  | r :: rs, g :: gs, o, k, h => by
    rw [pick, h.1]
    simpa using pick_idle h.2

/-- What the pick is: the first one, or one of those that want the time, and none that want it beats it. -/
theorem pick_spec {t : Int} : ∀ {rs : List Request} {gs : List Int} {o : Option (Nat × Request)} {k : Nat},
    (pick t o k rs gs = o ∨ ∃ i r g, rs[i]? = some r ∧ gs[i]? = some g ∧ wants t r g = true ∧ pick t o k rs gs = some (k + i, r))
  | [], _, o, k => .inl (by simp [pick])
  | _ :: _, [], o, k => .inl (by simp [pick])
  | r :: rs, g :: gs, o, k => by
    rw [pick]
    by_cases h : (wants t r g && beats r o) = true
    · rw [if_pos h]
      simp only [Bool.and_eq_true] at h
      rcases pick_spec (t := t) (rs := rs) (gs := gs) (o := some (k, r)) (k := k + 1) with h1 | ⟨i, r', g', h1, h2, h3, h4⟩
      · exact .inr ⟨0, r, g, rfl, rfl, h.1, by rw [h1, Nat.add_zero]⟩
      · exact .inr ⟨i + 1, r', g', h1, h2, h3, by rw [h4]; congr 2; omega⟩
    · rw [if_neg h]
      rcases pick_spec (t := t) (rs := rs) (gs := gs) (o := o) (k := k + 1) with h1 | ⟨i, r', g', h1, h2, h3, h4⟩
      · exact .inl h1
      · exact .inr ⟨i + 1, r', g', h1, h2, h3, by rw [h4]; congr 2; omega⟩

/-- The deadline of the pick is the least of those that want the time. -/
theorem pick_least {t : Int} : ∀ {rs : List Request} {gs : List Int} {o : Option (Nat × Request)} {k : Nat},
    (∀ (i : Nat) r g, rs[i]? = some r → gs[i]? = some g → wants t r g = true → ∃ j b, pick t o k rs gs = some (j, b) ∧ b.Deadline ≤ r.Deadline) ∧
    (∀ j b, o = some (j, b) → ∃ j' b', pick t o k rs gs = some (j', b') ∧ b'.Deadline ≤ b.Deadline)
  | [], _, o, k => ⟨fun i r g h => by simp at h, fun j b h => ⟨j, b, by simp [pick, h], Int.le_refl _⟩⟩
  | _ :: _, [], o, k => ⟨fun i r g _ h => by simp at h, fun j b h => ⟨j, b, by simp [pick, h], Int.le_refl _⟩⟩
  | r :: rs, g :: gs, o, k => by
    rw [pick]
    have key : ∀ j b, o = some (j, b) → ∃ j' b', (if (wants t r g && beats r o) = true then some (k, r) else o) = some (j', b') ∧ b'.Deadline ≤ b.Deadline := by
      intro j b hb
      by_cases h : (wants t r g && beats r o) = true
      · rw [if_pos h]
        simp only [Bool.and_eq_true] at h
        have h2 := h.2
        rw [hb] at h2
        simp only [beats, Bool.or_eq_true, decide_eq_true_eq, Bool.and_eq_true, beq_iff_eq] at h2
        exact ⟨k, r, rfl, by omega⟩
      · rw [if_neg h]; exact ⟨j, b, hb, Int.le_refl _⟩
    have ih := pick_least (t := t) (rs := rs) (gs := gs) (o := if (wants t r g && beats r o) = true then some (k, r) else o) (k := k + 1)
    refine ⟨fun i r' g' h1 h2 h3 => ?_, fun j b hb => ?_⟩
    · match i with
      | 0 =>
        simp only [List.getElem?_cons_zero, Option.some.injEq] at h1 h2
        subst h1; subst h2
        by_cases h : beats r o = true
        · have hh : (if (wants t r g && beats r o) = true then some (k, r) else o) = some (k, r) := by rw [h3, h]; rfl
          exact ih.2 k r hh
        · cases o with
          | none => simp [beats] at h
          | some jb =>
            obtain ⟨j, b⟩ := jb
            simp only [beats, Bool.or_eq_true, decide_eq_true_eq, Bool.and_eq_true, beq_iff_eq] at h
            obtain ⟨j', b', h4, h5⟩ := key j b rfl
            obtain ⟨j2, b2, h6, h7⟩ := ih.2 j' b' h4
            exact ⟨j2, b2, h6, by omega⟩
      | i + 1 => exact ih.1 i r' g' (by simpa using h1) (by simpa using h2) h3
    · obtain ⟨j', b', h4, h5⟩ := key j b hb
      obtain ⟨j2, b2, h6, h7⟩ := ih.2 j' b' h4
      exact ⟨j2, b2, h6, by omega⟩

theorem pick_none {t : Int} {rs : List Request} {gs : List Int} {k : Nat} (h : pick t none k rs gs = none) : ∀ (i : Nat) r g, rs[i]? = some r → gs[i]? = some g → wants t r g = false := fun i r g h1 h2 => by
  cases h3 : wants t r g
  · rfl
  · obtain ⟨j, b, h4, -⟩ := (pick_least (t := t) (rs := rs) (gs := gs) (o := none) (k := k)).1 i r g h1 h2 h3
    rw [h] at h4; cases h4
theorem pick_some {t : Int} {rs : List Request} {gs : List Int} {j : Nat} {b : Request} (h : pick t none 0 rs gs = some (j, b)) : ∃ g, rs[j]? = some b ∧ gs[j]? = some g ∧ wants t b g = true := by
  rcases pick_spec (t := t) (rs := rs) (gs := gs) (o := none) (k := 0) with h1 | ⟨i, r, g, h1, h2, h3, h4⟩
  · rw [h1] at h; cases h
  · rw [h4] at h
    simp only [Nat.zero_add, Option.some.injEq, Prod.mk.injEq] at h
    obtain ⟨rfl, rfl⟩ := h
    exact ⟨g, h1, h2, h3⟩

theorem idle_iff {t : Int} : ∀ {rs : List Request} {gs : List Int}, idle t rs gs ↔ ∀ (i : Nat) r g, rs[i]? = some r → gs[i]? = some g → wants t r g = false
  | [], _ => by simp [idle]
  | _ :: _, [] => by simp [idle]
  | r :: rs, g :: gs => by
    rw [idle, idle_iff (rs := rs)]
    constructor
    · rintro ⟨h1, h2⟩ i r' g' hr hg
      match i with
      | 0 => simp only [List.getElem?_cons_zero, Option.some.injEq] at hr hg; subst hr; subst hg; exact h1
      | i + 1 => exact h2 i r' g' (by simpa using hr) (by simpa using hg)
    · intro h
      exact ⟨h 0 r g rfl rfl, fun i r' g' hr hg => h (i + 1) r' g' (by simpa using hr) (by simpa using hg)⟩

/-- What the next wanted time is. -/
theorem nextW_spec {t : Int} (ht : 0 ≤ t) : ∀ {rs : List Request} {gs : List Int} {n : Int}, (n = -1 ∨ t ≤ n) →
    (nextW t n rs gs = -1 ∧ n = -1 ∧ (∀ u, t ≤ u → idle u rs gs)) ∨ (t ≤ nextW t n rs gs ∧ (n ≠ -1 → nextW t n rs gs ≤ n) ∧ (∀ u, t ≤ u → u < nextW t n rs gs → idle u rs gs) ∧ (n ≠ nextW t n rs gs → ∃ r ∈ rs, nextW t n rs gs ≤ max r.Ready r.Deadline))
  | [], gs, n, hn => by
    rcases hn with rfl | hn
    · exact .inl ⟨by simp [nextW], rfl, fun _ _ => by simp [idle]⟩
    · exact .inr ⟨by simpa [nextW] using hn, fun _ => by simp [nextW], fun _ _ _ => by simp [idle], fun h => by simp [nextW] at h⟩
  | _ :: _, [], n, hn => by
    rcases hn with rfl | hn
    · exact .inl ⟨by simp [nextW], rfl, fun _ _ => by simp [idle]⟩
    · exact .inr ⟨by simpa [nextW] using hn, fun _ => by simp [nextW], fun _ _ _ => by simp [idle], fun h => by simp [nextW] at h⟩
  | r :: rs, g :: gs, n, hn => by
    rw [nextW]
    by_cases h1 : ((g == 0) || decide (r.Deadline < t)) = true
    · have e : nextStep t n r g = n := by rw [nextStep, if_pos h1]
      rw [e]
      have hno : ∀ u, t ≤ u → wants u r g = false := by
        intro u hu
        simp only [Bool.or_eq_true, beq_iff_eq, decide_eq_true_eq] at h1
        unfold wants
        rcases h1 with h1 | h1
        · simp [h1]
        · have : inB u r.Ready r.Deadline = false := by simp [inB]; omega
          simp [this]
      rcases nextW_spec ht (rs := rs) (gs := gs) hn with ⟨a, b, c⟩ | ⟨a, b, c, d⟩
      · exact .inl ⟨a, b, fun u hu => ⟨hno u hu, c u hu⟩⟩
      · exact .inr ⟨a, b, fun u hu hu' => ⟨hno u hu, c u hu hu'⟩, fun hne => by obtain ⟨q, hq, hq2⟩ := d hne; exact ⟨q, by simp [hq], hq2⟩⟩
    · have h1' := h1
      simp only [Bool.or_eq_true, beq_iff_eq, decide_eq_true_eq, not_or] at h1'
      have hno : ∀ u, t ≤ u → u < max t r.Ready → wants u r g = false := by
        intro u hu hu'
        have : inB u r.Ready r.Deadline = false := by simp [inB]; omega
        simp [wants, this]
      by_cases h2 : (decide (n < 0) || decide (max t r.Ready < n)) = true
      · have e : nextStep t n r g = max t r.Ready := by rw [nextStep, if_neg h1, if_pos h2]
        rw [e]
        simp only [Bool.or_eq_true, decide_eq_true_eq] at h2
        rcases nextW_spec ht (rs := rs) (gs := gs) (n := max t r.Ready) (.inr (by omega)) with ⟨a, b, c⟩ | ⟨a, b, c, d⟩
        · omega
        · have D := Lib.hid d; clear d
          have hb := b (by omega)
          refine .inr ⟨a, fun _ => by omega, fun u hu hu' => ⟨hno u hu (by omega), c u hu hu'⟩, fun _ => ?_⟩
          by_cases hne : max t r.Ready = nextW t (max t r.Ready) rs gs
          · exact ⟨r, by simp, by rw [← hne]; omega⟩
          · obtain ⟨q, hq, hq2⟩ := D.out hne; exact ⟨q, by simp [hq], hq2⟩
      · have e : nextStep t n r g = n := by rw [nextStep, if_neg h1, if_neg h2]
        rw [e]
        simp only [Bool.or_eq_true, decide_eq_true_eq, not_or] at h2
        have hn' : t ≤ n := by omega
        rcases nextW_spec ht (rs := rs) (gs := gs) hn with ⟨a, b, c⟩ | ⟨a, b, c, d⟩
        · omega
        · have D := Lib.hid d; clear d
          have hb := b (by omega)
          exact .inr ⟨a, b, fun u hu hu' => ⟨hno u hu (by omega), c u hu hu'⟩, fun hne => by obtain ⟨q, hq, hq2⟩ := D.out hne; exact ⟨q, by simp [hq], hq2⟩⟩

/-! ### The plan -/
/-- What is left, with one slot less for the k-th. -/
def lowered (gs : List Int) (k : Nat) : List Int := gs.set k ((gs[k]?).getD 0 - 1)
def planFrom (p s l : Int) (list : List Request) : Nat → Int → List Int → List Slot
  | 0, _, _ => []
  | f + 1, t, gs =>
    if visible p s l t = true then
      match pick t none 0 list gs with
      | some (k, r) => ⟨t, r.Id⟩ :: planFrom p s l list f (t + 1) (lowered gs k)
      | none => planFrom p s l list f (t + 1) gs
    else planFrom p s l list f (t + 1) gs
def planAll (p s l : Int) (list : List Request) : List Slot :=
  if (orbitOk p s l && requestsOk list) = true then planFrom p s l list 1000001 0 (list.map (·.Need)) else []

theorem planFrom_skip1 {p s l t : Int} {list : List Request} {gs : List Int} {f : Nat} (h : visible p s l t = false ∨ idle t list gs) : planFrom p s l list (f + 1) t gs = planFrom p s l list f (t + 1) gs := by
  rw [planFrom]
  rcases h with h | h
  · rw [h, if_neg (by simp)]
  · rw [pick_idle h]; split <;> rfl
theorem planFrom_skip {p s l : Int} {list : List Request} {gs : List Int} : ∀ (d f : Nat) {t : Int}, (∀ u, t ≤ u → u < t + d → visible p s l u = false ∨ idle u list gs) → planFrom p s l list (f + d) t gs = planFrom p s l list f (t + d) gs
  | 0, f, t, _ => by simp
  | d + 1, f, t, h => by
    rw [← Nat.add_assoc, planFrom_skip1 (h t (Int.le_refl _) (by omega)), planFrom_skip d f (fun u hu hu' => h u (by omega) (by omega))]
    congr 1; omega
theorem planFrom_none {p s l : Int} {list : List Request} {gs : List Int} (f : Nat) {t : Int} (h : ∀ u, t ≤ u → u < t + f → visible p s l u = false ∨ idle u list gs) : planFrom p s l list f t gs = [] := by
  have := planFrom_skip f 0 h
  rw [Nat.zero_add] at this
  rw [this, planFrom]
theorem planFrom_hit {p s l t : Int} {list : List Request} {gs : List Int} {f k : Nat} {r : Request} (hv : visible p s l t = true) (hp : pick t none 0 list gs = some (k, r)) :
    planFrom p s l list (f + 1) t gs = ⟨t, r.Id⟩ :: planFrom p s l list f (t + 1) (lowered gs k) := by
  rw [planFrom, if_pos hv, hp]
end Go.Proofs.Ytonclekalgaojaa
