/- The earliest deadline first misses nothing exactly if it could be done. No program in sight. -/
import Derived.Test.YtonclekalgaojaaPlanF
namespace Go.Proofs.Ytonclekalgaojaa
set_option linter.unusedVariables false
open Go.ChangeShapes Go.WideShapes Go.ChangeAt Go.RowKit

theorem visBefore_mono {p s l a : Int} (ok : orbitOk p s l = true) (ha : 0 ≤ a) : ∀ (d : Nat), a + d ≤ 1000001 → visBefore p s l a ≤ visBefore p s l (a + d)
  | 0, _ => by simp
  | d + 1, h => by
    have h1 := visBefore_mono ok ha d (by omega)
    have h2 := visBefore_step (t := a + d) ok (by omega) (by omega)
    rw [show a + ((d + 1 : Nat) : Int) = a + d + 1 by omega, h2]
    split <;> omega
theorem visBefore_le {p s l a b : Int} (ok : orbitOk p s l = true) (ha : 0 ≤ a) (h : a ≤ b) (hb : b ≤ 1000001) : visBefore p s l a ≤ visBefore p s l b := by
  have := visBefore_mono ok ha (b - a).toNat (by omega)
  rwa [show a + ((b - a).toNat : Int) = b by omega] at this

/-! ### If nothing is missed, it could be done -/
theorem times_le {p s l b : Int} (ok : orbitOk p s l = true) (hb : b ≤ 1000000) : ∀ {pl : List Slot} {a : Int}, 0 ≤ a → a ≤ b + 1 → pl.Pairwise (fun x y => x.Time < y.Time) → (∀ x ∈ pl, visible p s l x.Time = true ∧ a ≤ x.Time ∧ x.Time ≤ b) →
    (pl.length : Int) ≤ visBefore p s l (b + 1) - visBefore p s l a
  | [], a, ha, hab, _, _ => by have := visBefore_le ok ha hab (by omega); simp; omega
  | x :: r, a, ha, hab, hp, h => by
    have ⟨h1, h2, h3⟩ := h x (by simp)
    rw [List.pairwise_cons] at hp
    have h4 := times_le ok hb (a := x.Time + 1) (by omega) (by omega) hp.2 (fun y hy => ⟨(h y (by simp [hy])).1, by have := hp.1 y hy; omega, (h y (by simp [hy])).2.2⟩)
    have h5 := visBefore_step (t := x.Time) ok (by omega) (by omega)
    rw [if_pos h1] at h5
    have h6 := visBefore_le ok ha h2 (by omega)
    simp only [List.length_cons]; omega

def inWin (a b : Int) (r : Request) : Bool := decide (a ≤ r.Ready) && decide (r.Deadline ≤ b)
def winSum (a b : Int) (plan : List Slot) : List Request → Int
  | [] => 0
  | r :: rs => (if inWin a b r = true then (slotsOf r.Id plan : Int) else 0) + winSum a b plan rs
theorem winSum_none {a b : Int} (x : Slot) (pl : List Slot) : ∀ {l : List Request}, (∀ r ∈ l, inWin a b r = true → r.Id ≠ x.Id) → winSum a b (x :: pl) l = winSum a b pl l
  | [], _ => rfl
  | r :: l, h => by
    rw [winSum, winSum, winSum_none x pl (fun q hq => h q (by simp [hq]))]
    by_cases hw : inWin a b r = true
    · have h1 := h r (by simp) hw
      have : ¬ (x.Id == r.Id) = true := by simp; exact fun e => h1 e.symm
      rw [if_pos hw, if_pos hw, slotsOf, if_neg this]; omega
    · rw [if_neg hw, if_neg hw]
theorem winSum_le {a b : Int} (x : Slot) (pl : List Slot) : ∀ {l c : List Request}, reqsFrom c l = true → winSum a b (x :: pl) l ≤ winSum a b pl l + 1
  | [], _, _ => by simp [winSum]
  | r :: l, c, h => by
    simp only [reqsFrom, Bool.and_eq_true] at h
    have hfr := reqsFrom_free h.2.2.2.2.2
    rw [winSum, winSum]
    by_cases he : (x.Id == r.Id) = true
    · rw [winSum_none x pl (fun q hq _ hq2 => hfr q hq r (by simp) (by rw [hq2]; exact (beq_iff_eq.1 he).symm))]
      rw [slotsOf, if_pos he]
      split <;> omega
    · have := winSum_le x pl h.2.2.2.2.2 (a := a) (b := b)
      rw [slotsOf, if_neg he]
      split <;> omega
theorem winSum_nil {a b : Int} : ∀ {l : List Request}, winSum a b [] l = 0
  | [] => rfl
  | r :: l => by rw [winSum, winSum_nil]; simp [slotsOf]
theorem winSum_bd {a b : Int} {l : List Request} (h : requestsOk l = true) : ∀ {pl : List Slot}, (∀ x ∈ pl, ∃ r ∈ l, r.Id = x.Id ∧ inB x.Time r.Ready r.Deadline = true) →
    winSum a b pl l ≤ ((pl.filter (fun x => inB x.Time a b)).length : Int)
  | [], _ => by rw [winSum_nil]; simp
  | x :: pl, hx => by
    have ih := winSum_bd h (pl := pl) (a := a) (b := b) (fun y hy => hx y (by simp [hy]))
    have hh := h
    simp only [requestsOk, Bool.and_eq_true] at hh
    rw [List.filter_cons]
    by_cases hw : inB x.Time a b = true
    · rw [if_pos hw]
      have := winSum_le (a := a) (b := b) x pl hh.2
      simp only [List.length_cons]; omega
    · rw [if_neg hw, winSum_none x pl]
      · exact ih
      · intro q hq hqw hqi
        obtain ⟨r, hr, hri, hrt⟩ := hx x (by simp)
        obtain rfl := reqs_one hh.2 q hq r hr (by rw [hqi, hri])
        apply hw
        simp only [inWin, Bool.and_eq_true, decide_eq_true_eq] at hqw
        rw [inB_iff] at hrt ⊢
        omega
theorem winSum_demand {a b : Int} {plan : List Slot} : ∀ {l : List Request}, (∀ r ∈ l, (slotsOf r.Id plan : Int) = r.Need) → winSum a b plan l = demandSum a b l
  | [], _ => rfl
  | r :: l, h => by
    rw [winSum, demandSum, winSum_demand (fun q hq => h q (by simp [hq])), h r (by simp), inWin]

theorem feasIn_of {p s l a : Int} {full : List Request} : ∀ {r : List Request}, (∀ y ∈ r, demandOf full a y.Deadline ≤ visCount p s l a y.Deadline) → feasIn p s l full a r = true
  | [], _ => rfl
  | y :: r, h => by
    have := h y (by simp)
    rw [feasIn, feasIn_of (fun z hz => h z (by simp [hz]))]
    simp; omega
theorem feasOut_of {p s l : Int} {full : List Request} : ∀ {r : List Request}, (∀ x ∈ r, feasIn p s l full x.Ready full = true) → feasOut p s l full r = true
  | [], _ => rfl
  | x :: r, h => by rw [feasOut, h x (by simp), feasOut_of (fun z hz => h z (by simp [hz]))]; rfl
theorem feasIn_mem {p s l a : Int} {full : List Request} : ∀ {r : List Request}, feasIn p s l full a r = true → ∀ y ∈ r, demandOf full a y.Deadline ≤ visCount p s l a y.Deadline
  | [], _, y, hy => by simp at hy
  | z :: r, h, y, hy => by
    rw [feasIn, Bool.and_eq_true] at h
    rcases List.mem_cons.1 hy with rfl | hy
    · have := h.1; simp at this; omega
    · exact feasIn_mem h.2 y hy
theorem feasOut_mem {p s l : Int} {full : List Request} : ∀ {r : List Request}, feasOut p s l full r = true → ∀ x ∈ r, feasIn p s l full x.Ready full = true
  | [], _, y, hy => by simp at hy
  | z :: r, h, y, hy => by
    rw [feasOut, Bool.and_eq_true] at h
    rcases List.mem_cons.1 hy with rfl | hy
    · exact h.1
    · exact feasOut_mem h.2 y hy
theorem demandSum_none {a b : Int} : ∀ {l : List Request}, (∀ r ∈ l, r.Ready ≤ r.Deadline) → b < a → demandSum a b l = 0
  | [], _, _ => rfl
  | r :: l, h, hab => by
    have := h r (by simp)
    rw [demandSum, demandSum_none (fun q hq => h q (by simp [hq])) hab, if_neg (by simp; omega)]; rfl

theorem done_feasible {p s l : Int} {list : List Request} (ok : orbitOk p s l = true) (hr : requestsOk list = true) {plan : List Slot} (hp : plan.Pairwise (fun x y => x.Time < y.Time))
    (hm : ∀ x ∈ plan, visible p s l x.Time = true ∧ ∃ r ∈ list, r.Id = x.Id ∧ inB x.Time r.Ready r.Deadline = true) (hd : ∀ r ∈ list, (slotsOf r.Id plan : Int) = r.Need) : feasible p s l list = true := by
  have hmem := (requestsOk_mem hr).2
  rw [feasible, ok, hr, Bool.true_and, Bool.true_and]
  refine feasOut_of (fun x hx => feasIn_of (fun y hy => ?_))
  have h1 := hmem x hx
  have h2 := hmem y hy
  rw [demandOf, if_pos hr]
  by_cases hab : x.Ready ≤ y.Deadline
  · have e : visCount p s l x.Ready y.Deadline = visBefore p s l (y.Deadline + 1) - visBefore p s l x.Ready := by
      rw [visCount, if_pos]
      simp [ok, inB]; omega
    rw [e, ← winSum_demand hd]
    refine Int.le_trans (winSum_bd hr (fun x hx => (hm x hx).2)) (times_le ok (by omega) (by omega) (by omega) (hp.filter _) (fun z hz => ?_))
    rw [List.mem_filter, inB_iff] at hz
    exact ⟨(hm z hz.1).1, hz.2.1, hz.2.2⟩
  · rw [demandSum_none (fun r hr => by have := hmem r hr; omega) (by omega), visCount]
    split
    · rename_i h; simp [inB] at h; omega
    · exact Int.le_refl _

/-! ### If something is missed, it could not be done -/
def sumFrom (D a : Int) : List Request → List Int → Int
  | r :: rs, g :: gs => (if inWin a D r = true then g else 0) + sumFrom D a rs gs
  | _, _ => 0
theorem sumFrom_set {D a : Int} : ∀ {rs : List Request} {gs : List Int} {k : Nat} {r : Request} {g : Int} (v : Int), rs[k]? = some r → gs[k]? = some g → sumFrom D a rs (gs.set k v) = sumFrom D a rs gs + (if inWin a D r = true then v - g else 0)
  | [], _, k, r, g, v, h, _ => by simp at h
  | _ :: _, [], k, r, g, v, _, h => by simp at h
  | r' :: rs, g' :: gs, 0, r, g, v, h1, h2 => by
    simp only [List.getElem?_cons_zero, Option.some.injEq] at h1 h2
    subst h1; subst h2
    rw [List.set_cons_zero, sumFrom, sumFrom]; split <;> omega
  | r' :: rs, g' :: gs, k + 1, r, g, v, h1, h2 => by
    rw [List.set_cons_succ, sumFrom, sumFrom, sumFrom_set (rs := rs) (gs := gs) v (by simpa using h1) (by simpa using h2)]; omega
theorem sumFrom_nonneg {D a : Int} : ∀ {rs : List Request} {gs : List Int}, (∀ g ∈ gs, 0 ≤ g) → 0 ≤ sumFrom D a rs gs
  | [], _, _ => by simp [sumFrom]
  | _ :: _, [], _ => by simp [sumFrom]
  | r :: rs, g :: gs, h => by
    have := sumFrom_nonneg (D := D) (a := a) (rs := rs) (gs := gs) (fun x hx => h x (by simp [hx]))
    have := h g (by simp)
    rw [sumFrom]; split <;> omega
theorem sumFrom_ge {D a : Int} : ∀ {rs : List Request} {gs : List Int}, (∀ g ∈ gs, 0 ≤ g) → ∀ {k : Nat} {r : Request} {g : Int}, rs[k]? = some r → gs[k]? = some g → inWin a D r = true → g ≤ sumFrom D a rs gs
  | [], _, _, k, r, g, h, _, _ => by simp at h
  | _ :: _, [], _, k, r, g, _, h, _ => by simp at h
  | r' :: rs, g' :: gs, hn, 0, r, g, h1, h2, hw => by
    simp only [List.getElem?_cons_zero, Option.some.injEq] at h1 h2
    subst h1; subst h2
    have := sumFrom_nonneg (D := D) (a := a) (rs := rs) (gs := gs) (fun x hx => hn x (by simp [hx]))
    rw [sumFrom, if_pos hw]; omega
  | r' :: rs, g' :: gs, hn, k + 1, r, g, h1, h2, hw => by
    have := sumFrom_ge (D := D) (a := a) (rs := rs) (gs := gs) (fun x hx => hn x (by simp [hx])) (k := k) (by simpa using h1) (by simpa using h2) hw
    have := hn g' (by simp)
    rw [sumFrom]; split <;> omega
/-- Two beginnings give one sum if no request with something left lies between them. -/
theorem sumFrom_same {D a b : Int} : ∀ {rs : List Request} {gs : List Int}, (∀ (i : Nat) r g, rs[i]? = some r → gs[i]? = some g → g ≠ 0 → r.Deadline ≤ D → (a ≤ r.Ready ↔ b ≤ r.Ready)) → sumFrom D a rs gs = sumFrom D b rs gs
  | [], _, _ => by simp [sumFrom]
  | _ :: _, [], _ => by simp [sumFrom]
  | r :: rs, g :: gs, h => by
    rw [sumFrom, sumFrom, sumFrom_same (rs := rs) (gs := gs) (fun i r' g' h1 h2 => h (i + 1) r' g' (by simpa using h1) (by simpa using h2))]
    by_cases hg : g = 0
    · subst hg; simp
    · by_cases hd : r.Deadline ≤ D
      · have := h 0 r g rfl rfl hg hd
        simp only [inWin, this]; first | done | rfl | simp
      · have : decide (r.Deadline ≤ D) = false := by simpa using hd
        simp [inWin, this]
/-- The least beginning of those that count. -/
theorem least_ready {D a : Int} : ∀ {rs : List Request} {gs : List Int}, 0 < sumFrom D a rs gs → ∃ (k : Nat) (r : Request) (g : Int), rs[k]? = some r ∧ gs[k]? = some g ∧ g ≠ 0 ∧ inWin a D r = true ∧ ∀ (i : Nat) r' g', rs[i]? = some r' → gs[i]? = some g' → g' ≠ 0 → inWin a D r' = true → r.Ready ≤ r'.Ready
  | [], _, h => by simp [sumFrom] at h
  | _ :: _, [], h => by simp [sumFrom] at h
  | r :: rs, g :: gs, h => by
    rw [sumFrom] at h
    by_cases hr : inWin a D r = true ∧ g ≠ 0
    · by_cases h0 : 0 < sumFrom D a rs gs
      · obtain ⟨k, r', g', h1, h2, h3, h4, h5⟩ := least_ready h0
        by_cases hle : r.Ready ≤ r'.Ready
        · refine ⟨0, r, g, rfl, rfl, hr.2, hr.1, fun i q x h6 h7 h8 h9 => ?_⟩
          match i with
          | 0 => simp only [List.getElem?_cons_zero, Option.some.injEq] at h6; subst h6; exact Int.le_refl _
          | i + 1 => exact Int.le_trans hle (h5 i q x (by simpa using h6) (by simpa using h7) h8 h9)
        · refine ⟨k + 1, r', g', h1, h2, h3, h4, fun i q x h6 h7 h8 h9 => ?_⟩
          match i with
          | 0 => simp only [List.getElem?_cons_zero, Option.some.injEq] at h6; subst h6; omega
          | i + 1 => exact h5 i q x (by simpa using h6) (by simpa using h7) h8 h9
      · refine Classical.byContradiction fun hno => ?_
        -- no other one counts: the sum of the others is not above 0
        have hex : ∃ (k : Nat) (r' : Request) (g' : Int), rs[k]? = some r' ∧ gs[k]? = some g' ∧ g' ≠ 0 ∧ inWin a D r' = true ∧ r'.Ready < r.Ready := by
          refine Classical.byContradiction fun hn => hno ⟨0, r, g, rfl, rfl, hr.2, hr.1, fun i q x h6 h7 h8 h9 => ?_⟩
          match i with
          | 0 => simp only [List.getElem?_cons_zero, Option.some.injEq] at h6; subst h6; exact Int.le_refl _
          | i + 1 =>
            refine Classical.byContradiction fun hlt => hn ⟨i, q, x, by simpa using h6, by simpa using h7, h8, h9, by omega⟩
        -- the least of them, by strong choice on the list's places
        have hfin : ∀ (m : Nat), ∃ (k : Nat) (r' : Request) (g' : Int), (r :: rs)[k]? = some r' ∧ (g :: gs)[k]? = some g' ∧ g' ≠ 0 ∧ inWin a D r' = true ∧ ∀ (i : Nat) q x, i < m → (r :: rs)[i]? = some q → (g :: gs)[i]? = some x → x ≠ 0 → inWin a D q = true → r'.Ready ≤ q.Ready := by
          intro m
          induction m with
          | zero => exact ⟨0, r, g, rfl, rfl, hr.2, hr.1, fun i q x h => absurd h (Nat.not_lt_zero _)⟩
          | succ m ih =>
            obtain ⟨k, r', g', h1, h2, h3, h4, h5⟩ := ih
            by_cases hc : ∃ q x, (r :: rs)[m]? = some q ∧ (g :: gs)[m]? = some x ∧ x ≠ 0 ∧ inWin a D q = true ∧ q.Ready < r'.Ready
            · obtain ⟨q, x, c1, c2, c3, c4, c5⟩ := hc
              refine ⟨m, q, x, c1, c2, c3, c4, fun i q' x' hi h6 h7 h8 h9 => ?_⟩
              by_cases him : i = m
              · subst him; rw [c1] at h6; cases h6; exact Int.le_refl _
              · have := h5 i q' x' (by omega) h6 h7 h8 h9; omega
            · refine ⟨k, r', g', h1, h2, h3, h4, fun i q' x' hi h6 h7 h8 h9 => ?_⟩
              by_cases him : i = m
              · subst him
                refine Classical.byContradiction fun hlt => hc ⟨q', x', h6, h7, h8, h9, by omega⟩
              · exact h5 i q' x' (by omega) h6 h7 h8 h9
        obtain ⟨k, r', g', h1, h2, h3, h4, h5⟩ := hfin (r :: rs).length
        exact hno ⟨k, r', g', h1, h2, h3, h4, fun i q x h6 h7 h8 h9 => h5 i q x (List.getElem?_eq_some_iff.1 h6).1 h6 h7 h8 h9⟩
    · have hz : (if inWin a D r = true then g else 0) = 0 := by
        by_cases hw : inWin a D r = true
        · rw [if_pos hw]; exact Classical.byContradiction fun hg => hr ⟨hw, hg⟩
        · rw [if_neg hw]
      obtain ⟨k, r', g', h1, h2, h3, h4, h5⟩ := least_ready (D := D) (a := a) (rs := rs) (gs := gs) (by omega)
      refine ⟨k + 1, r', g', h1, h2, h3, h4, fun i q x h6 h7 h8 h9 => ?_⟩
      match i with
      | 0 =>
        simp only [List.getElem?_cons_zero, Option.some.injEq] at h6 h7
        subst h6; subst h7
        exact absurd ⟨h9, h8⟩ hr
      | i + 1 => exact h5 i q x (by simpa using h6) (by simpa using h7) h8 h9

theorem planEnd_late {p s l : Int} {list : List Request} {k : Nat} {r : Request} (h1 : list[k]? = some r) : ∀ {f : Nat} {t : Int} {gs : List Int}, r.Deadline < t → (planEnd p s l list f t gs)[k]? = gs[k]?
  | 0, _, _, _ => rfl
  | f + 1, t, gs, h => by
    rw [planEnd, planEnd_late h1 (f := f) (t := t + 1) (by omega)]
    rcases step_cases p s l t list gs with ⟨-, h2, -⟩ | ⟨-, j, r', g, h2, h3, h4, -, h5, -⟩
    · rw [h2]
    · rw [h5, List.getElem?_set_ne]
      rintro rfl
      rw [h1] at h2; cases h2
      have := (wants_iff.1 h4).2.2
      omega

theorem edf {p s l D : Int} {list : List Request} (ok : orbitOk p s l = true) (hr : requestsOk list = true) (hD : 0 ≤ D) (hD' : D ≤ 1000000) {j : Nat} {rj : Request} (hj : list[j]? = some rj) (hjd : rj.Deadline ≤ D) :
    ∀ (f : Nat) (t : Int) (gs : List Int), 0 ≤ t → t + f = 1000001 → okLeft list gs →
      (∀ (k : Nat) r e, list[k]? = some r → (planEnd p s l list f t gs)[k]? = some e → r.Deadline < D → e = 0) → (∃ e, (planEnd p s l list f t gs)[j]? = some e ∧ 0 < e) →
      (∃ (k : Nat) (r : Request), list[k]? = some r ∧ r.Deadline ≤ D ∧ visBefore p s l (D + 1) - visBefore p s l r.Ready < sumFrom D r.Ready list gs) ∨ visBefore p s l (D + 1) - visBefore p s l t < sumFrom D 0 list gs := by
  have hmem := (requestsOk_mem hr).2
  have hap := requestsOk_apart hr
  have hrdy : ∀ {k : Nat} {r : Request}, list[k]? = some r → 0 ≤ r.Ready := fun h => (hmem _ (List.mem_of_getElem? h)).2.1.1
  have hrle : ∀ {k : Nat} {r : Request}, list[k]? = some r → r.Ready ≤ 1000000 := fun h => (hmem _ (List.mem_of_getElem? h)).2.1.2
  intro f
  induction f with
  | zero =>
    intro t gs ht htf hg _ ⟨e, he, he0⟩
    right
    rw [planEnd] at he
    have h1 := sumFrom_ge (D := D) (a := 0) hg.2 hj he (by simp [inWin, hjd, hrdy hj])
    have h2 := visBefore_le ok (show 0 ≤ D + 1 by omega) (show D + 1 ≤ t by omega) (by omega)
    omega
  | succ f ih =>
    intro t gs ht htf hg hfin ⟨e, he, he0⟩
    by_cases htD : D < t
    · right
      obtain ⟨gj, hgj⟩ : ∃ g, gs[j]? = some g := ⟨gs[j]'(by rw [hg.1]; exact (List.getElem?_eq_some_iff.1 hj).1), List.getElem?_eq_getElem _⟩
      rw [planEnd_late hj (by omega), hgj] at he
      cases he
      have h1 := sumFrom_ge (D := D) (a := 0) hg.2 hj hgj (by simp [inWin, hjd, hrdy hj])
      have h2 := visBefore_le ok (show 0 ≤ D + 1 by omega) (show D + 1 ≤ t by omega) (by omega)
      omega
    · have hvs := visBefore_step (t := t) ok ht (by omega)
      have IH := ih (t + 1) (stepLeft p s l list t gs) (by omega) (by omega) (okLeft_step hg) hfin ⟨e, he, he0⟩
      -- what holds if nobody with a deadline up to D wants the time
      have quiet : (∀ (i : Nat) r g, list[i]? = some r → gs[i]? = some g → r.Deadline ≤ D → wants t r g = false) → visBefore p s l (D + 1) - visBefore p s l (t + 1) < sumFrom D 0 list gs →
          ∃ (k : Nat) (r : Request), list[k]? = some r ∧ r.Deadline ≤ D ∧ visBefore p s l (D + 1) - visBefore p s l r.Ready < sumFrom D r.Ready list gs := by
        intro hno hlt
        have hpos := visBefore_le ok (show 0 ≤ t + 1 by omega) (show t + 1 ≤ D + 1 by omega) (by omega)
        obtain ⟨k, r, g, h1, h2, h3, h4, h5⟩ := least_ready (D := D) (a := 0) (rs := list) (gs := gs) (by omega)
        have hlate : ∀ (i : Nat) r' g', list[i]? = some r' → gs[i]? = some g' → g' ≠ 0 → r'.Deadline ≤ D → t + 1 ≤ r'.Ready := by
          intro i r' g' c1 c2 c3 c4
          have hw := hno i r' g' c1 c2 c4
          refine Classical.byContradiction fun hc => ?_
          have hdl : r'.Deadline < t := by
            refine Classical.byContradiction fun hd => ?_
            have : wants t r' g' = true := wants_iff.2 ⟨c3, by omega, by omega⟩
            rw [hw] at this; cases this
          have := hfin i r' g' c1 (by rw [planEnd_late c1 hdl]; exact c2) (by omega)
          exact c3 this
        simp only [inWin, Bool.and_eq_true, decide_eq_true_eq] at h4
        have h6 := hlate k r g h1 h2 h3 h4.2
        refine ⟨k, r, h1, h4.2, ?_⟩
        rw [sumFrom_same (D := D) (a := r.Ready) (b := 0) (rs := list) (gs := gs) (fun i r' g' c1 c2 c3 c4 => ?_)]
        · have := visBefore_le ok (show 0 ≤ t + 1 by omega) h6 (by have := hrle h1; omega)
          omega
        · have c5 := hrdy c1
          have c6 := h5 i r' g' c1 c2 c3 (by simp [inWin, c4, c5])
          omega
      rcases step_cases p s l t list gs with ⟨-, h2, h3⟩ | ⟨hv, k, r, g, h1, h2, h3, -, h5, h6⟩
      · rw [h2] at IH
        rcases IH with IH | IH
        · exact .inl IH
        · cases hv : visible p s l t
          · rw [hv] at hvs
            simp only [Bool.false_eq_true, if_false, Int.add_zero] at hvs
            right; rw [hvs] at IH; exact IH
          · exact .inl (quiet (fun i r g c1 c2 _ => h3 hv i r g c1 c2) IH)
      · rw [hv, if_pos rfl] at hvs
        have hset : ∀ a, sumFrom D a list (stepLeft p s l list t gs) = sumFrom D a list gs + (if inWin a D r = true then -1 else 0) := fun a => by
          rw [h5, sumFrom_set (D := D) (a := a) (g - 1) h1 h2]; split <;> omega
        have hg0 := wants_iff.1 h3
        by_cases hrd : r.Deadline ≤ D
        · rcases IH with ⟨k', r', c1, c2, c3⟩ | IH
          · refine .inl ⟨k', r', c1, c2, ?_⟩
            rw [hset] at c3
            split at c3 <;> omega
          · right
            rw [hset, if_pos (by simp [inWin, hrd, hrdy h1])] at IH
            omega
        · have hsame : ∀ a, sumFrom D a list (stepLeft p s l list t gs) = sumFrom D a list gs := fun a => by
            rw [hset, if_neg (by simp [inWin]; intro _; omega)]; omega
          rcases IH with ⟨k', r', c1, c2, c3⟩ | IH
          · exact .inl ⟨k', r', c1, c2, by rw [hsame] at c3; exact c3⟩
          · rw [hsame] at IH
            refine .inl (quiet (fun i r' g' c1 c2 c3 => ?_) IH)
            cases hw : wants t r' g'
            · rfl
            · have := h6 i r' g' c1 c2 hw; omega

theorem sumFrom_needs {D a : Int} : ∀ {l : List Request}, sumFrom D a l (l.map (·.Need)) = demandSum a D l
  | [] => rfl
  | r :: l => by rw [List.map_cons, sumFrom, demandSum, sumFrom_needs, inWin]

/-- The least deadline of those that miss something. -/
theorem least_missed {list : List Request} {E : List Int} (hE : E.length = list.length) : ∀ (m : Nat), (∃ (k : Nat) (r : Request) (e : Int), k < m ∧ list[k]? = some r ∧ E[k]? = some e ∧ 0 < e) →
    ∃ (k : Nat) (r : Request) (e : Int), list[k]? = some r ∧ E[k]? = some e ∧ 0 < e ∧ ∀ (i : Nat) r' e', i < m → list[i]? = some r' → E[i]? = some e' → 0 < e' → r.Deadline ≤ r'.Deadline
  | 0, ⟨k, _, _, h, _⟩ => absurd h (Nat.not_lt_zero _)
  | m + 1, ⟨k, r, e, hk, h1, h2, h3⟩ => by
    by_cases hex : ∃ (k : Nat) (r : Request) (e : Int), k < m ∧ list[k]? = some r ∧ E[k]? = some e ∧ 0 < e
    · obtain ⟨k', r', e', c1, c2, c3, c4⟩ := least_missed hE m hex
      by_cases hc : ∃ q x, list[m]? = some q ∧ E[m]? = some x ∧ 0 < x ∧ q.Deadline < r'.Deadline
      · obtain ⟨q, x, d1, d2, d3, d4⟩ := hc
        refine ⟨m, q, x, d1, d2, d3, fun i q' x' hi h6 h7 h8 => ?_⟩
        by_cases him : i = m
        · subst him; rw [d1] at h6; cases h6; exact Int.le_refl _
        · have := c4 i q' x' (by omega) h6 h7 h8; omega
      · refine ⟨k', r', e', c1, c2, c3, fun i q' x' hi h6 h7 h8 => ?_⟩
        by_cases him : i = m
        · subst him; refine Classical.byContradiction fun hlt => hc ⟨q', x', h6, h7, h8, by omega⟩
        · exact c4 i q' x' (by omega) h6 h7 h8
    · refine ⟨k, r, e, h1, h2, h3, fun i q x hi h6 h7 h8 => ?_⟩
      by_cases him : i = k
      · subst him; rw [h1] at h6; cases h6; exact Int.le_refl _
      · by_cases hik : i < m
        · exact absurd ⟨i, q, x, hik, h6, h7, h8⟩ hex
        · exact absurd ⟨k, r, e, by omega, h1, h2, h3⟩ hex

theorem planEnd_length {p s l : Int} {list : List Request} : ∀ {f : Nat} {t : Int} {gs : List Int}, (planEnd p s l list f t gs).length = gs.length
  | 0, _, _ => rfl
  | f + 1, t, gs => by
    rw [planEnd, planEnd_length]
    rcases step_cases p s l t list gs with ⟨-, h2, -⟩ | ⟨-, k, r, g, -, -, -, -, h5, -⟩
    · rw [h2]
    · rw [h5]; simp

/-- Something is missed: a stretch of time is asked for more than it has. -/
theorem missed_infeasible {p s l : Int} {list : List Request} (ok : orbitOk p s l = true) (hr : requestsOk list = true) {k : Nat} {r : Request} {e : Int} (h1 : list[k]? = some r)
    (h2 : (planEnd p s l list 1000001 0 (list.map (·.Need)))[k]? = some e) (h3 : 0 < e) : feasible p s l list = false := by
  have hmem := (requestsOk_mem hr).2
  have hlen : (planEnd p s l list 1000001 0 (list.map (·.Need))).length = list.length := by rw [planEnd_length]; simp
  obtain ⟨j, rj, ej, c1, c2, c3, c4⟩ := least_missed hlen list.length ⟨k, r, e, (List.getElem?_eq_some_iff.1 h1).1, h1, h2, h3⟩
  have hj := hmem rj (List.mem_of_getElem? c1)
  have hfin : ∀ (k : Nat) r e, list[k]? = some r → (planEnd p s l list 1000001 0 (list.map (·.Need)))[k]? = some e → r.Deadline < rj.Deadline → e = 0 := by
    intro k r e d1 d2 d3
    obtain ⟨g, hg⟩ : ∃ g, (list.map (·.Need))[k]? = some g := ⟨r.Need, by rw [List.getElem?_map, d1]; rfl⟩
    obtain ⟨e', d4, -, d5, -⟩ := planEnd_count (p := p) (s := s) (l := l) (requestsOk_apart hr) (f := 1000001) (t := 0) (okLeft_needs hr) d1 hg
    rw [d2] at d4; cases d4
    refine Classical.byContradiction fun hne => ?_
    have := c4 k r e (List.getElem?_eq_some_iff.1 d1).1 d1 d2 (by omega)
    omega
  have key : ∃ (k : Nat) (r : Request), list[k]? = some r ∧ r.Deadline ≤ rj.Deadline ∧ visBefore p s l (rj.Deadline + 1) - visBefore p s l r.Ready < demandSum r.Ready rj.Deadline list := by
    rcases edf ok hr (by omega) (by omega) c1 (Int.le_refl _) 1000001 0 _ (by omega) (by omega) (okLeft_needs hr) hfin ⟨ej, c2, c3⟩ with ⟨k, r, d1, d2, d3⟩ | d
    · exact ⟨k, r, d1, d2, by rw [← sumFrom_needs]; exact d3⟩
    · have hp := visBefore_le ok (show (0 : Int) ≤ 0 by omega) (show (0 : Int) ≤ rj.Deadline + 1 by omega) (by omega)
      obtain ⟨k, r, g, e1, e2, e3, e4, e5⟩ := least_ready (D := rj.Deadline) (a := 0) (rs := list) (gs := list.map (·.Need)) (by omega)
      simp only [inWin, Bool.and_eq_true, decide_eq_true_eq] at e4
      refine ⟨k, r, e1, e4.2, ?_⟩
      have hk := hmem r (List.mem_of_getElem? e1)
      rw [← sumFrom_needs, sumFrom_same (D := rj.Deadline) (a := r.Ready) (b := 0) (fun i r' g' f1 f2 f3 f4 => ?_)]
      · have := visBefore_le ok (show (0 : Int) ≤ 0 by omega) (show (0 : Int) ≤ r.Ready by omega) (by omega)
        omega
      · have f5 := hmem r' (List.mem_of_getElem? f1)
        have f6 := e5 i r' g' f1 f2 f3 (by simp [inWin, f4]; omega)
        omega
  obtain ⟨k2, r2, d1, d2, d3⟩ := key
  have hk := hmem r2 (List.mem_of_getElem? d1)
  cases hf : feasible p s l list
  · rfl
  · rw [feasible, ok, hr, Bool.true_and, Bool.true_and] at hf
    have h9 := feasIn_mem (feasOut_mem hf r2 (List.mem_of_getElem? d1)) rj (List.mem_of_getElem? c1)
    have e9 : visCount p s l r2.Ready rj.Deadline = visBefore p s l (rj.Deadline + 1) - visBefore p s l r2.Ready := by
      rw [visCount, if_pos]
      simp [ok, inB]; omega
    rw [demandOf, if_pos hr, e9] at h9
    omega
end Go.Proofs.Ytonclekalgaojaa
