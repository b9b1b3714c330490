/- The facts of a plan, as FnPlans and FnNoIdle ask for them. No program in sight. -/
import Derived.Test.YtonclekalgaojaaPlanE
namespace Go.Proofs.Ytonclekalgaojaa
set_option linter.unusedVariables false
open Go.ChangeShapes Go.WideShapes Go.ChangeAt Go.RowKit

theorem planAll_eq {p s l : Int} {list : List Request} (ok : orbitOk p s l = true) (hr : requestsOk list = true) : planAll p s l list = planFrom p s l list 1000001 0 (list.map (·.Need)) := by
  unfold planAll
  rw [ok, hr, if_pos (by simp)]
theorem need_at {list : List Request} {k : Nat} {r : Request} (h : list[k]? = some r) : (list.map (·.Need))[k]? = some r.Need := by rw [List.getElem?_map, h]; rfl
/-- What a request has got, by what is left at the end. -/
theorem plan_count {p s l : Int} {list : List Request} (ok : orbitOk p s l = true) (hr : requestsOk list = true) {k : Nat} {r : Request} (h : list[k]? = some r) :
    ∃ e, (planEnd p s l list 1000001 0 (list.map (·.Need)))[k]? = some e ∧ (slotsOf r.Id (planAll p s l list) : Int) = r.Need - e ∧ 0 ≤ e ∧ e ≤ r.Need := by
  rw [planAll_eq ok hr]
  exact planEnd_count (requestsOk_apart hr) (okLeft_needs hr) h (need_at h)
theorem plan_le {p s l : Int} {list : List Request} (ok : orbitOk p s l = true) (hr : requestsOk list = true) : ∀ r ∈ list, (slotsOf r.Id (planAll p s l list) : Int) ≤ r.Need := fun r hm => by
  obtain ⟨k, hk⟩ := List.getElem?_of_mem hm
  obtain ⟨e, -, h1, h2, -⟩ := plan_count (p := p) (s := s) (l := l) ok hr hk
  omega
theorem plan_mem {p s l : Int} {list : List Request} : ∀ x ∈ planAll p s l list, visible p s l x.Time = true ∧ ∃ r ∈ list, r.Id = x.Id ∧ inB x.Time r.Ready r.Deadline = true := fun x hx => by
  unfold planAll at hx
  split at hx
  · exact (planFrom_mem x hx).2.2
  · simp at hx
theorem plan_sorted {p s l : Int} {list : List Request} : (planAll p s l list).Pairwise (fun x y => x.Time < y.Time) := by
  unfold planAll
  split
  · exact planFrom_sorted
  · simp
theorem plan_sum {p s l : Int} {list : List Request} (hr : requestsOk list = true) : slotSum (planAll p s l list) list = (planAll p s l list).length :=
  slotSum_all hr (fun x hx => by obtain ⟨-, r, h1, h2, -⟩ := plan_mem x hx; exact ⟨r, h1, h2⟩)
theorem plan_ok {p s l : Int} {list : List Request} (ok : orbitOk p s l = true) (hr : requestsOk list = true) : planOkI p s l list (planAll p s l list) = true := by
  rw [planOkI, ok, hr, slotsGood_of (fun x hx => ?_) plan_sorted, needsOk_iff.2 (plan_le ok hr)]
  · rfl
  · obtain ⟨h1, r, h2, h3, h4⟩ := plan_mem x hx
    exact ⟨h1, anyOf_iff.2 ⟨r, h2, by simp [fitI, h3, h4]⟩, rfl⟩
theorem missed_nil {plan : List Slot} : ∀ {l : List Request}, missedOf plan l = [] ↔ ∀ r ∈ l, r.Need ≤ (slotsOf r.Id plan : Int)
  | [] => by simp [missedOf]
  | r :: l => by
    rw [missedOf]
    by_cases h : (slotsOf r.Id plan : Int) < r.Need
    · rw [if_pos h]
      refine ⟨fun h' => (by cases h'), fun h' => ?_⟩
      have := h' r (by simp); omega
    · rw [if_neg h, missed_nil (l := l)]
      refine ⟨fun h' q hq => ?_, fun h' q hq => h' q (by simp [hq])⟩
      rcases List.mem_cons.1 hq with rfl | hq
      · omega
      · exact h' q hq
theorem plan_missed {p s l : Int} {list : List Request} (ok : orbitOk p s l = true) (hr : requestsOk list = true) : (missedOf (planAll p s l list) list = []) ↔ feasible p s l list = true := by
  rw [missed_nil]
  constructor
  · intro h
    exact done_feasible ok hr plan_sorted plan_mem (fun r hm => by have := h r hm; have := plan_le (p := p) (s := s) (l := l) ok hr r hm; omega)
  · intro h r hm
    obtain ⟨k, hk⟩ := List.getElem?_of_mem hm
    obtain ⟨e, h0, h1, h2, -⟩ := plan_count (p := p) (s := s) (l := l) ok hr hk
    by_cases he : 0 < e
    · rw [missed_infeasible ok hr hk h0 he] at h; cases h
    · omega

/-- All that FnPlans asks, of the plan under a name. -/
theorem plan_all {p s l : Int} {list : List Request} (ok : orbitOk p s l = true) (hr : requestsOk list = true) :
    ∃ PL, planAll p s l list = PL ∧ PL.length ≤ 1000001 ∧ slotSum PL list = PL.length ∧ planOkI p s l list PL = true ∧ (decide ((missedOf PL list).length = 0) = feasible p s l list) ∧ Hid (∀ r ∈ list, (slotsOf r.Id PL : Int) ≤ r.Need) ∧ Hid (∀ x ∈ PL, slotAt x.Time PL = x.Id) := by
  refine ⟨_, rfl, ?_, plan_sum hr, plan_ok ok hr, ?_, plan_le ok hr, slotAt_of plan_sorted⟩
  · have := plan_mem (p := p) (s := s) (l := l) (list := list)
    have h2 := times_le (p := p) (s := s) (l := l) ok (b := 1000000) (by omega) (pl := planAll p s l list) (a := 0) (by omega) (by omega) plan_sorted (fun x hx => by
      have h3 := (this x hx).1
      have h4 := (visible_iff.1 h3)
      exact ⟨h3, by omega, by omega⟩)
    have ⟨⟨o1, o2⟩, ⟨o3, o4⟩, o5, o6⟩ := orbitOk_iff.1 ok
    have h5 := visBefore_bd (p := p) (s := s) (l := l) (t := 1000000 + 1) o1 o5 o6 o3 (by omega)
    have h6 := visBefore_bd (p := p) (s := s) (l := l) (t := 0) o1 o5 o6 o3 (by omega)
    omega
  · rw [Bool.eq_iff_iff, decide_eq_true_iff, List.length_eq_zero_iff]
    exact plan_missed ok hr

/-! ### No time is idle -/
theorem idle_done {p s l t : Int} {list : List Request} (ha : idsApart list) (hv : visible p s l t = true) {k : Nat} {r : Request} (h1 : list[k]? = some r) (h2 : r.Ready ≤ t) (h3 : t ≤ r.Deadline) :
    ∀ {f : Nat} {t0 : Int} {gs : List Int}, okLeft list gs → t0 ≤ t → t < t0 + f → (∀ x ∈ planFrom p s l list f t0 gs, x.Time ≠ t) → (planEnd p s l list f t0 gs)[k]? = some 0
  | 0, t0, gs, _, h4, h5, _ => by omega
  | f + 1, t0, gs, ho, h4, h5, hn => by
    obtain ⟨g, hg⟩ : ∃ g, gs[k]? = some g := ⟨gs[k]'(by rw [ho.1]; exact (List.getElem?_eq_some_iff.1 h1).1), List.getElem?_eq_getElem _⟩
    rw [planFrom_step] at hn
    by_cases ht : t0 = t
    · subst ht
      rcases step_cases p s l t0 list gs with ⟨-, h6, h7⟩ | ⟨-, j, r', g', -, -, -, h8, -, -⟩
      · have hw := h7 hv k r g h1 hg
        have hg0 : g = 0 := by
          refine Classical.byContradiction fun hne => ?_
          rw [wants_iff.2 ⟨hne, h2, h3⟩] at hw; cases hw
        subst hg0
        rw [planEnd, h6]
        obtain ⟨e, h8, -, h9, h10⟩ := planEnd_count (p := p) (s := s) (l := l) ha (f := f) (t := t0 + 1) ho h1 hg
        rw [h8]; congr 1; omega
      · rw [h8] at hn
        exact absurd rfl (hn ⟨t0, r'.Id⟩ (by simp))
    · rw [planEnd]
      exact idle_done ha hv h1 h2 h3 (okLeft_step ho) (by omega) (by omega) (fun x hx => hn x (by simp [hx]))
theorem slotAt_none {t : Int} : ∀ {pl : List Slot}, (∀ x ∈ pl, 0 ≤ x.Id) → slotAt t pl < 0 → ∀ x ∈ pl, x.Time ≠ t
  | [], _, _, x, hx => by simp at hx
  | y :: r, hp, h, x, hx => by
    rw [slotAt] at h
    split at h
    · have := hp y (by simp); omega
    · rename_i hne
      rcases List.mem_cons.1 hx with rfl | hx
      · simpa using hne
      · exact slotAt_none (fun z hz => hp z (by simp [hz])) h x hx
theorem plan_idle {p s l t : Int} {list : List Request} (ok : orbitOk p s l = true) (hr : requestsOk list = true) (hv : visible p s l t = true) (hs : slotAt t (planAll p s l list) < 0) :
    ∀ r ∈ list, r.Ready ≤ t → t ≤ r.Deadline → (slotsOf r.Id (planAll p s l list) : Int) = r.Need := fun r hm h2 h3 => by
  have hmem := (requestsOk_mem hr).2
  obtain ⟨k, hk⟩ := List.getElem?_of_mem hm
  obtain ⟨e, h0, h1, -⟩ := plan_count (p := p) (s := s) (l := l) ok hr hk
  have hno := slotAt_none (t := t) (pl := planAll p s l list) (fun x hx => by
    obtain ⟨-, q, h4, h5, -⟩ := plan_mem x hx
    have := (hmem q h4).1; omega) hs
  rw [planAll_eq ok hr] at hno
  have hvv := (visible_iff.1 hv)
  have h6 := idle_done (requestsOk_apart hr) hv hk h2 h3 (okLeft_needs hr) (f := 1000001) (t0 := 0) (by omega) (by omega) hno
  rw [h0] at h6
  cases h6
  omega

def hasI (k : Int) : List Int → Bool
  | [] => false
  | x :: r => (x == k) || hasI k r
theorem hasI_missed {plan : List Slot} : ∀ {l b : List Request}, reqsFrom b l = true → ∀ r ∈ l, hasI r.Id (missedOf plan l) = decide ((slotsOf r.Id plan : Int) < r.Need)
  | [], _, _, r, h => by simp at h
  | s :: l, b, h, r, hm => by
    simp only [reqsFrom, Bool.and_eq_true] at h
    have hfr := reqsFrom_free h.2.2.2.2.2
    have hno : hasI s.Id (missedOf plan l) = false := by
      have : ∀ {q : List Request}, (∀ x ∈ q, x.Id ≠ s.Id) → hasI s.Id (missedOf plan q) = false := by
        intro q
        induction q with
        | nil => intro _; rfl
        | cons x q ih =>
          intro hx
          have h1 := hx x (by simp)
          have h2 := ih (fun y hy => hx y (by simp [hy]))
          rw [missedOf]
          split
          · rw [hasI, h2]; simpa using h1
          · exact h2
      exact this (fun x hx e => hfr x hx s (by simp) e.symm)
    rw [missedOf]
    rcases List.mem_cons.1 hm with rfl | hm
    · split
      · rename_i h1; rw [hasI]; simp [h1]
      · rename_i h1; rw [hno]; simp; omega
    · have hne := hfr r hm s (by simp)
      have hrec := hasI_missed h.2.2.2.2.2 r hm (plan := plan)
      split
      · rw [hasI, hrec]
        have : (s.Id == r.Id) = false := by simpa using hne
        rw [this]; rfl
      · exact hrec
theorem plan_has {plan : List Slot} {l : List Request} (hr : requestsOk l = true) : ∀ r ∈ l, hasI r.Id (missedOf plan l) = decide ((slotsOf r.Id plan : Int) < r.Need) := by
  simp only [requestsOk, Bool.and_eq_true] at hr
  exact hasI_missed hr.2
theorem demand_ge {plan : List Slot} : ∀ {l : List Request}, (∀ r ∈ l, 0 ≤ r.Ready ∧ r.Deadline ≤ 1000000) → (∀ r ∈ l, (slotsOf r.Id plan : Int) ≤ r.Need) → (slotSum plan l : Int) ≤ demandSum 0 1000000 l
  | [], _, _ => by simp [slotSum, demandSum]
  | r :: l, h, hn => by
    have h1 := demand_ge (plan := plan) (l := l) (fun q hq => h q (by simp [hq])) (fun q hq => hn q (by simp [hq]))
    have h2 := h r (by simp)
    have h3 := hn r (by simp)
    rw [slotSum, demandSum, if_pos (by simp; omega)]; omega
theorem plan_demand {p s l : Int} {list : List Request} (ok : orbitOk p s l = true) (hr : requestsOk list = true) : ((planAll p s l list).length : Int) ≤ demandOf list 0 1000000 := by
  rw [← plan_sum hr, demandOf, if_pos hr]
  exact demand_ge (fun r hm => by have := (requestsOk_mem hr).2 r hm; omega) (plan_le ok hr)
end Go.Proofs.Ytonclekalgaojaa
