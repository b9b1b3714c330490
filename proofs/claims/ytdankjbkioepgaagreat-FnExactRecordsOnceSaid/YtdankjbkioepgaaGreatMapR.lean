/- Maps keyed by records: what a store and a look-up come to. No condition. -/
import Derived.Test.YtdankjbkioepgaaGreatOkF
import Derived.Laws.StructEq
import Derived.MapKept
namespace Go.Proofs.YtdankjbkioepgaaGreat
set_option linter.unusedVariables false
open Go.ChangeShapes Go.WideShapes Go.ChangeAt Go.RowKit

def recV (x : TRecord) : Value := .agg #[.int .i64 x.Id, .int .i64 x.Priority, .int .i64 x.Time, .string x.Data]
def recEq (x y : TRecord) : Bool := (x.Id == y.Id) && ((x.Priority == y.Priority) && ((x.Time == y.Time) && (x.Data.toList == y.Data.toList)))
theorem recEq_eq {x y : TRecord} (h : recEq x y = true) : x = y := by
  simp only [recEq, Bool.and_eq_true, beq_iff_eq] at h
  obtain ⟨h1, h2, h3, h4⟩ := h
  have h5 : x.Data = y.Data := by
    rw [ByteArray.toList_eq, ByteArray.toList_eq] at h4
    cases x; cases y
    rename_i a _ _ _ b
    simp only at h4 ⊢
    exact ByteArray.ext (Array.ext' h4)
  cases x; cases y
  simp_all

theorem run_recEq (x y : TRecord) (d : Nat) (w : World) : (Op.equalIn (d + 2) 124 (recV x) (recV y)).run Tryz.prog w = .ok (recEq x y) w := by
  have hu := Tryz.underlying124
  rw [recV, recV, show d + 2 = (d + 1) + 1 from rfl, run_equalIn_struct w (d + 1) _ _ _ (by kernel_rfl) (by kernel_rfl)]
  cases h1 : (x.Id == y.Id)
  · simp [go_sem, h1, recEq]
  cases h2 : (x.Priority == y.Priority)
  · simp [go_sem, h1, h2, recEq]
  cases h3 : (x.Time == y.Time)
  · simp [go_sem, h1, h2, h3, recEq]
  cases h4 : (x.Data.toList == y.Data.toList)
  · have h5 : ¬ x.Data.toList = y.Data.toList := by simpa using h4
    simp [go_sem, h1, h2, h3, h5, recEq]
  · have h5 : x.Data.toList = y.Data.toList := by simpa using h4
    simp [go_sem, h1, h2, h3, h5, recEq]

def Ents : List MapEntry → List TRecord → Prop
  | [], [] => True
  | e :: es, r :: rs => (e.key = recV r ∧ e.val = .bool true) ∧ Ents es rs
  | _, _ => False
def idxR (x : TRecord) : List TRecord → Nat → Option Nat
  | [], _ => none
  | r :: rs, i => if recEq x r = true then some i else idxR x rs (i + 1)
theorem run_findAsk (x : TRecord) (w : World) : ∀ (es : List MapEntry) (rs : List TRecord) (i : Nat), Ents es rs →
    (Instr.findAsking 124 (recV x) es i).run Tryz.prog w = .ok ((idxR x rs i).map (fun j => (j, Value.bool true))) w
  | [], [], i, _ => rfl
  | [], _ :: _, _, h => h.elim
  | _ :: _, [], _, h => h.elim
  | e :: es, r :: rs, i, h => by
    obtain ⟨⟨h1, h2⟩, h3⟩ := h
    have he : (Op.equal 124 (recV x) e.key).run Tryz.prog w = .ok (recEq x r) w := by rw [h1]; exact run_recEq x r 9998 w
    rw [Instr.findAsking, Sem.run_bind, he, Result.andThen_ok, idxR]
    cases hr : recEq x r
    · simp only [Bool.false_eq_true, if_false]
      exact run_findAsk x w es rs (i + 1) h3
    · simp only [if_true, h2]
      rfl
theorem run_findR (x : TRecord) (w : World) {es : List MapEntry} {rs : List TRecord} (h : Ents es rs) :
    (Instr.findKey 124 (recV x) es).run Tryz.prog w = .ok ((idxR x rs 0).map (fun j => (j, Value.bool true))) w := by
  rw [Instr.findKey, Sem.run_bind, run_underlying Tryz.underlying124, Result.andThen_ok]
  cases es with
  | nil => cases rs with
    | nil => rfl
    | cons r rs => exact h.elim
  | cons e es =>
    rw [show ∀ d, Instr.findNow (.struct d) (recV x) (e :: es) 0 = none from fun d => by rw [Instr.findNow]; simp [Instr.sameNow]]
    exact run_findAsk x w (e :: es) rs 0 h
theorem run_keyR (b : Bool) (x : TRecord) (d : Nat) (w : World) : (Instr.checkKey b (d + 2) 124 (recV x)).run Tryz.prog w = .ok () w := by
  have hu := Tryz.underlying124
  have h3 := Tryz.underlying3
  have h9 := Tryz.underlying9
  rw [recV, show d + 2 = (d + 1) + 1 from rfl, Instr.checkKey, Sem.run_bind, run_underlying hu, Result.andThen_ok]
  simp [go_sem, Instr.checkKey]

/-- Where a map's entries are these records. -/
def MapR (w : World) (b : Nat) (rs : List TRecord) : Prop := ∃ es clock, w.heap[b]? = some (.map es clock) ∧ Ents es.toList rs
theorem MapR.lt {w : World} {b : Nat} {rs : List TRecord} (h : MapR w b rs) : b < w.heap.size := by
  obtain ⟨es, c, h, -⟩ := h
  exact (Array.getElem?_eq_some_iff.1 h).1
theorem MapR.to {w W : World} {b : Nat} {rs : List TRecord} (h : MapR w b rs) (g : Grows w W) : MapR W b rs := by
  have hl := h.lt
  obtain ⟨es, c, h, h2⟩ := h
  exact ⟨es, c, by rw [g.out.block b hl]; exact h, h2⟩
theorem run_lookupR {w : World} {b : Nat} {rs : List TRecord} (h : MapR w b rs) (x : TRecord) :
    (Instr.lookup 127 (.map (some b)) (recV x) false).run Tryz.prog w = .ok (.bool (rs.any (recEq x))) w := by
  obtain ⟨es, c, h1, h2⟩ := h
  have hany : ∀ (rs : List TRecord) (i : Nat), (idxR x rs i).isSome = rs.any (recEq x) := by
    intro rs
    induction rs with
    | nil => intro i; rfl
    | cons r rs ih => intro i; rw [idxR, List.any_cons]; cases hr : recEq x r <;> simp [ih]
  have hg : (getObj b).run Tryz.prog w = .ok (.map es c) w := by simp [getObj, Sem.run, h1]
  rw [Instr.lookup, Sem.run_bind, run_underlying Tryz.underlying127, Result.andThen_ok]
  simp only [Sem.run_bind, hg, Result.andThen_ok, Sem.run_pure, run_keyR _ x 9998 w, run_findR x w h2]
  have := hany rs 0
  cases hi : idxR x rs 0 with
  | none => rw [hi] at this; rw [← this]; simp [go_sem]
  | some j => rw [hi] at this; rw [← this]; simp [go_sem]

theorem idxR_some {x : TRecord} : ∀ {rs : List TRecord} {i j : Nat}, idxR x rs i = some j → i ≤ j ∧ rs[j - i]? = some x
  | [], _, _, h => by cases h
  | r :: rs, i, j, h => by
    rw [idxR] at h
    split at h
    · rename_i hr
      cases h
      rw [recEq_eq hr]
      simp
    · obtain ⟨h1, h2⟩ := idxR_some h
      refine ⟨by omega, ?_⟩
      rw [show j - i = (j - (i + 1)) + 1 from by omega, List.getElem?_cons_succ]
      exact h2
theorem Ents.set {x : TRecord} {q : MapEntry} (hq : q.key = recV x ∧ q.val = .bool true) : ∀ {es : List MapEntry} {rs : List TRecord} {j : Nat}, Ents es rs → rs[j]? = some x → Ents (es.set j q) rs
  | [], [], _, _, h => by cases h
  | [], _ :: _, _, h, _ => h.elim
  | _ :: _, [], _, h, _ => h.elim
  | e :: es, r :: rs, 0, h, hx => by simp at hx; subst hx; exact ⟨hq, h.2⟩
  | e :: es, r :: rs, j + 1, h, hx => by simp at hx; exact ⟨h.1, h.2.set hq hx⟩
theorem Ents.push {x : TRecord} {q : MapEntry} (hq : q.key = recV x ∧ q.val = .bool true) : ∀ {es : List MapEntry} {rs : List TRecord}, Ents es rs → Ents (es ++ [q]) (rs ++ [x])
  | [], [], _ => ⟨hq, trivial⟩
  | [], _ :: _, h => h.elim
  | _ :: _, [], h => h.elim
  | e :: es, r :: rs, h => ⟨h.1, h.2.push hq⟩
def addR (rs : List TRecord) (x : TRecord) : List TRecord := if rs.any (recEq x) = true then rs else rs ++ [x]
theorem anyR (x : TRecord) (rs : List TRecord) : ∀ (i : Nat), (idxR x rs i).isSome = rs.any (recEq x) := by
  induction rs with
  | nil => intro i; rfl
  | cons r rs ih => intro i; rw [idxR, List.any_cons]; cases hr : recEq x r <;> simp [ih]
theorem Ents.get {x : TRecord} : ∀ {es : List MapEntry} {rs : List TRecord} {j : Nat}, Ents es rs → rs[j]? = some x → ∃ e, es[j]? = some e ∧ e.key = recV x ∧ e.val = .bool true
  | [], [], _, _, h => by cases h
  | [], _ :: _, _, h, _ => h.elim
  | _ :: _, [], _, h, _ => h.elim
  | e :: es, r :: rs, 0, h, hx => by simp at hx; subst hx; exact ⟨e, rfl, h.1⟩
  | e :: es, r :: rs, j + 1, h, hx => by simp at hx; exact h.2.get hx
theorem same_recV (x : TRecord) (d : Nat) : Instr.sameBits (d + 2) (recV x) (recV x) = true := by
  have h : ∀ s : ByteArray, (s == s) = true := fun s => by rw [beq_toListBytes]; simp
  simp [recV, Instr.sameBits, h]
theorem run_updateR {w : World} {b : Nat} {rs : List TRecord} (h : MapR w b rs) (x : TRecord) :
    ∃ w', (Instr.mapUpdate 127 (.map (some b)) (recV x) (.bool true)).run Tryz.prog w = .ok () w' ∧ MapR w' b (addR rs x) ∧ ∃ o, w' = { w with heap := w.heap.setIfInBounds b o } := by
  have hb := h.lt
  obtain ⟨es, c, h1, h2⟩ := h
  have hg : (getObj b).run Tryz.prog w = .ok (.map es c) w := by simp [getObj, Sem.run, h1]
  have hs : ∀ o, (setObj b o).run Tryz.prog w = .ok () { w with heap := w.heap.setIfInBounds b o } := fun o => by simp [setObj, Sem.run, h1]
  have ha := anyR x rs 0
  rw [Instr.mapUpdate, Sem.run_bind, run_underlying Tryz.underlying127, Result.andThen_ok]
  simp only [Sem.run_bind, hg, Result.andThen_ok, run_keyR _ x 9998 w, run_findR x w h2]
  cases hi : idxR x rs 0 with
  | none =>
    rw [hi] at ha
    simp only [Option.map_none]
    refine ⟨_, hs _, ⟨_, _, by simp [hb]; exact ⟨rfl, rfl⟩, ?_⟩, _, rfl⟩
    rw [addR, ← ha, if_neg (by simp), Array.toList_push]
    exact h2.push ⟨rfl, rfl⟩
  | some j =>
    rw [hi] at ha
    obtain ⟨-, hj⟩ := idxR_some hi
    rw [Nat.sub_zero] at hj
    obtain ⟨e, he, hk, hv⟩ := h2.get hj
    have hke : ((es[j]?).map (·.key)).getD (recV x) = recV x := by
      rw [← Array.getElem?_toList, he]; exact hk
    simp only [Option.map_some, Sem.run_bind, hke, Instr.keyThatStays, same_recV x 9998, if_true, Sem.run_pure, Result.andThen_ok]
    refine ⟨_, hs _, ⟨_, _, by simp [hb]; exact ⟨rfl, rfl⟩, ?_⟩, _, rfl⟩
    rw [addR, ← ha, if_pos (by simp), Array.toList_modify]
    have hl : j < es.toList.length := (List.getElem?_eq_some_iff.1 he).1
    have hm : ∀ (l : List MapEntry) (j : Nat) (e : MapEntry) (f : MapEntry → MapEntry), l[j]? = some e → l.modify j f = l.set j (f e) := by
      intro l
      induction l with
      | nil => intro j e f h; cases h
      | cons a l ih =>
        intro j e f h
        cases j with
        | zero => simp at h; subst h; rfl
        | succ j => simp at h; simp [ih j e f h]
    rw [hm _ _ e _ he]
    exact h2.set ⟨rfl, rfl⟩ hj

end Go.Proofs.YtdankjbkioepgaaGreat
