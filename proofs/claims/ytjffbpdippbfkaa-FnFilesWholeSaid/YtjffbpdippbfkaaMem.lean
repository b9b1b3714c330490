/- Words for slices of flat elements: 'Sl enc w a l': the slice at a reads as the list l. No condition. -/
import Derived.Test.YtjffbpdippbfkaaBase
namespace Go.Proofs.Ytjffbpdippbfkaa
set_option linter.unusedVariables false
open Go.ChangeShapes Go.WideShapes Go.ChangeAt Go.RowKit

/-- An integer of 64 bits. -/
def i64 (n : Int) : Prop := -9223372036854775808 ≤ n ∧ n ≤ 9223372036854775807
theorem i64_wf {n : Int} (h : (Lit.int .i64 n).wf = true) : i64 n := by
  simp [Lit.wf, IntKind.min, IntKind.max, IntKind.signed, IntKind.bits] at h
  exact h

/-- The slice at a reads as l: each element's cells, one behind the other. -/
def Sl {α : Type} (enc : α → List Value) (w : World) (a : Option Addr) (l : List α) : Prop :=
  ∀ (i : Nat) (x : α), l[i]? = some x → ∃ b off, a = some ⟨b, off, none⟩ ∧ b < w.heap.size ∧ ∀ (j : Nat) (v : Value), (enc x)[j]? = some v → w.cell? ⟨b, off + i * (enc x).length + j, none⟩ = some v

theorem Sl.later {α : Type} {enc : α → List Value} {W : World} {a : Option Addr} {l : List α} (h : Sl enc W a l) (x : Later W) : Sl enc x.w a l := fun i y hy => by
  obtain ⟨b, off, rfl, hb, hc⟩ := h i y hy
  exact ⟨b, off, rfl, Nat.lt_of_lt_of_le hb x.size_le, fun j v hv => by rw [x.h.cell (p := ⟨b, _, none⟩) hb]; exact hc j v hv⟩
theorem Sl.alloc {α : Type} {enc : α → List Value} {W : World} {a : Option Addr} {l : List α} (h : Sl enc W a l) (o : Obj) : Sl enc (W.alloc o) a l := fun i y hy => by
  obtain ⟨b, off, rfl, hb, hc⟩ := h i y hy
  exact ⟨b, off, rfl, by simp; omega, fun j v hv => by rw [World.cell?_alloc_past o b _ hb]; exact hc j v hv⟩
theorem Sl.nil {α : Type} {enc : α → List Value} {W : World} {a : Option Addr} : Sl enc W a [] := fun i y hy => by simp at hy

/-- What is left of a list from k on. -/
theorem drop_at {α : Type} {l : List α} {k : Nat} (hk : k < l.length) : ∃ x, l[k]? = some x ∧ Hid (l.drop k = x :: l.drop (k + 1)) := ⟨l[k], List.getElem?_eq_getElem hk, List.drop_eq_getElem_cons hk⟩

theorem Later.cast {W W' : World} (h : W = W') (x : Later W) : ∃ y : Later W', x.w = y.w := by subst h; exact ⟨x, rfl⟩
/-- A store into the newest block of a world that has grown since. -/
theorem Later.set_at {W : World} {C : Array Value} {T : TypeId} (x : Later (W.alloc (.cells C T))) (i : Nat) (v : Value) :
    ∃ y : Later (W.alloc (.cells (C.setIfInBounds i v) T)), (x.set ⟨W.heap.size, i, none⟩ v).w = y.w :=
  Later.cast (World.setCell_alloc_at C T _ i v rfl) _
theorem Later.set2_at {W : World} {C : Array Value} {T : TypeId} (x : Later (W.alloc (.cells C T))) (i i' : Nat) (v v' : Value) :
    ∃ y : Later (W.alloc (.cells ((C.setIfInBounds i v).setIfInBounds i' v') T)), ((x.set ⟨W.heap.size, i, none⟩ v).set ⟨W.heap.size, i', none⟩ v').w = y.w :=
  Later.cast (by rw [World.setCell_alloc_at C T _ i v rfl, World.setCell_alloc_at _ T _ i' v' rfl]) _

/-- 'make([]T, n)': the new block's cells, by name. -/
theorem run_mk {P : Program} {t e size bytes : Nat} {z : Value} (h1 : P.underlying t = some (.slice e)) (h2 : (P.info? e).map (fun i => (i.zero, i.size, i.bytes)) = some (some z, size, bytes)) (n : Nat)
    (hb : bytes * n ≤ 281474976710656) (hn : n ≤ 1000000000000) :
    ∃ C : Array Value, C = madeCells z.cells (n * size) ∧ ∀ w : World, (Instr.makeSlice t (.int .i64 n) (.int .i64 n)).run P w = .ok (.slice (some ⟨w.heap.size, 0, none⟩) n n) (w.alloc (.cells C e)) := by
  refine ⟨_, rfl, fun w => ?_⟩
  obtain ⟨i, hi, h3⟩ := Option.map_eq_some_iff.1 h2
  simp only [Prod.mk.injEq] at h3
  obtain ⟨h4, h5, h6⟩ := h3
  have := run_make (P := P) w t e i z h1 hi h4 .i64 .i64 (n : Int) (n : Int) (by omega) (by omega) (by rw [h6]; omega) (by omega)
  simpa [h5] using this

/-- Cells written one behind the other: what stands before them stays. -/
theorem put_take {C : Array Value} {k : Nat} {F : List Value} {v : Value} (h : C.toList.take k = F) (hk : k < C.size) : (C.setIfInBounds k v).toList.take (k + 1) = F ++ [v] := by
  obtain ⟨C⟩ := C
  simp only at h hk
  rw [← h]
  simp only [List.setIfInBounds_toArray, List.take_set]
  rw [List.take_add_one]
  have hk' : k < C.length := by simpa using hk
  rw [List.getElem?_eq_getElem hk', List.set_append_right _ _ (by simp; omega)]
  simp [Nat.min_eq_left (Nat.le_of_lt hk')]
theorem getD_lt {C : Array Value} {i m : Nat} (h : C.size = m) (hi : i < m) : ∃ v, C[i]? = some v := ⟨C[i], Array.getElem?_eq_getElem (by omega)⟩
theorem take_snoc' {α : Type} {l : List α} {k : Nat} {x : α} {r : List α} (h : l.drop k = x :: r) : l.take (k + 1) = l.take k ++ [x] := by
  have : l[k]? = some x := by
    have := congrArg (fun m => m[0]?) h
    simpa using this
  rw [List.take_add_one, this]; rfl

/-- A slice that the call has made: its cells are those of the list. -/
def Own {α : Type} (enc : α → List Value) (T size B : Nat) (w : World) (a : Option Addr) (c : Nat) (l : List α) : Prop :=
  (∀ x : α, (enc x).length = size) ∧ w.ownsRow B T size (.slice a l.length c) l.length (l.flatMap enc)

theorem flatMap_length {α : Type} {enc : α → List Value} {size : Nat} (h : ∀ x : α, (enc x).length = size) (l : List α) : (l.flatMap enc).length = l.length * size := by
  induction l with
  | nil => simp
  | cons x l ih => simp [List.flatMap_cons, h, ih, Nat.add_mul]; omega
theorem flatMap_at {α : Type} {enc : α → List Value} {size : Nat} (h : ∀ x : α, (enc x).length = size) : ∀ (l : List α) (i j : Nat) (x : α) (v : Value), l[i]? = some x → (enc x)[j]? = some v → (l.flatMap enc)[i * size + j]? = some v
  | [], i, j, x, v, hi, _ => by simp at hi
  | y :: l, 0, j, x, v, hi, hj => by
    simp only [List.getElem?_cons_zero, Option.some.injEq] at hi
    subst hi
    have : j < (enc y).length := (List.getElem?_eq_some_iff.1 hj).1
    rw [List.flatMap_cons, Nat.zero_mul, Nat.zero_add, List.getElem?_append_left this, hj]
  | y :: l, i + 1, j, x, v, hi, hj => by
    have hh := flatMap_at h l i j x v (by simpa using hi) hj
    rw [List.flatMap_cons, List.getElem?_append_right (by rw [h]; rw [Nat.add_mul]; omega), h]
    rw [show (i + 1) * size + j - size = i * size + j from by rw [Nat.add_mul]; omega, hh]

theorem Own.sl {α : Type} {enc : α → List Value} {T size B : Nat} {w : World} {a : Option Addr} {c : Nat} {l : List α} (h : Own enc T size B w a c l) : Sl enc w a l := by
  intro i x hx
  obtain ⟨hsz, hlen, h1 | ⟨g, cap, cur, hv, hg, hh, hn, hc, hcs, ht⟩⟩ := h
  · have : i < l.length := (List.getElem?_eq_some_iff.1 hx).1
    omega
  · simp only [Value.slice.injEq] at hv
    obtain ⟨rfl, -, rfl⟩ := hv
    have hi : i < l.length := (List.getElem?_eq_some_iff.1 hx).1
    have hlt : g < w.heap.size := by
      have := (Array.getElem?_eq_some_iff.1 hh).1
      exact this
    refine ⟨g, 0, rfl, hlt, fun j v hj => ?_⟩
    have h3 := flatMap_at hsz l i j x v hx hj
    rw [← ht, List.getElem?_take] at h3
    split at h3
    · have h4 : cur[i * size + j]? = some v := by rw [← Array.getElem?_toList]; exact h3
      simp only [World.cell?, hh, hsz, Nat.zero_add]
      simpa using h4
    · cases h3

theorem Own.cap {α : Type} {enc : α → List Value} {T size B : Nat} {w : World} {a : Option Addr} {c : Nat} {l : List α} (h : Own enc T size B w a c l) : l.length ≤ c := by
  obtain ⟨-, -, ⟨h1, h2⟩ | ⟨g, cap, cur, hv, -, -, hn, -⟩⟩ := h
  · omega
  · simp only [Value.slice.injEq] at hv; omega

theorem own_later {W : World} {B e size n : Nat} {v : Value} {xs : List Value} (h : W.ownsRow B e size v n xs) (x : Later W) : x.w.ownsRow B e size v n xs := by
  obtain ⟨h1, h2⟩ := h
  refine ⟨h1, ?_⟩
  rcases h2 with h2 | ⟨g, cap, cur, hv, hg, hh, r⟩
  · exact .inl h2
  · exact .inr ⟨g, cap, cur, hv, hg, by rw [x.h.block g (Array.getElem?_eq_some_iff.1 hh).1]; exact hh, r⟩
theorem Own.later {α : Type} {enc : α → List Value} {T size B : Nat} {W : World} {a : Option Addr} {c : Nat} {l : List α} (h : Own enc T size B W a c l) (x : Later W) : Own enc T size B x.w a c l := ⟨h.1, own_later h.2 x⟩
theorem Own.alloc {α : Type} {enc : α → List Value} {T size B : Nat} {W : World} {a : Option Addr} {c : Nat} {l : List α} (h : Own enc T size B W a c l) (o : Obj) : Own enc T size B (W.alloc o) a c l :=
  h.later ⟨W.alloc o, (Below.refl _ _).alloc (Nat.le_refl _) o⟩
theorem Own.mono {α : Type} {enc : α → List Value} {T size B B' : Nat} {W : World} {a : Option Addr} {c : Nat} {l : List α} (h : Own enc T size B W a c l) (hB : B' ≤ B) : Own enc T size B' W a c l := by
  obtain ⟨h0, h1, h2 | ⟨g, cap, cur, hv, hg, r⟩⟩ := h
  · exact ⟨h0, h1, .inl h2⟩
  · exact ⟨h0, h1, .inr ⟨g, cap, cur, hv, Nat.le_trans hB hg, r⟩⟩

/-- One slice of the call's own, and a world that has grown. -/
def GivesSl {α : Type} (enc : α → List Value) (T size : Nat) (w : World) (l : List α) : Ending → World → Prop := fun e w' => ∃ a c, e = .returned (.slice a l.length c) ∧ Own enc T size w.heap.size w' a c l ∧ ∃ x : Later w, w' = x.w

/-- A full block reads as its list. -/
theorem own_block {α : Type} {enc : α → List Value} {T size n B : Nat} {W : World} {D : Array Value} {l : List α} (hsz : ∀ x : α, (enc x).length = size) (hn : l.length = n) (hm : n ≤ 1000000000000) (hB : B ≤ W.heap.size)
    (hD : D.size = n * size) (ht : D.toList = l.flatMap enc) (x : Later (W.alloc (.cells D T))) : Own enc T size B x.w (some ⟨W.heap.size, 0, none⟩) n l := by
  refine ⟨hsz, by rw [flatMap_length hsz], .inr ⟨W.heap.size, n, D, by rw [hn], hB, ?_, by omega, by unfold maxLen; omega, hD, ?_⟩⟩
  · rw [x.h.block _ (by simp)]
    show (W.heap.push _)[W.heap.size]? = _
    simp
  · rw [← ht, List.take_of_length_le (by simp [hD, hn])]

/-- A round of a loop that fills a block, element by element. -/
theorem fill2 {α : Type} {enc : α → List Value} {D : Array Value} {n k : Nat} {l r : List α} {s : α} {v0 v1 : Value} (hf : D.toList.take (k * 2) = (l.take k).flatMap enc) (hD : D.size = n * 2) (hk : k < n)
    (hd : l.drop k = s :: r) (he : enc s = [v0, v1]) : ((D.setIfInBounds (k * 2) v0).setIfInBounds (k * 2 + 1) v1).toList.take ((k + 1) * 2) = (l.take (k + 1)).flatMap enc := by
  rw [take_snoc' hd, List.flatMap_append, List.flatMap_singleton, he, ← hf]
  have := put_take (v := v1) (put_take (v := v0) (rfl : D.toList.take (k * 2) = _) (by omega)) (by simp; omega)
  rw [show (k + 1) * 2 = k * 2 + 1 + 1 from by omega, this]; simp
theorem fill1 {α : Type} {enc : α → List Value} {D : Array Value} {n k : Nat} {l r : List α} {s : α} {v0 : Value} (hf : D.toList.take k = (l.take k).flatMap enc) (hD : D.size = n) (hk : k < n)
    (hd : l.drop k = s :: r) (he : enc s = [v0]) : (D.setIfInBounds k v0).toList.take (k + 1) = (l.take (k + 1)).flatMap enc := by
  rw [take_snoc' hd, List.flatMap_append, List.flatMap_singleton, he, ← hf]
  exact put_take rfl (by omega)
theorem fill3 {α : Type} {enc : α → List Value} {D : Array Value} {n k : Nat} {l r : List α} {s : α} {v0 v1 v2 : Value} (hf : D.toList.take (k * 3) = (l.take k).flatMap enc) (hD : D.size = n * 3) (hk : k < n)
    (hd : l.drop k = s :: r) (he : enc s = [v0, v1, v2]) : (((D.setIfInBounds (k * 3) v0).setIfInBounds (k * 3 + 1) v1).setIfInBounds (k * 3 + 2) v2).toList.take ((k + 1) * 3) = (l.take (k + 1)).flatMap enc := by
  rw [take_snoc' hd, List.flatMap_append, List.flatMap_singleton, he, ← hf]
  have := put_take (v := v2) (put_take (v := v1) (put_take (v := v0) (rfl : D.toList.take (k * 3) = _) (by omega)) (by simp; omega)) (by simp; omega)
  rw [show (k + 1) * 3 = k * 3 + 1 + 1 + 1 from by omega, this]; simp
theorem fill4 {α : Type} {enc : α → List Value} {D : Array Value} {n k : Nat} {l r : List α} {s : α} {v0 v1 v2 v3 : Value} (hf : D.toList.take (k * 4) = (l.take k).flatMap enc) (hD : D.size = n * 4) (hk : k < n)
    (hd : l.drop k = s :: r) (he : enc s = [v0, v1, v2, v3]) : ((((D.setIfInBounds (k * 4) v0).setIfInBounds (k * 4 + 1) v1).setIfInBounds (k * 4 + 2) v2).setIfInBounds (k * 4 + 3) v3).toList.take ((k + 1) * 4) = (l.take (k + 1)).flatMap enc := by
  rw [take_snoc' hd, List.flatMap_append, List.flatMap_singleton, he, ← hf]
  have := put_take (v := v3) (put_take (v := v2) (put_take (v := v1) (put_take (v := v0) (rfl : D.toList.take (k * 4) = _) (by omega)) (by simp; omega)) (by simp; omega)) (by simp; omega)
  rw [show (k + 1) * 4 = k * 4 + 1 + 1 + 1 + 1 from by omega, this]; simp

/-- What 'eq' of two elements gives, all along. -/
def eqAll {α : Type} (p : α → α → Bool) : List α → List α → Bool
  | x :: l, y :: r => p x y && eqAll p l r
  | _, _ => true
theorem eqAll_self {α : Type} {p : α → α → Bool} (hp : ∀ x, p x x = true) : ∀ l : List α, eqAll p l l = true
  | [] => rfl
  | x :: l => by rw [eqAll, hp, eqAll_self hp l]; rfl

theorem Sl.to {α : Type} {enc : α → List Value} {W W' : World} {a : Option Addr} {l : List α} (h : Sl enc W a l) (g : Grows W W') : Sl enc W' a l := h.later ⟨W', g.out⟩
theorem Own.to {α : Type} {enc : α → List Value} {T size B : Nat} {W W' : World} {a : Option Addr} {c : Nat} {l : List α} (h : Own enc T size B W a c l) (g : Grows W W') : Own enc T size B W' a c l := h.later ⟨W', g.out⟩
theorem Later.set1_at {W : World} {C : Array Value} {T : TypeId} (x : Later (W.alloc (.cells C T))) (i : Nat) (v : Value) :
    ∃ y : Later (W.alloc (.cells (C.setIfInBounds i v) T)), (x.set ⟨W.heap.size, i, none⟩ v).w = y.w := x.set_at i v
theorem Later.set3_at {W : World} {C : Array Value} {T : TypeId} (x : Later (W.alloc (.cells C T))) (i i' i2 : Nat) (v v' v2 : Value) :
    ∃ y : Later (W.alloc (.cells (((C.setIfInBounds i v).setIfInBounds i' v').setIfInBounds i2 v2) T)), (((x.set ⟨W.heap.size, i, none⟩ v).set ⟨W.heap.size, i', none⟩ v').set ⟨W.heap.size, i2, none⟩ v2).w = y.w :=
  Later.cast (by rw [World.setCell_alloc_at C T _ i v rfl, World.setCell_alloc_at _ T _ i' v' rfl, World.setCell_alloc_at _ T _ i2 v2 rfl]) _
theorem Later.set4_at {W : World} {C : Array Value} {T : TypeId} (x : Later (W.alloc (.cells C T))) (i i' i2 i3 : Nat) (v v' v2 v3 : Value) :
    ∃ y : Later (W.alloc (.cells ((((C.setIfInBounds i v).setIfInBounds i' v').setIfInBounds i2 v2).setIfInBounds i3 v3) T)), ((((x.set ⟨W.heap.size, i, none⟩ v).set ⟨W.heap.size, i', none⟩ v').set ⟨W.heap.size, i2, none⟩ v2).set ⟨W.heap.size, i3, none⟩ v3).w = y.w :=
  Later.cast (by rw [World.setCell_alloc_at C T _ i v rfl, World.setCell_alloc_at _ T _ i' v' rfl, World.setCell_alloc_at _ T _ i2 v2 rfl, World.setCell_alloc_at _ T _ i3 v3 rfl]) _
end Go.Proofs.Ytjffbpdippbfkaa
