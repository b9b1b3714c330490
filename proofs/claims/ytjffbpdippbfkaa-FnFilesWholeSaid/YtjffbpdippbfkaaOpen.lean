/- What came in, opened: the cells of a value by its type's code, all the way down through slices. No condition. -/
import Derived.Test.YtjffbpdippbfkaaMem
import Derived.Deep.Slices
namespace Go.Proofs.Ytjffbpdippbfkaa
set_option linter.unusedVariables false
open Go.ChangeShapes Go.WideShapes Go.ChangeAt Go.RowKit

/-- The kinds of cells that occur here. -/
inductive Cd where
  | int | byte | bool | str
  | sl (es : List Cd)

/-- A cell reads by its code. -/
inductive RdC (w : World) : Cd → Value → Prop
  | int {n : Int} : i64 n → RdC w .int (.int .i64 n)
  | byte {n : Int} : 0 ≤ n → n ≤ 255 → RdC w .byte (.int .u8 n)
  | bool {b : Bool} : RdC w .bool (.bool b)
  | str {s : ByteArray} : s.size ≤ maxLen → RdC w .str (.string s)
  | nil {es : List Cd} : RdC w (.sl es) (.slice none 0 0)
  | sl {es : List Cd} {a : Addr} {n c : Nat} (U : Nat → Nat → Value) : 0 < es.length → n ≤ c → c ≤ maxLen →
      (∀ i, i < n → ∀ j, j < es.length → ∃ b off, a = ⟨b, off, none⟩ ∧ b < w.heap.size ∧ w.cell? ⟨b, off + (i * es.length + j), none⟩ = some (U i j)) →
      (∀ i, i < n → ∀ (j : Nat) (e : Cd), es[j]? = some e → RdC w e (U i j)) → RdC w (.sl es) (.slice (some a) n c)

def codesF (f : TypeId → Option (List Cd)) (P : Program) : List Field → Nat → Option (List Cd)
  | [], _ => some []
  | x :: r, off =>
    if x.offset = off then
      match f x.type with
      | some L => if P.cellsOf x.type = L.length then (codesF f P r (off + L.length)).map (L ++ ·) else none
      | none => none
    else none
/-- The codes of a type's cells. -/
def codes (P : Program) : Nat → TypeId → Option (List Cd)
  | 0, _ => none
  | k + 1, t =>
    match P.underlying t with
    | some .bool => some [.bool]
    | some (.int .i64) => some [.int]
    | some (.int .u8) => some [.byte]
    | some .string => some [.str]
    | some (.slice e) =>
      match codes P k e with
      | some (c :: es) => if P.cellsOf e = es.length + 1 then some [.sl (c :: es)] else none
      | _ => none
    | some (.struct fs) =>
      match codesF (codes P k) P fs.toList 0 with
      | some L => if P.cellsOf t = L.length then some L else none
      | none => none
    | _ => none

section
variable {H : Type} {enc : TypeId × Value → H} {P : Program} {w : World} {base : Nat} {spare : Nat → Bool} {held : Bool}

/-- Cells read by a list of codes. -/
def RdL (w : World) (L : List Cd) (cs : List Value) : Prop := ∀ (j : Nat) (c : Cd), L[j]? = some c → ∃ u, cs[j]? = some u ∧ RdC w c u

theorem codesF_sound {f : TypeId → Option (List Cd)} {n : Nat} (hf : ∀ t L cs x, f t = some L → DataW.trod enc P w base spare held n t cs = some x → cs.length = L.length ∧ RdL w L cs) :
    ∀ (r : List Field) (off : Nat) (L : List Cd) (cs : List Value), codesF f P r off = some L →
      (∀ (i : Nat) (fl : Field), r[i]? = some fl → ∃ y, DataW.trod enc P w base spare held n fl.type ((cs.drop fl.offset).take (P.cellsOf fl.type)) = some y) → RdL w L (cs.drop off)
  | [], off, L, cs, h, _ => by
    simp only [codesF, Option.some.injEq] at h
    subst h
    intro j c hj; simp at hj
  | x :: r, off, L, cs, h, hy => by
    simp only [codesF] at h
    split at h
    · rename_i ho
      split at h
      · rename_i L1 hL1
        split at h
        · rename_i hc
          obtain ⟨L2, hL2, rfl⟩ := Option.map_eq_some_iff.1 h
          obtain ⟨y, hy0⟩ := hy 0 x (by simp)
          have h1 := hf _ _ _ _ hL1 hy0
          have h2 := codesF_sound hf r _ _ cs hL2 (fun i fl hi => hy (i + 1) fl (by simpa using hi))
          intro j c hj
          by_cases hlt : j < L1.length
          · rw [List.getElem?_append_left hlt] at hj
            obtain ⟨u, hu, hr⟩ := h1.2 j c hj
            refine ⟨u, ?_, hr⟩
            rw [List.getElem?_take] at hu
            split at hu
            · rw [ho] at hu; exact hu
            · cases hu
          · rw [List.getElem?_append_right (by omega)] at hj
            obtain ⟨u, hu, hr⟩ := h2 _ c hj
            refine ⟨u, ?_, hr⟩
            rw [List.getElem?_drop] at hu ⊢
            rw [← hu]; congr 1; omega
        · cases h
      · cases h
    · cases h

theorem codes_sound : ∀ (k fuel : Nat) (t : TypeId) (L : List Cd) (cs : List Value) (x : DataW H × List MemPlace), codes P k t = some L → DataW.trod enc P w base spare held fuel t cs = some x → cs.length = L.length ∧ RdL w L cs
  | 0, _, _, _, _, _, h, _ => by simp [codes] at h
  | k + 1, fuel, t, L, cs, x, h, ht => by
    have one : ∀ (c : Cd) (u : Value), L = [c] → cs = [u] → RdC w c u → cs.length = L.length ∧ RdL w L cs := fun c u hL hc hr => by
      subst hL; subst hc
      refine ⟨rfl, fun j d hj => ?_⟩
      match j, hj with
      | 0, hj => simp only [List.getElem?_cons_zero, Option.some.injEq] at hj; subst hj; exact ⟨u, rfl, hr⟩
    simp only [codes] at h
    split at h
    · rename_i hu
      obtain ⟨b, hb, -⟩ := DataW.trod_bool hu ht
      exact one .bool _ (by simpa using h.symm) hb .bool
    · rename_i hu
      obtain ⟨n, hn, -, hw⟩ := DataW.trod_int hu ht
      exact one .int _ (by simpa using h.symm) hn (.int (i64_wf hw))
    · rename_i hu
      obtain ⟨n, hn, -, hw⟩ := DataW.trod_int hu ht
      have : 0 ≤ n ∧ n ≤ 255 := by simpa [Lit.wf, IntKind.min, IntKind.max, IntKind.signed, IntKind.bits] using hw
      exact one .byte _ (by simpa using h.symm) hn (.byte this.1 this.2)
    · rename_i hu
      obtain ⟨s, hs, -, hw⟩ := DataW.trod_string hu ht
      exact one .str _ (by simpa using h.symm) hs (.str hw)
    · rename_i e hu
      split at h
      · rename_i c es hc
        split at h
        · rename_i hsz
          rcases Deep.open_slice hu ht with ⟨h1, -⟩ | ⟨a, len, cap, m, n, D, Pl, hcs, hb, hl, hm, hmm, hx, hi⟩
          · exact one _ _ (by simpa using h.symm) h1 .nil
          · have main : ∀ i, i < len → ∀ (j : Nat) (e' : Cd), (c :: es)[j]? = some e' → ∃ u, a = ⟨a.block, a.off, none⟩ ∧ a.block < w.heap.size ∧ w.cell? ⟨a.block, a.off + (i * (c :: es).length + j), none⟩ = some u ∧ RdC w e' u := ?_
            · refine one _ _ (by simpa using h.symm) hcs (.sl (fun i j => (w.cell? ⟨a.block, a.off + (i * (c :: es).length + j), none⟩).getD undef) (by simp) hl hm (fun i hi j hj => ?_) (fun i hi j e' hj => ?_))
              · obtain ⟨u, h7, h8, h9, -⟩ := main i hi j _ (List.getElem?_eq_getElem hj)
                exact ⟨_, _, h7, h8, by rw [h9]; rfl⟩
              · obtain ⟨u, -, -, h9, h10⟩ := main i hi j e' hj
                rw [h9]; exact h10
            intro i hil j e' hj
            obtain ⟨cs', hc1, hc2⟩ := hi i (by rw [hmm]; split <;> omega)
            obtain ⟨-, hlen, hat⟩ := World.cells?_some hc1
            obtain ⟨h3, h4⟩ := codes_sound k n e _ cs' _ hc hc2
            obtain ⟨u, hu1, hu2⟩ := h4 j e' hj
            have hj' : j < P.cellsOf e := by rw [← hlen]; exact (List.getElem?_eq_some_iff.1 hu1).1
            have h5 := hat j hj'
            rw [Deep.add_add, hu1, hsz] at h5
            have hsp : a.spot = none := by
              obtain ⟨cs0, hc3, -⟩ := hi 0 (by rw [hmm]; split <;> omega)
              obtain ⟨-, hlen0, hat0⟩ := World.cells?_some hc3
              have h6 := hat0 0 (by rw [hsz]; omega)
              simp only [Nat.zero_mul, Addr.add, if_true] at h6
              have : 0 < cs0.length := by rw [hlen0, hsz]; omega
              rw [List.getElem?_eq_getElem this] at h6
              unfold World.cell? at h6
              split at h6
              · split at h6
                · cases h6
                · rename_i hns; simpa using hns
              · cases h6
            have ha : a.add (i * (es.length + 1) + j) = ⟨a.block, a.off + (i * (es.length + 1) + j), none⟩ := by
              unfold Addr.add
              split
              · rename_i h0; rw [h0]; cases a; simp only at hsp; subst hsp; rfl
              · cases a; simp only at hsp; subst hsp; rfl
            rw [ha] at h5
            exact ⟨u, by cases a; simp only at hsp; subst hsp; rfl, World.block_lt_of_cell? w ⟨a.block, _, none⟩ h5, by simpa using h5, hu2⟩
        · cases h
      · cases h
    · rename_i fs hu
      split at h
      · rename_i L1 hL1
        split at h
        · rename_i hsz
          simp only [Option.some.injEq] at h
          subst h
          obtain ⟨xs, n, -, -, hlen, hxl, hf⟩ := DataW.trod_struct hu ht
          refine ⟨by rw [hlen, hsz], ?_⟩
          have := codesF_sound (enc := enc) (base := base) (spare := spare) (held := held) (f := codes P k) (n := n) (fun t L cs x h h' => codes_sound k n t L cs x h h') fs.toList 0 L1 cs hL1 (fun i fl hi => by
            have h1 : fs[i]? = some fl := by rw [← Array.getElem?_toList]; exact hi
            have hi' : i < xs.length := by rw [hxl]; exact (Array.getElem?_eq_some_iff.1 h1).1
            exact ⟨_, (hf i fl h1).trans (List.getElem?_eq_getElem hi')⟩)
          simpa using this
        · cases h
      · cases h
    · cases h
end

/-- A list out of what is known at each index. -/
theorem choose_list {α : Type} : ∀ (n : Nat) {p : Nat → α → Prop}, (∀ i, i < n → ∃ x, p i x) → ∃ l : List α, l.length = n ∧ ∀ i x, l[i]? = some x → p i x
  | 0, p, _ => ⟨[], rfl, fun i x h => by simp at h⟩
  | n + 1, p, h => by
    obtain ⟨l, hl, hp⟩ := choose_list n (p := p) (fun i hi => h i (by omega))
    obtain ⟨x, hx⟩ := h n (by omega)
    refine ⟨l ++ [x], by simp [hl], fun i y hy => ?_⟩
    by_cases hi : i < n
    · rw [List.getElem?_append_left (by omega)] at hy; exact hp i y hy
    · rw [List.getElem?_append_right (by omega), hl] at hy
      have : i = n := by
        have := (List.getElem?_eq_some_iff.1 hy).1
        simp at this; omega
      subst this
      simp at hy; subst hy; exact hx

/-- A slice of flat elements. -/
theorem open_sl {α : Type} {enc : α → List Value} {p : α → Prop} {w : World} {es : List Cd} {v : Value} (hflat : ∀ cs, cs.length = es.length → RdL w es cs → ∃ x, enc x = cs ∧ p x) (h : RdC w (.sl es) v) :
    ∃ a n c l, v = .slice a n c ∧ l.length = n ∧ n ≤ c ∧ c ≤ maxLen ∧ (∀ x ∈ l, p x) ∧ Sl enc w a l := by
  cases h with
  | nil => exact ⟨none, 0, 0, [], rfl, rfl, Nat.le_refl _, by unfold maxLen; omega, fun x hx => by simp at hx, Sl.nil⟩
  | @sl _ a n c U h0 h1 h2 h3 h4 =>
    have : ∀ i, i < n → ∃ x : α, p x ∧ (enc x).length = es.length ∧ ∀ (j : Nat) (v : Value), (enc x)[j]? = some v → ∃ b off, a = ⟨b, off, none⟩ ∧ b < w.heap.size ∧ w.cell? ⟨b, off + (i * es.length + j), none⟩ = some v := fun i hi => by
      obtain ⟨x, hx, hpx⟩ := hflat ((List.range es.length).map (U i)) (by simp) (fun j e hj => by
        have hj' : j < es.length := (List.getElem?_eq_some_iff.1 hj).1
        exact ⟨U i j, by simp [hj'], h4 i hi j e hj⟩)
      refine ⟨x, hpx, by rw [hx]; simp, fun j v hv => ?_⟩
      rw [hx] at hv
      have hj : j < es.length := by have := (List.getElem?_eq_some_iff.1 hv).1; simpa using this
      simp [hj] at hv
      subst hv
      exact h3 i hi j hj
    obtain ⟨l, hl, hp⟩ := choose_list n this
    refine ⟨some a, n, c, l, rfl, hl, h1, h2, fun x hx => ?_, fun i x hx => ?_⟩
    · obtain ⟨i, hi⟩ := List.getElem?_of_mem hx
      exact (hp i x hi).1
    obtain ⟨-, hlen, hc⟩ := hp i x hx
    obtain ⟨b, off, rfl, hb, -⟩ := hc 0 _ (List.getElem?_eq_getElem (by omega))
    refine ⟨b, off, rfl, hb, fun j v hv => ?_⟩
    obtain ⟨b', off', hbo, -, h6⟩ := hc j v hv
    simp only [Addr.mk.injEq, and_true] at hbo
    obtain ⟨rfl, rfl⟩ := hbo
    rw [hlen, Nat.add_assoc]; exact h6
theorem RdL.at {w : World} {L : List Cd} {cs : List Value} (h : RdL w L cs) {j : Nat} {c : Cd} (hj : L[j]? = some c) : ∃ u, cs[j]? = some u ∧ RdC w c u := h j c hj
theorem RdC.int_inv {w : World} {v : Value} (h : RdC w .int v) : ∃ n, v = .int .i64 n ∧ i64 n := by cases h with | int h => exact ⟨_, rfl, h⟩
theorem RdC.byte_inv {w : World} {v : Value} (h : RdC w .byte v) : ∃ n, v = .int .u8 n ∧ 0 ≤ n ∧ n ≤ 255 := by cases h with | byte h h' => exact ⟨_, rfl, h, h'⟩
theorem RdC.bool_inv {w : World} {v : Value} (h : RdC w .bool v) : ∃ b, v = .bool b := by cases h with | bool => exact ⟨_, rfl⟩
theorem RdC.str_inv {w : World} {v : Value} (h : RdC w .str v) : ∃ s, v = .string s ∧ s.size ≤ maxLen := by cases h with | str h => exact ⟨_, rfl, h⟩
theorem list_all {α : Type} : ∀ {l m : List α}, l.length = m.length → (∀ (j : Nat) (x : α), m[j]? = some x → l[j]? = some x) → l = m
  | [], [], _, _ => rfl
  | x :: l, y :: m, h, hj => by
    have h0 := hj 0 y rfl
    simp only [List.getElem?_cons_zero, Option.some.injEq] at h0
    subst h0
    exact congrArg (x :: ·) (list_all (l := l) (m := m) (by simpa using h) (fun j z hz => by have := hj (j + 1) z (by simpa using hz); simpa using this))
end Go.Proofs.Ytjffbpdippbfkaa
