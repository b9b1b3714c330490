/- What a file's sender and receiver come to, plain: segments and ends as they are read, and what is whole. No program in sight. -/
import Derived.Test.YtjffbpdippbfkaaHearP
import Derived.Test.YtjffbpdippbfkaaNextP
import Derived.Test.YtjffbpdippbfkaaMissO
namespace Go.Proofs.Ytjffbpdippbfkaa
set_option linter.unusedVariables false
open Go.ChangeShapes Go.WideShapes Go.ChangeAt Go.RowKit

theorem bAt_list (s : ByteArray) (i : Nat) : bAt s i = (((s.data.toList.getD i 0).toNat : Nat) : Int) := by
  by_cases h : i < s.size
  · rw [bAt_eq h]
    have h1 : i < s.data.toList.length := by rw [Array.length_toList]; exact h
    rw [List.getD_eq_getElem?_getD, List.getElem?_eq_getElem h1]
    rfl
  · have h1 : s.data.toList.length ≤ i := by rw [Array.length_toList]; exact Nat.not_lt.1 h
    rw [bAt, dif_neg h, List.getD_eq_getElem?_getD, List.getElem?_eq_none h1]
    rfl
theorem size_list (s : ByteArray) : s.size = s.data.toList.length := (Array.length_toList).symm
theorem word1_list (n : Int) : (word1 n).data.toList = [UInt8.ofNat (n % 256 % 256).toNat] := by simp [word1, strOfNums_data]
theorem word2_list (n : Int) : (word2 n).data.toList = [UInt8.ofNat (n / 256 % 256 % 256).toNat, UInt8.ofNat (n % 256 % 256).toNat] := by simp [word2, strOfNums_data]
theorem byte_int {n : Int} (h0 : 0 ≤ n) (h1 : n < 256) : (((UInt8.ofNat (n % 256 % 256).toNat).toNat : Nat) : Int) = n := by
  rw [show (n % 256 % 256).toNat = n.toNat by omega, UInt8.toNat_ofNat']
  omega
theorem encSeg_list {j : Int} {d : ByteArray} (h0 : 0 ≤ j) (h1 : j ≤ 24) (h2 : 1 ≤ d.size) (h3 : d.size ≤ 24) :
    (encSeg 4 j d).data.toList = UInt8.ofNat (0 % 256 % 256 : Int).toNat :: UInt8.ofNat (4 % 256 % 256 : Int).toNat :: UInt8.ofNat (j % 256 % 256).toNat :: d.data.toList := by
  have c1 : inB 4 0 7 = true := rfl
  have c2 : inB j 0 24 = true := inB_iff.2 ⟨h0, h1⟩
  have c3 : inB d.size 1 24 = true := inB_iff.2 (by omega)
  rw [encSeg, c1, c2, c3]
  simp only [Bool.and_self, if_true, ByteArray.data_append, Array.toList_append, word1_list, List.cons_append, List.nil_append]
theorem decSeg_enc {j : Int} {d : ByteArray} (h0 : 0 ≤ j) (h1 : j ≤ 24) (h2 : 1 ≤ d.size) (h3 : d.size ≤ 24) : decSeg (encSeg 4 j d) = (4, j, d, true) ∧ decEnd (encSeg 4 j d) = (0, 0, 0, false) ∧ (encSeg 4 j d).size ≤ 27 := by
  have hl := encSeg_list h0 h1 h2 h3
  obtain ⟨s, hs⟩ : ∃ s, encSeg 4 j d = s := ⟨_, rfl⟩
  rw [hs] at hl ⊢
  have b0 : bAt s 0 = 0 := by rw [bAt_list, hl]; exact byte_int (by omega) (by omega)
  have b1 : bAt s 1 = 4 := by rw [bAt_list, hl]; exact byte_int (by omega) (by omega)
  have b2 : bAt s 2 = j := by rw [bAt_list, hl]; exact byte_int (by omega) (by omega)
  have hsz : s.size = d.size + 3 := by rw [size_list, hl, size_list d]; rfl
  have hx : s.extract 3 s.size = d := by
    apply bytes_ext
    rw [ByteArray.data_extract, Array.toList_extract, List.extract_eq_take_drop, hl]
    simp only [List.drop_succ_cons, List.drop_zero]
    exact List.take_of_length_le (by rw [← size_list]; omega)
  refine ⟨?_, ?_, by omega⟩
  · have h4 : segIs s = true := by simp only [segIs, segHead, Bool.and_eq_true, decide_eq_true_eq]; omega
    rw [decSeg, h4, b1, b2, hx]; rfl
  · have h4 : endIs s = false := by rw [endIs, decide_eq_false_iff_not]; omega
    rw [decEnd, h4]; rfl
theorem decEnd_enc {s : ByteArray} (h : s.size ≤ 600) : decEnd (encEnd 4 s) = (4, (s.size : Int), checkOf s, true) ∧ decSeg (encEnd 4 s) = (0, 0, ⟨#[]⟩, false) ∧ (encEnd 4 s).size = 6 := by
  have ⟨k0, k1⟩ := checkOf_bd s
  have c1 : inB 4 0 7 = true := rfl
  have c2 : decide (600 < (s.size : Int)) = false := by simp; omega
  have hl : (encEnd 4 s).data.toList = [UInt8.ofNat (1 % 256 % 256 : Int).toNat, UInt8.ofNat (4 % 256 % 256 : Int).toNat, UInt8.ofNat ((s.size : Int) / 256 % 256 % 256).toNat, UInt8.ofNat ((s.size : Int) % 256 % 256).toNat, UInt8.ofNat (checkOf s / 256 % 256 % 256).toNat, UInt8.ofNat (checkOf s % 256 % 256).toNat] := by
    rw [encEnd, c1, c2]
    simp only [Bool.not_false, Bool.and_self, if_true, ByteArray.data_append, Array.toList_append, word1_list, word2_list, List.cons_append, List.nil_append]
  obtain ⟨e, he⟩ : ∃ e, encEnd 4 s = e := ⟨_, rfl⟩
  rw [he] at hl ⊢
  have bi : ∀ n : Int, 0 ≤ n → (((UInt8.ofNat (n % 256 % 256).toNat).toNat : Nat) : Int) = n % 256 := fun n hn => by
    rw [UInt8.toNat_ofNat']; omega
  have b0 : bAt e 0 = 1 := by rw [bAt_list, hl]; exact byte_int (by omega) (by omega)
  have b1 : bAt e 1 = 4 := by rw [bAt_list, hl]; exact byte_int (by omega) (by omega)
  have b2 : bAt e 2 = (s.size : Int) / 256 % 256 := by rw [bAt_list, hl]; exact bi _ (by omega)
  have b3 : bAt e 3 = (s.size : Int) % 256 := by rw [bAt_list, hl]; exact bi _ (by omega)
  have b4 : bAt e 4 = checkOf s / 256 % 256 := by rw [bAt_list, hl]; exact bi _ (by omega)
  have b5 : bAt e 5 = checkOf s % 256 := by rw [bAt_list, hl]; exact bi _ (by omega)
  have hsz : e.size = 6 := by rw [size_list, hl]; rfl
  have w2 : getW e 2 = s.size := by rw [getW, b2, b3]; omega
  have w4 : getW e 4 = checkOf s := by rw [getW, b4, b5]; omega
  refine ⟨?_, ?_, hsz⟩
  · have h4 : endIs e = true := by rw [endIs, decide_eq_true_eq]; omega
    rw [decEnd, h4, b1, w2, w4]; rfl
  · have h4 : segIs e = false := by rw [segIs, segHead, show decide (bAt e 0 = 0 ∧ bAt e 1 ≤ 7 ∧ bAt e 2 ≤ 24) = false by rw [decide_eq_false_iff_not]; omega, Bool.and_false]
    rw [decSeg, h4]; rfl

/-- How many segments a text has. -/
def segN (s : ByteArray) : Nat := (countSeg s.size).toNat
theorem segN_is {s : ByteArray} (h : s.size ≤ 600) : countSeg s.size = segN s ∧ 24 * (segN s) ≤ s.size + 23 ∧ s.size ≤ 24 * segN s ∧ segN s ≤ 25 := by
  have h1 : inB s.size 0 600 = true := inB_iff.2 (by omega)
  have : countSeg s.size = ((s.size : Int) + 23) / 24 := by rw [countSeg, h1]; rfl
  unfold segN
  rw [this]
  omega
theorem segOf_is {s : ByteArray} (h : s.size ≤ 600) {j : Nat} (hj : j < segN s) : segOf s j = s.extract (24 * j) (min (24 * j + 24) s.size) ∧ 1 ≤ (segOf s j).size ∧ (segOf s j).size ≤ 24 := by
  obtain ⟨h1, h2, h3, h4⟩ := segN_is h
  have h5 : inB j 0 (countSeg s.size - 1) = true := inB_iff.2 (by omega)
  have h6 : segOf s j = s.extract (24 * j) (min (24 * j + 24) s.size) := by
    rw [segOf, h5]
    simp only [if_true]
    congr 1 <;> omega
  refine ⟨h6, ?_, ?_⟩ <;> (rw [h6, ByteArray.size_extract]; omega)
theorem joined_segs {s : ByteArray} (h : s.size ≤ 600) : ∀ m, m ≤ segN s → joined ((List.range m).map (fun j : Nat => segOf s j)) = s.extract 0 (min (24 * m) s.size)
  | 0, _ => by
    apply bytes_ext
    simp [joined]
  | m + 1, hm => by
    rw [List.range_succ, List.map_append, List.map_cons, List.map_nil, joined_snoc, joined_segs h m (by omega), (segOf_is h (show m < segN s by omega)).1]
    obtain ⟨h1, h2, h3, h4⟩ := segN_is h
    rw [show min (24 * m) s.size = 24 * m by omega, ByteArray.extract_append_extract]
    congr 1 <;> omega
theorem joined_all {s : ByteArray} (h : s.size ≤ 600) : joined ((List.range (segN s)).map (fun j : Nat => segOf s j)) = s := by
  obtain ⟨h1, h2, h3, h4⟩ := segN_is h
  rw [joined_segs h _ (Nat.le_refl _), show min (24 * segN s) s.size = s.size by omega]
  apply bytes_ext
  rw [ByteArray.data_extract, Array.toList_extract, List.extract_eq_take_drop]
  simp only [List.drop_zero, Nat.sub_zero]
  exact List.take_of_length_le (by rw [← size_list]; exact Nat.le_refl _)

/-! ### What holds in each round -/
def nth (p : List ByteArray) (j : Nat) : ByteArray := p.getD j ⟨#[]⟩
theorem emp_iff {t : ByteArray} : (t.toList == []) = true ↔ t = ⟨#[]⟩ := by
  constructor
  · intro h
    rw [beq_iff_eq, ByteArray.toList_eq] at h
    exact bytes_ext (by rw [h])
  · rintro rfl
    rw [ByteArray.toList_eq]; rfl
theorem emp_no {t : ByteArray} (h : t ≠ ⟨#[]⟩) : (t.toList == []) = false := by
  cases h1 : (t.toList == [])
  · rfl
  · exact absurd (emp_iff.1 h1) h
structure FInv (s : ByteArray) (z k : Int) (p : List ByteArray) : Prop where
  len : p.length = 25
  part : ∀ j, j < 25 → nth p j = ⟨#[]⟩ ∨ (j < segN s ∧ nth p j = segOf s j)
  zk : (z = -1 ∧ k = -1) ∨ (z = s.size ∧ k = checkOf s)
structure QInv (s : ByteArray) (q : List Int) : Prop where
  len : q.length ≤ 10
  mem : ∀ y ∈ q, y = -1 ∨ (0 ≤ y ∧ y < (segN s : Int))
/-- All is there. -/
def Full (s : ByteArray) (z : Int) (p : List ByteArray) : Prop := z ≠ -1 ∧ ∀ j, j < segN s → nth p j ≠ ⟨#[]⟩
/-- What is not there is to come. -/
def Half (s : ByteArray) (z : Int) (p : List ByteArray) (q : List Int) : Prop := z ≠ -1 ∧ ∀ j, j < segN s → nth p j ≠ ⟨#[]⟩ ∨ (j : Int) ∈ q
variable {s : ByteArray} {z k : Int} {p : List ByteArray} {q : List Int}
theorem segN9 (h : s.size ≤ 200) : segN s ≤ 9 := by have := segN_is (s := s) (by omega); omega
theorem nth_mem (hj : ∀ j, j < p.length → (nth p j).size ≤ 24) : ∀ t ∈ p, t.size ≤ 24 := by
  intro t ht
  obtain ⟨j, hl, hj2⟩ := List.getElem_of_mem ht
  have := hj j hl
  rwa [nth, List.getD_eq_getElem?_getD, List.getElem?_eq_getElem hl, Option.getD_some, hj2] at this
theorem FInv.small (h : s.size ≤ 200) (i : FInv s z k p) : ∀ t ∈ p, t.size ≤ 24 := nth_mem (fun j hj => by
  rcases i.part j (by rw [← i.len]; exact hj) with h1 | ⟨h1, h2⟩
  · rw [h1]; exact Nat.zero_le _
  · rw [h2]; exact (segOf_is (by omega) h1).2.2)
theorem FInv.ok (h : s.size ≤ 200) (i : FInv s z k p) : fileInOk 4 z k p = true := by
  have ⟨k0, k1⟩ := checkOf_bd s
  have c1 : inB 4 0 7 = true := rfl
  have c2 : inB z (-1) 600 = true := inB_iff.2 (by rcases i.zk with ⟨h1, -⟩ | ⟨h1, -⟩ <;> omega)
  have c3 : inB k (-1) 65535 = true := inB_iff.2 (by rcases i.zk with ⟨-, h1⟩ | ⟨-, h1⟩ <;> omega)
  have c4 : ((z == -1) == (k == -1)) = true := by
    rcases i.zk with ⟨h1, h2⟩ | ⟨h1, h2⟩
    · subst h1; subst h2; rfl
    · have e1 : (z == -1) = false := by simp; omega
      have e2 : (k == -1) = false := by simp; omega
      rw [e1, e2]; rfl
  have c5 : shortAll p = true := List.all_eq_true.2 (fun t ht => by simpa using i.small h t ht)
  rw [fileInOk, c1, c2, c3, c4, decide_eq_true i.len, c5]; rfl
theorem allB_iff {lo hi : Int} : ∀ {l : List Int}, allB lo hi l = true ↔ ∀ y ∈ l, lo ≤ y ∧ y ≤ hi
  | [] => by simp [allB]
  | y :: r => by
    rw [allB, Bool.and_eq_true, inB_iff, allB_iff]
    simp
theorem QInv.ok (h : s.size ≤ 200) (i : QInv s q) : fileOutOk 4 s.size q = true := by
  have c1 : inB 4 0 7 = true := rfl
  have c2 : decide ((s.size : Int) ≤ 600) = true := by simp; omega
  have c3 : decide ((q.length : Int) ≤ 1000) = true := by have := i.len; simp; omega
  have hn := segN_is (s := s) (by omega)
  have c4 : allB (-1) (countSeg s.size - 1) q = true := allB_iff.2 (fun y hy => by have := i.mem y hy; omega)
  rw [fileOutOk, c1, c2, c3, c4]; rfl

theorem segOf_no (h : s.size ≤ 200) {j : Nat} (hj : j < segN s) : segOf s j ≠ ⟨#[]⟩ := fun e => by
  have := (segOf_is (s := s) (by omega) hj).2.1
  rw [e] at this
  exact absurd this (by decide)
theorem nth_set {v : ByteArray} {j : Nat} (hj : j < p.length) (m : Nat) : nth (p.set j v) m = if m = j then v else nth p m := by
  unfold nth
  rw [List.getD_eq_getElem?_getD, List.getElem?_set, List.getD_eq_getElem?_getD]
  by_cases e : j = m
  · subst e; simp [hj]
  · rw [if_neg e, if_neg (fun h => e h.symm)]
theorem hear_seg (h : s.size ≤ 200) (i : FInv s z k p) {j : Nat} (hj : j < segN s) :
    heardZ 4 z k p (encSeg 4 j (segOf s j)) = z ∧ heardK 4 z k p (encSeg 4 j (segOf s j)) = k ∧ FInv s z k (heardP 4 z k p (encSeg 4 j (segOf s j))) ∧ nth (heardP 4 z k p (encSeg 4 j (segOf s j))) j ≠ ⟨#[]⟩ ∧ ∀ m, nth p m ≠ ⟨#[]⟩ → nth (heardP 4 z k p (encSeg 4 j (segOf s j))) m ≠ ⟨#[]⟩ := by
  have h9 := segN9 h
  obtain ⟨-, g1, g2⟩ := segOf_is (s := s) (by omega) hj
  obtain ⟨d1, d2, -⟩ := decSeg_enc (j := (j : Int)) (d := segOf s j) (by omega) (by omega) g1 g2
  obtain ⟨e1, e2, e3⟩ := heard_ok (i.ok h) d1 d2
  have hjl : j < p.length := by rw [i.len]; omega
  have hpa : partAt p (j : Int) = nth p j := rfl
  refine ⟨by rw [e1]; simp, by rw [e2]; simp, ?_⟩
  rw [e3, hpa]
  by_cases hn : nth p j = ⟨#[]⟩
  · rw [if_pos (by rw [emp_iff.2 hn]; rfl), Int.toNat_natCast]
    refine ⟨⟨by rw [List.length_set]; exact i.len, fun m hm => ?_, i.zk⟩, ?_, fun m hm => ?_⟩
    · rw [nth_set hjl]
      split
      · rename_i e; subst e; exact .inr ⟨hj, rfl⟩
      · exact i.part m hm
    · rw [nth_set hjl, if_pos rfl]; exact segOf_no h hj
    · rw [nth_set hjl]
      split
      · exact segOf_no h hj
      · exact hm
  · rw [if_neg (by rw [emp_no hn]; simp)]
    exact ⟨i, hn, fun m hm => hm⟩
theorem hear_end (h : s.size ≤ 200) (i : FInv s z k p) : heardZ 4 z k p (encEnd 4 s) = s.size ∧ heardK 4 z k p (encEnd 4 s) = checkOf s ∧ heardP 4 z k p (encEnd 4 s) = p := by
  obtain ⟨d1, d2, -⟩ := decEnd_enc (s := s) (by omega)
  obtain ⟨e1, e2, e3⟩ := heard_ok (i.ok h) d2 d1
  rw [e1, e2, e3]
  rcases i.zk with ⟨h1, h2⟩ | ⟨h1, h2⟩
  · subst h1; subst h2; simp
  · have : (z == -1) = false := by simp; omega
    rw [this, h1, h2]; simp
theorem next_some (h : s.size ≤ 200) {y : Int} {r : List Int} (i : QInv s (y :: r)) : nextQ 4 s.size (y :: r) = r ∧ nextD 4 s.size (y :: r) = true ∧ nextB 4 s (y :: r) = (if (y == -1) = true then encEnd 4 s else encSeg 4 y (segOf s y)) := by
  have := i.ok h
  refine ⟨by rw [nextQ, this]; rfl, by rw [nextD, this]; rfl, by rw [nextB, this]; rfl⟩
theorem next_none (h : s.size ≤ 200) (i : QInv s []) : nextQ 4 s.size [] = [] ∧ nextD 4 s.size [] = false := by
  have := i.ok h
  exact ⟨by rw [nextQ, this]; rfl, by rw [nextD, this]; rfl⟩
theorem missGo_mem : ∀ (p : List ByteArray) (i cnt : Nat), p.length ≤ cnt → (missGo i cnt p).length ≤ p.length ∧ ∀ y, y ∈ missGo i cnt p ↔ ∃ m, m < p.length ∧ y = ((i + m : Nat) : Int) ∧ nth p m = ⟨#[]⟩
  | [], i, cnt, _ => by simp [missGo]
  | t :: r, i, cnt, hc => by
    have hc' : r.length + 1 ≤ cnt := hc
    have n0 : nth (t :: r) 0 = t := rfl
    have n1 : ∀ m, nth (t :: r) (m + 1) = nth r m := fun m => rfl
    rw [missGo, if_neg (by omega)]
    by_cases ht : t = ⟨#[]⟩
    · rw [if_pos (emp_iff.2 ht)]
      obtain ⟨l1, l2⟩ := missGo_mem r (i + 1) (cnt - 1) (by omega)
      refine ⟨by simp only [List.length_cons]; omega, fun y => ?_⟩
      rw [List.mem_cons, l2]
      constructor
      · rintro (rfl | ⟨m, h1, h2, h3⟩)
        · exact ⟨0, by simp, by simp, by rw [n0]; exact ht⟩
        · exact ⟨m + 1, by simp; omega, by rw [h2]; omega, by rw [n1]; exact h3⟩
      · rintro ⟨m, h1, h2, h3⟩
        cases m with
        | zero => left; rw [h2]; rfl
        | succ m => right; exact ⟨m, by simp at h1; omega, by rw [h2]; omega, by rw [n1] at h3; exact h3⟩
    · rw [if_neg (by rw [emp_no ht]; simp)]
      obtain ⟨l1, l2⟩ := missGo_mem r (i + 1) cnt (by omega)
      refine ⟨by simp only [List.length_cons]; omega, fun y => ?_⟩
      rw [l2]
      constructor
      · rintro ⟨m, h1, h2, h3⟩
        exact ⟨m + 1, by simp; omega, by rw [h2]; omega, by rw [n1]; exact h3⟩
      · rintro ⟨m, h1, h2, h3⟩
        cases m with
        | zero => rw [n0] at h3; exact absurd h3 ht
        | succ m => exact ⟨m, by simp at h1; omega, by rw [h2]; omega, by rw [n1] at h3; exact h3⟩
theorem nth_take {n m : Nat} (h : m < n) : nth (p.take n) m = nth p m := by
  unfold nth
  rw [List.getD_eq_getElem?_getD, List.getD_eq_getElem?_getD, List.getElem?_take_of_lt h]
/-- What is missing, once the end has been heard. -/
theorem miss_is (h : s.size ≤ 200) (i : FInv s s.size k p) : (missL 4 s.size k p).length ≤ 9 ∧ ∀ y, y ∈ missL 4 s.size k p ↔ ∃ m, m < segN s ∧ y = (m : Int) ∧ nth p m = ⟨#[]⟩ := by
  have h9 := segN9 h
  have hz : ((s.size : Int) == -1) = false := by simp
  have hl : (p.take (segN s)).length = segN s := by rw [List.length_take, i.len]; omega
  have : missL 4 s.size k p = missGo 0 20 (p.take (segN s)) := by rw [missL, i.ok h, hz]; rfl
  rw [this]
  obtain ⟨l1, l2⟩ := missGo_mem (p.take (segN s)) 0 20 (by omega)
  refine ⟨by omega, fun y => ?_⟩
  rw [l2, hl]
  constructor
  · rintro ⟨m, h1, h2, h3⟩
    exact ⟨m, h1, by rw [h2, Nat.zero_add], by rw [nth_take h1] at h3; exact h3⟩
  · rintro ⟨m, h1, h2, h3⟩
    exact ⟨m, h1, by rw [h2, Nat.zero_add], by rw [nth_take h1]; exact h3⟩
theorem full_text (h : s.size ≤ 200) (i : FInv s z k p) (f : Full s z p) : textIs 4 z k p = true ∧ fileText 4 z k p = s := by
  have h9 := segN9 h
  obtain ⟨hz, hk⟩ : z = s.size ∧ k = checkOf s := by
    rcases i.zk with ⟨h1, -⟩ | h1
    · exact absurd h1 f.1
    · exact h1
  have hs : segsIn z p = (List.range (segN s)).map (fun j : Nat => segOf s j) := by
    rw [segsIn, hz]
    apply List.ext_getElem
    · rw [List.length_take, i.len, List.length_map, List.length_range]; show min (segN s) 25 = _; omega
    · intro m h1 h2
      have h3 : m < segN s := by rw [List.length_map, List.length_range] at h2; exact h2
      rcases i.part m (by omega) with h4 | ⟨-, h4⟩
      · exact absurd h4 (f.2 m h3)
      · have h5 : m < p.length := by rw [i.len]; omega
        rw [nth, List.getD_eq_getElem?_getD, List.getElem?_eq_getElem h5, Option.getD_some] at h4
        simp [h4]
  have hne : noEmpty (segsIn z p) = true := by
    rw [hs, noEmpty, List.all_map, List.all_eq_true]
    intro m hm
    have := segOf_no h (List.mem_range.1 hm)
    simp [Function.comp, emp_no this]
  have hj : joined (segsIn z p) = s := by rw [hs]; exact joined_all (by omega)
  have hzz : (z == -1) = false := by simp; omega
  have ht : textIs 4 z k p = true := by
    rw [textIs, i.ok h, hzz, hne, hj, hz, hk]; simp
  exact ⟨ht, by rw [fileText, if_pos ht, hj]⟩
theorem text_full (h : s.size ≤ 200) (i : FInv s z k p) (ht : textIs 4 z k p = true) : Full s z p := by
  have h9 := segN9 h
  simp only [textIs, Bool.and_eq_true] at ht
  have hz : z ≠ -1 := by intro e; subst e; simp at ht
  refine ⟨hz, fun j hj e => ?_⟩
  have hzs : z = s.size := by
    rcases i.zk with ⟨h1, -⟩ | ⟨h1, -⟩
    · exact absurd h1 hz
    · exact h1
  have h1 := ht.2.2.1
  rw [segsIn, hzs, noEmpty, List.all_eq_true] at h1
  have hjl : j < p.length := by rw [i.len]; omega
  have hm : nth p j ∈ p.take (countSeg s.size).toNat := by
    rw [nth, List.getD_eq_getElem?_getD, List.getElem?_eq_getElem hjl, Option.getD_some]
    exact List.mem_take_iff_getElem.2 ⟨j, by show j < min (segN s) p.length; omega, rfl⟩
  have := h1 _ hm
  rw [emp_iff.2 e] at this
  cases this

/-! ### The rounds -/
structure RInv (s : ByteArray) (K : Nat) (z k : Int) (p : List ByteArray) (q : List Int) (d : Bool) : Prop where
  fi : FInv s z k p
  qi : QInv s q
  done : d = true → Full s z p
  late : 41 ≤ K → Full s z p ∨ (Half s z p q ∧ K + q.length ≤ 63) ∨ K + q.length ≤ 51
theorem RInv.full {d : Bool} (i : RInv s 90 z k p q d) : Full s z p := by
  rcases i.late (by omega) with h | ⟨-, h⟩ | h
  · exact h
  · omega
  · omega
/-- A part is lost. -/
theorem RInv.lost {d : Bool} {K : Nat} {y : Int} {r : List Int} (i : RInv s K z k p (y :: r) d) (hK : K ≤ 40) : RInv s (K + 1) z k p r d :=
  have hl : r.length ≤ 9 := by have := i.qi.len; simp at this; omega
  ⟨i.fi, ⟨by omega, fun x hx => i.qi.mem x (by simp [hx])⟩, i.done, fun h => .inr (.inr (by omega))⟩
/-- A part is heard. -/
theorem RInv.heard {d : Bool} {K : Nat} {y : Int} {r : List Int} (h : s.size ≤ 200) (i : RInv s K z k p (y :: r) d) {b : ByteArray} (hb : b = (if (y == -1) = true then encEnd 4 s else encSeg 4 y (segOf s y))) :
    RInv s (K + 1) (heardZ 4 z k p b) (heardK 4 z k p b) (heardP 4 z k p b) r d := by
  have hl : r.length ≤ 9 := by have := i.qi.len; simp at this; omega
  have hq : QInv s r := ⟨by omega, fun x hx => i.qi.mem x (by simp [hx])⟩
  by_cases hy : y = -1
  · subst hy
    rw [if_pos (by rfl)] at hb
    subst hb
    obtain ⟨e1, e2, e3⟩ := hear_end h i.fi
    rw [e1, e2, e3]
    have hf : Full s z p → Full s s.size p := fun g => ⟨by omega, g.2⟩
    refine ⟨⟨i.fi.len, i.fi.part, .inr ⟨rfl, rfl⟩⟩, hq, fun hd => hf (i.done hd), fun hk => ?_⟩
    by_cases hk2 : 41 ≤ K
    · rcases i.late hk2 with g | ⟨g, g2⟩ | g
      · exact .inl (hf g)
      · refine .inr (.inl ⟨⟨by omega, fun j hj => ?_⟩, by simp at g2; omega⟩)
        rcases g.2 j hj with g3 | g3
        · exact .inl g3
        · right
          rcases List.mem_cons.1 g3 with g4 | g4
          · omega
          · exact g4
      · exact .inr (.inr (by simp at g; omega))
    · exact .inr (.inr (by omega))
  · rw [if_neg (by simpa using hy)] at hb
    obtain ⟨y0, y1⟩ : 0 ≤ y ∧ y < (segN s : Int) := by
      rcases i.qi.mem y (by simp) with e | e
      · exact absurd e hy
      · exact e
    obtain ⟨j, rfl⟩ : ∃ j : Nat, y = j := ⟨y.toNat, by omega⟩
    subst hb
    obtain ⟨e1, e2, e3, e4, e5⟩ := hear_seg h i.fi (show j < segN s by omega)
    rw [e1, e2]
    have hf : Full s z p → Full s z (heardP 4 z k p (encSeg 4 j (segOf s j))) := fun g => ⟨g.1, fun m hm => e5 m (g.2 m hm)⟩
    refine ⟨e3, hq, fun hd => hf (i.done hd), fun hk => ?_⟩
    by_cases hk2 : 41 ≤ K
    · rcases i.late hk2 with g | ⟨g, g2⟩ | g
      · exact .inl (hf g)
      · refine .inr (.inl ⟨⟨g.1, fun m hm => ?_⟩, by simp at g2; omega⟩)
        rcases g.2 m hm with g3 | g3
        · exact .inl (e5 m g3)
        · rcases List.mem_cons.1 g3 with g4 | g4
          · left
            have : m = j := by omega
            subst this
            exact e4
          · exact .inr g4
      · exact .inr (.inr (by simp at g; omega))
    · exact .inr (.inr (by omega))
/-- The end of a queue: the end is heard, and what is missing is asked for. -/
theorem RInv.ended {d : Bool} {K : Nat} (h : s.size ≤ 200) (i : RInv s K z k p [] d) {l : List Int} (hl : l = missL 4 s.size (checkOf s) p) :
    RInv s (K + 1) s.size (checkOf s) p (heardQ 4 s.size [] 4 l) (heardD 4 s.size [] d 4 l) := by
  have hf0 : FInv s s.size (checkOf s) p := ⟨i.fi.len, i.fi.part, .inr ⟨rfl, rfl⟩⟩
  obtain ⟨m1, m2⟩ := miss_is h hf0
  rw [← hl] at m1 m2
  have q0 : fileOutOk 4 s.size [] = true := (⟨by simp, by simp⟩ : QInv s []).ok h
  have hf : Full s z p → Full s s.size p := fun g => ⟨by omega, g.2⟩
  by_cases hn : l = []
  · have hF : Full s s.size p := ⟨by omega, fun j hj e => by have := (m2 j).2 ⟨j, hj, rfl, e⟩; rw [hn] at this; cases this⟩
    have e1 : heardQ 4 s.size [] 4 l = [] := by rw [heardQ, q0, hn]; rfl
    have e2 : heardD 4 s.size [] d 4 l = true := by rw [heardD, q0, hn]; rfl
    rw [e1, e2]
    exact ⟨hf0, ⟨by simp, by simp⟩, fun _ => hF, fun _ => .inl hF⟩
  · have hall : segsOf (countSeg s.size) l = l := by
      rw [segsOf, List.filter_eq_self]
      intro y hy
      obtain ⟨m, h1, h2, -⟩ := (m2 y).1 hy
      have := (segN_is (s := s) (by omega)).1
      exact inB_iff.2 (by omega)
    have hq : QInv s (l ++ [-1]) := ⟨by simp; omega, fun y hy => by
      rcases List.mem_append.1 hy with h1 | h1
      · obtain ⟨m, h2, h3, -⟩ := (m2 y).1 h1
        right; omega
      · left; simpa using h1⟩
    have hok : fileOutOk 4 s.size ([] ++ segsOf (countSeg s.size) l ++ [-1]) = true := by rw [hall, List.nil_append]; exact hq.ok h
    obtain ⟨e1, e2⟩ := heard_yes (d := d) q0 (rfl : ((4 : Int) == 4) = true) hn hok
    rw [e1, e2, hall, List.nil_append]
    refine ⟨hf0, hq, fun hd => hf (i.done hd), fun hk => ?_⟩
    by_cases hk2 : 41 ≤ K
    · rcases i.late hk2 with g | ⟨g, -⟩ | g
      · exact .inl (hf g)
      · exact .inl (hf ⟨g.1, fun j hj => (g.2 j hj).resolve_right (by simp)⟩)
      · refine .inr (.inl ⟨⟨by omega, fun j hj => ?_⟩, by simp at g ⊢; omega⟩)
        by_cases he : nth p j = ⟨#[]⟩
        · right; exact List.mem_append_left _ ((m2 j).2 ⟨j, hj, rfl, he⟩)
        · exact .inl he
    · exact .inr (.inr (by simp; omega))

end Go.Proofs.Ytjffbpdippbfkaa
