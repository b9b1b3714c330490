/- The plain facts of FnBounds. No program in sight. -/
import Derived.Test.YtonclekalgaojaaGuess
import Derived.Test.YtonclekalgaojaaPairs
namespace Go.Proofs.Ytonclekalgaojaa
set_option linter.unusedVariables false
open Go.ChangeShapes Go.WideShapes Go.ChangeAt Go.RowKit

/-- What the clock shows. -/
def showT (r o t : Int) : Int := t + o + t * r / 1000
def drift (r o : Int) : Prop := -100 ≤ r ∧ r ≤ 100 ∧ 0 ≤ o ∧ o ≤ 1000
theorem gap_mul {r d : Int} (h : -100 ≤ r) (h' : r ≤ 100) (hd : 0 ≤ d) : -100 * d ≤ d * r ∧ d * r ≤ 100 * d := by
  constructor
  · have := Int.mul_le_mul_of_nonneg_left h hd
    rw [Int.mul_comm d (-100)] at this; exact this
  · have := Int.mul_le_mul_of_nonneg_left h' hd
    rw [Int.mul_comm d 100] at this; exact this
theorem show_gap {r o s t : Int} (h : drift r o) (hst : s ≤ t) : (t - s) + (t * r / 1000 - s * r / 1000) = showT r o t - showT r o s ∧ -100 * (t - s) - 999 ≤ 1000 * (t * r / 1000 - s * r / 1000) ∧ 1000 * (t * r / 1000 - s * r / 1000) ≤ 100 * (t - s) + 999 := by
  have h1 := gap_mul h.1 h.2.1 (show 0 ≤ t - s by omega)
  have h2 : t * r = (t - s) * r + s * r := by rw [← Int.add_mul]; congr 1; omega
  refine ⟨by unfold showT; omega, ?_, ?_⟩ <;> omega
theorem show_mono {r o s t : Int} (h : drift r o) (hst : s ≤ t) : showT r o s ≤ showT r o t := by
  have := show_gap h hst
  by_cases e : s = t
  · rw [e]; exact Int.le_refl _
  · omega
theorem show_lt {r o s t : Int} (h : drift r o) (hst : s + 2 ≤ t) : showT r o s < showT r o t := by
  have := show_gap h (show s ≤ t by omega); omega
theorem lt_of_show {r o s t : Int} (h : drift r o) (hst : showT r o s < showT r o t) : s < t := by
  refine Classical.byContradiction fun hn => ?_
  have := show_mono h (show t ≤ s by omega); omega
theorem show_bd {r o t : Int} (h : drift r o) (h0 : 0 ≤ t) (h1 : t ≤ 1000000) : 0 ≤ showT r o t ∧ showT r o t ≤ 2000000 := by
  have := gap_mul h.1 h.2.1 h0
  unfold showT
  obtain ⟨-, -, h3, h4⟩ := h
  omega

/-- Pairs that the clock showed, with gaps of at least 20. -/
def chain (r o : Int) : Int → List Pair → Prop
  | _, [] => True
  | t0, p :: l => t0 ≤ p.True ∧ p.True ≤ 3000 ∧ p.Board = showT r o p.True ∧ chain r o (p.True + 20) l
theorem chain_snoc {r o : Int} {p : Pair} (h1 : p.True ≤ 3000) (h2 : p.Board = showT r o p.True) : ∀ {l : List Pair} {t0 : Int}, chain r o t0 l → t0 ≤ p.True → (∀ q ∈ l, q.True + 20 ≤ p.True) → chain r o t0 (l ++ [p])
  | [], t0, _, ht, _ => ⟨ht, h1, h2, trivial⟩
  | q :: l, t0, h, ht, hq => ⟨h.1, h.2.1, h.2.2.1, chain_snoc h1 h2 h.2.2.2 (hq q (by simp)) (fun x hx => hq x (by simp [hx]))⟩
theorem chain_pairs {r o : Int} (hd : drift r o) : ∀ {l : List Pair} {t0 : Int} {q : Option Pair}, 0 ≤ t0 → chain r o t0 l → (∀ p, q = some p → p.Board = showT r o p.True ∧ p.True + 20 ≤ t0) → pairsFrom q l = true
  | [], _, _, _, _, _ => by simp [pairsFrom]
  | p :: l, t0, q, h0, h, hq => by
    obtain ⟨h1, h2, h3, h4⟩ := h
    have hb := show_bd hd (show 0 ≤ p.True by omega) (by omega)
    rw [pairsFrom, chain_pairs hd (t0 := p.True + 20) (by omega) h4 (fun x hx => by cases hx; exact ⟨h3, by omega⟩)]
    have hs : pairStep q p = true := by
      cases q with
      | none => rfl
      | some x =>
        obtain ⟨e1, e2⟩ := hq x rfl
        have := show_lt hd (s := x.True) (t := p.True) (by omega)
        simp [pairStep]; omega
    rw [hs]
    simp [inB]; omega
theorem chain_ok {r o : Int} (hd : drift r o) {l : List Pair} (h : chain r o 0 l) (hl : l.length ≤ 200) : pairsOk l = true := by
  rw [pairsOk, chain_pairs hd (by omega) h (fun p hp => by cases hp)]
  simp [hl]

theorem bounds_ok {r o x : Int} (hd : drift r o) (h0 : 0 ≤ x) (h1 : x ≤ 1000000) : ∀ {l : List Pair} {t0 low : Int}, chain r o t0 l → low ≤ x → (boundsFrom (showT r o x) low l).1 ≤ x ∧ x ≤ (boundsFrom (showT r o x) low l).2
  | [], t0, low, _, hl => ⟨hl, h1⟩
  | p :: l, t0, low, h, hl => by
    obtain ⟨-, -, h3, h4⟩ := h
    rw [boundsFrom]
    split
    · rename_i hc
      rw [h3] at hc
      have := lt_of_show hd hc
      exact bounds_ok hd h0 h1 h4 (by omega)
    · split
      · rename_i hc
        rw [h3] at hc
        have := lt_of_show hd hc
        exact ⟨hl, by simp only; omega⟩
      · exact bounds_ok hd h0 h1 h4 hl
theorem bounds_bd {b : Int} : ∀ {l : List Pair} {low : Int}, (∀ p ∈ l, 0 ≤ p.True ∧ p.True ≤ 3000) → 0 ≤ low → low ≤ 3001 → 0 ≤ (boundsFrom b low l).1 ∧ (boundsFrom b low l).1 ≤ 3001 ∧ -1 ≤ (boundsFrom b low l).2 ∧ (boundsFrom b low l).2 ≤ 1000000
  | [], low, _, h1, h2 => by simp only [boundsFrom]; omega
  | p :: l, low, h, h1, h2 => by
    have hp := h p (by simp)
    rw [boundsFrom]
    split
    · exact bounds_bd (fun q hq => h q (by simp [hq])) (by omega) (by omega)
    · split
      · simp only; omega
      · exact bounds_bd (fun q hq => h q (by simp [hq])) h1 h2

def lastT : Pair → List Pair → Int
  | q, [] => q.True
  | _, r :: rest => lastT r rest
/-- The pairs that a guess goes by. -/
theorem guess_pairs {r o x : Int} (hd : drift r o) : ∀ {rest : List Pair} {p q : Pair}, 0 ≤ p.True → p.True ≤ 3000 → p.Board = showT r o p.True → chain r o (p.True + 20) (q :: rest) → p.True ≤ x → x ≤ lastT q rest →
    ∃ u v : Pair, guessFrom (showT r o x) p q rest = (u, v) ∧ 0 ≤ u.True ∧ u.True + 20 ≤ v.True ∧ v.True ≤ 3000 ∧ u.Board = showT r o u.True ∧ v.Board = showT r o v.True ∧ u.True ≤ x ∧ x ≤ v.True + 1
  | [], p, q, h0, h1, h2, h3, h4, h5 => ⟨p, q, rfl, h0, h3.1, h3.2.1, h2, h3.2.2.1, h4, by simp only [lastT] at h5; omega⟩
  | s :: rest, p, q, h0, h1, h2, h3, h4, h5 => by
    rw [guessFrom]
    split
    · rename_i hc
      rw [h3.2.2.1] at hc
      have := lt_of_show hd hc
      have h6 := h3.1
      exact guess_pairs hd (by omega) h3.2.1 h3.2.2.1 h3.2.2.2 (by omega) h5
    · rename_i hc
      rw [h3.2.2.1] at hc
      refine ⟨p, q, rfl, h0, h3.1, h3.2.1, h2, h3.2.2.1, h4, ?_⟩
      refine Classical.byContradiction fun hn => ?_
      have := show_lt hd (s := q.True) (t := x) (by omega)
      omega

/-- The guess is right up to three. -/
theorem guess_near {L d M N e1 e2 : Int} (hL : 20 ≤ L) (hd : 0 ≤ d) (hd' : d ≤ L + 1) (he1 : -999 ≤ e1) (he1' : e1 ≤ 999) (he2 : -999 ≤ e2) (he2' : e2 ≤ 999) (hM : 900 * L - 999 ≤ 1000 * M) (hN : 1000 * N = 1000 * (d * M) + (e1 * L - d * e2)) :
    d - 3 ≤ N / M ∧ N / M ≤ d + 3 := by
  have hM0 : 0 < M := by omega
  have a1 := Int.mul_le_mul_of_nonneg_right he1 (show 0 ≤ L by omega)
  have a2 := Int.mul_le_mul_of_nonneg_right he1' (show 0 ≤ L by omega)
  have a3 := Int.mul_le_mul_of_nonneg_left he2 hd
  have a4 := Int.mul_le_mul_of_nonneg_left he2' hd
  constructor
  · rw [Int.le_ediv_iff_mul_le hM0, Int.sub_mul]; omega
  · have : N / M < d + 4 := by
      rw [Int.ediv_lt_iff_lt_mul hM0, Int.add_mul]; omega
    omega
theorem guess_ok {r o x : Int} (hd : drift r o) {u v : Pair} (h0 : 0 ≤ u.True) (h1 : u.True + 20 ≤ v.True) (h2 : u.Board = showT r o u.True) (h3 : v.Board = showT r o v.True) (h4 : u.True ≤ x) (h5 : x ≤ v.True + 1) :
    x - 3 ≤ guessVal (showT r o x) (u, v) ∧ guessVal (showT r o x) (u, v) ≤ x + 3 := by
  unfold guessVal
  simp only
  rw [h2, h3]
  have g1 := (show_gap (o := o) hd h4).1
  have g2 := show_gap (o := o) hd (show u.True ≤ v.True by omega)
  obtain ⟨f1, hf1⟩ : ∃ f, x * r / 1000 = f := ⟨_, rfl⟩
  obtain ⟨f2, hf2⟩ : ∃ f, u.True * r / 1000 = f := ⟨_, rfl⟩
  obtain ⟨f3, hf3⟩ : ∃ f, v.True * r / 1000 = f := ⟨_, rfl⟩
  rw [hf1, hf2] at g1
  rw [hf2, hf3] at g2
  have k1 : x * r = (x - u.True) * r + u.True * r := by rw [← Int.add_mul]; congr 1; omega
  have k2 : v.True * r = (v.True - u.True) * r + u.True * r := by rw [← Int.add_mul]; congr 1; omega
  obtain ⟨L, hL⟩ : ∃ L, v.True - u.True = L := ⟨_, rfl⟩
  obtain ⟨d, hdd⟩ : ∃ d, x - u.True = d := ⟨_, rfl⟩
  rw [hL] at g2 k2
  rw [hdd] at g1 k1
  have b1 := gap_mul hd.1 hd.2.1 (show 0 ≤ L by omega)
  -- the two remainders
  obtain ⟨e1, he1⟩ : ∃ e, 1000 * (f1 - f2) = d * r + e := ⟨1000 * (f1 - f2) - d * r, by omega⟩
  obtain ⟨e2, he2⟩ : ∃ e, 1000 * (f3 - f2) = L * r + e := ⟨1000 * (f3 - f2) - L * r, by omega⟩
  have c1 : -999 ≤ e1 ∧ e1 ≤ 999 := by omega
  have c2 : -999 ≤ e2 ∧ e2 ≤ 999 := by omega
  have hM : showT r o v.True - showT r o u.True = L + (f3 - f2) := by omega
  have hN : showT r o x - showT r o u.True = d + (f1 - f2) := by omega
  rw [hM, hN, hL]
  have key := guess_near (L := L) (d := d) (M := L + (f3 - f2)) (N := (d + (f1 - f2)) * L) (e1 := e1) (e2 := e2) (by omega) (by omega) (by omega) c1.1 c1.2 c2.1 c2.2 (by omega) (by
    have s1 : 1000 * ((d + (f1 - f2)) * L) = 1000 * d * L + (d * r + e1) * L := by rw [← he1]; grind
    have s2 : 1000 * (d * (L + (f3 - f2))) = 1000 * d * L + d * (L * r + e2) := by rw [← he2]; grind
    rw [s1, s2]; grind)
  omega

theorem rate_ok {r o : Int} (hd : drift r o) {u v : Pair} (h1 : u.True + 20 ≤ v.True) (h2 : u.Board = showT r o u.True) (h3 : v.Board = showT r o v.True) :
    rateVal u v - r ≤ 1000 / (v.True - u.True) + 1 ∧ r - rateVal u v ≤ 1000 / (v.True - u.True) + 1 := by
  unfold rateVal
  rw [h2, h3]
  have g2 := show_gap (o := o) hd (show u.True ≤ v.True by omega)
  obtain ⟨f2, hf2⟩ : ∃ f, u.True * r / 1000 = f := ⟨_, rfl⟩
  obtain ⟨f3, hf3⟩ : ∃ f, v.True * r / 1000 = f := ⟨_, rfl⟩
  rw [hf2, hf3] at g2
  have k2 : v.True * r = (v.True - u.True) * r + u.True * r := by rw [← Int.add_mul]; congr 1; omega
  obtain ⟨L, hL⟩ : ∃ L, v.True - u.True = L := ⟨_, rfl⟩
  rw [hL] at g2 k2 ⊢
  obtain ⟨e2, he2⟩ : ∃ e, 1000 * (f3 - f2) = L * r + e := ⟨1000 * (f3 - f2) - L * r, by omega⟩
  have c2 : -999 ≤ e2 ∧ e2 ≤ 999 := by omega
  have hM : (showT r o v.True - showT r o u.True - L) * 1000 = e2 + L * r := by
    have : showT r o v.True - showT r o u.True - L = f3 - f2 := by omega
    rw [this]; omega
  rw [hM, Int.add_mul_ediv_left _ _ (by omega)]
  have hK := Int.lt_mul_ediv_self_add (x := 1000) (show 0 < L by omega)
  obtain ⟨K, hKe⟩ : ∃ K, 1000 / L = K := ⟨_, rfl⟩
  rw [hKe] at hK ⊢
  have a1 : e2 / L < K + 2 := by
    rw [Int.ediv_lt_iff_lt_mul (by omega), Int.add_mul]
    rw [Int.mul_comm L K] at hK
    omega
  have a2 : -(K + 1) ≤ e2 / L := by
    rw [Int.le_ediv_iff_mul_le (by omega), Int.neg_mul, Int.add_mul]
    rw [Int.mul_comm L K] at hK
    omega
  omega
end Go.Proofs.Ytonclekalgaojaa
