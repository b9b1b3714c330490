/- The contracts of the draws: a cursor in memory of the call's own, and numbers within their bounds. No condition but on lengths. -/
import Derived.Test.YtjffbpdippbfkaaOpen
import Derived.Test.YtjffbpdippbfkaaOwn
namespace Go.Proofs.Ytjffbpdippbfkaa
set_option linter.unusedVariables false
open Go.ChangeShapes Go.WideShapes Go.ChangeAt Go.RowKit

/-- A byte. -/
def encByte (n : Int) : List Value := [.int .u8 n]
theorem Sl.byte {w : World} {a : Option Addr} {l : List Int} (h : Sl encByte w a l) {k : Nat} (hk : k < l.length) :
    ∃ b off s, a = some ⟨b, off, none⟩ ∧ LtN b w.heap.size ∧ Hid (l.drop k = s :: l.drop (k + 1)) ∧ (∀ (W : World) [Grows w W], W.cell? ⟨b, off + k, none⟩ = some (.int .u8 s)) := by
  obtain ⟨s, hs, hd⟩ := drop_at hk
  obtain ⟨b, off, ha, hb, hc⟩ := h k s hs
  exact ⟨b, off, s, ha, ⟨hb⟩, hd, cell_grown hb (by simpa [encByte] using hc 0 _ rfl)⟩
def isByte (n : Int) : Prop := 0 ≤ n ∧ n ≤ 255
theorem flatByte {w : World} {cs : List Value} (hl : cs.length = 1) (h : RdL w [.byte] cs) : ∃ s : Int, encByte s = cs ∧ isByte s := by
  obtain ⟨u0, g0, r0⟩ := h.at (j := 0) rfl
  obtain ⟨x0, rfl, p0⟩ := r0.byte_inv
  refine ⟨x0, (list_all hl ?_).symm, p0⟩
  intro j y hy
  match j, hy with
  | 0, hy => cases hy; exact g0

@[go_sem] theorem i64_and255 (n : Int) : bits .and .i64 n 255 = n % 256 := by
  have h255 : (BitVec.ofInt 64 255).toNat = 2 ^ 8 - 1 := by decide
  have key : (BitVec.ofInt 64 n &&& BitVec.ofInt 64 255).toNat = (n % ((2 ^ 64 : Nat) : Int)).toNat % 2 ^ 8 := by
    rw [BitVec.toNat_and, BitVec.toNat_ofInt, h255, Nat.and_two_pow_sub_one_eq_mod]
  show IntKind.i64.wrap ((BitVec.ofInt 64 n &&& BitVec.ofInt 64 255).toNat : Nat) = n % 256
  rw [key, IntKind.wrap_i64]
  omega
theorem grownBy_later {w W : World} {row : Option Nat} (h : w.grownBy W row) (x : Later W) : w.grownBy x.w row :=
  ⟨x.h.os.trans h.os, x.h.tape.trans h.tape, x.h.output.trans h.output, Nat.le_trans h.size x.h.size, fun k hk hr => (x.h.block k (Nat.lt_of_lt_of_le hk h.size)).trans (h.block k hk hr)⟩
theorem grownBy_set {w W : World} {p : Nat} (h : w.grownBy W (some p)) (i : Nat) (v : Value) : w.grownBy (W.setCell ⟨p, i, none⟩ v) (some p) :=
  ⟨h.os, h.tape, h.output, by simpa using h.size, fun k hk hr => by
    rw [Below.heap_setCell _ _ _ _ (fun e => hr (by simp only at e; rw [e]))]; exact h.block k hk hr⟩

/-- The cursor at block p, over a slice of bytes. -/
structure IsCur (w : World) (p : Nat) (a : Option Addr) (n c : Nat) (l : List Int) (i : Nat) : Prop where
  lt : LtN p w.heap.size
  c0 : w.cell? ⟨p, 0, none⟩ = some (.slice a n c)
  c1 : w.cell? ⟨p, 1, none⟩ = some (.int .i64 i)
  c2 : ∃ h : Int, w.cell? ⟨p, 2, none⟩ = some (.int .i64 h)
  f1 : w.frozen? ⟨p, 1, none⟩ = false
  f2 : w.frozen? ⟨p, 2, none⟩ = false
  le : i ≤ n
  len : l.length = n
  small : n ≤ 1048576
  sl : Sl encByte w a l
  bytes : ∀ x ∈ l, isByte x
  apart : ∀ b off, a = some ⟨b, off, none⟩ → 0 < l.length → b < p

set_option maxRecDepth 100000 in
set_option maxHeartbeats 2000000 in
theorem c_sl01Byte {w : World} {p : Nat} {a : Option Addr} {n c : Nat} {l : List Int} {i : Nat} (hc : IsCur w p a n c l i) :
    Calls Try.prog 76 #[.pointer (some ⟨p, 0, none⟩)] w fun e w' => ∃ x, e = .returned (.int .i64 x) ∧ isByte x ∧ w.grownBy w' (some p) ∧ ∃ i', IsCur w' p a n c l i' := by
  obtain ⟨hlt, hc0, hc1, ⟨h, hc2⟩, hf1, hf2, hle, hlen, hsm, hsl, hby, hap⟩ := hc
  have hsl' : ∀ W : World, w.grownBy W (some p) → Sl encByte W a l := fun W hg k y hy => by
    obtain ⟨b, off, ha, hb, hcell⟩ := hsl k y hy
    have := hap b off ha (Nat.lt_of_le_of_lt (Nat.zero_le k) (List.getElem?_eq_some_iff.1 hy).1)
    refine ⟨b, off, ha, Nat.lt_of_lt_of_le hb hg.size, fun j v hv => ?_⟩
    rw [World.cell?_of_block (w := w) (hg.block b hb (by simp only [ne_eq, Option.some.injEq]; omega))]
    exact hcell j v hv
  have HSL := Lib.hid hsl'; clear hsl'
  by_cases hi : i < n
  · obtain ⟨b, off, s, rfl, hb, hd, g0⟩ := hsl.byte (show i < l.length by omega)
    have gs := hby s (by have : s ∈ l.drop i := by rw [hd.out]; simp
                         exact List.mem_of_mem_drop this)
    have hbp := hap b off rfl (by omega)
    have g1 := g0 w
    clear g0
    unfold isByte at gs
    have HBY := Lib.hid hby; have HAP := Lib.hid hap; clear hby hap
    go_enter Try.func76, Try.ntmps76
    go_wp2_with (first | ((with_reducible refine wp_region_later (by kernel_rfl) (by kernel_rfl) ?_); (repeat (first | go_big_quiet_step (first | fail))); refine wpQuiet_nil ?_; rintro _ ⟨x, rfl⟩))
    go_ret
    refine ⟨_, rfl, by simp only [isByte]; constructor <;> omega, ?g, i + 1, ⟨inferInstance, ?_, ?_, ⟨wrap64 (wrap64 (h * 6364136223846793005) + 1442695040888963407), ?_⟩, ?_, ?_, by omega, hlen, hsm, HSL.out _ ?g, HBY.out, HAP.out⟩⟩
    case g => repeat (first | exact grownBy_refl _ _ | refine grownBy_later ?_ _ | refine grownBy_set ?_ _ _)
    all_goals (go_simp)
  · go_enter Try.func76, Try.ntmps76
    go_wp2_with (first | ((with_reducible refine wp_region_later (by kernel_rfl) (by kernel_rfl) ?_); (repeat (first | go_big_quiet_step (first | fail))); refine wpQuiet_nil ?_; rintro _ ⟨x, rfl⟩))
    go_ret
    refine ⟨_, rfl, by simp only [isByte]; constructor <;> omega, ?g, i, ⟨inferInstance, ?_, ?_, ⟨wrap64 (wrap64 (h * 6364136223846793005) + 1442695040888963407), ?_⟩, ?_, ?_, by omega, hlen, hsm, HSL.out _ ?g, hby, hap⟩⟩
    case g => repeat (first | exact grownBy_refl _ _ | refine grownBy_later ?_ _ | refine grownBy_set ?_ _ _)
    all_goals (go_simp)

/-- What a draw leaves: a number, and the cursor. -/
def Draws (w : World) (p : Nat) (a : Option Addr) (n c : Nat) (l : List Int) (ok : Int → Prop) : Ending → World → Prop := fun e w' =>
  ∃ x, e = .returned (.int .i64 x) ∧ ok x ∧ w.grownBy w' (some p) ∧ ∃ i', IsCur w' p a n c l i'

theorem c_sl01Below {w : World} {p : Nat} {a : Option Addr} {n c : Nat} {l : List Int} {i : Nat} {m : Int} (hc : IsCur w p a n c l i) (h1 : 1 ≤ m) (h2 : m ≤ 256) :
    Calls Try.prog 69 #[.pointer (some ⟨p, 0, none⟩), .int .i64 m] w (Draws w p a n c l (fun x => 0 ≤ x ∧ x < m)) := by
  go_enter Try.func69, Try.ntmps69
  go_wp2_with (first | ((with_reducible refine wp_region_later (by kernel_rfl) (by kernel_rfl) ?_); (repeat (first | go_big_quiet_step (first | fail))); refine wpQuiet_nil ?_; rintro _ ⟨x, rfl⟩))
  refine (c_sl01Byte hc).mono ?_
  rintro _ w1 ⟨x, rfl, hx, hg, i', hc'⟩
  unfold isByte at hx
  have hm := Int.emod_lt_of_pos x (show 0 < m by omega)
  have hm' := Int.emod_nonneg x (show m ≠ 0 by omega)
  go_wp2_with (first | ((with_reducible refine wp_region_later (by kernel_rfl) (by kernel_rfl) ?_); (repeat (first | go_big_quiet_step (first | fail))); refine wpQuiet_nil ?_; rintro _ ⟨x, rfl⟩))
  go_ret
  exact ⟨_, rfl, ⟨hm', hm⟩, hg, i', hc'⟩

theorem IsCur.alloc {w : World} {p : Nat} {a : Option Addr} {n c : Nat} {l : List Int} {i : Nat} (h : IsCur w p a n c l i) (o : Obj) : IsCur (w.alloc o) p a n c l i := by
  obtain ⟨hlt, hc0, hc1, ⟨hh, hc2⟩, hf1, hf2, hle, hlen, hsm, hsl, hby, hap⟩ := h
  exact ⟨inferInstance, by rw [Later.cell_past]; exact hc0, by rw [Later.cell_past]; exact hc1, ⟨hh, by rw [Later.cell_past]; exact hc2⟩, by rw [Later.frozen_past]; exact hf1, by rw [Later.frozen_past]; exact hf2, hle, hlen, hsm, hsl.alloc o, hby, hap⟩

/-- A slice that lies in other blocks reads as before. -/
theorem Sl.grown {α : Type} {enc : α → List Value} {w W : World} {a : Option Addr} {l : List α} {p : Nat} (h : Sl enc w a l) (hg : w.grownBy W (some p)) (hne : ∀ b off, a = some ⟨b, off, none⟩ → b ≠ p) : Sl enc W a l := fun k y hy => by
  obtain ⟨b, off, ha, hb, hcell⟩ := h k y hy
  refine ⟨b, off, ha, Nat.lt_of_lt_of_le hb hg.size, fun j v hv => ?_⟩
  rw [World.cell?_of_block (w := w) (hg.block b hb (fun e => hne b off ha (Option.some.inj e)))]
  exact hcell j v hv

theorem Sl.addr_lt {α : Type} {enc : α → List Value} {w : World} {a : Option Addr} {l : List α} (h : Sl enc w a l) {b off : Nat} (ha : a = some ⟨b, off, none⟩) (h0 : 0 < l.length) : b < w.heap.size := by
  obtain ⟨b', off', hb, hlt, -⟩ := h 0 _ (List.getElem?_eq_getElem h0)
  rw [ha] at hb; cases hb; exact hlt

/-- A slice written out. -/
theorem Sl.lit {α : Type} {enc : α → List Value} {W : World} {cs : Array Value} {T size : Nat} {l : List α} (hsz : ∀ x : α, (enc x).length = size) (h : cs.toList = l.flatMap enc) : Sl enc (W.alloc (.cells cs T)) (some ⟨W.heap.size, 0, none⟩) l := fun k y hy => by
  refine ⟨W.heap.size, 0, rfl, by simp, fun j v hv => ?_⟩
  rw [World.cell?_alloc_at _ _ _ _ rfl, ← Array.getElem?_toList, h, hsz, Nat.zero_add]
  exact flatMap_at hsz l k j y v hy hv

theorem grownBy_cell {w W : World} {p : Nat} (h : w.grownBy W (some p)) {b : Nat} (i : Nat) (hb : b < w.heap.size) (hne : b ≠ p) : W.cell? ⟨b, i, none⟩ = w.cell? ⟨b, i, none⟩ :=
  World.cell?_of_block (w := w) (h.block b hb (fun e => hne (Option.some.inj e)))
theorem grownBy_frozen {w W : World} {p : Nat} (h : w.grownBy W (some p)) {b : Nat} (i : Nat) (hb : b < w.heap.size) (hne : b ≠ p) : W.frozen? ⟨b, i, none⟩ = w.frozen? ⟨b, i, none⟩ := by
  simp only [World.frozen?, h.block b hb (fun e => hne (Option.some.inj e))]

theorem grownBy_new {w W : World} {row : Option Nat} (h : w.grownBy W row) (o : Obj) : w.grownBy (W.alloc o) row :=
  ⟨h.os, h.tape, h.output, by have := h.size; simp; omega, fun k hk hr => by rw [Below.heap_alloc _ _ _ (Nat.lt_of_lt_of_le hk h.size)]; exact h.block k hk hr⟩
theorem grownBy_put {w W : World} {row : Option Nat} (h : w.grownBy W row) {b : Nat} (hb : w.heap.size ≤ b) (i : Nat) (v : Value) : w.grownBy (W.setCell ⟨b, i, none⟩ v) row :=
  ⟨h.os, h.tape, h.output, by simpa using h.size, fun k hk hr => by
    rw [Below.heap_setCell _ _ _ _ (by simp only [ne_eq]; omega)]; exact h.block k hk hr⟩
theorem IsCur.kept {w W : World} {p : Nat} {a : Option Addr} {n c : Nat} {l : List Int} {i : Nat} (h : IsCur w p a n c l i) (hs : w.heap.size ≤ W.heap.size) (hb : ∀ k, k ≤ p → W.heap[k]? = w.heap[k]?) : IsCur W p a n c l i := by
  obtain ⟨hlt, hc0, hc1, ⟨hh, hc2⟩, hf1, hf2, hle, hlen, hsm, hsl, hby, hap⟩ := h
  have hp := hb p (Nat.le_refl _)
  refine ⟨⟨Nat.lt_of_lt_of_le hlt.out hs⟩, by rw [World.cell?_of_block (w := w) hp]; exact hc0, by rw [World.cell?_of_block (w := w) hp]; exact hc1, ⟨hh, by rw [World.cell?_of_block (w := w) hp]; exact hc2⟩,
    by simp only [World.frozen?, hp]; exact hf1, by simp only [World.frozen?, hp]; exact hf2, hle, hlen, hsm, fun k y hy => ?_, hby, hap⟩
  obtain ⟨b, off, ha, hblt, hcell⟩ := hsl k y hy
  have hlt' := hap b off ha (Nat.lt_of_le_of_lt (Nat.zero_le k) (List.getElem?_eq_some_iff.1 hy).1)
  exact ⟨b, off, ha, Nat.lt_of_lt_of_le hblt hs, fun j v hv => by rw [World.cell?_of_block (w := w) (hb b (Nat.le_of_lt hlt'))]; exact hcell j v hv⟩
theorem IsCur.put {w : World} {p : Nat} {a : Option Addr} {n c : Nat} {l : List Int} {i : Nat} (h : IsCur w p a n c l i) {b : Nat} (hb : p < b) (j : Nat) (v : Value) : IsCur (w.setCell ⟨b, j, none⟩ v) p a n c l i :=
  h.kept (by simp) (fun k hk => Below.heap_setCell _ _ _ _ (by simp only [ne_eq]; omega))

theorem Sl.litB {α : Type} {enc : α → List Value} {W : World} {cs : Array Value} {T size B : Nat} {l : List α} (hB : W.heap.size = B) (hsz : ∀ x : α, (enc x).length = size) (h : cs.toList = l.flatMap enc) : Sl enc (W.alloc (.cells cs T)) (some ⟨B, 0, none⟩) l := hB ▸ Sl.lit hsz h

theorem c_sl01PickInt {w : World} {p : Nat} {a : Option Addr} {n c : Nat} {l : List Int} {i : Nat} {al : Option Addr} {nl cl : Nat} {xs : List Int} (hc : IsCur w p a n c l i) (hs : Sl encInt w al xs) (hn : xs.length = nl) (h1 : 1 ≤ nl) (h2 : nl ≤ 256) (hne : ∀ b off, al = some ⟨b, off, none⟩ → b ≠ p) :
    Calls Try.prog 38 #[.pointer (some ⟨p, 0, none⟩), .slice al nl cl] w (Draws w p a n c l (fun x => x ∈ xs)) := by
  go_enter Try.func38, Try.ntmps38
  go_wp2_with (first | ((with_reducible refine wp_region_later (by kernel_rfl) (by kernel_rfl) ?_); (repeat (first | go_big_quiet_step (first | fail))); refine wpQuiet_nil ?_; rintro _ ⟨x, rfl⟩))
  refine (c_sl01Below hc (by omega) (by omega)).mono ?_
  rintro _ w1 ⟨x, rfl, ⟨hx, hx'⟩, hg, i', hc'⟩
  obtain ⟨k, rfl⟩ := Int.eq_ofNat_of_zero_le hx
  have hk : k < nl := by omega
  obtain ⟨b, off, s, rfl, hb, hd, g0⟩ := (hs.grown hg hne).int (show k < xs.length by omega)
  have g1 := g0 w1
  have hmem : s ∈ xs := by have : s ∈ xs.drop k := by rw [hd.out]; simp
                           exact List.mem_of_mem_drop this
  have HNE := Lib.hid hne; clear hne g0
  go_wp2_with (first | ((with_reducible refine wp_region_later (by kernel_rfl) (by kernel_rfl) ?_); (repeat (first | go_big_quiet_step (first | fail))); refine wpQuiet_nil ?_; rintro _ ⟨x, rfl⟩))
  go_ret
  exact ⟨_, rfl, hmem, hg, i', hc'⟩

set_option maxRecDepth 10000 in
theorem c_sl01New {w : World} {a : Option Addr} {n c : Nat} {l : List Int} (hs : Sl encByte w a l) (hn : l.length = n) (hm : n ≤ 1048576) (hby : ∀ x ∈ l, isByte x) :
    Calls Try.prog 36 #[.slice a n c] w fun e w' => ∃ p, e = .returned (.pointer (some ⟨p, 0, none⟩)) ∧ w.heap.size ≤ p ∧ (∃ x : Later w, w' = x.w) ∧ IsCur w' p a n c l 0 := by
  have HBY := Lib.hid hby; clear hby
  go_enter Try.func36, Try.ntmps36
  go_wp2_with (first | ((with_reducible refine wp_region_later (by kernel_rfl) (by kernel_rfl) ?_); (repeat (first | go_big_quiet_step (first | fail))); refine wpQuiet_nil ?_; rintro _ ⟨x, rfl⟩))
  go_loopw [3, 4] (fun vh v wr => ∃ (k : Nat) (h : Int), vh = .int .i64 h ∧ v = .int .i64 k ∧ k ≤ n ∧ ∃ x : Later w, wr = x.w) (fun _ v _ => (n - intOf v).toNat)
  case atStart => exact ⟨0, _, rfl, rfl, by omega, Later.of⟩
  case round =>
    obtain ⟨k, h, rfl, rfl, hk, x, rfl⟩ := hrel
    by_cases h1 : k < n
    · cases h2 : decide ((k : Int) < 4000)
      · go_wp2_with (first | ((with_reducible refine wp_region_later (by kernel_rfl) (by kernel_rfl) ?_); (repeat (first | go_big_quiet_step (first | fail) | simp only [h2])); refine wpQuiet_nil ?_; rintro _ ⟨x, rfl⟩))
        go_ret
        refine ⟨_, rfl, LeN.out, Later.of, ⟨inferInstance, ?_, ?_, ⟨h, ?_⟩, ?_, ?_, by omega, hn, hm, hs.to inferInstance, HBY.out, fun b off ha h0 => Nat.lt_of_lt_of_le (hs.addr_lt ha h0) LeN.out⟩⟩
        all_goals (go_simp)
      · obtain ⟨b, off, s, rfl, hb, hd, g0⟩ := hs.byte (show k < l.length by omega)
        go_wp2_with (first | ((with_reducible refine wp_region_later (by kernel_rfl) (by kernel_rfl) ?_); (repeat (first | go_big_quiet_step (first | fail) | simp only [h2])); refine wpQuiet_nil ?_; rintro _ ⟨x, rfl⟩))
        go_roundw
        case rel => exact ⟨k + 1, _, rfl, by go_num, by omega, Later.of⟩
        case measure => simp [intOf]; omega
    · go_wp2_with (first | ((with_reducible refine wp_region_later (by kernel_rfl) (by kernel_rfl) ?_); (repeat (first | go_big_quiet_step (first | fail))); refine wpQuiet_nil ?_; rintro _ ⟨x, rfl⟩))
      go_ret
      refine ⟨_, rfl, LeN.out, Later.of, ⟨inferInstance, ?_, ?_, ⟨h, ?_⟩, ?_, ?_, by omega, hn, hm, hs.to inferInstance, HBY.out, fun b off ha h0 => Nat.lt_of_lt_of_le (hs.addr_lt ha h0) LeN.out⟩⟩
      all_goals (go_simp)
end Go.Proofs.Ytjffbpdippbfkaa
