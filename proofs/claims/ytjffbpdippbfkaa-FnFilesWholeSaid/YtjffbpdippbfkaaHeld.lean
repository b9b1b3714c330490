/- Blocks known whole, and what is kept while they are written. No condition. -/
import Derived.Test.YtjffbpdippbfkaaReg
import Derived.Test.YtjffbpdippbfkaaMark
import Derived.Test.YtjffbpdippbfkaaOpen
namespace Go.Proofs.Ytjffbpdippbfkaa
set_option linter.unusedVariables false
open Go.ChangeShapes Go.WideShapes Go.ChangeAt Go.RowKit

/-- A block known whole. -/
def Held (w : World) (b : Nat) (cs : List Value) (T : TypeId) : Prop := w.heap[b]? = some (.cells cs.toArray T (0, 0))
theorem Held.new (W : World) (cs : List Value) (T g : Nat) (hg : W.heap.size = g) : Held (W.alloc (.cells cs.toArray T)) g cs T := blk_alloc W _ g hg
theorem Held.to {w W : World} {b : Nat} {cs : List Value} {T : TypeId} (h : Held w b cs T) (g : Grows w W) : Held W b cs T := blk_grows (gr := g) h
theorem Held.lt {w : World} {b : Nat} {cs : List Value} {T : TypeId} (h : Held w b cs T) : b < w.heap.size := (Array.getElem?_eq_some_iff.1 h).1
theorem Held.ltN {w : World} {b : Nat} {cs : List Value} {T : TypeId} (h : Held w b cs T) : LtN b w.heap.size := ⟨h.lt⟩
theorem Held.cell {w : World} {b : Nat} {cs : List Value} {T : TypeId} (h : Held w b cs T) (i : Nat) : w.cell? ⟨b, i, none⟩ = cs[i]? := by simp [World.cell?, show w.heap[b]? = _ from h]
theorem Held.free {w : World} {b : Nat} {cs : List Value} {T : TypeId} (h : Held w b cs T) (i : Nat) : w.frozen? ⟨b, i, none⟩ = false := by simp [World.frozen?, show w.heap[b]? = _ from h]
theorem Held.set {w : World} {b : Nat} {cs : List Value} {T : TypeId} (h : Held w b cs T) (i : Nat) (v : Value) : Held (w.setCell ⟨b, i, none⟩ v) b (cs.set i v) T := by
  have h' : w.heap[b]? = some (.cells cs.toArray T (0, 0)) := h
  unfold Held World.setCell
  simp [Array.getElem?_modify, h']
theorem Held.far {w : World} {b b' : Nat} {cs : List Value} {T : TypeId} (h : Held w b cs T) (hne : b' ≠ b) (i : Nat) (v : Value) : Held (w.setCell ⟨b', i, none⟩ v) b cs T := by
  unfold Held
  rw [Below.heap_setCell _ _ _ _ (fun e => hne (by simpa using e.symm))]
  exact h
/-- A slice of the call's own is not a block of another type. -/
theorem Own.notHeld {α : Type} {enc : α → List Value} {T T' size B n : Nat} {w : World} {a : Option Addr} {c b : Nat} {l : List α} {cs : List Value} (h : Own enc T size B w a c l) (hb : Held w b cs T') (hT : T ≠ T') : some b ≠ Value.ownBlock (.slice a n c) := by
  obtain ⟨-, -, ⟨h1, -⟩ | ⟨g, cap, cur, hv, -, hh, -⟩⟩ := h
  · simp only [Value.slice.injEq] at h1; obtain ⟨rfl, -⟩ := h1; simp [Value.ownBlock]
  · simp only [Value.slice.injEq] at hv; obtain ⟨rfl, -⟩ := hv
    simp only [Value.ownBlock, ne_eq, Option.some.injEq]
    rintro rfl
    have hb' : w.heap[b]? = some (.cells cs.toArray T' (0, 0)) := hb
    rw [hb'] at hh
    simp only [Option.some.injEq, Obj.cells.injEq] at hh
    exact hT hh.2.1.symm
/-- A block known whole, while a slice of another type is written. -/
theorem Held.kept {α : Type} {enc : α → List Value} {T T' size B n : Nat} {w w' : World} {a : Option Addr} {c b : Nat} {l : List α} {cs : List Value} (hb : Held w b cs T') (h : Own enc T size B w a c l) (hT : T ≠ T') (hg : w.grownBy w' (Value.ownBlock (.slice a n c))) : Held w' b cs T' :=
  blk_grown hg hb (h.notHeld hb hT)
/-- A slice of the call's own, while a block of another type is written. -/
theorem Own.set {α : Type} {enc : α → List Value} {T T' size B : Nat} {w : World} {a : Option Addr} {c b : Nat} {l : List α} {cs : List Value} (h : Own enc T size B w a c l) (hb : Held w b cs T') (hT : T ≠ T') (i : Nat) (v : Value) : Own enc T size B (w.setCell ⟨b, i, none⟩ v) a c l := by
  refine ⟨h.1, h.2.kept (row := some b) ⟨rfl, rfl, rfl, by simp, fun k hk hr => ?_⟩ (.inr (fun e => h.notHeld (n := l.length) hb hT e.symm))⟩
  rw [Below.heap_setCell _ _ _ _ (fun e => hr (by simp only at e; rw [e]))]
/-- A slice of the call's own, while a block below is written. -/
theorem Own.low {α : Type} {enc : α → List Value} {T size B : Nat} {w : World} {a : Option Addr} {c b : Nat} {l : List α} (h : Own enc T size B w a c l) (hb : b < B) (i : Nat) (v : Value) : Own enc T size B (w.setCell ⟨b, i, none⟩ v) a c l := by
  refine ⟨h.1, h.2.kept (row := some b) ⟨rfl, rfl, rfl, by simp, fun k hk hr => ?_⟩ ?_⟩
  · rw [Below.heap_setCell _ _ _ _ (fun e => hr (by simp only at e; rw [e]))]
  · cases ha : Value.ownBlock (.slice a l.length c) with
    | none => exact .inl rfl
    | some k =>
      right
      have := h.2.lt k ha
      intro e
      simp only [Option.some.injEq] at e
      omega

theorem Own.lowS {α : Type} {enc : α → List Value} {T size B : Nat} {w : World} {x : Later w} {a : Option Addr} {c b : Nat} {l : List α} (h : Own enc T size B x.w a c l) (hb : b < B) (i : Nat) (v : Value) : Own enc T size B (x.set ⟨b, i, none⟩ v).w a c l := h.low hb i v
theorem grownBy_news {w : World} {row : Option Nat} (o : Obj) {W : World} (h : (w.alloc o).grownBy W row) : w.grownBy W row :=
  ⟨h.os, h.tape, h.output, by have := h.size; simp at this; omega, fun k hk hr => by rw [h.block k (by simp; omega) hr, Below.heap_alloc _ _ _ hk]⟩
/-- The cells of a block known whole, in every world that has grown. -/
theorem Held.cellG {w : World} {b : Nat} {cs : List Value} {T : TypeId} (h : Held w b cs T) (i : Nat) (v : Value) (hv : cs[i]? = some v) : ∀ (W : World) [Grows w W], W.cell? ⟨b, i, none⟩ = some v := fun W g => by rw [(h.to g).cell i]; exact hv
theorem Held.freeG {w : World} {b : Nat} {cs : List Value} {T : TypeId} (h : Held w b cs T) (i : Nat) : ∀ (W : World) [Grows w W], W.frozen? ⟨b, i, none⟩ = false := fun W g => (h.to g).free i
theorem Held.four {w : World} {b : Nat} {v0 v1 v2 v3 : Value} {T : TypeId} (h : Held w b [v0, v1, v2, v3] T) :
    (∀ (W : World) [Grows w W], W.cell? ⟨b, 0, none⟩ = some v0) ∧ (∀ (W : World) [Grows w W], W.cell? ⟨b, 1, none⟩ = some v1) ∧ (∀ (W : World) [Grows w W], W.cell? ⟨b, 2, none⟩ = some v2) ∧ (∀ (W : World) [Grows w W], W.cell? ⟨b, 3, none⟩ = some v3) ∧
    (∀ (W : World) [Grows w W], W.frozen? ⟨b, 0, none⟩ = false) ∧ (∀ (W : World) [Grows w W], W.frozen? ⟨b, 1, none⟩ = false) ∧ (∀ (W : World) [Grows w W], W.frozen? ⟨b, 2, none⟩ = false) ∧ (∀ (W : World) [Grows w W], W.frozen? ⟨b, 3, none⟩ = false) :=
  ⟨h.cellG 0 _ rfl, h.cellG 1 _ rfl, h.cellG 2 _ rfl, h.cellG 3 _ rfl, h.freeG 0, h.freeG 1, h.freeG 2, h.freeG 3⟩

theorem Own.nilcap {α : Type} {enc : α → List Value} {T size B : Nat} {w : World} {a : Option Addr} {c : Nat} {l : List α} (h : Own enc T size B w a c l) : a = none → c = 0 := by
  obtain ⟨-, -, ⟨h1, -⟩ | ⟨g, cap, cur, hv, -⟩⟩ := h
  · simp only [Value.slice.injEq] at h1; exact fun _ => h1.2.2
  · simp only [Value.slice.injEq] at hv; intro h; rw [hv.1] at h; cases h

theorem flatInt {w : World} {cs : List Value} (hl : cs.length = 1) (h : RdL w [.int] cs) : ∃ s : Int, encInt s = cs ∧ i64 s := by
  obtain ⟨u0, g0, r0⟩ := h.at (j := 0) rfl
  obtain ⟨x0, rfl, p0⟩ := r0.int_inv
  refine ⟨x0, (list_all hl ?_).symm, p0⟩
  intro j y hy
  match j, hy with
  | 0, hy => cases hy; exact g0
theorem okWide_struct {P : Program} {w : World} {r : Reach} {base : Nat} {t : TypeId} {v : Value} {fs : Array Field} (ht : P.underlying t = some (.struct fs)) (h : Value.okWide P w r base t v) : ∃ cs, v = .agg cs ∧ cs.size = P.cellsOf t := by
  simp only [Value.okWide, ht] at h
  obtain ⟨cs, h1, h2, -⟩ := h
  exact ⟨cs, h1, h2⟩

/-! ### Slices of numbers -/
theorem c_cloneInt {a : Option Addr} {n c : Nat} {l : List Int} {w : World} (hs : Sl encInt w a l) (hn : l.length = n) (hm : n ≤ 100000000) :
    Calls Try.prog 41 #[.slice a n c] w (GivesSl encInt 3 1 w l) := by
  cases a with
  | none =>
    have hl : l = [] := by
      cases l with
      | nil => rfl
      | cons y r => obtain ⟨b, off, h0, -⟩ := hs 0 y rfl; cases h0
    have hq := fun (w : World) => run_eql_slice_nil (P := Try.prog) w 25 3 none n c Try.underlying25
    simp only [Option.isNone] at hq
    have HL := Lib.hid hl; clear hl
    go_enter Try.func41, Try.ntmps41
    go_wp2_with (first | ((with_reducible refine wp_region_later (by kernel_rfl) (by kernel_rfl) ?_); (repeat (first | go_big_quiet_step (first | fail))); refine wpQuiet_nil ?_; rintro _ ⟨x, rfl⟩))
    go_ret
    exact GivesSl.nilOf encInt_len HL.out
  | some ad =>
    have hq := fun (w : World) => run_eql_slice_nil (P := Try.prog) w 25 3 (some ad) n c Try.underlying25
    simp only [Option.isNone] at hq
    go_enter Try.func41, Try.ntmps41
    go_wp2_with (first | ((with_reducible refine wp_region_later (by kernel_rfl) (by kernel_rfl) ?_); (repeat (first | go_big_quiet_step (first | fail))); refine wpQuiet_nil ?_; rintro _ ⟨x, rfl⟩) | (at_builtin; refine wpList_appS (enc := encInt) (w0 := w) (z := .int .i64 0) (size := 1) (bytes := 8) (n := 0) (l := []) rfl (.tmp 5) (.tmp 6) rfl Try.underlying25 (by kernel_rfl) rfl (by decide) (by decide) rfl rfl (fun h => by cases h) rfl hn (Own.emptyAt encInt_len (Nat.le_refl _) rfl) (hs.to inferInstance) encInt_one (by omega) ?_; intro sa1 sc1 x1 hown1 hgr1))
    go_ret
    rw [List.nil_append] at hown1
    exact ⟨sa1, sc1, by rw [hn]; first | rfl | simp, hown1, Later.of⟩

theorem c_lszIntS {a : Option Addr} {n c : Nat} {left : Int} {w : World} (hl : 0 ≤ left) (hl' : left ≤ 1048576) (hm : n ≤ 9223372036854775807) :
    Calls Try.prog 51 #[.slice a n c, .int .i64 left] w (Gives w (.int .i64 (if left - n < 0 then -1 else left - n))) := by
  by_cases h : left - n < 0
  · rw [if_pos h]
    go_enter Try.func51, Try.ntmps51
    go_wp2_with (first | ((with_reducible refine wp_region_later (by kernel_rfl) (by kernel_rfl) ?_); (repeat (first | go_big_quiet_step (first | fail))); refine wpQuiet_nil ?_; rintro _ ⟨x, rfl⟩))
    go_ret
    exact Gives.mk rfl
  · rw [if_neg h]
    go_enter Try.func51, Try.ntmps51
    go_wp2_with (first | ((with_reducible refine wp_region_later (by kernel_rfl) (by kernel_rfl) ?_); (repeat (first | go_big_quiet_step (first | fail))); refine wpQuiet_nil ?_; rintro _ ⟨x, rfl⟩))
    go_ret
    exact Gives.mk rfl

set_option maxRecDepth 100000 in
set_option maxHeartbeats 2000000 in
theorem c_ltoIntS {a : Option Addr} {n c : Nat} {l : List Int} {w : World} (hs : Sl encInt w a l) (hn : l.length = n) (hm : n ≤ 1048576) :
    Calls Try.prog 23 #[.slice a n c] w (GivesSl encInt 3 1 w l) := by
  obtain ⟨C, hC, hmk⟩ := run_mk (P := Try.prog) Try.underlying25 (e := 3) (z := .int .i64 0) (size := 1) (bytes := 8) (by kernel_rfl) n (by omega) (by omega)
  have hCz : C.size = n := by rw [hC, size_madeCells, Nat.mul_one]
  clear hC
  go_enter Try.func23, Try.ntmps23
  go_wp2_with (first | ((with_reducible refine wp_region_later (by kernel_rfl) (by kernel_rfl) ?_); (repeat (first | go_big_quiet_step (first | fail))); refine wpQuiet_nil ?_; rintro _ ⟨x, rfl⟩))
  clear hmk
  go_loopw [4] (fun v wr => ∃ k : Nat, v = .int .i64 k ∧ k ≤ n ∧ ∃ D : Array Value, D.size = n ∧ Hid (D.toList.take k = (l.take k).flatMap encInt) ∧ ∃ x : Later (w.alloc (.cells D 3)), wr = x.w) (fun v _ => (n - intOf v).toNat)
  case atStart => exact ⟨0, rfl, by omega, C, hCz, by simp [Hid], Later.here _, rfl⟩
  case round =>
    obtain ⟨k, rfl, hk, D, hDz, hf, x, rfl⟩ := hrel
    by_cases h : k < n
    · obtain ⟨b, off, s, rfl, hb, hd, h10⟩ := hs.int (show k < l.length by omega)
      obtain ⟨o0, g0⟩ := getD_lt hDz (show k < n by omega)
      go_wp2_with (first | ((with_reducible refine wp_region_later (by kernel_rfl) (by kernel_rfl) ?_); (repeat (first | go_big_quiet_step (first | fail))); refine wpQuiet_nil ?_; rintro _ ⟨x, rfl⟩))
      go_roundw
      case rel => exact ⟨k + 1, by go_num, by omega, _, by simpa using hDz, fill1 hf.out hDz h hd.out rfl, Later.set1_at _ _ _⟩
      case measure => simp [intOf]; omega
    · go_wp2_with (first | ((with_reducible refine wp_region_later (by kernel_rfl) (by kernel_rfl) ?_); (repeat (first | go_big_quiet_step (first | fail))); refine wpQuiet_nil ?_; rintro _ ⟨x, rfl⟩))
      go_ret
      refine ⟨_, _, by rw [hn]; rfl, own_block encInt_len hn (by omega) (Nat.le_refl _) (by rw [Nat.mul_one]; exact hDz) ?_ x, ⟨x.w, Grows.out⟩, rfl⟩
      have hf' := hf.out
      rw [List.take_of_length_le (by simp; omega), List.take_of_length_le (by omega)] at hf'
      exact hf'
end Go.Proofs.Ytjffbpdippbfkaa
