/- The contracts of the mirrors, sizes and equalities of waiting orders. No condition but on sizes. The contracts on slices of strings: their mirrors, their size, their equality, their marks. No condition but on lengths. Slices of the call's own within data with depth: each has a colour, so that two of them are never one. No condition. -/
import Derived.Test.YtbaffippdifbpaaGreatVDF1
import Derived.Test.YtbaffippdifbpaaGreatVM0
import Derived.Test.YtbaffippdifbpaaGreatVNum
namespace Go.Proofs.YtbaffippdifbpaaGreat
set_option linter.unusedVariables false
open Go.ChangeShapes Go.WideShapes Go.ChangeAt Go.RowKit
theorem d_ltoWaiting {B : Nat} {vs : List Value} {x : TWaiting} {w : World} (h : Enc.Rd B w vs x) (ht : Enc.tot x ≤ 1048576) :
    Calls Tryz.prog 309 #[.agg vs.toArray] w (GivesD w x) := by
  obtain ⟨rfl, hok⟩ := h
  clear ht
  have HOK := Lib.hid hok; clear hok
  go_enter Tryz.func309, Tryz.ntmps309
  go_wp2_with fail
  refine (d_ltoOrder (B := 0) (x := x.Order) ⟨rfl, HOK.out.2.1⟩ (show (0 : Int) ≤ 1048576 by omega)).mono ?_
  rintro _ _ ⟨_, rfl, ⟨rfl, -⟩, y0, rfl⟩
  go_wp2_with fail
  refine bodyPost_ret (v := .agg #[.int .i64 x.Number, .int .i64 x.Order.Kind, .int .i64 x.Order.At, .int .i64 x.Order.A, .int .i64 x.Order.B]) ?_ rfl ⟨[.int .i64 x.Number, .int .i64 x.Order.Kind, .int .i64 x.Order.At, .int .i64 x.Order.A, .int .i64 x.Order.B], rfl, ⟨rfl, HOK.out⟩, Later.of⟩
  simp [results, Tryz.results309, go_sem]
theorem d_leqWaiting {B B2 : Nat} {vs vs2 : List Value} {x : TWaiting} {w : World} (h : Enc.Rd B w vs x) (h2 : Enc.Rd B2 w vs2 x) :
    Calls Tryz.prog 305 #[.agg vs.toArray, .agg vs2.toArray] w (Gives w (.bool true)) := by
  obtain ⟨rfl, hok⟩ := h
  obtain ⟨rfl, -⟩ := h2
  have HOK := Lib.hid hok; clear hok
  go_enter Tryz.func305, Tryz.ntmps305
  go_wp2_with fail
  refine (d_leqOrder (B := 0) (B2 := 0) (x := x.Order) ⟨rfl, HOK.out.2.1⟩ ⟨rfl, HOK.out.2.1⟩).mono ?_
  rintro _ _ ⟨rfl, y0, rfl⟩
  go_wp2_with fail
  go_ret
  exact Gives.mk rfl
theorem d_lszWaitingS {B : Nat} {a : Option Addr} {c : Nat} {l : List TWaiting} {left : Int} {w : World} (hs : RdS B w a c l) (hl : 0 ≤ left) (hl2 : left ≤ 1048576) :
    Calls Tryz.prog 277 #[.slice a l.length c, .int .i64 left] w (Gives w (.int .i64 (szD left (totL l)))) := by
  have hmx := hs.max
  have hln := totL_len l
  obtain ⟨n, hn⟩ : ∃ n, l.length = n := ⟨_, rfl⟩
  rw [hn] at hln hmx
  rw [hn]
  have HN := Lib.hid hn; clear hn
  have htl : totL l = n := by rw [← HN.out]; clear hs HN hmx hln; induction l with | nil => rfl | cons x r ih => simp only [totL, List.length_cons, ih]; show 1 + 0 + _ = _; omega
  rw [htl]; clear htl hln hs
  by_cases h : left - n < 0
  · rw [szD_neg h]
    go_enter Tryz.func277, Tryz.ntmps277
    go_wp2_with fail
    go_ret
    exact Gives.mk rfl
  · rw [szD_pos h]
    go_enter Tryz.func277, Tryz.ntmps277
    go_wp2_with fail
    go_ret
    exact Gives.mk rfl
theorem d_leqWaitingS {B B2 : Nat} {a a2 : Option Addr} {c c2 : Nat} {l : List TWaiting} {w : World} (hs : RdS B w a c l) (hs2 : RdS B2 w a2 c2 l) :
    Calls Tryz.prog 258 #[.slice a l.length c, .slice a2 l.length c2] w (Gives w (.bool true)) := by
  have hmx := hs.max
  obtain ⟨n, hn⟩ : ∃ n, l.length = n := ⟨_, rfl⟩
  rw [hn] at hmx
  rw [hn]
  have HN := Lib.hid hn; clear hn
  have kn : ((n : Int) != (n : Int)) = false := by simp
  go_enter Tryz.func258, Tryz.ntmps258
  go_wp2_with (first | ((with_reducible refine wp_region_later (by kernel_rfl) (by kernel_rfl) ?_); (repeat (first | go_big_quiet_step (first | fail) | simp only [kn])); refine wpQuiet_nil ?_; rintro _ ⟨x, rfl⟩))
  go_loopw [5] (fun v wr => ∃ k : Nat, v = .int .i64 k ∧ k ≤ n ∧ ∃ x : Later w, wr = x.w) (fun v _ => (n - intOf v).toNat)
  case atStart => exact ⟨0, rfl, by omega, Later.of⟩
  case round =>
    obtain ⟨k, rfl, hk, x, rfl⟩ := hrel
    by_cases h : k < n
    · have hlk : k < l.length := by have := HN.out; omega
      obtain ⟨eb, eoff, ex, rfl, ehb, ehd, eok, eh0, eh1, eh2, eh3, eh4⟩ := hs.atTWaiting (show k < l.length by omega)
      obtain ⟨fb, foff, fx, rfl, fhb, fhd, fok, fh0, fh1, fh2, fh3, fh4⟩ := hs2.atTWaiting (show k < l.length by omega)
      obtain rfl : ex = fx := by have := ehd.out.symm.trans fhd.out; simpa using this
      clear ehd fhd hlk hs hs2
      have ce : ∀ {W : World} [Grows w W], Calls Tryz.prog 305 #[.agg #[.int .i64 ex.Number, .int .i64 ex.Order.Kind, .int .i64 ex.Order.At, .int .i64 ex.Order.A, .int .i64 ex.Order.B], .agg #[.int .i64 ex.Number, .int .i64 ex.Order.Kind, .int .i64 ex.Order.At, .int .i64 ex.Order.A, .int .i64 ex.Order.B]] W (Gives W (.bool true)) := fun {W} _ => d_leqWaiting (B := 0) (B2 := 0) (x := ex) ⟨rfl, eok⟩ ⟨rfl, fok⟩
      clear eok fok
      go_wp2_with (first | ((with_reducible refine wp_region_later (by kernel_rfl) (by kernel_rfl) ?_); (repeat (first | go_big_quiet_step (first | (go_at_call 305; exact Gives.quiet (ce))))); refine wpQuiet_nil ?_; rintro _ ⟨x, rfl⟩) | (go_at_call 305; refine (ce).mono ?_; rintro _ _ ⟨rfl, x, rfl⟩))
      go_roundw
      case rel => exact ⟨k + 1, by go_num, by omega, Later.of⟩
      case measure => simp [intOf]; omega
    · go_wp2_with fail
      go_ret
      exact Gives.mk rfl
end Go.Proofs.YtbaffippdifbpaaGreat
namespace Go.Proofs.YtbaffippdifbpaaGreat
set_option linter.unusedVariables false
open Go.ChangeShapes Go.WideShapes Go.ChangeAt Go.RowKit
def encStr (s : ByteArray) : List Value := [.string s]
theorem encStr_len (n : ByteArray) : (encStr n).length = 1 := rfl
theorem encStr_one (n : ByteArray) : ∀ u ∈ encStr n, u.oneCell' = true := by intro u hu; simp [encStr] at hu; subst hu; rfl
theorem Sl.str {w : World} {a : Option Addr} {l : List ByteArray} (h : Sl encStr w a l) {k : Nat} (hk : k < l.length) :
    ∃ b off s, a = some ⟨b, off, none⟩ ∧ LtN b w.heap.size ∧ Hid (l.drop k = s :: l.drop (k + 1)) ∧ (∀ (W : World) [Grows w W], W.cell? ⟨b, off + k, none⟩ = some (.string s)) := by
  obtain ⟨s, hs, hd⟩ := drop_at hk
  obtain ⟨b, off, ha, hb, hc⟩ := h k s hs
  exact ⟨b, off, s, ha, ⟨hb⟩, hd, cell_grown hb (by simpa [encStr] using hc 0 _ rfl)⟩
theorem c_cloneStr {a : Option Addr} {n c : Nat} {l : List ByteArray} {w : World} (hs : Sl encStr w a l) (hn : l.length = n) (hm : n ≤ 100000000) :
    Calls Tryz.prog 53 #[.slice a n c] w (GivesSl encStr 9 1 w l) := by
  cases a with
  | none =>
    have hl : l = [] := by
      cases l with
      | nil => rfl
      | cons y r => obtain ⟨b, off, h0, -⟩ := hs 0 y rfl; cases h0
    have hq := fun (w : World) => run_eql_slice_nil (P := Tryz.prog) w 32 9 none n c Tryz.underlying32
    simp only [Option.isNone] at hq
    have HL := Lib.hid hl; clear hl
    go_enter Tryz.func53, Tryz.ntmps53
    go_wp2_with fail
    go_ret
    exact GivesSl.nilOf encStr_len HL.out
  | some ad =>
    have hq := fun (w : World) => run_eql_slice_nil (P := Tryz.prog) w 32 9 (some ad) n c Tryz.underlying32
    simp only [Option.isNone] at hq
    go_enter Tryz.func53, Tryz.ntmps53
    go_wp2_with (first | (at_builtin; refine wpList_appS (enc := encStr) (w0 := w) (z := .string ByteArray.empty) (size := 1) (bytes := 16) (n := 0) (l := []) rfl (.tmp 5) (.tmp 6) rfl Tryz.underlying32 (by kernel_rfl) rfl (by decide) (by decide) rfl rfl (fun h => by cases h) rfl hn (Own.emptyAt encStr_len (Nat.le_refl _) rfl) (hs.to inferInstance) encStr_one (by omega) ?_; intro sa1 sc1 x1 hown1 hgr1))
    go_ret
    rw [List.nil_append] at hown1
    exact ⟨sa1, sc1, by rw [hn]; first | rfl | simp, hown1, Later.of⟩
end Go.Proofs.YtbaffippdifbpaaGreat
namespace Go.Proofs.YtbaffippdifbpaaGreat
set_option linter.unusedVariables false
open Go.ChangeShapes Go.WideShapes Go.ChangeAt Go.RowKit
theorem Own.rdS {α : Type} [E : Enc α] {enc : α → List Value} {T size B : Nat} {w : World} {a : Option Addr} {c : Nat} {l : List α} (h : Own enc T size B w a c l) (hs : E.size = size) (hR : ∀ x ∈ l, E.Rd B w (enc x) x) : RdS B w a c l := by
  have hsl := h.sl
  obtain ⟨hsz, -, ⟨hv, hn0⟩ | ⟨g, cap, cur, hv, hB, hheap, hle, hmax, -⟩⟩ := h
  · simp only [Value.slice.injEq] at hv
    obtain ⟨rfl, -, rfl⟩ := hv
    have : l = [] := List.length_eq_zero_iff.1 hn0
    subst this
    exact RdS.nil
  · simp only [Value.slice.injEq, true_and] at hv
    obtain ⟨rfl, rfl⟩ := hv
    refine ⟨hle, hmax, (fun e => by cases e), fun i x hx => ?_⟩
    obtain ⟨b, off, hb, hlt, hc⟩ := hsl i x hx
    simp only [Option.some.injEq, Addr.mk.injEq] at hb
    obtain ⟨rfl, rfl, -⟩ := hb
    refine ⟨g, 0, enc x, rfl, hB, hlt, hR x (List.mem_of_getElem? hx), fun j u hu => ?_⟩
    have := hc j u hu
    rw [hsz] at this
    rw [hs]; exact this
class Flat (α : Type) extends Enc α where
  enc : α → List Value
  ty : Nat
  good : α → Prop
  encLen : ∀ x, (enc x).length = size
  one : ∀ x, ∀ u ∈ enc x, u.oneCell' = true
  rd : ∀ {B w x}, good x → Rd B w (enc x) x
  inv : ∀ {B w vs x}, Rd B w vs x → vs = enc x ∧ good x
abbrev Col := Nat × Nat
def blkOf (a : Option Addr) : Option Nat := a.map (·.block)
theorem ownBlock_eq (a : Option Addr) (n c : Nat) : Value.ownBlock (.slice a n c) = blkOf a := by cases a <;> rfl
theorem Own.blk {α : Type} {enc : α → List Value} {T size B : Nat} {w : World} {a : Option Addr} {c : Nat} {l : List α} (h : Own enc T size B w a c l) : ∀ k, blkOf a = some k → B ≤ k ∧ k < w.heap.size := fun k hk => h.2.lt k (by rw [ownBlock_eq]; exact hk)
theorem Own.same {α : Type} {enc : α → List Value} {T size B : Nat} {w w' : World} {a : Option Addr} {c : Nat} {l : List α} (h : Own enc T size B w a c l) (hk : ∀ k, blkOf a = some k → B ≤ k → k < w.heap.size → w'.heap[k]? = w.heap[k]?) : Own enc T size B w' a c l := by
  obtain ⟨h0, h1, h2 | ⟨g, cap, cur, hv, hg, hh, r⟩⟩ := h
  · exact ⟨h0, h1, .inl h2⟩
  · refine ⟨h0, h1, .inr ⟨g, cap, cur, hv, hg, ?_, r⟩⟩
    simp only [Value.slice.injEq] at hv
    rw [hk g (by rw [hv.1]; rfl) hg (Array.getElem?_eq_some_iff.1 hh).1]; exact hh
structure OwnC {α : Type} [E : Flat α] (B : Nat) (χ : Nat → Col) (i : Col) (w : World) (a : Option Addr) (c : Nat) (l : List α) : Prop where
  own : Own E.enc E.ty E.size B w a c l
  col : ∀ k, blkOf a = some k → χ k = i
  good : ∀ x ∈ l, E.good x
structure Fr (B : Nat) (χ : Nat → Col) (C : Col → Prop) (w w' : World) : Prop where
  os : w'.os = w.os
  tape : w'.tape = w.tape
  output : w'.output = w.output
  size : w.heap.size ≤ w'.heap.size
  block : ∀ b, b < w.heap.size → ¬ (B ≤ b ∧ C (χ b)) → w'.heap[b]? = w.heap[b]?
def paint (U : Nat) (χ χ2 : Nat → Col) (f : Col → Col) : Nat → Col := fun b => if b < U then χ b else f (χ2 b)
section
variable {α : Type} [E : Flat α] {B : Nat} {χ χ2 : Nat → Col} {i : Col} {w w' : World} {a : Option Addr} {c : Nat} {l : List α} {C : Col → Prop}
theorem OwnC.rd (h : OwnC B χ i w a c l) : RdS B w a c l := h.own.rdS rfl (fun x hx => E.rd (h.good x hx))
theorem OwnC.fr (h : OwnC B χ i w a c l) (f : Fr B χ C w w') (hi : ¬ C i) : OwnC B χ i w' a c l :=
  ⟨h.own.same (fun k hk h1 h2 => f.block k h2 (fun e => by rw [h.col k hk] at e; exact hi e.2)), h.col, h.good⟩
theorem OwnC.to (h : OwnC B χ i w a c l) (g : Grows w w') : OwnC B χ i w' a c l := ⟨h.own.to g, h.col, h.good⟩
theorem OwnC.keep (h : OwnC B χ i w a c l) (g : Keeps B w w') : OwnC B χ i w' a c l := ⟨h.own.same (fun k _ h1 h2 => g.block k h1 h2), h.col, h.good⟩
theorem OwnC.mono {B' : Nat} (h : OwnC B χ i w a c l) (hB : B' ≤ B) : OwnC B' χ i w a c l := ⟨h.own.mono hB, h.col, h.good⟩
theorem OwnC.recol {χ' : Nat → Col} {i' : Col} (h : OwnC B χ i w a c l) (hc : ∀ k, B ≤ k → k < w.heap.size → χ k = i → χ' k = i') : OwnC B χ' i' w a c l :=
  ⟨h.own, fun k hk => hc k (h.own.blk k hk).1 (h.own.blk k hk).2 (h.col k hk), h.good⟩
theorem OwnC.old {f : Col → Col} {U : Nat} (h : OwnC B χ i w a c l) (hU : w.heap.size ≤ U) : OwnC B (paint U χ χ2 f) i w a c l :=
  h.recol fun k _ h2 h3 => by rw [paint, if_pos (by omega)]; exact h3
theorem OwnC.new {f : Col → Col} {U : Nat} (h : OwnC B χ2 i w a c l) (hU : U ≤ B) : OwnC B (paint U χ χ2 f) (f i) w a c l :=
  h.recol fun k h1 _ h3 => by rw [paint, if_neg (by omega), h3]
theorem OwnC.of (h : Own E.enc E.ty E.size B w a c l) (hg : ∀ x ∈ l, E.good x) (i : Col) : OwnC B (fun _ => i) i w a c l := ⟨h, fun _ _ => rfl, hg⟩
theorem Fr.refl (B : Nat) (χ : Nat → Col) (C : Col → Prop) (w : World) : Fr B χ C w w := ⟨rfl, rfl, rfl, Nat.le_refl _, fun _ _ _ => rfl⟩
theorem Fr.grows (B : Nat) (χ : Nat → Col) (C : Col → Prop) (w w' : World) [g : Grows w w'] : Fr B χ C w w' := ⟨g.out.os, g.out.tape, g.out.output, g.out.size, fun b h _ => g.out.block b h⟩
theorem Fr.trans {w1 : World} (h : Fr B χ C w w1) (k : Fr B χ C w1 w') : Fr B χ C w w' := ⟨k.os.trans h.os, k.tape.trans h.tape, k.output.trans h.output, Nat.le_trans h.size k.size, fun b h2 h3 => (k.block b (Nat.lt_of_lt_of_le h2 h.size) h3).trans (h.block b h2 h3)⟩
theorem Fr.wide {C' : Col → Prop} (h : Fr B χ C w w') (hC : ∀ i, C i → C' i) : Fr B χ C' w w' := ⟨h.os, h.tape, h.output, h.size, fun b h2 h3 => h.block b h2 (fun k => h3 ⟨k.1, hC _ k.2⟩)⟩
theorem Fr.below {u : World} (h : Fr B χ C w w') (g : Grows u w) (hB : u.heap.size ≤ B) : Grows u w' := ⟨⟨h.os.trans g.out.os, h.tape.trans g.out.tape, h.output.trans g.out.output, Nat.le_trans g.out.size h.size, fun b hb => (h.block b (Nat.lt_of_lt_of_le hb g.out.size) (fun e => by omega)).trans (g.out.block b hb)⟩⟩
theorem OwnC.wrote {n c2 : Nat} (h : OwnC B χ i w a c l) (g : w.grownBy w' (Value.ownBlock (.slice a n c2))) : Fr B χ (· = i) w w' :=
  ⟨g.os, g.tape, g.output, g.size, fun b h2 h3 => g.block b h2 (by rw [ownBlock_eq]; exact fun e => h3 ⟨(h.own.blk b e.symm).1, h.col b e.symm⟩)⟩
end
def GivesOS {α : Type} [E : Flat α] (w : World) (l : List α) : Ending → World → Prop := fun e w' => ∃ a c, e = .returned (.slice a l.length c) ∧ OwnC w.heap.size (fun _ => (0, 0)) (0, 0) w' a c l ∧ ∃ y : Later w, w' = y.w
/-! ### Elements that hold a slice each -/
class Nest (α : Type) (β : outParam Type) extends Enc α where
  cells : α → Option Addr → Nat → List Value
  inner : α → List β
  ty : Nat
  good : α → Prop
  cellsLen : ∀ x a c, (cells x a c).length = size
  one : ∀ x a c, ∀ u ∈ cells x a c, u.oneCell' = true
structure NRow (α : Type) where
  x : α
  a : Option Addr
  c : Nat
def encN {α β : Type} [N : Nest α β] (r : NRow α) : List Value := N.cells r.x r.a r.c
theorem encN_len {α β : Type} [N : Nest α β] (r : NRow α) : (encN r).length = N.size := N.cellsLen _ _ _
structure OwnN {α β : Type} [N : Nest α β] [F : Flat β] (B : Nat) (χ : Nat → Col) (o : Nat) (w : World) (a : Option Addr) (c : Nat) (rows : List (NRow α)) : Prop where
  own : Own (encN (α := α)) N.ty N.size B w a c rows
  col : ∀ k, blkOf a = some k → χ k = (o, 0)
  each : ∀ k r, rows[k]? = some r → N.good r.x ∧ OwnC B χ (o, k + 1) w r.a r.c (N.inner r.x)
class NestRd (α : Type) {β : Type} [N : Nest α β] [F : Flat β] : Prop where
  rd : ∀ {B w x a c}, N.good x → RdS B w a c (N.inner x) → N.Rd B w (N.cells x a c) x
section
variable {α β : Type} [N : Nest α β] [F : Flat β] {B : Nat} {χ χ2 : Nat → Col} {o : Nat} {w w' : World} {a : Option Addr} {c : Nat} {rows : List (NRow α)} {C : Col → Prop}
theorem OwnN.fr (h : OwnN B χ o w a c rows) (f : Fr B χ C w w') (hi : ∀ k, ¬ C (o, k)) : OwnN B χ o w' a c rows :=
  ⟨h.own.same (fun k hk h1 h2 => f.block k h2 (fun e => by rw [h.col k hk] at e; exact hi 0 e.2)), h.col, fun k r hr => ⟨(h.each k r hr).1, (h.each k r hr).2.fr f (hi _)⟩⟩
theorem OwnN.to (h : OwnN B χ o w a c rows) (g : Grows w w') : OwnN B χ o w' a c rows := ⟨h.own.to g, h.col, fun k r hr => ⟨(h.each k r hr).1, (h.each k r hr).2.to g⟩⟩
theorem OwnN.keep (h : OwnN B χ o w a c rows) (g : Keeps B w w') : OwnN B χ o w' a c rows := ⟨h.own.same (fun k _ h1 h2 => g.block k h1 h2), h.col, fun k r hr => ⟨(h.each k r hr).1, (h.each k r hr).2.keep g⟩⟩
theorem OwnN.mono {B' : Nat} (h : OwnN B χ o w a c rows) (hB : B' ≤ B) : OwnN B' χ o w a c rows := ⟨h.own.mono hB, h.col, fun k r hr => ⟨(h.each k r hr).1, (h.each k r hr).2.mono hB⟩⟩
theorem OwnN.recol {χ' : Nat → Col} {o' : Nat} (h : OwnN B χ o w a c rows) (hc : ∀ k j, B ≤ k → k < w.heap.size → χ k = (o, j) → χ' k = (o', j)) : OwnN B χ' o' w a c rows :=
  ⟨h.own, fun k hk => hc k 0 (h.own.blk k hk).1 (h.own.blk k hk).2 (h.col k hk), fun k r hr => ⟨(h.each k r hr).1, (h.each k r hr).2.recol (fun b h1 h2 h3 => hc b _ h1 h2 h3)⟩⟩
theorem OwnN.old {f : Col → Col} {U : Nat} (h : OwnN B χ o w a c rows) (hU : w.heap.size ≤ U) : OwnN B (paint U χ χ2 f) o w a c rows :=
  h.recol fun k _ _ h2 h3 => by rw [paint, if_pos (by omega)]; exact h3
theorem OwnN.rd [R : NestRd α] (h : OwnN B χ o w a c rows) : RdS B w a c (rows.map (·.x)) := by
  have hsl := h.own.sl
  have hE := h.each
  obtain ⟨hsz, -, ⟨hv, hn0⟩ | ⟨g, cap, cur, hv, hB, hheap, hle, hmax, -⟩⟩ := h.own
  · simp only [Value.slice.injEq] at hv
    obtain ⟨rfl, -, rfl⟩ := hv
    have : rows = [] := List.length_eq_zero_iff.1 hn0
    subst this
    exact RdS.nil
  · simp only [Value.slice.injEq, true_and] at hv
    obtain ⟨rfl, rfl⟩ := hv
    refine ⟨by rw [List.length_map]; exact hle, hmax, (fun e => by cases e), fun i x hx => ?_⟩
    rw [List.getElem?_map] at hx
    obtain ⟨r, hr, rfl⟩ := Option.map_eq_some_iff.1 hx
    obtain ⟨b, off, hb, hlt, hc⟩ := hsl i r hr
    simp only [Option.some.injEq, Addr.mk.injEq] at hb
    obtain ⟨rfl, rfl, -⟩ := hb
    refine ⟨g, 0, encN r, rfl, hB, hlt, R.rd (hE i r hr).1 (hE i r hr).2.rd, fun j u hu => ?_⟩
    have := hc j u hu
    rw [hsz] at this
    exact this
end
end Go.Proofs.YtbaffippdifbpaaGreat
