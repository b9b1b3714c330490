/- The contracts of the mirrors, sizes and equalities of waiting orders. No condition but on sizes. · Maps keyed by records: what a store and a look-up come to. No condition. · The contracts of what says whether lists of flights and of records are valid, both sides. No condition but on sizes. · The contracts of eachOnce and l09Once. No condition but on lengths. · The contracts of BoundsOf, RateOf and GuessTrue. No condition but on lengths. · When the clock on board first shows a time: what it is, and the contracts of sort.Search, of the code's closure, and of the reference's search. No condition. · Maps keyed by records in walks: steps, and what is kept; the reference's search in a list of records. No condition but on sizes. -/
import Derived.Test.YtdankjbkioepgaaGreatVDF1
import Derived.Test.YtdankjbkioepgaaGreatVOkF
import Derived.Laws.StructEq
import Derived.MapKept
import Derived.Test.YtdankjbkioepgaaGreatVM0
import Derived.Test.YtdankjbkioepgaaGreatVFileO
import Derived.Test.YtdankjbkioepgaaGreatVSlots2
import Derived.Test.YtdankjbkioepgaaGreatVM2
import Derived.Shelf.Abstract
import Derived.Maps.Own
namespace Go.Proofs.YtdankjbkioepgaaGreat
set_option linter.unusedVariables false
open Go.ChangeShapes Go.WideShapes Go.ChangeAt Go.RowKit

theorem d_ltoWaiting {B : Nat} {vs : List Value} {x : TWaiting} {w : World} (h : Enc.Rd B w vs x) (ht : Enc.tot x ≤ 1048576) :
    Calls Tryz.prog 176 #[.agg vs.toArray] w (GivesD w x) := by
  obtain ⟨rfl, hok⟩ := h
  clear ht
  have HOK := Lib.hid hok; clear hok
  go_enter Tryz.func176, Tryz.ntmps176
  go_wp2_with (first | ((with_reducible refine wp_region_later (by kernel_rfl) (by kernel_rfl) ?_); (repeat (first | go_big_quiet_step (first | fail))); refine wpQuiet_nil ?_; rintro _ ⟨x, rfl⟩))
  refine (d_ltoOrder (B := 0) (x := x.Order) ⟨rfl, HOK.out.2.1⟩ (show (0 : Int) ≤ 1048576 by omega)).mono ?_
  rintro _ _ ⟨_, rfl, ⟨rfl, -⟩, y0, rfl⟩
  go_wp2_with (first | ((with_reducible refine wp_region_later (by kernel_rfl) (by kernel_rfl) ?_); (repeat (first | go_big_quiet_step (first | fail))); refine wpQuiet_nil ?_; rintro _ ⟨x, rfl⟩))
  refine bodyPost_ret (v := .agg #[.int .i64 x.Number, .int .i64 x.Order.Kind, .int .i64 x.Order.At, .int .i64 x.Order.A, .int .i64 x.Order.B]) ?_ rfl ⟨[.int .i64 x.Number, .int .i64 x.Order.Kind, .int .i64 x.Order.At, .int .i64 x.Order.A, .int .i64 x.Order.B], rfl, ⟨rfl, HOK.out⟩, Later.of⟩
  simp [results, Tryz.results176, go_sem]

theorem d_leqWaiting {B B2 : Nat} {vs vs2 : List Value} {x : TWaiting} {w : World} (h : Enc.Rd B w vs x) (h2 : Enc.Rd B2 w vs2 x) :
    Calls Tryz.prog 180 #[.agg vs.toArray, .agg vs2.toArray] w (Gives w (.bool true)) := by
  obtain ⟨rfl, hok⟩ := h
  obtain ⟨rfl, -⟩ := h2
  have HOK := Lib.hid hok; clear hok
  go_enter Tryz.func180, Tryz.ntmps180
  go_wp2_with (first | ((with_reducible refine wp_region_later (by kernel_rfl) (by kernel_rfl) ?_); (repeat (first | go_big_quiet_step (first | fail))); refine wpQuiet_nil ?_; rintro _ ⟨x, rfl⟩))
  refine (d_leqOrder (B := 0) (B2 := 0) (x := x.Order) ⟨rfl, HOK.out.2.1⟩ ⟨rfl, HOK.out.2.1⟩).mono ?_
  rintro _ _ ⟨rfl, y0, rfl⟩
  go_wp2_with (first | ((with_reducible refine wp_region_later (by kernel_rfl) (by kernel_rfl) ?_); (repeat (first | go_big_quiet_step (first | fail))); refine wpQuiet_nil ?_; rintro _ ⟨x, rfl⟩))
  go_ret
  exact Gives.mk rfl

theorem d_ltoWaitingS {B : Nat} {a : Option Addr} {c : Nat} {l : List TWaiting} {w : World} (hs : RdS B w a c l) (ht : totL l ≤ 1048576) :
    Calls Tryz.prog 153 #[.slice a l.length c] w (GivesDS w l) := by
  have hln := totL_len l
  have HT := Lib.hid (show ∀ x ∈ l, Enc.tot x ≤ 1048576 from fun x hx => Int.le_trans (totL_mem hx) ht)
  obtain ⟨n, hn⟩ : ∃ n, l.length = n := ⟨_, rfl⟩
  have HN := Lib.hid hn
  have hm : n ≤ 1048576 := by omega
  rw [hn]; clear ht hln hn
  obtain ⟨C, hC, hmk⟩ := run_mk (P := Tryz.prog) Tryz.underlying80 (e := 119) (z := .agg #[.int .i64 0, .int .i64 0, .int .i64 0, .int .i64 0, .int .i64 0]) (size := 5) (bytes := 40) (by kernel_rfl) n (by omega) (by omega)
  have hCz : C.size = n * 5 := by rw [hC, size_madeCells]
  clear hC
  go_enter Tryz.func153, Tryz.ntmps153
  go_wp2_with (first | ((with_reducible refine wp_region_later (by kernel_rfl) (by kernel_rfl) ?_); (repeat (first | go_big_quiet_step (first | fail))); refine wpQuiet_nil ?_; rintro _ ⟨x, rfl⟩))
  clear hmk
  go_loopw [4] (fun v wr => ∃ k : Nat, v = .int .i64 k ∧ k ≤ n ∧ ∃ (D : Array Value) (x : Later (w.alloc (.cells D 119))), D.size = n * 5 ∧ Hid (RowsIn (w.heap.size + 1) x.w D (l.take k)) ∧ wr = x.w) (fun v _ => (n - intOf v).toNat)
  case atStart => exact ⟨0, rfl, by omega, C, Later.here _, hCz, by rw [List.take_zero]; exact RowsIn.nil, rfl⟩
  case round =>
    obtain ⟨k, rfl, hk, D, x, hDz, hf, rfl⟩ := hrel
    by_cases h : k < n
    · have hlk : k < l.length := by have := HN.out; omega
      obtain ⟨eb, eoff, ex, rfl, ehb, ehd, eok, eh0, eh1, eh2, eh3, eh4⟩ := hs.atTWaiting (show k < l.length by omega)
      obtain ⟨o0, g0⟩ := getD_lt hDz (show k * 5 < n * 5 by omega)
      obtain ⟨o1, g1⟩ := getD_lt hDz (show k * 5 + 1 < n * 5 by omega)
      obtain ⟨o2, g2⟩ := getD_lt hDz (show k * 5 + 2 < n * 5 by omega)
      obtain ⟨o3, g3⟩ := getD_lt hDz (show k * 5 + 3 < n * 5 by omega)
      obtain ⟨o4, g4⟩ := getD_lt hDz (show k * 5 + 4 < n * 5 by omega)
      have hte := HT.out ex (List.mem_of_mem_drop (by rw [ehd.out]; exact List.mem_cons_self ..))
      have HEOK := Lib.hid eok; clear eok
      go_wp2_with (first | ((with_reducible refine wp_region_later (by kernel_rfl) (by kernel_rfl) ?_); (repeat (first | go_big_quiet_step (first | fail))); refine wpQuiet_nil ?_; rintro _ ⟨x, rfl⟩))
      refine (d_ltoWaiting (B := 0) (x := ex) ⟨rfl, HEOK.out⟩ hte).mono ?_
      rintro _ _ ⟨_, rfl, ⟨rfl, -⟩, y, rfl⟩
      clear hte
      go_wp2_with (first | ((with_reducible refine wp_region_later (by kernel_rfl) (by kernel_rfl) ?_); (repeat (first | go_big_quiet_step (first | fail))); refine wpQuiet_nil ?_; rintro _ ⟨x, rfl⟩))
      go_roundw
      case rel =>
        obtain ⟨x2, hx2⟩ := Later.set5_at (x.andThen y) (k * 5) (k * 5 + 1) (k * 5 + 2) (k * 5 + 3) (k * 5 + 4) (.int .i64 ex.Number) (.int .i64 ex.Order.Kind) (.int .i64 ex.Order.At) (.int .i64 ex.Order.A) (.int .i64 ex.Order.B)
        rw [hx2]
        have hP := RowsIn.put (W' := x2.w) hf.out ehd.out h HN.out hDz (vs := [.int .i64 ex.Number, .int .i64 ex.Order.Kind, .int .i64 ex.Order.At, .int .i64 ex.Order.A, .int .i64 ex.Order.B]) ⟨rfl, HEOK.out⟩ (by rw [← hx2]; infer_instance)
        exact ⟨k + 1, by go_num, by omega, _, x2, by simpa using hDz, hP, rfl⟩
      case measure => simp [intOf]; omega
    · go_wp2_with (first | ((with_reducible refine wp_region_later (by kernel_rfl) (by kernel_rfl) ?_); (repeat (first | go_big_quiet_step (first | fail))); refine wpQuiet_nil ?_; rintro _ ⟨x, rfl⟩))
      go_ret
      have hf2 := hf.out
      rw [List.take_of_length_le (by have := HN.out; omega)] at hf2
      exact ⟨_, n, by rw [HN.out]; rfl, RowsIn.done x hf2 HN.out hm (by omega), ⟨x.w, Grows.out⟩, rfl⟩

theorem d_lszWaitingS {B : Nat} {a : Option Addr} {c : Nat} {l : List TWaiting} {left : Int} {w : World} (hs : RdS B w a c l) (hl : 0 ≤ left) (hl2 : left ≤ 1048576) :
    Calls Tryz.prog 143 #[.slice a l.length c, .int .i64 left] w (Gives w (.int .i64 (szD left (totL l)))) := by
  have hmx := hs.max
  have hln := totL_len l
  obtain ⟨n, hn⟩ : ∃ n, l.length = n := ⟨_, rfl⟩
  rw [hn] at hln hmx
  rw [hn]
  have HN := Lib.hid hn; clear hn
  have htl : totL l = n := by rw [← HN.out]; clear hs HN hmx hln; induction l with | nil => rfl | cons x r ih => simp only [totL, List.length_cons, ih]; show 1 + 0 + _ = _; omega
  rw [htl]; clear htl hln hs
  by_cases h : left - n < 0
  · rw [szD_neg h]
    go_enter Tryz.func143, Tryz.ntmps143
    go_wp2_with (first | ((with_reducible refine wp_region_later (by kernel_rfl) (by kernel_rfl) ?_); (repeat (first | go_big_quiet_step (first | fail))); refine wpQuiet_nil ?_; rintro _ ⟨x, rfl⟩))
    go_ret
    exact Gives.mk rfl
  · rw [szD_pos h]
    go_enter Tryz.func143, Tryz.ntmps143
    go_wp2_with (first | ((with_reducible refine wp_region_later (by kernel_rfl) (by kernel_rfl) ?_); (repeat (first | go_big_quiet_step (first | fail))); refine wpQuiet_nil ?_; rintro _ ⟨x, rfl⟩))
    go_ret
    exact Gives.mk rfl

theorem d_leqWaitingS {B B2 : Nat} {a a2 : Option Addr} {c c2 : Nat} {l : List TWaiting} {w : World} (hs : RdS B w a c l) (hs2 : RdS B2 w a2 c2 l) :
    Calls Tryz.prog 163 #[.slice a l.length c, .slice a2 l.length c2] w (Gives w (.bool true)) := by
  have hmx := hs.max
  obtain ⟨n, hn⟩ : ∃ n, l.length = n := ⟨_, rfl⟩
  rw [hn] at hmx
  rw [hn]
  have HN := Lib.hid hn; clear hn
  have kn : ((n : Int) != (n : Int)) = false := by simp
  go_enter Tryz.func163, Tryz.ntmps163
  go_wp2_with (first | ((with_reducible refine wp_region_later (by kernel_rfl) (by kernel_rfl) ?_); (repeat (first | go_big_quiet_step (first | fail) | simp only [kn])); refine wpQuiet_nil ?_; rintro _ ⟨x, rfl⟩))
  go_loopw [5] (fun v wr => ∃ k : Nat, v = .int .i64 k ∧ k ≤ n ∧ ∃ x : Later w, wr = x.w) (fun v _ => (n - intOf v).toNat)
  case atStart => exact ⟨0, rfl, by omega, Later.of⟩
  case round =>
    obtain ⟨k, rfl, hk, x, rfl⟩ := hrel
    by_cases h : k < n
    · have hlk : k < l.length := by have := HN.out; omega
      obtain ⟨eb, eoff, ex, rfl, ehb, ehd, eok, eh0, eh1, eh2, eh3, eh4⟩ := hs.atTWaiting (show k < l.length by omega)
      obtain ⟨fb, foff, fx, rfl, fhb, fhd, fok, fh0, fh1, fh2, fh3, fh4⟩ := hs2.atTWaiting (show k < l.length by omega)
      obtain rfl : ex = fx := by have := ehd.out.symm.trans fhd.out; simpa using this
      clear ehd fhd hlk hs hs2
      have ce : ∀ {W : World} [Grows w W], Calls Tryz.prog 180 #[.agg #[.int .i64 ex.Number, .int .i64 ex.Order.Kind, .int .i64 ex.Order.At, .int .i64 ex.Order.A, .int .i64 ex.Order.B], .agg #[.int .i64 ex.Number, .int .i64 ex.Order.Kind, .int .i64 ex.Order.At, .int .i64 ex.Order.A, .int .i64 ex.Order.B]] W (Gives W (.bool true)) := fun {W} _ => d_leqWaiting (B := 0) (B2 := 0) (x := ex) ⟨rfl, eok⟩ ⟨rfl, fok⟩
      clear eok fok
      go_wp2_with (first | ((with_reducible refine wp_region_later (by kernel_rfl) (by kernel_rfl) ?_); (repeat (first | go_big_quiet_step (first | (go_at_call 180; exact Gives.quiet (ce))))); refine wpQuiet_nil ?_; rintro _ ⟨x, rfl⟩) | (go_at_call 180; refine (ce).mono ?_; rintro _ _ ⟨rfl, x, rfl⟩))
      go_roundw
      case rel => exact ⟨k + 1, by go_num, by omega, Later.of⟩
      case measure => simp [intOf]; omega
    · go_wp2_with (first | ((with_reducible refine wp_region_later (by kernel_rfl) (by kernel_rfl) ?_); (repeat (first | go_big_quiet_step (first | fail))); refine wpQuiet_nil ?_; rintro _ ⟨x, rfl⟩))
      go_ret
      exact Gives.mk rfl

end Go.Proofs.YtdankjbkioepgaaGreat

namespace Go.Proofs.YtdankjbkioepgaaGreat
set_option linter.unusedVariables false
open Go.ChangeShapes Go.WideShapes Go.ChangeAt Go.RowKit

def recV (x : TRecord) : Value := .agg #[.int .i64 x.Id, .int .i64 x.Priority, .int .i64 x.Time, .string x.Data]
def recEq (x y : TRecord) : Bool := (x.Id == y.Id) && ((x.Priority == y.Priority) && ((x.Time == y.Time) && (x.Data.toList == y.Data.toList)))
theorem recEq_eq {x y : TRecord} (h : recEq x y = true) : x = y := by
  simp only [recEq, Bool.and_eq_true, beq_iff_eq] at h
  obtain ⟨h1, h2, h3, h4⟩ := h
  have h5 : x.Data = y.Data := by
    rw [ByteArray.toList_eq, ByteArray.toList_eq] at h4
    cases x; cases y
    rename_i a _ _ _ b
    simp only at h4 ⊢
    exact ByteArray.ext (Array.ext' h4)
  cases x; cases y
  simp_all

theorem run_recEq (x y : TRecord) (d : Nat) (w : World) : (Op.equalIn (d + 2) 124 (recV x) (recV y)).run Tryz.prog w = .ok (recEq x y) w := by
  have hu := Tryz.underlying124
  rw [recV, recV, show d + 2 = (d + 1) + 1 from rfl, run_equalIn_struct w (d + 1) _ _ _ (by kernel_rfl) (by kernel_rfl)]
  cases h1 : (x.Id == y.Id)
  · simp [go_sem, h1, recEq]
  cases h2 : (x.Priority == y.Priority)
  · simp [go_sem, h1, h2, recEq]
  cases h3 : (x.Time == y.Time)
  · simp [go_sem, h1, h2, h3, recEq]
  cases h4 : (x.Data.toList == y.Data.toList)
  · have h5 : ¬ x.Data.toList = y.Data.toList := by simpa using h4
    simp [go_sem, h1, h2, h3, h5, recEq]
  · have h5 : x.Data.toList = y.Data.toList := by simpa using h4
    simp [go_sem, h1, h2, h3, h5, recEq]

def Ents : List MapEntry → List TRecord → Prop
  | [], [] => True
  | e :: es, r :: rs => (e.key = recV r ∧ e.val = .bool true) ∧ Ents es rs
  | _, _ => False
def idxR (x : TRecord) : List TRecord → Nat → Option Nat
  | [], _ => none
  | r :: rs, i => if recEq x r = true then some i else idxR x rs (i + 1)
theorem run_findAsk (x : TRecord) (w : World) : ∀ (es : List MapEntry) (rs : List TRecord) (i : Nat), Ents es rs →
    (Instr.findAsking 124 (recV x) es i).run Tryz.prog w = .ok ((idxR x rs i).map (fun j => (j, Value.bool true))) w
  | [], [], i, _ => rfl
  | [], _ :: _, _, h => h.elim
  | _ :: _, [], _, h => h.elim
  | e :: es, r :: rs, i, h => by
    obtain ⟨⟨h1, h2⟩, h3⟩ := h
    have he : (Op.equal 124 (recV x) e.key).run Tryz.prog w = .ok (recEq x r) w := by rw [h1]; exact run_recEq x r 9998 w
    rw [Instr.findAsking, Sem.run_bind, he, Result.andThen_ok, idxR]
    cases hr : recEq x r
    · simp only [Bool.false_eq_true, if_false]
      exact run_findAsk x w es rs (i + 1) h3
    · simp only [if_true, h2]
      rfl
theorem run_findR (x : TRecord) (w : World) {es : List MapEntry} {rs : List TRecord} (h : Ents es rs) :
    (Instr.findKey 124 (recV x) es).run Tryz.prog w = .ok ((idxR x rs 0).map (fun j => (j, Value.bool true))) w := by
  rw [Instr.findKey, Sem.run_bind, run_underlying Tryz.underlying124, Result.andThen_ok]
  cases es with
  | nil => cases rs with
    | nil => rfl
    | cons r rs => exact h.elim
  | cons e es =>
    rw [show ∀ d, Instr.findNow (.struct d) (recV x) (e :: es) 0 = none from fun d => by rw [Instr.findNow]; simp [Instr.sameNow]]
    exact run_findAsk x w (e :: es) rs 0 h
theorem run_keyR (b : Bool) (x : TRecord) (d : Nat) (w : World) : (Instr.checkKey b (d + 2) 124 (recV x)).run Tryz.prog w = .ok () w := by
  have hu := Tryz.underlying124
  have h3 := Tryz.underlying3
  have h9 := Tryz.underlying9
  rw [recV, show d + 2 = (d + 1) + 1 from rfl, Instr.checkKey, Sem.run_bind, run_underlying hu, Result.andThen_ok]
  simp [go_sem, Instr.checkKey]

/-- Where a map's entries are these records. -/
def MapR (w : World) (b : Nat) (rs : List TRecord) : Prop := ∃ es clock, w.heap[b]? = some (.map es clock) ∧ Ents es.toList rs
theorem MapR.lt {w : World} {b : Nat} {rs : List TRecord} (h : MapR w b rs) : b < w.heap.size := by
  obtain ⟨es, c, h, -⟩ := h
  exact (Array.getElem?_eq_some_iff.1 h).1
theorem MapR.to {w W : World} {b : Nat} {rs : List TRecord} (h : MapR w b rs) (g : Grows w W) : MapR W b rs := by
  have hl := h.lt
  obtain ⟨es, c, h, h2⟩ := h
  exact ⟨es, c, by rw [g.out.block b hl]; exact h, h2⟩
theorem run_lookupR {w : World} {b : Nat} {rs : List TRecord} (h : MapR w b rs) (x : TRecord) :
    (Instr.lookup 127 (.map (some b)) (recV x) false).run Tryz.prog w = .ok (.bool (rs.any (recEq x))) w := by
  obtain ⟨es, c, h1, h2⟩ := h
  have hany : ∀ (rs : List TRecord) (i : Nat), (idxR x rs i).isSome = rs.any (recEq x) := by
    intro rs
    induction rs with
    | nil => intro i; rfl
    | cons r rs ih => intro i; rw [idxR, List.any_cons]; cases hr : recEq x r <;> simp [ih]
  have hg : (getObj b).run Tryz.prog w = .ok (.map es c) w := by simp [getObj, Sem.run, h1]
  rw [Instr.lookup, Sem.run_bind, run_underlying Tryz.underlying127, Result.andThen_ok]
  simp only [Sem.run_bind, hg, Result.andThen_ok, Sem.run_pure, run_keyR _ x 9998 w, run_findR x w h2]
  have := hany rs 0
  cases hi : idxR x rs 0 with
  | none => rw [hi] at this; rw [← this]; simp [go_sem]
  | some j => rw [hi] at this; rw [← this]; simp [go_sem]

theorem idxR_some {x : TRecord} : ∀ {rs : List TRecord} {i j : Nat}, idxR x rs i = some j → i ≤ j ∧ rs[j - i]? = some x
  | [], _, _, h => by cases h
  | r :: rs, i, j, h => by
    rw [idxR] at h
    split at h
    · rename_i hr
      cases h
      rw [recEq_eq hr]
      simp
    · obtain ⟨h1, h2⟩ := idxR_some h
      refine ⟨by omega, ?_⟩
      rw [show j - i = (j - (i + 1)) + 1 from by omega, List.getElem?_cons_succ]
      exact h2
theorem Ents.set {x : TRecord} {q : MapEntry} (hq : q.key = recV x ∧ q.val = .bool true) : ∀ {es : List MapEntry} {rs : List TRecord} {j : Nat}, Ents es rs → rs[j]? = some x → Ents (es.set j q) rs
  | [], [], _, _, h => by cases h
  | [], _ :: _, _, h, _ => h.elim
  | _ :: _, [], _, h, _ => h.elim
  | e :: es, r :: rs, 0, h, hx => by simp at hx; subst hx; exact ⟨hq, h.2⟩
  | e :: es, r :: rs, j + 1, h, hx => by simp at hx; exact ⟨h.1, h.2.set hq hx⟩
theorem Ents.push {x : TRecord} {q : MapEntry} (hq : q.key = recV x ∧ q.val = .bool true) : ∀ {es : List MapEntry} {rs : List TRecord}, Ents es rs → Ents (es ++ [q]) (rs ++ [x])
  | [], [], _ => ⟨hq, trivial⟩
  | [], _ :: _, h => h.elim
  | _ :: _, [], h => h.elim
  | e :: es, r :: rs, h => ⟨h.1, h.2.push hq⟩
def addR (rs : List TRecord) (x : TRecord) : List TRecord := if rs.any (recEq x) = true then rs else rs ++ [x]
theorem anyR (x : TRecord) (rs : List TRecord) : ∀ (i : Nat), (idxR x rs i).isSome = rs.any (recEq x) := by
  induction rs with
  | nil => intro i; rfl
  | cons r rs ih => intro i; rw [idxR, List.any_cons]; cases hr : recEq x r <;> simp [ih]
theorem Ents.get {x : TRecord} : ∀ {es : List MapEntry} {rs : List TRecord} {j : Nat}, Ents es rs → rs[j]? = some x → ∃ e, es[j]? = some e ∧ e.key = recV x ∧ e.val = .bool true
  | [], [], _, _, h => by cases h
  | [], _ :: _, _, h, _ => h.elim
  | _ :: _, [], _, h, _ => h.elim
  | e :: es, r :: rs, 0, h, hx => by simp at hx; subst hx; exact ⟨e, rfl, h.1⟩
  | e :: es, r :: rs, j + 1, h, hx => by simp at hx; exact h.2.get hx
theorem same_recV (x : TRecord) (d : Nat) : Instr.sameBits (d + 2) (recV x) (recV x) = true := by
  have h : ∀ s : ByteArray, (s == s) = true := fun s => by rw [beq_toListBytes]; simp
  simp [recV, Instr.sameBits, h]
theorem run_updateR {w : World} {b : Nat} {rs : List TRecord} (h : MapR w b rs) (x : TRecord) :
    ∃ w', (Instr.mapUpdate 127 (.map (some b)) (recV x) (.bool true)).run Tryz.prog w = .ok () w' ∧ MapR w' b (addR rs x) ∧ ∃ o, w' = { w with heap := w.heap.setIfInBounds b o } := by
  have hb := h.lt
  obtain ⟨es, c, h1, h2⟩ := h
  have hg : (getObj b).run Tryz.prog w = .ok (.map es c) w := by simp [getObj, Sem.run, h1]
  have hs : ∀ o, (setObj b o).run Tryz.prog w = .ok () { w with heap := w.heap.setIfInBounds b o } := fun o => by simp [setObj, Sem.run, h1]
  have ha := anyR x rs 0
  rw [Instr.mapUpdate, Sem.run_bind, run_underlying Tryz.underlying127, Result.andThen_ok]
  simp only [Sem.run_bind, hg, Result.andThen_ok, run_keyR _ x 9998 w, run_findR x w h2]
  cases hi : idxR x rs 0 with
  | none =>
    rw [hi] at ha
    simp only [Option.map_none]
    refine ⟨_, hs _, ⟨_, _, by simp [hb]; exact ⟨rfl, rfl⟩, ?_⟩, _, rfl⟩
    rw [addR, ← ha, if_neg (by simp), Array.toList_push]
    exact h2.push ⟨rfl, rfl⟩
  | some j =>
    rw [hi] at ha
    obtain ⟨-, hj⟩ := idxR_some hi
    rw [Nat.sub_zero] at hj
    obtain ⟨e, he, hk, hv⟩ := h2.get hj
    have hke : ((es[j]?).map (·.key)).getD (recV x) = recV x := by
      rw [← Array.getElem?_toList, he]; exact hk
    simp only [Option.map_some, Sem.run_bind, hke, Instr.keyThatStays, same_recV x 9998, if_true, Sem.run_pure, Result.andThen_ok]
    refine ⟨_, hs _, ⟨_, _, by simp [hb]; exact ⟨rfl, rfl⟩, ?_⟩, _, rfl⟩
    rw [addR, ← ha, if_pos (by simp), Array.toList_modify]
    have hl : j < es.toList.length := (List.getElem?_eq_some_iff.1 he).1
    have hm : ∀ (l : List MapEntry) (j : Nat) (e : MapEntry) (f : MapEntry → MapEntry), l[j]? = some e → l.modify j f = l.set j (f e) := by
      intro l
      induction l with
      | nil => intro j e f h; cases h
      | cons a l ih =>
        intro j e f h
        cases j with
        | zero => simp at h; subst h; rfl
        | succ j => simp at h; simp [ih j e f h]
    rw [hm _ _ e _ he]
    exact h2.set ⟨rfl, rfl⟩ hj

end Go.Proofs.YtdankjbkioepgaaGreat

namespace Go.Proofs.YtdankjbkioepgaaGreat
set_option linter.unusedVariables false
open Go.ChangeShapes Go.WideShapes Go.ChangeAt Go.RowKit

def flightOk (x : TFlight) : Bool := inB x.At 0 1000050 && inB x.Data.size 1 404
def flightsOk (l : List TFlight) : Bool := decide (l.length ≤ 1000) && l.all flightOk
def recordsOk (l : List TRecord) : Bool := decide (l.length ≤ 5000) && l.all recordOk

theorem k_iflightsOk {B : Nat} {a : Option Addr} {c : Nat} {l : List TFlight} {w : World} (hs : RdS B w a c l) (hm : l.length ≤ 1048576) :
    Calls Tryz.prog 73 #[.slice a l.length c] w (Gives w (.bool (flightsOk l))) := by
  obtain ⟨n, hn⟩ : ∃ n, l.length = n := ⟨_, rfl⟩
  have HN := Lib.hid hn
  have HD := Lib.hid (show flightsOk l = (decide (n ≤ 1000) && l.all flightOk) by rw [flightsOk, hn])
  rw [hn] at hm ⊢
  clear hn
  by_cases hmx : n ≤ 1000
  · go_enter Tryz.func73, Tryz.ntmps73
    go_wp2_with (first | ((with_reducible refine wp_region_later (by kernel_rfl) (by kernel_rfl) ?_); (repeat (first | go_big_quiet_step (first | fail))); refine wpQuiet_nil ?_; rintro _ ⟨x, rfl⟩))
    go_loopw [10] (fun v wr => ∃ k : Nat, v = .int .i64 k ∧ k ≤ n ∧ Hid ((l.drop k).all flightOk = l.all flightOk) ∧ ∃ x : Later w, wr = x.w) (fun v _ => (n - intOf v).toNat)
    case atStart => exact ⟨0, rfl, by omega, rfl, Later.of⟩
    case round =>
      obtain ⟨k, rfl, hk, HV, x, rfl⟩ := hrel
      by_cases h : k < n
      · have hkl : k < l.length := by have := HN.out; omega
        obtain ⟨eb, eoff, ex, rfl, ehb, ehd, eok, eh0, eh1⟩ := hs.atTFlight hkl
        have hz : ex.Data.size ≤ 9223372036854775807 := eok.2.1
        have EOK := Lib.hid eok; clear eok hkl
        cases hg : flightOk ex
        · have HF := Lib.hid (show l.all flightOk = false by have := HV.out; rw [ehd.out, List.all_cons, hg] at this; rw [← this]; rfl)
          cases c1 : inB ex.At 0 1000050
          · clear hg
            go_wp2_with (first | ((with_reducible refine wp_region_later (by kernel_rfl) (by kernel_rfl) ?_); (repeat (first | go_big_quiet_step (first | (go_at_call 69; exact Gives.quiet (c_ibetween))) | simp only [c1])); refine wpQuiet_nil ?_; rintro _ ⟨x, rfl⟩) | (go_at_call 69; refine (c_ibetween).mono ?_; rintro _ _ ⟨rfl, x, rfl⟩))
            go_ret
            exact Gives.mk (by rw [HD.out, HF.out, Bool.and_false]; rfl)
          · have c2 : inB ex.Data.size 1 404 = false := by rw [flightOk, c1] at hg; exact hg
            clear hg
            go_wp2_with (first | ((with_reducible refine wp_region_later (by kernel_rfl) (by kernel_rfl) ?_); (repeat (first | go_big_quiet_step (first | (go_at_call 69; exact Gives.quiet (c_ibetween))) | simp only [c1] | simp only [c2])); refine wpQuiet_nil ?_; rintro _ ⟨x, rfl⟩) | (go_at_call 69; refine (c_ibetween).mono ?_; rintro _ _ ⟨rfl, x, rfl⟩))
            go_ret
            exact Gives.mk (by rw [HD.out, HF.out, Bool.and_false]; rfl)
        · have HF := Lib.hid (show (l.drop (k + 1)).all flightOk = l.all flightOk by have := HV.out; rw [ehd.out, List.all_cons, hg, Bool.true_and] at this; exact this)
          have c1 : inB ex.At 0 1000050 = true := by simp only [flightOk, Bool.and_eq_true] at hg; exact hg.1
          have c2 : inB ex.Data.size 1 404 = true := by simp only [flightOk, Bool.and_eq_true] at hg; exact hg.2
          clear hg
          go_wp2_with (first | ((with_reducible refine wp_region_later (by kernel_rfl) (by kernel_rfl) ?_); (repeat (first | go_big_quiet_step (first | (go_at_call 69; exact Gives.quiet (c_ibetween))) | simp only [c1] | simp only [c2])); refine wpQuiet_nil ?_; rintro _ ⟨x, rfl⟩) | (go_at_call 69; refine (c_ibetween).mono ?_; rintro _ _ ⟨rfl, x, rfl⟩))
          go_roundw
          case rel => exact ⟨k + 1, by go_num, by omega, HF, Later.of⟩
          case measure => simp [intOf]; omega
      · have HF := Lib.hid (show l.all flightOk = true by have := HV.out; rw [List.drop_of_length_le (by have := HN.out; omega)] at this; rw [← this]; rfl)
        go_wp2_with (first | ((with_reducible refine wp_region_later (by kernel_rfl) (by kernel_rfl) ?_); (repeat (first | go_big_quiet_step (first | fail))); refine wpQuiet_nil ?_; rintro _ ⟨x, rfl⟩))
        go_ret
        exact Gives.mk (by rw [HD.out, HF.out, decide_eq_true hmx]; rfl)
  · go_enter Tryz.func73, Tryz.ntmps73
    go_wp2_with (first | ((with_reducible refine wp_region_later (by kernel_rfl) (by kernel_rfl) ?_); (repeat (first | go_big_quiet_step (first | fail))); refine wpQuiet_nil ?_; rintro _ ⟨x, rfl⟩))
    go_ret
    exact Gives.mk (by rw [HD.out, decide_eq_false hmx]; rfl)

theorem k_irecordsOk {B : Nat} {a : Option Addr} {c : Nat} {l : List TRecord} {w : World} (hs : RdS B w a c l) (hm : l.length ≤ 1048576) :
    Calls Tryz.prog 133 #[.slice a l.length c] w (Gives w (.bool (recordsOk l))) := by
  obtain ⟨n, hn⟩ : ∃ n, l.length = n := ⟨_, rfl⟩
  have HN := Lib.hid hn
  have HD := Lib.hid (show recordsOk l = (decide (n ≤ 5000) && l.all recordOk) by rw [recordsOk, hn])
  rw [hn] at hm ⊢
  clear hn
  by_cases hmx : n ≤ 5000
  · go_enter Tryz.func133, Tryz.ntmps133
    go_wp2_with (first | ((with_reducible refine wp_region_later (by kernel_rfl) (by kernel_rfl) ?_); (repeat (first | go_big_quiet_step (first | fail))); refine wpQuiet_nil ?_; rintro _ ⟨x, rfl⟩))
    go_loopw [10] (fun v wr => ∃ k : Nat, v = .int .i64 k ∧ k ≤ n ∧ Hid ((l.drop k).all recordOk = l.all recordOk) ∧ ∃ x : Later w, wr = x.w) (fun v _ => (n - intOf v).toNat)
    case atStart => exact ⟨0, rfl, by omega, rfl, Later.of⟩
    case round =>
      obtain ⟨k, rfl, hk, HV, x, rfl⟩ := hrel
      by_cases h : k < n
      · have hkl : k < l.length := by have := HN.out; omega
        obtain ⟨eb, eoff, ex, rfl, ehb, ehd, eok, eh0, eh1, eh2, eh3⟩ := hs.atTRecord hkl
        have hz : ex.Data.size ≤ 9223372036854775807 := eok.2.2.2.1
        have EOK := Lib.hid eok; clear eok hkl
        cases hg : recordOk ex
        · have HF := Lib.hid (show l.all recordOk = false by have := HV.out; rw [ehd.out, List.all_cons, hg] at this; rw [← this]; rfl)
          go_wp2_with (first | ((with_reducible refine wp_region_later (by kernel_rfl) (by kernel_rfl) ?_); (repeat (first | go_big_quiet_step (first | (go_at_call 170; exact Gives.quiet (k_iRecordOk (by omega)))) | simp only [hg])); refine wpQuiet_nil ?_; rintro _ ⟨x, rfl⟩) | (go_at_call 170; refine (k_iRecordOk (by omega)).mono ?_; rintro _ _ ⟨rfl, x, rfl⟩))
          go_ret
          exact Gives.mk (by rw [HD.out, HF.out, Bool.and_false]; rfl)
        · have HF := Lib.hid (show (l.drop (k + 1)).all recordOk = l.all recordOk by have := HV.out; rw [ehd.out, List.all_cons, hg, Bool.true_and] at this; exact this)
          go_wp2_with (first | ((with_reducible refine wp_region_later (by kernel_rfl) (by kernel_rfl) ?_); (repeat (first | go_big_quiet_step (first | (go_at_call 170; exact Gives.quiet (k_iRecordOk (by omega)))) | simp only [hg])); refine wpQuiet_nil ?_; rintro _ ⟨x, rfl⟩) | (go_at_call 170; refine (k_iRecordOk (by omega)).mono ?_; rintro _ _ ⟨rfl, x, rfl⟩))
          go_roundw
          case rel => exact ⟨k + 1, by go_num, by omega, HF, Later.of⟩
          case measure => simp [intOf]; omega
      · have HF := Lib.hid (show l.all recordOk = true by have := HV.out; rw [List.drop_of_length_le (by have := HN.out; omega)] at this; rw [← this]; rfl)
        go_wp2_with (first | ((with_reducible refine wp_region_later (by kernel_rfl) (by kernel_rfl) ?_); (repeat (first | go_big_quiet_step (first | fail))); refine wpQuiet_nil ?_; rintro _ ⟨x, rfl⟩))
        go_ret
        exact Gives.mk (by rw [HD.out, HF.out, decide_eq_true hmx]; rfl)
  · go_enter Tryz.func133, Tryz.ntmps133
    go_wp2_with (first | ((with_reducible refine wp_region_later (by kernel_rfl) (by kernel_rfl) ?_); (repeat (first | go_big_quiet_step (first | fail))); refine wpQuiet_nil ?_; rintro _ ⟨x, rfl⟩))
    go_ret
    exact Gives.mk (by rw [HD.out, decide_eq_false hmx]; rfl)

theorem k_sflightsOk {B : Nat} {a : Option Addr} {c : Nat} {l : List TFlight} {w : World} (hs : RdS B w a c l) (hm : l.length ≤ 1048576) :
    Calls Tryz.prog 66 #[.slice a l.length c] w (Gives w (.bool (flightsOk l))) := by
  obtain ⟨n, hn⟩ : ∃ n, l.length = n := ⟨_, rfl⟩
  have HN := Lib.hid hn
  have HD := Lib.hid (show flightsOk l = (decide (n ≤ 1000) && l.all flightOk) by rw [flightsOk, hn])
  rw [hn] at hm ⊢
  clear hn
  go_enter Tryz.func66, Tryz.ntmps66
  go_wp2_with (first | ((with_reducible refine wp_region_later (by kernel_rfl) (by kernel_rfl) ?_); (repeat (first | go_big_quiet_step (first | fail))); refine wpQuiet_nil ?_; rintro _ ⟨x, rfl⟩))
  go_loopw [3] (fun v wr => ∃ k : Nat, v = .int .i64 k ∧ k ≤ n ∧ Hid ((l.drop k).all flightOk = l.all flightOk) ∧ ∃ x : Later w, wr = x.w) (fun v _ => (n - intOf v).toNat)
  case atStart => exact ⟨0, rfl, by omega, rfl, Later.of⟩
  case round =>
    obtain ⟨k, rfl, hk, HV, x, rfl⟩ := hrel
    by_cases h : k < n
    · have hkl : k < l.length := by have := HN.out; omega
      obtain ⟨eb, eoff, ex, rfl, ehb, ehd, eok, eh0, eh1⟩ := hs.atTFlight hkl
      have hz : ex.Data.size ≤ 9223372036854775807 := eok.2.1
      have EOK := Lib.hid eok; clear eok hkl
      cases hg : flightOk ex
      · have HF := Lib.hid (show l.all flightOk = false by have := HV.out; rw [ehd.out, List.all_cons, hg] at this; rw [← this]; rfl)
        cases c1 : inB ex.At 0 1000050
        · clear hg
          go_wp2_with (first | ((with_reducible refine wp_region_later (by kernel_rfl) (by kernel_rfl) ?_); (repeat (first | go_big_quiet_step (first | (go_at_call 62; exact Gives.quiet (c_sl01In))) | simp only [c1])); refine wpQuiet_nil ?_; rintro _ ⟨x, rfl⟩) | (go_at_call 62; refine (c_sl01In).mono ?_; rintro _ _ ⟨rfl, x, rfl⟩))
          go_ret
          exact Gives.mk (by rw [HD.out, HF.out, Bool.and_false]; rfl)
        · have c2 : inB ex.Data.size 1 404 = false := by rw [flightOk, c1] at hg; exact hg
          clear hg
          go_wp2_with (first | ((with_reducible refine wp_region_later (by kernel_rfl) (by kernel_rfl) ?_); (repeat (first | go_big_quiet_step (first | (go_at_call 62; exact Gives.quiet (c_sl01In))) | simp only [c1] | simp only [c2])); refine wpQuiet_nil ?_; rintro _ ⟨x, rfl⟩) | (go_at_call 62; refine (c_sl01In).mono ?_; rintro _ _ ⟨rfl, x, rfl⟩))
          go_ret
          exact Gives.mk (by rw [HD.out, HF.out, Bool.and_false]; rfl)
      · have HF := Lib.hid (show (l.drop (k + 1)).all flightOk = l.all flightOk by have := HV.out; rw [ehd.out, List.all_cons, hg, Bool.true_and] at this; exact this)
        have c1 : inB ex.At 0 1000050 = true := by simp only [flightOk, Bool.and_eq_true] at hg; exact hg.1
        have c2 : inB ex.Data.size 1 404 = true := by simp only [flightOk, Bool.and_eq_true] at hg; exact hg.2
        clear hg
        go_wp2_with (first | ((with_reducible refine wp_region_later (by kernel_rfl) (by kernel_rfl) ?_); (repeat (first | go_big_quiet_step (first | (go_at_call 62; exact Gives.quiet (c_sl01In))) | simp only [c1] | simp only [c2])); refine wpQuiet_nil ?_; rintro _ ⟨x, rfl⟩) | (go_at_call 62; refine (c_sl01In).mono ?_; rintro _ _ ⟨rfl, x, rfl⟩))
        go_roundw
        case rel => exact ⟨k + 1, by go_num, by omega, HF, Later.of⟩
        case measure => simp [intOf]; omega
    · have HF := Lib.hid (show l.all flightOk = true by have := HV.out; rw [List.drop_of_length_le (by have := HN.out; omega)] at this; rw [← this]; rfl)
      by_cases hmx : n ≤ 1000
      · have kx : decide ((n : Int) ≤ 1000) = true := by simp; omega
        go_wp2_with (first | ((with_reducible refine wp_region_later (by kernel_rfl) (by kernel_rfl) ?_); (repeat (first | go_big_quiet_step (first | fail) | simp only [kx])); refine wpQuiet_nil ?_; rintro _ ⟨x, rfl⟩))
        go_ret
        exact Gives.mk (by rw [HD.out, HF.out, decide_eq_true hmx]; rfl)
      · have kx : decide ((n : Int) ≤ 1000) = false := by simp; omega
        go_wp2_with (first | ((with_reducible refine wp_region_later (by kernel_rfl) (by kernel_rfl) ?_); (repeat (first | go_big_quiet_step (first | fail) | simp only [kx])); refine wpQuiet_nil ?_; rintro _ ⟨x, rfl⟩))
        go_ret
        exact Gives.mk (by rw [HD.out, HF.out, decide_eq_false hmx]; rfl)

theorem k_srecordsOk {B : Nat} {a : Option Addr} {c : Nat} {l : List TRecord} {w : World} (hs : RdS B w a c l) (hm : l.length ≤ 1048576) :
    Calls Tryz.prog 126 #[.slice a l.length c] w (Gives w (.bool (recordsOk l))) := by
  obtain ⟨n, hn⟩ : ∃ n, l.length = n := ⟨_, rfl⟩
  have HN := Lib.hid hn
  have HD := Lib.hid (show recordsOk l = (decide (n ≤ 5000) && l.all recordOk) by rw [recordsOk, hn])
  rw [hn] at hm ⊢
  clear hn
  go_enter Tryz.func126, Tryz.ntmps126
  go_wp2_with (first | ((with_reducible refine wp_region_later (by kernel_rfl) (by kernel_rfl) ?_); (repeat (first | go_big_quiet_step (first | fail))); refine wpQuiet_nil ?_; rintro _ ⟨x, rfl⟩))
  go_loopw [3] (fun v wr => ∃ k : Nat, v = .int .i64 k ∧ k ≤ n ∧ Hid ((l.drop k).all recordOk = l.all recordOk) ∧ ∃ x : Later w, wr = x.w) (fun v _ => (n - intOf v).toNat)
  case atStart => exact ⟨0, rfl, by omega, rfl, Later.of⟩
  case round =>
    obtain ⟨k, rfl, hk, HV, x, rfl⟩ := hrel
    by_cases h : k < n
    · have hkl : k < l.length := by have := HN.out; omega
      obtain ⟨eb, eoff, ex, rfl, ehb, ehd, eok, eh0, eh1, eh2, eh3⟩ := hs.atTRecord hkl
      have hz : ex.Data.size ≤ 9223372036854775807 := eok.2.2.2.1
      have EOK := Lib.hid eok; clear eok hkl
      cases hg : recordOk ex
      · have HF := Lib.hid (show l.all recordOk = false by have := HV.out; rw [ehd.out, List.all_cons, hg] at this; rw [← this]; rfl)
        go_wp2_with (first | ((with_reducible refine wp_region_later (by kernel_rfl) (by kernel_rfl) ?_); (repeat (first | go_big_quiet_step (first | (go_at_call 167; exact Gives.quiet (k_sRecordOk (by omega)))) | simp only [hg])); refine wpQuiet_nil ?_; rintro _ ⟨x, rfl⟩) | (go_at_call 167; refine (k_sRecordOk (by omega)).mono ?_; rintro _ _ ⟨rfl, x, rfl⟩))
        go_ret
        exact Gives.mk (by rw [HD.out, HF.out, Bool.and_false]; rfl)
      · have HF := Lib.hid (show (l.drop (k + 1)).all recordOk = l.all recordOk by have := HV.out; rw [ehd.out, List.all_cons, hg, Bool.true_and] at this; exact this)
        go_wp2_with (first | ((with_reducible refine wp_region_later (by kernel_rfl) (by kernel_rfl) ?_); (repeat (first | go_big_quiet_step (first | (go_at_call 167; exact Gives.quiet (k_sRecordOk (by omega)))) | simp only [hg])); refine wpQuiet_nil ?_; rintro _ ⟨x, rfl⟩) | (go_at_call 167; refine (k_sRecordOk (by omega)).mono ?_; rintro _ _ ⟨rfl, x, rfl⟩))
        go_roundw
        case rel => exact ⟨k + 1, by go_num, by omega, HF, Later.of⟩
        case measure => simp [intOf]; omega
    · have HF := Lib.hid (show l.all recordOk = true by have := HV.out; rw [List.drop_of_length_le (by have := HN.out; omega)] at this; rw [← this]; rfl)
      by_cases hmx : n ≤ 5000
      · have kx : decide ((n : Int) ≤ 5000) = true := by simp; omega
        go_wp2_with (first | ((with_reducible refine wp_region_later (by kernel_rfl) (by kernel_rfl) ?_); (repeat (first | go_big_quiet_step (first | fail) | simp only [kx])); refine wpQuiet_nil ?_; rintro _ ⟨x, rfl⟩))
        go_ret
        exact Gives.mk (by rw [HD.out, HF.out, decide_eq_true hmx]; rfl)
      · have kx : decide ((n : Int) ≤ 5000) = false := by simp; omega
        go_wp2_with (first | ((with_reducible refine wp_region_later (by kernel_rfl) (by kernel_rfl) ?_); (repeat (first | go_big_quiet_step (first | fail) | simp only [kx])); refine wpQuiet_nil ?_; rintro _ ⟨x, rfl⟩))
        go_ret
        exact Gives.mk (by rw [HD.out, HF.out, decide_eq_false hmx]; rfl)

end Go.Proofs.YtdankjbkioepgaaGreat

namespace Go.Proofs.YtdankjbkioepgaaGreat
set_option linter.unusedVariables false
open Go.ChangeShapes Go.WideShapes Go.ChangeAt Go.RowKit

theorem count_snoc {l : List Int} {k : Nat} {s : Int} {r : List Int} (h : l.drop k = s :: r) (i : Int) : (l.take (k + 1)).count i = (l.take k).count i + (if s = i then 1 else 0) := by
  rw [take_snoc' h, List.count_append]
  simp [List.count_cons]
/-- All of a list are the number 1. -/
theorem allB_one {l : List Int} : ∀ N : Nat, allB 1 1 ((List.range N).map (fun i : Nat => (l.count (i : Int) : Int))) = countsOne l N := by
  have key : ∀ (p : List Nat), allB 1 1 (p.map (fun i : Nat => (l.count (i : Int) : Int))) = p.all (fun i : Nat => decide (l.count (i : Int) = 1)) := by
    intro p
    induction p with
    | nil => rfl
    | cons x r ih =>
      rw [List.map_cons, allB, ih, List.all_cons]
      congr 1
      rw [Bool.eq_iff_iff, inB_iff, decide_eq_true_eq]
      omega
  intro N
  rw [key]
  induction N with
  | zero => rfl
  | succ N ih => rw [List.range_succ, List.all_append, ih, countsOne]; simp

theorem made_zero {n i : Nat} {v : Value} (hv : v.cells = #[v]) (hi : i < n) : (madeCells v.cells (n * 1))[i]? = some v := by
  have h1 : i % 1 = 0 := Nat.mod_one i
  rw [hv]
  simp [madeCells, hi, h1]

set_option maxRecDepth 100000 in
set_option maxHeartbeats 2000000 in
theorem c_ieachOnceN {a : Option Addr} {n c : Nat} {l : List Int} {w : World} (hs : Sl encInt w a l) (hn : l.length = n) (hm : n ≤ 4194304) :
    Calls Tryz.prog 50 #[.slice a n c, .int .i64 n] w (Gives w (.bool (countsOne l n))) := by
  have hmx : max (n : Int) 0 = (n : Int) := by omega
  have k1 : ((n : Int) != (n : Int)) = false := by simp
  obtain ⟨C, hC, hmk⟩ := run_mk (P := Tryz.prog) Tryz.underlying46 (e := 3) (z := .int .i64 0) (size := 1) (bytes := 8) (by kernel_rfl) n (by omega) (by omega)
  have hCz : C.size = n := by rw [hC, size_madeCells, Nat.mul_one]
  have HC := Lib.hid (show ∀ i, i < n → C[i]? = some (.int .i64 0) from fun i hi => by rw [hC]; exact made_zero rfl hi)
  clear hC
  go_enter Tryz.func50, Tryz.ntmps50
  go_wp2_with (first | ((with_reducible refine wp_region_later (by kernel_rfl) (by kernel_rfl) ?_); (repeat (first | go_big_quiet_step (first | fail) | simp only [hmx] | simp only [k1])); refine wpQuiet_nil ?_; rintro _ ⟨x, rfl⟩))
  clear hmk
  go_loopw [18] (fun v wr => ∃ k : Nat, v = .int .i64 k ∧ k ≤ n ∧ ∃ (D : Array Value) (x : Later (w.alloc (.cells D 3))), D.size = n ∧ Hid (∀ i, i < n → D[i]? = some (.int .i64 ((l.take k).count (i : Int)))) ∧ wr = x.w) (fun v _ => (n - intOf v).toNat)
  case atStart => exact ⟨0, rfl, by omega, C, Later.here _, hCz, (fun i hi => by rw [HC.out i hi]; rfl), rfl⟩
  case round =>
    obtain ⟨k, rfl, hk, D, X, hDz, hf, rfl⟩ := hrel
    by_cases h : k < n
    · obtain ⟨b, off, s, rfl, hb, hd, h0⟩ := hs.int (show k < l.length by omega)
      cases c1 : inB s 0 ((n : Int) - 1)
      · have HF := Lib.hid (show ∀ i, i < n → D[i]? = some (.int .i64 ((l.take (k + 1)).count (i : Int))) from fun i hi => by
          have hne : ¬ s = (i : Int) := fun e => by
            have h2 : inB s 0 ((n : Int) - 1) = true := inB_iff.2 (by omega)
            rw [c1] at h2; cases h2
          rw [hf.out i hi, count_snoc hd.out, if_neg hne]; rfl)
        clear hf
        go_wp2_with (first | ((with_reducible refine wp_region_later (by kernel_rfl) (by kernel_rfl) ?_); (repeat (first | go_big_quiet_step (first | (go_at_call 69; exact Gives.quiet (c_ibetween))) | simp only [c1])); refine wpQuiet_nil ?_; rintro _ ⟨x, rfl⟩) | (go_at_call 69; refine (c_ibetween).mono ?_; rintro _ _ ⟨rfl, x, rfl⟩))
        go_roundw
        case rel => exact ⟨k + 1, by go_num, by omega, D, X.andThen x, hDz, HF, rfl⟩
        case measure => simp [intOf]; omega
      · have ⟨hs1, hs2⟩ := inB_iff.1 c1
        obtain ⟨j, rfl⟩ := Int.eq_ofNat_of_zero_le hs1
        have hj : j < n := by omega
        have g0 := hf.out j hj
        have hcl : (l.take k).count (j : Int) ≤ n := Nat.le_trans List.count_le_length (by rw [List.length_take]; omega)
        obtain ⟨q, hq⟩ : ∃ q, (l.take k).count (j : Int) = q := ⟨_, rfl⟩
        rw [hq] at g0 hcl
        have HQ := Lib.hid hq; clear hq
        obtain ⟨hjD, g1⟩ := Array.getElem?_eq_some_iff.1 g0
        clear hs1 hs2
        go_wp2_with (first | ((with_reducible refine wp_region_later (by kernel_rfl) (by kernel_rfl) ?_); (repeat (first | go_big_quiet_step (first | (go_at_call 69; exact Gives.quiet (c_ibetween))) | simp only [c1])); refine wpQuiet_nil ?_; rintro _ ⟨x, rfl⟩) | (go_at_call 69; refine (c_ibetween).mono ?_; rintro _ _ ⟨rfl, x, rfl⟩))
        go_roundw
        case rel =>
          obtain ⟨x2, hx2⟩ := Later.set1_at (X.andThen x) j (.int .i64 ((q : Int) + 1))
          refine ⟨k + 1, by go_num, by omega, D.setIfInBounds j (.int .i64 ((q : Int) + 1)), x2, by simpa using hDz, (fun i hi => ?_), by rw [← hx2]⟩
          rw [count_snoc hd.out]
          by_cases hji : j = i
          · subst hji
            rw [Array.getElem?_setIfInBounds_self_of_lt (by omega), HQ.out, if_pos rfl]; rfl
          · rw [Array.getElem?_setIfInBounds_ne hji, hf.out i hi, if_neg (by omega)]; rfl
        case measure => simp [intOf]; omega
    · have hkn : l.take k = l := List.take_of_length_le (by omega)
      rw [hkn] at hf
      have hsl : Sl encInt X.w (some ⟨w.heap.size, 0, none⟩) ((List.range n).map (fun i : Nat => (l.count (i : Int) : Int))) := fun i y hy => by
        have hi : i < n := by have := (List.getElem?_eq_some_iff.1 hy).1; simpa using this
        have hy2 : y = (l.count (i : Int) : Int) := by simpa [hi] using hy.symm
        subst hy2
        refine ⟨w.heap.size, 0, rfl, (LtN.out (a := w.heap.size)), fun j v hv => ?_⟩
        have hj : j = 0 := by have := (List.getElem?_eq_some_iff.1 hv).1; simp [encInt] at this; exact this
        subst hj
        rw [X.h.cell (p := ⟨w.heap.size, _, none⟩) (by simp), World.cell?_alloc_at _ _ _ _ rfl, encInt_len, Nat.mul_one, Nat.zero_add, Nat.add_zero, hf.out i hi]
        simpa [encInt] using hv
      have HV := Lib.hid (allB_one (l := l) n)
      go_wp2_with (first | ((with_reducible refine wp_region_later (by kernel_rfl) (by kernel_rfl) ?_); (repeat (first | go_big_quiet_step (first | fail))); refine wpQuiet_nil ?_; rintro _ ⟨x, rfl⟩))
      refine (c_iallBetween (hsl.to inferInstance) (by simp) (by omega)).mono ?_
      rintro _ _ ⟨rfl, y, rfl⟩
      rw [HV.out]
      go_wp2_with (first | ((with_reducible refine wp_region_later (by kernel_rfl) (by kernel_rfl) ?_); (repeat (first | go_big_quiet_step (first | fail))); refine wpQuiet_nil ?_; rintro _ ⟨x, rfl⟩))
      go_ret
      exact Gives.mk rfl

set_option maxRecDepth 100000 in
set_option maxHeartbeats 2000000 in
theorem c_sl09OnceN {a : Option Addr} {n c : Nat} {l : List Int} {w : World} (hs : Sl encInt w a l) (hn : l.length = n) (hm : n ≤ 4194304) :
    Calls Tryz.prog 49 #[.slice a n c, .int .i64 n] w (Gives w (.bool (onceGo n [] l))) := by
  have hmx : max (n : Int) 0 = (n : Int) := by omega
  have k1 : ((n : Int) != (n : Int)) = false := by simp
  obtain ⟨C, hC, hmk⟩ := run_mk (P := Tryz.prog) Tryz.underlying41 (e := 4) (z := .bool false) (size := 1) (bytes := 1) (by kernel_rfl) n (by omega) (by omega)
  have hCz : C.size = n := by rw [hC, size_madeCells, Nat.mul_one]
  have HC := Lib.hid (show ∀ i, i < n → C[i]? = some (.bool false) from fun i hi => by rw [hC]; exact made_zero rfl hi)
  clear hC
  go_enter Tryz.func49, Tryz.ntmps49
  go_wp2_with (first | ((with_reducible refine wp_region_later (by kernel_rfl) (by kernel_rfl) ?_); (repeat (first | go_big_quiet_step (first | fail) | simp only [hmx] | simp only [k1])); refine wpQuiet_nil ?_; rintro _ ⟨x, rfl⟩))
  clear hmk
  go_loopw [6] (fun v wr => ∃ k : Nat, v = .int .i64 k ∧ k ≤ n ∧ ∃ (D : Array Value) (seen : List Int) (x : Later (w.alloc (.cells D 4))), D.size = n ∧ Hid (∀ i : Nat, i < n → D[i]? = some (.bool (seen.contains (i : Int)))) ∧ Hid (onceGo n seen (l.drop k) = onceGo n [] l) ∧ wr = x.w) (fun v _ => (n - intOf v).toNat)
  case atStart => exact ⟨0, rfl, by omega, C, [], Later.here _, hCz, (fun i hi => by rw [HC.out i hi]; rfl), rfl, rfl⟩
  case round =>
    obtain ⟨k, rfl, hk, D, seen, X, hDz, hf, hg, rfl⟩ := hrel
    by_cases h : k < n
    · obtain ⟨b, off, s, rfl, hb, hd, h0⟩ := hs.int (show k < l.length by omega)
      have HG := Lib.hid (show (inB s 0 ((n : Int) - 1) && (!(seen.contains s) && onceGo n (s :: seen) (l.drop (k + 1)))) = onceGo n [] l by have := hg.out; rw [hd.out, onceGo] at this; exact this)
      clear hg hd
      cases c1 : inB s 0 ((n : Int) - 1)
      · have HF := Lib.hid (show onceGo n [] l = false by rw [← HG.out, c1]; rfl)
        go_wp2_with (first | ((with_reducible refine wp_region_later (by kernel_rfl) (by kernel_rfl) ?_); (repeat (first | go_big_quiet_step (first | (go_at_call 62; exact Gives.quiet (c_sl01In))) | simp only [c1])); refine wpQuiet_nil ?_; rintro _ ⟨x, rfl⟩) | (go_at_call 62; refine (c_sl01In).mono ?_; rintro _ _ ⟨rfl, x, rfl⟩))
        go_ret
        exact Gives.mk (by rw [HF.out]; rfl)
      · have ⟨hs1, hs2⟩ := inB_iff.1 c1
        obtain ⟨j, rfl⟩ := Int.eq_ofNat_of_zero_le hs1
        have hj : j < n := by omega
        have g0 := hf.out j hj
        cases c2 : seen.contains (j : Int)
        · have HF := Lib.hid (show onceGo n ((j : Int) :: seen) (l.drop (k + 1)) = onceGo n [] l by rw [← HG.out, c1, c2]; rfl)
          rw [c2] at g0
          obtain ⟨hjD, g1⟩ := Array.getElem?_eq_some_iff.1 g0
          clear hs1 hs2 c2 HG
          go_wp2_with (first | ((with_reducible refine wp_region_later (by kernel_rfl) (by kernel_rfl) ?_); (repeat (first | go_big_quiet_step (first | (go_at_call 62; exact Gives.quiet (c_sl01In))) | simp only [c1])); refine wpQuiet_nil ?_; rintro _ ⟨x, rfl⟩) | (go_at_call 62; refine (c_sl01In).mono ?_; rintro _ _ ⟨rfl, x, rfl⟩))
          go_roundw
          case rel =>
            obtain ⟨x2, hx2⟩ := Later.set1_at (X.andThen x) j (.bool true)
            refine ⟨k + 1, by go_num, by omega, D.setIfInBounds j (.bool true), (j : Int) :: seen, x2, by simpa using hDz, (fun i hi => ?_), HF, by rw [← hx2]⟩
            by_cases hji : j = i
            · subst hji
              rw [Array.getElem?_setIfInBounds_self_of_lt (by omega)]
              simp
            · have hne : ¬ (i : Int) = (j : Int) := by omega
              rw [Array.getElem?_setIfInBounds_ne hji, hf.out i hi]
              simp [hne]
          case measure => simp [intOf]; omega
        · have HF := Lib.hid (show onceGo n [] l = false by rw [← HG.out, c1, c2]; rfl)
          rw [c2] at g0
          obtain ⟨hjD, g1⟩ := Array.getElem?_eq_some_iff.1 g0
          clear hs1 hs2 c2 HG
          go_wp2_with (first | ((with_reducible refine wp_region_later (by kernel_rfl) (by kernel_rfl) ?_); (repeat (first | go_big_quiet_step (first | (go_at_call 62; exact Gives.quiet (c_sl01In))) | simp only [c1])); refine wpQuiet_nil ?_; rintro _ ⟨x, rfl⟩) | (go_at_call 62; refine (c_sl01In).mono ?_; rintro _ _ ⟨rfl, x, rfl⟩))
          go_ret
          exact Gives.mk (by rw [HF.out]; rfl)
    · have HF := Lib.hid (show onceGo n [] l = true by have := hg.out; rw [List.drop_of_length_le (by omega), onceGo] at this; exact this.symm)
      go_wp2_with (first | ((with_reducible refine wp_region_later (by kernel_rfl) (by kernel_rfl) ?_); (repeat (first | go_big_quiet_step (first | fail))); refine wpQuiet_nil ?_; rintro _ ⟨x, rfl⟩))
      go_ret
      exact Gives.mk (by rw [HF.out]; rfl)

set_option maxRecDepth 100000 in
set_option maxHeartbeats 2000000 in
theorem c_ieachOnce {a : Option Addr} {n c : Nat} {t : Int} {l : List Int} {w : World} (hs : Sl encInt w a l) (hn : l.length = n) (hm : n ≤ 4194304) :
    Calls Tryz.prog 50 #[.slice a n c, .int .i64 t] w (Gives w (.bool (once l t))) := by
  by_cases hN : t = (n : Int)
  · subst hN
    rw [show once l (n : Int) = countsOne l n by simp [once, hn]]
    exact c_ieachOnceN hs hn hm
  by_cases h0 : t < 0 ∧ n = 0
  · obtain ⟨h1, rfl⟩ := h0
    have hmx : max t 0 = 0 := by omega
    have hl : l = [] := List.length_eq_zero_iff.1 hn
    have HV := Lib.hid (show once l t = true by rw [once, hl, show t.toNat = 0 by omega]; rfl)
    clear hN
    have hmk : ∀ w : World, (Instr.makeSlice 46 (.int .i64 0) (.int .i64 0)).run Tryz.prog w = .ok (.slice (some ⟨w.heap.size, 0, none⟩) 0 0) (w.alloc (.cells #[] 3)) := fun w => by kernel_rfl
    go_enter Tryz.func50, Tryz.ntmps50
    go_wp2_with (first | ((with_reducible refine wp_region_later (by kernel_rfl) (by kernel_rfl) ?_); (repeat (first | go_big_quiet_step (first | fail) | simp only [hmx])); refine wpQuiet_nil ?_; rintro _ ⟨x, rfl⟩))
    refine wp_loop_rounds 1 ?_
    rw [rounds_succ]
    go_wp2_with (first | ((with_reducible refine wp_region_later (by kernel_rfl) (by kernel_rfl) ?_); (repeat (first | go_big_quiet_step (first | fail))); refine wpQuiet_nil ?_; rintro _ ⟨x, rfl⟩))
    refine (c_iallBetween (l := []) (n := 0) (Sl.nil) rfl (by omega)).mono ?_
    rintro _ _ ⟨rfl, y, rfl⟩
    go_wp2_with (first | ((with_reducible refine wp_region_later (by kernel_rfl) (by kernel_rfl) ?_); (repeat (first | go_big_quiet_step (first | fail))); refine wpQuiet_nil ?_; rintro _ ⟨x, rfl⟩))
    go_ret
    exact Gives.mk (by rw [HV.out]; rfl)
  · have HV := Lib.hid (show once l t = false by rw [once, hn, decide_eq_false (by omega)]; rfl)
    by_cases ht : t < 0
    · have hT : max t 0 = 0 := by omega
      have hne : ((n : Int) != 0) = true := by simp; omega
      clear hN h0
      go_enter Tryz.func50, Tryz.ntmps50
      go_wp2_with (first | ((with_reducible refine wp_region_later (by kernel_rfl) (by kernel_rfl) ?_); (repeat (first | go_big_quiet_step (first | fail) | simp only [hT] | simp only [hne])); refine wpQuiet_nil ?_; rintro _ ⟨x, rfl⟩))
      go_ret
      exact Gives.mk (by rw [HV.out]; rfl)
    · have hT : max t 0 = t := by omega
      have hne : ((n : Int) != t) = true := by simp; omega
      clear hN h0
      go_enter Tryz.func50, Tryz.ntmps50
      go_wp2_with (first | ((with_reducible refine wp_region_later (by kernel_rfl) (by kernel_rfl) ?_); (repeat (first | go_big_quiet_step (first | fail) | simp only [hT] | simp only [hne])); refine wpQuiet_nil ?_; rintro _ ⟨x, rfl⟩))
      go_ret
      exact Gives.mk (by rw [HV.out]; rfl)

set_option maxRecDepth 100000 in
set_option maxHeartbeats 2000000 in
theorem c_sl09Once {a : Option Addr} {n c : Nat} {t : Int} {l : List Int} {w : World} (hs : Sl encInt w a l) (hn : l.length = n) (hm : n ≤ 4194304) :
    Calls Tryz.prog 49 #[.slice a n c, .int .i64 t] w (Gives w (.bool (once l t))) := by
  by_cases hN : t = (n : Int)
  · subst hN
    rw [show once l (n : Int) = onceGo n [] l by rw [once_same hn]; simp [once, hn]]
    exact c_sl09OnceN hs hn hm
  by_cases h0 : t < 0 ∧ n = 0
  · obtain ⟨h1, rfl⟩ := h0
    have hmx : max t 0 = 0 := by omega
    have hl : l = [] := List.length_eq_zero_iff.1 hn
    have HV := Lib.hid (show once l t = true by rw [once, hl, show t.toNat = 0 by omega]; rfl)
    clear hN
    have hmk : ∀ w : World, (Instr.makeSlice 41 (.int .i64 0) (.int .i64 0)).run Tryz.prog w = .ok (.slice (some ⟨w.heap.size, 0, none⟩) 0 0) (w.alloc (.cells #[] 4)) := fun w => by kernel_rfl
    go_enter Tryz.func49, Tryz.ntmps49
    go_wp2_with (first | ((with_reducible refine wp_region_later (by kernel_rfl) (by kernel_rfl) ?_); (repeat (first | go_big_quiet_step (first | fail) | simp only [hmx])); refine wpQuiet_nil ?_; rintro _ ⟨x, rfl⟩))
    refine wp_loop_rounds 1 ?_
    rw [rounds_succ]
    go_wp2_with (first | ((with_reducible refine wp_region_later (by kernel_rfl) (by kernel_rfl) ?_); (repeat (first | go_big_quiet_step (first | fail))); refine wpQuiet_nil ?_; rintro _ ⟨x, rfl⟩))
    go_ret
    exact Gives.mk (by rw [HV.out]; rfl)
  · have HV := Lib.hid (show once l t = false by rw [once, hn, decide_eq_false (by omega)]; rfl)
    by_cases ht : t < 0
    · have hT : max t 0 = 0 := by omega
      have hne : ((n : Int) != 0) = true := by simp; omega
      clear hN h0
      go_enter Tryz.func49, Tryz.ntmps49
      go_wp2_with (first | ((with_reducible refine wp_region_later (by kernel_rfl) (by kernel_rfl) ?_); (repeat (first | go_big_quiet_step (first | fail) | simp only [hT] | simp only [hne])); refine wpQuiet_nil ?_; rintro _ ⟨x, rfl⟩))
      go_ret
      exact Gives.mk (by rw [HV.out]; rfl)
    · have hT : max t 0 = t := by omega
      have hne : ((n : Int) != t) = true := by simp; omega
      clear hN h0
      go_enter Tryz.func49, Tryz.ntmps49
      go_wp2_with (first | ((with_reducible refine wp_region_later (by kernel_rfl) (by kernel_rfl) ?_); (repeat (first | go_big_quiet_step (first | fail) | simp only [hT] | simp only [hne])); refine wpQuiet_nil ?_; rintro _ ⟨x, rfl⟩))
      go_ret
      exact Gives.mk (by rw [HV.out]; rfl)
end Go.Proofs.YtdankjbkioepgaaGreat

namespace Go.Proofs.YtdankjbkioepgaaGreat
set_option linter.unusedVariables false
open Go.ChangeShapes Go.WideShapes Go.ChangeAt Go.RowKit

theorem pairsFrom_mem : ∀ {l : List Pair} {o : Option Pair}, pairsFrom o l = true → ∀ p ∈ l, (0 ≤ p.Board ∧ p.Board ≤ 2000000) ∧ 0 ≤ p.True ∧ p.True ≤ 1000000
  | [], _, _, p, hp => by simp at hp
  | q :: l, o, h, p, hp => by
    simp only [pairsFrom, Bool.and_eq_true] at h
    rcases List.mem_cons.1 hp with rfl | hp
    · exact ⟨inB_iff.1 h.1.1.1, inB_iff.1 h.1.1.2⟩
    · exact pairsFrom_mem h.2 p hp

theorem pairsOk_mem {l : List Pair} (h : pairsOk l = true) : ∀ p ∈ l, (0 ≤ p.Board ∧ p.Board ≤ 2000000) ∧ 0 ≤ p.True ∧ p.True ≤ 1000000 := by
  simp only [pairsOk, Bool.and_eq_true] at h
  exact pairsFrom_mem h.2

theorem mem_of_drop {α : Type} {l r : List α} {s : α} {k : Nat} (h : l.drop k = s :: r) : s ∈ l := by
  have : s ∈ l.drop k := by rw [h]; simp
  exact List.mem_of_mem_drop this

def boundsFrom (b : Int) : Int → List Pair → Int × Int
  | low, [] => (low, 1000000)
  | low, p :: r => if p.Board < b then boundsFrom b (p.True + 1) r else if b < p.Board then (low, p.True - 1) else boundsFrom b low r

def boundsOf (l : List Pair) (b : Int) : Value :=
  if (pairsOk l && inB b 0 2000000) = true then .tuple #[.int .i64 (boundsFrom b 0 l).1, .int .i64 (boundsFrom b 0 l).2, .bool true] else .tuple #[.int .i64 0, .int .i64 0, .bool false]

set_option maxRecDepth 100000 in
set_option maxHeartbeats 2000000 in
theorem c_sBoundsOf {a : Option Addr} {n c : Nat} {b : Int} {l : List Pair} {w : World} (hs : Sl encPair w a l) (hn : l.length = n) (hm : n ≤ 4611686018427387904) :
    Calls Tryz.prog 57 #[.slice a n c, .int .i64 b] w (Gives w (boundsOf l b)) := by
  cases q1 : pairsOk l
  · go_enter Tryz.func57, Tryz.ntmps57
    go_wp2_with (first | ((with_reducible refine wp_region_later (by kernel_rfl) (by kernel_rfl) ?_); (repeat (first | go_big_quiet_step (first | (go_at_call 121; exact Gives.quiet (c_sPairsOk (by first | assumption | (apply Sl.to <;> first | assumption | infer_instance) | omega) (by first | assumption | (apply Sl.to <;> first | assumption | infer_instance) | omega) (by first | assumption | (apply Sl.to <;> first | assumption | infer_instance) | omega))) | (go_at_call 62; exact Gives.quiet (c_sl01In))) | simp only [q1])); refine wpQuiet_nil ?_; rintro _ ⟨x, rfl⟩) | (go_at_call 121; refine (c_sPairsOk (by first | assumption | (apply Sl.to <;> first | assumption | infer_instance) | omega) (by first | assumption | (apply Sl.to <;> first | assumption | infer_instance) | omega) (by first | assumption | (apply Sl.to <;> first | assumption | infer_instance) | omega)).mono ?_; rintro _ _ ⟨rfl, x, rfl⟩) | (go_at_call 62; refine (c_sl01In).mono ?_; rintro _ _ ⟨rfl, x, rfl⟩))
    go_ret3
    exact Gives.mk (by simp [boundsOf, q1])
  cases q2 : inB b 0 2000000
  · go_enter Tryz.func57, Tryz.ntmps57
    go_wp2_with (first | ((with_reducible refine wp_region_later (by kernel_rfl) (by kernel_rfl) ?_); (repeat (first | go_big_quiet_step (first | (go_at_call 121; exact Gives.quiet (c_sPairsOk (by first | assumption | (apply Sl.to <;> first | assumption | infer_instance) | omega) (by first | assumption | (apply Sl.to <;> first | assumption | infer_instance) | omega) (by first | assumption | (apply Sl.to <;> first | assumption | infer_instance) | omega))) | (go_at_call 62; exact Gives.quiet (c_sl01In))) | simp only [q1] | simp only [q2])); refine wpQuiet_nil ?_; rintro _ ⟨x, rfl⟩) | (go_at_call 121; refine (c_sPairsOk (by first | assumption | (apply Sl.to <;> first | assumption | infer_instance) | omega) (by first | assumption | (apply Sl.to <;> first | assumption | infer_instance) | omega) (by first | assumption | (apply Sl.to <;> first | assumption | infer_instance) | omega)).mono ?_; rintro _ _ ⟨rfl, x, rfl⟩) | (go_at_call 62; refine (c_sl01In).mono ?_; rintro _ _ ⟨rfl, x, rfl⟩))
    go_ret3
    exact Gives.mk (by simp [boundsOf, q1, q2])
  have HB := Lib.hid (show boundsOf l b = .tuple #[.int .i64 (boundsFrom b 0 l).1, .int .i64 (boundsFrom b 0 l).2, .bool true] by simp [boundsOf, q1, q2])
  have HM := Lib.hid (pairsOk_mem q1)
  go_enter Tryz.func57, Tryz.ntmps57
  go_wp2_with (first | ((with_reducible refine wp_region_later (by kernel_rfl) (by kernel_rfl) ?_); (repeat (first | go_big_quiet_step (first | (go_at_call 121; exact Gives.quiet (c_sPairsOk (by first | assumption | (apply Sl.to <;> first | assumption | infer_instance) | omega) (by first | assumption | (apply Sl.to <;> first | assumption | infer_instance) | omega) (by first | assumption | (apply Sl.to <;> first | assumption | infer_instance) | omega))) | (go_at_call 62; exact Gives.quiet (c_sl01In))) | simp only [q1] | simp only [q2])); refine wpQuiet_nil ?_; rintro _ ⟨x, rfl⟩) | (go_at_call 121; refine (c_sPairsOk (by first | assumption | (apply Sl.to <;> first | assumption | infer_instance) | omega) (by first | assumption | (apply Sl.to <;> first | assumption | infer_instance) | omega) (by first | assumption | (apply Sl.to <;> first | assumption | infer_instance) | omega)).mono ?_; rintro _ _ ⟨rfl, x, rfl⟩) | (go_at_call 62; refine (c_sl01In).mono ?_; rintro _ _ ⟨rfl, x, rfl⟩))
  go_loopw [7, 8, 9] (fun u g v wr => ∃ (k : Nat) (low : Int), v = .int .i64 k ∧ u = .int .i64 low ∧ g = .int .i64 1000000 ∧ k ≤ n ∧ Hid (boundsFrom b low (l.drop k) = boundsFrom b 0 l) ∧ ∃ x : Later w, wr = x.w) (fun _ _ v _ => (n - intOf v).toNat)
  case atStart => exact ⟨0, 0, rfl, rfl, rfl, by omega, rfl, Later.of⟩
  case round =>
    obtain ⟨k, low, rfl, rfl, rfl, hk, hf, x0, rfl⟩ := hrel
    by_cases h : k < n
    · obtain ⟨b1, off, s, rfl, hb, hd, h0, h1⟩ := hs.pair (show k < l.length by omega)
      have hsb := HM.out s (mem_of_drop hd.out)
      by_cases c1 : s.Board < b
      · have c2 : ¬ b < s.Board := by omega
        go_wp2_with (first | ((with_reducible refine wp_region_later (by kernel_rfl) (by kernel_rfl) ?_); (repeat (first | go_big_quiet_step (first | fail))); refine wpQuiet_nil ?_; rintro _ ⟨x, rfl⟩))
        go_roundw
        case rel => exact ⟨k + 1, s.True + 1, by go_num, rfl, rfl, by omega, by have := hf.out; rw [hd.out, boundsFrom, if_pos (by omega)] at this; exact this, Later.of⟩
        case measure => simp [intOf]; omega
      by_cases c2 : b < s.Board
      · go_wp2_with (first | ((with_reducible refine wp_region_later (by kernel_rfl) (by kernel_rfl) ?_); (repeat (first | go_big_quiet_step (first | fail))); refine wpQuiet_nil ?_; rintro _ ⟨x, rfl⟩))
        go_ret3
        exact Gives.mk (by have := hf.out; rw [hd.out, boundsFrom, if_neg (by omega), if_pos (by omega)] at this; rw [HB.out, ← this]; rfl)
      · go_wp2_with (first | ((with_reducible refine wp_region_later (by kernel_rfl) (by kernel_rfl) ?_); (repeat (first | go_big_quiet_step (first | fail))); refine wpQuiet_nil ?_; rintro _ ⟨x, rfl⟩))
        go_roundw
        case rel => exact ⟨k + 1, low, by go_num, rfl, rfl, by omega, by have := hf.out; rw [hd.out, boundsFrom, if_neg (by omega), if_neg (by omega)] at this; exact this, Later.of⟩
        case measure => simp [intOf]; omega
    · go_wp2_with (first | ((with_reducible refine wp_region_later (by kernel_rfl) (by kernel_rfl) ?_); (repeat (first | go_big_quiet_step (first | fail))); refine wpQuiet_nil ?_; rintro _ ⟨x, rfl⟩))
      go_ret3
      exact Gives.mk (by have := hf.out; rw [List.drop_of_length_le (by omega), boundsFrom] at this; rw [HB.out, ← this]; rfl)

set_option maxRecDepth 100000 in
set_option maxHeartbeats 2000000 in
theorem c_iBoundsOf {a : Option Addr} {n c : Nat} {b : Int} {l : List Pair} {w : World} (hs : Sl encPair w a l) (hn : l.length = n) (hm : n ≤ 4611686018427387904) :
    Calls Tryz.prog 61 #[.slice a n c, .int .i64 b] w (Gives w (boundsOf l b)) := by
  cases q1 : pairsOk l
  · go_enter Tryz.func61, Tryz.ntmps61
    go_wp2_with (first | ((with_reducible refine wp_region_later (by kernel_rfl) (by kernel_rfl) ?_); (repeat (first | go_big_quiet_step (first | (go_at_call 123; exact Gives.quiet (c_iPairsOk (by first | assumption | (apply Sl.to <;> first | assumption | infer_instance) | omega) (by first | assumption | (apply Sl.to <;> first | assumption | infer_instance) | omega) (by first | assumption | (apply Sl.to <;> first | assumption | infer_instance) | omega))) | (go_at_call 69; exact Gives.quiet (c_ibetween))) | simp only [q1])); refine wpQuiet_nil ?_; rintro _ ⟨x, rfl⟩) | (go_at_call 123; refine (c_iPairsOk (by first | assumption | (apply Sl.to <;> first | assumption | infer_instance) | omega) (by first | assumption | (apply Sl.to <;> first | assumption | infer_instance) | omega) (by first | assumption | (apply Sl.to <;> first | assumption | infer_instance) | omega)).mono ?_; rintro _ _ ⟨rfl, x, rfl⟩) | (go_at_call 69; refine (c_ibetween).mono ?_; rintro _ _ ⟨rfl, x, rfl⟩))
    go_ret3
    exact Gives.mk (by simp [boundsOf, q1])
  cases q2 : inB b 0 2000000
  · go_enter Tryz.func61, Tryz.ntmps61
    go_wp2_with (first | ((with_reducible refine wp_region_later (by kernel_rfl) (by kernel_rfl) ?_); (repeat (first | go_big_quiet_step (first | (go_at_call 123; exact Gives.quiet (c_iPairsOk (by first | assumption | (apply Sl.to <;> first | assumption | infer_instance) | omega) (by first | assumption | (apply Sl.to <;> first | assumption | infer_instance) | omega) (by first | assumption | (apply Sl.to <;> first | assumption | infer_instance) | omega))) | (go_at_call 69; exact Gives.quiet (c_ibetween))) | simp only [q1] | simp only [q2])); refine wpQuiet_nil ?_; rintro _ ⟨x, rfl⟩) | (go_at_call 123; refine (c_iPairsOk (by first | assumption | (apply Sl.to <;> first | assumption | infer_instance) | omega) (by first | assumption | (apply Sl.to <;> first | assumption | infer_instance) | omega) (by first | assumption | (apply Sl.to <;> first | assumption | infer_instance) | omega)).mono ?_; rintro _ _ ⟨rfl, x, rfl⟩) | (go_at_call 69; refine (c_ibetween).mono ?_; rintro _ _ ⟨rfl, x, rfl⟩))
    go_ret3
    exact Gives.mk (by simp [boundsOf, q1, q2])
  have HB := Lib.hid (show boundsOf l b = .tuple #[.int .i64 (boundsFrom b 0 l).1, .int .i64 (boundsFrom b 0 l).2, .bool true] by simp [boundsOf, q1, q2])
  have HM := Lib.hid (pairsOk_mem q1)
  go_enter Tryz.func61, Tryz.ntmps61
  go_wp2_with (first | ((with_reducible refine wp_region_later (by kernel_rfl) (by kernel_rfl) ?_); (repeat (first | go_big_quiet_step (first | (go_at_call 123; exact Gives.quiet (c_iPairsOk (by first | assumption | (apply Sl.to <;> first | assumption | infer_instance) | omega) (by first | assumption | (apply Sl.to <;> first | assumption | infer_instance) | omega) (by first | assumption | (apply Sl.to <;> first | assumption | infer_instance) | omega))) | (go_at_call 69; exact Gives.quiet (c_ibetween))) | simp only [q1] | simp only [q2])); refine wpQuiet_nil ?_; rintro _ ⟨x, rfl⟩) | (go_at_call 123; refine (c_iPairsOk (by first | assumption | (apply Sl.to <;> first | assumption | infer_instance) | omega) (by first | assumption | (apply Sl.to <;> first | assumption | infer_instance) | omega) (by first | assumption | (apply Sl.to <;> first | assumption | infer_instance) | omega)).mono ?_; rintro _ _ ⟨rfl, x, rfl⟩) | (go_at_call 69; refine (c_ibetween).mono ?_; rintro _ _ ⟨rfl, x, rfl⟩))
  go_loopw [7, 8, 21] (fun u g v wr => ∃ (k : Nat) (low : Int), v = .int .i64 k ∧ u = .int .i64 low ∧ g = .int .i64 1000000 ∧ k ≤ n ∧ Hid (boundsFrom b low (l.drop k) = boundsFrom b 0 l) ∧ ∃ x : Later w, wr = x.w) (fun _ _ v _ => (n - intOf v).toNat)
  case atStart => exact ⟨0, 0, rfl, rfl, rfl, by omega, rfl, Later.of⟩
  case round =>
    obtain ⟨k, low, rfl, rfl, rfl, hk, hf, x0, rfl⟩ := hrel
    by_cases h : k < n
    · obtain ⟨b1, off, s, rfl, hb, hd, h0, h1⟩ := hs.pair (show k < l.length by omega)
      have hsb := HM.out s (mem_of_drop hd.out)
      by_cases c1 : s.Board < b
      · have c2 : ¬ b < s.Board := by omega
        go_wp2_with (first | ((with_reducible refine wp_region_later (by kernel_rfl) (by kernel_rfl) ?_); (repeat (first | go_big_quiet_step (first | fail))); refine wpQuiet_nil ?_; rintro _ ⟨x, rfl⟩))
        go_roundw
        case rel => exact ⟨k + 1, s.True + 1, by go_num, rfl, rfl, by omega, by have := hf.out; rw [hd.out, boundsFrom, if_pos (by omega)] at this; exact this, Later.of⟩
        case measure => simp [intOf]; omega
      by_cases c2 : b < s.Board
      · go_wp2_with (first | ((with_reducible refine wp_region_later (by kernel_rfl) (by kernel_rfl) ?_); (repeat (first | go_big_quiet_step (first | fail))); refine wpQuiet_nil ?_; rintro _ ⟨x, rfl⟩))
        go_ret3
        exact Gives.mk (by have := hf.out; rw [hd.out, boundsFrom, if_neg (by omega), if_pos (by omega)] at this; rw [HB.out, ← this]; rfl)
      · go_wp2_with (first | ((with_reducible refine wp_region_later (by kernel_rfl) (by kernel_rfl) ?_); (repeat (first | go_big_quiet_step (first | fail))); refine wpQuiet_nil ?_; rintro _ ⟨x, rfl⟩))
        go_roundw
        case rel => exact ⟨k + 1, low, by go_num, rfl, rfl, by omega, by have := hf.out; rw [hd.out, boundsFrom, if_neg (by omega), if_neg (by omega)] at this; exact this, Later.of⟩
        case measure => simp [intOf]; omega
    · go_wp2_with (first | ((with_reducible refine wp_region_later (by kernel_rfl) (by kernel_rfl) ?_); (repeat (first | go_big_quiet_step (first | fail))); refine wpQuiet_nil ?_; rintro _ ⟨x, rfl⟩))
      go_ret3
      exact Gives.mk (by have := hf.out; rw [List.drop_of_length_le (by omega), boundsFrom] at this; rw [HB.out, ← this]; rfl)

def rateVal (p q : Pair) : Int := ((q.Board - p.Board) - (q.True - p.True)) * 1000 / (q.True - p.True)
def rateOf (l : List Pair) : Value :=
  match (if pairsOk l = true then l else []) with
  | p :: q :: r => .tuple #[.int .i64 (rateVal p ((q :: r).getLast (by simp))), .bool true]
  | _ => .tuple #[.int .i64 0, .bool false]
theorem rateOf_no {l : List Pair} (h : pairsOk l = false ∨ l.length < 2) : rateOf l = .tuple #[.int .i64 0, .bool false] := by
  unfold rateOf
  rcases h with h | h
  · rw [if_neg (by simp [h])]
  · split
    · rename_i p q r hl
      split at hl
      · rw [hl] at h; simp at h; omega
      · cases hl
    · rfl
theorem rateOf_yes {l : List Pair} (h : pairsOk l = true) (hn : 2 ≤ l.length) {p q : Pair} (hp : l[0]? = some p) (hq : l[l.length - 1]? = some q) : rateOf l = .tuple #[.int .i64 (rateVal p q), .bool true] := by
  unfold rateOf
  rw [if_pos h]
  match l, hn, hp, hq with
  | p' :: q' :: r, _, hp, hq =>
    simp only [List.getElem?_cons_zero, Option.some.injEq] at hp
    subst hp
    have : (q' :: r).getLast (by simp) = q := by
      have h1 : (p' :: q' :: r)[(p' :: q' :: r).length - 1]? = some ((q' :: r).getLast (by simp)) := by
        rw [← List.getLast?_eq_getElem?]; simp [List.getLast?_eq_some_getLast]
      rw [hq] at h1
      exact (Option.some.inj h1).symm
    simp only [this]
end Go.Proofs.YtdankjbkioepgaaGreat

namespace Go.Proofs.YtdankjbkioepgaaGreat
set_option linter.unusedVariables false
open Go.ChangeShapes Go.WideShapes Go.ChangeAt Go.RowKit

theorem boardTime_mono {r o s t : Int} (hs : 0 ≤ s) (hst : s ≤ t) (ht : t ≤ 1000000) : boardTime r o s ≤ boardTime r o t := by
  have h1 : inB s 0 1000000 = true := inB_iff.2 ⟨hs, by omega⟩
  have h2 : inB t 0 1000000 = true := inB_iff.2 ⟨by omega, ht⟩
  cases hd : driftOk r o
  · simp [boardTime, hd]
  · have hr : -100 ≤ r ∧ r ≤ 100 := by
      simp only [driftOk, Bool.and_eq_true] at hd
      exact inB_iff.1 hd.1
    have h3 : s * (1000 + r) ≤ t * (1000 + r) := Int.mul_le_mul_of_nonneg_right hst (by omega)
    rw [Int.mul_add, Int.mul_add] at h3
    simp only [boardTime, hd, h1, h2, Bool.and_self, if_true]
    generalize s * r = p at h3 ⊢
    generalize t * r = q at h3 ⊢
    omega

theorem first_ex (p : Nat → Bool) : ∀ n : Nat, ∃ k : Nat, k ≤ n ∧ (∀ t, t < k → p t = false) ∧ (k < n → p k = true)
  | 0 => ⟨0, Nat.le_refl _, fun _ h => absurd h (Nat.not_lt_zero _), fun h => absurd h (Nat.lt_irrefl _)⟩
  | n + 1 => by
    obtain ⟨k, h1, h2, h3⟩ := first_ex p n
    by_cases hk : k < n
    · exact ⟨k, by omega, h2, fun _ => h3 hk⟩
    · have hkn : k = n := by omega
      subst hkn
      cases hp : p k
      · exact ⟨k + 1, by omega, fun t ht => by
          by_cases h : t < k
          · exact h2 t h
          · rw [show t = k from by omega]; exact hp, fun h => by omega⟩
      · exact ⟨k, by omega, h2, fun _ => hp⟩

def reached (r o c : Int) (t : Nat) : Bool := decide (c ≤ boardTime r o t)
noncomputable def sinceN (n : Nat) (r o c : Int) : Nat := Classical.choose (first_ex (reached r o c) n)
theorem sinceN_is (n : Nat) (hn : (n : Int) ≤ 1000001) (r o c : Int) : sinceN n r o c ≤ n ∧ (∀ t, t < sinceN n r o c → reached r o c t = false) ∧ (∀ t, sinceN n r o c ≤ t → t < n → reached r o c t = true) := by
  have h := Classical.choose_spec (first_ex (reached r o c) n)
  change sinceN n r o c ≤ n ∧ (∀ t, t < sinceN n r o c → reached r o c t = false) ∧ (sinceN n r o c < n → reached r o c (sinceN n r o c) = true) at h
  obtain ⟨h1, h2, h3⟩ := h
  generalize sinceN n r o c = k at h1 h2 h3 ⊢
  refine ⟨h1, h2, fun t ha hb => ?_⟩
  have h5 := h3 (Nat.lt_of_le_of_lt ha hb)
  have h4 : boardTime r o k ≤ boardTime r o t := boardTime_mono (by omega) (by omega) (by omega)
  simp only [reached, decide_eq_true_eq] at h5 ⊢
  omega
/-- The first time at which the clock on board shows c or more; 1000001 if there is none. -/
noncomputable def since (r o c : Int) : Nat := sinceN (Int.toNat 1000001) r o c
theorem since_is (r o c : Int) : since r o c ≤ 1000001 ∧ (∀ t, t < since r o c → reached r o c t = false) ∧ (∀ t, since r o c ≤ t → t < 1000001 → reached r o c t = true) := by
  obtain ⟨n, hn⟩ : ∃ n, Int.toNat 1000001 = n := ⟨_, rfl⟩
  have h := sinceN_is n (by omega) r o c
  rw [since, hn]
  generalize sinceN n r o c = k at h ⊢
  obtain ⟨h1, h2, h3⟩ := h
  exact ⟨by omega, h2, fun t ha hb => h3 t ha (by omega)⟩

set_option maxRecDepth 100000 in
set_option maxHeartbeats 2000000 in
theorem c_search {g : Nat} {cb : Array Value} {n k : Nat} {p : Nat → Bool} {w : World} (eg : ∀ args w, (callFunc g args).run Tryz.prog w = .ok (.enter g args) w) (hn : n ≤ 4611686018427387903)
    (hf : ∀ {W : World} [Grows w W] (i : Nat), i < n → Calls Tryz.prog g (#[.int .i64 i] ++ cb) W (Gives W (.bool (p i)))) (hk : k ≤ n) (h1 : ∀ t, t < k → p t = false) (h2 : ∀ t, k ≤ t → t < n → p t = true) :
    Calls Tryz.prog 59 #[.int .i64 n, .func (.func g) #[] cb] w (Gives w (.int .i64 k)) := by
  have HF := Lib.hid (And.intro h1 h2); clear h1 h2
  go_enter Tryz.func59, Tryz.ntmps59
  go_wp2_with (first | ((with_reducible refine wp_region_later (by kernel_rfl) (by kernel_rfl) ?_); (repeat (first | go_big_quiet_step (first | fail))); refine wpQuiet_nil ?_; rintro _ ⟨x, rfl⟩))
  go_loopw [5, 6] (fun u v wr => ∃ (lo hi : Nat), u = .int .i64 lo ∧ v = .int .i64 hi ∧ lo ≤ k ∧ k ≤ hi ∧ hi ≤ n ∧ ∃ y : Later w, wr = y.w) (fun u v _ => (intOf v - intOf u).toNat)
  case atStart => exact ⟨0, n, rfl, rfl, by omega, hk, by omega, Later.of⟩
  case round =>
    obtain ⟨lo, hi, rfl, rfl, hlo, hhi, hhn, y, rfl⟩ := hrel
    by_cases h : lo < hi
    · have hc := hf (W := y.w) ((lo + hi) / 2) (by omega)
      rw [show (((lo + hi) / 2 : Nat) : Int) = ((lo : Int) + (hi : Int)) / 2 by omega] at hc
      cases hp : p ((lo + hi) / 2)
      · have hk2 : (lo + hi) / 2 < k := by
          by_cases hh : (lo + hi) / 2 < k
          · exact hh
          · have := HF.out.2 ((lo + hi) / 2) (by omega) (by omega); rw [hp] at this; cases this
        rw [hp] at hc
        have HC := Lib.hid hc; clear hc hp hf
        go_wp2_with (first | ((with_reducible refine wp_region_later (by kernel_rfl) (by kernel_rfl) ?_); (repeat (first | go_big_quiet_step (first | fail))); refine wpQuiet_nil ?_; rintro _ ⟨x, rfl⟩) | (go_at_fn g; refine HC.out.mono ?_; rintro _ _ ⟨rfl, y1, rfl⟩))
        go_roundw
        case rel => exact ⟨(lo + hi) / 2 + 1, hi, by rw [show ((lo : Int) + (hi : Int)) / 2 + 1 = (((lo + hi) / 2 + 1 : Nat) : Int) by omega], rfl, by omega, hhi, hhn, Later.of⟩
        case measure => simp [intOf]; omega
      · have hk2 : k ≤ (lo + hi) / 2 := by
          by_cases hh : k ≤ (lo + hi) / 2
          · exact hh
          · have := HF.out.1 ((lo + hi) / 2) (by omega); rw [hp] at this; cases this
        rw [hp] at hc
        have HC := Lib.hid hc; clear hc hp hf
        go_wp2_with (first | ((with_reducible refine wp_region_later (by kernel_rfl) (by kernel_rfl) ?_); (repeat (first | go_big_quiet_step (first | fail))); refine wpQuiet_nil ?_; rintro _ ⟨x, rfl⟩) | (go_at_fn g; refine HC.out.mono ?_; rintro _ _ ⟨rfl, y1, rfl⟩))
        go_roundw
        case rel => exact ⟨lo, (lo + hi) / 2, rfl, by rw [show ((lo : Int) + (hi : Int)) / 2 = (((lo + hi) / 2 : Nat) : Int) by omega], hlo, by omega, by omega, Later.of⟩
        case measure => simp [intOf]; omega
    · have ek : lo = k := by omega
      subst ek
      go_wp2_with (first | ((with_reducible refine wp_region_later (by kernel_rfl) (by kernel_rfl) ?_); (repeat (first | go_big_quiet_step (first | fail))); refine wpQuiet_nil ?_; rintro _ ⟨x, rfl⟩))
      go_ret
      exact Gives.mk rfl

theorem c_reached {Bm Br t : Nat} {r o c : Int} {W : World} (e0 : ∀ (V : World) [Grows W V], V.cell? ⟨Bm, 2, none⟩ = some (.int .i64 r)) (e1 : ∀ (V : World) [Grows W V], V.cell? ⟨Bm, 3, none⟩ = some (.int .i64 o)) (e2 : ∀ (V : World) [Grows W V], V.cell? ⟨Br, 2, none⟩ = some (.int .i64 c)) :
    Calls Tryz.prog 60 #[.int .i64 t, .pointer (some ⟨Bm, 0, none⟩), .pointer (some ⟨Br, 0, none⟩)] W (Gives W (.bool (reached r o c t))) := by
  go_enter Tryz.func60, Tryz.ntmps60
  go_wp2_with (first | ((with_reducible refine wp_region_later (by kernel_rfl) (by kernel_rfl) ?_); (repeat (first | go_big_quiet_step (first | (go_at_call 58; exact Gives.quiet (c_iBoardTime))))); refine wpQuiet_nil ?_; rintro _ ⟨x, rfl⟩) | (go_at_call 58; refine (c_iBoardTime).mono ?_; rintro _ _ ⟨rfl, x, rfl⟩))
  go_ret
  exact Gives.mk (by rw [reached]; rfl)

set_option maxRecDepth 100000 in
set_option maxHeartbeats 2000000 in
theorem c_sl09Since {vs : List Value} {r o c : Int} {w : World} (h0 : vs[2]? = some (.int .i64 r)) (h1 : vs[3]? = some (.int .i64 o)) :
    Calls Tryz.prog 56 #[.agg vs.toArray, .int .i64 c] w (Gives w (.int .i64 (since r o c))) := by
  have HB := Held.new w vs 91 w.heap.size rfl
  have e0 := HB.cellG 2 (.int .i64 r) h0
  have e1 := HB.cellG 3 (.int .i64 o) h1
  clear HB h0 h1
  have HS := Lib.hid (since_is r o c)
  have hk := HS.out.1
  obtain ⟨K, hK⟩ : ∃ K, since r o c = K := ⟨_, rfl⟩
  rw [hK] at HS hk ⊢
  clear hK
  go_enter Tryz.func56, Tryz.ntmps56
  go_wp2_with (first | ((with_reducible refine wp_region_later (by kernel_rfl) (by kernel_rfl) ?_); (repeat (first | go_big_quiet_step (first | fail))); refine wpQuiet_nil ?_; rintro _ ⟨x, rfl⟩))
  go_loopw [5] (fun v wr => ∃ k : Nat, v = .int .i64 k ∧ k ≤ K ∧ ∃ y : Later (w.alloc (.cells vs.toArray 91)), wr = y.w) (fun v _ => (K - intOf v).toNat)
  case atStart => exact ⟨0, rfl, by omega, Later.of⟩
  case round =>
    obtain ⟨k, rfl, hkk, y, rfl⟩ := hrel
    by_cases h : k < K
    · have h1 : decide ((k : Int) ≤ 1000000) = true := by simp; omega
      have h2 : decide (boardTime r o k < c) = true := by have := HS.out.2.1 k h; simp only [reached, decide_eq_false_iff_not] at this; simp; omega
      go_wp2_with (first | ((with_reducible refine wp_region_later (by kernel_rfl) (by kernel_rfl) ?_); (repeat (first | go_big_quiet_step (first | (go_at_call 55; exact Gives.quiet (c_sBoardTime))) | simp only [h1] | simp only [h2])); refine wpQuiet_nil ?_; rintro _ ⟨x, rfl⟩) | (go_at_call 55; refine (c_sBoardTime).mono ?_; rintro _ _ ⟨rfl, x, rfl⟩))
      go_roundw
      case rel => exact ⟨k + 1, by go_num, by omega, Later.of⟩
      case measure => simp [intOf]; omega
    · have ek : k = K := by omega
      subst ek
      by_cases hz : k < 1000001
      · have h1 : decide ((k : Int) ≤ 1000000) = true := by simp; omega
        have h2 : decide (boardTime r o k < c) = false := by have := HS.out.2.2 k (Nat.le_refl _) hz; simp only [reached, decide_eq_true_eq] at this; simp; omega
        go_wp2_with (first | ((with_reducible refine wp_region_later (by kernel_rfl) (by kernel_rfl) ?_); (repeat (first | go_big_quiet_step (first | (go_at_call 55; exact Gives.quiet (c_sBoardTime))) | simp only [h1] | simp only [h2])); refine wpQuiet_nil ?_; rintro _ ⟨x, rfl⟩) | (go_at_call 55; refine (c_sBoardTime).mono ?_; rintro _ _ ⟨rfl, x, rfl⟩))
        go_ret
        exact Gives.mk rfl
      · have h1 : decide ((k : Int) ≤ 1000000) = false := by simp; omega
        go_wp2_with (first | ((with_reducible refine wp_region_later (by kernel_rfl) (by kernel_rfl) ?_); (repeat (first | go_big_quiet_step (first | (go_at_call 55; exact Gives.quiet (c_sBoardTime))) | simp only [h1])); refine wpQuiet_nil ?_; rintro _ ⟨x, rfl⟩) | (go_at_call 55; refine (c_sBoardTime).mono ?_; rintro _ _ ⟨rfl, x, rfl⟩))
        go_ret
        exact Gives.mk rfl

section
variable {P : Program} {ops : Array Oper} {C : World → Prop} {Q : Act → Prop} {o : Oper} {rest : List Oper} {a : Act}
/-- In a quiet walk: a load of many cells that lie there in every world of the class. -/
theorem quiet_load_row (hg : o.guard = none) (ty : TypeId) (x : Operand) (ho : o.op = .load ty x) (b off : Nat) (hx : a.eval x = .pointer (some ⟨b, off, none⟩)) (row : List Value) (d : TypeDesc) (hS : ∀ w, C w → w.rangeAt b off row)
    (hu : P.underlying ty = some d) (hd : d.isRow = true) (hi : (P.info? ty).map (·.size) = some row.length)
    (h : wpQuiet P ops C Q rest (a.put o.dst (.agg row.toArray))) : wpQuiet P ops C Q (o :: rest) a :=
  BigFrame.wpQuiet_want (by simp [Region.wanted, hg]) fun K hK => ⟨.agg row.toArray, fun w hw => by
    unfold Oper.quietAt execOp
    simp only [ho, hx, Instr.loadAt, Instr.sureAddr, Sem.run_bind, Sem.run_pure, Result.andThen_ok, run_loadVar_mid w b off ty row d (hS w hw) hu hd hi]
    exact ⟨rfl, rfl⟩, hK _ h⟩
end

theorem grows_trans {a b c : World} (h : Grows a b) (g : Grows b c) : Grows a c := ⟨h.out.trans (g.out.mono h.out.size)⟩

end Go.Proofs.YtdankjbkioepgaaGreat

namespace Go.Proofs.YtdankjbkioepgaaGreat
set_option linter.unusedVariables false
open Go.ChangeShapes Go.WideShapes Go.ChangeAt Go.RowKit

theorem addR_any (rs : List TRecord) (x y : TRecord) : (addR rs y).any (recEq x) = (rs.any (recEq x) || recEq x y) := by
  rw [addR]
  split
  · rename_i h
    cases hx : recEq x y
    · rw [Bool.or_false]
    · have := recEq_eq hx
      subst this
      rw [h]; rfl
  · rw [List.any_append]
    simp
theorem MapR.new (W : World) (b : Nat) (hb : W.heap.size = b) : MapR (W.alloc (.map #[] 0)) b [] := ⟨#[], 0, by subst hb; rw [blk_alloc W _ _ rfl], trivial⟩
@[go_sem] theorem run_makeMapR (w : World) : (Instr.makeMap 127 none).run Tryz.prog w = .ok (.map (some w.heap.size)) (w.alloc (.map #[] 0)) := by
  simp [Instr.makeMap, go_sem]
/-- A map's block is not a slice's. -/
theorem MapR.notOwn {α : Type} {enc : α → List Value} {T size B n : Nat} {w : World} {a : Option Addr} {c b : Nat} {l : List α} {rs : List TRecord} (hb : MapR w b rs) (h : Own enc T size B w a c l) : some b ≠ Value.ownBlock (.slice a n c) := by
  obtain ⟨es, clk, hb, -⟩ := hb
  obtain ⟨-, -, ⟨h1, -⟩ | ⟨g, cap, cur, hv, -, hh, -⟩⟩ := h
  · simp only [Value.slice.injEq] at h1; obtain ⟨rfl, -⟩ := h1; simp [Value.ownBlock]
  · simp only [Value.slice.injEq] at hv; obtain ⟨rfl, -⟩ := hv
    simp only [Value.ownBlock, ne_eq, Option.some.injEq]
    rintro rfl
    rw [hb] at hh
    simp at hh
theorem MapR.kept {α : Type} {enc : α → List Value} {T size B n : Nat} {w w' : World} {a : Option Addr} {c b : Nat} {l : List α} {rs : List TRecord} (hb : MapR w b rs) (h : Own enc T size B w a c l) (hg : w.grownBy w' (Value.ownBlock (.slice a n c))) : MapR w' b rs := by
  have hne := hb.notOwn (n := n) h
  have hl := hb.lt
  obtain ⟨es, clk, hb, he⟩ := hb
  exact ⟨es, clk, by rw [hg.block b hl hne]; exact hb, he⟩
theorem Own.mapped {α : Type} {enc : α → List Value} {T size B : Nat} {w w' : World} {a : Option Addr} {c b : Nat} {l : List α} {rs : List TRecord} (h : Own enc T size B w a c l) (hb : MapR w b rs) (hw : ∃ o, w' = { w with heap := w.heap.setIfInBounds b o }) : Own enc T size B w' a c l := by
  obtain ⟨o, rfl⟩ := hw
  refine ⟨h.1, h.2.kept (row := some b) ⟨rfl, rfl, rfl, by simp, fun k hk hr => ?_⟩ (.inr (fun e => hb.notOwn (n := l.length) h e.symm))⟩
  have : b ≠ k := fun e => hr (by rw [e])
  show (w.heap.setIfInBounds b o)[k]? = _
  rw [Array.getElem?_setIfInBounds_ne this]
theorem Later.mapped {W w w' : World} {b : Nat} (hw : ∃ o, w' = { w with heap := w.heap.setIfInBounds b o }) (g : Grows W w) (hb : W.heap.size ≤ b) : ∃ y : Later W, w' = y.w := by
  obtain ⟨o, rfl⟩ := hw
  refine ⟨⟨_, ?_⟩, rfl⟩
  have h := g.out
  refine ⟨h.os, h.tape, h.output, by simpa using h.size, fun k hk => ?_⟩
  show (w.heap.setIfInBounds b o)[k]? = _
  rw [Array.getElem?_setIfInBounds_ne (by omega)]
  exact h.block k hk
section
variable {ops : Array Oper} {rest : List Oper} {op : Oper} {a : Act} {w : World} {Q : Exit → Act → World → Prop}
theorem wpList_mapR (hgd : op.guard = none) (m k v : Operand) (ho : op.op = .mapUpdate 127 m k v) {b : Nat} {rs : List TRecord} {x : TRecord} (hm : a.eval m = .map (some b)) (hk : a.eval k = recV x) (hv : a.eval v = .bool true) (H : MapR w b rs)
    (h : ∀ w', MapR w' b (addR rs x) → (∃ o, w' = { w with heap := w.heap.setIfInBounds b o }) → wpList Tryz.prog ops Q rest (a.put op.dst undef) w') : wpList Tryz.prog ops Q (op :: rest) a w := by
  refine wpList_plain hgd fun K hK => ?_
  obtain ⟨w', hrun, r1, r2⟩ := run_updateR H x
  unfold Oper.wp
  simp [execOp, ho, hm, hk, hv, hrun, Result.andThen]
  exact hK _ _ (h w' r1 r2)
end
section
variable {ops : Array Oper} {C : World → Prop} {Q : Act → Prop} {o : Oper} {rest : List Oper} {a : Act}
theorem quiet_lookupR (hg : o.guard = none) (m k : Operand) (ho : o.op = .lookup 127 m k false) {b : Nat} {rs : List TRecord} {x : TRecord} (hm : a.eval m = .map (some b)) (hk : a.eval k = recV x) (hS : ∀ w, C w → MapR w b rs)
    (h : wpQuiet Tryz.prog ops C Q rest (a.put o.dst (.bool (rs.any (recEq x))))) : wpQuiet Tryz.prog ops C Q (o :: rest) a :=
  BigFrame.wpQuiet_want (by simp [Region.wanted, hg]) fun K hK => ⟨.bool (rs.any (recEq x)), fun w hw => by
    have hrun := run_lookupR (hS w hw) x
    unfold Oper.quietAt
    simp [execOp, ho, hm, hk, hrun, Result.andThen]
    exact ⟨rfl, rfl⟩, hK _ h⟩
theorem quiet_eqR (hg : o.guard = none) (p q : Operand) (t' : TypeId) (ho : o.op = .binOp .eql 124 p q t') {x y : TRecord} (hp : a.eval p = recV x) (hq : a.eval q = recV y)
    (h : wpQuiet Tryz.prog ops C Q rest (a.put o.dst (.bool (recEq x y)))) : wpQuiet Tryz.prog ops C Q (o :: rest) a :=
  BigFrame.wpQuiet_want (by simp [Region.wanted, hg]) fun K hK => ⟨.bool (recEq x y), fun w hw => by
    have hrun := run_recEq x y 9998 w
    have h1 : (eqGuard .eql 124 p q (recV x) (recV y)).run Tryz.prog w = .ok () w := run_eqGuard_agg w _ _ _ _ _ _ (by kernel_rfl)
    have h2 : (binOp .eql 124 (recV x) (recV y)).run Tryz.prog w = .ok (.bool (recEq x y)) w := by
      rw [recV, recV, run_eql_struct, ← recV, ← recV, hrun]; rfl
    unfold Oper.quietAt execOp
    simp only [ho, hp, hq, Sem.run_bind, h1, h2, Result.andThen_ok, Sem.run_pure]
    exact ⟨rfl, rfl⟩, hK _ h⟩
end

end Go.Proofs.YtdankjbkioepgaaGreat
