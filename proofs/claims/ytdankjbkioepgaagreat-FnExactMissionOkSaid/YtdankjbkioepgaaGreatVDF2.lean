/- The contracts of the mirrors, sizes and equalities of flat structs (2). No condition but on sizes. -/
import Derived.Test.YtdankjbkioepgaaGreatVM2
namespace Go.Proofs.YtdankjbkioepgaaGreat
set_option linter.unusedVariables false
open Go.ChangeShapes Go.WideShapes Go.ChangeAt Go.RowKit

theorem d_ltoDrift {B : Nat} {vs : List Value} {x : TDrift} {w : World} (h : Enc.Rd B w vs x) (ht : Enc.tot x ≤ 1048576) :
    Calls Tryz.prog 32 #[.agg vs.toArray] w (GivesD w x) := by
  obtain ⟨rfl, hok⟩ := h
  clear ht
  have HOK := Lib.hid hok; clear hok
  go_enter Tryz.func32, Tryz.ntmps32
  go_wp2_with (first | ((with_reducible refine wp_region_later (by kernel_rfl) (by kernel_rfl) ?_); (repeat (first | go_big_quiet_step (first | fail))); refine wpQuiet_nil ?_; rintro _ ⟨x, rfl⟩))
  refine bodyPost_ret (v := .agg #[.int .i64 x.Rate, .int .i64 x.Offset]) ?_ rfl ⟨[.int .i64 x.Rate, .int .i64 x.Offset], rfl, ⟨rfl, HOK.out⟩, Later.of⟩
  simp [results, Tryz.results32, go_sem]

theorem d_leqDrift {B B2 : Nat} {vs vs2 : List Value} {x : TDrift} {w : World} (h : Enc.Rd B w vs x) (h2 : Enc.Rd B2 w vs2 x) :
    Calls Tryz.prog 41 #[.agg vs.toArray, .agg vs2.toArray] w (Gives w (.bool true)) := by
  obtain ⟨rfl, hok⟩ := h
  obtain ⟨rfl, -⟩ := h2
  have HOK := Lib.hid hok; clear hok
  go_enter Tryz.func41, Tryz.ntmps41
  go_wp2_with (first | ((with_reducible refine wp_region_later (by kernel_rfl) (by kernel_rfl) ?_); (repeat (first | go_big_quiet_step (first | fail))); refine wpQuiet_nil ?_; rintro _ ⟨x, rfl⟩))
  go_ret
  exact Gives.mk rfl

theorem d_ltoPair {B : Nat} {vs : List Value} {x : Pair} {w : World} (h : Enc.Rd B w vs x) (ht : Enc.tot x ≤ 1048576) :
    Calls Tryz.prog 148 #[.agg vs.toArray] w (GivesD w x) := by
  obtain ⟨rfl, hok⟩ := h
  clear ht
  have HOK := Lib.hid hok; clear hok
  go_enter Tryz.func148, Tryz.ntmps148
  go_wp2_with (first | ((with_reducible refine wp_region_later (by kernel_rfl) (by kernel_rfl) ?_); (repeat (first | go_big_quiet_step (first | fail))); refine wpQuiet_nil ?_; rintro _ ⟨x, rfl⟩))
  refine bodyPost_ret (v := .agg #[.int .i64 x.Board, .int .i64 x.True]) ?_ rfl ⟨[.int .i64 x.Board, .int .i64 x.True], rfl, ⟨rfl, HOK.out⟩, Later.of⟩
  simp [results, Tryz.results148, go_sem]

theorem d_leqPair {B B2 : Nat} {vs vs2 : List Value} {x : Pair} {w : World} (h : Enc.Rd B w vs x) (h2 : Enc.Rd B2 w vs2 x) :
    Calls Tryz.prog 158 #[.agg vs.toArray, .agg vs2.toArray] w (Gives w (.bool true)) := by
  obtain ⟨rfl, hok⟩ := h
  obtain ⟨rfl, -⟩ := h2
  have HOK := Lib.hid hok; clear hok
  go_enter Tryz.func158, Tryz.ntmps158
  go_wp2_with (first | ((with_reducible refine wp_region_later (by kernel_rfl) (by kernel_rfl) ?_); (repeat (first | go_big_quiet_step (first | fail))); refine wpQuiet_nil ?_; rintro _ ⟨x, rfl⟩))
  go_ret
  exact Gives.mk rfl

theorem d_ltoPairS {B : Nat} {a : Option Addr} {c : Nat} {l : List Pair} {w : World} (hs : RdS B w a c l) (ht : totL l ≤ 1048576) :
    Calls Tryz.prog 91 #[.slice a l.length c] w (GivesDS w l) := by
  have hln := totL_len l
  have HT := Lib.hid (show ∀ x ∈ l, Enc.tot x ≤ 1048576 from fun x hx => Int.le_trans (totL_mem hx) ht)
  obtain ⟨n, hn⟩ : ∃ n, l.length = n := ⟨_, rfl⟩
  have HN := Lib.hid hn
  have hm : n ≤ 1048576 := by omega
  rw [hn]; clear ht hln hn
  obtain ⟨C, hC, hmk⟩ := run_mk (P := Tryz.prog) Tryz.underlying73 (e := 133) (z := .agg #[.int .i64 0, .int .i64 0]) (size := 2) (bytes := 16) (by kernel_rfl) n (by omega) (by omega)
  have hCz : C.size = n * 2 := by rw [hC, size_madeCells]
  clear hC
  go_enter Tryz.func91, Tryz.ntmps91
  go_wp2_with (first | ((with_reducible refine wp_region_later (by kernel_rfl) (by kernel_rfl) ?_); (repeat (first | go_big_quiet_step (first | fail))); refine wpQuiet_nil ?_; rintro _ ⟨x, rfl⟩))
  clear hmk
  go_loopw [4] (fun v wr => ∃ k : Nat, v = .int .i64 k ∧ k ≤ n ∧ ∃ (D : Array Value) (x : Later (w.alloc (.cells D 133))), D.size = n * 2 ∧ Hid (RowsIn (w.heap.size + 1) x.w D (l.take k)) ∧ wr = x.w) (fun v _ => (n - intOf v).toNat)
  case atStart => exact ⟨0, rfl, by omega, C, Later.here _, hCz, by rw [List.take_zero]; exact RowsIn.nil, rfl⟩
  case round =>
    obtain ⟨k, rfl, hk, D, x, hDz, hf, rfl⟩ := hrel
    by_cases h : k < n
    · have hlk : k < l.length := by have := HN.out; omega
      obtain ⟨eb, eoff, ex, rfl, ehb, ehd, eok, eh0, eh1⟩ := hs.atPair (show k < l.length by omega)
      obtain ⟨o0, g0⟩ := getD_lt hDz (show k * 2 < n * 2 by omega)
      obtain ⟨o1, g1⟩ := getD_lt hDz (show k * 2 + 1 < n * 2 by omega)
      have hte := HT.out ex (List.mem_of_mem_drop (by rw [ehd.out]; exact List.mem_cons_self ..))
      have HEOK := Lib.hid eok; clear eok
      go_wp2_with (first | ((with_reducible refine wp_region_later (by kernel_rfl) (by kernel_rfl) ?_); (repeat (first | go_big_quiet_step (first | fail))); refine wpQuiet_nil ?_; rintro _ ⟨x, rfl⟩))
      refine (d_ltoPair (B := 0) (x := ex) ⟨rfl, HEOK.out⟩ hte).mono ?_
      rintro _ _ ⟨_, rfl, ⟨rfl, -⟩, y, rfl⟩
      clear hte
      go_wp2_with (first | ((with_reducible refine wp_region_later (by kernel_rfl) (by kernel_rfl) ?_); (repeat (first | go_big_quiet_step (first | fail))); refine wpQuiet_nil ?_; rintro _ ⟨x, rfl⟩))
      go_roundw
      case rel =>
        obtain ⟨x2, hx2⟩ := Later.set2_at (x.andThen y) (k * 2) (k * 2 + 1) (.int .i64 ex.Board) (.int .i64 ex.True)
        rw [hx2]
        have hP := RowsIn.put (W' := x2.w) hf.out ehd.out h HN.out hDz (vs := [.int .i64 ex.Board, .int .i64 ex.True]) ⟨rfl, HEOK.out⟩ (by rw [← hx2]; infer_instance)
        exact ⟨k + 1, by go_num, by omega, _, x2, by simpa using hDz, hP, rfl⟩
      case measure => simp [intOf]; omega
    · go_wp2_with (first | ((with_reducible refine wp_region_later (by kernel_rfl) (by kernel_rfl) ?_); (repeat (first | go_big_quiet_step (first | fail))); refine wpQuiet_nil ?_; rintro _ ⟨x, rfl⟩))
      go_ret
      have hf2 := hf.out
      rw [List.take_of_length_le (by have := HN.out; omega)] at hf2
      exact ⟨_, n, by rw [HN.out]; rfl, RowsIn.done x hf2 HN.out hm (by omega), ⟨x.w, Grows.out⟩, rfl⟩

theorem d_lszPairS {B : Nat} {a : Option Addr} {c : Nat} {l : List Pair} {left : Int} {w : World} (hs : RdS B w a c l) (hl : 0 ≤ left) (hl2 : left ≤ 1048576) :
    Calls Tryz.prog 79 #[.slice a l.length c, .int .i64 left] w (Gives w (.int .i64 (szD left (totL l)))) := by
  have hmx := hs.max
  have hln := totL_len l
  obtain ⟨n, hn⟩ : ∃ n, l.length = n := ⟨_, rfl⟩
  rw [hn] at hln hmx
  rw [hn]
  have HN := Lib.hid hn; clear hn
  have htl : totL l = n := by rw [← HN.out]; clear hs HN hmx hln; induction l with | nil => rfl | cons x r ih => simp only [totL, List.length_cons, ih]; show 1 + 0 + _ = _; omega
  rw [htl]; clear htl hln hs
  by_cases h : left - n < 0
  · rw [szD_neg h]
    go_enter Tryz.func79, Tryz.ntmps79
    go_wp2_with (first | ((with_reducible refine wp_region_later (by kernel_rfl) (by kernel_rfl) ?_); (repeat (first | go_big_quiet_step (first | fail))); refine wpQuiet_nil ?_; rintro _ ⟨x, rfl⟩))
    go_ret
    exact Gives.mk rfl
  · rw [szD_pos h]
    go_enter Tryz.func79, Tryz.ntmps79
    go_wp2_with (first | ((with_reducible refine wp_region_later (by kernel_rfl) (by kernel_rfl) ?_); (repeat (first | go_big_quiet_step (first | fail))); refine wpQuiet_nil ?_; rintro _ ⟨x, rfl⟩))
    go_ret
    exact Gives.mk rfl

theorem d_leqPairS {B B2 : Nat} {a a2 : Option Addr} {c c2 : Nat} {l : List Pair} {w : World} (hs : RdS B w a c l) (hs2 : RdS B2 w a2 c2 l) :
    Calls Tryz.prog 104 #[.slice a l.length c, .slice a2 l.length c2] w (Gives w (.bool true)) := by
  have hmx := hs.max
  obtain ⟨n, hn⟩ : ∃ n, l.length = n := ⟨_, rfl⟩
  rw [hn] at hmx
  rw [hn]
  have HN := Lib.hid hn; clear hn
  have kn : ((n : Int) != (n : Int)) = false := by simp
  go_enter Tryz.func104, Tryz.ntmps104
  go_wp2_with (first | ((with_reducible refine wp_region_later (by kernel_rfl) (by kernel_rfl) ?_); (repeat (first | go_big_quiet_step (first | fail) | simp only [kn])); refine wpQuiet_nil ?_; rintro _ ⟨x, rfl⟩))
  go_loopw [5] (fun v wr => ∃ k : Nat, v = .int .i64 k ∧ k ≤ n ∧ ∃ x : Later w, wr = x.w) (fun v _ => (n - intOf v).toNat)
  case atStart => exact ⟨0, rfl, by omega, Later.of⟩
  case round =>
    obtain ⟨k, rfl, hk, x, rfl⟩ := hrel
    by_cases h : k < n
    · have hlk : k < l.length := by have := HN.out; omega
      obtain ⟨eb, eoff, ex, rfl, ehb, ehd, eok, eh0, eh1⟩ := hs.atPair (show k < l.length by omega)
      obtain ⟨fb, foff, fx, rfl, fhb, fhd, fok, fh0, fh1⟩ := hs2.atPair (show k < l.length by omega)
      obtain rfl : ex = fx := by have := ehd.out.symm.trans fhd.out; simpa using this
      clear ehd fhd hlk hs hs2
      have ce : ∀ {W : World} [Grows w W], Calls Tryz.prog 158 #[.agg #[.int .i64 ex.Board, .int .i64 ex.True], .agg #[.int .i64 ex.Board, .int .i64 ex.True]] W (Gives W (.bool true)) := fun {W} _ => d_leqPair (B := 0) (B2 := 0) (x := ex) ⟨rfl, eok⟩ ⟨rfl, fok⟩
      clear eok fok
      go_wp2_with (first | ((with_reducible refine wp_region_later (by kernel_rfl) (by kernel_rfl) ?_); (repeat (first | go_big_quiet_step (first | (go_at_call 158; exact Gives.quiet (ce))))); refine wpQuiet_nil ?_; rintro _ ⟨x, rfl⟩) | (go_at_call 158; refine (ce).mono ?_; rintro _ _ ⟨rfl, x, rfl⟩))
      go_roundw
      case rel => exact ⟨k + 1, by go_num, by omega, Later.of⟩
      case measure => simp [intOf]; omega
    · go_wp2_with (first | ((with_reducible refine wp_region_later (by kernel_rfl) (by kernel_rfl) ?_); (repeat (first | go_big_quiet_step (first | fail))); refine wpQuiet_nil ?_; rintro _ ⟨x, rfl⟩))
      go_ret
      exact Gives.mk rfl

theorem d_ltoOrbit {B : Nat} {vs : List Value} {x : TOrbit} {w : World} (h : Enc.Rd B w vs x) (ht : Enc.tot x ≤ 1048576) :
    Calls Tryz.prog 33 #[.agg vs.toArray] w (GivesD w x) := by
  obtain ⟨rfl, hok⟩ := h
  clear ht
  have HOK := Lib.hid hok; clear hok
  go_enter Tryz.func33, Tryz.ntmps33
  go_wp2_with (first | ((with_reducible refine wp_region_later (by kernel_rfl) (by kernel_rfl) ?_); (repeat (first | go_big_quiet_step (first | fail))); refine wpQuiet_nil ?_; rintro _ ⟨x, rfl⟩))
  refine bodyPost_ret (v := .agg #[.int .i64 x.Period, .int .i64 x.Start, .int .i64 x.Length]) ?_ rfl ⟨[.int .i64 x.Period, .int .i64 x.Start, .int .i64 x.Length], rfl, ⟨rfl, HOK.out⟩, Later.of⟩
  simp [results, Tryz.results33, go_sem]

theorem d_leqOrbit {B B2 : Nat} {vs vs2 : List Value} {x : TOrbit} {w : World} (h : Enc.Rd B w vs x) (h2 : Enc.Rd B2 w vs2 x) :
    Calls Tryz.prog 42 #[.agg vs.toArray, .agg vs2.toArray] w (Gives w (.bool true)) := by
  obtain ⟨rfl, hok⟩ := h
  obtain ⟨rfl, -⟩ := h2
  have HOK := Lib.hid hok; clear hok
  go_enter Tryz.func42, Tryz.ntmps42
  go_wp2_with (first | ((with_reducible refine wp_region_later (by kernel_rfl) (by kernel_rfl) ?_); (repeat (first | go_big_quiet_step (first | fail))); refine wpQuiet_nil ?_; rintro _ ⟨x, rfl⟩))
  go_ret
  exact Gives.mk rfl

theorem d_ltoSlot {B : Nat} {vs : List Value} {x : Slot} {w : World} (h : Enc.Rd B w vs x) (ht : Enc.tot x ≤ 1048576) :
    Calls Tryz.prog 86 #[.agg vs.toArray] w (GivesD w x) := by
  obtain ⟨rfl, hok⟩ := h
  clear ht
  have HOK := Lib.hid hok; clear hok
  go_enter Tryz.func86, Tryz.ntmps86
  go_wp2_with (first | ((with_reducible refine wp_region_later (by kernel_rfl) (by kernel_rfl) ?_); (repeat (first | go_big_quiet_step (first | fail))); refine wpQuiet_nil ?_; rintro _ ⟨x, rfl⟩))
  refine bodyPost_ret (v := .agg #[.int .i64 x.Time, .int .i64 x.Id]) ?_ rfl ⟨[.int .i64 x.Time, .int .i64 x.Id], rfl, ⟨rfl, HOK.out⟩, Later.of⟩
  simp [results, Tryz.results86, go_sem]

theorem d_leqSlot {B B2 : Nat} {vs vs2 : List Value} {x : Slot} {w : World} (h : Enc.Rd B w vs x) (h2 : Enc.Rd B2 w vs2 x) :
    Calls Tryz.prog 99 #[.agg vs.toArray, .agg vs2.toArray] w (Gives w (.bool true)) := by
  obtain ⟨rfl, hok⟩ := h
  obtain ⟨rfl, -⟩ := h2
  have HOK := Lib.hid hok; clear hok
  go_enter Tryz.func99, Tryz.ntmps99
  go_wp2_with (first | ((with_reducible refine wp_region_later (by kernel_rfl) (by kernel_rfl) ?_); (repeat (first | go_big_quiet_step (first | fail))); refine wpQuiet_nil ?_; rintro _ ⟨x, rfl⟩))
  go_ret
  exact Gives.mk rfl

theorem d_ltoSlotS {B : Nat} {a : Option Addr} {c : Nat} {l : List Slot} {w : World} (hs : RdS B w a c l) (ht : totL l ≤ 1048576) :
    Calls Tryz.prog 34 #[.slice a l.length c] w (GivesDS w l) := by
  have hln := totL_len l
  have HT := Lib.hid (show ∀ x ∈ l, Enc.tot x ≤ 1048576 from fun x hx => Int.le_trans (totL_mem hx) ht)
  obtain ⟨n, hn⟩ : ∃ n, l.length = n := ⟨_, rfl⟩
  have HN := Lib.hid hn
  have hm : n ≤ 1048576 := by omega
  rw [hn]; clear ht hln hn
  obtain ⟨C, hC, hmk⟩ := run_mk (P := Tryz.prog) Tryz.underlying65 (e := 160) (z := .agg #[.int .i64 0, .int .i64 0]) (size := 2) (bytes := 16) (by kernel_rfl) n (by omega) (by omega)
  have hCz : C.size = n * 2 := by rw [hC, size_madeCells]
  clear hC
  go_enter Tryz.func34, Tryz.ntmps34
  go_wp2_with (first | ((with_reducible refine wp_region_later (by kernel_rfl) (by kernel_rfl) ?_); (repeat (first | go_big_quiet_step (first | fail))); refine wpQuiet_nil ?_; rintro _ ⟨x, rfl⟩))
  clear hmk
  go_loopw [4] (fun v wr => ∃ k : Nat, v = .int .i64 k ∧ k ≤ n ∧ ∃ (D : Array Value) (x : Later (w.alloc (.cells D 160))), D.size = n * 2 ∧ Hid (RowsIn (w.heap.size + 1) x.w D (l.take k)) ∧ wr = x.w) (fun v _ => (n - intOf v).toNat)
  case atStart => exact ⟨0, rfl, by omega, C, Later.here _, hCz, by rw [List.take_zero]; exact RowsIn.nil, rfl⟩
  case round =>
    obtain ⟨k, rfl, hk, D, x, hDz, hf, rfl⟩ := hrel
    by_cases h : k < n
    · have hlk : k < l.length := by have := HN.out; omega
      obtain ⟨eb, eoff, ex, rfl, ehb, ehd, eok, eh0, eh1⟩ := hs.atSlot (show k < l.length by omega)
      obtain ⟨o0, g0⟩ := getD_lt hDz (show k * 2 < n * 2 by omega)
      obtain ⟨o1, g1⟩ := getD_lt hDz (show k * 2 + 1 < n * 2 by omega)
      have hte := HT.out ex (List.mem_of_mem_drop (by rw [ehd.out]; exact List.mem_cons_self ..))
      have HEOK := Lib.hid eok; clear eok
      go_wp2_with (first | ((with_reducible refine wp_region_later (by kernel_rfl) (by kernel_rfl) ?_); (repeat (first | go_big_quiet_step (first | fail))); refine wpQuiet_nil ?_; rintro _ ⟨x, rfl⟩))
      refine (d_ltoSlot (B := 0) (x := ex) ⟨rfl, HEOK.out⟩ hte).mono ?_
      rintro _ _ ⟨_, rfl, ⟨rfl, -⟩, y, rfl⟩
      clear hte
      go_wp2_with (first | ((with_reducible refine wp_region_later (by kernel_rfl) (by kernel_rfl) ?_); (repeat (first | go_big_quiet_step (first | fail))); refine wpQuiet_nil ?_; rintro _ ⟨x, rfl⟩))
      go_roundw
      case rel =>
        obtain ⟨x2, hx2⟩ := Later.set2_at (x.andThen y) (k * 2) (k * 2 + 1) (.int .i64 ex.Time) (.int .i64 ex.Id)
        rw [hx2]
        have hP := RowsIn.put (W' := x2.w) hf.out ehd.out h HN.out hDz (vs := [.int .i64 ex.Time, .int .i64 ex.Id]) ⟨rfl, HEOK.out⟩ (by rw [← hx2]; infer_instance)
        exact ⟨k + 1, by go_num, by omega, _, x2, by simpa using hDz, hP, rfl⟩
      case measure => simp [intOf]; omega
    · go_wp2_with (first | ((with_reducible refine wp_region_later (by kernel_rfl) (by kernel_rfl) ?_); (repeat (first | go_big_quiet_step (first | fail))); refine wpQuiet_nil ?_; rintro _ ⟨x, rfl⟩))
      go_ret
      have hf2 := hf.out
      rw [List.take_of_length_le (by have := HN.out; omega)] at hf2
      exact ⟨_, n, by rw [HN.out]; rfl, RowsIn.done x hf2 HN.out hm (by omega), ⟨x.w, Grows.out⟩, rfl⟩

theorem d_lszSlotS {B : Nat} {a : Option Addr} {c : Nat} {l : List Slot} {left : Int} {w : World} (hs : RdS B w a c l) (hl : 0 ≤ left) (hl2 : left ≤ 1048576) :
    Calls Tryz.prog 27 #[.slice a l.length c, .int .i64 left] w (Gives w (.int .i64 (szD left (totL l)))) := by
  have hmx := hs.max
  have hln := totL_len l
  obtain ⟨n, hn⟩ : ∃ n, l.length = n := ⟨_, rfl⟩
  rw [hn] at hln hmx
  rw [hn]
  have HN := Lib.hid hn; clear hn
  have htl : totL l = n := by rw [← HN.out]; clear hs HN hmx hln; induction l with | nil => rfl | cons x r ih => simp only [totL, List.length_cons, ih]; show 1 + 0 + _ = _; omega
  rw [htl]; clear htl hln hs
  by_cases h : left - n < 0
  · rw [szD_neg h]
    go_enter Tryz.func27, Tryz.ntmps27
    go_wp2_with (first | ((with_reducible refine wp_region_later (by kernel_rfl) (by kernel_rfl) ?_); (repeat (first | go_big_quiet_step (first | fail))); refine wpQuiet_nil ?_; rintro _ ⟨x, rfl⟩))
    go_ret
    exact Gives.mk rfl
  · rw [szD_pos h]
    go_enter Tryz.func27, Tryz.ntmps27
    go_wp2_with (first | ((with_reducible refine wp_region_later (by kernel_rfl) (by kernel_rfl) ?_); (repeat (first | go_big_quiet_step (first | fail))); refine wpQuiet_nil ?_; rintro _ ⟨x, rfl⟩))
    go_ret
    exact Gives.mk rfl

theorem d_leqSlotS {B B2 : Nat} {a a2 : Option Addr} {c c2 : Nat} {l : List Slot} {w : World} (hs : RdS B w a c l) (hs2 : RdS B2 w a2 c2 l) :
    Calls Tryz.prog 43 #[.slice a l.length c, .slice a2 l.length c2] w (Gives w (.bool true)) := by
  have hmx := hs.max
  obtain ⟨n, hn⟩ : ∃ n, l.length = n := ⟨_, rfl⟩
  rw [hn] at hmx
  rw [hn]
  have HN := Lib.hid hn; clear hn
  have kn : ((n : Int) != (n : Int)) = false := by simp
  go_enter Tryz.func43, Tryz.ntmps43
  go_wp2_with (first | ((with_reducible refine wp_region_later (by kernel_rfl) (by kernel_rfl) ?_); (repeat (first | go_big_quiet_step (first | fail) | simp only [kn])); refine wpQuiet_nil ?_; rintro _ ⟨x, rfl⟩))
  go_loopw [5] (fun v wr => ∃ k : Nat, v = .int .i64 k ∧ k ≤ n ∧ ∃ x : Later w, wr = x.w) (fun v _ => (n - intOf v).toNat)
  case atStart => exact ⟨0, rfl, by omega, Later.of⟩
  case round =>
    obtain ⟨k, rfl, hk, x, rfl⟩ := hrel
    by_cases h : k < n
    · have hlk : k < l.length := by have := HN.out; omega
      obtain ⟨eb, eoff, ex, rfl, ehb, ehd, eok, eh0, eh1⟩ := hs.atSlot (show k < l.length by omega)
      obtain ⟨fb, foff, fx, rfl, fhb, fhd, fok, fh0, fh1⟩ := hs2.atSlot (show k < l.length by omega)
      obtain rfl : ex = fx := by have := ehd.out.symm.trans fhd.out; simpa using this
      clear ehd fhd hlk hs hs2
      have ce : ∀ {W : World} [Grows w W], Calls Tryz.prog 99 #[.agg #[.int .i64 ex.Time, .int .i64 ex.Id], .agg #[.int .i64 ex.Time, .int .i64 ex.Id]] W (Gives W (.bool true)) := fun {W} _ => d_leqSlot (B := 0) (B2 := 0) (x := ex) ⟨rfl, eok⟩ ⟨rfl, fok⟩
      clear eok fok
      go_wp2_with (first | ((with_reducible refine wp_region_later (by kernel_rfl) (by kernel_rfl) ?_); (repeat (first | go_big_quiet_step (first | (go_at_call 99; exact Gives.quiet (ce))))); refine wpQuiet_nil ?_; rintro _ ⟨x, rfl⟩) | (go_at_call 99; refine (ce).mono ?_; rintro _ _ ⟨rfl, x, rfl⟩))
      go_roundw
      case rel => exact ⟨k + 1, by go_num, by omega, Later.of⟩
      case measure => simp [intOf]; omega
    · go_wp2_with (first | ((with_reducible refine wp_region_later (by kernel_rfl) (by kernel_rfl) ?_); (repeat (first | go_big_quiet_step (first | fail))); refine wpQuiet_nil ?_; rintro _ ⟨x, rfl⟩))
      go_ret
      exact Gives.mk rfl

theorem d_ltoFlight {B : Nat} {vs : List Value} {x : TFlight} {w : World} (h : Enc.Rd B w vs x) (ht : Enc.tot x ≤ 1048576) :
    Calls Tryz.prog 87 #[.agg vs.toArray] w (GivesD w x) := by
  obtain ⟨rfl, hok⟩ := h
  clear ht
  have HOK := Lib.hid hok; clear hok
  go_enter Tryz.func87, Tryz.ntmps87
  go_wp2_with (first | ((with_reducible refine wp_region_later (by kernel_rfl) (by kernel_rfl) ?_); (repeat (first | go_big_quiet_step (first | fail))); refine wpQuiet_nil ?_; rintro _ ⟨x, rfl⟩))
  refine bodyPost_ret (v := .agg #[.int .i64 x.At, .string x.Data]) ?_ rfl ⟨[.int .i64 x.At, .string x.Data], rfl, ⟨rfl, HOK.out⟩, Later.of⟩
  simp [results, Tryz.results87, go_sem]

theorem d_lszFlight {B : Nat} {vs : List Value} {x : TFlight} {left : Int} {w : World} (h : Enc.Rd B w vs x) (hl : 0 ≤ left) (hl2 : left ≤ 1048576) :
    Calls Tryz.prog 76 #[.agg vs.toArray, .int .i64 left] w (Gives w (.int .i64 (szD left (Enc.tot x)))) := by
  obtain ⟨rfl, hok⟩ := h
  have n0 : (0 : Int) ≤ x.Data.size := by omega
  have z0 : x.Data.size ≤ 9223372036854775807 := hok.2.1
  have HOK := Lib.hid hok; clear hok
  have htot : Enc.tot x = (x.Data.size : Int) := rfl
  have HTOT := Lib.hid htot; clear htot
  go_enter Tryz.func76, Tryz.ntmps76
  by_cases h0 : left - (x.Data.size : Int) < 0
  · have HV := Lib.hid (show szD left (Enc.tot x) = -1 from szD_neg (by rw [HTOT.out]; omega))
    go_wp2_with (first | ((with_reducible refine wp_region_later (by kernel_rfl) (by kernel_rfl) ?_); (repeat (first | go_big_quiet_step (first | fail))); refine wpQuiet_nil ?_; rintro _ ⟨x, rfl⟩))
    go_ret
    exact Gives.mk (by rw [HV.out]; rfl)
  have HV := Lib.hid (show szD left (Enc.tot x) = left - (x.Data.size : Int) by rw [szD_pos (by rw [HTOT.out]; omega), HTOT.out] <;> omega)
  go_wp2_with (first | ((with_reducible refine wp_region_later (by kernel_rfl) (by kernel_rfl) ?_); (repeat (first | go_big_quiet_step (first | fail))); refine wpQuiet_nil ?_; rintro _ ⟨x, rfl⟩))
  go_ret
  exact Gives.mk (by rw [HV.out]; rfl)

theorem d_leqFlight {B B2 : Nat} {vs vs2 : List Value} {x : TFlight} {w : World} (h : Enc.Rd B w vs x) (h2 : Enc.Rd B2 w vs2 x) :
    Calls Tryz.prog 100 #[.agg vs.toArray, .agg vs2.toArray] w (Gives w (.bool true)) := by
  obtain ⟨rfl, hok⟩ := h
  obtain ⟨rfl, -⟩ := h2
  have HOK := Lib.hid hok; clear hok
  go_enter Tryz.func100, Tryz.ntmps100
  go_wp2_with (first | ((with_reducible refine wp_region_later (by kernel_rfl) (by kernel_rfl) ?_); (repeat (first | go_big_quiet_step (first | fail))); refine wpQuiet_nil ?_; rintro _ ⟨x, rfl⟩))
  go_ret
  exact Gives.mk rfl

theorem d_ltoFlightS {B : Nat} {a : Option Addr} {c : Nat} {l : List TFlight} {w : World} (hs : RdS B w a c l) (ht : totL l ≤ 1048576) :
    Calls Tryz.prog 36 #[.slice a l.length c] w (GivesDS w l) := by
  have hln := totL_len l
  have HT := Lib.hid (show ∀ x ∈ l, Enc.tot x ≤ 1048576 from fun x hx => Int.le_trans (totL_mem hx) ht)
  obtain ⟨n, hn⟩ : ∃ n, l.length = n := ⟨_, rfl⟩
  have HN := Lib.hid hn
  have hm : n ≤ 1048576 := by omega
  rw [hn]; clear ht hln hn
  obtain ⟨C, hC, hmk⟩ := run_mk (P := Tryz.prog) Tryz.underlying67 (e := 163) (z := .agg #[.int .i64 0, .string ByteArray.empty]) (size := 2) (bytes := 24) (by kernel_rfl) n (by omega) (by omega)
  have hCz : C.size = n * 2 := by rw [hC, size_madeCells]
  clear hC
  go_enter Tryz.func36, Tryz.ntmps36
  go_wp2_with (first | ((with_reducible refine wp_region_later (by kernel_rfl) (by kernel_rfl) ?_); (repeat (first | go_big_quiet_step (first | fail))); refine wpQuiet_nil ?_; rintro _ ⟨x, rfl⟩))
  clear hmk
  go_loopw [4] (fun v wr => ∃ k : Nat, v = .int .i64 k ∧ k ≤ n ∧ ∃ (D : Array Value) (x : Later (w.alloc (.cells D 163))), D.size = n * 2 ∧ Hid (RowsIn (w.heap.size + 1) x.w D (l.take k)) ∧ wr = x.w) (fun v _ => (n - intOf v).toNat)
  case atStart => exact ⟨0, rfl, by omega, C, Later.here _, hCz, by rw [List.take_zero]; exact RowsIn.nil, rfl⟩
  case round =>
    obtain ⟨k, rfl, hk, D, x, hDz, hf, rfl⟩ := hrel
    by_cases h : k < n
    · have hlk : k < l.length := by have := HN.out; omega
      obtain ⟨eb, eoff, ex, rfl, ehb, ehd, eok, eh0, eh1⟩ := hs.atTFlight (show k < l.length by omega)
      obtain ⟨o0, g0⟩ := getD_lt hDz (show k * 2 < n * 2 by omega)
      obtain ⟨o1, g1⟩ := getD_lt hDz (show k * 2 + 1 < n * 2 by omega)
      have hte := HT.out ex (List.mem_of_mem_drop (by rw [ehd.out]; exact List.mem_cons_self ..))
      have HEOK := Lib.hid eok; clear eok
      go_wp2_with (first | ((with_reducible refine wp_region_later (by kernel_rfl) (by kernel_rfl) ?_); (repeat (first | go_big_quiet_step (first | fail))); refine wpQuiet_nil ?_; rintro _ ⟨x, rfl⟩))
      refine (d_ltoFlight (B := 0) (x := ex) ⟨rfl, HEOK.out⟩ hte).mono ?_
      rintro _ _ ⟨_, rfl, ⟨rfl, -⟩, y, rfl⟩
      clear hte
      go_wp2_with (first | ((with_reducible refine wp_region_later (by kernel_rfl) (by kernel_rfl) ?_); (repeat (first | go_big_quiet_step (first | fail))); refine wpQuiet_nil ?_; rintro _ ⟨x, rfl⟩))
      go_roundw
      case rel =>
        obtain ⟨x2, hx2⟩ := Later.set2_at (x.andThen y) (k * 2) (k * 2 + 1) (.int .i64 ex.At) (.string ex.Data)
        rw [hx2]
        have hP := RowsIn.put (W' := x2.w) hf.out ehd.out h HN.out hDz (vs := [.int .i64 ex.At, .string ex.Data]) ⟨rfl, HEOK.out⟩ (by rw [← hx2]; infer_instance)
        exact ⟨k + 1, by go_num, by omega, _, x2, by simpa using hDz, hP, rfl⟩
      case measure => simp [intOf]; omega
    · go_wp2_with (first | ((with_reducible refine wp_region_later (by kernel_rfl) (by kernel_rfl) ?_); (repeat (first | go_big_quiet_step (first | fail))); refine wpQuiet_nil ?_; rintro _ ⟨x, rfl⟩))
      go_ret
      have hf2 := hf.out
      rw [List.take_of_length_le (by have := HN.out; omega)] at hf2
      exact ⟨_, n, by rw [HN.out]; rfl, RowsIn.done x hf2 HN.out hm (by omega), ⟨x.w, Grows.out⟩, rfl⟩

set_option maxRecDepth 100000 in
set_option maxHeartbeats 2000000 in
theorem d_lszFlightS {B : Nat} {a : Option Addr} {c : Nat} {l : List TFlight} {left : Int} {w : World} (hs : RdS B w a c l) (hl : 0 ≤ left) (hl2 : left ≤ 1048576) :
    Calls Tryz.prog 28 #[.slice a l.length c, .int .i64 left] w (Gives w (.int .i64 (szD left (totL l)))) := by
  have hmx := hs.max
  have hln := totL_len l
  obtain ⟨n, hn⟩ : ∃ n, l.length = n := ⟨_, rfl⟩
  rw [hn] at hln hmx
  rw [hn]
  have HN := Lib.hid hn; clear hn
  by_cases h : left - n < 0
  · have HV := Lib.hid (show szD left (totL l) = -1 from szD_neg (by omega))
    go_enter Tryz.func28, Tryz.ntmps28
    go_wp2_with (first | ((with_reducible refine wp_region_later (by kernel_rfl) (by kernel_rfl) ?_); (repeat (first | go_big_quiet_step (first | fail))); refine wpQuiet_nil ?_; rintro _ ⟨x, rfl⟩))
    go_ret
    exact Gives.mk (by rw [HV.out]; rfl)
  · go_enter Tryz.func28, Tryz.ntmps28
    go_wp2_with (first | ((with_reducible refine wp_region_later (by kernel_rfl) (by kernel_rfl) ?_); (repeat (first | go_big_quiet_step (first | fail))); refine wpQuiet_nil ?_; rintro _ ⟨x, rfl⟩))
    go_loopw [1, 5] (fun u v wr => ∃ (k : Nat) (r : Int), v = .int .i64 k ∧ u = .int .i64 r ∧ k ≤ n ∧ 0 ≤ r ∧ r ≤ 1048576 ∧ Hid (r - totL (l.drop k) + (n - k) = left - totL l) ∧ ∃ x : Later w, wr = x.w) (fun _ v _ => (n - intOf v).toNat)
    case atStart => exact ⟨0, left - n, rfl, by go_num, by omega, by omega, by omega, by unfold Hid; rw [List.drop_zero]; omega, Later.of⟩
    case round =>
      obtain ⟨k, r, rfl, rfl, hk, hr, hr2, hf, x, rfl⟩ := hrel
      by_cases h2 : k < n
      · have hlk : k < l.length := by have := HN.out; omega
        obtain ⟨eb, eoff, ex, rfl, ehb, ehd, eok, eh0, eh1⟩ := hs.atTFlight (show k < l.length by omega)
        have hd2 := totL_len (l.drop (k + 1))
        have HD2 := Lib.hid (show ((n : Int) - k - 1 ≤ totL (l.drop (k + 1))) by rw [List.length_drop, HN.out] at hd2; omega); clear hd2 hlk
        have ht0 := Enc.tot_nonneg ex
        obtain ⟨t, htt⟩ : ∃ t, Enc.tot ex = t := ⟨_, rfl⟩
        have hf2 : Hid (r - (1 + t + totL (l.drop (k + 1))) + (n - k) = left - totL l) := by
          have := hf.out; rw [ehd.out] at this; rw [← htt]; exact this
        rw [htt] at ht0
        have HTT := Lib.hid htt; clear htt hf
        have HEOK := Lib.hid eok; clear eok
        go_wp2_with (first | ((with_reducible refine wp_region_later (by kernel_rfl) (by kernel_rfl) ?_); (repeat (first | go_big_quiet_step (first | fail))); refine wpQuiet_nil ?_; rintro _ ⟨x, rfl⟩))
        refine (d_lszFlight (B := 0) (x := ex) ⟨rfl, HEOK.out⟩ (by omega) (by omega)).mono ?_
        rintro _ _ ⟨rfl, y, rfl⟩
        rw [HTT.out]
        by_cases h3 : r - t < 0
        · have HV := Lib.hid (show szD left (totL l) = -1 from szD_neg (by have h7 := hf2.out; have h8 := HD2.out; omega))
          rw [szD_neg h3]
          go_wp2_with (first | ((with_reducible refine wp_region_later (by kernel_rfl) (by kernel_rfl) ?_); (repeat (first | go_big_quiet_step (first | fail))); refine wpQuiet_nil ?_; rintro _ ⟨x, rfl⟩))
          go_ret
          exact Gives.mk (by rw [HV.out]; rfl)
        · rw [szD_pos h3]
          go_wp2_with (first | ((with_reducible refine wp_region_later (by kernel_rfl) (by kernel_rfl) ?_); (repeat (first | go_big_quiet_step (first | fail))); refine wpQuiet_nil ?_; rintro _ ⟨x, rfl⟩))
          go_roundw
          case rel => exact ⟨k + 1, r - t, by go_num, by go_num, by omega, by omega, by omega, by have h7 := hf2.out; unfold Hid; omega, Later.of⟩
          case measure => simp [intOf]; omega
      · have HV := Lib.hid (show szD left (totL l) = r by
          have h7 := hf.out
          rw [List.drop_of_length_le (by have := HN.out; omega)] at h7
          simp only [totL] at h7
          rw [szD_pos (by omega)]; omega)
        go_wp2_with (first | ((with_reducible refine wp_region_later (by kernel_rfl) (by kernel_rfl) ?_); (repeat (first | go_big_quiet_step (first | fail))); refine wpQuiet_nil ?_; rintro _ ⟨x, rfl⟩))
        go_ret
        exact Gives.mk (by rw [HV.out]; rfl)

theorem d_leqFlightS {B B2 : Nat} {a a2 : Option Addr} {c c2 : Nat} {l : List TFlight} {w : World} (hs : RdS B w a c l) (hs2 : RdS B2 w a2 c2 l) :
    Calls Tryz.prog 45 #[.slice a l.length c, .slice a2 l.length c2] w (Gives w (.bool true)) := by
  have hmx := hs.max
  obtain ⟨n, hn⟩ : ∃ n, l.length = n := ⟨_, rfl⟩
  rw [hn] at hmx
  rw [hn]
  have HN := Lib.hid hn; clear hn
  have kn : ((n : Int) != (n : Int)) = false := by simp
  go_enter Tryz.func45, Tryz.ntmps45
  go_wp2_with (first | ((with_reducible refine wp_region_later (by kernel_rfl) (by kernel_rfl) ?_); (repeat (first | go_big_quiet_step (first | fail) | simp only [kn])); refine wpQuiet_nil ?_; rintro _ ⟨x, rfl⟩))
  go_loopw [5] (fun v wr => ∃ k : Nat, v = .int .i64 k ∧ k ≤ n ∧ ∃ x : Later w, wr = x.w) (fun v _ => (n - intOf v).toNat)
  case atStart => exact ⟨0, rfl, by omega, Later.of⟩
  case round =>
    obtain ⟨k, rfl, hk, x, rfl⟩ := hrel
    by_cases h : k < n
    · have hlk : k < l.length := by have := HN.out; omega
      obtain ⟨eb, eoff, ex, rfl, ehb, ehd, eok, eh0, eh1⟩ := hs.atTFlight (show k < l.length by omega)
      obtain ⟨fb, foff, fx, rfl, fhb, fhd, fok, fh0, fh1⟩ := hs2.atTFlight (show k < l.length by omega)
      obtain rfl : ex = fx := by have := ehd.out.symm.trans fhd.out; simpa using this
      clear ehd fhd hlk hs hs2
      have ce : ∀ {W : World} [Grows w W], Calls Tryz.prog 100 #[.agg #[.int .i64 ex.At, .string ex.Data], .agg #[.int .i64 ex.At, .string ex.Data]] W (Gives W (.bool true)) := fun {W} _ => d_leqFlight (B := 0) (B2 := 0) (x := ex) ⟨rfl, eok⟩ ⟨rfl, fok⟩
      clear eok fok
      go_wp2_with (first | ((with_reducible refine wp_region_later (by kernel_rfl) (by kernel_rfl) ?_); (repeat (first | go_big_quiet_step (first | (go_at_call 100; exact Gives.quiet (ce))))); refine wpQuiet_nil ?_; rintro _ ⟨x, rfl⟩) | (go_at_call 100; refine (ce).mono ?_; rintro _ _ ⟨rfl, x, rfl⟩))
      go_roundw
      case rel => exact ⟨k + 1, by go_num, by omega, Later.of⟩
      case measure => simp [intOf]; omega
    · go_wp2_with (first | ((with_reducible refine wp_region_later (by kernel_rfl) (by kernel_rfl) ?_); (repeat (first | go_big_quiet_step (first | fail))); refine wpQuiet_nil ?_; rintro _ ⟨x, rfl⟩))
      go_ret
      exact Gives.mk rfl

theorem d_ltoUnpacker {B : Nat} {vs : List Value} {x : TUnpacker} {w : World} (h : Enc.Rd B w vs x) (ht : Enc.tot x ≤ 1048576) :
    Calls Tryz.prog 90 #[.agg vs.toArray] w (GivesD w x) := by
  obtain ⟨rfl, hok⟩ := h
  clear ht
  have HOK := Lib.hid hok; clear hok
  go_enter Tryz.func90, Tryz.ntmps90
  go_wp2_with (first | ((with_reducible refine wp_region_later (by kernel_rfl) (by kernel_rfl) ?_); (repeat (first | go_big_quiet_step (first | fail))); refine wpQuiet_nil ?_; rintro _ ⟨x, rfl⟩))
  refine bodyPost_ret (v := .agg #[.int .i64 x.Channel, .int .i64 x.Next, .bool x.Synced, .string x.Rest, .int .i64 x.Lost]) ?_ rfl ⟨[.int .i64 x.Channel, .int .i64 x.Next, .bool x.Synced, .string x.Rest, .int .i64 x.Lost], rfl, ⟨rfl, HOK.out⟩, Later.of⟩
  simp [results, Tryz.results90, go_sem]

theorem d_lszUnpacker {B : Nat} {vs : List Value} {x : TUnpacker} {left : Int} {w : World} (h : Enc.Rd B w vs x) (hl : 0 ≤ left) (hl2 : left ≤ 1048576) :
    Calls Tryz.prog 78 #[.agg vs.toArray, .int .i64 left] w (Gives w (.int .i64 (szD left (Enc.tot x)))) := by
  obtain ⟨rfl, hok⟩ := h
  have n0 : (0 : Int) ≤ x.Rest.size := by omega
  have z0 : x.Rest.size ≤ 9223372036854775807 := hok.2.2.1
  have HOK := Lib.hid hok; clear hok
  have htot : Enc.tot x = (x.Rest.size : Int) := rfl
  have HTOT := Lib.hid htot; clear htot
  go_enter Tryz.func78, Tryz.ntmps78
  by_cases h0 : left - (x.Rest.size : Int) < 0
  · have HV := Lib.hid (show szD left (Enc.tot x) = -1 from szD_neg (by rw [HTOT.out]; omega))
    go_wp2_with (first | ((with_reducible refine wp_region_later (by kernel_rfl) (by kernel_rfl) ?_); (repeat (first | go_big_quiet_step (first | fail))); refine wpQuiet_nil ?_; rintro _ ⟨x, rfl⟩))
    go_ret
    exact Gives.mk (by rw [HV.out]; rfl)
  have HV := Lib.hid (show szD left (Enc.tot x) = left - (x.Rest.size : Int) by rw [szD_pos (by rw [HTOT.out]; omega), HTOT.out] <;> omega)
  go_wp2_with (first | ((with_reducible refine wp_region_later (by kernel_rfl) (by kernel_rfl) ?_); (repeat (first | go_big_quiet_step (first | fail))); refine wpQuiet_nil ?_; rintro _ ⟨x, rfl⟩))
  go_ret
  exact Gives.mk (by rw [HV.out]; rfl)

theorem d_leqUnpacker {B B2 : Nat} {vs vs2 : List Value} {x : TUnpacker} {w : World} (h : Enc.Rd B w vs x) (h2 : Enc.Rd B2 w vs2 x) :
    Calls Tryz.prog 103 #[.agg vs.toArray, .agg vs2.toArray] w (Gives w (.bool true)) := by
  obtain ⟨rfl, hok⟩ := h
  obtain ⟨rfl, -⟩ := h2
  have HOK := Lib.hid hok; clear hok
  go_enter Tryz.func103, Tryz.ntmps103
  go_wp2_with (first | ((with_reducible refine wp_region_later (by kernel_rfl) (by kernel_rfl) ?_); (repeat (first | go_big_quiet_step (first | fail))); refine wpQuiet_nil ?_; rintro _ ⟨x, rfl⟩))
  go_ret
  exact Gives.mk rfl

end Go.Proofs.YtdankjbkioepgaaGreat
