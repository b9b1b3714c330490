/- The contracts of the mirrors, sizes and equalities of waiting orders. No condition but on sizes. -/
import Derived.Test.YtdankjbkioepgaaGreatDF1
namespace Go.Proofs.YtdankjbkioepgaaGreat
set_option linter.unusedVariables false
open Go.ChangeShapes Go.WideShapes Go.ChangeAt Go.RowKit

theorem d_ltoWaiting {B : Nat} {vs : List Value} {x : TWaiting} {w : World} (h : Enc.Rd B w vs x) (ht : Enc.tot x ≤ 1048576) :
    Calls Tryz.prog 176 #[.agg vs.toArray] w (GivesD w x) := by
  obtain ⟨rfl, hok⟩ := h
  clear ht
  have HOK := Lib.hid hok; clear hok
  go_enter Tryz.func176, Tryz.ntmps176
  go_wp2_with (first | ((with_reducible refine wp_region_later (by kernel_rfl) (by kernel_rfl) ?_); (repeat (first | go_big_quiet_step (first | fail))); refine wpQuiet_nil ?_; rintro _ ⟨x, rfl⟩))
  refine (d_ltoOrder (B := 0) (x := x.Order) ⟨rfl, HOK.out.2.1⟩ (show (0 : Int) ≤ 1048576 by omega)).mono ?_
  rintro _ _ ⟨_, rfl, ⟨rfl, -⟩, y0, rfl⟩
  go_wp2_with (first | ((with_reducible refine wp_region_later (by kernel_rfl) (by kernel_rfl) ?_); (repeat (first | go_big_quiet_step (first | fail))); refine wpQuiet_nil ?_; rintro _ ⟨x, rfl⟩))
  refine bodyPost_ret (v := .agg #[.int .i64 x.Number, .int .i64 x.Order.Kind, .int .i64 x.Order.At, .int .i64 x.Order.A, .int .i64 x.Order.B]) ?_ rfl ⟨[.int .i64 x.Number, .int .i64 x.Order.Kind, .int .i64 x.Order.At, .int .i64 x.Order.A, .int .i64 x.Order.B], rfl, ⟨rfl, HOK.out⟩, Later.of⟩
  simp [results, Tryz.results176, go_sem]

theorem d_leqWaiting {B B2 : Nat} {vs vs2 : List Value} {x : TWaiting} {w : World} (h : Enc.Rd B w vs x) (h2 : Enc.Rd B2 w vs2 x) :
    Calls Tryz.prog 180 #[.agg vs.toArray, .agg vs2.toArray] w (Gives w (.bool true)) := by
  obtain ⟨rfl, hok⟩ := h
  obtain ⟨rfl, -⟩ := h2
  have HOK := Lib.hid hok; clear hok
  go_enter Tryz.func180, Tryz.ntmps180
  go_wp2_with (first | ((with_reducible refine wp_region_later (by kernel_rfl) (by kernel_rfl) ?_); (repeat (first | go_big_quiet_step (first | fail))); refine wpQuiet_nil ?_; rintro _ ⟨x, rfl⟩))
  refine (d_leqOrder (B := 0) (B2 := 0) (x := x.Order) ⟨rfl, HOK.out.2.1⟩ ⟨rfl, HOK.out.2.1⟩).mono ?_
  rintro _ _ ⟨rfl, y0, rfl⟩
  go_wp2_with (first | ((with_reducible refine wp_region_later (by kernel_rfl) (by kernel_rfl) ?_); (repeat (first | go_big_quiet_step (first | fail))); refine wpQuiet_nil ?_; rintro _ ⟨x, rfl⟩))
  go_ret
  exact Gives.mk rfl

theorem d_ltoWaitingS {B : Nat} {a : Option Addr} {c : Nat} {l : List TWaiting} {w : World} (hs : RdS B w a c l) (ht : totL l ≤ 1048576) :
    Calls Tryz.prog 153 #[.slice a l.length c] w (GivesDS w l) := by
  have hln := totL_len l
  have HT := Lib.hid (show ∀ x ∈ l, Enc.tot x ≤ 1048576 from fun x hx => Int.le_trans (totL_mem hx) ht)
  obtain ⟨n, hn⟩ : ∃ n, l.length = n := ⟨_, rfl⟩
  have HN := Lib.hid hn
  have hm : n ≤ 1048576 := by omega
  rw [hn]; clear ht hln hn
  obtain ⟨C, hC, hmk⟩ := run_mk (P := Tryz.prog) Tryz.underlying80 (e := 119) (z := .agg #[.int .i64 0, .int .i64 0, .int .i64 0, .int .i64 0, .int .i64 0]) (size := 5) (bytes := 40) (by kernel_rfl) n (by omega) (by omega)
  have hCz : C.size = n * 5 := by rw [hC, size_madeCells]
  clear hC
  go_enter Tryz.func153, Tryz.ntmps153
  go_wp2_with (first | ((with_reducible refine wp_region_later (by kernel_rfl) (by kernel_rfl) ?_); (repeat (first | go_big_quiet_step (first | fail))); refine wpQuiet_nil ?_; rintro _ ⟨x, rfl⟩))
  clear hmk
  go_loopw [4] (fun v wr => ∃ k : Nat, v = .int .i64 k ∧ k ≤ n ∧ ∃ (D : Array Value) (x : Later (w.alloc (.cells D 119))), D.size = n * 5 ∧ Hid (RowsIn (w.heap.size + 1) x.w D (l.take k)) ∧ wr = x.w) (fun v _ => (n - intOf v).toNat)
  case atStart => exact ⟨0, rfl, by omega, C, Later.here _, hCz, by rw [List.take_zero]; exact RowsIn.nil, rfl⟩
  case round =>
    obtain ⟨k, rfl, hk, D, x, hDz, hf, rfl⟩ := hrel
    by_cases h : k < n
    · have hlk : k < l.length := by have := HN.out; omega
      obtain ⟨eb, eoff, ex, rfl, ehb, ehd, eok, eh0, eh1, eh2, eh3, eh4⟩ := hs.atTWaiting (show k < l.length by omega)
      obtain ⟨o0, g0⟩ := getD_lt hDz (show k * 5 < n * 5 by omega)
      obtain ⟨o1, g1⟩ := getD_lt hDz (show k * 5 + 1 < n * 5 by omega)
      obtain ⟨o2, g2⟩ := getD_lt hDz (show k * 5 + 2 < n * 5 by omega)
      obtain ⟨o3, g3⟩ := getD_lt hDz (show k * 5 + 3 < n * 5 by omega)
      obtain ⟨o4, g4⟩ := getD_lt hDz (show k * 5 + 4 < n * 5 by omega)
      have hte := HT.out ex (List.mem_of_mem_drop (by rw [ehd.out]; exact List.mem_cons_self ..))
      have HEOK := Lib.hid eok; clear eok
      go_wp2_with (first | ((with_reducible refine wp_region_later (by kernel_rfl) (by kernel_rfl) ?_); (repeat (first | go_big_quiet_step (first | fail))); refine wpQuiet_nil ?_; rintro _ ⟨x, rfl⟩))
      refine (d_ltoWaiting (B := 0) (x := ex) ⟨rfl, HEOK.out⟩ hte).mono ?_
      rintro _ _ ⟨_, rfl, ⟨rfl, -⟩, y, rfl⟩
      clear hte
      go_wp2_with (first | ((with_reducible refine wp_region_later (by kernel_rfl) (by kernel_rfl) ?_); (repeat (first | go_big_quiet_step (first | fail))); refine wpQuiet_nil ?_; rintro _ ⟨x, rfl⟩))
      go_roundw
      case rel =>
        obtain ⟨x2, hx2⟩ := Later.set5_at (x.andThen y) (k * 5) (k * 5 + 1) (k * 5 + 2) (k * 5 + 3) (k * 5 + 4) (.int .i64 ex.Number) (.int .i64 ex.Order.Kind) (.int .i64 ex.Order.At) (.int .i64 ex.Order.A) (.int .i64 ex.Order.B)
        rw [hx2]
        have hP := RowsIn.put (W' := x2.w) hf.out ehd.out h HN.out hDz (vs := [.int .i64 ex.Number, .int .i64 ex.Order.Kind, .int .i64 ex.Order.At, .int .i64 ex.Order.A, .int .i64 ex.Order.B]) ⟨rfl, HEOK.out⟩ (by rw [← hx2]; infer_instance)
        exact ⟨k + 1, by go_num, by omega, _, x2, by simpa using hDz, hP, rfl⟩
      case measure => simp [intOf]; omega
    · go_wp2_with (first | ((with_reducible refine wp_region_later (by kernel_rfl) (by kernel_rfl) ?_); (repeat (first | go_big_quiet_step (first | fail))); refine wpQuiet_nil ?_; rintro _ ⟨x, rfl⟩))
      go_ret
      have hf2 := hf.out
      rw [List.take_of_length_le (by have := HN.out; omega)] at hf2
      exact ⟨_, n, by rw [HN.out]; rfl, RowsIn.done x hf2 HN.out hm (by omega), ⟨x.w, Grows.out⟩, rfl⟩

theorem d_lszWaitingS {B : Nat} {a : Option Addr} {c : Nat} {l : List TWaiting} {left : Int} {w : World} (hs : RdS B w a c l) (hl : 0 ≤ left) (hl2 : left ≤ 1048576) :
    Calls Tryz.prog 143 #[.slice a l.length c, .int .i64 left] w (Gives w (.int .i64 (szD left (totL l)))) := by
  have hmx := hs.max
  have hln := totL_len l
  obtain ⟨n, hn⟩ : ∃ n, l.length = n := ⟨_, rfl⟩
  rw [hn] at hln hmx
  rw [hn]
  have HN := Lib.hid hn; clear hn
  have htl : totL l = n := by rw [← HN.out]; clear hs HN hmx hln; induction l with | nil => rfl | cons x r ih => simp only [totL, List.length_cons, ih]; show 1 + 0 + _ = _; omega
  rw [htl]; clear htl hln hs
  by_cases h : left - n < 0
  · rw [szD_neg h]
    go_enter Tryz.func143, Tryz.ntmps143
    go_wp2_with (first | ((with_reducible refine wp_region_later (by kernel_rfl) (by kernel_rfl) ?_); (repeat (first | go_big_quiet_step (first | fail))); refine wpQuiet_nil ?_; rintro _ ⟨x, rfl⟩))
    go_ret
    exact Gives.mk rfl
  · rw [szD_pos h]
    go_enter Tryz.func143, Tryz.ntmps143
    go_wp2_with (first | ((with_reducible refine wp_region_later (by kernel_rfl) (by kernel_rfl) ?_); (repeat (first | go_big_quiet_step (first | fail))); refine wpQuiet_nil ?_; rintro _ ⟨x, rfl⟩))
    go_ret
    exact Gives.mk rfl

theorem d_leqWaitingS {B B2 : Nat} {a a2 : Option Addr} {c c2 : Nat} {l : List TWaiting} {w : World} (hs : RdS B w a c l) (hs2 : RdS B2 w a2 c2 l) :
    Calls Tryz.prog 163 #[.slice a l.length c, .slice a2 l.length c2] w (Gives w (.bool true)) := by
  have hmx := hs.max
  obtain ⟨n, hn⟩ : ∃ n, l.length = n := ⟨_, rfl⟩
  rw [hn] at hmx
  rw [hn]
  have HN := Lib.hid hn; clear hn
  have kn : ((n : Int) != (n : Int)) = false := by simp
  go_enter Tryz.func163, Tryz.ntmps163
  go_wp2_with (first | ((with_reducible refine wp_region_later (by kernel_rfl) (by kernel_rfl) ?_); (repeat (first | go_big_quiet_step (first | fail) | simp only [kn])); refine wpQuiet_nil ?_; rintro _ ⟨x, rfl⟩))
  go_loopw [5] (fun v wr => ∃ k : Nat, v = .int .i64 k ∧ k ≤ n ∧ ∃ x : Later w, wr = x.w) (fun v _ => (n - intOf v).toNat)
  case atStart => exact ⟨0, rfl, by omega, Later.of⟩
  case round =>
    obtain ⟨k, rfl, hk, x, rfl⟩ := hrel
    by_cases h : k < n
    · have hlk : k < l.length := by have := HN.out; omega
      obtain ⟨eb, eoff, ex, rfl, ehb, ehd, eok, eh0, eh1, eh2, eh3, eh4⟩ := hs.atTWaiting (show k < l.length by omega)
      obtain ⟨fb, foff, fx, rfl, fhb, fhd, fok, fh0, fh1, fh2, fh3, fh4⟩ := hs2.atTWaiting (show k < l.length by omega)
      obtain rfl : ex = fx := by have := ehd.out.symm.trans fhd.out; simpa using this
      clear ehd fhd hlk hs hs2
      have ce : ∀ {W : World} [Grows w W], Calls Tryz.prog 180 #[.agg #[.int .i64 ex.Number, .int .i64 ex.Order.Kind, .int .i64 ex.Order.At, .int .i64 ex.Order.A, .int .i64 ex.Order.B], .agg #[.int .i64 ex.Number, .int .i64 ex.Order.Kind, .int .i64 ex.Order.At, .int .i64 ex.Order.A, .int .i64 ex.Order.B]] W (Gives W (.bool true)) := fun {W} _ => d_leqWaiting (B := 0) (B2 := 0) (x := ex) ⟨rfl, eok⟩ ⟨rfl, fok⟩
      clear eok fok
      go_wp2_with (first | ((with_reducible refine wp_region_later (by kernel_rfl) (by kernel_rfl) ?_); (repeat (first | go_big_quiet_step (first | (go_at_call 180; exact Gives.quiet (ce))))); refine wpQuiet_nil ?_; rintro _ ⟨x, rfl⟩) | (go_at_call 180; refine (ce).mono ?_; rintro _ _ ⟨rfl, x, rfl⟩))
      go_roundw
      case rel => exact ⟨k + 1, by go_num, by omega, Later.of⟩
      case measure => simp [intOf]; omega
    · go_wp2_with (first | ((with_reducible refine wp_region_later (by kernel_rfl) (by kernel_rfl) ?_); (repeat (first | go_big_quiet_step (first | fail))); refine wpQuiet_nil ?_; rintro _ ⟨x, rfl⟩))
      go_ret
      exact Gives.mk rfl

end Go.Proofs.YtdankjbkioepgaaGreat
