/- The contracts of the mirrors, sizes and equalities of flat structs (1). No condition but on sizes. -/
import Derived.Test.YtdankjbkioepgaaGreatVM2
namespace Go.Proofs.YtdankjbkioepgaaGreat
set_option linter.unusedVariables false
open Go.ChangeShapes Go.WideShapes Go.ChangeAt Go.RowKit

theorem d_ltoChannel {B : Nat} {vs : List Value} {x : TChannel} {w : World} (h : Enc.Rd B w vs x) (ht : Enc.tot x ≤ 1048576) :
    Calls Tryz.prog 35 #[.agg vs.toArray] w (GivesD w x) := by
  obtain ⟨rfl, hok⟩ := h
  clear ht
  have HOK := Lib.hid hok; clear hok
  go_enter Tryz.func35, Tryz.ntmps35
  go_wp2_with (first | ((with_reducible refine wp_region_later (by kernel_rfl) (by kernel_rfl) ?_); (repeat (first | go_big_quiet_step (first | fail))); refine wpQuiet_nil ?_; rintro _ ⟨x, rfl⟩))
  refine bodyPost_ret (v := .agg #[.int .i64 x.Seed, .int .i64 x.Burst, .int .i64 x.Loss]) ?_ rfl ⟨[.int .i64 x.Seed, .int .i64 x.Burst, .int .i64 x.Loss], rfl, ⟨rfl, HOK.out⟩, Later.of⟩
  simp [results, Tryz.results35, go_sem]

theorem d_leqChannel {B B2 : Nat} {vs vs2 : List Value} {x : TChannel} {w : World} (h : Enc.Rd B w vs x) (h2 : Enc.Rd B2 w vs2 x) :
    Calls Tryz.prog 44 #[.agg vs.toArray, .agg vs2.toArray] w (Gives w (.bool true)) := by
  obtain ⟨rfl, hok⟩ := h
  obtain ⟨rfl, -⟩ := h2
  have HOK := Lib.hid hok; clear hok
  go_enter Tryz.func44, Tryz.ntmps44
  go_wp2_with (first | ((with_reducible refine wp_region_later (by kernel_rfl) (by kernel_rfl) ?_); (repeat (first | go_big_quiet_step (first | fail))); refine wpQuiet_nil ?_; rintro _ ⟨x, rfl⟩))
  go_ret
  exact Gives.mk rfl

theorem d_ltoSent {B : Nat} {vs : List Value} {x : TSent} {w : World} (h : Enc.Rd B w vs x) (ht : Enc.tot x ≤ 1048576) :
    Calls Tryz.prog 174 #[.agg vs.toArray] w (GivesD w x) := by
  obtain ⟨rfl, hok⟩ := h
  clear ht
  have HOK := Lib.hid hok; clear hok
  go_enter Tryz.func174, Tryz.ntmps174
  go_wp2_with (first | ((with_reducible refine wp_region_later (by kernel_rfl) (by kernel_rfl) ?_); (repeat (first | go_big_quiet_step (first | fail))); refine wpQuiet_nil ?_; rintro _ ⟨x, rfl⟩))
  refine bodyPost_ret (v := .agg #[.int .i64 x.Seq, .string x.Data]) ?_ rfl ⟨[.int .i64 x.Seq, .string x.Data], rfl, ⟨rfl, HOK.out⟩, Later.of⟩
  simp [results, Tryz.results174, go_sem]

theorem d_lszSent {B : Nat} {vs : List Value} {x : TSent} {left : Int} {w : World} (h : Enc.Rd B w vs x) (hl : 0 ≤ left) (hl2 : left ≤ 1048576) :
    Calls Tryz.prog 173 #[.agg vs.toArray, .int .i64 left] w (Gives w (.int .i64 (szD left (Enc.tot x)))) := by
  obtain ⟨rfl, hok⟩ := h
  have n0 : (0 : Int) ≤ x.Data.size := by omega
  have z0 : x.Data.size ≤ 9223372036854775807 := hok.2.1
  have HOK := Lib.hid hok; clear hok
  have htot : Enc.tot x = (x.Data.size : Int) := rfl
  have HTOT := Lib.hid htot; clear htot
  go_enter Tryz.func173, Tryz.ntmps173
  by_cases h0 : left - (x.Data.size : Int) < 0
  · have HV := Lib.hid (show szD left (Enc.tot x) = -1 from szD_neg (by rw [HTOT.out]; omega))
    go_wp2_with (first | ((with_reducible refine wp_region_later (by kernel_rfl) (by kernel_rfl) ?_); (repeat (first | go_big_quiet_step (first | fail))); refine wpQuiet_nil ?_; rintro _ ⟨x, rfl⟩))
    go_ret
    exact Gives.mk (by rw [HV.out]; rfl)
  have HV := Lib.hid (show szD left (Enc.tot x) = left - (x.Data.size : Int) by rw [szD_pos (by rw [HTOT.out]; omega), HTOT.out] <;> omega)
  go_wp2_with (first | ((with_reducible refine wp_region_later (by kernel_rfl) (by kernel_rfl) ?_); (repeat (first | go_big_quiet_step (first | fail))); refine wpQuiet_nil ?_; rintro _ ⟨x, rfl⟩))
  go_ret
  exact Gives.mk (by rw [HV.out]; rfl)

theorem d_leqSent {B B2 : Nat} {vs vs2 : List Value} {x : TSent} {w : World} (h : Enc.Rd B w vs x) (h2 : Enc.Rd B2 w vs2 x) :
    Calls Tryz.prog 178 #[.agg vs.toArray, .agg vs2.toArray] w (Gives w (.bool true)) := by
  obtain ⟨rfl, hok⟩ := h
  obtain ⟨rfl, -⟩ := h2
  have HOK := Lib.hid hok; clear hok
  go_enter Tryz.func178, Tryz.ntmps178
  go_wp2_with (first | ((with_reducible refine wp_region_later (by kernel_rfl) (by kernel_rfl) ?_); (repeat (first | go_big_quiet_step (first | fail))); refine wpQuiet_nil ?_; rintro _ ⟨x, rfl⟩))
  go_ret
  exact Gives.mk rfl

theorem d_ltoSentS {B : Nat} {a : Option Addr} {c : Nat} {l : List TSent} {w : World} (hs : RdS B w a c l) (ht : totL l ≤ 1048576) :
    Calls Tryz.prog 147 #[.slice a l.length c] w (GivesDS w l) := by
  have hln := totL_len l
  have HT := Lib.hid (show ∀ x ∈ l, Enc.tot x ≤ 1048576 from fun x hx => Int.le_trans (totL_mem hx) ht)
  obtain ⟨n, hn⟩ : ∃ n, l.length = n := ⟨_, rfl⟩
  have HN := Lib.hid hn
  have hm : n ≤ 1048576 := by omega
  rw [hn]; clear ht hln hn
  obtain ⟨C, hC, hmk⟩ := run_mk (P := Tryz.prog) Tryz.underlying68 (e := 239) (z := .agg #[.int .i64 0, .string ByteArray.empty]) (size := 2) (bytes := 24) (by kernel_rfl) n (by omega) (by omega)
  have hCz : C.size = n * 2 := by rw [hC, size_madeCells]
  clear hC
  go_enter Tryz.func147, Tryz.ntmps147
  go_wp2_with (first | ((with_reducible refine wp_region_later (by kernel_rfl) (by kernel_rfl) ?_); (repeat (first | go_big_quiet_step (first | fail))); refine wpQuiet_nil ?_; rintro _ ⟨x, rfl⟩))
  clear hmk
  go_loopw [4] (fun v wr => ∃ k : Nat, v = .int .i64 k ∧ k ≤ n ∧ ∃ (D : Array Value) (x : Later (w.alloc (.cells D 239))), D.size = n * 2 ∧ Hid (RowsIn (w.heap.size + 1) x.w D (l.take k)) ∧ wr = x.w) (fun v _ => (n - intOf v).toNat)
  case atStart => exact ⟨0, rfl, by omega, C, Later.here _, hCz, by rw [List.take_zero]; exact RowsIn.nil, rfl⟩
  case round =>
    obtain ⟨k, rfl, hk, D, x, hDz, hf, rfl⟩ := hrel
    by_cases h : k < n
    · have hlk : k < l.length := by have := HN.out; omega
      obtain ⟨eb, eoff, ex, rfl, ehb, ehd, eok, eh0, eh1⟩ := hs.atTSent (show k < l.length by omega)
      obtain ⟨o0, g0⟩ := getD_lt hDz (show k * 2 < n * 2 by omega)
      obtain ⟨o1, g1⟩ := getD_lt hDz (show k * 2 + 1 < n * 2 by omega)
      have hte := HT.out ex (List.mem_of_mem_drop (by rw [ehd.out]; exact List.mem_cons_self ..))
      have HEOK := Lib.hid eok; clear eok
      go_wp2_with (first | ((with_reducible refine wp_region_later (by kernel_rfl) (by kernel_rfl) ?_); (repeat (first | go_big_quiet_step (first | fail))); refine wpQuiet_nil ?_; rintro _ ⟨x, rfl⟩))
      refine (d_ltoSent (B := 0) (x := ex) ⟨rfl, HEOK.out⟩ hte).mono ?_
      rintro _ _ ⟨_, rfl, ⟨rfl, -⟩, y, rfl⟩
      clear hte
      go_wp2_with (first | ((with_reducible refine wp_region_later (by kernel_rfl) (by kernel_rfl) ?_); (repeat (first | go_big_quiet_step (first | fail))); refine wpQuiet_nil ?_; rintro _ ⟨x, rfl⟩))
      go_roundw
      case rel =>
        obtain ⟨x2, hx2⟩ := Later.set2_at (x.andThen y) (k * 2) (k * 2 + 1) (.int .i64 ex.Seq) (.string ex.Data)
        rw [hx2]
        have hP := RowsIn.put (W' := x2.w) hf.out ehd.out h HN.out hDz (vs := [.int .i64 ex.Seq, .string ex.Data]) ⟨rfl, HEOK.out⟩ (by rw [← hx2]; infer_instance)
        exact ⟨k + 1, by go_num, by omega, _, x2, by simpa using hDz, hP, rfl⟩
      case measure => simp [intOf]; omega
    · go_wp2_with (first | ((with_reducible refine wp_region_later (by kernel_rfl) (by kernel_rfl) ?_); (repeat (first | go_big_quiet_step (first | fail))); refine wpQuiet_nil ?_; rintro _ ⟨x, rfl⟩))
      go_ret
      have hf2 := hf.out
      rw [List.take_of_length_le (by have := HN.out; omega)] at hf2
      exact ⟨_, n, by rw [HN.out]; rfl, RowsIn.done x hf2 HN.out hm (by omega), ⟨x.w, Grows.out⟩, rfl⟩

set_option maxRecDepth 100000 in
set_option maxHeartbeats 2000000 in
theorem d_lszSentS {B : Nat} {a : Option Addr} {c : Nat} {l : List TSent} {left : Int} {w : World} (hs : RdS B w a c l) (hl : 0 ≤ left) (hl2 : left ≤ 1048576) :
    Calls Tryz.prog 138 #[.slice a l.length c, .int .i64 left] w (Gives w (.int .i64 (szD left (totL l)))) := by
  have hmx := hs.max
  have hln := totL_len l
  obtain ⟨n, hn⟩ : ∃ n, l.length = n := ⟨_, rfl⟩
  rw [hn] at hln hmx
  rw [hn]
  have HN := Lib.hid hn; clear hn
  by_cases h : left - n < 0
  · have HV := Lib.hid (show szD left (totL l) = -1 from szD_neg (by omega))
    go_enter Tryz.func138, Tryz.ntmps138
    go_wp2_with (first | ((with_reducible refine wp_region_later (by kernel_rfl) (by kernel_rfl) ?_); (repeat (first | go_big_quiet_step (first | fail))); refine wpQuiet_nil ?_; rintro _ ⟨x, rfl⟩))
    go_ret
    exact Gives.mk (by rw [HV.out]; rfl)
  · go_enter Tryz.func138, Tryz.ntmps138
    go_wp2_with (first | ((with_reducible refine wp_region_later (by kernel_rfl) (by kernel_rfl) ?_); (repeat (first | go_big_quiet_step (first | fail))); refine wpQuiet_nil ?_; rintro _ ⟨x, rfl⟩))
    go_loopw [1, 5] (fun u v wr => ∃ (k : Nat) (r : Int), v = .int .i64 k ∧ u = .int .i64 r ∧ k ≤ n ∧ 0 ≤ r ∧ r ≤ 1048576 ∧ Hid (r - totL (l.drop k) + (n - k) = left - totL l) ∧ ∃ x : Later w, wr = x.w) (fun _ v _ => (n - intOf v).toNat)
    case atStart => exact ⟨0, left - n, rfl, by go_num, by omega, by omega, by omega, by unfold Hid; rw [List.drop_zero]; omega, Later.of⟩
    case round =>
      obtain ⟨k, r, rfl, rfl, hk, hr, hr2, hf, x, rfl⟩ := hrel
      by_cases h2 : k < n
      · have hlk : k < l.length := by have := HN.out; omega
        obtain ⟨eb, eoff, ex, rfl, ehb, ehd, eok, eh0, eh1⟩ := hs.atTSent (show k < l.length by omega)
        have hd2 := totL_len (l.drop (k + 1))
        have HD2 := Lib.hid (show ((n : Int) - k - 1 ≤ totL (l.drop (k + 1))) by rw [List.length_drop, HN.out] at hd2; omega); clear hd2 hlk
        have ht0 := Enc.tot_nonneg ex
        obtain ⟨t, htt⟩ : ∃ t, Enc.tot ex = t := ⟨_, rfl⟩
        have hf2 : Hid (r - (1 + t + totL (l.drop (k + 1))) + (n - k) = left - totL l) := by
          have := hf.out; rw [ehd.out] at this; rw [← htt]; exact this
        rw [htt] at ht0
        have HTT := Lib.hid htt; clear htt hf
        have HEOK := Lib.hid eok; clear eok
        go_wp2_with (first | ((with_reducible refine wp_region_later (by kernel_rfl) (by kernel_rfl) ?_); (repeat (first | go_big_quiet_step (first | fail))); refine wpQuiet_nil ?_; rintro _ ⟨x, rfl⟩))
        refine (d_lszSent (B := 0) (x := ex) ⟨rfl, HEOK.out⟩ (by omega) (by omega)).mono ?_
        rintro _ _ ⟨rfl, y, rfl⟩
        rw [HTT.out]
        by_cases h3 : r - t < 0
        · have HV := Lib.hid (show szD left (totL l) = -1 from szD_neg (by have h7 := hf2.out; have h8 := HD2.out; omega))
          rw [szD_neg h3]
          go_wp2_with (first | ((with_reducible refine wp_region_later (by kernel_rfl) (by kernel_rfl) ?_); (repeat (first | go_big_quiet_step (first | fail))); refine wpQuiet_nil ?_; rintro _ ⟨x, rfl⟩))
          go_ret
          exact Gives.mk (by rw [HV.out]; rfl)
        · rw [szD_pos h3]
          go_wp2_with (first | ((with_reducible refine wp_region_later (by kernel_rfl) (by kernel_rfl) ?_); (repeat (first | go_big_quiet_step (first | fail))); refine wpQuiet_nil ?_; rintro _ ⟨x, rfl⟩))
          go_roundw
          case rel => exact ⟨k + 1, r - t, by go_num, by go_num, by omega, by omega, by omega, by have h7 := hf2.out; unfold Hid; omega, Later.of⟩
          case measure => simp [intOf]; omega
      · have HV := Lib.hid (show szD left (totL l) = r by
          have h7 := hf.out
          rw [List.drop_of_length_le (by have := HN.out; omega)] at h7
          simp only [totL] at h7
          rw [szD_pos (by omega)]; omega)
        go_wp2_with (first | ((with_reducible refine wp_region_later (by kernel_rfl) (by kernel_rfl) ?_); (repeat (first | go_big_quiet_step (first | fail))); refine wpQuiet_nil ?_; rintro _ ⟨x, rfl⟩))
        go_ret
        exact Gives.mk (by rw [HV.out]; rfl)

theorem d_leqSentS {B B2 : Nat} {a a2 : Option Addr} {c c2 : Nat} {l : List TSent} {w : World} (hs : RdS B w a c l) (hs2 : RdS B2 w a2 c2 l) :
    Calls Tryz.prog 157 #[.slice a l.length c, .slice a2 l.length c2] w (Gives w (.bool true)) := by
  have hmx := hs.max
  obtain ⟨n, hn⟩ : ∃ n, l.length = n := ⟨_, rfl⟩
  rw [hn] at hmx
  rw [hn]
  have HN := Lib.hid hn; clear hn
  have kn : ((n : Int) != (n : Int)) = false := by simp
  go_enter Tryz.func157, Tryz.ntmps157
  go_wp2_with (first | ((with_reducible refine wp_region_later (by kernel_rfl) (by kernel_rfl) ?_); (repeat (first | go_big_quiet_step (first | fail) | simp only [kn])); refine wpQuiet_nil ?_; rintro _ ⟨x, rfl⟩))
  go_loopw [5] (fun v wr => ∃ k : Nat, v = .int .i64 k ∧ k ≤ n ∧ ∃ x : Later w, wr = x.w) (fun v _ => (n - intOf v).toNat)
  case atStart => exact ⟨0, rfl, by omega, Later.of⟩
  case round =>
    obtain ⟨k, rfl, hk, x, rfl⟩ := hrel
    by_cases h : k < n
    · have hlk : k < l.length := by have := HN.out; omega
      obtain ⟨eb, eoff, ex, rfl, ehb, ehd, eok, eh0, eh1⟩ := hs.atTSent (show k < l.length by omega)
      obtain ⟨fb, foff, fx, rfl, fhb, fhd, fok, fh0, fh1⟩ := hs2.atTSent (show k < l.length by omega)
      obtain rfl : ex = fx := by have := ehd.out.symm.trans fhd.out; simpa using this
      clear ehd fhd hlk hs hs2
      have ce : ∀ {W : World} [Grows w W], Calls Tryz.prog 178 #[.agg #[.int .i64 ex.Seq, .string ex.Data], .agg #[.int .i64 ex.Seq, .string ex.Data]] W (Gives W (.bool true)) := fun {W} _ => d_leqSent (B := 0) (B2 := 0) (x := ex) ⟨rfl, eok⟩ ⟨rfl, fok⟩
      clear eok fok
      go_wp2_with (first | ((with_reducible refine wp_region_later (by kernel_rfl) (by kernel_rfl) ?_); (repeat (first | go_big_quiet_step (first | (go_at_call 178; exact Gives.quiet (ce))))); refine wpQuiet_nil ?_; rintro _ ⟨x, rfl⟩) | (go_at_call 178; refine (ce).mono ?_; rintro _ _ ⟨rfl, x, rfl⟩))
      go_roundw
      case rel => exact ⟨k + 1, by go_num, by omega, Later.of⟩
      case measure => simp [intOf]; omega
    · go_wp2_with (first | ((with_reducible refine wp_region_later (by kernel_rfl) (by kernel_rfl) ?_); (repeat (first | go_big_quiet_step (first | fail))); refine wpQuiet_nil ?_; rintro _ ⟨x, rfl⟩))
      go_ret
      exact Gives.mk rfl

theorem d_ltoReceiver {B : Nat} {vs : List Value} {x : TReceiver} {w : World} (h : Enc.Rd B w vs x) (ht : Enc.tot x ≤ 1048576) :
    Calls Tryz.prog 95 #[.agg vs.toArray] w (GivesD w x) := by
  obtain ⟨rfl, hok⟩ := h
  clear ht
  have HOK := Lib.hid hok; clear hok
  go_enter Tryz.func95, Tryz.ntmps95
  go_wp2_with (first | ((with_reducible refine wp_region_later (by kernel_rfl) (by kernel_rfl) ?_); (repeat (first | go_big_quiet_step (first | fail))); refine wpQuiet_nil ?_; rintro _ ⟨x, rfl⟩))
  refine bodyPost_ret (v := .agg #[.int .i64 x.Expect, .bool x.Locked, .bool x.Again, .int .i64 x.Taken]) ?_ rfl ⟨[.int .i64 x.Expect, .bool x.Locked, .bool x.Again, .int .i64 x.Taken], rfl, ⟨rfl, HOK.out⟩, Later.of⟩
  simp [results, Tryz.results95, go_sem]

theorem d_leqReceiver {B B2 : Nat} {vs vs2 : List Value} {x : TReceiver} {w : World} (h : Enc.Rd B w vs x) (h2 : Enc.Rd B2 w vs2 x) :
    Calls Tryz.prog 108 #[.agg vs.toArray, .agg vs2.toArray] w (Gives w (.bool true)) := by
  obtain ⟨rfl, hok⟩ := h
  obtain ⟨rfl, -⟩ := h2
  have HOK := Lib.hid hok; clear hok
  go_enter Tryz.func108, Tryz.ntmps108
  go_wp2_with (first | ((with_reducible refine wp_region_later (by kernel_rfl) (by kernel_rfl) ?_); (repeat (first | go_big_quiet_step (first | fail))); refine wpQuiet_nil ?_; rintro _ ⟨x, rfl⟩))
  go_ret
  exact Gives.mk rfl

theorem d_ltoNotice {B : Nat} {vs : List Value} {x : TNotice} {w : World} (h : Enc.Rd B w vs x) (ht : Enc.tot x ≤ 1048576) :
    Calls Tryz.prog 89 #[.agg vs.toArray] w (GivesD w x) := by
  obtain ⟨rfl, hok⟩ := h
  clear ht
  have HOK := Lib.hid hok; clear hok
  go_enter Tryz.func89, Tryz.ntmps89
  go_wp2_with (first | ((with_reducible refine wp_region_later (by kernel_rfl) (by kernel_rfl) ?_); (repeat (first | go_big_quiet_step (first | fail))); refine wpQuiet_nil ?_; rintro _ ⟨x, rfl⟩))
  refine bodyPost_ret (v := .agg #[.int .i64 x.Expect, .bool x.Locked, .bool x.Again]) ?_ rfl ⟨[.int .i64 x.Expect, .bool x.Locked, .bool x.Again], rfl, ⟨rfl, HOK.out⟩, Later.of⟩
  simp [results, Tryz.results89, go_sem]

theorem d_leqNotice {B B2 : Nat} {vs vs2 : List Value} {x : TNotice} {w : World} (h : Enc.Rd B w vs x) (h2 : Enc.Rd B2 w vs2 x) :
    Calls Tryz.prog 102 #[.agg vs.toArray, .agg vs2.toArray] w (Gives w (.bool true)) := by
  obtain ⟨rfl, hok⟩ := h
  obtain ⟨rfl, -⟩ := h2
  have HOK := Lib.hid hok; clear hok
  go_enter Tryz.func102, Tryz.ntmps102
  go_wp2_with (first | ((with_reducible refine wp_region_later (by kernel_rfl) (by kernel_rfl) ?_); (repeat (first | go_big_quiet_step (first | fail))); refine wpQuiet_nil ?_; rintro _ ⟨x, rfl⟩))
  go_ret
  exact Gives.mk rfl

theorem d_ltoOrder {B : Nat} {vs : List Value} {x : TOrder} {w : World} (h : Enc.Rd B w vs x) (ht : Enc.tot x ≤ 1048576) :
    Calls Tryz.prog 187 #[.agg vs.toArray] w (GivesD w x) := by
  obtain ⟨rfl, hok⟩ := h
  clear ht
  have HOK := Lib.hid hok; clear hok
  go_enter Tryz.func187, Tryz.ntmps187
  go_wp2_with (first | ((with_reducible refine wp_region_later (by kernel_rfl) (by kernel_rfl) ?_); (repeat (first | go_big_quiet_step (first | fail))); refine wpQuiet_nil ?_; rintro _ ⟨x, rfl⟩))
  refine bodyPost_ret (v := .agg #[.int .i64 x.Kind, .int .i64 x.At, .int .i64 x.A, .int .i64 x.B]) ?_ rfl ⟨[.int .i64 x.Kind, .int .i64 x.At, .int .i64 x.A, .int .i64 x.B], rfl, ⟨rfl, HOK.out⟩, Later.of⟩
  simp [results, Tryz.results187, go_sem]

theorem d_leqOrder {B B2 : Nat} {vs vs2 : List Value} {x : TOrder} {w : World} (h : Enc.Rd B w vs x) (h2 : Enc.Rd B2 w vs2 x) :
    Calls Tryz.prog 188 #[.agg vs.toArray, .agg vs2.toArray] w (Gives w (.bool true)) := by
  obtain ⟨rfl, hok⟩ := h
  obtain ⟨rfl, -⟩ := h2
  have HOK := Lib.hid hok; clear hok
  go_enter Tryz.func188, Tryz.ntmps188
  go_wp2_with (first | ((with_reducible refine wp_region_later (by kernel_rfl) (by kernel_rfl) ?_); (repeat (first | go_big_quiet_step (first | fail))); refine wpQuiet_nil ?_; rintro _ ⟨x, rfl⟩))
  go_ret
  exact Gives.mk rfl

theorem d_ltoRecord {B : Nat} {vs : List Value} {x : TRecord} {w : World} (h : Enc.Rd B w vs x) (ht : Enc.tot x ≤ 1048576) :
    Calls Tryz.prog 149 #[.agg vs.toArray] w (GivesD w x) := by
  obtain ⟨rfl, hok⟩ := h
  clear ht
  have HOK := Lib.hid hok; clear hok
  go_enter Tryz.func149, Tryz.ntmps149
  go_wp2_with (first | ((with_reducible refine wp_region_later (by kernel_rfl) (by kernel_rfl) ?_); (repeat (first | go_big_quiet_step (first | fail))); refine wpQuiet_nil ?_; rintro _ ⟨x, rfl⟩))
  refine bodyPost_ret (v := .agg #[.int .i64 x.Id, .int .i64 x.Priority, .int .i64 x.Time, .string x.Data]) ?_ rfl ⟨[.int .i64 x.Id, .int .i64 x.Priority, .int .i64 x.Time, .string x.Data], rfl, ⟨rfl, HOK.out⟩, Later.of⟩
  simp [results, Tryz.results149, go_sem]

theorem d_lszRecord {B : Nat} {vs : List Value} {x : TRecord} {left : Int} {w : World} (h : Enc.Rd B w vs x) (hl : 0 ≤ left) (hl2 : left ≤ 1048576) :
    Calls Tryz.prog 139 #[.agg vs.toArray, .int .i64 left] w (Gives w (.int .i64 (szD left (Enc.tot x)))) := by
  obtain ⟨rfl, hok⟩ := h
  have n0 : (0 : Int) ≤ x.Data.size := by omega
  have z0 : x.Data.size ≤ 9223372036854775807 := hok.2.2.2.1
  have HOK := Lib.hid hok; clear hok
  have htot : Enc.tot x = (x.Data.size : Int) := rfl
  have HTOT := Lib.hid htot; clear htot
  go_enter Tryz.func139, Tryz.ntmps139
  by_cases h0 : left - (x.Data.size : Int) < 0
  · have HV := Lib.hid (show szD left (Enc.tot x) = -1 from szD_neg (by rw [HTOT.out]; omega))
    go_wp2_with (first | ((with_reducible refine wp_region_later (by kernel_rfl) (by kernel_rfl) ?_); (repeat (first | go_big_quiet_step (first | fail))); refine wpQuiet_nil ?_; rintro _ ⟨x, rfl⟩))
    go_ret
    exact Gives.mk (by rw [HV.out]; rfl)
  have HV := Lib.hid (show szD left (Enc.tot x) = left - (x.Data.size : Int) by rw [szD_pos (by rw [HTOT.out]; omega), HTOT.out] <;> omega)
  go_wp2_with (first | ((with_reducible refine wp_region_later (by kernel_rfl) (by kernel_rfl) ?_); (repeat (first | go_big_quiet_step (first | fail))); refine wpQuiet_nil ?_; rintro _ ⟨x, rfl⟩))
  go_ret
  exact Gives.mk (by rw [HV.out]; rfl)

theorem d_leqRecord {B B2 : Nat} {vs vs2 : List Value} {x : TRecord} {w : World} (h : Enc.Rd B w vs x) (h2 : Enc.Rd B2 w vs2 x) :
    Calls Tryz.prog 159 #[.agg vs.toArray, .agg vs2.toArray] w (Gives w (.bool true)) := by
  obtain ⟨rfl, hok⟩ := h
  obtain ⟨rfl, -⟩ := h2
  have HOK := Lib.hid hok; clear hok
  go_enter Tryz.func159, Tryz.ntmps159
  go_wp2_with (first | ((with_reducible refine wp_region_later (by kernel_rfl) (by kernel_rfl) ?_); (repeat (first | go_big_quiet_step (first | fail))); refine wpQuiet_nil ?_; rintro _ ⟨x, rfl⟩))
  go_ret
  exact Gives.mk rfl

theorem d_ltoRecordS {B : Nat} {a : Option Addr} {c : Nat} {l : List TRecord} {w : World} (hs : RdS B w a c l) (ht : totL l ≤ 1048576) :
    Calls Tryz.prog 92 #[.slice a l.length c] w (GivesDS w l) := by
  have hln := totL_len l
  have HT := Lib.hid (show ∀ x ∈ l, Enc.tot x ≤ 1048576 from fun x hx => Int.le_trans (totL_mem hx) ht)
  obtain ⟨n, hn⟩ : ∃ n, l.length = n := ⟨_, rfl⟩
  have HN := Lib.hid hn
  have hm : n ≤ 1048576 := by omega
  rw [hn]; clear ht hln hn
  obtain ⟨C, hC, hmk⟩ := run_mk (P := Tryz.prog) Tryz.underlying74 (e := 124) (z := .agg #[.int .i64 0, .int .i64 0, .int .i64 0, .string ByteArray.empty]) (size := 4) (bytes := 40) (by kernel_rfl) n (by omega) (by omega)
  have hCz : C.size = n * 4 := by rw [hC, size_madeCells]
  clear hC
  go_enter Tryz.func92, Tryz.ntmps92
  go_wp2_with (first | ((with_reducible refine wp_region_later (by kernel_rfl) (by kernel_rfl) ?_); (repeat (first | go_big_quiet_step (first | fail))); refine wpQuiet_nil ?_; rintro _ ⟨x, rfl⟩))
  clear hmk
  go_loopw [4] (fun v wr => ∃ k : Nat, v = .int .i64 k ∧ k ≤ n ∧ ∃ (D : Array Value) (x : Later (w.alloc (.cells D 124))), D.size = n * 4 ∧ Hid (RowsIn (w.heap.size + 1) x.w D (l.take k)) ∧ wr = x.w) (fun v _ => (n - intOf v).toNat)
  case atStart => exact ⟨0, rfl, by omega, C, Later.here _, hCz, by rw [List.take_zero]; exact RowsIn.nil, rfl⟩
  case round =>
    obtain ⟨k, rfl, hk, D, x, hDz, hf, rfl⟩ := hrel
    by_cases h : k < n
    · have hlk : k < l.length := by have := HN.out; omega
      obtain ⟨eb, eoff, ex, rfl, ehb, ehd, eok, eh0, eh1, eh2, eh3⟩ := hs.atTRecord (show k < l.length by omega)
      obtain ⟨o0, g0⟩ := getD_lt hDz (show k * 4 < n * 4 by omega)
      obtain ⟨o1, g1⟩ := getD_lt hDz (show k * 4 + 1 < n * 4 by omega)
      obtain ⟨o2, g2⟩ := getD_lt hDz (show k * 4 + 2 < n * 4 by omega)
      obtain ⟨o3, g3⟩ := getD_lt hDz (show k * 4 + 3 < n * 4 by omega)
      have hte := HT.out ex (List.mem_of_mem_drop (by rw [ehd.out]; exact List.mem_cons_self ..))
      have HEOK := Lib.hid eok; clear eok
      go_wp2_with (first | ((with_reducible refine wp_region_later (by kernel_rfl) (by kernel_rfl) ?_); (repeat (first | go_big_quiet_step (first | fail))); refine wpQuiet_nil ?_; rintro _ ⟨x, rfl⟩))
      refine (d_ltoRecord (B := 0) (x := ex) ⟨rfl, HEOK.out⟩ hte).mono ?_
      rintro _ _ ⟨_, rfl, ⟨rfl, -⟩, y, rfl⟩
      clear hte
      go_wp2_with (first | ((with_reducible refine wp_region_later (by kernel_rfl) (by kernel_rfl) ?_); (repeat (first | go_big_quiet_step (first | fail))); refine wpQuiet_nil ?_; rintro _ ⟨x, rfl⟩))
      go_roundw
      case rel =>
        obtain ⟨x2, hx2⟩ := Later.set4_at (x.andThen y) (k * 4) (k * 4 + 1) (k * 4 + 2) (k * 4 + 3) (.int .i64 ex.Id) (.int .i64 ex.Priority) (.int .i64 ex.Time) (.string ex.Data)
        rw [hx2]
        have hP := RowsIn.put (W' := x2.w) hf.out ehd.out h HN.out hDz (vs := [.int .i64 ex.Id, .int .i64 ex.Priority, .int .i64 ex.Time, .string ex.Data]) ⟨rfl, HEOK.out⟩ (by rw [← hx2]; infer_instance)
        exact ⟨k + 1, by go_num, by omega, _, x2, by simpa using hDz, hP, rfl⟩
      case measure => simp [intOf]; omega
    · go_wp2_with (first | ((with_reducible refine wp_region_later (by kernel_rfl) (by kernel_rfl) ?_); (repeat (first | go_big_quiet_step (first | fail))); refine wpQuiet_nil ?_; rintro _ ⟨x, rfl⟩))
      go_ret
      have hf2 := hf.out
      rw [List.take_of_length_le (by have := HN.out; omega)] at hf2
      exact ⟨_, n, by rw [HN.out]; rfl, RowsIn.done x hf2 HN.out hm (by omega), ⟨x.w, Grows.out⟩, rfl⟩

set_option maxRecDepth 100000 in
set_option maxHeartbeats 2000000 in
theorem d_lszRecordS {B : Nat} {a : Option Addr} {c : Nat} {l : List TRecord} {left : Int} {w : World} (hs : RdS B w a c l) (hl : 0 ≤ left) (hl2 : left ≤ 1048576) :
    Calls Tryz.prog 80 #[.slice a l.length c, .int .i64 left] w (Gives w (.int .i64 (szD left (totL l)))) := by
  have hmx := hs.max
  have hln := totL_len l
  obtain ⟨n, hn⟩ : ∃ n, l.length = n := ⟨_, rfl⟩
  rw [hn] at hln hmx
  rw [hn]
  have HN := Lib.hid hn; clear hn
  by_cases h : left - n < 0
  · have HV := Lib.hid (show szD left (totL l) = -1 from szD_neg (by omega))
    go_enter Tryz.func80, Tryz.ntmps80
    go_wp2_with (first | ((with_reducible refine wp_region_later (by kernel_rfl) (by kernel_rfl) ?_); (repeat (first | go_big_quiet_step (first | fail))); refine wpQuiet_nil ?_; rintro _ ⟨x, rfl⟩))
    go_ret
    exact Gives.mk (by rw [HV.out]; rfl)
  · go_enter Tryz.func80, Tryz.ntmps80
    go_wp2_with (first | ((with_reducible refine wp_region_later (by kernel_rfl) (by kernel_rfl) ?_); (repeat (first | go_big_quiet_step (first | fail))); refine wpQuiet_nil ?_; rintro _ ⟨x, rfl⟩))
    go_loopw [1, 5] (fun u v wr => ∃ (k : Nat) (r : Int), v = .int .i64 k ∧ u = .int .i64 r ∧ k ≤ n ∧ 0 ≤ r ∧ r ≤ 1048576 ∧ Hid (r - totL (l.drop k) + (n - k) = left - totL l) ∧ ∃ x : Later w, wr = x.w) (fun _ v _ => (n - intOf v).toNat)
    case atStart => exact ⟨0, left - n, rfl, by go_num, by omega, by omega, by omega, by unfold Hid; rw [List.drop_zero]; omega, Later.of⟩
    case round =>
      obtain ⟨k, r, rfl, rfl, hk, hr, hr2, hf, x, rfl⟩ := hrel
      by_cases h2 : k < n
      · have hlk : k < l.length := by have := HN.out; omega
        obtain ⟨eb, eoff, ex, rfl, ehb, ehd, eok, eh0, eh1, eh2, eh3⟩ := hs.atTRecord (show k < l.length by omega)
        have hd2 := totL_len (l.drop (k + 1))
        have HD2 := Lib.hid (show ((n : Int) - k - 1 ≤ totL (l.drop (k + 1))) by rw [List.length_drop, HN.out] at hd2; omega); clear hd2 hlk
        have ht0 := Enc.tot_nonneg ex
        obtain ⟨t, htt⟩ : ∃ t, Enc.tot ex = t := ⟨_, rfl⟩
        have hf2 : Hid (r - (1 + t + totL (l.drop (k + 1))) + (n - k) = left - totL l) := by
          have := hf.out; rw [ehd.out] at this; rw [← htt]; exact this
        rw [htt] at ht0
        have HTT := Lib.hid htt; clear htt hf
        have HEOK := Lib.hid eok; clear eok
        go_wp2_with (first | ((with_reducible refine wp_region_later (by kernel_rfl) (by kernel_rfl) ?_); (repeat (first | go_big_quiet_step (first | fail))); refine wpQuiet_nil ?_; rintro _ ⟨x, rfl⟩))
        refine (d_lszRecord (B := 0) (x := ex) ⟨rfl, HEOK.out⟩ (by omega) (by omega)).mono ?_
        rintro _ _ ⟨rfl, y, rfl⟩
        rw [HTT.out]
        by_cases h3 : r - t < 0
        · have HV := Lib.hid (show szD left (totL l) = -1 from szD_neg (by have h7 := hf2.out; have h8 := HD2.out; omega))
          rw [szD_neg h3]
          go_wp2_with (first | ((with_reducible refine wp_region_later (by kernel_rfl) (by kernel_rfl) ?_); (repeat (first | go_big_quiet_step (first | fail))); refine wpQuiet_nil ?_; rintro _ ⟨x, rfl⟩))
          go_ret
          exact Gives.mk (by rw [HV.out]; rfl)
        · rw [szD_pos h3]
          go_wp2_with (first | ((with_reducible refine wp_region_later (by kernel_rfl) (by kernel_rfl) ?_); (repeat (first | go_big_quiet_step (first | fail))); refine wpQuiet_nil ?_; rintro _ ⟨x, rfl⟩))
          go_roundw
          case rel => exact ⟨k + 1, r - t, by go_num, by go_num, by omega, by omega, by omega, by have h7 := hf2.out; unfold Hid; omega, Later.of⟩
          case measure => simp [intOf]; omega
      · have HV := Lib.hid (show szD left (totL l) = r by
          have h7 := hf.out
          rw [List.drop_of_length_le (by have := HN.out; omega)] at h7
          simp only [totL] at h7
          rw [szD_pos (by omega)]; omega)
        go_wp2_with (first | ((with_reducible refine wp_region_later (by kernel_rfl) (by kernel_rfl) ?_); (repeat (first | go_big_quiet_step (first | fail))); refine wpQuiet_nil ?_; rintro _ ⟨x, rfl⟩))
        go_ret
        exact Gives.mk (by rw [HV.out]; rfl)

theorem d_leqRecordS {B B2 : Nat} {a a2 : Option Addr} {c c2 : Nat} {l : List TRecord} {w : World} (hs : RdS B w a c l) (hs2 : RdS B2 w a2 c2 l) :
    Calls Tryz.prog 105 #[.slice a l.length c, .slice a2 l.length c2] w (Gives w (.bool true)) := by
  have hmx := hs.max
  obtain ⟨n, hn⟩ : ∃ n, l.length = n := ⟨_, rfl⟩
  rw [hn] at hmx
  rw [hn]
  have HN := Lib.hid hn; clear hn
  have kn : ((n : Int) != (n : Int)) = false := by simp
  go_enter Tryz.func105, Tryz.ntmps105
  go_wp2_with (first | ((with_reducible refine wp_region_later (by kernel_rfl) (by kernel_rfl) ?_); (repeat (first | go_big_quiet_step (first | fail) | simp only [kn])); refine wpQuiet_nil ?_; rintro _ ⟨x, rfl⟩))
  go_loopw [5] (fun v wr => ∃ k : Nat, v = .int .i64 k ∧ k ≤ n ∧ ∃ x : Later w, wr = x.w) (fun v _ => (n - intOf v).toNat)
  case atStart => exact ⟨0, rfl, by omega, Later.of⟩
  case round =>
    obtain ⟨k, rfl, hk, x, rfl⟩ := hrel
    by_cases h : k < n
    · have hlk : k < l.length := by have := HN.out; omega
      obtain ⟨eb, eoff, ex, rfl, ehb, ehd, eok, eh0, eh1, eh2, eh3⟩ := hs.atTRecord (show k < l.length by omega)
      obtain ⟨fb, foff, fx, rfl, fhb, fhd, fok, fh0, fh1, fh2, fh3⟩ := hs2.atTRecord (show k < l.length by omega)
      obtain rfl : ex = fx := by have := ehd.out.symm.trans fhd.out; simpa using this
      clear ehd fhd hlk hs hs2
      have ce : ∀ {W : World} [Grows w W], Calls Tryz.prog 159 #[.agg #[.int .i64 ex.Id, .int .i64 ex.Priority, .int .i64 ex.Time, .string ex.Data], .agg #[.int .i64 ex.Id, .int .i64 ex.Priority, .int .i64 ex.Time, .string ex.Data]] W (Gives W (.bool true)) := fun {W} _ => d_leqRecord (B := 0) (B2 := 0) (x := ex) ⟨rfl, eok⟩ ⟨rfl, fok⟩
      clear eok fok
      go_wp2_with (first | ((with_reducible refine wp_region_later (by kernel_rfl) (by kernel_rfl) ?_); (repeat (first | go_big_quiet_step (first | (go_at_call 159; exact Gives.quiet (ce))))); refine wpQuiet_nil ?_; rintro _ ⟨x, rfl⟩) | (go_at_call 159; refine (ce).mono ?_; rintro _ _ ⟨rfl, x, rfl⟩))
      go_roundw
      case rel => exact ⟨k + 1, by go_num, by omega, Later.of⟩
      case measure => simp [intOf]; omega
    · go_wp2_with (first | ((with_reducible refine wp_region_later (by kernel_rfl) (by kernel_rfl) ?_); (repeat (first | go_big_quiet_step (first | fail))); refine wpQuiet_nil ?_; rintro _ ⟨x, rfl⟩))
      go_ret
      exact Gives.mk rfl

theorem d_ltoLimit {B : Nat} {vs : List Value} {x : TLimit} {w : World} (h : Enc.Rd B w vs x) (ht : Enc.tot x ≤ 1048576) :
    Calls Tryz.prog 175 #[.agg vs.toArray] w (GivesD w x) := by
  obtain ⟨rfl, hok⟩ := h
  clear ht
  have HOK := Lib.hid hok; clear hok
  go_enter Tryz.func175, Tryz.ntmps175
  go_wp2_with (first | ((with_reducible refine wp_region_later (by kernel_rfl) (by kernel_rfl) ?_); (repeat (first | go_big_quiet_step (first | fail))); refine wpQuiet_nil ?_; rintro _ ⟨x, rfl⟩))
  refine bodyPost_ret (v := .agg #[.int .i64 x.Param, .int .i64 x.Low, .int .i64 x.High]) ?_ rfl ⟨[.int .i64 x.Param, .int .i64 x.Low, .int .i64 x.High], rfl, ⟨rfl, HOK.out⟩, Later.of⟩
  simp [results, Tryz.results175, go_sem]

theorem d_leqLimit {B B2 : Nat} {vs vs2 : List Value} {x : TLimit} {w : World} (h : Enc.Rd B w vs x) (h2 : Enc.Rd B2 w vs2 x) :
    Calls Tryz.prog 179 #[.agg vs.toArray, .agg vs2.toArray] w (Gives w (.bool true)) := by
  obtain ⟨rfl, hok⟩ := h
  obtain ⟨rfl, -⟩ := h2
  have HOK := Lib.hid hok; clear hok
  go_enter Tryz.func179, Tryz.ntmps179
  go_wp2_with (first | ((with_reducible refine wp_region_later (by kernel_rfl) (by kernel_rfl) ?_); (repeat (first | go_big_quiet_step (first | fail))); refine wpQuiet_nil ?_; rintro _ ⟨x, rfl⟩))
  go_ret
  exact Gives.mk rfl

theorem d_ltoLimitS {B : Nat} {a : Option Addr} {c : Nat} {l : List TLimit} {w : World} (hs : RdS B w a c l) (ht : totL l ≤ 1048576) :
    Calls Tryz.prog 152 #[.slice a l.length c] w (GivesDS w l) := by
  have hln := totL_len l
  have HT := Lib.hid (show ∀ x ∈ l, Enc.tot x ≤ 1048576 from fun x hx => Int.le_trans (totL_mem hx) ht)
  obtain ⟨n, hn⟩ : ∃ n, l.length = n := ⟨_, rfl⟩
  have HN := Lib.hid hn
  have hm : n ≤ 1048576 := by omega
  rw [hn]; clear ht hln hn
  obtain ⟨C, hC, hmk⟩ := run_mk (P := Tryz.prog) Tryz.underlying79 (e := 243) (z := .agg #[.int .i64 0, .int .i64 0, .int .i64 0]) (size := 3) (bytes := 24) (by kernel_rfl) n (by omega) (by omega)
  have hCz : C.size = n * 3 := by rw [hC, size_madeCells]
  clear hC
  go_enter Tryz.func152, Tryz.ntmps152
  go_wp2_with (first | ((with_reducible refine wp_region_later (by kernel_rfl) (by kernel_rfl) ?_); (repeat (first | go_big_quiet_step (first | fail))); refine wpQuiet_nil ?_; rintro _ ⟨x, rfl⟩))
  clear hmk
  go_loopw [4] (fun v wr => ∃ k : Nat, v = .int .i64 k ∧ k ≤ n ∧ ∃ (D : Array Value) (x : Later (w.alloc (.cells D 243))), D.size = n * 3 ∧ Hid (RowsIn (w.heap.size + 1) x.w D (l.take k)) ∧ wr = x.w) (fun v _ => (n - intOf v).toNat)
  case atStart => exact ⟨0, rfl, by omega, C, Later.here _, hCz, by rw [List.take_zero]; exact RowsIn.nil, rfl⟩
  case round =>
    obtain ⟨k, rfl, hk, D, x, hDz, hf, rfl⟩ := hrel
    by_cases h : k < n
    · have hlk : k < l.length := by have := HN.out; omega
      obtain ⟨eb, eoff, ex, rfl, ehb, ehd, eok, eh0, eh1, eh2⟩ := hs.atTLimit (show k < l.length by omega)
      obtain ⟨o0, g0⟩ := getD_lt hDz (show k * 3 < n * 3 by omega)
      obtain ⟨o1, g1⟩ := getD_lt hDz (show k * 3 + 1 < n * 3 by omega)
      obtain ⟨o2, g2⟩ := getD_lt hDz (show k * 3 + 2 < n * 3 by omega)
      have hte := HT.out ex (List.mem_of_mem_drop (by rw [ehd.out]; exact List.mem_cons_self ..))
      have HEOK := Lib.hid eok; clear eok
      go_wp2_with (first | ((with_reducible refine wp_region_later (by kernel_rfl) (by kernel_rfl) ?_); (repeat (first | go_big_quiet_step (first | fail))); refine wpQuiet_nil ?_; rintro _ ⟨x, rfl⟩))
      refine (d_ltoLimit (B := 0) (x := ex) ⟨rfl, HEOK.out⟩ hte).mono ?_
      rintro _ _ ⟨_, rfl, ⟨rfl, -⟩, y, rfl⟩
      clear hte
      go_wp2_with (first | ((with_reducible refine wp_region_later (by kernel_rfl) (by kernel_rfl) ?_); (repeat (first | go_big_quiet_step (first | fail))); refine wpQuiet_nil ?_; rintro _ ⟨x, rfl⟩))
      go_roundw
      case rel =>
        obtain ⟨x2, hx2⟩ := Later.set3_at (x.andThen y) (k * 3) (k * 3 + 1) (k * 3 + 2) (.int .i64 ex.Param) (.int .i64 ex.Low) (.int .i64 ex.High)
        rw [hx2]
        have hP := RowsIn.put (W' := x2.w) hf.out ehd.out h HN.out hDz (vs := [.int .i64 ex.Param, .int .i64 ex.Low, .int .i64 ex.High]) ⟨rfl, HEOK.out⟩ (by rw [← hx2]; infer_instance)
        exact ⟨k + 1, by go_num, by omega, _, x2, by simpa using hDz, hP, rfl⟩
      case measure => simp [intOf]; omega
    · go_wp2_with (first | ((with_reducible refine wp_region_later (by kernel_rfl) (by kernel_rfl) ?_); (repeat (first | go_big_quiet_step (first | fail))); refine wpQuiet_nil ?_; rintro _ ⟨x, rfl⟩))
      go_ret
      have hf2 := hf.out
      rw [List.take_of_length_le (by have := HN.out; omega)] at hf2
      exact ⟨_, n, by rw [HN.out]; rfl, RowsIn.done x hf2 HN.out hm (by omega), ⟨x.w, Grows.out⟩, rfl⟩

theorem d_lszLimitS {B : Nat} {a : Option Addr} {c : Nat} {l : List TLimit} {left : Int} {w : World} (hs : RdS B w a c l) (hl : 0 ≤ left) (hl2 : left ≤ 1048576) :
    Calls Tryz.prog 142 #[.slice a l.length c, .int .i64 left] w (Gives w (.int .i64 (szD left (totL l)))) := by
  have hmx := hs.max
  have hln := totL_len l
  obtain ⟨n, hn⟩ : ∃ n, l.length = n := ⟨_, rfl⟩
  rw [hn] at hln hmx
  rw [hn]
  have HN := Lib.hid hn; clear hn
  have htl : totL l = n := by rw [← HN.out]; clear hs HN hmx hln; induction l with | nil => rfl | cons x r ih => simp only [totL, List.length_cons, ih]; show 1 + 0 + _ = _; omega
  rw [htl]; clear htl hln hs
  by_cases h : left - n < 0
  · rw [szD_neg h]
    go_enter Tryz.func142, Tryz.ntmps142
    go_wp2_with (first | ((with_reducible refine wp_region_later (by kernel_rfl) (by kernel_rfl) ?_); (repeat (first | go_big_quiet_step (first | fail))); refine wpQuiet_nil ?_; rintro _ ⟨x, rfl⟩))
    go_ret
    exact Gives.mk rfl
  · rw [szD_pos h]
    go_enter Tryz.func142, Tryz.ntmps142
    go_wp2_with (first | ((with_reducible refine wp_region_later (by kernel_rfl) (by kernel_rfl) ?_); (repeat (first | go_big_quiet_step (first | fail))); refine wpQuiet_nil ?_; rintro _ ⟨x, rfl⟩))
    go_ret
    exact Gives.mk rfl

theorem d_leqLimitS {B B2 : Nat} {a a2 : Option Addr} {c c2 : Nat} {l : List TLimit} {w : World} (hs : RdS B w a c l) (hs2 : RdS B2 w a2 c2 l) :
    Calls Tryz.prog 162 #[.slice a l.length c, .slice a2 l.length c2] w (Gives w (.bool true)) := by
  have hmx := hs.max
  obtain ⟨n, hn⟩ : ∃ n, l.length = n := ⟨_, rfl⟩
  rw [hn] at hmx
  rw [hn]
  have HN := Lib.hid hn; clear hn
  have kn : ((n : Int) != (n : Int)) = false := by simp
  go_enter Tryz.func162, Tryz.ntmps162
  go_wp2_with (first | ((with_reducible refine wp_region_later (by kernel_rfl) (by kernel_rfl) ?_); (repeat (first | go_big_quiet_step (first | fail) | simp only [kn])); refine wpQuiet_nil ?_; rintro _ ⟨x, rfl⟩))
  go_loopw [5] (fun v wr => ∃ k : Nat, v = .int .i64 k ∧ k ≤ n ∧ ∃ x : Later w, wr = x.w) (fun v _ => (n - intOf v).toNat)
  case atStart => exact ⟨0, rfl, by omega, Later.of⟩
  case round =>
    obtain ⟨k, rfl, hk, x, rfl⟩ := hrel
    by_cases h : k < n
    · have hlk : k < l.length := by have := HN.out; omega
      obtain ⟨eb, eoff, ex, rfl, ehb, ehd, eok, eh0, eh1, eh2⟩ := hs.atTLimit (show k < l.length by omega)
      obtain ⟨fb, foff, fx, rfl, fhb, fhd, fok, fh0, fh1, fh2⟩ := hs2.atTLimit (show k < l.length by omega)
      obtain rfl : ex = fx := by have := ehd.out.symm.trans fhd.out; simpa using this
      clear ehd fhd hlk hs hs2
      have ce : ∀ {W : World} [Grows w W], Calls Tryz.prog 179 #[.agg #[.int .i64 ex.Param, .int .i64 ex.Low, .int .i64 ex.High], .agg #[.int .i64 ex.Param, .int .i64 ex.Low, .int .i64 ex.High]] W (Gives W (.bool true)) := fun {W} _ => d_leqLimit (B := 0) (B2 := 0) (x := ex) ⟨rfl, eok⟩ ⟨rfl, fok⟩
      clear eok fok
      go_wp2_with (first | ((with_reducible refine wp_region_later (by kernel_rfl) (by kernel_rfl) ?_); (repeat (first | go_big_quiet_step (first | (go_at_call 179; exact Gives.quiet (ce))))); refine wpQuiet_nil ?_; rintro _ ⟨x, rfl⟩) | (go_at_call 179; refine (ce).mono ?_; rintro _ _ ⟨rfl, x, rfl⟩))
      go_roundw
      case rel => exact ⟨k + 1, by go_num, by omega, Later.of⟩
      case measure => simp [intOf]; omega
    · go_wp2_with (first | ((with_reducible refine wp_region_later (by kernel_rfl) (by kernel_rfl) ?_); (repeat (first | go_big_quiet_step (first | fail))); refine wpQuiet_nil ?_; rintro _ ⟨x, rfl⟩))
      go_ret
      exact Gives.mk rfl

theorem d_ltoDone {B : Nat} {vs : List Value} {x : TDone} {w : World} (h : Enc.Rd B w vs x) (ht : Enc.tot x ≤ 1048576) :
    Calls Tryz.prog 177 #[.agg vs.toArray] w (GivesD w x) := by
  obtain ⟨rfl, hok⟩ := h
  clear ht
  have HOK := Lib.hid hok; clear hok
  go_enter Tryz.func177, Tryz.ntmps177
  go_wp2_with (first | ((with_reducible refine wp_region_later (by kernel_rfl) (by kernel_rfl) ?_); (repeat (first | go_big_quiet_step (first | fail))); refine wpQuiet_nil ?_; rintro _ ⟨x, rfl⟩))
  refine bodyPost_ret (v := .agg #[.int .i64 x.Number, .int .i64 x.Time, .int .i64 x.Result]) ?_ rfl ⟨[.int .i64 x.Number, .int .i64 x.Time, .int .i64 x.Result], rfl, ⟨rfl, HOK.out⟩, Later.of⟩
  simp [results, Tryz.results177, go_sem]

theorem d_leqDone {B B2 : Nat} {vs vs2 : List Value} {x : TDone} {w : World} (h : Enc.Rd B w vs x) (h2 : Enc.Rd B2 w vs2 x) :
    Calls Tryz.prog 181 #[.agg vs.toArray, .agg vs2.toArray] w (Gives w (.bool true)) := by
  obtain ⟨rfl, hok⟩ := h
  obtain ⟨rfl, -⟩ := h2
  have HOK := Lib.hid hok; clear hok
  go_enter Tryz.func181, Tryz.ntmps181
  go_wp2_with (first | ((with_reducible refine wp_region_later (by kernel_rfl) (by kernel_rfl) ?_); (repeat (first | go_big_quiet_step (first | fail))); refine wpQuiet_nil ?_; rintro _ ⟨x, rfl⟩))
  go_ret
  exact Gives.mk rfl

theorem d_ltoDoneS {B : Nat} {a : Option Addr} {c : Nat} {l : List TDone} {w : World} (hs : RdS B w a c l) (ht : totL l ≤ 1048576) :
    Calls Tryz.prog 154 #[.slice a l.length c] w (GivesDS w l) := by
  have hln := totL_len l
  have HT := Lib.hid (show ∀ x ∈ l, Enc.tot x ≤ 1048576 from fun x hx => Int.le_trans (totL_mem hx) ht)
  obtain ⟨n, hn⟩ : ∃ n, l.length = n := ⟨_, rfl⟩
  have HN := Lib.hid hn
  have hm : n ≤ 1048576 := by omega
  rw [hn]; clear ht hln hn
  obtain ⟨C, hC, hmk⟩ := run_mk (P := Tryz.prog) Tryz.underlying81 (e := 121) (z := .agg #[.int .i64 0, .int .i64 0, .int .i64 0]) (size := 3) (bytes := 24) (by kernel_rfl) n (by omega) (by omega)
  have hCz : C.size = n * 3 := by rw [hC, size_madeCells]
  clear hC
  go_enter Tryz.func154, Tryz.ntmps154
  go_wp2_with (first | ((with_reducible refine wp_region_later (by kernel_rfl) (by kernel_rfl) ?_); (repeat (first | go_big_quiet_step (first | fail))); refine wpQuiet_nil ?_; rintro _ ⟨x, rfl⟩))
  clear hmk
  go_loopw [4] (fun v wr => ∃ k : Nat, v = .int .i64 k ∧ k ≤ n ∧ ∃ (D : Array Value) (x : Later (w.alloc (.cells D 121))), D.size = n * 3 ∧ Hid (RowsIn (w.heap.size + 1) x.w D (l.take k)) ∧ wr = x.w) (fun v _ => (n - intOf v).toNat)
  case atStart => exact ⟨0, rfl, by omega, C, Later.here _, hCz, by rw [List.take_zero]; exact RowsIn.nil, rfl⟩
  case round =>
    obtain ⟨k, rfl, hk, D, x, hDz, hf, rfl⟩ := hrel
    by_cases h : k < n
    · have hlk : k < l.length := by have := HN.out; omega
      obtain ⟨eb, eoff, ex, rfl, ehb, ehd, eok, eh0, eh1, eh2⟩ := hs.atTDone (show k < l.length by omega)
      obtain ⟨o0, g0⟩ := getD_lt hDz (show k * 3 < n * 3 by omega)
      obtain ⟨o1, g1⟩ := getD_lt hDz (show k * 3 + 1 < n * 3 by omega)
      obtain ⟨o2, g2⟩ := getD_lt hDz (show k * 3 + 2 < n * 3 by omega)
      have hte := HT.out ex (List.mem_of_mem_drop (by rw [ehd.out]; exact List.mem_cons_self ..))
      have HEOK := Lib.hid eok; clear eok
      go_wp2_with (first | ((with_reducible refine wp_region_later (by kernel_rfl) (by kernel_rfl) ?_); (repeat (first | go_big_quiet_step (first | fail))); refine wpQuiet_nil ?_; rintro _ ⟨x, rfl⟩))
      refine (d_ltoDone (B := 0) (x := ex) ⟨rfl, HEOK.out⟩ hte).mono ?_
      rintro _ _ ⟨_, rfl, ⟨rfl, -⟩, y, rfl⟩
      clear hte
      go_wp2_with (first | ((with_reducible refine wp_region_later (by kernel_rfl) (by kernel_rfl) ?_); (repeat (first | go_big_quiet_step (first | fail))); refine wpQuiet_nil ?_; rintro _ ⟨x, rfl⟩))
      go_roundw
      case rel =>
        obtain ⟨x2, hx2⟩ := Later.set3_at (x.andThen y) (k * 3) (k * 3 + 1) (k * 3 + 2) (.int .i64 ex.Number) (.int .i64 ex.Time) (.int .i64 ex.Result)
        rw [hx2]
        have hP := RowsIn.put (W' := x2.w) hf.out ehd.out h HN.out hDz (vs := [.int .i64 ex.Number, .int .i64 ex.Time, .int .i64 ex.Result]) ⟨rfl, HEOK.out⟩ (by rw [← hx2]; infer_instance)
        exact ⟨k + 1, by go_num, by omega, _, x2, by simpa using hDz, hP, rfl⟩
      case measure => simp [intOf]; omega
    · go_wp2_with (first | ((with_reducible refine wp_region_later (by kernel_rfl) (by kernel_rfl) ?_); (repeat (first | go_big_quiet_step (first | fail))); refine wpQuiet_nil ?_; rintro _ ⟨x, rfl⟩))
      go_ret
      have hf2 := hf.out
      rw [List.take_of_length_le (by have := HN.out; omega)] at hf2
      exact ⟨_, n, by rw [HN.out]; rfl, RowsIn.done x hf2 HN.out hm (by omega), ⟨x.w, Grows.out⟩, rfl⟩

theorem d_lszDoneS {B : Nat} {a : Option Addr} {c : Nat} {l : List TDone} {left : Int} {w : World} (hs : RdS B w a c l) (hl : 0 ≤ left) (hl2 : left ≤ 1048576) :
    Calls Tryz.prog 144 #[.slice a l.length c, .int .i64 left] w (Gives w (.int .i64 (szD left (totL l)))) := by
  have hmx := hs.max
  have hln := totL_len l
  obtain ⟨n, hn⟩ : ∃ n, l.length = n := ⟨_, rfl⟩
  rw [hn] at hln hmx
  rw [hn]
  have HN := Lib.hid hn; clear hn
  have htl : totL l = n := by rw [← HN.out]; clear hs HN hmx hln; induction l with | nil => rfl | cons x r ih => simp only [totL, List.length_cons, ih]; show 1 + 0 + _ = _; omega
  rw [htl]; clear htl hln hs
  by_cases h : left - n < 0
  · rw [szD_neg h]
    go_enter Tryz.func144, Tryz.ntmps144
    go_wp2_with (first | ((with_reducible refine wp_region_later (by kernel_rfl) (by kernel_rfl) ?_); (repeat (first | go_big_quiet_step (first | fail))); refine wpQuiet_nil ?_; rintro _ ⟨x, rfl⟩))
    go_ret
    exact Gives.mk rfl
  · rw [szD_pos h]
    go_enter Tryz.func144, Tryz.ntmps144
    go_wp2_with (first | ((with_reducible refine wp_region_later (by kernel_rfl) (by kernel_rfl) ?_); (repeat (first | go_big_quiet_step (first | fail))); refine wpQuiet_nil ?_; rintro _ ⟨x, rfl⟩))
    go_ret
    exact Gives.mk rfl

theorem d_leqDoneS {B B2 : Nat} {a a2 : Option Addr} {c c2 : Nat} {l : List TDone} {w : World} (hs : RdS B w a c l) (hs2 : RdS B2 w a2 c2 l) :
    Calls Tryz.prog 164 #[.slice a l.length c, .slice a2 l.length c2] w (Gives w (.bool true)) := by
  have hmx := hs.max
  obtain ⟨n, hn⟩ : ∃ n, l.length = n := ⟨_, rfl⟩
  rw [hn] at hmx
  rw [hn]
  have HN := Lib.hid hn; clear hn
  have kn : ((n : Int) != (n : Int)) = false := by simp
  go_enter Tryz.func164, Tryz.ntmps164
  go_wp2_with (first | ((with_reducible refine wp_region_later (by kernel_rfl) (by kernel_rfl) ?_); (repeat (first | go_big_quiet_step (first | fail) | simp only [kn])); refine wpQuiet_nil ?_; rintro _ ⟨x, rfl⟩))
  go_loopw [5] (fun v wr => ∃ k : Nat, v = .int .i64 k ∧ k ≤ n ∧ ∃ x : Later w, wr = x.w) (fun v _ => (n - intOf v).toNat)
  case atStart => exact ⟨0, rfl, by omega, Later.of⟩
  case round =>
    obtain ⟨k, rfl, hk, x, rfl⟩ := hrel
    by_cases h : k < n
    · have hlk : k < l.length := by have := HN.out; omega
      obtain ⟨eb, eoff, ex, rfl, ehb, ehd, eok, eh0, eh1, eh2⟩ := hs.atTDone (show k < l.length by omega)
      obtain ⟨fb, foff, fx, rfl, fhb, fhd, fok, fh0, fh1, fh2⟩ := hs2.atTDone (show k < l.length by omega)
      obtain rfl : ex = fx := by have := ehd.out.symm.trans fhd.out; simpa using this
      clear ehd fhd hlk hs hs2
      have ce : ∀ {W : World} [Grows w W], Calls Tryz.prog 181 #[.agg #[.int .i64 ex.Number, .int .i64 ex.Time, .int .i64 ex.Result], .agg #[.int .i64 ex.Number, .int .i64 ex.Time, .int .i64 ex.Result]] W (Gives W (.bool true)) := fun {W} _ => d_leqDone (B := 0) (B2 := 0) (x := ex) ⟨rfl, eok⟩ ⟨rfl, fok⟩
      clear eok fok
      go_wp2_with (first | ((with_reducible refine wp_region_later (by kernel_rfl) (by kernel_rfl) ?_); (repeat (first | go_big_quiet_step (first | (go_at_call 181; exact Gives.quiet (ce))))); refine wpQuiet_nil ?_; rintro _ ⟨x, rfl⟩) | (go_at_call 181; refine (ce).mono ?_; rintro _ _ ⟨rfl, x, rfl⟩))
      go_roundw
      case rel => exact ⟨k + 1, by go_num, by omega, Later.of⟩
      case measure => simp [intOf]; omega
    · go_wp2_with (first | ((with_reducible refine wp_region_later (by kernel_rfl) (by kernel_rfl) ?_); (repeat (first | go_big_quiet_step (first | fail))); refine wpQuiet_nil ?_; rintro _ ⟨x, rfl⟩))
      go_ret
      exact Gives.mk rfl

end Go.Proofs.YtdankjbkioepgaaGreat
