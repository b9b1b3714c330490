/- The contracts of the mirrors, sizes and equalities of flat structs (2). No condition but on sizes. -/
import Derived.Test.YtbaffippdifbpaaGreatVM0
namespace Go.Proofs.YtbaffippdifbpaaGreat
set_option linter.unusedVariables false
open Go.ChangeShapes Go.WideShapes Go.ChangeAt Go.RowKit
theorem d_ltoDrift {B : Nat} {vs : List Value} {x : TDrift} {w : World} (h : Enc.Rd B w vs x) (ht : Enc.tot x ≤ 1048576) :
    Calls Tryz.prog 18 #[.agg vs.toArray] w (GivesD w x) := by
  obtain ⟨rfl, hok⟩ := h
  clear ht
  have HOK := Lib.hid hok; clear hok
  go_enter Tryz.func18, Tryz.ntmps18
  go_wp2_with fail
  refine bodyPost_ret (v := .agg #[.int .i64 x.Rate, .int .i64 x.Offset]) ?_ rfl ⟨[.int .i64 x.Rate, .int .i64 x.Offset], rfl, ⟨rfl, HOK.out⟩, Later.of⟩
  simp [results, Tryz.results18, go_sem]
theorem d_leqDrift {B B2 : Nat} {vs vs2 : List Value} {x : TDrift} {w : World} (h : Enc.Rd B w vs x) (h2 : Enc.Rd B2 w vs2 x) :
    Calls Tryz.prog 70 #[.agg vs.toArray, .agg vs2.toArray] w (Gives w (.bool true)) := by
  obtain ⟨rfl, hok⟩ := h
  obtain ⟨rfl, -⟩ := h2
  have HOK := Lib.hid hok; clear hok
  go_enter Tryz.func70, Tryz.ntmps70
  go_wp2_with fail
  go_ret
  exact Gives.mk rfl
theorem d_ltoPair {B : Nat} {vs : List Value} {x : Pair} {w : World} (h : Enc.Rd B w vs x) (ht : Enc.tot x ≤ 1048576) :
    Calls Tryz.prog 283 #[.agg vs.toArray] w (GivesD w x) := by
  obtain ⟨rfl, hok⟩ := h
  clear ht
  have HOK := Lib.hid hok; clear hok
  go_enter Tryz.func283, Tryz.ntmps283
  go_wp2_with fail
  refine bodyPost_ret (v := .agg #[.int .i64 x.Board, .int .i64 x.True]) ?_ rfl ⟨[.int .i64 x.Board, .int .i64 x.True], rfl, ⟨rfl, HOK.out⟩, Later.of⟩
  simp [results, Tryz.results283, go_sem]
theorem d_leqPair {B B2 : Nat} {vs vs2 : List Value} {x : Pair} {w : World} (h : Enc.Rd B w vs x) (h2 : Enc.Rd B2 w vs2 x) :
    Calls Tryz.prog 254 #[.agg vs.toArray, .agg vs2.toArray] w (Gives w (.bool true)) := by
  obtain ⟨rfl, hok⟩ := h
  obtain ⟨rfl, -⟩ := h2
  have HOK := Lib.hid hok; clear hok
  go_enter Tryz.func254, Tryz.ntmps254
  go_wp2_with fail
  go_ret
  exact Gives.mk rfl
theorem d_lszPairS {B : Nat} {a : Option Addr} {c : Nat} {l : List Pair} {left : Int} {w : World} (hs : RdS B w a c l) (hl : 0 ≤ left) (hl2 : left ≤ 1048576) :
    Calls Tryz.prog 190 #[.slice a l.length c, .int .i64 left] w (Gives w (.int .i64 (szD left (totL l)))) := by
  have hmx := hs.max
  have hln := totL_len l
  obtain ⟨n, hn⟩ : ∃ n, l.length = n := ⟨_, rfl⟩
  rw [hn] at hln hmx
  rw [hn]
  have HN := Lib.hid hn; clear hn
  have htl : totL l = n := by rw [← HN.out]; clear hs HN hmx hln; induction l with | nil => rfl | cons x r ih => simp only [totL, List.length_cons, ih]; show 1 + 0 + _ = _; omega
  rw [htl]; clear htl hln hs
  by_cases h : left - n < 0
  · rw [szD_neg h]
    go_enter Tryz.func190, Tryz.ntmps190
    go_wp2_with fail
    go_ret
    exact Gives.mk rfl
  · rw [szD_pos h]
    go_enter Tryz.func190, Tryz.ntmps190
    go_wp2_with fail
    go_ret
    exact Gives.mk rfl
theorem d_leqPairS {B B2 : Nat} {a a2 : Option Addr} {c c2 : Nat} {l : List Pair} {w : World} (hs : RdS B w a c l) (hs2 : RdS B2 w a2 c2 l) :
    Calls Tryz.prog 163 #[.slice a l.length c, .slice a2 l.length c2] w (Gives w (.bool true)) := by
  have hmx := hs.max
  obtain ⟨n, hn⟩ : ∃ n, l.length = n := ⟨_, rfl⟩
  rw [hn] at hmx
  rw [hn]
  have HN := Lib.hid hn; clear hn
  have kn : ((n : Int) != (n : Int)) = false := by simp
  go_enter Tryz.func163, Tryz.ntmps163
  go_wp2_with (first | ((with_reducible refine wp_region_later (by kernel_rfl) (by kernel_rfl) ?_); (repeat (first | go_big_quiet_step (first | fail) | simp only [kn])); refine wpQuiet_nil ?_; rintro _ ⟨x, rfl⟩))
  go_loopw [5] (fun v wr => ∃ k : Nat, v = .int .i64 k ∧ k ≤ n ∧ ∃ x : Later w, wr = x.w) (fun v _ => (n - intOf v).toNat)
  case atStart => exact ⟨0, rfl, by omega, Later.of⟩
  case round =>
    obtain ⟨k, rfl, hk, x, rfl⟩ := hrel
    by_cases h : k < n
    · have hlk : k < l.length := by have := HN.out; omega
      obtain ⟨eb, eoff, ex, rfl, ehb, ehd, eok, eh0, eh1⟩ := hs.atPair (show k < l.length by omega)
      obtain ⟨fb, foff, fx, rfl, fhb, fhd, fok, fh0, fh1⟩ := hs2.atPair (show k < l.length by omega)
      obtain rfl : ex = fx := by have := ehd.out.symm.trans fhd.out; simpa using this
      clear ehd fhd hlk hs hs2
      have ce : ∀ {W : World} [Grows w W], Calls Tryz.prog 254 #[.agg #[.int .i64 ex.Board, .int .i64 ex.True], .agg #[.int .i64 ex.Board, .int .i64 ex.True]] W (Gives W (.bool true)) := fun {W} _ => d_leqPair (B := 0) (B2 := 0) (x := ex) ⟨rfl, eok⟩ ⟨rfl, fok⟩
      clear eok fok
      go_wp2_with (first | ((with_reducible refine wp_region_later (by kernel_rfl) (by kernel_rfl) ?_); (repeat (first | go_big_quiet_step (first | (go_at_call 254; exact Gives.quiet (ce))))); refine wpQuiet_nil ?_; rintro _ ⟨x, rfl⟩) | (go_at_call 254; refine (ce).mono ?_; rintro _ _ ⟨rfl, x, rfl⟩))
      go_roundw
      case rel => exact ⟨k + 1, by go_num, by omega, Later.of⟩
      case measure => simp [intOf]; omega
    · go_wp2_with fail
      go_ret
      exact Gives.mk rfl
theorem d_ltoOrbit {B : Nat} {vs : List Value} {x : TOrbit} {w : World} (h : Enc.Rd B w vs x) (ht : Enc.tot x ≤ 1048576) :
    Calls Tryz.prog 19 #[.agg vs.toArray] w (GivesD w x) := by
  obtain ⟨rfl, hok⟩ := h
  clear ht
  have HOK := Lib.hid hok; clear hok
  go_enter Tryz.func19, Tryz.ntmps19
  go_wp2_with fail
  refine bodyPost_ret (v := .agg #[.int .i64 x.Period, .int .i64 x.Start, .int .i64 x.Length]) ?_ rfl ⟨[.int .i64 x.Period, .int .i64 x.Start, .int .i64 x.Length], rfl, ⟨rfl, HOK.out⟩, Later.of⟩
  simp [results, Tryz.results19, go_sem]
theorem d_leqOrbit {B B2 : Nat} {vs vs2 : List Value} {x : TOrbit} {w : World} (h : Enc.Rd B w vs x) (h2 : Enc.Rd B2 w vs2 x) :
    Calls Tryz.prog 71 #[.agg vs.toArray, .agg vs2.toArray] w (Gives w (.bool true)) := by
  obtain ⟨rfl, hok⟩ := h
  obtain ⟨rfl, -⟩ := h2
  have HOK := Lib.hid hok; clear hok
  go_enter Tryz.func71, Tryz.ntmps71
  go_wp2_with fail
  go_ret
  exact Gives.mk rfl
theorem d_ltoSlot {B : Nat} {vs : List Value} {x : Slot} {w : World} (h : Enc.Rd B w vs x) (ht : Enc.tot x ≤ 1048576) :
    Calls Tryz.prog 202 #[.agg vs.toArray] w (GivesD w x) := by
  obtain ⟨rfl, hok⟩ := h
  clear ht
  have HOK := Lib.hid hok; clear hok
  go_enter Tryz.func202, Tryz.ntmps202
  go_wp2_with fail
  refine bodyPost_ret (v := .agg #[.int .i64 x.Time, .int .i64 x.Id]) ?_ rfl ⟨[.int .i64 x.Time, .int .i64 x.Id], rfl, ⟨rfl, HOK.out⟩, Later.of⟩
  simp [results, Tryz.results202, go_sem]
theorem d_leqSlot {B B2 : Nat} {vs vs2 : List Value} {x : Slot} {w : World} (h : Enc.Rd B w vs x) (h2 : Enc.Rd B2 w vs2 x) :
    Calls Tryz.prog 158 #[.agg vs.toArray, .agg vs2.toArray] w (Gives w (.bool true)) := by
  obtain ⟨rfl, hok⟩ := h
  obtain ⟨rfl, -⟩ := h2
  have HOK := Lib.hid hok; clear hok
  go_enter Tryz.func158, Tryz.ntmps158
  go_wp2_with fail
  go_ret
  exact Gives.mk rfl
theorem d_lszSlotS {B : Nat} {a : Option Addr} {c : Nat} {l : List Slot} {left : Int} {w : World} (hs : RdS B w a c l) (hl : 0 ≤ left) (hl2 : left ≤ 1048576) :
    Calls Tryz.prog 89 #[.slice a l.length c, .int .i64 left] w (Gives w (.int .i64 (szD left (totL l)))) := by
  have hmx := hs.max
  have hln := totL_len l
  obtain ⟨n, hn⟩ : ∃ n, l.length = n := ⟨_, rfl⟩
  rw [hn] at hln hmx
  rw [hn]
  have HN := Lib.hid hn; clear hn
  have htl : totL l = n := by rw [← HN.out]; clear hs HN hmx hln; induction l with | nil => rfl | cons x r ih => simp only [totL, List.length_cons, ih]; show 1 + 0 + _ = _; omega
  rw [htl]; clear htl hln hs
  by_cases h : left - n < 0
  · rw [szD_neg h]
    go_enter Tryz.func89, Tryz.ntmps89
    go_wp2_with fail
    go_ret
    exact Gives.mk rfl
  · rw [szD_pos h]
    go_enter Tryz.func89, Tryz.ntmps89
    go_wp2_with fail
    go_ret
    exact Gives.mk rfl
theorem d_leqSlotS {B B2 : Nat} {a a2 : Option Addr} {c c2 : Nat} {l : List Slot} {w : World} (hs : RdS B w a c l) (hs2 : RdS B2 w a2 c2 l) :
    Calls Tryz.prog 72 #[.slice a l.length c, .slice a2 l.length c2] w (Gives w (.bool true)) := by
  have hmx := hs.max
  obtain ⟨n, hn⟩ : ∃ n, l.length = n := ⟨_, rfl⟩
  rw [hn] at hmx
  rw [hn]
  have HN := Lib.hid hn; clear hn
  have kn : ((n : Int) != (n : Int)) = false := by simp
  go_enter Tryz.func72, Tryz.ntmps72
  go_wp2_with (first | ((with_reducible refine wp_region_later (by kernel_rfl) (by kernel_rfl) ?_); (repeat (first | go_big_quiet_step (first | fail) | simp only [kn])); refine wpQuiet_nil ?_; rintro _ ⟨x, rfl⟩))
  go_loopw [5] (fun v wr => ∃ k : Nat, v = .int .i64 k ∧ k ≤ n ∧ ∃ x : Later w, wr = x.w) (fun v _ => (n - intOf v).toNat)
  case atStart => exact ⟨0, rfl, by omega, Later.of⟩
  case round =>
    obtain ⟨k, rfl, hk, x, rfl⟩ := hrel
    by_cases h : k < n
    · have hlk : k < l.length := by have := HN.out; omega
      obtain ⟨eb, eoff, ex, rfl, ehb, ehd, eok, eh0, eh1⟩ := hs.atSlot (show k < l.length by omega)
      obtain ⟨fb, foff, fx, rfl, fhb, fhd, fok, fh0, fh1⟩ := hs2.atSlot (show k < l.length by omega)
      obtain rfl : ex = fx := by have := ehd.out.symm.trans fhd.out; simpa using this
      clear ehd fhd hlk hs hs2
      have ce : ∀ {W : World} [Grows w W], Calls Tryz.prog 158 #[.agg #[.int .i64 ex.Time, .int .i64 ex.Id], .agg #[.int .i64 ex.Time, .int .i64 ex.Id]] W (Gives W (.bool true)) := fun {W} _ => d_leqSlot (B := 0) (B2 := 0) (x := ex) ⟨rfl, eok⟩ ⟨rfl, fok⟩
      clear eok fok
      go_wp2_with (first | ((with_reducible refine wp_region_later (by kernel_rfl) (by kernel_rfl) ?_); (repeat (first | go_big_quiet_step (first | (go_at_call 158; exact Gives.quiet (ce))))); refine wpQuiet_nil ?_; rintro _ ⟨x, rfl⟩) | (go_at_call 158; refine (ce).mono ?_; rintro _ _ ⟨rfl, x, rfl⟩))
      go_roundw
      case rel => exact ⟨k + 1, by go_num, by omega, Later.of⟩
      case measure => simp [intOf]; omega
    · go_wp2_with fail
      go_ret
      exact Gives.mk rfl
theorem d_ltoFlight {B : Nat} {vs : List Value} {x : TFlight} {w : World} (h : Enc.Rd B w vs x) (ht : Enc.tot x ≤ 1048576) :
    Calls Tryz.prog 203 #[.agg vs.toArray] w (GivesD w x) := by
  obtain ⟨rfl, hok⟩ := h
  clear ht
  have HOK := Lib.hid hok; clear hok
  go_enter Tryz.func203, Tryz.ntmps203
  go_wp2_with fail
  refine bodyPost_ret (v := .agg #[.int .i64 x.At, .string x.Data]) ?_ rfl ⟨[.int .i64 x.At, .string x.Data], rfl, ⟨rfl, HOK.out⟩, Later.of⟩
  simp [results, Tryz.results203, go_sem]
theorem d_lszFlight {B : Nat} {vs : List Value} {x : TFlight} {left : Int} {w : World} (h : Enc.Rd B w vs x) (hl : 0 ≤ left) (hl2 : left ≤ 1048576) :
    Calls Tryz.prog 187 #[.agg vs.toArray, .int .i64 left] w (Gives w (.int .i64 (szD left (Enc.tot x)))) := by
  obtain ⟨rfl, hok⟩ := h
  have n0 : (0 : Int) ≤ x.Data.size := by omega
  have z0 : x.Data.size ≤ 9223372036854775807 := hok.2.1
  have HOK := Lib.hid hok; clear hok
  have htot : Enc.tot x = (x.Data.size : Int) := rfl
  have HTOT := Lib.hid htot; clear htot
  go_enter Tryz.func187, Tryz.ntmps187
  by_cases h0 : left - (x.Data.size : Int) < 0
  · have HV := Lib.hid (show szD left (Enc.tot x) = -1 from szD_neg (by rw [HTOT.out]; omega))
    go_wp2_with fail
    go_ret
    exact Gives.mk (by rw [HV.out]; rfl)
  have HV := Lib.hid (show szD left (Enc.tot x) = left - (x.Data.size : Int) by rw [szD_pos (by rw [HTOT.out]; omega), HTOT.out] <;> omega)
  go_wp2_with fail
  go_ret
  exact Gives.mk (by rw [HV.out]; rfl)
theorem d_leqFlight {B B2 : Nat} {vs vs2 : List Value} {x : TFlight} {w : World} (h : Enc.Rd B w vs x) (h2 : Enc.Rd B2 w vs2 x) :
    Calls Tryz.prog 159 #[.agg vs.toArray, .agg vs2.toArray] w (Gives w (.bool true)) := by
  obtain ⟨rfl, hok⟩ := h
  obtain ⟨rfl, -⟩ := h2
  have HOK := Lib.hid hok; clear hok
  go_enter Tryz.func159, Tryz.ntmps159
  go_wp2_with fail
  go_ret
  exact Gives.mk rfl
set_option maxRecDepth 100000 in
set_option maxHeartbeats 2000000 in
theorem d_lszFlightS {B : Nat} {a : Option Addr} {c : Nat} {l : List TFlight} {left : Int} {w : World} (hs : RdS B w a c l) (hl : 0 ≤ left) (hl2 : left ≤ 1048576) :
    Calls Tryz.prog 90 #[.slice a l.length c, .int .i64 left] w (Gives w (.int .i64 (szD left (totL l)))) := by
  have hmx := hs.max
  have hln := totL_len l
  obtain ⟨n, hn⟩ : ∃ n, l.length = n := ⟨_, rfl⟩
  rw [hn] at hln hmx
  rw [hn]
  have HN := Lib.hid hn; clear hn
  by_cases h : left - n < 0
  · have HV := Lib.hid (show szD left (totL l) = -1 from szD_neg (by omega))
    go_enter Tryz.func90, Tryz.ntmps90
    go_wp2_with fail
    go_ret
    exact Gives.mk (by rw [HV.out]; rfl)
  · go_enter Tryz.func90, Tryz.ntmps90
    go_wp2_with fail
    go_loopw [1, 5] (fun u v wr => ∃ (k : Nat) (r : Int), v = .int .i64 k ∧ u = .int .i64 r ∧ k ≤ n ∧ 0 ≤ r ∧ r ≤ 1048576 ∧ Hid (r - totL (l.drop k) + (n - k) = left - totL l) ∧ ∃ x : Later w, wr = x.w) (fun _ v _ => (n - intOf v).toNat)
    case atStart => exact ⟨0, left - n, rfl, by go_num, by omega, by omega, by omega, by unfold Hid; rw [List.drop_zero]; omega, Later.of⟩
    case round =>
      obtain ⟨k, r, rfl, rfl, hk, hr, hr2, hf, x, rfl⟩ := hrel
      by_cases h2 : k < n
      · have hlk : k < l.length := by have := HN.out; omega
        obtain ⟨eb, eoff, ex, rfl, ehb, ehd, eok, eh0, eh1⟩ := hs.atTFlight (show k < l.length by omega)
        have hd2 := totL_len (l.drop (k + 1))
        have HD2 := Lib.hid (show ((n : Int) - k - 1 ≤ totL (l.drop (k + 1))) by rw [List.length_drop, HN.out] at hd2; omega); clear hd2 hlk
        have ht0 := Enc.tot_nonneg ex
        obtain ⟨t, htt⟩ : ∃ t, Enc.tot ex = t := ⟨_, rfl⟩
        have hf2 : Hid (r - (1 + t + totL (l.drop (k + 1))) + (n - k) = left - totL l) := by
          have := hf.out; rw [ehd.out] at this; rw [← htt]; exact this
        rw [htt] at ht0
        have HTT := Lib.hid htt; clear htt hf
        have HEOK := Lib.hid eok; clear eok
        go_wp2_with fail
        refine (d_lszFlight (B := 0) (x := ex) ⟨rfl, HEOK.out⟩ (by omega) (by omega)).mono ?_
        rintro _ _ ⟨rfl, y, rfl⟩
        rw [HTT.out]
        by_cases h3 : r - t < 0
        · have HV := Lib.hid (show szD left (totL l) = -1 from szD_neg (by have h7 := hf2.out; have h8 := HD2.out; omega))
          rw [szD_neg h3]
          go_wp2_with fail
          go_ret
          exact Gives.mk (by rw [HV.out]; rfl)
        · rw [szD_pos h3]
          go_wp2_with fail
          go_roundw
          case rel => exact ⟨k + 1, r - t, by go_num, by go_num, by omega, by omega, by omega, by have h7 := hf2.out; unfold Hid; omega, Later.of⟩
          case measure => simp [intOf]; omega
      · have HV := Lib.hid (show szD left (totL l) = r by
          have h7 := hf.out
          rw [List.drop_of_length_le (by have := HN.out; omega)] at h7
          simp only [totL] at h7
          rw [szD_pos (by omega)]; omega)
        go_wp2_with fail
        go_ret
        exact Gives.mk (by rw [HV.out]; rfl)
theorem d_leqFlightS {B B2 : Nat} {a a2 : Option Addr} {c c2 : Nat} {l : List TFlight} {w : World} (hs : RdS B w a c l) (hs2 : RdS B2 w a2 c2 l) :
    Calls Tryz.prog 74 #[.slice a l.length c, .slice a2 l.length c2] w (Gives w (.bool true)) := by
  have hmx := hs.max
  obtain ⟨n, hn⟩ : ∃ n, l.length = n := ⟨_, rfl⟩
  rw [hn] at hmx
  rw [hn]
  have HN := Lib.hid hn; clear hn
  have kn : ((n : Int) != (n : Int)) = false := by simp
  go_enter Tryz.func74, Tryz.ntmps74
  go_wp2_with (first | ((with_reducible refine wp_region_later (by kernel_rfl) (by kernel_rfl) ?_); (repeat (first | go_big_quiet_step (first | fail) | simp only [kn])); refine wpQuiet_nil ?_; rintro _ ⟨x, rfl⟩))
  go_loopw [5] (fun v wr => ∃ k : Nat, v = .int .i64 k ∧ k ≤ n ∧ ∃ x : Later w, wr = x.w) (fun v _ => (n - intOf v).toNat)
  case atStart => exact ⟨0, rfl, by omega, Later.of⟩
  case round =>
    obtain ⟨k, rfl, hk, x, rfl⟩ := hrel
    by_cases h : k < n
    · have hlk : k < l.length := by have := HN.out; omega
      obtain ⟨eb, eoff, ex, rfl, ehb, ehd, eok, eh0, eh1⟩ := hs.atTFlight (show k < l.length by omega)
      obtain ⟨fb, foff, fx, rfl, fhb, fhd, fok, fh0, fh1⟩ := hs2.atTFlight (show k < l.length by omega)
      obtain rfl : ex = fx := by have := ehd.out.symm.trans fhd.out; simpa using this
      clear ehd fhd hlk hs hs2
      have ce : ∀ {W : World} [Grows w W], Calls Tryz.prog 159 #[.agg #[.int .i64 ex.At, .string ex.Data], .agg #[.int .i64 ex.At, .string ex.Data]] W (Gives W (.bool true)) := fun {W} _ => d_leqFlight (B := 0) (B2 := 0) (x := ex) ⟨rfl, eok⟩ ⟨rfl, fok⟩
      clear eok fok
      go_wp2_with (first | ((with_reducible refine wp_region_later (by kernel_rfl) (by kernel_rfl) ?_); (repeat (first | go_big_quiet_step (first | (go_at_call 159; exact Gives.quiet (ce))))); refine wpQuiet_nil ?_; rintro _ ⟨x, rfl⟩) | (go_at_call 159; refine (ce).mono ?_; rintro _ _ ⟨rfl, x, rfl⟩))
      go_roundw
      case rel => exact ⟨k + 1, by go_num, by omega, Later.of⟩
      case measure => simp [intOf]; omega
    · go_wp2_with fail
      go_ret
      exact Gives.mk rfl
theorem d_ltoUnpacker {B : Nat} {vs : List Value} {x : TUnpacker} {w : World} (h : Enc.Rd B w vs x) (ht : Enc.tot x ≤ 1048576) :
    Calls Tryz.prog 206 #[.agg vs.toArray] w (GivesD w x) := by
  obtain ⟨rfl, hok⟩ := h
  clear ht
  have HOK := Lib.hid hok; clear hok
  go_enter Tryz.func206, Tryz.ntmps206
  go_wp2_with fail
  refine bodyPost_ret (v := .agg #[.int .i64 x.Channel, .int .i64 x.Next, .bool x.Synced, .string x.Rest, .int .i64 x.Lost]) ?_ rfl ⟨[.int .i64 x.Channel, .int .i64 x.Next, .bool x.Synced, .string x.Rest, .int .i64 x.Lost], rfl, ⟨rfl, HOK.out⟩, Later.of⟩
  simp [results, Tryz.results206, go_sem]
theorem d_lszUnpacker {B : Nat} {vs : List Value} {x : TUnpacker} {left : Int} {w : World} (h : Enc.Rd B w vs x) (hl : 0 ≤ left) (hl2 : left ≤ 1048576) :
    Calls Tryz.prog 189 #[.agg vs.toArray, .int .i64 left] w (Gives w (.int .i64 (szD left (Enc.tot x)))) := by
  obtain ⟨rfl, hok⟩ := h
  have n0 : (0 : Int) ≤ x.Rest.size := by omega
  have z0 : x.Rest.size ≤ 9223372036854775807 := hok.2.2.1
  have HOK := Lib.hid hok; clear hok
  have htot : Enc.tot x = (x.Rest.size : Int) := rfl
  have HTOT := Lib.hid htot; clear htot
  go_enter Tryz.func189, Tryz.ntmps189
  by_cases h0 : left - (x.Rest.size : Int) < 0
  · have HV := Lib.hid (show szD left (Enc.tot x) = -1 from szD_neg (by rw [HTOT.out]; omega))
    go_wp2_with fail
    go_ret
    exact Gives.mk (by rw [HV.out]; rfl)
  have HV := Lib.hid (show szD left (Enc.tot x) = left - (x.Rest.size : Int) by rw [szD_pos (by rw [HTOT.out]; omega), HTOT.out] <;> omega)
  go_wp2_with fail
  go_ret
  exact Gives.mk (by rw [HV.out]; rfl)
theorem d_leqUnpacker {B B2 : Nat} {vs vs2 : List Value} {x : TUnpacker} {w : World} (h : Enc.Rd B w vs x) (h2 : Enc.Rd B2 w vs2 x) :
    Calls Tryz.prog 162 #[.agg vs.toArray, .agg vs2.toArray] w (Gives w (.bool true)) := by
  obtain ⟨rfl, hok⟩ := h
  obtain ⟨rfl, -⟩ := h2
  have HOK := Lib.hid hok; clear hok
  go_enter Tryz.func162, Tryz.ntmps162
  go_wp2_with fail
  go_ret
  exact Gives.mk rfl
end Go.Proofs.YtbaffippdifbpaaGreat
