/- The contracts of AddPair. No condition but on lengths. The contract of the mirror of the ground. No condition but on sizes. The contracts of the size and the equality of the ground. No condition but on sizes. The contracts on marks that are texts. No condition but on numbers. The contracts of what says whether lists of flights and of records are valid, both sides. No condition but on sizes. Flat elements, and the copies of their slices. No condition but on lengths. Ownership of the structs with slices: each slice has a colour of its own. No condition. -/
import Derived.Test.YtbaffippdifbpaaGreatVSlots2
import Derived.Test.YtbaffippdifbpaaGreatVM0
import Derived.Test.YtbaffippdifbpaaGreatVDF2
import Derived.Test.YtbaffippdifbpaaGreatVDM1
import Derived.Test.YtbaffippdifbpaaGreatVDM2
import Derived.Test.YtbaffippdifbpaaGreatVM9
import Derived.Test.YtbaffippdifbpaaGreatVWord
import Derived.Test.YtbaffippdifbpaaGreatVOkF
namespace Go.Proofs.YtbaffippdifbpaaGreat
set_option linter.unusedVariables false
open Go.ChangeShapes Go.WideShapes Go.ChangeAt Go.RowKit
theorem encPair_one (x : Pair) : ∀ u ∈ encPair x, u.oneCell' = true := by
  intro u hu
  simp only [encPair, List.mem_cons, List.not_mem_nil, or_false] at hu
  rcases hu with rfl | rfl <;> rfl
theorem c_clonePair {a : Option Addr} {n c : Nat} {l : List Pair} {w : World} (hs : Sl encPair w a l) (hn : l.length = n) (hm : n ≤ 100000000) :
    Calls Tryz.prog 218 #[.slice a n c] w (GivesSl encPair 221 2 w l) := by
  cases a with
  | none =>
    have hl : l = [] := by
      cases l with
      | nil => rfl
      | cons y r => obtain ⟨b, off, h0, -⟩ := hs 0 y rfl; cases h0
    have hq := fun (w : World) => run_eql_slice_nil (P := Tryz.prog) w 40 221 none n c Tryz.underlying40
    simp only [Option.isNone] at hq
    have HL := Lib.hid hl; clear hl
    go_enter Tryz.func218, Tryz.ntmps218
    go_wp2_with fail
    go_ret
    exact GivesSl.nilOf encPair_len HL.out
  | some ad =>
    have hq := fun (w : World) => run_eql_slice_nil (P := Tryz.prog) w 40 221 (some ad) n c Tryz.underlying40
    simp only [Option.isNone] at hq
    go_enter Tryz.func218, Tryz.ntmps218
    go_wp2_with (first | (at_builtin; refine wpList_appS (enc := encPair) (w0 := w) (z := .agg #[.int .i64 0, .int .i64 0]) (size := 2) (bytes := 16) (n := 0) (l := []) rfl (.tmp 5) (.tmp 6) rfl Tryz.underlying40 (by kernel_rfl) rfl (by decide) (by decide) rfl rfl (fun h => by cases h) rfl hn (Own.emptyAt encPair_len (Nat.le_refl _) rfl) (hs.to inferInstance) encPair_one (by omega) ?_; intro sa1 sc1 x1 hown1 hgr1))
    go_ret
    rw [List.nil_append] at hown1
    exact ⟨sa1, sc1, by rw [hn]; first | rfl | simp, hown1, Later.of⟩
end Go.Proofs.YtbaffippdifbpaaGreat
namespace Go.Proofs.YtbaffippdifbpaaGreat
set_option linter.unusedVariables false
open Go.ChangeShapes Go.WideShapes Go.ChangeAt Go.RowKit
end Go.Proofs.YtbaffippdifbpaaGreat
namespace Go.Proofs.YtbaffippdifbpaaGreat
set_option linter.unusedVariables false
open Go.ChangeShapes Go.WideShapes Go.ChangeAt Go.RowKit
set_option maxRecDepth 100000 in
set_option maxHeartbeats 2000000 in
theorem d_lszGround {B : Nat} {vs : List Value} {x : TGround} {left : Int} {w : World} (h : Enc.Rd B w vs x) (hl : 0 ≤ left) (hl2 : left ≤ 1048576) :
    Calls Tryz.prog 91 #[.agg vs.toArray, .int .i64 left] w (Gives w (.int .i64 (szD left (Enc.tot x)))) := by
  obtain ⟨A, rfl, F⟩ := h
  have n0 := totL_nonneg x.Offers
  have n1 := Enc.tot_nonneg x.Sender
  have n2 := Enc.tot_nonneg x.Unpacker
  have n3 := totL_nonneg x.Pairs
  have n4 := totL_nonneg x.Records
  have n5 := totL_nonneg x.Files
  have n6 := totL_nonneg x.Told
  have HOK := Lib.hid F.ok
  have htot : Enc.tot x = totL x.Offers + Enc.tot x.Sender + Enc.tot x.Unpacker + totL x.Pairs + totL x.Records + totL x.Files + totL x.Told := rfl
  have HTOT := Lib.hid htot; clear htot
  have HB := Lib.hid (Held.new w (cGround x A.a0 A.c0 A.a1 A.c1 A.a2 A.c2 A.a3 A.c3 A.a4 A.c4 A.a5 A.c5) 103 w.heap.size rfl)
  have HFF := Lib.hid F; clear F
  go_enter Tryz.func91, Tryz.ntmps91
  go_wp2_with fail
  refine (d_lszStringS (HFF.out.q0.keep inferInstance) (by omega) (by omega)).mono ?_
  rintro _ _ ⟨rfl, y0, rfl⟩
  by_cases h0 : left - totL x.Offers < 0
  · have HV := Lib.hid (show szD left (Enc.tot x) = -1 from szD_neg (by rw [HTOT.out]; omega))
    rw [szD_neg h0]
    go_wp2_with fail
    go_ret
    exact Gives.mk (by rw [HV.out]; rfl)
  rw [szD_pos h0]
  go_wp2_with (first | (refine stepLoad rfl _ _ rfl (w.heap.size) 1 rfl (row := [.int .i64 x.Sender.Next, .int .i64 x.Sender.Window, .slice A.a1 x.Sender.Waiting.length A.c1, .int .i64 x.Sender.Done]) (HB.out.to inferInstance) _ Tryz.underlying96 rfl (by kernel_rfl) (by kernel_rfl) ?_))
  refine (d_lszSender (x := x.Sender) ⟨A.a1, A.c1, rfl, HFF.out.q1.keep inferInstance, HOK.out.1⟩ (by omega) (by omega)).mono ?_
  rintro _ _ ⟨rfl, y1, rfl⟩
  by_cases h1 : left - totL x.Offers - Enc.tot x.Sender < 0
  · have HV := Lib.hid (show szD left (Enc.tot x) = -1 from szD_neg (by rw [HTOT.out]; omega))
    rw [szD_neg h1]
    go_wp2_with fail
    go_ret
    exact Gives.mk (by rw [HV.out]; rfl)
  rw [szD_pos h1]
  go_wp2_with (first | (refine stepLoad rfl _ _ rfl (w.heap.size) 8 rfl (row := [.int .i64 x.Unpacker.Channel, .int .i64 x.Unpacker.Next, .bool x.Unpacker.Synced, .string x.Unpacker.Rest, .int .i64 x.Unpacker.Lost]) (HB.out.to inferInstance) _ Tryz.underlying98 rfl (by kernel_rfl) (by kernel_rfl) ?_))
  refine (d_lszUnpacker (B := 0) (x := x.Unpacker) ⟨rfl, HOK.out.2.2.1⟩ (by omega) (by omega)).mono ?_
  rintro _ _ ⟨rfl, y2, rfl⟩
  by_cases h2 : left - totL x.Offers - Enc.tot x.Sender - Enc.tot x.Unpacker < 0
  · have HV := Lib.hid (show szD left (Enc.tot x) = -1 from szD_neg (by rw [HTOT.out]; omega))
    rw [szD_neg h2]
    go_wp2_with fail
    go_ret
    exact Gives.mk (by rw [HV.out]; rfl)
  rw [szD_pos h2]
  go_wp2_with fail
  refine (d_lszPairS (HFF.out.q2.keep inferInstance) (by omega) (by omega)).mono ?_
  rintro _ _ ⟨rfl, y3, rfl⟩
  by_cases h3 : left - totL x.Offers - Enc.tot x.Sender - Enc.tot x.Unpacker - totL x.Pairs < 0
  · have HV := Lib.hid (show szD left (Enc.tot x) = -1 from szD_neg (by rw [HTOT.out]; omega))
    rw [szD_neg h3]
    go_wp2_with fail
    go_ret
    exact Gives.mk (by rw [HV.out]; rfl)
  rw [szD_pos h3]
  go_wp2_with fail
  refine (d_lszRecordS (HFF.out.q3.keep inferInstance) (by omega) (by omega)).mono ?_
  rintro _ _ ⟨rfl, y4, rfl⟩
  by_cases h4 : left - totL x.Offers - Enc.tot x.Sender - Enc.tot x.Unpacker - totL x.Pairs - totL x.Records < 0
  · have HV := Lib.hid (show szD left (Enc.tot x) = -1 from szD_neg (by rw [HTOT.out]; omega))
    rw [szD_neg h4]
    go_wp2_with fail
    go_ret
    exact Gives.mk (by rw [HV.out]; rfl)
  rw [szD_pos h4]
  go_wp2_with fail
  refine (d_lszFileInS (HFF.out.q4.keep inferInstance) (by omega) (by omega)).mono ?_
  rintro _ _ ⟨rfl, y5, rfl⟩
  by_cases h5 : left - totL x.Offers - Enc.tot x.Sender - Enc.tot x.Unpacker - totL x.Pairs - totL x.Records - totL x.Files < 0
  · have HV := Lib.hid (show szD left (Enc.tot x) = -1 from szD_neg (by rw [HTOT.out]; omega))
    rw [szD_neg h5]
    go_wp2_with fail
    go_ret
    exact Gives.mk (by rw [HV.out]; rfl)
  rw [szD_pos h5]
  go_wp2_with fail
  refine (d_lszBoolS (HFF.out.q5.keep inferInstance) (by omega) (by omega)).mono ?_
  rintro _ _ ⟨rfl, y6, rfl⟩
  by_cases h6 : left - totL x.Offers - Enc.tot x.Sender - Enc.tot x.Unpacker - totL x.Pairs - totL x.Records - totL x.Files - totL x.Told < 0
  · have HV := Lib.hid (show szD left (Enc.tot x) = -1 from szD_neg (by rw [HTOT.out]; omega))
    rw [szD_neg h6]
    go_wp2_with fail
    go_ret
    exact Gives.mk (by rw [HV.out]; rfl)
  rw [szD_pos h6]
  have HV := Lib.hid (show szD left (Enc.tot x) = left - totL x.Offers - Enc.tot x.Sender - Enc.tot x.Unpacker - totL x.Pairs - totL x.Records - totL x.Files - totL x.Told by rw [szD_pos (by rw [HTOT.out]; omega), HTOT.out] <;> omega)
  go_wp2_with fail
  go_ret
  exact Gives.mk (by rw [HV.out]; rfl)
theorem d_leqGround {B B2 : Nat} {vs vs2 : List Value} {x : TGround} {w : World} (h : Enc.Rd B w vs x) (h2 : Enc.Rd B2 w vs2 x) :
    Calls Tryz.prog 75 #[.agg vs.toArray, .agg vs2.toArray] w (Gives w (.bool true)) := by
  obtain ⟨A, rfl, F⟩ := h
  obtain ⟨mA, rfl, mF⟩ := h2
  have HOK := Lib.hid F.ok
  have HB := Lib.hid ((Held.new w (cGround x A.a0 A.c0 A.a1 A.c1 A.a2 A.c2 A.a3 A.c3 A.a4 A.c4 A.a5 A.c5) 45 w.heap.size rfl).to (inferInstance : Grows _ ((w.alloc (.cells (cGround x A.a0 A.c0 A.a1 A.c1 A.a2 A.c2 A.a3 A.c3 A.a4 A.c4 A.a5 A.c5).toArray 45)).alloc (.cells (cGround x mA.a0 mA.c0 mA.a1 mA.c1 mA.a2 mA.c2 mA.a3 mA.c3 mA.a4 mA.c4 mA.a5 mA.c5).toArray 45))))
  have HC := Lib.hid (Held.new (w.alloc (.cells (cGround x A.a0 A.c0 A.a1 A.c1 A.a2 A.c2 A.a3 A.c3 A.a4 A.c4 A.a5 A.c5).toArray 45)) (cGround x mA.a0 mA.c0 mA.a1 mA.c1 mA.a2 mA.c2 mA.a3 mA.c3 mA.a4 mA.c4 mA.a5 mA.c5) 45 (w.heap.size + 1) (by simp))
  have HFF := Lib.hid F; clear F
  have HMF := Lib.hid mF; clear mF
  go_enter Tryz.func75, Tryz.ntmps75
  go_wp2_with fail
  refine (d_leqStringS (HFF.out.q0.keep inferInstance) (HMF.out.q0.keep inferInstance)).mono ?_
  rintro _ _ ⟨rfl, y0, rfl⟩
  go_wp2_with (first | (refine stepLoad rfl _ _ rfl (w.heap.size) 1 rfl (row := [.int .i64 x.Sender.Next, .int .i64 x.Sender.Window, .slice A.a1 x.Sender.Waiting.length A.c1, .int .i64 x.Sender.Done]) (HB.out.to inferInstance) _ Tryz.underlying35 rfl (by kernel_rfl) (by kernel_rfl) ?_) | (refine stepLoad rfl _ _ rfl (w.heap.size + 1) 1 rfl (row := [.int .i64 x.Sender.Next, .int .i64 x.Sender.Window, .slice mA.a1 x.Sender.Waiting.length mA.c1, .int .i64 x.Sender.Done]) (HC.out.to inferInstance) _ Tryz.underlying35 rfl (by kernel_rfl) (by kernel_rfl) ?_))
  refine (d_leqSender (x := x.Sender) ⟨A.a1, A.c1, rfl, HFF.out.q1.keep inferInstance, HOK.out.1⟩ ⟨mA.a1, mA.c1, rfl, HMF.out.q1.keep inferInstance, HOK.out.1⟩).mono ?_
  rintro _ _ ⟨rfl, y1, rfl⟩
  go_wp2_with (first | (refine stepLoad rfl _ _ rfl (w.heap.size) 5 rfl (row := [.int .i64 x.Notice.Expect, .bool x.Notice.Locked, .bool x.Notice.Again]) (HB.out.to inferInstance) _ Tryz.underlying37 rfl (by kernel_rfl) (by kernel_rfl) ?_) | (refine stepLoad rfl _ _ rfl (w.heap.size + 1) 5 rfl (row := [.int .i64 x.Notice.Expect, .bool x.Notice.Locked, .bool x.Notice.Again]) (HC.out.to inferInstance) _ Tryz.underlying37 rfl (by kernel_rfl) (by kernel_rfl) ?_))
  refine (d_leqNotice (B := 0) (B2 := 0) (x := x.Notice) ⟨rfl, HOK.out.2.1⟩ ⟨rfl, HOK.out.2.1⟩).mono ?_
  rintro _ _ ⟨rfl, y2, rfl⟩
  go_wp2_with (first | (refine stepLoad rfl _ _ rfl (w.heap.size) 8 rfl (row := [.int .i64 x.Unpacker.Channel, .int .i64 x.Unpacker.Next, .bool x.Unpacker.Synced, .string x.Unpacker.Rest, .int .i64 x.Unpacker.Lost]) (HB.out.to inferInstance) _ Tryz.underlying39 rfl (by kernel_rfl) (by kernel_rfl) ?_) | (refine stepLoad rfl _ _ rfl (w.heap.size + 1) 8 rfl (row := [.int .i64 x.Unpacker.Channel, .int .i64 x.Unpacker.Next, .bool x.Unpacker.Synced, .string x.Unpacker.Rest, .int .i64 x.Unpacker.Lost]) (HC.out.to inferInstance) _ Tryz.underlying39 rfl (by kernel_rfl) (by kernel_rfl) ?_))
  refine (d_leqUnpacker (B := 0) (B2 := 0) (x := x.Unpacker) ⟨rfl, HOK.out.2.2.1⟩ ⟨rfl, HOK.out.2.2.1⟩).mono ?_
  rintro _ _ ⟨rfl, y3, rfl⟩
  go_wp2_with fail
  refine (d_leqPairS (HFF.out.q2.keep inferInstance) (HMF.out.q2.keep inferInstance)).mono ?_
  rintro _ _ ⟨rfl, y4, rfl⟩
  go_wp2_with fail
  refine (d_leqRecordS (HFF.out.q3.keep inferInstance) (HMF.out.q3.keep inferInstance)).mono ?_
  rintro _ _ ⟨rfl, y5, rfl⟩
  go_wp2_with fail
  refine (d_leqFileInS (HFF.out.q4.keep inferInstance) (HMF.out.q4.keep inferInstance)).mono ?_
  rintro _ _ ⟨rfl, y6, rfl⟩
  go_wp2_with fail
  refine (d_leqBoolS (HFF.out.q5.keep inferInstance) (HMF.out.q5.keep inferInstance)).mono ?_
  rintro _ _ ⟨rfl, y7, rfl⟩
  go_wp2_with fail
  go_ret
  exact Gives.mk rfl
end Go.Proofs.YtbaffippdifbpaaGreat
namespace Go.Proofs.YtbaffippdifbpaaGreat
set_option linter.unusedVariables false
open Go.ChangeShapes Go.WideShapes Go.ChangeAt Go.RowKit
def digs (k : Nat) (acc : ByteArray) : ByteArray := if h : k = 0 then acc else digs (k / 10) (strOfNums [48 + (k : Int) % 10] ++ acc)
termination_by k
decreasing_by omega
def markTx (k : Int) : ByteArray := if k ≤ 0 then ⟨#[109, 48]⟩ else ⟨#[109]⟩ ++ digs k.toNat ⟨#[]⟩
set_option maxRecDepth 100000 in
set_option maxHeartbeats 2000000 in
theorem c_lmarkText {k : Int} {w : World} (h2 : k ≤ 2000000000000) :
    Calls Tryz.prog 79 #[.int .i64 k] w (Gives w (.string (markTx k))) := by
  by_cases h0 : k ≤ 0
  · have HV := Lib.hid (show markTx k = ⟨#[109, 48]⟩ from if_pos h0)
    go_enter Tryz.func79, Tryz.ntmps79
    go_wp2_with fail
    go_ret
    exact Gives.mk (by rw [HV.out]; rfl)
  · obtain ⟨K, rfl⟩ : ∃ K : Nat, k = K := ⟨k.toNat, by omega⟩
    have HV := Lib.hid (show markTx K = ⟨#[109]⟩ ++ digs K ⟨#[]⟩ by unfold markTx; rw [if_neg h0]; rfl)
    go_enter Tryz.func79, Tryz.ntmps79
    go_wp2_with fail
    go_loopw [0, 3] (fun u v wr => ∃ (k : Nat) (acc : ByteArray), u = .int .i64 k ∧ v = .string acc ∧ acc.size + k ≤ 2000000000000 ∧ Hid (digs k acc = digs K ⟨#[]⟩) ∧ ∃ x : Later w, wr = x.w) (fun u _ _ => (intOf u).toNat)
    case atStart => exact ⟨K, _, rfl, rfl, by simp [ByteArray.size]; omega, rfl, Later.of⟩
    case round =>
      obtain ⟨k, acc, rfl, rfl, hk, hf, x, rfl⟩ := hrel
      by_cases h3 : 0 < k
      · have hd : k % 10 < 10 := Nat.mod_lt _ (by omega)
        have HF := Lib.hid (show digs (k / 10) (strOfNums [48 + (k : Int) % 10] ++ acc) = digs K ⟨#[]⟩ by have := hf.out; rw [digs, dif_neg (by omega)] at this; exact this)
        have hcv := conv_str (P := Tryz.prog) (n := 1) (c := 1) Tryz.underlying22 Tryz.underlying5 Tryz.underlying9 (Sl.lit (enc := encByte) (W := x.w) (cs := #[.int .u8 (48 + (k : Int) % 10)]) (T := 5) (l := [48 + (k : Int) % 10]) (fun _ => rfl) rfl) rfl (by simp)
        have hs1 : (strOfNums [48 + (k : Int) % 10]).size = 1 := by simp [strOfNums_size]
        go_wp2_with fail
        go_roundw
        case rel => exact ⟨k / 10, _, by go_num, rfl, by rw [ByteArray.size_append, hs1]; omega, HF, Later.of⟩
        case measure => simp [intOf]; omega
      · have hk0 : k = 0 := by omega
        have HF := Lib.hid (show acc = digs K ⟨#[]⟩ by have := hf.out; rw [digs, dif_pos hk0] at this; exact this)
        clear hk0
        go_wp2_with fail
        go_ret
        exact Gives.mk (by rw [HV.out, ← HF.out]; rfl)
def mkStr (k0 : Int) (i : Nat) : ByteArray := markTx (k0 + i)
theorem grownBy_laterR {w : World} (x : Later w) (row : Option Nat) : w.grownBy x.w row := ⟨x.h.os, x.h.tape, x.h.output, x.h.size, fun i hi _ => x.h.block i hi⟩
set_option maxRecDepth 100000 in
set_option maxHeartbeats 2000000 in
theorem c_lmarkStringS {a : Option Addr} {n c B : Nat} {k0 : Int} {l : List ByteArray} {w : World} (hown0 : Own encStr 9 1 B w a c l) (hn : l.length = n) (hm : n ≤ 100000000) (h1 : 0 ≤ k0) (h2 : k0 ≤ 1000000000000) :
    Calls Tryz.prog 30 #[.slice a n c, .int .i64 k0] w (Marks encStr 9 1 B w a n c ((List.range n).map (mkStr k0)) (k0 + n)) := by
  go_enter Tryz.func30, Tryz.ntmps30
  go_wp2_with fail
  go_loopw [1, 5] (fun u v wr => ∃ j : Nat, v = .int .i64 j ∧ u = .int .i64 (k0 + j) ∧ j ≤ n ∧ w.grownBy wr (Value.ownBlock (.slice a n c)) ∧ Own encStr 9 1 B wr a c (mixed (mkStr k0) l j)) (fun _ v _ => (n - intOf v).toNat)
  case atStart => exact ⟨0, rfl, by simp, by omega, grownBy_refl _ _, by rw [mixed_zero]; exact hown0⟩
  case round =>
    obtain ⟨j, rfl, rfl, hj, hgr, hown⟩ := hrel
    by_cases h : j < n
    · obtain ⟨g, rfl, hB, hlt⟩ := hown.open (n := n) (by rw [mixed_length (by omega)]; omega)
      have HG := Lib.hid hgr; clear hgr
      have HO := Lib.hid hown; clear hown hlt
      go_wp2_with fail
      refine (c_lmarkText (by omega)).mono ?_
      rintro _ _ ⟨rfl, y, rfl⟩
      have hown := HO.out.to (inferInstance : Grows wr y.w)
      obtain ⟨o0, g0⟩ := hown.cells (j := j) (by rw [mixed_length (by omega)]; omega)
      have f0 := hown.free j
      have HO2 := Lib.hid hown; clear hown HO
      have HG2 := Lib.hid (grownBy_trans HG.out (grownBy_laterR y _)); clear HG
      go_wp2_with fail
      go_roundw
      case rel =>
        have hp := HO2.out.put1 (j := j) (y := mkStr k0 j) (by rw [mixed_length (by omega)]; omega) rfl
        exact ⟨j + 1, by go_num, by go_num, by omega, grownBy_trans HG2.out hp.2, by rw [← mixed_set (by omega)]; exact hp.1⟩
      case measure => simp [intOf]; omega
    · go_wp2_with fail
      go_ret
      obtain rfl : j = n := by omega
      refine ⟨rfl, hgr, ?_⟩
      rw [← hn, mixed_all] at hown
      rw [← hn]; exact hown
theorem c_lheldStringS {a : Option Addr} {n c : Nat} {k0 : Int} {w : World} (hs : Sl encStr w a ((List.range n).map (mkStr k0))) (hm : n ≤ 100000000) (h1 : 0 ≤ k0) (h2 : k0 ≤ 1000000000000) :
    Calls Tryz.prog 88 #[.slice a n c, .int .i64 k0] w (Gives w (.int .i64 (k0 + n))) := by
  go_enter Tryz.func88, Tryz.ntmps88
  go_wp2_with fail
  go_loopw [1, 5] (fun u v wr => ∃ j : Nat, v = .int .i64 j ∧ u = .int .i64 (k0 + j) ∧ j ≤ n ∧ ∃ x : Later w, wr = x.w) (fun _ v _ => (n - intOf v).toNat)
  case atStart => exact ⟨0, rfl, by simp, by omega, Later.of⟩
  case round =>
    obtain ⟨j, rfl, rfl, hj, x0, rfl⟩ := hrel
    by_cases h : j < n
    · obtain ⟨b, off, s, rfl, hb, hd, e0⟩ := hs.str (k := j) (by simpa using h)
      obtain rfl : s = mkStr k0 j := by
        have := congrArg (fun m => m[0]?) hd.out
        simpa [h] using this.symm
      simp only [mkStr] at e0
      clear hd
      go_wp2_with (first | ((with_reducible refine wp_region_later (by kernel_rfl) (by kernel_rfl) ?_); (repeat (first | go_big_quiet_step (first | (go_at_call 79; exact Gives.quiet (c_lmarkText (by omega)))))); refine wpQuiet_nil ?_; rintro _ ⟨x, rfl⟩) | (go_at_call 79; refine (c_lmarkText (by omega)).mono ?_; rintro _ _ ⟨rfl, x, rfl⟩))
      go_roundw
      case rel => exact ⟨j + 1, by go_num, by go_num, by omega, Later.of⟩
      case measure => simp [intOf]; omega
    · go_wp2_with fail
      go_ret
      obtain rfl : j = n := by omega
      exact Gives.mk rfl
end Go.Proofs.YtbaffippdifbpaaGreat
namespace Go.Proofs.YtbaffippdifbpaaGreat
set_option linter.unusedVariables false
open Go.ChangeShapes Go.WideShapes Go.ChangeAt Go.RowKit
def flightOk (x : TFlight) : Bool := inB x.At 0 1000050 && inB x.Data.size 1 404
def flightsOk (l : List TFlight) : Bool := decide (l.length ≤ 1000) && l.all flightOk
def recordsOk (l : List TRecord) : Bool := decide (l.length ≤ 5000) && l.all recordOk
theorem k_iflightsOk {B : Nat} {a : Option Addr} {c : Nat} {l : List TFlight} {w : World} (hs : RdS B w a c l) (hm : l.length ≤ 100000000) :
    Calls Tryz.prog 136 #[.slice a l.length c] w (Gives w (.bool (flightsOk l))) := by
  obtain ⟨n, hn⟩ : ∃ n, l.length = n := ⟨_, rfl⟩
  have HN := Lib.hid hn
  have HD := Lib.hid (show flightsOk l = (decide (n ≤ 1000) && l.all flightOk) by rw [flightsOk, hn])
  rw [hn] at hm ⊢
  clear hn
  by_cases hmx : n ≤ 1000
  · go_enter Tryz.func136, Tryz.ntmps136
    go_wp2_with fail
    go_loopw [10] (fun v wr => ∃ k : Nat, v = .int .i64 k ∧ k ≤ n ∧ Hid ((l.drop k).all flightOk = l.all flightOk) ∧ ∃ x : Later w, wr = x.w) (fun v _ => (n - intOf v).toNat)
    case atStart => exact ⟨0, rfl, by omega, rfl, Later.of⟩
    case round =>
      obtain ⟨k, rfl, hk, HV, x, rfl⟩ := hrel
      by_cases h : k < n
      · have hkl : k < l.length := by have := HN.out; omega
        obtain ⟨eb, eoff, ex, rfl, ehb, ehd, eok, eh0, eh1⟩ := hs.atTFlight hkl
        have hz : ex.Data.size ≤ 9223372036854775807 := eok.2.1
        have EOK := Lib.hid eok; clear eok hkl
        cases hg : flightOk ex
        · have HF := Lib.hid (show l.all flightOk = false by have := HV.out; rw [ehd.out, List.all_cons, hg] at this; rw [← this]; rfl)
          cases c1 : inB ex.At 0 1000050
          · clear hg
            go_wp2_with (first | ((with_reducible refine wp_region_later (by kernel_rfl) (by kernel_rfl) ?_); (repeat (first | go_big_quiet_step (first | (go_at_call 127; exact Gives.quiet (c_ibetween))) | simp only [c1])); refine wpQuiet_nil ?_; rintro _ ⟨x, rfl⟩) | (go_at_call 127; refine (c_ibetween).mono ?_; rintro _ _ ⟨rfl, x, rfl⟩))
            go_ret
            exact Gives.mk (by rw [HD.out, HF.out, Bool.and_false]; rfl)
          · have c2 : inB ex.Data.size 1 404 = false := by rw [flightOk, c1] at hg; exact hg
            clear hg
            go_wp2_with (first | ((with_reducible refine wp_region_later (by kernel_rfl) (by kernel_rfl) ?_); (repeat (first | go_big_quiet_step (first | (go_at_call 127; exact Gives.quiet (c_ibetween))) | simp only [c1] | simp only [c2])); refine wpQuiet_nil ?_; rintro _ ⟨x, rfl⟩) | (go_at_call 127; refine (c_ibetween).mono ?_; rintro _ _ ⟨rfl, x, rfl⟩))
            go_ret
            exact Gives.mk (by rw [HD.out, HF.out, Bool.and_false]; rfl)
        · have HF := Lib.hid (show (l.drop (k + 1)).all flightOk = l.all flightOk by have := HV.out; rw [ehd.out, List.all_cons, hg, Bool.true_and] at this; exact this)
          have c1 : inB ex.At 0 1000050 = true := by simp only [flightOk, Bool.and_eq_true] at hg; exact hg.1
          have c2 : inB ex.Data.size 1 404 = true := by simp only [flightOk, Bool.and_eq_true] at hg; exact hg.2
          clear hg
          go_wp2_with (first | ((with_reducible refine wp_region_later (by kernel_rfl) (by kernel_rfl) ?_); (repeat (first | go_big_quiet_step (first | (go_at_call 127; exact Gives.quiet (c_ibetween))) | simp only [c1] | simp only [c2])); refine wpQuiet_nil ?_; rintro _ ⟨x, rfl⟩) | (go_at_call 127; refine (c_ibetween).mono ?_; rintro _ _ ⟨rfl, x, rfl⟩))
          go_roundw
          case rel => exact ⟨k + 1, by go_num, by omega, HF, Later.of⟩
          case measure => simp [intOf]; omega
      · have HF := Lib.hid (show l.all flightOk = true by have := HV.out; rw [List.drop_of_length_le (by have := HN.out; omega)] at this; rw [← this]; rfl)
        go_wp2_with fail
        go_ret
        exact Gives.mk (by rw [HD.out, HF.out, decide_eq_true hmx]; rfl)
  · go_enter Tryz.func136, Tryz.ntmps136
    go_wp2_with fail
    go_ret
    exact Gives.mk (by rw [HD.out, decide_eq_false hmx]; rfl)
theorem k_irecordsOk {B : Nat} {a : Option Addr} {c : Nat} {l : List TRecord} {w : World} (hs : RdS B w a c l) (hm : l.length ≤ 100000000) :
    Calls Tryz.prog 243 #[.slice a l.length c] w (Gives w (.bool (recordsOk l))) := by
  obtain ⟨n, hn⟩ : ∃ n, l.length = n := ⟨_, rfl⟩
  have HN := Lib.hid hn
  have HD := Lib.hid (show recordsOk l = (decide (n ≤ 5000) && l.all recordOk) by rw [recordsOk, hn])
  rw [hn] at hm ⊢
  clear hn
  by_cases hmx : n ≤ 5000
  · go_enter Tryz.func243, Tryz.ntmps243
    go_wp2_with fail
    go_loopw [10] (fun v wr => ∃ k : Nat, v = .int .i64 k ∧ k ≤ n ∧ Hid ((l.drop k).all recordOk = l.all recordOk) ∧ ∃ x : Later w, wr = x.w) (fun v _ => (n - intOf v).toNat)
    case atStart => exact ⟨0, rfl, by omega, rfl, Later.of⟩
    case round =>
      obtain ⟨k, rfl, hk, HV, x, rfl⟩ := hrel
      by_cases h : k < n
      · have hkl : k < l.length := by have := HN.out; omega
        obtain ⟨eb, eoff, ex, rfl, ehb, ehd, eok, eh0, eh1, eh2, eh3⟩ := hs.atTRecord hkl
        have hz : ex.Data.size ≤ 9223372036854775807 := eok.2.2.2.1
        have EOK := Lib.hid eok; clear eok hkl
        cases hg : recordOk ex
        · have HF := Lib.hid (show l.all recordOk = false by have := HV.out; rw [ehd.out, List.all_cons, hg] at this; rw [← this]; rfl)
          go_wp2_with (first | ((with_reducible refine wp_region_later (by kernel_rfl) (by kernel_rfl) ?_); (repeat (first | go_big_quiet_step (first | (go_at_call 300; exact Gives.quiet (k_iRecordOk (by omega)))) | simp only [hg])); refine wpQuiet_nil ?_; rintro _ ⟨x, rfl⟩) | (go_at_call 300; refine (k_iRecordOk (by omega)).mono ?_; rintro _ _ ⟨rfl, x, rfl⟩))
          go_ret
          exact Gives.mk (by rw [HD.out, HF.out, Bool.and_false]; rfl)
        · have HF := Lib.hid (show (l.drop (k + 1)).all recordOk = l.all recordOk by have := HV.out; rw [ehd.out, List.all_cons, hg, Bool.true_and] at this; exact this)
          go_wp2_with (first | ((with_reducible refine wp_region_later (by kernel_rfl) (by kernel_rfl) ?_); (repeat (first | go_big_quiet_step (first | (go_at_call 300; exact Gives.quiet (k_iRecordOk (by omega)))) | simp only [hg])); refine wpQuiet_nil ?_; rintro _ ⟨x, rfl⟩) | (go_at_call 300; refine (k_iRecordOk (by omega)).mono ?_; rintro _ _ ⟨rfl, x, rfl⟩))
          go_roundw
          case rel => exact ⟨k + 1, by go_num, by omega, HF, Later.of⟩
          case measure => simp [intOf]; omega
      · have HF := Lib.hid (show l.all recordOk = true by have := HV.out; rw [List.drop_of_length_le (by have := HN.out; omega)] at this; rw [← this]; rfl)
        go_wp2_with fail
        go_ret
        exact Gives.mk (by rw [HD.out, HF.out, decide_eq_true hmx]; rfl)
  · go_enter Tryz.func243, Tryz.ntmps243
    go_wp2_with fail
    go_ret
    exact Gives.mk (by rw [HD.out, decide_eq_false hmx]; rfl)
theorem k_sflightsOk {B : Nat} {a : Option Addr} {c : Nat} {l : List TFlight} {w : World} (hs : RdS B w a c l) (hm : l.length ≤ 100000000) :
    Calls Tryz.prog 155 #[.slice a l.length c] w (Gives w (.bool (flightsOk l))) := by
  obtain ⟨n, hn⟩ : ∃ n, l.length = n := ⟨_, rfl⟩
  have HN := Lib.hid hn
  have HD := Lib.hid (show flightsOk l = (decide (n ≤ 1000) && l.all flightOk) by rw [flightsOk, hn])
  rw [hn] at hm ⊢
  clear hn
  go_enter Tryz.func155, Tryz.ntmps155
  go_wp2_with fail
  go_loopw [3] (fun v wr => ∃ k : Nat, v = .int .i64 k ∧ k ≤ n ∧ Hid ((l.drop k).all flightOk = l.all flightOk) ∧ ∃ x : Later w, wr = x.w) (fun v _ => (n - intOf v).toNat)
  case atStart => exact ⟨0, rfl, by omega, rfl, Later.of⟩
  case round =>
    obtain ⟨k, rfl, hk, HV, x, rfl⟩ := hrel
    by_cases h : k < n
    · have hkl : k < l.length := by have := HN.out; omega
      obtain ⟨eb, eoff, ex, rfl, ehb, ehd, eok, eh0, eh1⟩ := hs.atTFlight hkl
      have hz : ex.Data.size ≤ 9223372036854775807 := eok.2.1
      have EOK := Lib.hid eok; clear eok hkl
      cases hg : flightOk ex
      · have HF := Lib.hid (show l.all flightOk = false by have := HV.out; rw [ehd.out, List.all_cons, hg] at this; rw [← this]; rfl)
        cases c1 : inB ex.At 0 1000050
        · clear hg
          go_wp2_with (first | ((with_reducible refine wp_region_later (by kernel_rfl) (by kernel_rfl) ?_); (repeat (first | go_big_quiet_step (first | (go_at_call 151; exact Gives.quiet (c_sl01In))) | simp only [c1])); refine wpQuiet_nil ?_; rintro _ ⟨x, rfl⟩) | (go_at_call 151; refine (c_sl01In).mono ?_; rintro _ _ ⟨rfl, x, rfl⟩))
          go_ret
          exact Gives.mk (by rw [HD.out, HF.out, Bool.and_false]; rfl)
        · have c2 : inB ex.Data.size 1 404 = false := by rw [flightOk, c1] at hg; exact hg
          clear hg
          go_wp2_with (first | ((with_reducible refine wp_region_later (by kernel_rfl) (by kernel_rfl) ?_); (repeat (first | go_big_quiet_step (first | (go_at_call 151; exact Gives.quiet (c_sl01In))) | simp only [c1] | simp only [c2])); refine wpQuiet_nil ?_; rintro _ ⟨x, rfl⟩) | (go_at_call 151; refine (c_sl01In).mono ?_; rintro _ _ ⟨rfl, x, rfl⟩))
          go_ret
          exact Gives.mk (by rw [HD.out, HF.out, Bool.and_false]; rfl)
      · have HF := Lib.hid (show (l.drop (k + 1)).all flightOk = l.all flightOk by have := HV.out; rw [ehd.out, List.all_cons, hg, Bool.true_and] at this; exact this)
        have c1 : inB ex.At 0 1000050 = true := by simp only [flightOk, Bool.and_eq_true] at hg; exact hg.1
        have c2 : inB ex.Data.size 1 404 = true := by simp only [flightOk, Bool.and_eq_true] at hg; exact hg.2
        clear hg
        go_wp2_with (first | ((with_reducible refine wp_region_later (by kernel_rfl) (by kernel_rfl) ?_); (repeat (first | go_big_quiet_step (first | (go_at_call 151; exact Gives.quiet (c_sl01In))) | simp only [c1] | simp only [c2])); refine wpQuiet_nil ?_; rintro _ ⟨x, rfl⟩) | (go_at_call 151; refine (c_sl01In).mono ?_; rintro _ _ ⟨rfl, x, rfl⟩))
        go_roundw
        case rel => exact ⟨k + 1, by go_num, by omega, HF, Later.of⟩
        case measure => simp [intOf]; omega
    · have HF := Lib.hid (show l.all flightOk = true by have := HV.out; rw [List.drop_of_length_le (by have := HN.out; omega)] at this; rw [← this]; rfl)
      by_cases hmx : n ≤ 1000
      · have kx : decide ((n : Int) ≤ 1000) = true := by simp; omega
        go_wp2_with (first | ((with_reducible refine wp_region_later (by kernel_rfl) (by kernel_rfl) ?_); (repeat (first | go_big_quiet_step (first | fail) | simp only [kx])); refine wpQuiet_nil ?_; rintro _ ⟨x, rfl⟩))
        go_ret
        exact Gives.mk (by rw [HD.out, HF.out, decide_eq_true hmx]; rfl)
      · have kx : decide ((n : Int) ≤ 1000) = false := by simp; omega
        go_wp2_with (first | ((with_reducible refine wp_region_later (by kernel_rfl) (by kernel_rfl) ?_); (repeat (first | go_big_quiet_step (first | fail) | simp only [kx])); refine wpQuiet_nil ?_; rintro _ ⟨x, rfl⟩))
        go_ret
        exact Gives.mk (by rw [HD.out, HF.out, decide_eq_false hmx]; rfl)
theorem k_srecordsOk {B : Nat} {a : Option Addr} {c : Nat} {l : List TRecord} {w : World} (hs : RdS B w a c l) (hm : l.length ≤ 100000000) :
    Calls Tryz.prog 250 #[.slice a l.length c] w (Gives w (.bool (recordsOk l))) := by
  obtain ⟨n, hn⟩ : ∃ n, l.length = n := ⟨_, rfl⟩
  have HN := Lib.hid hn
  have HD := Lib.hid (show recordsOk l = (decide (n ≤ 5000) && l.all recordOk) by rw [recordsOk, hn])
  rw [hn] at hm ⊢
  clear hn
  go_enter Tryz.func250, Tryz.ntmps250
  go_wp2_with fail
  go_loopw [3] (fun v wr => ∃ k : Nat, v = .int .i64 k ∧ k ≤ n ∧ Hid ((l.drop k).all recordOk = l.all recordOk) ∧ ∃ x : Later w, wr = x.w) (fun v _ => (n - intOf v).toNat)
  case atStart => exact ⟨0, rfl, by omega, rfl, Later.of⟩
  case round =>
    obtain ⟨k, rfl, hk, HV, x, rfl⟩ := hrel
    by_cases h : k < n
    · have hkl : k < l.length := by have := HN.out; omega
      obtain ⟨eb, eoff, ex, rfl, ehb, ehd, eok, eh0, eh1, eh2, eh3⟩ := hs.atTRecord hkl
      have hz : ex.Data.size ≤ 9223372036854775807 := eok.2.2.2.1
      have EOK := Lib.hid eok; clear eok hkl
      cases hg : recordOk ex
      · have HF := Lib.hid (show l.all recordOk = false by have := HV.out; rw [ehd.out, List.all_cons, hg] at this; rw [← this]; rfl)
        go_wp2_with (first | ((with_reducible refine wp_region_later (by kernel_rfl) (by kernel_rfl) ?_); (repeat (first | go_big_quiet_step (first | (go_at_call 302; exact Gives.quiet (k_sRecordOk (by omega)))) | simp only [hg])); refine wpQuiet_nil ?_; rintro _ ⟨x, rfl⟩) | (go_at_call 302; refine (k_sRecordOk (by omega)).mono ?_; rintro _ _ ⟨rfl, x, rfl⟩))
        go_ret
        exact Gives.mk (by rw [HD.out, HF.out, Bool.and_false]; rfl)
      · have HF := Lib.hid (show (l.drop (k + 1)).all recordOk = l.all recordOk by have := HV.out; rw [ehd.out, List.all_cons, hg, Bool.true_and] at this; exact this)
        go_wp2_with (first | ((with_reducible refine wp_region_later (by kernel_rfl) (by kernel_rfl) ?_); (repeat (first | go_big_quiet_step (first | (go_at_call 302; exact Gives.quiet (k_sRecordOk (by omega)))) | simp only [hg])); refine wpQuiet_nil ?_; rintro _ ⟨x, rfl⟩) | (go_at_call 302; refine (k_sRecordOk (by omega)).mono ?_; rintro _ _ ⟨rfl, x, rfl⟩))
        go_roundw
        case rel => exact ⟨k + 1, by go_num, by omega, HF, Later.of⟩
        case measure => simp [intOf]; omega
    · have HF := Lib.hid (show l.all recordOk = true by have := HV.out; rw [List.drop_of_length_le (by have := HN.out; omega)] at this; rw [← this]; rfl)
      by_cases hmx : n ≤ 5000
      · have kx : decide ((n : Int) ≤ 5000) = true := by simp; omega
        go_wp2_with (first | ((with_reducible refine wp_region_later (by kernel_rfl) (by kernel_rfl) ?_); (repeat (first | go_big_quiet_step (first | fail) | simp only [kx])); refine wpQuiet_nil ?_; rintro _ ⟨x, rfl⟩))
        go_ret
        exact Gives.mk (by rw [HD.out, HF.out, decide_eq_true hmx]; rfl)
      · have kx : decide ((n : Int) ≤ 5000) = false := by simp; omega
        go_wp2_with (first | ((with_reducible refine wp_region_later (by kernel_rfl) (by kernel_rfl) ?_); (repeat (first | go_big_quiet_step (first | fail) | simp only [kx])); refine wpQuiet_nil ?_; rintro _ ⟨x, rfl⟩))
        go_ret
        exact Gives.mk (by rw [HD.out, HF.out, decide_eq_false hmx]; rfl)
end Go.Proofs.YtbaffippdifbpaaGreat
namespace Go.Proofs.YtbaffippdifbpaaGreat
set_option linter.unusedVariables false
open Go.ChangeShapes Go.WideShapes Go.ChangeAt Go.RowKit
theorem RdS.goods {α : Type} [E : Flat α] {B : Nat} {w : World} {a : Option Addr} {c : Nat} {l : List α} (h : RdS B w a c l) : ∀ x ∈ l, E.good x := fun x hx => by
  obtain ⟨i, hi⟩ := List.getElem?_of_mem hx
  obtain ⟨b, off, vs, -, -, -, h3, -⟩ := h.2.2.2 i x hi
  exact (E.inv h3).2
theorem RdS.slF {α : Type} [E : Flat α] {B : Nat} {w : World} {a : Option Addr} {c : Nat} {l : List α} (h : RdS B w a c l) : Sl E.enc w a l := fun i x hx => by
  obtain ⟨b, off, vs, h0, -, h2, h3, h4⟩ := h.2.2.2 i x hx
  obtain ⟨rfl, -⟩ := E.inv h3
  exact ⟨b, off, h0, h2, fun j v hv => by rw [E.encLen]; exact h4 j v hv⟩
theorem GivesSl.os {α : Type} [E : Flat α] {w w' : World} {l : List α} {e : Ending} {B : Nat} {w0 : World} {a : Option Addr} {c : Nat} (h : GivesSl E.enc E.ty E.size w l e w') (hs : RdS B w0 a c l) : GivesOS w l e w' := by
  obtain ⟨a', c', he, ho, y, hy⟩ := h
  exact ⟨a', c', he, OwnC.of ho hs.goods _, y, hy⟩
instance Flat.iInt : Flat Int where
  toEnc := inferInstance
  enc := encInt
  ty := 3
  good := i64
  encLen := fun _ => rfl
  one := encInt_one
  rd := fun h => ⟨rfl, h⟩
  inv := fun h => h
theorem o_cloneInt {B : Nat} {a : Option Addr} {c : Nat} {l : List Int} {w : World} (hs : RdS B w a c l) (hm : l.length ≤ 100000000) :
    Calls Tryz.prog 141 #[.slice a l.length c] w (GivesOS w l) :=
  (c_cloneInt (c := c) hs.slF rfl hm).mono fun _ _ h => h.os hs
def encBoo (x : Bool) : List Value := [.bool x]
theorem encBoo_len (x : Bool) : (encBoo x).length = 1 := rfl
theorem encBoo_one (x : Bool) : ∀ u ∈ encBoo x, u.oneCell' = true := by
  intro u hu
  simp only [encBoo, List.mem_cons, List.not_mem_nil, or_false] at hu
  rcases hu with rfl <;> rfl
instance Flat.iBool : Flat Bool where
  toEnc := inferInstance
  enc := encBoo
  ty := 4
  good := fun _ => True
  encLen := fun _ => rfl
  one := encBoo_one
  rd := fun _ => rfl
  inv := fun h => ⟨h, trivial⟩
theorem c_cloneBoo {a : Option Addr} {n c : Nat} {l : List Bool} {w : World} (hs : Sl encBoo w a l) (hn : l.length = n) (hm : n ≤ 100000000) :
    Calls Tryz.prog 222 #[.slice a n c] w (GivesSl encBoo 4 1 w l) := by
  cases a with
  | none =>
    have hl : l = [] := by
      cases l with
      | nil => rfl
      | cons y r => obtain ⟨b, off, h0, -⟩ := hs 0 y rfl; cases h0
    have hq := fun (w : World) => run_eql_slice_nil (P := Tryz.prog) w 43 4 none n c Tryz.underlying43
    simp only [Option.isNone] at hq
    have HL := Lib.hid hl; clear hl
    go_enter Tryz.func222, Tryz.ntmps222
    go_wp2_with fail
    go_ret
    exact GivesSl.nilOf encBoo_len HL.out
  | some ad =>
    have hq := fun (w : World) => run_eql_slice_nil (P := Tryz.prog) w 43 4 (some ad) n c Tryz.underlying43
    simp only [Option.isNone] at hq
    go_enter Tryz.func222, Tryz.ntmps222
    go_wp2_with (first | (at_builtin; refine wpList_appS (enc := encBoo) (w0 := w) (z := .bool false) (size := 1) (bytes := 1) (n := 0) (l := []) rfl (.tmp 5) (.tmp 6) rfl Tryz.underlying43 (by kernel_rfl) rfl (by decide) (by decide) rfl rfl (fun h => by cases h) rfl hn (Own.emptyAt encBoo_len (Nat.le_refl _) rfl) (hs.to inferInstance) encBoo_one (by omega) ?_; intro sa1 sc1 x1 hown1 hgr1))
    go_ret
    rw [List.nil_append] at hown1
    exact ⟨sa1, sc1, by rw [hn]; first | rfl | simp, hown1, Later.of⟩
theorem o_cloneBool {B : Nat} {a : Option Addr} {c : Nat} {l : List Bool} {w : World} (hs : RdS B w a c l) (hm : l.length ≤ 100000000) :
    Calls Tryz.prog 222 #[.slice a l.length c] w (GivesOS w l) :=
  (c_cloneBoo (c := c) hs.slF rfl hm).mono fun _ _ h => h.os hs
instance Flat.iByteArray : Flat ByteArray where
  toEnc := inferInstance
  enc := encStr
  ty := 9
  good := fun s => s.size ≤ 9223372036854775807
  encLen := fun _ => rfl
  one := encStr_one
  rd := fun h => ⟨rfl, h⟩
  inv := fun h => h
theorem o_cloneByteArray {B : Nat} {a : Option Addr} {c : Nat} {l : List ByteArray} {w : World} (hs : RdS B w a c l) (hm : l.length ≤ 100000000) :
    Calls Tryz.prog 53 #[.slice a l.length c] w (GivesOS w l) :=
  (c_cloneStr (c := c) hs.slF rfl hm).mono fun _ _ h => h.os hs
theorem encSlot_oneO (x : Slot) : ∀ u ∈ encSlot x, u.oneCell' = true := by
  intro u hu
  simp only [encSlot, List.mem_cons, List.not_mem_nil, or_false] at hu
  rcases hu with rfl | rfl <;> rfl
instance Flat.iSlot : Flat Slot where
  toEnc := inferInstance
  enc := encSlot
  ty := 205
  good := okDSlot
  encLen := fun _ => rfl
  one := encSlot_oneO
  rd := fun h => ⟨rfl, h⟩
  inv := fun h => h
theorem c_cloneSlot {a : Option Addr} {n c : Nat} {l : List Slot} {w : World} (hs : Sl encSlot w a l) (hn : l.length = n) (hm : n ≤ 100000000) :
    Calls Tryz.prog 215 #[.slice a n c] w (GivesSl encSlot 205 2 w l) := by
  cases a with
  | none =>
    have hl : l = [] := by
      cases l with
      | nil => rfl
      | cons y r => obtain ⟨b, off, h0, -⟩ := hs 0 y rfl; cases h0
    have hq := fun (w : World) => run_eql_slice_nil (P := Tryz.prog) w 28 205 none n c Tryz.underlying28
    simp only [Option.isNone] at hq
    have HL := Lib.hid hl; clear hl
    go_enter Tryz.func215, Tryz.ntmps215
    go_wp2_with fail
    go_ret
    exact GivesSl.nilOf encSlot_len HL.out
  | some ad =>
    have hq := fun (w : World) => run_eql_slice_nil (P := Tryz.prog) w 28 205 (some ad) n c Tryz.underlying28
    simp only [Option.isNone] at hq
    go_enter Tryz.func215, Tryz.ntmps215
    go_wp2_with (first | (at_builtin; refine wpList_appS (enc := encSlot) (w0 := w) (z := .agg #[.int .i64 0, .int .i64 0]) (size := 2) (bytes := 16) (n := 0) (l := []) rfl (.tmp 5) (.tmp 6) rfl Tryz.underlying28 (by kernel_rfl) rfl (by decide) (by decide) rfl rfl (fun h => by cases h) rfl hn (Own.emptyAt encSlot_len (Nat.le_refl _) rfl) (hs.to inferInstance) encSlot_oneO (by omega) ?_; intro sa1 sc1 x1 hown1 hgr1))
    go_ret
    rw [List.nil_append] at hown1
    exact ⟨sa1, sc1, by rw [hn]; first | rfl | simp, hown1, Later.of⟩
theorem o_cloneSlot {B : Nat} {a : Option Addr} {c : Nat} {l : List Slot} {w : World} (hs : RdS B w a c l) (hm : l.length ≤ 100000000) :
    Calls Tryz.prog 215 #[.slice a l.length c] w (GivesOS w l) :=
  (c_cloneSlot (c := c) hs.slF rfl hm).mono fun _ _ h => h.os hs
theorem encPair_oneO (x : Pair) : ∀ u ∈ encPair x, u.oneCell' = true := by
  intro u hu
  simp only [encPair, List.mem_cons, List.not_mem_nil, or_false] at hu
  rcases hu with rfl | rfl <;> rfl
instance Flat.iPair : Flat Pair where
  toEnc := inferInstance
  enc := encPair
  ty := 221
  good := okDPair
  encLen := fun _ => rfl
  one := encPair_oneO
  rd := fun h => ⟨rfl, h⟩
  inv := fun h => h
theorem o_clonePair {B : Nat} {a : Option Addr} {c : Nat} {l : List Pair} {w : World} (hs : RdS B w a c l) (hm : l.length ≤ 100000000) :
    Calls Tryz.prog 218 #[.slice a l.length c] w (GivesOS w l) :=
  (c_clonePair (c := c) hs.slF rfl hm).mono fun _ _ h => h.os hs
def encTFlight (x : TFlight) : List Value := [.int .i64 x.At, .string x.Data]
theorem encTFlight_len (x : TFlight) : (encTFlight x).length = 2 := rfl
theorem encTFlight_one (x : TFlight) : ∀ u ∈ encTFlight x, u.oneCell' = true := by
  intro u hu
  simp only [encTFlight, List.mem_cons, List.not_mem_nil, or_false] at hu
  rcases hu with rfl | rfl <;> rfl
instance Flat.iTFlight : Flat TFlight where
  toEnc := inferInstance
  enc := encTFlight
  ty := 230
  good := okDTFlight
  encLen := fun _ => rfl
  one := encTFlight_one
  rd := fun h => ⟨rfl, h⟩
  inv := fun h => h
theorem c_cloneTFlight {a : Option Addr} {n c : Nat} {l : List TFlight} {w : World} (hs : Sl encTFlight w a l) (hn : l.length = n) (hm : n ≤ 100000000) :
    Calls Tryz.prog 216 #[.slice a n c] w (GivesSl encTFlight 230 2 w l) := by
  cases a with
  | none =>
    have hl : l = [] := by
      cases l with
      | nil => rfl
      | cons y r => obtain ⟨b, off, h0, -⟩ := hs 0 y rfl; cases h0
    have hq := fun (w : World) => run_eql_slice_nil (P := Tryz.prog) w 31 230 none n c Tryz.underlying31
    simp only [Option.isNone] at hq
    have HL := Lib.hid hl; clear hl
    go_enter Tryz.func216, Tryz.ntmps216
    go_wp2_with fail
    go_ret
    exact GivesSl.nilOf encTFlight_len HL.out
  | some ad =>
    have hq := fun (w : World) => run_eql_slice_nil (P := Tryz.prog) w 31 230 (some ad) n c Tryz.underlying31
    simp only [Option.isNone] at hq
    go_enter Tryz.func216, Tryz.ntmps216
    go_wp2_with (first | (at_builtin; refine wpList_appS (enc := encTFlight) (w0 := w) (z := .agg #[.int .i64 0, .string ByteArray.empty]) (size := 2) (bytes := 24) (n := 0) (l := []) rfl (.tmp 5) (.tmp 6) rfl Tryz.underlying31 (by kernel_rfl) rfl (by decide) (by decide) rfl rfl (fun h => by cases h) rfl hn (Own.emptyAt encTFlight_len (Nat.le_refl _) rfl) (hs.to inferInstance) encTFlight_one (by omega) ?_; intro sa1 sc1 x1 hown1 hgr1))
    go_ret
    rw [List.nil_append] at hown1
    exact ⟨sa1, sc1, by rw [hn]; first | rfl | simp, hown1, Later.of⟩
theorem o_cloneTFlight {B : Nat} {a : Option Addr} {c : Nat} {l : List TFlight} {w : World} (hs : RdS B w a c l) (hm : l.length ≤ 100000000) :
    Calls Tryz.prog 216 #[.slice a l.length c] w (GivesOS w l) :=
  (c_cloneTFlight (c := c) hs.slF rfl hm).mono fun _ _ h => h.os hs
def encTRecord (x : TRecord) : List Value := [.int .i64 x.Id, .int .i64 x.Priority, .int .i64 x.Time, .string x.Data]
theorem encTRecord_len (x : TRecord) : (encTRecord x).length = 4 := rfl
theorem encTRecord_one (x : TRecord) : ∀ u ∈ encTRecord x, u.oneCell' = true := by
  intro u hu
  simp only [encTRecord, List.mem_cons, List.not_mem_nil, or_false] at hu
  rcases hu with rfl | rfl | rfl | rfl <;> rfl
instance Flat.iTRecord : Flat TRecord where
  toEnc := inferInstance
  enc := encTRecord
  ty := 218
  good := okDTRecord
  encLen := fun _ => rfl
  one := encTRecord_one
  rd := fun h => ⟨rfl, h⟩
  inv := fun h => h
theorem c_cloneTRecord {a : Option Addr} {n c : Nat} {l : List TRecord} {w : World} (hs : Sl encTRecord w a l) (hn : l.length = n) (hm : n ≤ 100000000) :
    Calls Tryz.prog 219 #[.slice a n c] w (GivesSl encTRecord 218 4 w l) := by
  cases a with
  | none =>
    have hl : l = [] := by
      cases l with
      | nil => rfl
      | cons y r => obtain ⟨b, off, h0, -⟩ := hs 0 y rfl; cases h0
    have hq := fun (w : World) => run_eql_slice_nil (P := Tryz.prog) w 41 218 none n c Tryz.underlying41
    simp only [Option.isNone] at hq
    have HL := Lib.hid hl; clear hl
    go_enter Tryz.func219, Tryz.ntmps219
    go_wp2_with fail
    go_ret
    exact GivesSl.nilOf encTRecord_len HL.out
  | some ad =>
    have hq := fun (w : World) => run_eql_slice_nil (P := Tryz.prog) w 41 218 (some ad) n c Tryz.underlying41
    simp only [Option.isNone] at hq
    go_enter Tryz.func219, Tryz.ntmps219
    go_wp2_with (first | (at_builtin; refine wpList_appS (enc := encTRecord) (w0 := w) (z := .agg #[.int .i64 0, .int .i64 0, .int .i64 0, .string ByteArray.empty]) (size := 4) (bytes := 40) (n := 0) (l := []) rfl (.tmp 5) (.tmp 6) rfl Tryz.underlying41 (by kernel_rfl) rfl (by decide) (by decide) rfl rfl (fun h => by cases h) rfl hn (Own.emptyAt encTRecord_len (Nat.le_refl _) rfl) (hs.to inferInstance) encTRecord_one (by omega) ?_; intro sa1 sc1 x1 hown1 hgr1))
    go_ret
    rw [List.nil_append] at hown1
    exact ⟨sa1, sc1, by rw [hn]; first | rfl | simp, hown1, Later.of⟩
theorem o_cloneTRecord {B : Nat} {a : Option Addr} {c : Nat} {l : List TRecord} {w : World} (hs : RdS B w a c l) (hm : l.length ≤ 100000000) :
    Calls Tryz.prog 219 #[.slice a l.length c] w (GivesOS w l) :=
  (c_cloneTRecord (c := c) hs.slF rfl hm).mono fun _ _ h => h.os hs
def encTWaiting (x : TWaiting) : List Value := [.int .i64 x.Number, .int .i64 x.Order.Kind, .int .i64 x.Order.At, .int .i64 x.Order.A, .int .i64 x.Order.B]
theorem encTWaiting_len (x : TWaiting) : (encTWaiting x).length = 5 := rfl
theorem encTWaiting_one (x : TWaiting) : ∀ u ∈ encTWaiting x, u.oneCell' = true := by
  intro u hu
  simp only [encTWaiting, List.mem_cons, List.not_mem_nil, or_false] at hu
  rcases hu with rfl | rfl | rfl | rfl | rfl <;> rfl
instance Flat.iTWaiting : Flat TWaiting where
  toEnc := inferInstance
  enc := encTWaiting
  ty := 212
  good := okDTWaiting
  encLen := fun _ => rfl
  one := encTWaiting_one
  rd := fun h => ⟨rfl, h⟩
  inv := fun h => h
theorem c_cloneTWaiting {a : Option Addr} {n c : Nat} {l : List TWaiting} {w : World} (hs : Sl encTWaiting w a l) (hn : l.length = n) (hm : n ≤ 100000000) :
    Calls Tryz.prog 292 #[.slice a n c] w (GivesSl encTWaiting 212 5 w l) := by
  cases a with
  | none =>
    have hl : l = [] := by
      cases l with
      | nil => rfl
      | cons y r => obtain ⟨b, off, h0, -⟩ := hs 0 y rfl; cases h0
    have hq := fun (w : World) => run_eql_slice_nil (P := Tryz.prog) w 50 212 none n c Tryz.underlying50
    simp only [Option.isNone] at hq
    have HL := Lib.hid hl; clear hl
    go_enter Tryz.func292, Tryz.ntmps292
    go_wp2_with fail
    go_ret
    exact GivesSl.nilOf encTWaiting_len HL.out
  | some ad =>
    have hq := fun (w : World) => run_eql_slice_nil (P := Tryz.prog) w 50 212 (some ad) n c Tryz.underlying50
    simp only [Option.isNone] at hq
    go_enter Tryz.func292, Tryz.ntmps292
    go_wp2_with (first | (at_builtin; refine wpList_appS (enc := encTWaiting) (w0 := w) (z := .agg #[.int .i64 0, .int .i64 0, .int .i64 0, .int .i64 0, .int .i64 0]) (size := 5) (bytes := 40) (n := 0) (l := []) rfl (.tmp 5) (.tmp 6) rfl Tryz.underlying50 (by kernel_rfl) rfl (by decide) (by decide) rfl rfl (fun h => by cases h) rfl hn (Own.emptyAt encTWaiting_len (Nat.le_refl _) rfl) (hs.to inferInstance) encTWaiting_one (by omega) ?_; intro sa1 sc1 x1 hown1 hgr1))
    go_ret
    rw [List.nil_append] at hown1
    exact ⟨sa1, sc1, by rw [hn]; first | rfl | simp, hown1, Later.of⟩
theorem o_cloneTWaiting {B : Nat} {a : Option Addr} {c : Nat} {l : List TWaiting} {w : World} (hs : RdS B w a c l) (hm : l.length ≤ 100000000) :
    Calls Tryz.prog 292 #[.slice a l.length c] w (GivesOS w l) :=
  (c_cloneTWaiting (c := c) hs.slF rfl hm).mono fun _ _ h => h.os hs
def encTLimit (x : TLimit) : List Value := [.int .i64 x.Param, .int .i64 x.Low, .int .i64 x.High]
theorem encTLimit_len (x : TLimit) : (encTLimit x).length = 3 := rfl
theorem encTLimit_one (x : TLimit) : ∀ u ∈ encTLimit x, u.oneCell' = true := by
  intro u hu
  simp only [encTLimit, List.mem_cons, List.not_mem_nil, or_false] at hu
  rcases hu with rfl | rfl | rfl <;> rfl
instance Flat.iTLimit : Flat TLimit where
  toEnc := inferInstance
  enc := encTLimit
  ty := 149
  good := okDTLimit
  encLen := fun _ => rfl
  one := encTLimit_one
  rd := fun h => ⟨rfl, h⟩
  inv := fun h => h
theorem c_cloneTLimit {a : Option Addr} {n c : Nat} {l : List TLimit} {w : World} (hs : Sl encTLimit w a l) (hn : l.length = n) (hm : n ≤ 100000000) :
    Calls Tryz.prog 124 #[.slice a n c] w (GivesSl encTLimit 149 3 w l) := by
  cases a with
  | none =>
    have hl : l = [] := by
      cases l with
      | nil => rfl
      | cons y r => obtain ⟨b, off, h0, -⟩ := hs 0 y rfl; cases h0
    have hq := fun (w : World) => run_eql_slice_nil (P := Tryz.prog) w 49 149 none n c Tryz.underlying49
    simp only [Option.isNone] at hq
    have HL := Lib.hid hl; clear hl
    go_enter Tryz.func124, Tryz.ntmps124
    go_wp2_with fail
    go_ret
    exact GivesSl.nilOf encTLimit_len HL.out
  | some ad =>
    have hq := fun (w : World) => run_eql_slice_nil (P := Tryz.prog) w 49 149 (some ad) n c Tryz.underlying49
    simp only [Option.isNone] at hq
    go_enter Tryz.func124, Tryz.ntmps124
    go_wp2_with (first | (at_builtin; refine wpList_appS (enc := encTLimit) (w0 := w) (z := .agg #[.int .i64 0, .int .i64 0, .int .i64 0]) (size := 3) (bytes := 24) (n := 0) (l := []) rfl (.tmp 5) (.tmp 6) rfl Tryz.underlying49 (by kernel_rfl) rfl (by decide) (by decide) rfl rfl (fun h => by cases h) rfl hn (Own.emptyAt encTLimit_len (Nat.le_refl _) rfl) (hs.to inferInstance) encTLimit_one (by omega) ?_; intro sa1 sc1 x1 hown1 hgr1))
    go_ret
    rw [List.nil_append] at hown1
    exact ⟨sa1, sc1, by rw [hn]; first | rfl | simp, hown1, Later.of⟩
theorem o_cloneTLimit {B : Nat} {a : Option Addr} {c : Nat} {l : List TLimit} {w : World} (hs : RdS B w a c l) (hm : l.length ≤ 100000000) :
    Calls Tryz.prog 124 #[.slice a l.length c] w (GivesOS w l) :=
  (c_cloneTLimit (c := c) hs.slF rfl hm).mono fun _ _ h => h.os hs
def encTDone (x : TDone) : List Value := [.int .i64 x.Number, .int .i64 x.Time, .int .i64 x.Result]
theorem encTDone_len (x : TDone) : (encTDone x).length = 3 := rfl
theorem encTDone_one (x : TDone) : ∀ u ∈ encTDone x, u.oneCell' = true := by
  intro u hu
  simp only [encTDone, List.mem_cons, List.not_mem_nil, or_false] at hu
  rcases hu with rfl | rfl | rfl <;> rfl
instance Flat.iTDone : Flat TDone where
  toEnc := inferInstance
  enc := encTDone
  ty := 214
  good := okDTDone
  encLen := fun _ => rfl
  one := encTDone_one
  rd := fun h => ⟨rfl, h⟩
  inv := fun h => h
theorem c_cloneTDone {a : Option Addr} {n c : Nat} {l : List TDone} {w : World} (hs : Sl encTDone w a l) (hn : l.length = n) (hm : n ≤ 100000000) :
    Calls Tryz.prog 293 #[.slice a n c] w (GivesSl encTDone 214 3 w l) := by
  cases a with
  | none =>
    have hl : l = [] := by
      cases l with
      | nil => rfl
      | cons y r => obtain ⟨b, off, h0, -⟩ := hs 0 y rfl; cases h0
    have hq := fun (w : World) => run_eql_slice_nil (P := Tryz.prog) w 51 214 none n c Tryz.underlying51
    simp only [Option.isNone] at hq
    have HL := Lib.hid hl; clear hl
    go_enter Tryz.func293, Tryz.ntmps293
    go_wp2_with fail
    go_ret
    exact GivesSl.nilOf encTDone_len HL.out
  | some ad =>
    have hq := fun (w : World) => run_eql_slice_nil (P := Tryz.prog) w 51 214 (some ad) n c Tryz.underlying51
    simp only [Option.isNone] at hq
    go_enter Tryz.func293, Tryz.ntmps293
    go_wp2_with (first | (at_builtin; refine wpList_appS (enc := encTDone) (w0 := w) (z := .agg #[.int .i64 0, .int .i64 0, .int .i64 0]) (size := 3) (bytes := 24) (n := 0) (l := []) rfl (.tmp 5) (.tmp 6) rfl Tryz.underlying51 (by kernel_rfl) rfl (by decide) (by decide) rfl rfl (fun h => by cases h) rfl hn (Own.emptyAt encTDone_len (Nat.le_refl _) rfl) (hs.to inferInstance) encTDone_one (by omega) ?_; intro sa1 sc1 x1 hown1 hgr1))
    go_ret
    rw [List.nil_append] at hown1
    exact ⟨sa1, sc1, by rw [hn]; first | rfl | simp, hown1, Later.of⟩
theorem o_cloneTDone {B : Nat} {a : Option Addr} {c : Nat} {l : List TDone} {w : World} (hs : RdS B w a c l) (hm : l.length ≤ 100000000) :
    Calls Tryz.prog 293 #[.slice a l.length c] w (GivesOS w l) :=
  (c_cloneTDone (c := c) hs.slF rfl hm).mono fun _ _ h => h.os hs
def encTSent (x : TSent) : List Value := [.int .i64 x.Seq, .string x.Data]
theorem encTSent_len (x : TSent) : (encTSent x).length = 2 := rfl
theorem encTSent_one (x : TSent) : ∀ u ∈ encTSent x, u.oneCell' = true := by
  intro u hu
  simp only [encTSent, List.mem_cons, List.not_mem_nil, or_false] at hu
  rcases hu with rfl | rfl <;> rfl
instance Flat.iTSent : Flat TSent where
  toEnc := inferInstance
  enc := encTSent
  ty := 295
  good := okDTSent
  encLen := fun _ => rfl
  one := encTSent_one
  rd := fun h => ⟨rfl, h⟩
  inv := fun h => h
theorem c_cloneTSent {a : Option Addr} {n c : Nat} {l : List TSent} {w : World} (hs : Sl encTSent w a l) (hn : l.length = n) (hm : n ≤ 100000000) :
    Calls Tryz.prog 291 #[.slice a n c] w (GivesSl encTSent 295 2 w l) := by
  cases a with
  | none =>
    have hl : l = [] := by
      cases l with
      | nil => rfl
      | cons y r => obtain ⟨b, off, h0, -⟩ := hs 0 y rfl; cases h0
    have hq := fun (w : World) => run_eql_slice_nil (P := Tryz.prog) w 33 295 none n c Tryz.underlying33
    simp only [Option.isNone] at hq
    have HL := Lib.hid hl; clear hl
    go_enter Tryz.func291, Tryz.ntmps291
    go_wp2_with fail
    go_ret
    exact GivesSl.nilOf encTSent_len HL.out
  | some ad =>
    have hq := fun (w : World) => run_eql_slice_nil (P := Tryz.prog) w 33 295 (some ad) n c Tryz.underlying33
    simp only [Option.isNone] at hq
    go_enter Tryz.func291, Tryz.ntmps291
    go_wp2_with (first | (at_builtin; refine wpList_appS (enc := encTSent) (w0 := w) (z := .agg #[.int .i64 0, .string ByteArray.empty]) (size := 2) (bytes := 24) (n := 0) (l := []) rfl (.tmp 5) (.tmp 6) rfl Tryz.underlying33 (by kernel_rfl) rfl (by decide) (by decide) rfl rfl (fun h => by cases h) rfl hn (Own.emptyAt encTSent_len (Nat.le_refl _) rfl) (hs.to inferInstance) encTSent_one (by omega) ?_; intro sa1 sc1 x1 hown1 hgr1))
    go_ret
    rw [List.nil_append] at hown1
    exact ⟨sa1, sc1, by rw [hn]; first | rfl | simp, hown1, Later.of⟩
theorem o_cloneTSent {B : Nat} {a : Option Addr} {c : Nat} {l : List TSent} {w : World} (hs : RdS B w a c l) (hm : l.length ≤ 100000000) :
    Calls Tryz.prog 291 #[.slice a l.length c] w (GivesOS w l) :=
  (c_cloneTSent (c := c) hs.slF rfl hm).mono fun _ _ h => h.os hs
end Go.Proofs.YtbaffippdifbpaaGreat
namespace Go.Proofs.YtbaffippdifbpaaGreat
set_option linter.unusedVariables false
open Go.ChangeShapes Go.WideShapes Go.ChangeAt Go.RowKit
class EncO (α : Type) extends Enc α where
  O : Nat → (Nat → Col) → Nat → World → List Value → α → Prop
  toRd : ∀ {B χ o w vs x}, O B χ o w vs x → Rd B w vs x
def GivesO {α : Type} [E : EncO α] (w : World) (x : α) : Ending → World → Prop := fun e w' => ∃ (vs : List Value) (χ : Nat → Col), e = .returned (.agg vs.toArray) ∧ E.O w.heap.size χ 0 w' vs x ∧ ∃ y : Later w, w' = y.w
theorem GivesO.d {α : Type} [E : EncO α] {w w' : World} {x : α} {e : Ending} (h : GivesO w x e w') : GivesD w x e w' := by
  obtain ⟨vs, χ, he, ho, hy⟩ := h
  exact ⟨vs, he, E.toRd ho, hy⟩
def shift (d : Nat) (i : Col) : Col := (i.1 + d, i.2)
theorem OwnC.ic {α : Type} [E : Flat α] {B : Nat} {χ : Nat → Col} {i i' : Col} {w : World} {a : Option Addr} {c : Nat} {l : List α} (h : OwnC B χ i w a c l) (e : i = i') : OwnC B χ i' w a c l := e ▸ h
instance Nest.iTFileIn : Nest TFileIn ByteArray where
  toEnc := inferInstance
  cells x a c := [.int .i64 x.File, .int .i64 x.Size, .int .i64 x.Check, .slice a x.Parts.length c]
  inner x := x.Parts
  ty := 140
  good := okDTFileIn
  cellsLen := fun _ _ _ => rfl
  one := fun x a c u hu => by
    simp only [List.mem_cons, List.not_mem_nil, or_false] at hu
    rcases hu with rfl | rfl | rfl | rfl <;> rfl
instance NestRd.iTFileIn : NestRd TFileIn where
  rd := fun h1 h2 => ⟨_, _, rfl, h2, h1⟩
instance Nest.iTFileOut : Nest TFileOut Int where
  toEnc := inferInstance
  cells x a c := [.int .i64 x.File, .string x.Data, .slice a x.Queue.length c, .bool x.Done]
  inner x := x.Queue
  ty := 143
  good := okDTFileOut
  cellsLen := fun _ _ _ => rfl
  one := fun x a c u hu => by
    simp only [List.mem_cons, List.not_mem_nil, or_false] at hu
    rcases hu with rfl | rfl | rfl | rfl <;> rfl
instance NestRd.iTFileOut : NestRd TFileOut where
  rd := fun h1 h2 => ⟨_, _, rfl, h2, h1⟩
structure TPackerO (B : Nat) (χ : Nat → Col) (o : Nat) (w : World) (a0 : Option Addr) (c0 : Nat) (x : TPacker) : Prop where
  o0 : OwnC B χ (o, 0) w a0 c0 x.Starts
  ok : okDTPacker x
theorem TPackerO.keep {B : Nat} {χ : Nat → Col} {o : Nat} {w w2 : World} {a0 : Option Addr} {c0 : Nat} {x : TPacker} (h : TPackerO B χ o w a0 c0 x) (g : Keeps B w w2) : TPackerO B χ o w2 a0 c0 x := ⟨h.o0.keep g, h.ok⟩
theorem TPackerO.mono {B : Nat} {χ : Nat → Col} {o : Nat} {w : World} {a0 : Option Addr} {c0 : Nat} {x : TPacker} (h : TPackerO B χ o w a0 c0 x) {B2 : Nat} (g : B2 ≤ B) : TPackerO B2 χ o w a0 c0 x := ⟨h.o0.mono g, h.ok⟩
theorem TPackerO.rd {B : Nat} {χ : Nat → Col} {o : Nat} {w : World} {a0 : Option Addr} {c0 : Nat} {x : TPacker} (h : TPackerO B χ o w a0 c0 x) : Enc.Rd B w [.int .i64 x.Channel, .int .i64 x.Count, .string x.Rest, .slice a0 x.Starts.length c0] x := ⟨a0, c0, rfl, h.o0.rd, h.ok⟩
instance EncO.iTPacker : EncO TPacker where
  toEnc := inferInstance
  O B χ o w vs x := ∃ (a0 : Option Addr) (c0 : Nat), vs = [.int .i64 x.Channel, .int .i64 x.Count, .string x.Rest, .slice a0 x.Starts.length c0] ∧ TPackerO B χ o w a0 c0 x
  toRd := by rintro _ _ _ _ _ _ ⟨a0, c0, rfl, h⟩; exact h.rd
structure TSenderO (B : Nat) (χ : Nat → Col) (o : Nat) (w : World) (a0 : Option Addr) (c0 : Nat) (x : TSender) : Prop where
  o0 : OwnC B χ (o, 0) w a0 c0 x.Waiting
  ok : okDTSender x
theorem TSenderO.keep {B : Nat} {χ : Nat → Col} {o : Nat} {w w2 : World} {a0 : Option Addr} {c0 : Nat} {x : TSender} (h : TSenderO B χ o w a0 c0 x) (g : Keeps B w w2) : TSenderO B χ o w2 a0 c0 x := ⟨h.o0.keep g, h.ok⟩
theorem TSenderO.mono {B : Nat} {χ : Nat → Col} {o : Nat} {w : World} {a0 : Option Addr} {c0 : Nat} {x : TSender} (h : TSenderO B χ o w a0 c0 x) {B2 : Nat} (g : B2 ≤ B) : TSenderO B2 χ o w a0 c0 x := ⟨h.o0.mono g, h.ok⟩
theorem TSenderO.rd {B : Nat} {χ : Nat → Col} {o : Nat} {w : World} {a0 : Option Addr} {c0 : Nat} {x : TSender} (h : TSenderO B χ o w a0 c0 x) : Enc.Rd B w [.int .i64 x.Next, .int .i64 x.Window, .slice a0 x.Waiting.length c0, .int .i64 x.Done] x := ⟨a0, c0, rfl, h.o0.rd, h.ok⟩
instance EncO.iTSender : EncO TSender where
  toEnc := inferInstance
  O B χ o w vs x := ∃ (a0 : Option Addr) (c0 : Nat), vs = [.int .i64 x.Next, .int .i64 x.Window, .slice a0 x.Waiting.length c0, .int .i64 x.Done] ∧ TSenderO B χ o w a0 c0 x
  toRd := by rintro _ _ _ _ _ _ ⟨a0, c0, rfl, h⟩; exact h.rd
structure TRecorderO (B : Nat) (χ : Nat → Col) (o : Nat) (w : World) (a0 : Option Addr) (c0 : Nat) (a1 : Option Addr) (c1 : Nat) (x : TRecorder) : Prop where
  o0 : OwnC B χ (o, 0) w a0 c0 x.Records
  o1 : OwnC B χ (o + 1, 0) w a1 c1 x.Dropped
  ok : okDTRecorder x
theorem TRecorderO.keep {B : Nat} {χ : Nat → Col} {o : Nat} {w w2 : World} {a0 : Option Addr} {c0 : Nat} {a1 : Option Addr} {c1 : Nat} {x : TRecorder} (h : TRecorderO B χ o w a0 c0 a1 c1 x) (g : Keeps B w w2) : TRecorderO B χ o w2 a0 c0 a1 c1 x := ⟨h.o0.keep g, h.o1.keep g, h.ok⟩
theorem TRecorderO.mono {B : Nat} {χ : Nat → Col} {o : Nat} {w : World} {a0 : Option Addr} {c0 : Nat} {a1 : Option Addr} {c1 : Nat} {x : TRecorder} (h : TRecorderO B χ o w a0 c0 a1 c1 x) {B2 : Nat} (g : B2 ≤ B) : TRecorderO B2 χ o w a0 c0 a1 c1 x := ⟨h.o0.mono g, h.o1.mono g, h.ok⟩
theorem TRecorderO.rd {B : Nat} {χ : Nat → Col} {o : Nat} {w : World} {a0 : Option Addr} {c0 : Nat} {a1 : Option Addr} {c1 : Nat} {x : TRecorder} (h : TRecorderO B χ o w a0 c0 a1 c1 x) : Enc.Rd B w [.int .i64 x.Room, .slice a0 x.Records.length c0, .slice a1 x.Dropped.length c1] x := ⟨a0, c0, a1, c1, rfl, h.o0.rd, h.o1.rd, h.ok⟩
instance EncO.iTRecorder : EncO TRecorder where
  toEnc := inferInstance
  O B χ o w vs x := ∃ (a0 : Option Addr) (c0 : Nat), ∃ (a1 : Option Addr) (c1 : Nat), vs = [.int .i64 x.Room, .slice a0 x.Records.length c0, .slice a1 x.Dropped.length c1] ∧ TRecorderO B χ o w a0 c0 a1 c1 x
  toRd := by rintro _ _ _ _ _ _ ⟨a0, c0, a1, c1, rfl, h⟩; exact h.rd
structure TBoardO (B : Nat) (χ : Nat → Col) (o : Nat) (w : World) (A : TBoardA) (x : TBoard) : Prop where
  o0 : OwnC B χ (o, 0) w A.a0 A.c0 x.Params
  o1 : OwnC B χ (o + 1, 0) w A.a1 A.c1 x.Limits
  o2 : OwnC B χ (o + 2, 0) w A.a2 A.c2 x.Orders
  o3 : OwnC B χ (o + 3, 0) w A.a3 A.c3 x.Done
  o4 : OwnC B χ (o + 4, 0) w A.a4 A.c4 x.Recorder.Records
  o5 : OwnC B χ (o + 5, 0) w A.a5 A.c5 x.Recorder.Dropped
  o6 : OwnC B χ (o + 6, 0) w A.a6 A.c6 x.Asked
  ok : okDTBoard x
theorem TBoardO.keep {B : Nat} {χ : Nat → Col} {o : Nat} {w w2 : World} {A : TBoardA} {x : TBoard} (h : TBoardO B χ o w A x) (g : Keeps B w w2) : TBoardO B χ o w2 A x := ⟨h.o0.keep g, h.o1.keep g, h.o2.keep g, h.o3.keep g, h.o4.keep g, h.o5.keep g, h.o6.keep g, h.ok⟩
theorem TBoardO.mono {B : Nat} {χ : Nat → Col} {o : Nat} {w : World} {A : TBoardA} {x : TBoard} (h : TBoardO B χ o w A x) {B2 : Nat} (g : B2 ≤ B) : TBoardO B2 χ o w A x := ⟨h.o0.mono g, h.o1.mono g, h.o2.mono g, h.o3.mono g, h.o4.mono g, h.o5.mono g, h.o6.mono g, h.ok⟩
theorem TBoardO.f {B : Nat} {χ : Nat → Col} {o : Nat} {w : World} {A : TBoardA} {x : TBoard} (h : TBoardO B χ o w A x) : TBoardF B w A x := ⟨h.o0.rd, h.o1.rd, h.o2.rd, h.o3.rd, h.o4.rd, h.o5.rd, h.o6.rd, h.ok⟩
theorem TBoardO.rd {B : Nat} {χ : Nat → Col} {o : Nat} {w : World} {A : TBoardA} {x : TBoard} (h : TBoardO B χ o w A x) : Enc.Rd B w (cBoard x A.a0 A.c0 A.a1 A.c1 A.a2 A.c2 A.a3 A.c3 A.a4 A.c4 A.a5 A.c5 A.a6 A.c6) x := ⟨A, rfl, h.f⟩
instance EncO.iTBoard : EncO TBoard where
  toEnc := inferInstance
  O B χ o w vs x := ∃ A : TBoardA, vs = (cBoard x A.a0 A.c0 A.a1 A.c1 A.a2 A.c2 A.a3 A.c3 A.a4 A.c4 A.a5 A.c5 A.a6 A.c6) ∧ TBoardO B χ o w A x
  toRd := by rintro _ _ _ _ _ _ ⟨A, rfl, h⟩; exact h.rd
structure TFileInO (B : Nat) (χ : Nat → Col) (o : Nat) (w : World) (a0 : Option Addr) (c0 : Nat) (x : TFileIn) : Prop where
  o0 : OwnC B χ (o, 0) w a0 c0 x.Parts
  ok : okDTFileIn x
theorem TFileInO.rd {B : Nat} {χ : Nat → Col} {o : Nat} {w : World} {a0 : Option Addr} {c0 : Nat} {x : TFileIn} (h : TFileInO B χ o w a0 c0 x) : Enc.Rd B w [.int .i64 x.File, .int .i64 x.Size, .int .i64 x.Check, .slice a0 x.Parts.length c0] x := ⟨a0, c0, rfl, h.o0.rd, h.ok⟩
instance EncO.iTFileIn : EncO TFileIn where
  toEnc := inferInstance
  O B χ o w vs x := ∃ (a0 : Option Addr) (c0 : Nat), vs = [.int .i64 x.File, .int .i64 x.Size, .int .i64 x.Check, .slice a0 x.Parts.length c0] ∧ TFileInO B χ o w a0 c0 x
  toRd := by rintro _ _ _ _ _ _ ⟨a0, c0, rfl, h⟩; exact h.rd
structure TFileOutO (B : Nat) (χ : Nat → Col) (o : Nat) (w : World) (a0 : Option Addr) (c0 : Nat) (x : TFileOut) : Prop where
  o0 : OwnC B χ (o, 0) w a0 c0 x.Queue
  ok : okDTFileOut x
theorem TFileOutO.rd {B : Nat} {χ : Nat → Col} {o : Nat} {w : World} {a0 : Option Addr} {c0 : Nat} {x : TFileOut} (h : TFileOutO B χ o w a0 c0 x) : Enc.Rd B w [.int .i64 x.File, .string x.Data, .slice a0 x.Queue.length c0, .bool x.Done] x := ⟨a0, c0, rfl, h.o0.rd, h.ok⟩
instance EncO.iTFileOut : EncO TFileOut where
  toEnc := inferInstance
  O B χ o w vs x := ∃ (a0 : Option Addr) (c0 : Nat), vs = [.int .i64 x.File, .string x.Data, .slice a0 x.Queue.length c0, .bool x.Done] ∧ TFileOutO B χ o w a0 c0 x
  toRd := by rintro _ _ _ _ _ _ ⟨a0, c0, rfl, h⟩; exact h.rd
structure TGroundO (B : Nat) (χ : Nat → Col) (o : Nat) (w : World) (A : TGroundA) (x : TGround) : Prop where
  o0 : OwnC B χ (o, 0) w A.a0 A.c0 x.Offers
  o1 : OwnC B χ (o + 1, 0) w A.a1 A.c1 x.Sender.Waiting
  o2 : OwnC B χ (o + 2, 0) w A.a2 A.c2 x.Pairs
  o3 : OwnC B χ (o + 3, 0) w A.a3 A.c3 x.Records
  o4 : ∃ rows : List (NRow TFileIn), rows.map (·.x) = x.Files ∧ OwnN B χ (o + 4) w A.a4 A.c4 rows
  o5 : OwnC B χ (o + 5, 0) w A.a5 A.c5 x.Told
  ok : okDTGround x
theorem TGroundO.keep {B : Nat} {χ : Nat → Col} {o : Nat} {w w2 : World} {A : TGroundA} {x : TGround} (h : TGroundO B χ o w A x) (g : Keeps B w w2) : TGroundO B χ o w2 A x := ⟨h.o0.keep g, h.o1.keep g, h.o2.keep g, h.o3.keep g, h.o4.elim fun r hr => ⟨r, hr.1, hr.2.keep g⟩, h.o5.keep g, h.ok⟩
theorem TGroundO.mono {B : Nat} {χ : Nat → Col} {o : Nat} {w : World} {A : TGroundA} {x : TGround} (h : TGroundO B χ o w A x) {B2 : Nat} (g : B2 ≤ B) : TGroundO B2 χ o w A x := ⟨h.o0.mono g, h.o1.mono g, h.o2.mono g, h.o3.mono g, h.o4.elim fun r hr => ⟨r, hr.1, hr.2.mono g⟩, h.o5.mono g, h.ok⟩
theorem TGroundO.f {B : Nat} {χ : Nat → Col} {o : Nat} {w : World} {A : TGroundA} {x : TGround} (h : TGroundO B χ o w A x) : TGroundF B w A x := ⟨h.o0.rd, h.o1.rd, h.o2.rd, h.o3.rd, h.o4.elim fun r hr => hr.1 ▸ hr.2.rd, h.o5.rd, h.ok⟩
theorem TGroundO.rd {B : Nat} {χ : Nat → Col} {o : Nat} {w : World} {A : TGroundA} {x : TGround} (h : TGroundO B χ o w A x) : Enc.Rd B w (cGround x A.a0 A.c0 A.a1 A.c1 A.a2 A.c2 A.a3 A.c3 A.a4 A.c4 A.a5 A.c5) x := ⟨A, rfl, h.f⟩
instance EncO.iTGround : EncO TGround where
  toEnc := inferInstance
  O B χ o w vs x := ∃ A : TGroundA, vs = (cGround x A.a0 A.c0 A.a1 A.c1 A.a2 A.c2 A.a3 A.c3 A.a4 A.c4 A.a5 A.c5) ∧ TGroundO B χ o w A x
  toRd := by rintro _ _ _ _ _ _ ⟨A, rfl, h⟩; exact h.rd
structure TSpaceO (B : Nat) (χ : Nat → Col) (o : Nat) (w : World) (A : TSpaceA) (x : TSpace) : Prop where
  o0 : OwnC B χ (o, 0) w A.a0 A.c0 x.Board.Params
  o1 : OwnC B χ (o + 1, 0) w A.a1 A.c1 x.Board.Limits
  o2 : OwnC B χ (o + 2, 0) w A.a2 A.c2 x.Board.Orders
  o3 : OwnC B χ (o + 3, 0) w A.a3 A.c3 x.Board.Done
  o4 : OwnC B χ (o + 4, 0) w A.a4 A.c4 x.Board.Recorder.Records
  o5 : OwnC B χ (o + 5, 0) w A.a5 A.c5 x.Board.Recorder.Dropped
  o6 : OwnC B χ (o + 6, 0) w A.a6 A.c6 x.Board.Asked
  o7 : OwnC B χ (o + 7, 0) w A.a7 A.c7 x.Packer.Starts
  o8 : OwnC B χ (o + 8, 0) w A.a8 A.c8 x.Files
  o9 : ∃ rows : List (NRow TFileOut), rows.map (·.x) = x.Outs ∧ OwnN B χ (o + 9) w A.a9 A.c9 rows
  o10 : OwnC B χ (o + 10, 0) w A.a10 A.c10 x.Sent
  ok : okDTSpace x
theorem TSpaceO.keep {B : Nat} {χ : Nat → Col} {o : Nat} {w w2 : World} {A : TSpaceA} {x : TSpace} (h : TSpaceO B χ o w A x) (g : Keeps B w w2) : TSpaceO B χ o w2 A x := ⟨h.o0.keep g, h.o1.keep g, h.o2.keep g, h.o3.keep g, h.o4.keep g, h.o5.keep g, h.o6.keep g, h.o7.keep g, h.o8.keep g, h.o9.elim fun r hr => ⟨r, hr.1, hr.2.keep g⟩, h.o10.keep g, h.ok⟩
theorem TSpaceO.mono {B : Nat} {χ : Nat → Col} {o : Nat} {w : World} {A : TSpaceA} {x : TSpace} (h : TSpaceO B χ o w A x) {B2 : Nat} (g : B2 ≤ B) : TSpaceO B2 χ o w A x := ⟨h.o0.mono g, h.o1.mono g, h.o2.mono g, h.o3.mono g, h.o4.mono g, h.o5.mono g, h.o6.mono g, h.o7.mono g, h.o8.mono g, h.o9.elim fun r hr => ⟨r, hr.1, hr.2.mono g⟩, h.o10.mono g, h.ok⟩
theorem TSpaceO.f {B : Nat} {χ : Nat → Col} {o : Nat} {w : World} {A : TSpaceA} {x : TSpace} (h : TSpaceO B χ o w A x) : TSpaceF B w A x := ⟨h.o0.rd, h.o1.rd, h.o2.rd, h.o3.rd, h.o4.rd, h.o5.rd, h.o6.rd, h.o7.rd, h.o8.rd, h.o9.elim fun r hr => hr.1 ▸ hr.2.rd, h.o10.rd, h.ok⟩
theorem TSpaceO.rd {B : Nat} {χ : Nat → Col} {o : Nat} {w : World} {A : TSpaceA} {x : TSpace} (h : TSpaceO B χ o w A x) : Enc.Rd B w (cSpace x A.a0 A.c0 A.a1 A.c1 A.a2 A.c2 A.a3 A.c3 A.a4 A.c4 A.a5 A.c5 A.a6 A.c6 A.a7 A.c7 A.a8 A.c8 A.a9 A.c9 A.a10 A.c10) x := ⟨A, rfl, h.f⟩
instance EncO.iTSpace : EncO TSpace where
  toEnc := inferInstance
  O B χ o w vs x := ∃ A : TSpaceA, vs = (cSpace x A.a0 A.c0 A.a1 A.c1 A.a2 A.c2 A.a3 A.c3 A.a4 A.c4 A.a5 A.c5 A.a6 A.c6 A.a7 A.c7 A.a8 A.c8 A.a9 A.c9 A.a10 A.c10) ∧ TSpaceO B χ o w A x
  toRd := by rintro _ _ _ _ _ _ ⟨A, rfl, h⟩; exact h.rd
structure TMissionO (B : Nat) (χ : Nat → Col) (o : Nat) (w : World) (A : TMissionA) (x : TMission) : Prop where
  o0 : OwnC B χ (o, 0) w A.a0 A.c0 x.Plan
  o1 : OwnC B χ (o + 1, 0) w A.a1 A.c1 x.Ups
  o2 : OwnC B χ (o + 2, 0) w A.a2 A.c2 x.Downs
  o3 : OwnC B χ (o + 3, 0) w A.a3 A.c3 x.Ground.Offers
  o4 : OwnC B χ (o + 4, 0) w A.a4 A.c4 x.Ground.Sender.Waiting
  o5 : OwnC B χ (o + 5, 0) w A.a5 A.c5 x.Ground.Pairs
  o6 : OwnC B χ (o + 6, 0) w A.a6 A.c6 x.Ground.Records
  o7 : ∃ rows : List (NRow TFileIn), rows.map (·.x) = x.Ground.Files ∧ OwnN B χ (o + 7) w A.a7 A.c7 rows
  o8 : OwnC B χ (o + 8, 0) w A.a8 A.c8 x.Ground.Told
  o9 : OwnC B χ (o + 9, 0) w A.a9 A.c9 x.Space.Board.Params
  o10 : OwnC B χ (o + 10, 0) w A.a10 A.c10 x.Space.Board.Limits
  o11 : OwnC B χ (o + 11, 0) w A.a11 A.c11 x.Space.Board.Orders
  o12 : OwnC B χ (o + 12, 0) w A.a12 A.c12 x.Space.Board.Done
  o13 : OwnC B χ (o + 13, 0) w A.a13 A.c13 x.Space.Board.Recorder.Records
  o14 : OwnC B χ (o + 14, 0) w A.a14 A.c14 x.Space.Board.Recorder.Dropped
  o15 : OwnC B χ (o + 15, 0) w A.a15 A.c15 x.Space.Board.Asked
  o16 : OwnC B χ (o + 16, 0) w A.a16 A.c16 x.Space.Packer.Starts
  o17 : OwnC B χ (o + 17, 0) w A.a17 A.c17 x.Space.Files
  o18 : ∃ rows : List (NRow TFileOut), rows.map (·.x) = x.Space.Outs ∧ OwnN B χ (o + 18) w A.a18 A.c18 rows
  o19 : OwnC B χ (o + 19, 0) w A.a19 A.c19 x.Space.Sent
  o20 : OwnC B χ (o + 20, 0) w A.a20 A.c20 x.Offered
  o21 : OwnC B χ (o + 21, 0) w A.a21 A.c21 x.Took
  ok : okDTMission x
theorem TMissionO.to {B : Nat} {χ : Nat → Col} {o : Nat} {w w2 : World} {A : TMissionA} {x : TMission} (h : TMissionO B χ o w A x) (g : Grows w w2) : TMissionO B χ o w2 A x := ⟨h.o0.to g, h.o1.to g, h.o2.to g, h.o3.to g, h.o4.to g, h.o5.to g, h.o6.to g, h.o7.elim fun r hr => ⟨r, hr.1, hr.2.to g⟩, h.o8.to g, h.o9.to g, h.o10.to g, h.o11.to g, h.o12.to g, h.o13.to g, h.o14.to g, h.o15.to g, h.o16.to g, h.o17.to g, h.o18.elim fun r hr => ⟨r, hr.1, hr.2.to g⟩, h.o19.to g, h.o20.to g, h.o21.to g, h.ok⟩
theorem TMissionO.keep {B : Nat} {χ : Nat → Col} {o : Nat} {w w2 : World} {A : TMissionA} {x : TMission} (h : TMissionO B χ o w A x) (g : Keeps B w w2) : TMissionO B χ o w2 A x := ⟨h.o0.keep g, h.o1.keep g, h.o2.keep g, h.o3.keep g, h.o4.keep g, h.o5.keep g, h.o6.keep g, h.o7.elim fun r hr => ⟨r, hr.1, hr.2.keep g⟩, h.o8.keep g, h.o9.keep g, h.o10.keep g, h.o11.keep g, h.o12.keep g, h.o13.keep g, h.o14.keep g, h.o15.keep g, h.o16.keep g, h.o17.keep g, h.o18.elim fun r hr => ⟨r, hr.1, hr.2.keep g⟩, h.o19.keep g, h.o20.keep g, h.o21.keep g, h.ok⟩
theorem TMissionO.mono {B : Nat} {χ : Nat → Col} {o : Nat} {w : World} {A : TMissionA} {x : TMission} (h : TMissionO B χ o w A x) {B2 : Nat} (g : B2 ≤ B) : TMissionO B2 χ o w A x := ⟨h.o0.mono g, h.o1.mono g, h.o2.mono g, h.o3.mono g, h.o4.mono g, h.o5.mono g, h.o6.mono g, h.o7.elim fun r hr => ⟨r, hr.1, hr.2.mono g⟩, h.o8.mono g, h.o9.mono g, h.o10.mono g, h.o11.mono g, h.o12.mono g, h.o13.mono g, h.o14.mono g, h.o15.mono g, h.o16.mono g, h.o17.mono g, h.o18.elim fun r hr => ⟨r, hr.1, hr.2.mono g⟩, h.o19.mono g, h.o20.mono g, h.o21.mono g, h.ok⟩
theorem TMissionO.old {B : Nat} {χ χ2 : Nat → Col} {o : Nat} {w : World} {A : TMissionA} {x : TMission} (h : TMissionO B χ o w A x) {f : Col → Col} {U : Nat} (g : w.heap.size ≤ U) : TMissionO B (paint U χ χ2 f) o w A x := ⟨h.o0.old g, h.o1.old g, h.o2.old g, h.o3.old g, h.o4.old g, h.o5.old g, h.o6.old g, h.o7.elim fun r hr => ⟨r, hr.1, hr.2.old g⟩, h.o8.old g, h.o9.old g, h.o10.old g, h.o11.old g, h.o12.old g, h.o13.old g, h.o14.old g, h.o15.old g, h.o16.old g, h.o17.old g, h.o18.elim fun r hr => ⟨r, hr.1, hr.2.old g⟩, h.o19.old g, h.o20.old g, h.o21.old g, h.ok⟩
theorem TMissionO.f {B : Nat} {χ : Nat → Col} {o : Nat} {w : World} {A : TMissionA} {x : TMission} (h : TMissionO B χ o w A x) : TMissionF B w A x := ⟨h.o0.rd, h.o1.rd, h.o2.rd, h.o3.rd, h.o4.rd, h.o5.rd, h.o6.rd, h.o7.elim fun r hr => hr.1 ▸ hr.2.rd, h.o8.rd, h.o9.rd, h.o10.rd, h.o11.rd, h.o12.rd, h.o13.rd, h.o14.rd, h.o15.rd, h.o16.rd, h.o17.rd, h.o18.elim fun r hr => hr.1 ▸ hr.2.rd, h.o19.rd, h.o20.rd, h.o21.rd, h.ok⟩
theorem TMissionO.rd {B : Nat} {χ : Nat → Col} {o : Nat} {w : World} {A : TMissionA} {x : TMission} (h : TMissionO B χ o w A x) : Enc.Rd B w (cMission x A.a0 A.c0 A.a1 A.c1 A.a2 A.c2 A.a3 A.c3 A.a4 A.c4 A.a5 A.c5 A.a6 A.c6 A.a7 A.c7 A.a8 A.c8 A.a9 A.c9 A.a10 A.c10 A.a11 A.c11 A.a12 A.c12 A.a13 A.c13 A.a14 A.c14 A.a15 A.c15 A.a16 A.c16 A.a17 A.c17 A.a18 A.c18 A.a19 A.c19 A.a20 A.c20 A.a21 A.c21) x := ⟨A, rfl, h.f⟩
instance EncO.iTMission : EncO TMission where
  toEnc := inferInstance
  O B χ o w vs x := ∃ A : TMissionA, vs = (cMission x A.a0 A.c0 A.a1 A.c1 A.a2 A.c2 A.a3 A.c3 A.a4 A.c4 A.a5 A.c5 A.a6 A.c6 A.a7 A.c7 A.a8 A.c8 A.a9 A.c9 A.a10 A.c10 A.a11 A.c11 A.a12 A.c12 A.a13 A.c13 A.a14 A.c14 A.a15 A.c15 A.a16 A.c16 A.a17 A.c17 A.a18 A.c18 A.a19 A.c19 A.a20 A.c20 A.a21 A.c21) ∧ TMissionO B χ o w A x
  toRd := by rintro _ _ _ _ _ _ ⟨A, rfl, h⟩; exact h.rd
end Go.Proofs.YtbaffippdifbpaaGreat
namespace Go.Proofs.YtbaffippdifbpaaGreat
set_option linter.unusedVariables false
open Go.ChangeShapes Go.WideShapes Go.ChangeAt Go.RowKit
section
variable {P : Program} {ops : Array Oper} {rest : List Oper} {op : Oper} {a : Act} {w : World} {Q : Exit → Act → World → Prop}
theorem stepLoad1 (hgd : op.guard = none) (ty : TypeId) (x : Operand) (ho : op.op = .load ty x) (b o : Nat) (hx : a.eval x = .pointer (some ⟨b, o, none⟩)) {cs : List Value} {T : TypeId} (H : Held w b cs T) (v : Value) (hv : cs[o]? = some v)
    (d : TypeDesc) (hu : P.underlying ty = some d) (hd : d.isRow = false) (h : wpList P ops Q rest (a.put op.dst v) w) : wpList P ops Q (op :: rest) a w := by
  refine wpList_plain hgd fun _ hK => ?_
  have hagg : (isAgg ty).run P w = .ok false w := by
    unfold isAgg
    rw [Sem.run_bind, run_underlying hu w]
    cases d <;> simp_all [TypeDesc.isRow]
  have hl : (loadVar ty ⟨b, o, none⟩).run P w = .ok v w := by
    have hc := H.cell o
    rw [hv] at hc
    simp [loadVar, Sem.run_bind, hagg, go_sem, hc]
  unfold Oper.wp execOp
  simp only [ho, hx, Instr.loadAt, Instr.sureAddr, Sem.run_bind, Sem.run_pure, Result.andThen_ok, hl]
  exact hK _ _ h
end
def pick : List (Nat × Nat × (Nat → Col)) → Nat → Col
  | [], _ => (0, 0)
  | (s, d, χ) :: r, b => if b < s then shift d (χ b) else pick r b
theorem pick_skip {s d : Nat} {χ : Nat → Col} {r : List (Nat × Nat × (Nat → Col))} {b : Nat} (h : s ≤ b) : pick ((s, d, χ) :: r) b = pick r b := by rw [pick, if_neg (by omega)]
theorem pick_here {s d : Nat} {χ : Nat → Col} {r : List (Nat × Nat × (Nat → Col))} {b : Nat} (h : b < s) : pick ((s, d, χ) :: r) b = shift d (χ b) := by rw [pick, if_pos h]
theorem pick_skipD {D : List (Nat × Nat × (Nat → Col))} {j s d : Nat} {χ : Nat → Col} {b : Nat} (e : D[j]? = some (s, d, χ)) (h : s ≤ b) : pick (D.drop j) b = pick (D.drop (j + 1)) b := by
  obtain ⟨hj, hx⟩ := List.getElem?_eq_some_iff.1 e
  rw [List.drop_eq_getElem_cons hj, hx, pick_skip h]
theorem pick_hereD {D : List (Nat × Nat × (Nat → Col))} {j s d : Nat} {χ : Nat → Col} {b : Nat} (e : D[j]? = some (s, d, χ)) (h : b < s) : pick (D.drop j) b = shift d (χ b) := by
  obtain ⟨hj, hx⟩ := List.getElem?_eq_some_iff.1 e
  rw [List.drop_eq_getElem_cons hj, hx, pick_here h]
theorem But.keeps {b B : Nat} {w w' : World} (h : But b w w') (hB : b < B) : Keeps B w w' := ⟨h.size, fun k h1 h2 => h.block k (by omega) h2⟩
theorem OwnC.re {α : Type} [E : Flat α] {B d : Nat} {χ χ2 : Nat → Col} {w : World} {a : Option Addr} {c : Nat} {l : List α} (h : OwnC B χ2 (0, 0) w a c l) (hc : ∀ b, B ≤ b → b < w.heap.size → χ b = shift d (χ2 b)) : OwnC B χ (d, 0) w a c l :=
  h.recol fun k h1 h2 h3 => by rw [hc k h1 h2, h3]; simp [shift]
theorem OwnC.reAt {α : Type} [E : Flat α] {B d j k : Nat} {χ χ2 : Nat → Col} {w : World} {a : Option Addr} {c : Nat} {l : List α} (h : OwnC B χ2 (j, k) w a c l) (hc : ∀ b, B ≤ b → b < w.heap.size → χ b = shift d (χ2 b)) : OwnC B χ (d + j, k) w a c l :=
  h.recol fun k h1 h2 h3 => by rw [hc k h1 h2, h3]; simp [shift, Nat.add_comm]
theorem OwnN.re {α β : Type} [N : Nest α β] [F : Flat β] {B d : Nat} {χ χ2 : Nat → Col} {w : World} {a : Option Addr} {c : Nat} {rows : List (NRow α)} (h : OwnN B χ2 0 w a c rows) (hc : ∀ b, B ≤ b → b < w.heap.size → χ b = shift d (χ2 b)) : OwnN B χ d w a c rows :=
  h.recol fun k j h1 h2 h3 => by rw [hc k h1 h2, h3]; simp [shift]
theorem OwnN.reAt {α β : Type} [N : Nest α β] [F : Flat β] {B d j : Nat} {χ χ2 : Nat → Col} {w : World} {a : Option Addr} {c : Nat} {rows : List (NRow α)} (h : OwnN B χ2 j w a c rows) (hc : ∀ b, B ≤ b → b < w.heap.size → χ b = shift d (χ2 b)) : OwnN B χ (d + j) w a c rows :=
  h.recol fun k i h1 h2 h3 => by rw [hc k h1 h2, h3]; simp [shift, Nat.add_comm]
--STRUCTS
theorem OwnN.oc {α β : Type} [N : Nest α β] [F : Flat β] {B o o2 : Nat} {χ : Nat → Col} {w : World} {a : Option Addr} {c : Nat} {rows : List (NRow α)} (h : OwnN B χ o w a c rows) (e : o = o2) : OwnN B χ o2 w a c rows := e ▸ h
theorem TPackerO.re {B d : Nat} {χ χ2 : Nat → Col} {w : World} {a0 : Option Addr} {c0 : Nat} {x : TPacker} (h : TPackerO B χ2 0 w a0 c0 x) (hc : ∀ b, B ≤ b → b < w.heap.size → χ b = shift d (χ2 b)) : TPackerO B χ d w a0 c0 x := ⟨h.o0.re hc, h.ok⟩
theorem TSenderO.re {B d : Nat} {χ χ2 : Nat → Col} {w : World} {a0 : Option Addr} {c0 : Nat} {x : TSender} (h : TSenderO B χ2 0 w a0 c0 x) (hc : ∀ b, B ≤ b → b < w.heap.size → χ b = shift d (χ2 b)) : TSenderO B χ d w a0 c0 x := ⟨h.o0.re hc, h.ok⟩
theorem TRecorderO.re {B d : Nat} {χ χ2 : Nat → Col} {w : World} {a0 : Option Addr} {c0 : Nat} {a1 : Option Addr} {c1 : Nat} {x : TRecorder} (h : TRecorderO B χ2 0 w a0 c0 a1 c1 x) (hc : ∀ b, B ≤ b → b < w.heap.size → χ b = shift d (χ2 b)) : TRecorderO B χ d w a0 c0 a1 c1 x := ⟨h.o0.re hc, (h.o1.reAt (j := 0 + 1) hc).ic (by simp), h.ok⟩
theorem TBoardO.re {B d : Nat} {χ χ2 : Nat → Col} {w : World} {A : TBoardA} {x : TBoard} (h : TBoardO B χ2 0 w A x) (hc : ∀ b, B ≤ b → b < w.heap.size → χ b = shift d (χ2 b)) : TBoardO B χ d w A x := ⟨h.o0.re hc, (h.o1.reAt (j := 0 + 1) hc).ic (by simp), (h.o2.reAt (j := 0 + 2) hc).ic (by simp), (h.o3.reAt (j := 0 + 3) hc).ic (by simp), (h.o4.reAt (j := 0 + 4) hc).ic (by simp), (h.o5.reAt (j := 0 + 5) hc).ic (by simp), (h.o6.reAt (j := 0 + 6) hc).ic (by simp), h.ok⟩
theorem TGroundO.re {B d : Nat} {χ χ2 : Nat → Col} {w : World} {A : TGroundA} {x : TGround} (h : TGroundO B χ2 0 w A x) (hc : ∀ b, B ≤ b → b < w.heap.size → χ b = shift d (χ2 b)) : TGroundO B χ d w A x := ⟨h.o0.re hc, (h.o1.reAt (j := 0 + 1) hc).ic (by simp), (h.o2.reAt (j := 0 + 2) hc).ic (by simp), (h.o3.reAt (j := 0 + 3) hc).ic (by simp), h.o4.elim fun r hr => ⟨r, hr.1, (hr.2.reAt (j := 0 + 4) hc).oc (by omega)⟩, (h.o5.reAt (j := 0 + 5) hc).ic (by simp), h.ok⟩
theorem TSpaceO.re {B d : Nat} {χ χ2 : Nat → Col} {w : World} {A : TSpaceA} {x : TSpace} (h : TSpaceO B χ2 0 w A x) (hc : ∀ b, B ≤ b → b < w.heap.size → χ b = shift d (χ2 b)) : TSpaceO B χ d w A x := ⟨h.o0.re hc, (h.o1.reAt (j := 0 + 1) hc).ic (by simp), (h.o2.reAt (j := 0 + 2) hc).ic (by simp), (h.o3.reAt (j := 0 + 3) hc).ic (by simp), (h.o4.reAt (j := 0 + 4) hc).ic (by simp), (h.o5.reAt (j := 0 + 5) hc).ic (by simp), (h.o6.reAt (j := 0 + 6) hc).ic (by simp), (h.o7.reAt (j := 0 + 7) hc).ic (by simp), (h.o8.reAt (j := 0 + 8) hc).ic (by simp), h.o9.elim fun r hr => ⟨r, hr.1, (hr.2.reAt (j := 0 + 9) hc).oc (by omega)⟩, (h.o10.reAt (j := 0 + 10) hc).ic (by simp), h.ok⟩
end Go.Proofs.YtbaffippdifbpaaGreat
namespace Go.Proofs.YtbaffippdifbpaaGreat
set_option linter.unusedVariables false
open Go.ChangeShapes Go.WideShapes Go.ChangeAt Go.RowKit
section
variable {P : Program} {w : World}
theorem append_block (base : Nat) (t ty e : TypeId) (i : TypeInfo) (z : Value) (size bytes : Nat) (ht : P.underlying t = some (.slice e)) (hi : P.info? e = some i) (hz : i.zero = some z)
    (hsize : i.size = size) (hby : i.bytes = bytes)
    (v : Value) (n : Nat) (xs : List Value) (hown : w.ownsRow base e size v n xs)
    (a : Addr) (m c : Nat) (news : List Value) (hl : news.length = m * size) (hnews : ∀ j u, news[j]? = some u → w.cell? (a.add j) = some u) (h1 : ∀ u ∈ news, u.oneCell' = true)
    (h63 : n + m ≤ maxLen) (hbytes : (n + m) * bytes ≤ 140737488355328) {v' : Value} {w' : World}
    (hr : (Builtin.append_ #[t, t] ty #[v, .slice (some a) m c]).run P w = .ok v' w') : v'.ownBlock = v.ownBlock ∨ v'.ownBlock = some w.heap.size := by
  subst hsize
  subst hby
  have hsmall : n + m ≤ 9223372036854775807 := by simp only [maxLen] at h63; omega
  rcases hown.2 with ⟨rfl, rfl⟩ | ⟨g, cap, cur, rfl, hbg, hg, hnc, hcm, hcs, htake⟩
  · by_cases hm : m = 0
    · subst hm
      have hn : news = [] := List.eq_nil_of_length_eq_zero (by simpa using hl)
      subst hn
      have hr2 : (Builtin.append_ #[t, t] ty #[.slice none 0 0, .slice (some a) 0 c]).run P w = .ok (.slice none 0 0) w := by
        simp [Builtin.append_, run_underlying ht, sizeOf, typeInfo, hi, Builtin.lenOf, Builtin.firstCells, loadCells, loadCellsFrom]
      have := hr.symm.trans hr2
      injection this with e1 _
      exact .inl (by rw [e1])
    · have hr2 := run_append_nil (P := P) w t ty e i z ht hi hz a m c news hl hnews (by omega) (by omega) (by have hb := hbytes; simp only [Nat.zero_add] at hb; omega)
      have := hr.symm.trans hr2
      injection this with e1 _
      exact .inr (by rw [e1]; rfl)
  · by_cases hroom : n + m ≤ cap
    · have hfit : n * i.size + news.length ≤ cur.size := by rw [hl, hcs, ← Nat.add_mul]; exact Nat.mul_le_mul_right _ hroom
      have hr2 := run_append_room (P := P) w t ty e i ht hi g n cap cur hg a m c news hl hnews h1 hroom hfit
      have := hr.symm.trans hr2
      injection this with e1 _
      exact .inl (by rw [e1]; rfl)
    · have holds : ∀ j u, xs[j]? = some u → w.cell? ((⟨g, 0, none⟩ : Addr).add j) = some u := hown.cells (g := g) rfl
      have hr2 := run_append_grow (P := P) w t ty e i z ht hi hz ⟨g, 0, none⟩ n cap xs hown.1 holds a m c news hl hnews (by omega) (by omega) (growslice_fits (by omega) hbytes)
      have := hr.symm.trans hr2
      injection this with e1 _
      exact .inr (by rw [e1]; rfl)
variable {o : Oper} {a : Act} {K : Act → World → Prop} {Q : Exit → Act → World → Prop} {α : Type} {enc : α → List Value} {T size : Nat}
theorem wp_app1F {w0 : World} {T1 : TypeId} {cs : Array Value} {t : TypeId} {bytes : Nat} {z : Value} (y : α)
    (s x : Operand) (ho : o.op = .call { callee := .builtin .append, args := #[s, x], argTypes := #[t, t] })
    (ht : P.underlying t = some (.slice T)) (hinfo : (P.info? T).map (fun i => (i.zero, i.size, i.bytes)) = some (some z, size, bytes)) (hzs : z.cells.size = size) (hsz : 0 < size) (hby : bytes ≤ 1000)
    {l : List α} {n : Nat} {sa : Option Addr} {sc : Nat} (hs : a.eval s = .slice sa n sc) {xb : Nat} (hx : a.eval x = .slice (some ⟨xb, 0, none⟩) 1 1) (hn : l.length = n) {B : Nat} (hown : Own enc T size B w sa sc l)
    (hxc : w.heap[xb]? = some (.cells cs T1 (0, 0))) (hy : cs.toList = enc y) (h1 : ∀ u ∈ enc y, u.oneCell' = true) (hb : n ≤ 1000000000) (hB : B ≤ w.heap.size) (g : Grows w0 w) (hB0 : w0.heap.size ≤ B)
    (h : ∀ (sa' : Option Addr) (sc' : Nat) (x' : Later w0), Own enc T size B x'.w sa' sc' (l ++ [y]) → w.grownBy x'.w (Value.ownBlock (.slice sa n sc)) → (blkOf sa' = blkOf sa ∨ blkOf sa' = some w.heap.size) → K (a.put o.dst (.slice sa' (n + 1) sc')) x'.w) :
    Oper.wp P o a w K Q := by
  obtain ⟨i, hi, h3⟩ := Option.map_eq_some_iff.1 hinfo
  simp only [Prod.mk.injEq] at h3
  obtain ⟨h4, h5, h6⟩ := h3
  subst hn
  have hb' : (l.length + 1) * bytes ≤ 140737488355328 := by
    have : (l.length + 1) * bytes ≤ (l.length + 1) * 1000 := Nat.mul_le_mul_left _ hby
    omega
  have hnl : (enc y).length = 1 * size := by rw [hown.1]; omega
  have hnews : ∀ (j : Nat) (u : Value), (enc y)[j]? = some u → w.cell? ((⟨xb, 0, none⟩ : Addr).add j) = some u := fun j u hj => by
    have e : (⟨xb, 0, none⟩ : Addr).add j = ⟨xb, j, none⟩ := by
      unfold Addr.add; split
      · rename_i h; rw [h]
      · simp
    rw [e]
    rw [← hy, Array.getElem?_toList] at hj
    simp [World.cell?, hxc, hj]
  obtain ⟨v', w', hr, ho', hg', -⟩ := run_append_own (P := P) w B t o.type T i z size bytes ht hi h4 h5 h6 hzs hsz _ l.length (l.flatMap enc) hown.2 ⟨xb, 0, none⟩ 1 1 (enc y) hnl hnews h1 (by unfold maxLen; omega) hb' hB
  have hblk := append_block B t o.type T i z size bytes ht hi h4 h5 h6 _ l.length (l.flatMap enc) hown.2 ⟨xb, 0, none⟩ 1 1 (enc y) hnl hnews h1 (by unfold maxLen; omega) hb' hr
  have hlt := hown.2.lt
  have hbel : Below w0.heap.size w0 w' := g.out.grown hg' g.out.size (fun k hk => Nat.le_trans hB0 (hlt k hk).1)
  have hf : xs_form v' (l.length + 1) := by
    rcases ho'.2 with ⟨hv, hn0⟩ | ⟨g', cap, cur, hv, -⟩
    · omega
    · exact ⟨_, _, hv⟩
  obtain ⟨sa', sc', rfl⟩ := hf
  rw [ownBlock_eq, ownBlock_eq] at hblk
  unfold Oper.wp execOp
  simp only [ho, resolve, invoke, builtin, Sem.run_bind, Sem.run_pure, Result.andThen_ok, List.map_toArray, List.map_cons, List.map_nil, hs, hx, hr]
  refine h sa' sc' ⟨w', hbel⟩ ⟨hown.1, ?_⟩ hg' hblk
  rw [List.flatMap_append, List.flatMap_singleton, List.length_append, List.length_singleton]; exact ho'
theorem st_app1F {ops : Array Oper} (hw : Region.wanted o (yielded ops a.tmps) = true) {E : Prop} {w0 : World} {T1 : TypeId} {cs : Array Value} {t : TypeId} {bytes : Nat} {z : Value} (y : α)
    (s x : Operand) (ho : o.op = .call { callee := .builtin .append, args := #[s, x], argTypes := #[t, t] })
    (ht : P.underlying t = some (.slice T)) (hinfo : (P.info? T).map (fun i => (i.zero, i.size, i.bytes)) = some (some z, size, bytes)) (hzs : z.cells.size = size) (hsz : 0 < size) (hby : bytes ≤ 1000)
    {l : List α} {n : Nat} {sa : Option Addr} {sc : Nat} (hs : a.eval s = .slice sa n sc) {xb : Nat} (hx : a.eval x = .slice (some ⟨xb, 0, none⟩) 1 1) (hn : l.length = n) {B : Nat} (hown : Own enc T size B w sa sc l)
    (hxc : w.heap[xb]? = some (.cells cs T1 (0, 0))) (hy : cs.toList = enc y) (h1 : ∀ u ∈ enc y, u.oneCell' = true) (hb : n ≤ 1000000000) (hB : B ≤ w.heap.size) (g : Grows w0 w) (hB0 : w0.heap.size ≤ B)
    (h : ∀ (sa' : Option Addr) (sc' : Nat) (x' : Later w0), Own enc T size B x'.w sa' sc' (l ++ [y]) → w.grownBy x'.w (Value.ownBlock (.slice sa n sc)) → (blkOf sa' = blkOf sa ∨ blkOf sa' = some w.heap.size) → K (a.put o.dst (.slice sa' (n + 1) sc')) x'.w) :
    if Region.wanted o (yielded ops a.tmps) = true then Oper.wp P o a w K Q else E := by
  rw [if_pos hw]
  exact wp_app1F (w0 := w0) y s x ho ht hinfo hzs hsz hby hs hx hn hown hxc hy h1 hb hB g hB0 h
end
end Go.Proofs.YtbaffippdifbpaaGreat
namespace Go.Proofs.YtbaffippdifbpaaGreat
set_option linter.unusedVariables false
open Go.ChangeShapes Go.WideShapes Go.ChangeAt Go.RowKit
theorem o_cloneRecorder {B : Nat} {vs : List Value} {x : TRecorder} {w : World} (h : Enc.Rd B w vs x) (ht : Enc.tot x ≤ 100000000) :
    Calls Tryz.prog 294 #[.agg vs.toArray] w (GivesO w x) := by
  obtain ⟨a0, c0, a1, c1, rfl, q0, q1, hok⟩ := h
  have HT := Lib.hid (show x.Records.length ≤ 100000000 ∧ x.Dropped.length ≤ 100000000 ∧ True from by
    have : Enc.tot x = totL x.Records + totL x.Dropped := rfl
    have := totL_nonneg x.Records; have := totL_len x.Records
    have := totL_nonneg x.Dropped; have := totL_len x.Dropped
    refine ⟨?_, ?_, trivial⟩ <;> omega)
  have HT0 := Lib.hid ht; clear ht
  have HQ0 := Lib.hid q0; clear q0
  have HQ1 := Lib.hid q1; clear q1
  have HOK := Lib.hid hok; clear hok
  have S0 := Lib.hid ((Held.new w [.int .i64 x.Room, .slice a0 x.Records.length c0, .slice a1 x.Dropped.length c1] 53 w.heap.size rfl).to (inferInstance : Grows _ ((w.alloc (.cells #[.int .i64 x.Room, .slice a0 x.Records.length c0, .slice a1 x.Dropped.length c1] 53)).alloc (.cells #[.int .i64 0, .slice none 0 0, .slice none 0 0] 53))))
  have R0 := Lib.hid ((Held.new (w.alloc (.cells #[.int .i64 x.Room, .slice a0 x.Records.length c0, .slice a1 x.Dropped.length c1] 53)) [.int .i64 0, .slice none 0 0, .slice none 0 0] 53 (w.heap.size + 1) (by simp)).to (inferInstance : Grows _ ((w.alloc (.cells #[.int .i64 x.Room, .slice a0 x.Records.length c0, .slice a1 x.Dropped.length c1] 53)).alloc (.cells #[.int .i64 0, .slice none 0 0, .slice none 0 0] 53))))
  go_enter Tryz.func294, Tryz.ntmps294
  go_wp2_with (first | (refine stepLoad1 rfl _ _ rfl w.heap.size 1 rfl (S0.out.to inferInstance) _ rfl _ Tryz.underlying41 rfl ?_))
  refine (o_cloneTRecord (HQ0.out.keep inferInstance) (HT.out.1)).mono ?_
  rintro _ _ ⟨na0, nc0, rfl, no0, y0, rfl⟩
  have O0 := Lib.hid no0; clear no0
  go_wp2_with (first | (refine stepStore2 rfl _ _ _ rfl (w.heap.size) 1 rfl (us := [.slice na0 x.Records.length nc0]) (cs2 := [.int .i64 x.Room, .slice na0 x.Records.length nc0, .slice a1 x.Dropped.length c1]) (S0.out.to inferInstance) rfl (by kernel_rfl) rfl (Nat.le_of_ble_eq_true rfl) (by kernel_rfl) (w0 := w) inferInstance (by simp) ?_; intro z1 h1 k1; have HZ1 := Lib.hid h1; clear h1; have K1 := Lib.hid k1; have RZ1 := Lib.hid ((R0.out.to inferInstance).but k1 (by omega)); clear k1; have e1 : LeN (w.heap.size + 2) z1.w.heap.size := ⟨RZ1.out.lt⟩; clear R0 S0) | (refine stepLoad1 rfl _ _ rfl w.heap.size 2 rfl (HZ1.out.to inferInstance) _ rfl _ Tryz.underlying48 rfl ?_))
  refine (o_cloneInt (HQ1.out.keep inferInstance) (HT.out.2.1)).mono ?_
  rintro _ _ ⟨na1, nc1, rfl, no1, y1, rfl⟩
  have O1 := Lib.hid no1; clear no1
  go_wp2_with (first | (refine stepStore2 rfl _ _ _ rfl (w.heap.size) 2 rfl (us := [.slice na1 x.Dropped.length nc1]) (cs2 := [.int .i64 x.Room, .slice na0 x.Records.length nc0, .slice na1 x.Dropped.length nc1]) (HZ1.out.to inferInstance) rfl (by kernel_rfl) rfl (Nat.le_of_ble_eq_true rfl) (by kernel_rfl) (w0 := w) inferInstance (by simp) ?_; intro z2 h2 k2; have HZ2 := Lib.hid h2; clear h2; have K2 := Lib.hid k2; have RZ2 := Lib.hid ((RZ1.out.to inferInstance).but k2 (by omega)); clear k2; have e2 : LeN (w.heap.size + 2) z2.w.heap.size := ⟨RZ2.out.lt⟩; clear HZ1 RZ1) | (refine stepLoad rfl _ _ rfl (w.heap.size) 0 rfl (row := [.int .i64 x.Room, .slice na0 x.Records.length nc0, .slice na1 x.Dropped.length nc1]) (HZ2.out.to inferInstance) _ Tryz.underlying53 rfl (by kernel_rfl) (by kernel_rfl) ?_) | (refine stepStore2 rfl _ _ _ rfl (w.heap.size + 1) 0 rfl (us := [.int .i64 x.Room, .slice na0 x.Records.length nc0, .slice na1 x.Dropped.length nc1]) (cs2 := [.int .i64 x.Room, .slice na0 x.Records.length nc0, .slice na1 x.Dropped.length nc1]) (RZ2.out.to inferInstance) rfl (by kernel_rfl) rfl (Nat.le_of_ble_eq_true rfl) (by kernel_rfl) (w0 := w) inferInstance (by simp) ?_; intro zr hr kr; have HR := Lib.hid hr; clear hr; have KR := Lib.hid kr; clear kr))
  have GZ2 : Keeps (w.heap.size + 2) z2.w zr.w := KR.out.keeps (by omega)
  have GY1 : Keeps (w.heap.size + 2) y1.w zr.w := Keeps.trans (K2.out.keeps (by omega)) GZ2
  have GZ1 : Keeps (w.heap.size + 2) z1.w zr.w := Keeps.trans (inferInstance : Keeps (w.heap.size + 2) z1.w y1.w) GY1
  have GY0 : Keeps (w.heap.size + 2) y0.w zr.w := Keeps.trans (K1.out.keeps (by omega)) GZ1
  obtain ⟨D, hD⟩ : ∃ D : List (Nat × Nat × (Nat → Col)), D = [(y0.w.heap.size, 0, (fun _ => (0, 0))), (y1.w.heap.size, 1, (fun _ => (0, 0)))] := ⟨_, rfl⟩
  have e0 : D[0]? = some (y0.w.heap.size, 0, (fun _ => (0, 0))) := by rw [hD]; rfl
  have e1 : D[1]? = some (y1.w.heap.size, 1, (fun _ => (0, 0))) := by rw [hD]; rfl
  clear hD
  have P0 : ∀ b, pick D b = pick (D.drop 0) b := fun _ => rfl
  have C0 : ∀ b, ((w.alloc (.cells #[.int .i64 x.Room, .slice a0 x.Records.length c0, .slice a1 x.Dropped.length c1] 53)).alloc (.cells #[.int .i64 0, .slice none 0 0, .slice none 0 0] 53)).heap.size ≤ b → b < y0.w.heap.size → pick D b = shift 0 ((fun _ => (0, 0)) b) := fun b h1 h2 => (P0 b).trans (pick_hereD e0 h2)
  have P1 : ∀ b, y0.w.heap.size ≤ b → pick D b = pick (D.drop 1) b := fun b hb => (P0 b).trans (pick_skipD e0 hb)
  have C1 : ∀ b, z1.w.heap.size ≤ b → b < y1.w.heap.size → pick D b = shift 1 ((fun _ => (0, 0)) b) := fun b h1 h2 => (P1 b (Nat.le_trans K1.out.size h1)).trans (pick_hereD e1 h2)
  refine bodyPost_ret (v := .agg #[.int .i64 x.Room, .slice na0 x.Records.length nc0, .slice na1 x.Dropped.length nc1]) (results_cell (P := Tryz.prog) rfl rfl HR.out _ Tryz.underlying53 rfl (by kernel_rfl)) rfl ⟨[.int .i64 x.Room, .slice na0 x.Records.length nc0, .slice na1 x.Dropped.length nc1], pick D, rfl, ⟨na0, nc0, na1, nc1, rfl, ⟨((((O0.out.re C0).mono (LeN.out (a := w.heap.size + 2))).keep GY0).mono (by omega)), ((((O1.out.re C1).mono (LeN.out (a := w.heap.size + 2))).keep GY1).mono (by omega)), HOK.out⟩⟩, Later.of⟩
theorem o_cloneSender {B : Nat} {vs : List Value} {x : TSender} {w : World} (h : Enc.Rd B w vs x) (ht : Enc.tot x ≤ 100000000) :
    Calls Tryz.prog 217 #[.agg vs.toArray] w (GivesO w x) := by
  obtain ⟨a0, c0, rfl, q0, hok⟩ := h
  have HT := Lib.hid (show x.Waiting.length ≤ 100000000 ∧ True from by
    have : Enc.tot x = totL x.Waiting := rfl
    have := totL_nonneg x.Waiting; have := totL_len x.Waiting
    refine ⟨?_, trivial⟩ <;> omega)
  have HT0 := Lib.hid ht; clear ht
  have HQ0 := Lib.hid q0; clear q0
  have HOK := Lib.hid hok; clear hok
  have S0 := Lib.hid ((Held.new w [.int .i64 x.Next, .int .i64 x.Window, .slice a0 x.Waiting.length c0, .int .i64 x.Done] 35 w.heap.size rfl).to (inferInstance : Grows _ ((w.alloc (.cells #[.int .i64 x.Next, .int .i64 x.Window, .slice a0 x.Waiting.length c0, .int .i64 x.Done] 35)).alloc (.cells #[.int .i64 0, .int .i64 0, .slice none 0 0, .int .i64 0] 35))))
  have R0 := Lib.hid ((Held.new (w.alloc (.cells #[.int .i64 x.Next, .int .i64 x.Window, .slice a0 x.Waiting.length c0, .int .i64 x.Done] 35)) [.int .i64 0, .int .i64 0, .slice none 0 0, .int .i64 0] 35 (w.heap.size + 1) (by simp)).to (inferInstance : Grows _ ((w.alloc (.cells #[.int .i64 x.Next, .int .i64 x.Window, .slice a0 x.Waiting.length c0, .int .i64 x.Done] 35)).alloc (.cells #[.int .i64 0, .int .i64 0, .slice none 0 0, .int .i64 0] 35))))
  go_enter Tryz.func217, Tryz.ntmps217
  go_wp2_with (first | (refine stepLoad1 rfl _ _ rfl w.heap.size 2 rfl (S0.out.to inferInstance) _ rfl _ Tryz.underlying33 rfl ?_))
  refine (o_cloneTSent (HQ0.out.keep inferInstance) (HT.out.1)).mono ?_
  rintro _ _ ⟨na0, nc0, rfl, no0, y0, rfl⟩
  have O0 := Lib.hid no0; clear no0
  go_wp2_with (first | (refine stepStore2 rfl _ _ _ rfl (w.heap.size) 2 rfl (us := [.slice na0 x.Waiting.length nc0]) (cs2 := [.int .i64 x.Next, .int .i64 x.Window, .slice na0 x.Waiting.length nc0, .int .i64 x.Done]) (S0.out.to inferInstance) rfl (by kernel_rfl) rfl (Nat.le_of_ble_eq_true rfl) (by kernel_rfl) (w0 := w) inferInstance (by simp) ?_; intro z1 h1 k1; have HZ1 := Lib.hid h1; clear h1; have K1 := Lib.hid k1; have RZ1 := Lib.hid ((R0.out.to inferInstance).but k1 (by omega)); clear k1; have e1 : LeN (w.heap.size + 2) z1.w.heap.size := ⟨RZ1.out.lt⟩; clear R0 S0) | (refine stepLoad rfl _ _ rfl (w.heap.size) 0 rfl (row := [.int .i64 x.Next, .int .i64 x.Window, .slice na0 x.Waiting.length nc0, .int .i64 x.Done]) (HZ1.out.to inferInstance) _ Tryz.underlying35 rfl (by kernel_rfl) (by kernel_rfl) ?_) | (refine stepStore2 rfl _ _ _ rfl (w.heap.size + 1) 0 rfl (us := [.int .i64 x.Next, .int .i64 x.Window, .slice na0 x.Waiting.length nc0, .int .i64 x.Done]) (cs2 := [.int .i64 x.Next, .int .i64 x.Window, .slice na0 x.Waiting.length nc0, .int .i64 x.Done]) (RZ1.out.to inferInstance) rfl (by kernel_rfl) rfl (Nat.le_of_ble_eq_true rfl) (by kernel_rfl) (w0 := w) inferInstance (by simp) ?_; intro zr hr kr; have HR := Lib.hid hr; clear hr; have KR := Lib.hid kr; clear kr))
  have GZ1 : Keeps (w.heap.size + 2) z1.w zr.w := KR.out.keeps (by omega)
  have GY0 : Keeps (w.heap.size + 2) y0.w zr.w := Keeps.trans (K1.out.keeps (by omega)) GZ1
  obtain ⟨D, hD⟩ : ∃ D : List (Nat × Nat × (Nat → Col)), D = [(y0.w.heap.size, 0, (fun _ => (0, 0)))] := ⟨_, rfl⟩
  have e0 : D[0]? = some (y0.w.heap.size, 0, (fun _ => (0, 0))) := by rw [hD]; rfl
  clear hD
  have P0 : ∀ b, pick D b = pick (D.drop 0) b := fun _ => rfl
  have C0 : ∀ b, ((w.alloc (.cells #[.int .i64 x.Next, .int .i64 x.Window, .slice a0 x.Waiting.length c0, .int .i64 x.Done] 35)).alloc (.cells #[.int .i64 0, .int .i64 0, .slice none 0 0, .int .i64 0] 35)).heap.size ≤ b → b < y0.w.heap.size → pick D b = shift 0 ((fun _ => (0, 0)) b) := fun b h1 h2 => (P0 b).trans (pick_hereD e0 h2)
  refine bodyPost_ret (v := .agg #[.int .i64 x.Next, .int .i64 x.Window, .slice na0 x.Waiting.length nc0, .int .i64 x.Done]) (results_cell (P := Tryz.prog) rfl rfl HR.out _ Tryz.underlying35 rfl (by kernel_rfl)) rfl ⟨[.int .i64 x.Next, .int .i64 x.Window, .slice na0 x.Waiting.length nc0, .int .i64 x.Done], pick D, rfl, ⟨na0, nc0, rfl, ⟨((((O0.out.re C0).mono (LeN.out (a := w.heap.size + 2))).keep GY0).mono (by omega)), HOK.out⟩⟩, Later.of⟩
theorem o_clonePacker {B : Nat} {vs : List Value} {x : TPacker} {w : World} (h : Enc.Rd B w vs x) (ht : Enc.tot x ≤ 100000000) :
    Calls Tryz.prog 224 #[.agg vs.toArray] w (GivesO w x) := by
  obtain ⟨a0, c0, rfl, q0, hok⟩ := h
  have HT := Lib.hid (show x.Starts.length ≤ 100000000 ∧ True from by
    have : Enc.tot x = (x.Rest.size : Int) + totL x.Starts := rfl
    have := totL_nonneg x.Starts; have := totL_len x.Starts
    refine ⟨?_, trivial⟩ <;> omega)
  have HT0 := Lib.hid ht; clear ht
  have HQ0 := Lib.hid q0; clear q0
  have HOK := Lib.hid hok; clear hok
  have S0 := Lib.hid ((Held.new w [.int .i64 x.Channel, .int .i64 x.Count, .string x.Rest, .slice a0 x.Starts.length c0] 57 w.heap.size rfl).to (inferInstance : Grows _ ((w.alloc (.cells #[.int .i64 x.Channel, .int .i64 x.Count, .string x.Rest, .slice a0 x.Starts.length c0] 57)).alloc (.cells #[.int .i64 0, .int .i64 0, .string ⟨#[]⟩, .slice none 0 0] 57))))
  have R0 := Lib.hid ((Held.new (w.alloc (.cells #[.int .i64 x.Channel, .int .i64 x.Count, .string x.Rest, .slice a0 x.Starts.length c0] 57)) [.int .i64 0, .int .i64 0, .string ⟨#[]⟩, .slice none 0 0] 57 (w.heap.size + 1) (by simp)).to (inferInstance : Grows _ ((w.alloc (.cells #[.int .i64 x.Channel, .int .i64 x.Count, .string x.Rest, .slice a0 x.Starts.length c0] 57)).alloc (.cells #[.int .i64 0, .int .i64 0, .string ⟨#[]⟩, .slice none 0 0] 57))))
  go_enter Tryz.func224, Tryz.ntmps224
  go_wp2_with (first | (refine stepLoad1 rfl _ _ rfl w.heap.size 3 rfl (S0.out.to inferInstance) _ rfl _ Tryz.underlying48 rfl ?_))
  refine (o_cloneInt (HQ0.out.keep inferInstance) (HT.out.1)).mono ?_
  rintro _ _ ⟨na0, nc0, rfl, no0, y0, rfl⟩
  have O0 := Lib.hid no0; clear no0
  go_wp2_with (first | (refine stepStore2 rfl _ _ _ rfl (w.heap.size) 3 rfl (us := [.slice na0 x.Starts.length nc0]) (cs2 := [.int .i64 x.Channel, .int .i64 x.Count, .string x.Rest, .slice na0 x.Starts.length nc0]) (S0.out.to inferInstance) rfl (by kernel_rfl) rfl (Nat.le_of_ble_eq_true rfl) (by kernel_rfl) (w0 := w) inferInstance (by simp) ?_; intro z1 h1 k1; have HZ1 := Lib.hid h1; clear h1; have K1 := Lib.hid k1; have RZ1 := Lib.hid ((R0.out.to inferInstance).but k1 (by omega)); clear k1; have e1 : LeN (w.heap.size + 2) z1.w.heap.size := ⟨RZ1.out.lt⟩; clear R0 S0) | (refine stepLoad rfl _ _ rfl (w.heap.size) 0 rfl (row := [.int .i64 x.Channel, .int .i64 x.Count, .string x.Rest, .slice na0 x.Starts.length nc0]) (HZ1.out.to inferInstance) _ Tryz.underlying57 rfl (by kernel_rfl) (by kernel_rfl) ?_) | (refine stepStore2 rfl _ _ _ rfl (w.heap.size + 1) 0 rfl (us := [.int .i64 x.Channel, .int .i64 x.Count, .string x.Rest, .slice na0 x.Starts.length nc0]) (cs2 := [.int .i64 x.Channel, .int .i64 x.Count, .string x.Rest, .slice na0 x.Starts.length nc0]) (RZ1.out.to inferInstance) rfl (by kernel_rfl) rfl (Nat.le_of_ble_eq_true rfl) (by kernel_rfl) (w0 := w) inferInstance (by simp) ?_; intro zr hr kr; have HR := Lib.hid hr; clear hr; have KR := Lib.hid kr; clear kr))
  have GZ1 : Keeps (w.heap.size + 2) z1.w zr.w := KR.out.keeps (by omega)
  have GY0 : Keeps (w.heap.size + 2) y0.w zr.w := Keeps.trans (K1.out.keeps (by omega)) GZ1
  obtain ⟨D, hD⟩ : ∃ D : List (Nat × Nat × (Nat → Col)), D = [(y0.w.heap.size, 0, (fun _ => (0, 0)))] := ⟨_, rfl⟩
  have e0 : D[0]? = some (y0.w.heap.size, 0, (fun _ => (0, 0))) := by rw [hD]; rfl
  clear hD
  have P0 : ∀ b, pick D b = pick (D.drop 0) b := fun _ => rfl
  have C0 : ∀ b, ((w.alloc (.cells #[.int .i64 x.Channel, .int .i64 x.Count, .string x.Rest, .slice a0 x.Starts.length c0] 57)).alloc (.cells #[.int .i64 0, .int .i64 0, .string ⟨#[]⟩, .slice none 0 0] 57)).heap.size ≤ b → b < y0.w.heap.size → pick D b = shift 0 ((fun _ => (0, 0)) b) := fun b h1 h2 => (P0 b).trans (pick_hereD e0 h2)
  refine bodyPost_ret (v := .agg #[.int .i64 x.Channel, .int .i64 x.Count, .string x.Rest, .slice na0 x.Starts.length nc0]) (results_cell (P := Tryz.prog) rfl rfl HR.out _ Tryz.underlying57 rfl (by kernel_rfl)) rfl ⟨[.int .i64 x.Channel, .int .i64 x.Count, .string x.Rest, .slice na0 x.Starts.length nc0], pick D, rfl, ⟨na0, nc0, rfl, ⟨((((O0.out.re C0).mono (LeN.out (a := w.heap.size + 2))).keep GY0).mono (by omega)), HOK.out⟩⟩, Later.of⟩
theorem o_cloneFileIn {B : Nat} {vs : List Value} {x : TFileIn} {w : World} (h : Enc.Rd B w vs x) (ht : Enc.tot x ≤ 100000000) :
    Calls Tryz.prog 221 #[.agg vs.toArray] w (GivesO w x) := by
  obtain ⟨a0, c0, rfl, q0, hok⟩ := h
  have HT := Lib.hid (show x.Parts.length ≤ 100000000 ∧ True from by
    have : Enc.tot x = totL x.Parts := rfl
    have := totL_nonneg x.Parts; have := totL_len x.Parts
    refine ⟨?_, trivial⟩ <;> omega)
  have HT0 := Lib.hid ht; clear ht
  have HQ0 := Lib.hid q0; clear q0
  have HOK := Lib.hid hok; clear hok
  have S0 := Lib.hid ((Held.new w [.int .i64 x.File, .int .i64 x.Size, .int .i64 x.Check, .slice a0 x.Parts.length c0] 140 w.heap.size rfl).to (inferInstance : Grows _ ((w.alloc (.cells #[.int .i64 x.File, .int .i64 x.Size, .int .i64 x.Check, .slice a0 x.Parts.length c0] 140)).alloc (.cells #[.int .i64 0, .int .i64 0, .int .i64 0, .slice none 0 0] 140))))
  have R0 := Lib.hid ((Held.new (w.alloc (.cells #[.int .i64 x.File, .int .i64 x.Size, .int .i64 x.Check, .slice a0 x.Parts.length c0] 140)) [.int .i64 0, .int .i64 0, .int .i64 0, .slice none 0 0] 140 (w.heap.size + 1) (by simp)).to (inferInstance : Grows _ ((w.alloc (.cells #[.int .i64 x.File, .int .i64 x.Size, .int .i64 x.Check, .slice a0 x.Parts.length c0] 140)).alloc (.cells #[.int .i64 0, .int .i64 0, .int .i64 0, .slice none 0 0] 140))))
  go_enter Tryz.func221, Tryz.ntmps221
  go_wp2_with (first | (refine stepLoad1 rfl _ _ rfl w.heap.size 3 rfl (S0.out.to inferInstance) _ rfl _ Tryz.underlying32 rfl ?_))
  refine (o_cloneByteArray (HQ0.out.keep inferInstance) (HT.out.1)).mono ?_
  rintro _ _ ⟨na0, nc0, rfl, no0, y0, rfl⟩
  have O0 := Lib.hid no0; clear no0
  go_wp2_with (first | (refine stepStore2 rfl _ _ _ rfl (w.heap.size) 3 rfl (us := [.slice na0 x.Parts.length nc0]) (cs2 := [.int .i64 x.File, .int .i64 x.Size, .int .i64 x.Check, .slice na0 x.Parts.length nc0]) (S0.out.to inferInstance) rfl (by kernel_rfl) rfl (Nat.le_of_ble_eq_true rfl) (by kernel_rfl) (w0 := w) inferInstance (by simp) ?_; intro z1 h1 k1; have HZ1 := Lib.hid h1; clear h1; have K1 := Lib.hid k1; have RZ1 := Lib.hid ((R0.out.to inferInstance).but k1 (by omega)); clear k1; have e1 : LeN (w.heap.size + 2) z1.w.heap.size := ⟨RZ1.out.lt⟩; clear R0 S0) | (refine stepLoad rfl _ _ rfl (w.heap.size) 0 rfl (row := [.int .i64 x.File, .int .i64 x.Size, .int .i64 x.Check, .slice na0 x.Parts.length nc0]) (HZ1.out.to inferInstance) _ Tryz.underlying140 rfl (by kernel_rfl) (by kernel_rfl) ?_) | (refine stepStore2 rfl _ _ _ rfl (w.heap.size + 1) 0 rfl (us := [.int .i64 x.File, .int .i64 x.Size, .int .i64 x.Check, .slice na0 x.Parts.length nc0]) (cs2 := [.int .i64 x.File, .int .i64 x.Size, .int .i64 x.Check, .slice na0 x.Parts.length nc0]) (RZ1.out.to inferInstance) rfl (by kernel_rfl) rfl (Nat.le_of_ble_eq_true rfl) (by kernel_rfl) (w0 := w) inferInstance (by simp) ?_; intro zr hr kr; have HR := Lib.hid hr; clear hr; have KR := Lib.hid kr; clear kr))
  have GZ1 : Keeps (w.heap.size + 2) z1.w zr.w := KR.out.keeps (by omega)
  have GY0 : Keeps (w.heap.size + 2) y0.w zr.w := Keeps.trans (K1.out.keeps (by omega)) GZ1
  obtain ⟨D, hD⟩ : ∃ D : List (Nat × Nat × (Nat → Col)), D = [(y0.w.heap.size, 0, (fun _ => (0, 0)))] := ⟨_, rfl⟩
  have e0 : D[0]? = some (y0.w.heap.size, 0, (fun _ => (0, 0))) := by rw [hD]; rfl
  clear hD
  have P0 : ∀ b, pick D b = pick (D.drop 0) b := fun _ => rfl
  have C0 : ∀ b, ((w.alloc (.cells #[.int .i64 x.File, .int .i64 x.Size, .int .i64 x.Check, .slice a0 x.Parts.length c0] 140)).alloc (.cells #[.int .i64 0, .int .i64 0, .int .i64 0, .slice none 0 0] 140)).heap.size ≤ b → b < y0.w.heap.size → pick D b = shift 0 ((fun _ => (0, 0)) b) := fun b h1 h2 => (P0 b).trans (pick_hereD e0 h2)
  refine bodyPost_ret (v := .agg #[.int .i64 x.File, .int .i64 x.Size, .int .i64 x.Check, .slice na0 x.Parts.length nc0]) (results_cell (P := Tryz.prog) rfl rfl HR.out _ Tryz.underlying140 rfl (by kernel_rfl)) rfl ⟨[.int .i64 x.File, .int .i64 x.Size, .int .i64 x.Check, .slice na0 x.Parts.length nc0], pick D, rfl, ⟨na0, nc0, rfl, ⟨((((O0.out.re C0).mono (LeN.out (a := w.heap.size + 2))).keep GY0).mono (by omega)), HOK.out⟩⟩, Later.of⟩
theorem o_cloneFileOut {B : Nat} {vs : List Value} {x : TFileOut} {w : World} (h : Enc.Rd B w vs x) (ht : Enc.tot x ≤ 100000000) :
    Calls Tryz.prog 226 #[.agg vs.toArray] w (GivesO w x) := by
  obtain ⟨a0, c0, rfl, q0, hok⟩ := h
  have HT := Lib.hid (show x.Queue.length ≤ 100000000 ∧ True from by
    have : Enc.tot x = (x.Data.size : Int) + totL x.Queue := rfl
    have := totL_nonneg x.Queue; have := totL_len x.Queue
    refine ⟨?_, trivial⟩ <;> omega)
  have HT0 := Lib.hid ht; clear ht
  have HQ0 := Lib.hid q0; clear q0
  have HOK := Lib.hid hok; clear hok
  have S0 := Lib.hid ((Held.new w [.int .i64 x.File, .string x.Data, .slice a0 x.Queue.length c0, .bool x.Done] 143 w.heap.size rfl).to (inferInstance : Grows _ ((w.alloc (.cells #[.int .i64 x.File, .string x.Data, .slice a0 x.Queue.length c0, .bool x.Done] 143)).alloc (.cells #[.int .i64 0, .string ⟨#[]⟩, .slice none 0 0, .bool false] 143))))
  have R0 := Lib.hid ((Held.new (w.alloc (.cells #[.int .i64 x.File, .string x.Data, .slice a0 x.Queue.length c0, .bool x.Done] 143)) [.int .i64 0, .string ⟨#[]⟩, .slice none 0 0, .bool false] 143 (w.heap.size + 1) (by simp)).to (inferInstance : Grows _ ((w.alloc (.cells #[.int .i64 x.File, .string x.Data, .slice a0 x.Queue.length c0, .bool x.Done] 143)).alloc (.cells #[.int .i64 0, .string ⟨#[]⟩, .slice none 0 0, .bool false] 143))))
  go_enter Tryz.func226, Tryz.ntmps226
  go_wp2_with (first | (refine stepLoad1 rfl _ _ rfl w.heap.size 2 rfl (S0.out.to inferInstance) _ rfl _ Tryz.underlying48 rfl ?_))
  refine (o_cloneInt (HQ0.out.keep inferInstance) (HT.out.1)).mono ?_
  rintro _ _ ⟨na0, nc0, rfl, no0, y0, rfl⟩
  have O0 := Lib.hid no0; clear no0
  go_wp2_with (first | (refine stepStore2 rfl _ _ _ rfl (w.heap.size) 2 rfl (us := [.slice na0 x.Queue.length nc0]) (cs2 := [.int .i64 x.File, .string x.Data, .slice na0 x.Queue.length nc0, .bool x.Done]) (S0.out.to inferInstance) rfl (by kernel_rfl) rfl (Nat.le_of_ble_eq_true rfl) (by kernel_rfl) (w0 := w) inferInstance (by simp) ?_; intro z1 h1 k1; have HZ1 := Lib.hid h1; clear h1; have K1 := Lib.hid k1; have RZ1 := Lib.hid ((R0.out.to inferInstance).but k1 (by omega)); clear k1; have e1 : LeN (w.heap.size + 2) z1.w.heap.size := ⟨RZ1.out.lt⟩; clear R0 S0) | (refine stepLoad rfl _ _ rfl (w.heap.size) 0 rfl (row := [.int .i64 x.File, .string x.Data, .slice na0 x.Queue.length nc0, .bool x.Done]) (HZ1.out.to inferInstance) _ Tryz.underlying143 rfl (by kernel_rfl) (by kernel_rfl) ?_) | (refine stepStore2 rfl _ _ _ rfl (w.heap.size + 1) 0 rfl (us := [.int .i64 x.File, .string x.Data, .slice na0 x.Queue.length nc0, .bool x.Done]) (cs2 := [.int .i64 x.File, .string x.Data, .slice na0 x.Queue.length nc0, .bool x.Done]) (RZ1.out.to inferInstance) rfl (by kernel_rfl) rfl (Nat.le_of_ble_eq_true rfl) (by kernel_rfl) (w0 := w) inferInstance (by simp) ?_; intro zr hr kr; have HR := Lib.hid hr; clear hr; have KR := Lib.hid kr; clear kr))
  have GZ1 : Keeps (w.heap.size + 2) z1.w zr.w := KR.out.keeps (by omega)
  have GY0 : Keeps (w.heap.size + 2) y0.w zr.w := Keeps.trans (K1.out.keeps (by omega)) GZ1
  obtain ⟨D, hD⟩ : ∃ D : List (Nat × Nat × (Nat → Col)), D = [(y0.w.heap.size, 0, (fun _ => (0, 0)))] := ⟨_, rfl⟩
  have e0 : D[0]? = some (y0.w.heap.size, 0, (fun _ => (0, 0))) := by rw [hD]; rfl
  clear hD
  have P0 : ∀ b, pick D b = pick (D.drop 0) b := fun _ => rfl
  have C0 : ∀ b, ((w.alloc (.cells #[.int .i64 x.File, .string x.Data, .slice a0 x.Queue.length c0, .bool x.Done] 143)).alloc (.cells #[.int .i64 0, .string ⟨#[]⟩, .slice none 0 0, .bool false] 143)).heap.size ≤ b → b < y0.w.heap.size → pick D b = shift 0 ((fun _ => (0, 0)) b) := fun b h1 h2 => (P0 b).trans (pick_hereD e0 h2)
  refine bodyPost_ret (v := .agg #[.int .i64 x.File, .string x.Data, .slice na0 x.Queue.length nc0, .bool x.Done]) (results_cell (P := Tryz.prog) rfl rfl HR.out _ Tryz.underlying143 rfl (by kernel_rfl)) rfl ⟨[.int .i64 x.File, .string x.Data, .slice na0 x.Queue.length nc0, .bool x.Done], pick D, rfl, ⟨na0, nc0, rfl, ⟨((((O0.out.re C0).mono (LeN.out (a := w.heap.size + 2))).keep GY0).mono (by omega)), HOK.out⟩⟩, Later.of⟩
set_option maxRecDepth 100000 in
set_option maxHeartbeats 2000000 in
theorem o_cloneBoard {B : Nat} {vs : List Value} {x : TBoard} {w : World} (h : Enc.Rd B w vs x) (ht : Enc.tot x ≤ 100000000) :
    Calls Tryz.prog 223 #[.agg vs.toArray] w (GivesO w x) := by
  obtain ⟨A, rfl, F⟩ := h
  have HT := Lib.hid (show x.Params.length ≤ 100000000 ∧ x.Limits.length ≤ 100000000 ∧ x.Orders.length ≤ 100000000 ∧ x.Done.length ≤ 100000000 ∧ Enc.tot x.Recorder ≤ 100000000 ∧ x.Asked.length ≤ 100000000 ∧ True from by
    have : Enc.tot x = totL x.Params + totL x.Limits + totL x.Orders + totL x.Done + Enc.tot x.Recorder + totL x.Asked := rfl
    have := totL_nonneg x.Params; have := totL_len x.Params
    have := totL_nonneg x.Limits; have := totL_len x.Limits
    have := totL_nonneg x.Orders; have := totL_len x.Orders
    have := totL_nonneg x.Done; have := totL_len x.Done
    have := Enc.tot_nonneg x.Recorder
    have : Enc.tot x.Recorder = totL x.Recorder.Records + totL x.Recorder.Dropped := rfl
    have := totL_nonneg x.Recorder.Records; have := totL_len x.Recorder.Records
    have := totL_nonneg x.Recorder.Dropped; have := totL_len x.Recorder.Dropped
    have := totL_nonneg x.Asked; have := totL_len x.Asked
    refine ⟨?_, ?_, ?_, ?_, ?_, ?_, trivial⟩ <;> omega)
  have HT0 := Lib.hid ht; clear ht
  have HFF := Lib.hid F; clear F
  have S0 := Lib.hid ((Held.new w (cBoard x A.a0 A.c0 A.a1 A.c1 A.a2 A.c2 A.a3 A.c3 A.a4 A.c4 A.a5 A.c5 A.a6 A.c6) 55 w.heap.size rfl).to (inferInstance : Grows _ ((w.alloc (.cells (cBoard x A.a0 A.c0 A.a1 A.c1 A.a2 A.c2 A.a3 A.c3 A.a4 A.c4 A.a5 A.c5 A.a6 A.c6).toArray 55)).alloc (.cells zBoard.toArray 55))))
  have R0 := Lib.hid ((Held.new (w.alloc (.cells (cBoard x A.a0 A.c0 A.a1 A.c1 A.a2 A.c2 A.a3 A.c3 A.a4 A.c4 A.a5 A.c5 A.a6 A.c6).toArray 55)) zBoard 55 (w.heap.size + 1) (by simp)).to (inferInstance : Grows _ ((w.alloc (.cells (cBoard x A.a0 A.c0 A.a1 A.c1 A.a2 A.c2 A.a3 A.c3 A.a4 A.c4 A.a5 A.c5 A.a6 A.c6).toArray 55)).alloc (.cells zBoard.toArray 55))))
  go_enter Tryz.func223, Tryz.ntmps223
  go_wp2_with (first | (refine stepLoad1 rfl _ _ rfl w.heap.size 1 rfl (S0.out.to inferInstance) _ rfl _ Tryz.underlying48 rfl ?_))
  refine (o_cloneInt (HFF.out.q0.keep inferInstance) (HT.out.1)).mono ?_
  rintro _ _ ⟨na0, nc0, rfl, no0, y0, rfl⟩
  have O0 := Lib.hid no0; clear no0
  go_wp2_with (first | (refine stepStore2 rfl _ _ _ rfl (w.heap.size) 1 rfl (us := [.slice na0 x.Params.length nc0]) (cs2 := (cBoard x na0 nc0 A.a1 A.c1 A.a2 A.c2 A.a3 A.c3 A.a4 A.c4 A.a5 A.c5 A.a6 A.c6)) (S0.out.to inferInstance) rfl (by kernel_rfl) rfl (Nat.le_of_ble_eq_true rfl) (by kernel_rfl) (w0 := w) inferInstance (by simp) ?_; intro z1 h1 k1; have HZ1 := Lib.hid h1; clear h1; have K1 := Lib.hid k1; have RZ1 := Lib.hid ((R0.out.to inferInstance).but k1 (by omega)); clear k1; have e1 : LeN (w.heap.size + 2) z1.w.heap.size := ⟨RZ1.out.lt⟩; clear R0 S0) | (refine stepLoad1 rfl _ _ rfl w.heap.size 3 rfl (HZ1.out.to inferInstance) _ rfl _ Tryz.underlying49 rfl ?_))
  refine (o_cloneTLimit (HFF.out.q1.keep inferInstance) (HT.out.2.1)).mono ?_
  rintro _ _ ⟨na1, nc1, rfl, no1, y1, rfl⟩
  have O1 := Lib.hid no1; clear no1
  go_wp2_with (first | (refine stepStore2 rfl _ _ _ rfl (w.heap.size) 3 rfl (us := [.slice na1 x.Limits.length nc1]) (cs2 := (cBoard x na0 nc0 na1 nc1 A.a2 A.c2 A.a3 A.c3 A.a4 A.c4 A.a5 A.c5 A.a6 A.c6)) (HZ1.out.to inferInstance) rfl (by kernel_rfl) rfl (Nat.le_of_ble_eq_true rfl) (by kernel_rfl) (w0 := w) inferInstance (by simp) ?_; intro z2 h2 k2; have HZ2 := Lib.hid h2; clear h2; have K2 := Lib.hid k2; have RZ2 := Lib.hid ((RZ1.out.to inferInstance).but k2 (by omega)); clear k2; have e2 : LeN (w.heap.size + 2) z2.w.heap.size := ⟨RZ2.out.lt⟩; clear HZ1 RZ1) | (refine stepLoad1 rfl _ _ rfl w.heap.size 4 rfl (HZ2.out.to inferInstance) _ rfl _ Tryz.underlying50 rfl ?_))
  refine (o_cloneTWaiting (HFF.out.q2.keep inferInstance) (HT.out.2.2.1)).mono ?_
  rintro _ _ ⟨na2, nc2, rfl, no2, y2, rfl⟩
  have O2 := Lib.hid no2; clear no2
  go_wp2_with (first | (refine stepStore2 rfl _ _ _ rfl (w.heap.size) 4 rfl (us := [.slice na2 x.Orders.length nc2]) (cs2 := (cBoard x na0 nc0 na1 nc1 na2 nc2 A.a3 A.c3 A.a4 A.c4 A.a5 A.c5 A.a6 A.c6)) (HZ2.out.to inferInstance) rfl (by kernel_rfl) rfl (Nat.le_of_ble_eq_true rfl) (by kernel_rfl) (w0 := w) inferInstance (by simp) ?_; intro z3 h3 k3; have HZ3 := Lib.hid h3; clear h3; have K3 := Lib.hid k3; have RZ3 := Lib.hid ((RZ2.out.to inferInstance).but k3 (by omega)); clear k3; have e3 : LeN (w.heap.size + 2) z3.w.heap.size := ⟨RZ3.out.lt⟩; clear HZ2 RZ2) | (refine stepLoad1 rfl _ _ rfl w.heap.size 5 rfl (HZ3.out.to inferInstance) _ rfl _ Tryz.underlying51 rfl ?_))
  refine (o_cloneTDone (HFF.out.q3.keep inferInstance) (HT.out.2.2.2.1)).mono ?_
  rintro _ _ ⟨na3, nc3, rfl, no3, y3, rfl⟩
  have O3 := Lib.hid no3; clear no3
  go_wp2_with (first | (refine stepStore2 rfl _ _ _ rfl (w.heap.size) 5 rfl (us := [.slice na3 x.Done.length nc3]) (cs2 := (cBoard x na0 nc0 na1 nc1 na2 nc2 na3 nc3 A.a4 A.c4 A.a5 A.c5 A.a6 A.c6)) (HZ3.out.to inferInstance) rfl (by kernel_rfl) rfl (Nat.le_of_ble_eq_true rfl) (by kernel_rfl) (w0 := w) inferInstance (by simp) ?_; intro z4 h4 k4; have HZ4 := Lib.hid h4; clear h4; have K4 := Lib.hid k4; have RZ4 := Lib.hid ((RZ3.out.to inferInstance).but k4 (by omega)); clear k4; have e4 : LeN (w.heap.size + 2) z4.w.heap.size := ⟨RZ4.out.lt⟩; clear HZ3 RZ3) | (refine stepLoad rfl _ _ rfl w.heap.size 6 rfl (row := [.int .i64 x.Recorder.Room, .slice A.a4 x.Recorder.Records.length A.c4, .slice A.a5 x.Recorder.Dropped.length A.c5]) (HZ4.out.to inferInstance) _ Tryz.underlying53 rfl (by kernel_rfl) (by kernel_rfl) ?_))
  refine (o_cloneRecorder (x := x.Recorder) ⟨A.a4, A.c4, A.a5, A.c5, rfl, HFF.out.q4.keep inferInstance, HFF.out.q5.keep inferInstance, HFF.out.ok.2.1⟩ (HT.out.2.2.2.2.1)).mono ?_
  rintro _ _ ⟨_, ch4, rfl, ⟨b4a0, b4c0, b4a1, b4c1, rfl, no4⟩, y4, rfl⟩
  have O4 := Lib.hid no4; clear no4
  go_wp2_with (first | (refine stepStore2 rfl _ _ _ rfl (w.heap.size) 6 rfl (us := [.int .i64 x.Recorder.Room, .slice b4a0 x.Recorder.Records.length b4c0, .slice b4a1 x.Recorder.Dropped.length b4c1]) (cs2 := (cBoard x na0 nc0 na1 nc1 na2 nc2 na3 nc3 b4a0 b4c0 b4a1 b4c1 A.a6 A.c6)) (HZ4.out.to inferInstance) rfl (by kernel_rfl) rfl (Nat.le_of_ble_eq_true rfl) (by kernel_rfl) (w0 := w) inferInstance (by simp) ?_; intro z5 h5 k5; have HZ5 := Lib.hid h5; clear h5; have K5 := Lib.hid k5; have RZ5 := Lib.hid ((RZ4.out.to inferInstance).but k5 (by omega)); clear k5; have e5 : LeN (w.heap.size + 2) z5.w.heap.size := ⟨RZ5.out.lt⟩; clear HZ4 RZ4) | (refine stepLoad1 rfl _ _ rfl w.heap.size 11 rfl (HZ5.out.to inferInstance) _ rfl _ Tryz.underlying48 rfl ?_))
  refine (o_cloneInt (HFF.out.q6.keep inferInstance) (HT.out.2.2.2.2.2.1)).mono ?_
  rintro _ _ ⟨na6, nc6, rfl, no6, y5, rfl⟩
  have O5 := Lib.hid no6; clear no6
  go_wp2_with (first | (refine stepStore2 rfl _ _ _ rfl (w.heap.size) 11 rfl (us := [.slice na6 x.Asked.length nc6]) (cs2 := (cBoard x na0 nc0 na1 nc1 na2 nc2 na3 nc3 b4a0 b4c0 b4a1 b4c1 na6 nc6)) (HZ5.out.to inferInstance) rfl (by kernel_rfl) rfl (Nat.le_of_ble_eq_true rfl) (by kernel_rfl) (w0 := w) inferInstance (by simp) ?_; intro z6 h6 k6; have HZ6 := Lib.hid h6; clear h6; have K6 := Lib.hid k6; have RZ6 := Lib.hid ((RZ5.out.to inferInstance).but k6 (by omega)); clear k6; have e6 : LeN (w.heap.size + 2) z6.w.heap.size := ⟨RZ6.out.lt⟩; clear HZ5 RZ5) | (refine stepLoad rfl _ _ rfl (w.heap.size) 0 rfl (row := (cBoard x na0 nc0 na1 nc1 na2 nc2 na3 nc3 b4a0 b4c0 b4a1 b4c1 na6 nc6)) (HZ6.out.to inferInstance) _ Tryz.underlying55 rfl (by kernel_rfl) (by kernel_rfl) ?_) | (refine stepStore2 rfl _ _ _ rfl (w.heap.size + 1) 0 rfl (us := (cBoard x na0 nc0 na1 nc1 na2 nc2 na3 nc3 b4a0 b4c0 b4a1 b4c1 na6 nc6)) (cs2 := (cBoard x na0 nc0 na1 nc1 na2 nc2 na3 nc3 b4a0 b4c0 b4a1 b4c1 na6 nc6)) (RZ6.out.to inferInstance) rfl (by kernel_rfl) rfl (Nat.le_of_ble_eq_true rfl) (by kernel_rfl) (w0 := w) inferInstance (by simp) ?_; intro zr hr kr; have HR := Lib.hid hr; clear hr; have KR := Lib.hid kr; clear kr))
  have GZ6 : Keeps (w.heap.size + 2) z6.w zr.w := KR.out.keeps (by omega)
  have GY5 : Keeps (w.heap.size + 2) y5.w zr.w := Keeps.trans (K6.out.keeps (by omega)) GZ6
  have GZ5 : Keeps (w.heap.size + 2) z5.w zr.w := Keeps.trans (inferInstance : Keeps (w.heap.size + 2) z5.w y5.w) GY5
  have GY4 : Keeps (w.heap.size + 2) y4.w zr.w := Keeps.trans (K5.out.keeps (by omega)) GZ5
  have GZ4 : Keeps (w.heap.size + 2) z4.w zr.w := Keeps.trans (inferInstance : Keeps (w.heap.size + 2) z4.w y4.w) GY4
  have GY3 : Keeps (w.heap.size + 2) y3.w zr.w := Keeps.trans (K4.out.keeps (by omega)) GZ4
  have GZ3 : Keeps (w.heap.size + 2) z3.w zr.w := Keeps.trans (inferInstance : Keeps (w.heap.size + 2) z3.w y3.w) GY3
  have GY2 : Keeps (w.heap.size + 2) y2.w zr.w := Keeps.trans (K3.out.keeps (by omega)) GZ3
  have GZ2 : Keeps (w.heap.size + 2) z2.w zr.w := Keeps.trans (inferInstance : Keeps (w.heap.size + 2) z2.w y2.w) GY2
  have GY1 : Keeps (w.heap.size + 2) y1.w zr.w := Keeps.trans (K2.out.keeps (by omega)) GZ2
  have GZ1 : Keeps (w.heap.size + 2) z1.w zr.w := Keeps.trans (inferInstance : Keeps (w.heap.size + 2) z1.w y1.w) GY1
  have GY0 : Keeps (w.heap.size + 2) y0.w zr.w := Keeps.trans (K1.out.keeps (by omega)) GZ1
  obtain ⟨D, hD⟩ : ∃ D : List (Nat × Nat × (Nat → Col)), D = [(y0.w.heap.size, 0, (fun _ => (0, 0))), (y1.w.heap.size, 1, (fun _ => (0, 0))), (y2.w.heap.size, 2, (fun _ => (0, 0))), (y3.w.heap.size, 3, (fun _ => (0, 0))), (y4.w.heap.size, 4, ch4), (y5.w.heap.size, 6, (fun _ => (0, 0)))] := ⟨_, rfl⟩
  have e0 : D[0]? = some (y0.w.heap.size, 0, (fun _ => (0, 0))) := by rw [hD]; rfl
  have e1 : D[1]? = some (y1.w.heap.size, 1, (fun _ => (0, 0))) := by rw [hD]; rfl
  have e2 : D[2]? = some (y2.w.heap.size, 2, (fun _ => (0, 0))) := by rw [hD]; rfl
  have e3 : D[3]? = some (y3.w.heap.size, 3, (fun _ => (0, 0))) := by rw [hD]; rfl
  have e4 : D[4]? = some (y4.w.heap.size, 4, ch4) := by rw [hD]; rfl
  have e5 : D[5]? = some (y5.w.heap.size, 6, (fun _ => (0, 0))) := by rw [hD]; rfl
  clear hD
  have P0 : ∀ b, pick D b = pick (D.drop 0) b := fun _ => rfl
  have C0 : ∀ b, ((w.alloc (.cells (cBoard x A.a0 A.c0 A.a1 A.c1 A.a2 A.c2 A.a3 A.c3 A.a4 A.c4 A.a5 A.c5 A.a6 A.c6).toArray 55)).alloc (.cells zBoard.toArray 55)).heap.size ≤ b → b < y0.w.heap.size → pick D b = shift 0 ((fun _ => (0, 0)) b) := fun b h1 h2 => (P0 b).trans (pick_hereD e0 h2)
  have P1 : ∀ b, y0.w.heap.size ≤ b → pick D b = pick (D.drop 1) b := fun b hb => (P0 b).trans (pick_skipD e0 hb)
  have C1 : ∀ b, z1.w.heap.size ≤ b → b < y1.w.heap.size → pick D b = shift 1 ((fun _ => (0, 0)) b) := fun b h1 h2 => (P1 b (Nat.le_trans K1.out.size h1)).trans (pick_hereD e1 h2)
  have P2 : ∀ b, y1.w.heap.size ≤ b → pick D b = pick (D.drop 2) b := fun b hb => (P1 b (Nat.le_trans (Nat.le_trans K1.out.size y1.size_le) hb)).trans (pick_skipD e1 hb)
  have C2 : ∀ b, z2.w.heap.size ≤ b → b < y2.w.heap.size → pick D b = shift 2 ((fun _ => (0, 0)) b) := fun b h1 h2 => (P2 b (Nat.le_trans K2.out.size h1)).trans (pick_hereD e2 h2)
  have P3 : ∀ b, y2.w.heap.size ≤ b → pick D b = pick (D.drop 3) b := fun b hb => (P2 b (Nat.le_trans (Nat.le_trans K2.out.size y2.size_le) hb)).trans (pick_skipD e2 hb)
  have C3 : ∀ b, z3.w.heap.size ≤ b → b < y3.w.heap.size → pick D b = shift 3 ((fun _ => (0, 0)) b) := fun b h1 h2 => (P3 b (Nat.le_trans K3.out.size h1)).trans (pick_hereD e3 h2)
  have P4 : ∀ b, y3.w.heap.size ≤ b → pick D b = pick (D.drop 4) b := fun b hb => (P3 b (Nat.le_trans (Nat.le_trans K3.out.size y3.size_le) hb)).trans (pick_skipD e3 hb)
  have C4 : ∀ b, z4.w.heap.size ≤ b → b < y4.w.heap.size → pick D b = shift 4 (ch4 b) := fun b h1 h2 => (P4 b (Nat.le_trans K4.out.size h1)).trans (pick_hereD e4 h2)
  have P5 : ∀ b, y4.w.heap.size ≤ b → pick D b = pick (D.drop 5) b := fun b hb => (P4 b (Nat.le_trans (Nat.le_trans K4.out.size y4.size_le) hb)).trans (pick_skipD e4 hb)
  have C5 : ∀ b, z5.w.heap.size ≤ b → b < y5.w.heap.size → pick D b = shift 6 ((fun _ => (0, 0)) b) := fun b h1 h2 => (P5 b (Nat.le_trans K5.out.size h1)).trans (pick_hereD e5 h2)
  have Q4 := Lib.hid ((((O4.out.re C4).mono (LeN.out (a := w.heap.size + 2))).keep GY4).mono (B2 := w.heap.size) (by omega))
  refine bodyPost_ret (v := .agg (cBoard x na0 nc0 na1 nc1 na2 nc2 na3 nc3 b4a0 b4c0 b4a1 b4c1 na6 nc6).toArray) (results_cell (P := Tryz.prog) rfl rfl HR.out _ Tryz.underlying55 rfl (by kernel_rfl)) rfl ⟨(cBoard x na0 nc0 na1 nc1 na2 nc2 na3 nc3 b4a0 b4c0 b4a1 b4c1 na6 nc6), pick D, rfl, ⟨⟨na0, nc0, na1, nc1, na2, nc2, na3, nc3, b4a0, b4c0, b4a1, b4c1, na6, nc6⟩, rfl, ⟨((((O0.out.re C0).mono (LeN.out (a := w.heap.size + 2))).keep GY0).mono (by omega)), ((((O1.out.re C1).mono (LeN.out (a := w.heap.size + 2))).keep GY1).mono (by omega)), ((((O2.out.re C2).mono (LeN.out (a := w.heap.size + 2))).keep GY2).mono (by omega)), ((((O3.out.re C3).mono (LeN.out (a := w.heap.size + 2))).keep GY3).mono (by omega)), Q4.out.o0, Q4.out.o1, ((((O5.out.re C5).mono (LeN.out (a := w.heap.size + 2))).keep GY5).mono (by omega)), HFF.out.ok⟩⟩, Later.of⟩
end Go.Proofs.YtbaffippdifbpaaGreat
namespace Go.Proofs.YtbaffippdifbpaaGreat
set_option linter.unusedVariables false
open Go.ChangeShapes Go.WideShapes Go.ChangeAt Go.RowKit
theorem encN_one {α β : Type} [N : Nest α β] (r : NRow α) : ∀ u ∈ encN r, u.oneCell' = true := N.one _ _ _
class NestInv (α : Type) {β : Type} [N : Nest α β] [F : Flat β] : Prop where
  inv : ∀ {B w vs x}, N.Rd B w vs x → ∃ a c, vs = N.cells x a c ∧ N.good x ∧ RdS B w a c (N.inner x)
section
variable {α β : Type} [N : Nest α β] [F : Flat β]
theorem RdS.rows [I : NestInv α] {B : Nat} {w : World} {a : Option Addr} {c : Nat} {l : List α} (h : RdS B w a c l) : ∃ rows : List (NRow α), rows.length = l.length ∧ rows.map (·.x) = l ∧ Sl (encN (α := α)) w a rows ∧ ∀ (i : Nat) (r : NRow α), rows[i]? = some r → N.good r.x ∧ RdS B w r.a r.c (N.inner r.x) := by
  have hp : ∀ i, i < l.length → ∃ r : NRow α, some r.x = l[i]? ∧ (∃ b off, a = some ⟨b, off, none⟩ ∧ b < w.heap.size ∧ ∀ (j : Nat) (v : Value), (encN r)[j]? = some v → w.cell? ⟨b, off + i * (encN r).length + j, none⟩ = some v) ∧ N.good r.x ∧ RdS B w r.a r.c (N.inner r.x) := fun i hi => by
    obtain ⟨b, off, vs, h0, -, h2, h3, h4⟩ := h.2.2.2 i l[i] (List.getElem?_eq_getElem hi)
    obtain ⟨a1, c1, rfl, h5, h6⟩ := I.inv h3
    exact ⟨⟨l[i], a1, c1⟩, (List.getElem?_eq_getElem hi).symm, ⟨b, off, h0, h2, fun j v hv => by rw [encN_len]; exact h4 j v hv⟩, h5, h6⟩
  have key : ∀ n, (∀ i, i < n → ∃ r : NRow α, some r.x = l[i]? ∧ (∃ b off, a = some ⟨b, off, none⟩ ∧ b < w.heap.size ∧ ∀ (j : Nat) (v : Value), (encN r)[j]? = some v → w.cell? ⟨b, off + i * (encN r).length + j, none⟩ = some v) ∧ N.good r.x ∧ RdS B w r.a r.c (N.inner r.x)) →
      ∃ rows : List (NRow α), rows.length = n ∧ ∀ (i : Nat) (r : NRow α), rows[i]? = some r → some r.x = l[i]? ∧ (∃ b off, a = some ⟨b, off, none⟩ ∧ b < w.heap.size ∧ ∀ (j : Nat) (v : Value), (encN r)[j]? = some v → w.cell? ⟨b, off + i * (encN r).length + j, none⟩ = some v) ∧ N.good r.x ∧ RdS B w r.a r.c (N.inner r.x) := by
    intro n
    induction n with
    | zero => exact fun _ => ⟨[], rfl, fun i r h => by simp at h⟩
    | succ n ih =>
      intro hq
      obtain ⟨rows, h1, h2⟩ := ih (fun i hi => hq i (by omega))
      obtain ⟨r, h3⟩ := hq n (by omega)
      refine ⟨rows ++ [r], by simp [h1], fun i s hs => ?_⟩
      by_cases hi : i < n
      · exact h2 i s (by rwa [List.getElem?_append_left (by omega)] at hs)
      · have hlt := (List.getElem?_eq_some_iff.1 hs).1
        simp at hlt
        obtain rfl : i = n := by omega
        rw [List.getElem?_append_right (by omega)] at hs
        simp [h1] at hs
        subst hs; exact h3
  obtain ⟨rows, h1, h2⟩ := key l.length hp
  refine ⟨rows, h1, ?_, fun i r hr => (h2 i r hr).2.1, fun i r hr => (h2 i r hr).2.2⟩
  refine List.ext_getElem? fun i => ?_
  rw [List.getElem?_map]
  cases hr : rows[i]? with
  | none => rw [Option.map_none]; exact (List.getElem?_eq_none_iff.2 (by rw [← h1]; exact List.getElem?_eq_none_iff.1 hr)).symm
  | some r => exact (h2 i r hr).1
structure NPart (B : Nat) (χ : Nat → Col) (w : World) (a : Option Addr) (c : Nat) (rows0 rows : List (NRow α)) (k : Nat) : Prop where
  own : Own (encN (α := α)) N.ty N.size B w a c rows
  col : ∀ b, blkOf a = some b → χ b = (0, 0)
  done : ∀ i r, i < k → rows[i]? = some r → N.good r.x ∧ OwnC B χ (0, i + 1) w r.a r.c (N.inner r.x)
  left : ∀ i, k ≤ i → rows[i]? = rows0[i]?
  xs : rows.map (·.x) = rows0.map (·.x)
variable {B k : Nat} {χ χ2 : Nat → Col} {w W1 W2 Z : World} {a ra : Option Addr} {c rc : Nat} {rows0 rows : List (NRow α)} {x : α}
theorem NPart.start (h : Own (encN (α := α)) N.ty N.size B w a c rows) : NPart B (fun _ => (0, 0)) w a c rows rows 0 := ⟨h, fun _ _ => rfl, fun i r h => by omega, fun _ _ => rfl, rfl⟩
theorem NPart.but {b : Nat} {w' : World} (h : NPart B χ w a c rows0 rows k) (g : But b w w') (hb : b < B) : NPart B χ w' a c rows0 rows k :=
  ⟨h.own.same (fun q _ h1 h2 => g.block q (by omega) h2), h.col, fun i r hi hr => ⟨(h.done i r hi hr).1, (h.done i r hi hr).2.keep (g.keeps hb)⟩, h.left, h.xs⟩
theorem NPart.len (h : NPart B χ w a c rows0 rows k) : rows.length = rows0.length := by have := congrArg List.length h.xs; simpa using this
theorem NPart.step (h : NPart B χ w a c rows0 rows k) (g : Grows w W1) (hB : B ≤ W1.heap.size) {i0 : Col} (hi : OwnC W1.heap.size χ2 i0 W2 ra rc (N.inner x)) (g2 : Grows W1 W2) {r0 : NRow α} (h0 : rows0[k]? = some r0) (hx : r0.x = x) (hgd : N.good x)
    (hown : Own (encN (α := α)) N.ty N.size B Z a c (rows.set k ⟨x, ra, rc⟩)) (hg : W2.grownBy Z (blkOf a)) : NPart B (paint W1.heap.size χ χ2 (fun _ => (0, k + 1))) Z a c rows0 (rows.set k ⟨x, ra, rc⟩) (k + 1) := by
  have hblk := h.own.blk
  have hcol : ∀ b, blkOf a = some b → paint W1.heap.size χ χ2 (fun _ => (0, k + 1)) b = (0, 0) := fun b hb => by
    rw [paint, if_pos (Nat.lt_of_lt_of_le (hblk b hb).2 g.out.size)]; exact h.col b hb
  have hfr : Fr B (paint W1.heap.size χ χ2 (fun _ => (0, k + 1))) (· = (0, 0)) W2 Z := ⟨hg.os, hg.tape, hg.output, hg.size, fun b h2 h3 => hg.block b h2 (fun e => h3 ⟨(hblk b e.symm).1, hcol b e.symm⟩)⟩
  have hk : k < rows.length := by rw [h.len]; exact (List.getElem?_eq_some_iff.1 h0).1
  refine ⟨hown, hcol, fun i r hik hr => ?_, fun i hik => ?_, ?_⟩
  · by_cases hi2 : i < k
    · rw [List.getElem?_set_ne (by omega)] at hr
      obtain ⟨h1, h2⟩ := h.done i r hi2 hr
      refine ⟨h1, ((h2.old g.out.size).to ⟨g.out.trans (g2.out.mono g.out.size)⟩).fr hfr ?_⟩
      intro e; simp at e
    · obtain rfl : i = k := by omega
      rw [List.getElem?_set_self hk] at hr
      cases hr
      refine ⟨hgd, ((hi.new (B := W1.heap.size) (Nat.le_refl _)).mono hB).fr hfr ?_⟩
      intro e; simp at e
  · rw [List.getElem?_set_ne (by omega)]; exact h.left i (by omega)
  · rw [← h.xs]
    refine List.ext_getElem? fun i => ?_
    rw [List.getElem?_map, List.getElem?_map, List.getElem?_set]
    split
    · rename_i e
      subst e
      have := h.left k (Nat.le_refl _)
      rw [h0] at this
      first | (rw [if_pos hk, this]; simp [hx]) | (rw [this]; simp [hx])
    · rfl
theorem NPart.fin (h : NPart B χ w a c rows0 rows k) (hk : rows.length ≤ k) : OwnN B χ 0 w a c rows := ⟨h.own, h.col, fun i r hr => h.done i r (by have := (List.getElem?_eq_some_iff.1 hr).1; omega) hr⟩
def grown (U V : Nat) (χ : Nat → Col) (n : Nat) : Nat → Col := paint U χ (paint V (fun _ => (0, n)) (fun _ => (0, 0)) id) id
theorem OwnN.grow {χ2 : Nat → Col} {W2 : World} {ra : Option Addr} {rc : Nat} {x : α} (h : OwnN B χ 0 w a c rows) (g : Grows w W1) (hB : B ≤ W1.heap.size) {i0 : Col} (hi : OwnC W1.heap.size χ2 i0 W2 ra rc (N.inner x)) (g2 : Grows W1 W2) (hgd : N.good x) {a' : Option Addr} {c' : Nat} {W3 : World} (g3 : Grows W2 W3)
    (hown : Own (encN (α := α)) N.ty N.size B Z a' c' (rows ++ [⟨x, ra, rc⟩])) (hg : W3.grownBy Z (blkOf a)) (hb : blkOf a' = blkOf a ∨ blkOf a' = some W3.heap.size) :
    OwnN B (grown W1.heap.size W3.heap.size χ (rows.length + 1)) 0 Z a' c' (rows ++ [⟨x, ra, rc⟩]) := by
  have hblk := h.own.blk
  have l1 := g.out.size
  have l2 := g2.out.size
  have l3 := g3.out.size
  have hcol : ∀ b, blkOf a = some b → grown W1.heap.size W3.heap.size χ (rows.length + 1) b = (0, 0) := fun b hb => by
    have := (hblk b hb).2
    rw [grown, paint, if_pos (by omega)]; exact h.col b hb
  have hfr : Fr B (grown W1.heap.size W3.heap.size χ (rows.length + 1)) (· = (0, 0)) W3 Z := ⟨hg.os, hg.tape, hg.output, hg.size, fun b h2 h3 => hg.block b h2 (fun e => h3 ⟨(hblk b e.symm).1, hcol b e.symm⟩)⟩
  refine ⟨hown, fun k hk => ?_, fun i r hr => ?_⟩
  · rcases hb with hb | hb
    · exact hcol k (by rw [← hb]; exact hk)
    · rw [hb] at hk
      cases hk
      rw [grown, paint, if_neg (by omega), paint, if_neg (by omega)]; rfl
  · by_cases hi2 : i < rows.length
    · rw [List.getElem?_append_left hi2] at hr
      obtain ⟨h1, h2⟩ := h.each i r hr
      refine ⟨h1, ((h2.old l1).to ⟨g.out.trans ((g2.out.trans (g3.out.mono l2)).mono l1)⟩).fr hfr ?_⟩
      intro e; simp at e
    · have hlt := (List.getElem?_eq_some_iff.1 hr).1
      simp at hlt
      obtain rfl : i = rows.length := by omega
      rw [List.getElem?_append_right (Nat.le_refl _)] at hr
      simp at hr
      subst hr
      refine ⟨hgd, (((hi.recol (χ' := grown W1.heap.size W3.heap.size χ (rows.length + 1)) (i' := (0, rows.length + 1)) (fun k h1 h2 _ => ?_)).mono hB).to g3).fr hfr ?_⟩
      · rw [grown, paint, if_neg (by omega), paint, if_pos (by omega)]; rfl
      · intro e; simp at e
end
instance NestInv.iTFileIn : NestInv TFileIn where
  inv := by rintro _ _ _ _ ⟨a0, c0, rfl, q0, hok⟩; exact ⟨a0, c0, rfl, hok, q0⟩
theorem Sl.nFileIn {w : World} {a : Option Addr} {l : List (NRow TFileIn)} (h : Sl (encN (α := TFileIn)) w a l) {k : Nat} (hk : k < l.length) :
    ∃ b off r, a = some ⟨b, off, none⟩ ∧ LtN b w.heap.size ∧ Hid (l.drop k = r :: l.drop (k + 1)) ∧ (∀ (W : World) [Grows w W], W.cell? ⟨b, off + k * 4, none⟩ = some (.int .i64 r.x.File)) ∧ (∀ (W : World) [Grows w W], W.cell? ⟨b, off + k * 4 + 1, none⟩ = some (.int .i64 r.x.Size)) ∧ (∀ (W : World) [Grows w W], W.cell? ⟨b, off + k * 4 + 2, none⟩ = some (.int .i64 r.x.Check)) ∧ (∀ (W : World) [Grows w W], W.cell? ⟨b, off + k * 4 + 3, none⟩ = some (.slice r.a r.x.Parts.length r.c)) := by
  obtain ⟨r, hs, hd⟩ := drop_at hk
  obtain ⟨b, off, ha, hb, hc⟩ := h k r hs
  exact ⟨b, off, r, ha, ⟨hb⟩, hd, cell_grown hb (hc 0 _ rfl), cell_grown hb (hc 1 _ rfl), cell_grown hb (hc 2 _ rfl), cell_grown hb (hc 3 _ rfl)⟩
theorem c_cloneNTFileIn {a : Option Addr} {n c : Nat} {l : List (NRow TFileIn)} {w : World} (hs : Sl (encN (α := TFileIn)) w a l) (hn : l.length = n) (hm : n ≤ 100000000) :
    Calls Tryz.prog 220 #[.slice a n c] w (GivesSl (encN (α := TFileIn)) 140 4 w l) := by
  cases a with
  | none =>
    have hl : l = [] := by
      cases l with
      | nil => rfl
      | cons y r => obtain ⟨b, off, h0, -⟩ := hs 0 y rfl; cases h0
    have hq := fun (w : World) => run_eql_slice_nil (P := Tryz.prog) w 42 140 none n c Tryz.underlying42
    simp only [Option.isNone] at hq
    have HL := Lib.hid hl; clear hl
    go_enter Tryz.func220, Tryz.ntmps220
    go_wp2_with fail
    go_ret
    exact GivesSl.nilOf (encN_len (α := TFileIn)) HL.out
  | some ad =>
    have hq := fun (w : World) => run_eql_slice_nil (P := Tryz.prog) w 42 140 (some ad) n c Tryz.underlying42
    simp only [Option.isNone] at hq
    go_enter Tryz.func220, Tryz.ntmps220
    go_wp2_with (first | (at_builtin; refine wpList_appS (enc := (encN (α := TFileIn))) (w0 := w) (z := .agg #[.int .i64 0, .int .i64 0, .int .i64 0, .slice none 0 0]) (size := 4) (bytes := 48) (n := 0) (l := []) rfl (.tmp 5) (.tmp 6) rfl Tryz.underlying42 (by kernel_rfl) rfl (by decide) (by decide) rfl rfl (fun h => by cases h) rfl hn (Own.emptyAt (encN_len (α := TFileIn)) (Nat.le_refl _) rfl) (hs.to inferInstance) (encN_one (α := TFileIn)) (by omega) ?_; intro sa1 sc1 x1 hown1 hgr1))
    go_ret
    rw [List.nil_append] at hown1
    exact ⟨sa1, sc1, by rw [hn]; first | rfl | simp, hown1, Later.of⟩
instance NestInv.iTFileOut : NestInv TFileOut where
  inv := by rintro _ _ _ _ ⟨a0, c0, rfl, q0, hok⟩; exact ⟨a0, c0, rfl, hok, q0⟩
theorem Sl.nFileOut {w : World} {a : Option Addr} {l : List (NRow TFileOut)} (h : Sl (encN (α := TFileOut)) w a l) {k : Nat} (hk : k < l.length) :
    ∃ b off r, a = some ⟨b, off, none⟩ ∧ LtN b w.heap.size ∧ Hid (l.drop k = r :: l.drop (k + 1)) ∧ (∀ (W : World) [Grows w W], W.cell? ⟨b, off + k * 4, none⟩ = some (.int .i64 r.x.File)) ∧ (∀ (W : World) [Grows w W], W.cell? ⟨b, off + k * 4 + 1, none⟩ = some (.string r.x.Data)) ∧ (∀ (W : World) [Grows w W], W.cell? ⟨b, off + k * 4 + 2, none⟩ = some (.slice r.a r.x.Queue.length r.c)) ∧ (∀ (W : World) [Grows w W], W.cell? ⟨b, off + k * 4 + 3, none⟩ = some (.bool r.x.Done)) := by
  obtain ⟨r, hs, hd⟩ := drop_at hk
  obtain ⟨b, off, ha, hb, hc⟩ := h k r hs
  exact ⟨b, off, r, ha, ⟨hb⟩, hd, cell_grown hb (hc 0 _ rfl), cell_grown hb (hc 1 _ rfl), cell_grown hb (hc 2 _ rfl), cell_grown hb (hc 3 _ rfl)⟩
theorem c_cloneNTFileOut {a : Option Addr} {n c : Nat} {l : List (NRow TFileOut)} {w : World} (hs : Sl (encN (α := TFileOut)) w a l) (hn : l.length = n) (hm : n ≤ 100000000) :
    Calls Tryz.prog 225 #[.slice a n c] w (GivesSl (encN (α := TFileOut)) 143 4 w l) := by
  cases a with
  | none =>
    have hl : l = [] := by
      cases l with
      | nil => rfl
      | cons y r => obtain ⟨b, off, h0, -⟩ := hs 0 y rfl; cases h0
    have hq := fun (w : World) => run_eql_slice_nil (P := Tryz.prog) w 58 143 none n c Tryz.underlying58
    simp only [Option.isNone] at hq
    have HL := Lib.hid hl; clear hl
    go_enter Tryz.func225, Tryz.ntmps225
    go_wp2_with fail
    go_ret
    exact GivesSl.nilOf (encN_len (α := TFileOut)) HL.out
  | some ad =>
    have hq := fun (w : World) => run_eql_slice_nil (P := Tryz.prog) w 58 143 (some ad) n c Tryz.underlying58
    simp only [Option.isNone] at hq
    go_enter Tryz.func225, Tryz.ntmps225
    go_wp2_with (first | (at_builtin; refine wpList_appS (enc := (encN (α := TFileOut))) (w0 := w) (z := .agg #[.int .i64 0, .string ByteArray.empty, .slice none 0 0, .bool false]) (size := 4) (bytes := 56) (n := 0) (l := []) rfl (.tmp 5) (.tmp 6) rfl Tryz.underlying58 (by kernel_rfl) rfl (by decide) (by decide) rfl rfl (fun h => by cases h) rfl hn (Own.emptyAt (encN_len (α := TFileOut)) (Nat.le_refl _) rfl) (hs.to inferInstance) (encN_one (α := TFileOut)) (by omega) ?_; intro sa1 sc1 x1 hown1 hgr1))
    go_ret
    rw [List.nil_append] at hown1
    exact ⟨sa1, sc1, by rw [hn]; first | rfl | simp, hown1, Later.of⟩
theorem wp_abs {P : Program} {c : Code} {Q : Exit → Act → World → Prop} {a : Act} {w : World} (hp : ∀ c a d v w, Q (.panic c) (a.put (some d) v) w → Q (.panic c) a w) (h : ∀ K : Exit → Act → World → Prop, Hid (∀ c a d v w, K (.panic c) (a.put (some d) v) w → K (.panic c) a w) → Hid (∀ e a w, Q e a w → K e a w) → c.wp P K a w) : c.wp P Q a w := h Q (Lib.hid hp) (Lib.hid fun _ _ _ h => h)
theorem yieldsIf_load1 {P : Program} {ops : Array Oper} {S : World → Prop} {op : Oper} {a : Act} (hw : Region.wanted op (yielded ops a.tmps) = true) (ty : TypeId) (x : Operand) (ho : op.op = .load ty x)
    (b o : Nat) (hx : a.eval x = .pointer (some ⟨b, o, none⟩)) (v : Value) (d : TypeDesc) (hS : ∀ w, S w → w.cell? ⟨b, o, none⟩ = some v) (hu : P.underlying ty = some d) (hd : d.isRow = false) : YieldsIf P ops S op v a :=
  .inl ⟨hw, fun w hw' => by
    have hagg : (isAgg ty).run P w = .ok false w := by
      unfold isAgg
      rw [Sem.run_bind, run_underlying hu w]
      cases d <;> simp_all [TypeDesc.isRow]
    have hl : (loadVar ty ⟨b, o, none⟩).run P w = .ok v w := by
      have hc := hS w hw'
      simp [loadVar, Sem.run_bind, hagg, go_sem, hc]
    unfold execOp
    simp only [ho, hx, Instr.loadAt, Instr.sureAddr, Sem.run_bind, Sem.run_pure, Result.andThen_ok, hl]⟩
theorem But.pre {b : Nat} {w0 w w' : World} (h : But b w w') (g : Grows w0 w) : But b w0 w' := ⟨Nat.le_trans g.out.size h.size, fun k h1 h2 => (h.block k h1 (Nat.lt_of_lt_of_le h2 g.out.size)).trans (g.out.block k h2)⟩
theorem But.post {b : Nat} {w0 w w' : World} (h : But b w0 w) (g : Grows w w') : But b w0 w' := ⟨Nat.le_trans h.size g.out.size, fun k h1 h2 => (g.out.block k (Nat.lt_of_lt_of_le h2 h.size)).trans (h.block k h1 h2)⟩
theorem But.far {b q : Nat} {w0 w w' : World} (h : But b w0 w) (g : w.grownBy w' (some q)) (hq : w0.heap.size ≤ q) : But b w0 w' := ⟨Nat.le_trans h.size g.size, fun k h1 h2 => (g.block k (Nat.lt_of_lt_of_le h2 h.size) (by simp only [ne_eq, Option.some.injEq]; omega)).trans (h.block k h1 h2)⟩
section
variable {P : Program} {ops : Array Oper} {op : Oper} {a : Act} {w : World} {Q : Exit → Act → World → Prop} {K : Act → World → Prop} {E : Prop} {α : Type} {enc : α → List Value} {T B g : Nat} {c : Nat} {l : List α}
theorem st_storeOwn4 (hw : Region.wanted op (yielded ops a.tmps) = true) (ty : TypeId) (x y : Operand) (ho : op.op = .store ty x y) (j : Nat) (hx : a.eval x = .pointer (some ⟨g, j * 4, none⟩)) (h : Own enc T 4 B w (some ⟨g, 0, none⟩) c l) (hj : j < l.length) (r : α) {v0 v1 v2 v3 : Value} (hr : enc r = [v0, v1, v2, v3])
    (hv : (a.eval y).cells.toList = [v0, v1, v2, v3]) (hi : (P.info? ty).map (·.size) = some 4) (h1 : [v0, v1, v2, v3].all (·.oneCell') = true) {w0 : World} (gr : Grows w0 w) (hb : w0.heap.size ≤ B)
    (k : ∀ z : Later w0, Own enc T 4 B z.w (some ⟨g, 0, none⟩) c (l.set j r) → w.grownBy z.w (some g) → K (a.put op.dst undef) z.w) : if Region.wanted op (yielded ops a.tmps) = true then Oper.wp P op a w K Q else E := by
  rw [if_pos hw]
  have ht : w.there g (j * 4) [v0, v1, v2, v3].length := fun q hq => by
    refine ⟨?_, h.free _⟩
    obtain ⟨v, hv⟩ := h.cells (j := j * 4 + q) (by simp at hq; omega)
    rw [hv]; rfl
  have hp := h.put4 (j := j) hj hr
  have hB := (h.blk g rfl).1
  unfold Oper.wp execOp
  simp only [ho, hx, Instr.storeAt, Instr.sureAddr, Sem.run_bind, Sem.run_pure, Result.andThen_ok, run_storeVar_held hv ht hi (fun u hu => List.all_eq_true.1 h1 u hu)]
  exact k ⟨_, below_setCells (Nat.le_trans hb hB) [v0, v1, v2, v3] (j * 4) gr.out⟩ hp.1 hp.2
theorem wpAnyH_storeEnd4 {S : World → Prop} {md : Region.Mode} {fuel : Nat} {listed : Array Bool} (i : Nat) (ho1 : ops[i]? = some op) (hr : Region.ready md ops listed = [i]) (hr2 : Region.ready md ops (listed.setIfInBounds i true) = [])
    (hw : Region.wanted op (yielded ops a.tmps) = true) (ty : TypeId) (x y : Operand) (ho : op.op = .store ty x y) (j : Nat) (hx : a.eval x = .pointer (some ⟨g, j * 4, none⟩)) (h : Own enc T 4 B w (some ⟨g, 0, none⟩) c l) (hj : j < l.length) (r : α) {v0 v1 v2 v3 : Value} (hr0 : enc r = [v0, v1, v2, v3])
    (hv : (a.eval y).cells.toList = [v0, v1, v2, v3]) (hi : (P.info? ty).map (·.size) = some 4) (h1 : [v0, v1, v2, v3].all (·.oneCell') = true) {w0 : World} (gr : Grows w0 w) (hb : w0.heap.size ≤ B)
    (k : ∀ z : Later w0, Own enc T 4 B z.w (some ⟨g, 0, none⟩) c (l.set j r) → w.grownBy z.w (some g) → S z.w ∧ Q .normal (a.put op.dst undef) z.w) : wpAnyH P md ops Q S (fuel + 1) listed a w :=
  wpAnyH_ready hr (by simp) (AllReadyH.cons ho1 (fun K hK => st_storeOwn4 hw ty x y ho j hx h hj r hr0 hv hi h1 gr hb fun z h2 h3 => hK.out _ _ (k z h2 h3).1 fun _ => wpAnyH_done hr2 (k z h2 h3).2 _) AllReadyH.nil)
end
end Go.Proofs.YtbaffippdifbpaaGreat
namespace Go.Proofs.YtbaffippdifbpaaGreat
set_option linter.unusedVariables false
open Go.ChangeShapes Go.WideShapes Go.ChangeAt Go.RowKit
section
variable {P : Program} {ops : Array Oper} {op : Oper} {a : Act} {w : World} {Q : Exit → Act → World → Prop} {S : World → Prop} {md : Region.Mode} {fuel : Nat} {listed : Array Bool} {i j : Nat}
def OneH (P : Program) (md : Region.Mode) (ops : Array Oper) (Q : Exit → Act → World → Prop) (S : World → Prop) (fuel : Nat) (listed : Array Bool) (a : Act) (w : World) (i : Nat) : Prop :=
  wpOp P ops Q i (fun a' w' => S w' ∧ wpAnyH P md ops Q S fuel (listed.setIfInBounds i true) a' w') a w
theorem wpAnyH_r1 (i : Nat) (hr : Region.ready md ops listed = [i]) (h : OneH P md ops Q S fuel listed a w i) : wpAnyH P md ops Q S (fuel + 1) listed a w :=
  wpAnyH_ready hr (by simp) (fun k hk => by simp only [List.mem_cons, List.not_mem_nil, or_false] at hk; subst hk; exact h)
theorem wpAnyH_r2 (i j : Nat) (hr : Region.ready md ops listed = [i, j]) (h : OneH P md ops Q S fuel listed a w i) (h2 : OneH P md ops Q S fuel listed a w j) : wpAnyH P md ops Q S (fuel + 1) listed a w :=
  wpAnyH_ready hr (by simp) (fun k hk => by
    simp only [List.mem_cons, List.not_mem_nil, or_false] at hk
    rcases hk with rfl | rfl
    · exact h
    · exact h2)
theorem one_load1 (ho1 : ops[i]? = some op) (hw : Region.wanted op (yielded ops a.tmps) = true) (ty : TypeId) (x : Operand) (ho : op.op = .load ty x) (b o : Nat) (hx : a.eval x = .pointer (some ⟨b, o, none⟩)) {cs : List Value} {T : TypeId} (H : Held w b cs T) (v : Value) (hv : cs[o]? = some v)
    (d : TypeDesc) (hu : P.underlying ty = some d) (hd : d.isRow = false) (hS : S w) (h : wpAnyH P md ops Q S fuel (listed.setIfInBounds i true) (a.put op.dst v) w) : OneH P md ops Q S fuel listed a w i :=
  wpOp_step ho1 (fun _ hK => st_load1 hw ty x ho b o hx H v hv d hu hd (hK _ _ ⟨hS, h⟩))
theorem one_call (ho1 : ops[i]? = some op) (hw : Region.wanted op (yielded ops a.tmps) = true) {f : FuncId} {fn : Func} {xs : Array Operand} {ts : Array TypeId} (hop : op.op = .call { callee := .value (.func f), args := xs, argTypes := ts }) (hf : P.funcs[f]? = some fn) (hname : (fn.name == "runtime.NumGoroutine") = false) (hb : fn.body.isNone = false)
    (args : List Value) (hv : xs.toList.map a.eval = args) (hc : Calls P f args.toArray w fun e w' => ∃ v, e = .returned v ∧ S w' ∧ wpAnyH P md ops Q S fuel (listed.setIfInBounds i true) (a.put op.dst v) w') : OneH P md ops Q S fuel listed a w i :=
  wpOp_step ho1 (fun _ hK => step_callw hw hop hf hname hb args hv (hc.mono fun _ _ ⟨v, h1, h2⟩ => ⟨v, h1, hK _ _ h2⟩))
theorem set4_all (A : Array Value) (c0 c1 c2 c3 : Value) (h : A.size = 4) : (((A.setIfInBounds 0 c0).setIfInBounds 1 c1).setIfInBounds 2 c2).setIfInBounds 3 c3 = #[c0, c1, c2, c3] := by
  obtain ⟨l⟩ := A
  match l, h with
  | [_, _, _, _], _ => rfl
theorem run_buildSlice4 {t T : TypeId} {z : Value} {c0 c1 c2 c3 : Value} (ht : P.underlying t = some (.slice T)) (hi : (P.info? T).map (fun i => (i.zero, i.size)) = some (some z, 4)) :
    (Instr.buildSlice t 1 #[(0, .agg #[c0, c1, c2, c3])]).run P w = .ok (.slice (some ⟨w.heap.size, 0, none⟩) 1 1) (w.alloc (.cells #[c0, c1, c2, c3] T)) := by
  obtain ⟨ti, hti, h3⟩ := Option.map_eq_some_iff.1 hi
  simp only [Prod.mk.injEq] at h3
  obtain ⟨h4, h5⟩ := h3
  simp [Instr.buildSlice, Sem.run_bind, run_underlying ht, sizeOf, typeInfo, hti, h4, h5, zeroValue, Instr.fill, newRow, Array.zipIdx, Array.range, go_sem]
  rw [set4_all _ _ _ _ _ (by simp [h5])]
theorem one_build4 (ho1 : ops[i]? = some op) (hw : Region.wanted op (yielded ops a.tmps) = true) (t : TypeId) (x : Operand) (ho : op.op = .buildSlice t 1 #[(0, x)]) {T : TypeId} {z : Value} (ht : P.underlying t = some (.slice T)) (hi : (P.info? T).map (fun i => (i.zero, i.size)) = some (some z, 4))
    {c0 c1 c2 c3 : Value} (hx : a.eval x = .agg #[c0, c1, c2, c3]) (hS : S (w.alloc (.cells #[c0, c1, c2, c3] T))) (h : wpAnyH P md ops Q S fuel (listed.setIfInBounds i true) (a.put op.dst (.slice (some ⟨w.heap.size, 0, none⟩) 1 1)) (w.alloc (.cells #[c0, c1, c2, c3] T))) : OneH P md ops Q S fuel listed a w i :=
  wpOp_step ho1 (fun _ hK => by
    rw [if_pos hw]
    unfold Oper.wp execOp
    simp only [ho]
    have := run_buildSlice4 (P := P) (w := w) (c0 := c0) (c1 := c1) (c2 := c2) (c3 := c3) ht hi
    simp only [hx, List.map_toArray, List.map_cons, List.map_nil, this, Sem.run_bind, Result.andThen_ok, Sem.run_pure]
    exact hK _ _ ⟨hS, h⟩)
theorem one_app1 {α : Type} {enc : α → List Value} {T size : Nat} (ho1 : ops[i]? = some op) (hw : Region.wanted op (yielded ops a.tmps) = true) {w0 : World} {T1 : TypeId} {cs : Array Value} {t : TypeId} {bytes : Nat} {z : Value} (y : α)
    (s x : Operand) (ho : op.op = .call { callee := .builtin .append, args := #[s, x], argTypes := #[t, t] })
    (ht : P.underlying t = some (.slice T)) (hinfo : (P.info? T).map (fun i => (i.zero, i.size, i.bytes)) = some (some z, size, bytes)) (hzs : z.cells.size = size) (hsz : 0 < size) (hby : bytes ≤ 1000)
    {l : List α} {n : Nat} {sa : Option Addr} {sc : Nat} (hs : a.eval s = .slice sa n sc) {xb : Nat} (hx : a.eval x = .slice (some ⟨xb, 0, none⟩) 1 1) (hn : l.length = n) {B : Nat} (hown : Own enc T size B w sa sc l)
    (hxc : w.heap[xb]? = some (.cells cs T1 (0, 0))) (hy : cs.toList = enc y) (h1 : ∀ u ∈ enc y, u.oneCell' = true) (hb : n ≤ 1000000000) (hB : B ≤ w.heap.size) (g : Grows w0 w) (hB0 : w0.heap.size ≤ B)
    (h : ∀ (sa' : Option Addr) (sc' : Nat) (x' : Later w0), Own enc T size B x'.w sa' sc' (l ++ [y]) → w.grownBy x'.w (Value.ownBlock (.slice sa n sc)) → (blkOf sa' = blkOf sa ∨ blkOf sa' = some w.heap.size) → S x'.w ∧ wpAnyH P md ops Q S fuel (listed.setIfInBounds i true) (a.put op.dst (.slice sa' (n + 1) sc')) x'.w) : OneH P md ops Q S fuel listed a w i :=
  wpOp_step ho1 (fun _ hK => st_app1F hw y s x ho ht hinfo hzs hsz hby hs hx hn hown hxc hy h1 hb hB g hB0 fun sa' sc' x' h2 h3 h4 => hK _ _ (h sa' sc' x' h2 h3 h4))
theorem wpAnyH_storeEnd (i : Nat) (ho1 : ops[i]? = some op) (hr : Region.ready md ops listed = [i]) (hr2 : Region.ready md ops (listed.setIfInBounds i true) = [])
    (hw : Region.wanted op (yielded ops a.tmps) = true) (ty : TypeId) (x y : Operand) (ho : op.op = .store ty x y) (b o : Nat) (hx : a.eval x = .pointer (some ⟨b, o, none⟩)) {cs us cs2 : List Value} {T : TypeId} (H : Held w b cs T)
    (hv : (a.eval y).cells.toList = us) (hi : (P.info? ty).map (·.size) = some us.length) (h1 : us.all (·.oneCell') = true) (hl : o + us.length ≤ cs.length) (hcs : splice cs o us = cs2) {w0 : World} (g : Grows w0 w) (hb : w0.heap.size ≤ b)
    (h : ∀ z : Later w0, Held z.w b cs2 T → w.grownBy z.w (some b) → S z.w ∧ Q .normal (a.put op.dst undef) z.w) : wpAnyH P md ops Q S (fuel + 1) listed a w :=
  wpAnyH_r1 i hr (wpOp_step ho1 (fun _ hK => st_storeH hw ty x y ho b o hx H hv hi h1 hl hcs g hb fun z h2 h3 => hK _ _ ⟨(h z h2 h3).1, wpAnyH_done hr2 (h z h2 h3).2 _⟩))
end
theorem Own.lowNe {α : Type} {enc : α → List Value} {T size B b n c2 : Nat} {w : World} {a : Option Addr} {c : Nat} {l : List α} (h : Own enc T size B w a c l) (hb : b < B) : some b ≠ Value.ownBlock (.slice a n c2) := by
  rw [ownBlock_eq]
  intro e
  have := (h.blk b e.symm).1
  omega
theorem But.farO {b : Nat} {w0 w w' : World} {row : Option Nat} (h : But b w0 w) (g : w.grownBy w' row) (hq : ∀ q, row = some q → w0.heap.size ≤ q) : But b w0 w' :=
  ⟨Nat.le_trans h.size g.size, fun k h1 h2 => (g.block k (Nat.lt_of_lt_of_le h2 h.size) (fun e => by have := hq k e.symm; omega)).trans (h.block k h1 h2)⟩
theorem But.here {b : Nat} {w0 w w' : World} (h : But b w0 w) (g : w.grownBy w' (some b)) : But b w0 w' :=
  ⟨Nat.le_trans h.size g.size, fun k h1 h2 => (g.block k (Nat.lt_of_lt_of_le h2 h.size) (by simpa using h1)).trans (h.block k h1 h2)⟩
theorem keepsOf {B b : Nat} {w w' : World} (g : w.grownBy w' (some b)) (hb : b < B) : Keeps B w w' := ⟨g.size, fun k h1 h2 => g.block k h2 (by simp only [ne_eq, Option.some.injEq]; omega)⟩
theorem Sl.rangeN {α β : Type} [N : Nest α β] {w : World} {a : Option Addr} {l : List (NRow α)} (h : Sl (encN (α := α)) w a l) {k b off m : Nat} {r : NRow α} (hr : l[k]? = some r) (ha : a = some ⟨b, off, none⟩) {row : List Value} (hrow : encN r = row) (hm : row.length = m) (W : World) (g : Grows w W) : W.rangeAt b (off + k * m) row := by
  subst hrow
  obtain ⟨b', off', ha', hb, hc⟩ := h k r hr
  rw [ha] at ha'
  simp only [Option.some.injEq, Addr.mk.injEq, and_true] at ha'
  obtain ⟨rfl, rfl⟩ := ha'
  intro j v hv
  subst hm
  exact cell_grown hb (hc j v hv) W
theorem OwnN.empty {α β : Type} [N : Nest α β] [F : Flat β] {B : Nat} {w : World} {a : Option Addr} {c : Nat} (h : Own (encN (α := α)) N.ty N.size B w a c []) : OwnN B (fun _ => (0, 0)) 0 w a c ([] : List (NRow α)) := ⟨h, fun _ _ => rfl, fun k r hr => by simp at hr⟩
end Go.Proofs.YtbaffippdifbpaaGreat
