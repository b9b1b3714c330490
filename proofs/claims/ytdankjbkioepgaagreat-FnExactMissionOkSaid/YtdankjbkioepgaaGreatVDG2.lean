/- The contracts of the size and the equality of the ground. No condition but on sizes. -/
import Derived.Test.YtdankjbkioepgaaGreatVDF2
import Derived.Test.YtdankjbkioepgaaGreatVDM1
import Derived.Test.YtdankjbkioepgaaGreatVDM2
import Derived.Test.YtdankjbkioepgaaGreatVM2
namespace Go.Proofs.YtdankjbkioepgaaGreat
set_option linter.unusedVariables false
open Go.ChangeShapes Go.WideShapes Go.ChangeAt Go.RowKit

set_option maxRecDepth 100000 in
set_option maxHeartbeats 2000000 in
theorem d_lszGround {B : Nat} {vs : List Value} {x : TGround} {left : Int} {w : World} (h : Enc.Rd B w vs x) (hl : 0 ≤ left) (hl2 : left ≤ 1048576) :
    Calls Tryz.prog 29 #[.agg vs.toArray, .int .i64 left] w (Gives w (.int .i64 (szD left (Enc.tot x)))) := by
  obtain ⟨A, rfl, F⟩ := h
  have n0 := totL_nonneg x.Offers
  have n1 := Enc.tot_nonneg x.Sender
  have n2 := Enc.tot_nonneg x.Unpacker
  have n3 := totL_nonneg x.Pairs
  have n4 := totL_nonneg x.Records
  have n5 := totL_nonneg x.Files
  have n6 := totL_nonneg x.Told
  have HOK := Lib.hid F.ok
  have htot : Enc.tot x = totL x.Offers + Enc.tot x.Sender + Enc.tot x.Unpacker + totL x.Pairs + totL x.Records + totL x.Files + totL x.Told := rfl
  have HTOT := Lib.hid htot; clear htot
  have HB := Lib.hid (Held.new w [.slice A.a0 x.Offers.length A.c0, .int .i64 x.Sender.Next, .int .i64 x.Sender.Window, .slice A.a1 x.Sender.Waiting.length A.c1, .int .i64 x.Sender.Done, .int .i64 x.Notice.Expect, .bool x.Notice.Locked, .bool x.Notice.Again, .int .i64 x.Unpacker.Channel, .int .i64 x.Unpacker.Next, .bool x.Unpacker.Synced, .string x.Unpacker.Rest, .int .i64 x.Unpacker.Lost, .slice A.a2 x.Pairs.length A.c2, .slice A.a3 x.Records.length A.c3, .slice A.a4 x.Files.length A.c4, .slice A.a5 x.Told.length A.c5] 43 w.heap.size rfl)
  have HFF := Lib.hid F; clear F
  go_enter Tryz.func29, Tryz.ntmps29
  go_wp2_with (first | ((with_reducible refine wp_region_later (by kernel_rfl) (by kernel_rfl) ?_); (repeat (first | go_big_quiet_step (first | fail))); refine wpQuiet_nil ?_; rintro _ ⟨x, rfl⟩))
  refine (d_lszStringS (HFF.out.q0.keep inferInstance) (by omega) (by omega)).mono ?_
  rintro _ _ ⟨rfl, y0, rfl⟩
  by_cases h0 : left - totL x.Offers < 0
  · have HV := Lib.hid (show szD left (Enc.tot x) = -1 from szD_neg (by rw [HTOT.out]; omega))
    rw [szD_neg h0]
    go_wp2_with (first | ((with_reducible refine wp_region_later (by kernel_rfl) (by kernel_rfl) ?_); (repeat (first | go_big_quiet_step (first | fail))); refine wpQuiet_nil ?_; rintro _ ⟨x, rfl⟩))
    go_ret
    exact Gives.mk (by rw [HV.out]; rfl)
  rw [szD_pos h0]
  go_wp2_with (first | ((with_reducible refine wp_region_later (by kernel_rfl) (by kernel_rfl) ?_); (repeat (first | go_big_quiet_step (first | fail))); refine wpQuiet_nil ?_; rintro _ ⟨x, rfl⟩) | (refine stepLoad rfl _ _ rfl (w.heap.size) 1 rfl (row := [.int .i64 x.Sender.Next, .int .i64 x.Sender.Window, .slice A.a1 x.Sender.Waiting.length A.c1, .int .i64 x.Sender.Done]) (HB.out.to inferInstance) _ Tryz.underlying33 rfl (by kernel_rfl) (by kernel_rfl) ?_))
  refine (d_lszSender (x := x.Sender) ⟨A.a1, A.c1, rfl, HFF.out.q1.keep inferInstance, HOK.out.1⟩ (by omega) (by omega)).mono ?_
  rintro _ _ ⟨rfl, y1, rfl⟩
  by_cases h1 : left - totL x.Offers - Enc.tot x.Sender < 0
  · have HV := Lib.hid (show szD left (Enc.tot x) = -1 from szD_neg (by rw [HTOT.out]; omega))
    rw [szD_neg h1]
    go_wp2_with (first | ((with_reducible refine wp_region_later (by kernel_rfl) (by kernel_rfl) ?_); (repeat (first | go_big_quiet_step (first | fail))); refine wpQuiet_nil ?_; rintro _ ⟨x, rfl⟩))
    go_ret
    exact Gives.mk (by rw [HV.out]; rfl)
  rw [szD_pos h1]
  go_wp2_with (first | ((with_reducible refine wp_region_later (by kernel_rfl) (by kernel_rfl) ?_); (repeat (first | go_big_quiet_step (first | fail))); refine wpQuiet_nil ?_; rintro _ ⟨x, rfl⟩) | (refine stepLoad rfl _ _ rfl (w.heap.size) 8 rfl (row := [.int .i64 x.Unpacker.Channel, .int .i64 x.Unpacker.Next, .bool x.Unpacker.Synced, .string x.Unpacker.Rest, .int .i64 x.Unpacker.Lost]) (HB.out.to inferInstance) _ Tryz.underlying37 rfl (by kernel_rfl) (by kernel_rfl) ?_))
  refine (d_lszUnpacker (B := 0) (x := x.Unpacker) ⟨rfl, HOK.out.2.2.1⟩ (by omega) (by omega)).mono ?_
  rintro _ _ ⟨rfl, y2, rfl⟩
  by_cases h2 : left - totL x.Offers - Enc.tot x.Sender - Enc.tot x.Unpacker < 0
  · have HV := Lib.hid (show szD left (Enc.tot x) = -1 from szD_neg (by rw [HTOT.out]; omega))
    rw [szD_neg h2]
    go_wp2_with (first | ((with_reducible refine wp_region_later (by kernel_rfl) (by kernel_rfl) ?_); (repeat (first | go_big_quiet_step (first | fail))); refine wpQuiet_nil ?_; rintro _ ⟨x, rfl⟩))
    go_ret
    exact Gives.mk (by rw [HV.out]; rfl)
  rw [szD_pos h2]
  go_wp2_with (first | ((with_reducible refine wp_region_later (by kernel_rfl) (by kernel_rfl) ?_); (repeat (first | go_big_quiet_step (first | fail))); refine wpQuiet_nil ?_; rintro _ ⟨x, rfl⟩))
  refine (d_lszPairS (HFF.out.q2.keep inferInstance) (by omega) (by omega)).mono ?_
  rintro _ _ ⟨rfl, y3, rfl⟩
  by_cases h3 : left - totL x.Offers - Enc.tot x.Sender - Enc.tot x.Unpacker - totL x.Pairs < 0
  · have HV := Lib.hid (show szD left (Enc.tot x) = -1 from szD_neg (by rw [HTOT.out]; omega))
    rw [szD_neg h3]
    go_wp2_with (first | ((with_reducible refine wp_region_later (by kernel_rfl) (by kernel_rfl) ?_); (repeat (first | go_big_quiet_step (first | fail))); refine wpQuiet_nil ?_; rintro _ ⟨x, rfl⟩))
    go_ret
    exact Gives.mk (by rw [HV.out]; rfl)
  rw [szD_pos h3]
  go_wp2_with (first | ((with_reducible refine wp_region_later (by kernel_rfl) (by kernel_rfl) ?_); (repeat (first | go_big_quiet_step (first | fail))); refine wpQuiet_nil ?_; rintro _ ⟨x, rfl⟩))
  refine (d_lszRecordS (HFF.out.q3.keep inferInstance) (by omega) (by omega)).mono ?_
  rintro _ _ ⟨rfl, y4, rfl⟩
  by_cases h4 : left - totL x.Offers - Enc.tot x.Sender - Enc.tot x.Unpacker - totL x.Pairs - totL x.Records < 0
  · have HV := Lib.hid (show szD left (Enc.tot x) = -1 from szD_neg (by rw [HTOT.out]; omega))
    rw [szD_neg h4]
    go_wp2_with (first | ((with_reducible refine wp_region_later (by kernel_rfl) (by kernel_rfl) ?_); (repeat (first | go_big_quiet_step (first | fail))); refine wpQuiet_nil ?_; rintro _ ⟨x, rfl⟩))
    go_ret
    exact Gives.mk (by rw [HV.out]; rfl)
  rw [szD_pos h4]
  go_wp2_with (first | ((with_reducible refine wp_region_later (by kernel_rfl) (by kernel_rfl) ?_); (repeat (first | go_big_quiet_step (first | fail))); refine wpQuiet_nil ?_; rintro _ ⟨x, rfl⟩))
  refine (d_lszFileInS (HFF.out.q4.keep inferInstance) (by omega) (by omega)).mono ?_
  rintro _ _ ⟨rfl, y5, rfl⟩
  by_cases h5 : left - totL x.Offers - Enc.tot x.Sender - Enc.tot x.Unpacker - totL x.Pairs - totL x.Records - totL x.Files < 0
  · have HV := Lib.hid (show szD left (Enc.tot x) = -1 from szD_neg (by rw [HTOT.out]; omega))
    rw [szD_neg h5]
    go_wp2_with (first | ((with_reducible refine wp_region_later (by kernel_rfl) (by kernel_rfl) ?_); (repeat (first | go_big_quiet_step (first | fail))); refine wpQuiet_nil ?_; rintro _ ⟨x, rfl⟩))
    go_ret
    exact Gives.mk (by rw [HV.out]; rfl)
  rw [szD_pos h5]
  go_wp2_with (first | ((with_reducible refine wp_region_later (by kernel_rfl) (by kernel_rfl) ?_); (repeat (first | go_big_quiet_step (first | fail))); refine wpQuiet_nil ?_; rintro _ ⟨x, rfl⟩))
  refine (d_lszBoolS (HFF.out.q5.keep inferInstance) (by omega) (by omega)).mono ?_
  rintro _ _ ⟨rfl, y6, rfl⟩
  by_cases h6 : left - totL x.Offers - Enc.tot x.Sender - Enc.tot x.Unpacker - totL x.Pairs - totL x.Records - totL x.Files - totL x.Told < 0
  · have HV := Lib.hid (show szD left (Enc.tot x) = -1 from szD_neg (by rw [HTOT.out]; omega))
    rw [szD_neg h6]
    go_wp2_with (first | ((with_reducible refine wp_region_later (by kernel_rfl) (by kernel_rfl) ?_); (repeat (first | go_big_quiet_step (first | fail))); refine wpQuiet_nil ?_; rintro _ ⟨x, rfl⟩))
    go_ret
    exact Gives.mk (by rw [HV.out]; rfl)
  rw [szD_pos h6]
  have HV := Lib.hid (show szD left (Enc.tot x) = left - totL x.Offers - Enc.tot x.Sender - Enc.tot x.Unpacker - totL x.Pairs - totL x.Records - totL x.Files - totL x.Told by rw [szD_pos (by rw [HTOT.out]; omega), HTOT.out] <;> omega)
  go_wp2_with (first | ((with_reducible refine wp_region_later (by kernel_rfl) (by kernel_rfl) ?_); (repeat (first | go_big_quiet_step (first | fail))); refine wpQuiet_nil ?_; rintro _ ⟨x, rfl⟩))
  go_ret
  exact Gives.mk (by rw [HV.out]; rfl)

theorem d_leqGround {B B2 : Nat} {vs vs2 : List Value} {x : TGround} {w : World} (h : Enc.Rd B w vs x) (h2 : Enc.Rd B2 w vs2 x) :
    Calls Tryz.prog 46 #[.agg vs.toArray, .agg vs2.toArray] w (Gives w (.bool true)) := by
  obtain ⟨A, rfl, F⟩ := h
  obtain ⟨mA, rfl, mF⟩ := h2
  have HOK := Lib.hid F.ok
  have HB := Lib.hid ((Held.new w [.slice A.a0 x.Offers.length A.c0, .int .i64 x.Sender.Next, .int .i64 x.Sender.Window, .slice A.a1 x.Sender.Waiting.length A.c1, .int .i64 x.Sender.Done, .int .i64 x.Notice.Expect, .bool x.Notice.Locked, .bool x.Notice.Again, .int .i64 x.Unpacker.Channel, .int .i64 x.Unpacker.Next, .bool x.Unpacker.Synced, .string x.Unpacker.Rest, .int .i64 x.Unpacker.Lost, .slice A.a2 x.Pairs.length A.c2, .slice A.a3 x.Records.length A.c3, .slice A.a4 x.Files.length A.c4, .slice A.a5 x.Told.length A.c5] 77 w.heap.size rfl).to (inferInstance : Grows _ ((w.alloc (.cells #[.slice A.a0 x.Offers.length A.c0, .int .i64 x.Sender.Next, .int .i64 x.Sender.Window, .slice A.a1 x.Sender.Waiting.length A.c1, .int .i64 x.Sender.Done, .int .i64 x.Notice.Expect, .bool x.Notice.Locked, .bool x.Notice.Again, .int .i64 x.Unpacker.Channel, .int .i64 x.Unpacker.Next, .bool x.Unpacker.Synced, .string x.Unpacker.Rest, .int .i64 x.Unpacker.Lost, .slice A.a2 x.Pairs.length A.c2, .slice A.a3 x.Records.length A.c3, .slice A.a4 x.Files.length A.c4, .slice A.a5 x.Told.length A.c5] 77)).alloc (.cells #[.slice mA.a0 x.Offers.length mA.c0, .int .i64 x.Sender.Next, .int .i64 x.Sender.Window, .slice mA.a1 x.Sender.Waiting.length mA.c1, .int .i64 x.Sender.Done, .int .i64 x.Notice.Expect, .bool x.Notice.Locked, .bool x.Notice.Again, .int .i64 x.Unpacker.Channel, .int .i64 x.Unpacker.Next, .bool x.Unpacker.Synced, .string x.Unpacker.Rest, .int .i64 x.Unpacker.Lost, .slice mA.a2 x.Pairs.length mA.c2, .slice mA.a3 x.Records.length mA.c3, .slice mA.a4 x.Files.length mA.c4, .slice mA.a5 x.Told.length mA.c5] 77))))
  have HC := Lib.hid (Held.new (w.alloc (.cells #[.slice A.a0 x.Offers.length A.c0, .int .i64 x.Sender.Next, .int .i64 x.Sender.Window, .slice A.a1 x.Sender.Waiting.length A.c1, .int .i64 x.Sender.Done, .int .i64 x.Notice.Expect, .bool x.Notice.Locked, .bool x.Notice.Again, .int .i64 x.Unpacker.Channel, .int .i64 x.Unpacker.Next, .bool x.Unpacker.Synced, .string x.Unpacker.Rest, .int .i64 x.Unpacker.Lost, .slice A.a2 x.Pairs.length A.c2, .slice A.a3 x.Records.length A.c3, .slice A.a4 x.Files.length A.c4, .slice A.a5 x.Told.length A.c5] 77)) [.slice mA.a0 x.Offers.length mA.c0, .int .i64 x.Sender.Next, .int .i64 x.Sender.Window, .slice mA.a1 x.Sender.Waiting.length mA.c1, .int .i64 x.Sender.Done, .int .i64 x.Notice.Expect, .bool x.Notice.Locked, .bool x.Notice.Again, .int .i64 x.Unpacker.Channel, .int .i64 x.Unpacker.Next, .bool x.Unpacker.Synced, .string x.Unpacker.Rest, .int .i64 x.Unpacker.Lost, .slice mA.a2 x.Pairs.length mA.c2, .slice mA.a3 x.Records.length mA.c3, .slice mA.a4 x.Files.length mA.c4, .slice mA.a5 x.Told.length mA.c5] 77 (w.heap.size + 1) (by simp))
  have HFF := Lib.hid F; clear F
  have HMF := Lib.hid mF; clear mF
  go_enter Tryz.func46, Tryz.ntmps46
  go_wp2_with (first | ((with_reducible refine wp_region_later (by kernel_rfl) (by kernel_rfl) ?_); (repeat (first | go_big_quiet_step (first | fail))); refine wpQuiet_nil ?_; rintro _ ⟨x, rfl⟩))
  refine (d_leqStringS (HFF.out.q0.keep inferInstance) (HMF.out.q0.keep inferInstance)).mono ?_
  rintro _ _ ⟨rfl, y0, rfl⟩
  go_wp2_with (first | ((with_reducible refine wp_region_later (by kernel_rfl) (by kernel_rfl) ?_); (repeat (first | go_big_quiet_step (first | fail))); refine wpQuiet_nil ?_; rintro _ ⟨x, rfl⟩) | (refine stepLoad rfl _ _ rfl (w.heap.size) 1 rfl (row := [.int .i64 x.Sender.Next, .int .i64 x.Sender.Window, .slice A.a1 x.Sender.Waiting.length A.c1, .int .i64 x.Sender.Done]) (HB.out.to inferInstance) _ Tryz.underlying70 rfl (by kernel_rfl) (by kernel_rfl) ?_) | (refine stepLoad rfl _ _ rfl (w.heap.size + 1) 1 rfl (row := [.int .i64 x.Sender.Next, .int .i64 x.Sender.Window, .slice mA.a1 x.Sender.Waiting.length mA.c1, .int .i64 x.Sender.Done]) (HC.out.to inferInstance) _ Tryz.underlying70 rfl (by kernel_rfl) (by kernel_rfl) ?_))
  refine (d_leqSender (x := x.Sender) ⟨A.a1, A.c1, rfl, HFF.out.q1.keep inferInstance, HOK.out.1⟩ ⟨mA.a1, mA.c1, rfl, HMF.out.q1.keep inferInstance, HOK.out.1⟩).mono ?_
  rintro _ _ ⟨rfl, y1, rfl⟩
  go_wp2_with (first | ((with_reducible refine wp_region_later (by kernel_rfl) (by kernel_rfl) ?_); (repeat (first | go_big_quiet_step (first | fail))); refine wpQuiet_nil ?_; rintro _ ⟨x, rfl⟩) | (refine stepLoad rfl _ _ rfl (w.heap.size) 5 rfl (row := [.int .i64 x.Notice.Expect, .bool x.Notice.Locked, .bool x.Notice.Again]) (HB.out.to inferInstance) _ Tryz.underlying71 rfl (by kernel_rfl) (by kernel_rfl) ?_) | (refine stepLoad rfl _ _ rfl (w.heap.size + 1) 5 rfl (row := [.int .i64 x.Notice.Expect, .bool x.Notice.Locked, .bool x.Notice.Again]) (HC.out.to inferInstance) _ Tryz.underlying71 rfl (by kernel_rfl) (by kernel_rfl) ?_))
  refine (d_leqNotice (B := 0) (B2 := 0) (x := x.Notice) ⟨rfl, HOK.out.2.1⟩ ⟨rfl, HOK.out.2.1⟩).mono ?_
  rintro _ _ ⟨rfl, y2, rfl⟩
  go_wp2_with (first | ((with_reducible refine wp_region_later (by kernel_rfl) (by kernel_rfl) ?_); (repeat (first | go_big_quiet_step (first | fail))); refine wpQuiet_nil ?_; rintro _ ⟨x, rfl⟩) | (refine stepLoad rfl _ _ rfl (w.heap.size) 8 rfl (row := [.int .i64 x.Unpacker.Channel, .int .i64 x.Unpacker.Next, .bool x.Unpacker.Synced, .string x.Unpacker.Rest, .int .i64 x.Unpacker.Lost]) (HB.out.to inferInstance) _ Tryz.underlying72 rfl (by kernel_rfl) (by kernel_rfl) ?_) | (refine stepLoad rfl _ _ rfl (w.heap.size + 1) 8 rfl (row := [.int .i64 x.Unpacker.Channel, .int .i64 x.Unpacker.Next, .bool x.Unpacker.Synced, .string x.Unpacker.Rest, .int .i64 x.Unpacker.Lost]) (HC.out.to inferInstance) _ Tryz.underlying72 rfl (by kernel_rfl) (by kernel_rfl) ?_))
  refine (d_leqUnpacker (B := 0) (B2 := 0) (x := x.Unpacker) ⟨rfl, HOK.out.2.2.1⟩ ⟨rfl, HOK.out.2.2.1⟩).mono ?_
  rintro _ _ ⟨rfl, y3, rfl⟩
  go_wp2_with (first | ((with_reducible refine wp_region_later (by kernel_rfl) (by kernel_rfl) ?_); (repeat (first | go_big_quiet_step (first | fail))); refine wpQuiet_nil ?_; rintro _ ⟨x, rfl⟩))
  refine (d_leqPairS (HFF.out.q2.keep inferInstance) (HMF.out.q2.keep inferInstance)).mono ?_
  rintro _ _ ⟨rfl, y4, rfl⟩
  go_wp2_with (first | ((with_reducible refine wp_region_later (by kernel_rfl) (by kernel_rfl) ?_); (repeat (first | go_big_quiet_step (first | fail))); refine wpQuiet_nil ?_; rintro _ ⟨x, rfl⟩))
  refine (d_leqRecordS (HFF.out.q3.keep inferInstance) (HMF.out.q3.keep inferInstance)).mono ?_
  rintro _ _ ⟨rfl, y5, rfl⟩
  go_wp2_with (first | ((with_reducible refine wp_region_later (by kernel_rfl) (by kernel_rfl) ?_); (repeat (first | go_big_quiet_step (first | fail))); refine wpQuiet_nil ?_; rintro _ ⟨x, rfl⟩))
  refine (d_leqFileInS (HFF.out.q4.keep inferInstance) (HMF.out.q4.keep inferInstance)).mono ?_
  rintro _ _ ⟨rfl, y6, rfl⟩
  go_wp2_with (first | ((with_reducible refine wp_region_later (by kernel_rfl) (by kernel_rfl) ?_); (repeat (first | go_big_quiet_step (first | fail))); refine wpQuiet_nil ?_; rintro _ ⟨x, rfl⟩))
  refine (d_leqBoolS (HFF.out.q5.keep inferInstance) (HMF.out.q5.keep inferInstance)).mono ?_
  rintro _ _ ⟨rfl, y7, rfl⟩
  go_wp2_with (first | ((with_reducible refine wp_region_later (by kernel_rfl) (by kernel_rfl) ?_); (repeat (first | go_big_quiet_step (first | fail))); refine wpQuiet_nil ?_; rintro _ ⟨x, rfl⟩))
  go_ret
  exact Gives.mk rfl

end Go.Proofs.YtdankjbkioepgaaGreat
