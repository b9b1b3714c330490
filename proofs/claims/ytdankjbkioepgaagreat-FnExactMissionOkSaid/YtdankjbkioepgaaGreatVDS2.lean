/- The contracts of the size and the equality of space. No condition but on sizes. -/
import Derived.Test.YtdankjbkioepgaaGreatVDM3
import Derived.Test.YtdankjbkioepgaaGreatVDM2
import Derived.Test.YtdankjbkioepgaaGreatVM2
namespace Go.Proofs.YtdankjbkioepgaaGreat
set_option linter.unusedVariables false
open Go.ChangeShapes Go.WideShapes Go.ChangeAt Go.RowKit

set_option maxRecDepth 100000 in
set_option maxHeartbeats 2000000 in
theorem d_lszSpace {B : Nat} {vs : List Value} {x : TSpace} {left : Int} {w : World} (h : Enc.Rd B w vs x) (hl : 0 ≤ left) (hl2 : left ≤ 1048576) :
    Calls Tryz.prog 30 #[.agg vs.toArray, .int .i64 left] w (Gives w (.int .i64 (szD left (Enc.tot x)))) := by
  obtain ⟨A, rfl, F⟩ := h
  have n0 := Enc.tot_nonneg x.Board
  have n1 := Enc.tot_nonneg x.Packer
  have n2 := totL_nonneg x.Files
  have n3 := totL_nonneg x.Outs
  have n4 := totL_nonneg x.Sent
  have HOK := Lib.hid F.ok
  have htot : Enc.tot x = Enc.tot x.Board + Enc.tot x.Packer + totL x.Files + totL x.Outs + totL x.Sent := rfl
  have HTOT := Lib.hid htot; clear htot
  have HB := Lib.hid (Held.new w [.int .i64 x.Receiver.Expect, .bool x.Receiver.Locked, .bool x.Receiver.Again, .int .i64 x.Receiver.Taken, .int .i64 x.Board.Clock, .slice A.a0 x.Board.Params.length A.c0, .bool x.Board.Safe, .slice A.a1 x.Board.Limits.length A.c1, .slice A.a2 x.Board.Orders.length A.c2, .slice A.a3 x.Board.Done.length A.c3, .int .i64 x.Board.Recorder.Room, .slice A.a4 x.Board.Recorder.Records.length A.c4, .slice A.a5 x.Board.Recorder.Dropped.length A.c5, .int .i64 x.Board.Made, .int .i64 x.Board.Taken, .slice A.a6 x.Board.Asked.length A.c6, .int .i64 x.Packer.Channel, .int .i64 x.Packer.Count, .string x.Packer.Rest, .slice A.a7 x.Packer.Starts.length A.c7, .int .i64 x.Seq, .slice A.a8 x.Files.length A.c8, .slice A.a9 x.Outs.length A.c9, .int .i64 x.Begun, .slice A.a10 x.Sent.length A.c10] 58 w.heap.size rfl)
  have HFF := Lib.hid F; clear F
  go_enter Tryz.func30, Tryz.ntmps30
  go_wp2_with (first | ((with_reducible refine wp_region_later (by kernel_rfl) (by kernel_rfl) ?_); (repeat (first | go_big_quiet_step (first | fail))); refine wpQuiet_nil ?_; rintro _ ⟨x, rfl⟩) | (refine stepLoad rfl _ _ rfl (w.heap.size) 4 rfl (row := [.int .i64 x.Board.Clock, .slice A.a0 x.Board.Params.length A.c0, .bool x.Board.Safe, .slice A.a1 x.Board.Limits.length A.c1, .slice A.a2 x.Board.Orders.length A.c2, .slice A.a3 x.Board.Done.length A.c3, .int .i64 x.Board.Recorder.Room, .slice A.a4 x.Board.Recorder.Records.length A.c4, .slice A.a5 x.Board.Recorder.Dropped.length A.c5, .int .i64 x.Board.Made, .int .i64 x.Board.Taken, .slice A.a6 x.Board.Asked.length A.c6]) (HB.out.to inferInstance) _ Tryz.underlying53 rfl (by kernel_rfl) (by kernel_rfl) ?_))
  refine (d_lszBoard (x := x.Board) ⟨⟨A.a0, A.c0, A.a1, A.c1, A.a2, A.c2, A.a3, A.c3, A.a4, A.c4, A.a5, A.c5, A.a6, A.c6⟩, rfl, ⟨HFF.out.q0.keep inferInstance, HFF.out.q1.keep inferInstance, HFF.out.q2.keep inferInstance, HFF.out.q3.keep inferInstance, HFF.out.q4.keep inferInstance, HFF.out.q5.keep inferInstance, HFF.out.q6.keep inferInstance, HOK.out.2.1⟩⟩ (by omega) (by omega)).mono ?_
  rintro _ _ ⟨rfl, y0, rfl⟩
  by_cases h0 : left - Enc.tot x.Board < 0
  · have HV := Lib.hid (show szD left (Enc.tot x) = -1 from szD_neg (by rw [HTOT.out]; omega))
    rw [szD_neg h0]
    go_wp2_with (first | ((with_reducible refine wp_region_later (by kernel_rfl) (by kernel_rfl) ?_); (repeat (first | go_big_quiet_step (first | fail))); refine wpQuiet_nil ?_; rintro _ ⟨x, rfl⟩))
    go_ret
    exact Gives.mk (by rw [HV.out]; rfl)
  rw [szD_pos h0]
  go_wp2_with (first | ((with_reducible refine wp_region_later (by kernel_rfl) (by kernel_rfl) ?_); (repeat (first | go_big_quiet_step (first | fail))); refine wpQuiet_nil ?_; rintro _ ⟨x, rfl⟩) | (refine stepLoad rfl _ _ rfl (w.heap.size) 16 rfl (row := [.int .i64 x.Packer.Channel, .int .i64 x.Packer.Count, .string x.Packer.Rest, .slice A.a7 x.Packer.Starts.length A.c7]) (HB.out.to inferInstance) _ Tryz.underlying55 rfl (by kernel_rfl) (by kernel_rfl) ?_))
  refine (d_lszPacker (x := x.Packer) ⟨A.a7, A.c7, rfl, HFF.out.q7.keep inferInstance, HOK.out.2.2.1⟩ (by omega) (by omega)).mono ?_
  rintro _ _ ⟨rfl, y1, rfl⟩
  by_cases h1 : left - Enc.tot x.Board - Enc.tot x.Packer < 0
  · have HV := Lib.hid (show szD left (Enc.tot x) = -1 from szD_neg (by rw [HTOT.out]; omega))
    rw [szD_neg h1]
    go_wp2_with (first | ((with_reducible refine wp_region_later (by kernel_rfl) (by kernel_rfl) ?_); (repeat (first | go_big_quiet_step (first | fail))); refine wpQuiet_nil ?_; rintro _ ⟨x, rfl⟩))
    go_ret
    exact Gives.mk (by rw [HV.out]; rfl)
  rw [szD_pos h1]
  go_wp2_with (first | ((with_reducible refine wp_region_later (by kernel_rfl) (by kernel_rfl) ?_); (repeat (first | go_big_quiet_step (first | fail))); refine wpQuiet_nil ?_; rintro _ ⟨x, rfl⟩))
  refine (d_lszStringS (HFF.out.q8.keep inferInstance) (by omega) (by omega)).mono ?_
  rintro _ _ ⟨rfl, y2, rfl⟩
  by_cases h2 : left - Enc.tot x.Board - Enc.tot x.Packer - totL x.Files < 0
  · have HV := Lib.hid (show szD left (Enc.tot x) = -1 from szD_neg (by rw [HTOT.out]; omega))
    rw [szD_neg h2]
    go_wp2_with (first | ((with_reducible refine wp_region_later (by kernel_rfl) (by kernel_rfl) ?_); (repeat (first | go_big_quiet_step (first | fail))); refine wpQuiet_nil ?_; rintro _ ⟨x, rfl⟩))
    go_ret
    exact Gives.mk (by rw [HV.out]; rfl)
  rw [szD_pos h2]
  go_wp2_with (first | ((with_reducible refine wp_region_later (by kernel_rfl) (by kernel_rfl) ?_); (repeat (first | go_big_quiet_step (first | fail))); refine wpQuiet_nil ?_; rintro _ ⟨x, rfl⟩))
  refine (d_lszFileOutS (HFF.out.q9.keep inferInstance) (by omega) (by omega)).mono ?_
  rintro _ _ ⟨rfl, y3, rfl⟩
  by_cases h3 : left - Enc.tot x.Board - Enc.tot x.Packer - totL x.Files - totL x.Outs < 0
  · have HV := Lib.hid (show szD left (Enc.tot x) = -1 from szD_neg (by rw [HTOT.out]; omega))
    rw [szD_neg h3]
    go_wp2_with (first | ((with_reducible refine wp_region_later (by kernel_rfl) (by kernel_rfl) ?_); (repeat (first | go_big_quiet_step (first | fail))); refine wpQuiet_nil ?_; rintro _ ⟨x, rfl⟩))
    go_ret
    exact Gives.mk (by rw [HV.out]; rfl)
  rw [szD_pos h3]
  go_wp2_with (first | ((with_reducible refine wp_region_later (by kernel_rfl) (by kernel_rfl) ?_); (repeat (first | go_big_quiet_step (first | fail))); refine wpQuiet_nil ?_; rintro _ ⟨x, rfl⟩))
  refine (d_lszRecordS (HFF.out.q10.keep inferInstance) (by omega) (by omega)).mono ?_
  rintro _ _ ⟨rfl, y4, rfl⟩
  by_cases h4 : left - Enc.tot x.Board - Enc.tot x.Packer - totL x.Files - totL x.Outs - totL x.Sent < 0
  · have HV := Lib.hid (show szD left (Enc.tot x) = -1 from szD_neg (by rw [HTOT.out]; omega))
    rw [szD_neg h4]
    go_wp2_with (first | ((with_reducible refine wp_region_later (by kernel_rfl) (by kernel_rfl) ?_); (repeat (first | go_big_quiet_step (first | fail))); refine wpQuiet_nil ?_; rintro _ ⟨x, rfl⟩))
    go_ret
    exact Gives.mk (by rw [HV.out]; rfl)
  rw [szD_pos h4]
  have HV := Lib.hid (show szD left (Enc.tot x) = left - Enc.tot x.Board - Enc.tot x.Packer - totL x.Files - totL x.Outs - totL x.Sent by rw [szD_pos (by rw [HTOT.out]; omega), HTOT.out] <;> omega)
  go_wp2_with (first | ((with_reducible refine wp_region_later (by kernel_rfl) (by kernel_rfl) ?_); (repeat (first | go_big_quiet_step (first | fail))); refine wpQuiet_nil ?_; rintro _ ⟨x, rfl⟩))
  go_ret
  exact Gives.mk (by rw [HV.out]; rfl)

theorem d_leqSpace {B B2 : Nat} {vs vs2 : List Value} {x : TSpace} {w : World} (h : Enc.Rd B w vs x) (h2 : Enc.Rd B2 w vs2 x) :
    Calls Tryz.prog 47 #[.agg vs.toArray, .agg vs2.toArray] w (Gives w (.bool true)) := by
  obtain ⟨A, rfl, F⟩ := h
  obtain ⟨mA, rfl, mF⟩ := h2
  have HOK := Lib.hid F.ok
  have HB := Lib.hid ((Held.new w [.int .i64 x.Receiver.Expect, .bool x.Receiver.Locked, .bool x.Receiver.Again, .int .i64 x.Receiver.Taken, .int .i64 x.Board.Clock, .slice A.a0 x.Board.Params.length A.c0, .bool x.Board.Safe, .slice A.a1 x.Board.Limits.length A.c1, .slice A.a2 x.Board.Orders.length A.c2, .slice A.a3 x.Board.Done.length A.c3, .int .i64 x.Board.Recorder.Room, .slice A.a4 x.Board.Recorder.Records.length A.c4, .slice A.a5 x.Board.Recorder.Dropped.length A.c5, .int .i64 x.Board.Made, .int .i64 x.Board.Taken, .slice A.a6 x.Board.Asked.length A.c6, .int .i64 x.Packer.Channel, .int .i64 x.Packer.Count, .string x.Packer.Rest, .slice A.a7 x.Packer.Starts.length A.c7, .int .i64 x.Seq, .slice A.a8 x.Files.length A.c8, .slice A.a9 x.Outs.length A.c9, .int .i64 x.Begun, .slice A.a10 x.Sent.length A.c10] 89 w.heap.size rfl).to (inferInstance : Grows _ ((w.alloc (.cells #[.int .i64 x.Receiver.Expect, .bool x.Receiver.Locked, .bool x.Receiver.Again, .int .i64 x.Receiver.Taken, .int .i64 x.Board.Clock, .slice A.a0 x.Board.Params.length A.c0, .bool x.Board.Safe, .slice A.a1 x.Board.Limits.length A.c1, .slice A.a2 x.Board.Orders.length A.c2, .slice A.a3 x.Board.Done.length A.c3, .int .i64 x.Board.Recorder.Room, .slice A.a4 x.Board.Recorder.Records.length A.c4, .slice A.a5 x.Board.Recorder.Dropped.length A.c5, .int .i64 x.Board.Made, .int .i64 x.Board.Taken, .slice A.a6 x.Board.Asked.length A.c6, .int .i64 x.Packer.Channel, .int .i64 x.Packer.Count, .string x.Packer.Rest, .slice A.a7 x.Packer.Starts.length A.c7, .int .i64 x.Seq, .slice A.a8 x.Files.length A.c8, .slice A.a9 x.Outs.length A.c9, .int .i64 x.Begun, .slice A.a10 x.Sent.length A.c10] 89)).alloc (.cells #[.int .i64 x.Receiver.Expect, .bool x.Receiver.Locked, .bool x.Receiver.Again, .int .i64 x.Receiver.Taken, .int .i64 x.Board.Clock, .slice mA.a0 x.Board.Params.length mA.c0, .bool x.Board.Safe, .slice mA.a1 x.Board.Limits.length mA.c1, .slice mA.a2 x.Board.Orders.length mA.c2, .slice mA.a3 x.Board.Done.length mA.c3, .int .i64 x.Board.Recorder.Room, .slice mA.a4 x.Board.Recorder.Records.length mA.c4, .slice mA.a5 x.Board.Recorder.Dropped.length mA.c5, .int .i64 x.Board.Made, .int .i64 x.Board.Taken, .slice mA.a6 x.Board.Asked.length mA.c6, .int .i64 x.Packer.Channel, .int .i64 x.Packer.Count, .string x.Packer.Rest, .slice mA.a7 x.Packer.Starts.length mA.c7, .int .i64 x.Seq, .slice mA.a8 x.Files.length mA.c8, .slice mA.a9 x.Outs.length mA.c9, .int .i64 x.Begun, .slice mA.a10 x.Sent.length mA.c10] 89))))
  have HC := Lib.hid (Held.new (w.alloc (.cells #[.int .i64 x.Receiver.Expect, .bool x.Receiver.Locked, .bool x.Receiver.Again, .int .i64 x.Receiver.Taken, .int .i64 x.Board.Clock, .slice A.a0 x.Board.Params.length A.c0, .bool x.Board.Safe, .slice A.a1 x.Board.Limits.length A.c1, .slice A.a2 x.Board.Orders.length A.c2, .slice A.a3 x.Board.Done.length A.c3, .int .i64 x.Board.Recorder.Room, .slice A.a4 x.Board.Recorder.Records.length A.c4, .slice A.a5 x.Board.Recorder.Dropped.length A.c5, .int .i64 x.Board.Made, .int .i64 x.Board.Taken, .slice A.a6 x.Board.Asked.length A.c6, .int .i64 x.Packer.Channel, .int .i64 x.Packer.Count, .string x.Packer.Rest, .slice A.a7 x.Packer.Starts.length A.c7, .int .i64 x.Seq, .slice A.a8 x.Files.length A.c8, .slice A.a9 x.Outs.length A.c9, .int .i64 x.Begun, .slice A.a10 x.Sent.length A.c10] 89)) [.int .i64 x.Receiver.Expect, .bool x.Receiver.Locked, .bool x.Receiver.Again, .int .i64 x.Receiver.Taken, .int .i64 x.Board.Clock, .slice mA.a0 x.Board.Params.length mA.c0, .bool x.Board.Safe, .slice mA.a1 x.Board.Limits.length mA.c1, .slice mA.a2 x.Board.Orders.length mA.c2, .slice mA.a3 x.Board.Done.length mA.c3, .int .i64 x.Board.Recorder.Room, .slice mA.a4 x.Board.Recorder.Records.length mA.c4, .slice mA.a5 x.Board.Recorder.Dropped.length mA.c5, .int .i64 x.Board.Made, .int .i64 x.Board.Taken, .slice mA.a6 x.Board.Asked.length mA.c6, .int .i64 x.Packer.Channel, .int .i64 x.Packer.Count, .string x.Packer.Rest, .slice mA.a7 x.Packer.Starts.length mA.c7, .int .i64 x.Seq, .slice mA.a8 x.Files.length mA.c8, .slice mA.a9 x.Outs.length mA.c9, .int .i64 x.Begun, .slice mA.a10 x.Sent.length mA.c10] 89 (w.heap.size + 1) (by simp))
  have HFF := Lib.hid F; clear F
  have HMF := Lib.hid mF; clear mF
  go_enter Tryz.func47, Tryz.ntmps47
  go_wp2_with (first | ((with_reducible refine wp_region_later (by kernel_rfl) (by kernel_rfl) ?_); (repeat (first | go_big_quiet_step (first | fail))); refine wpQuiet_nil ?_; rintro _ ⟨x, rfl⟩) | (refine stepLoad rfl _ _ rfl (w.heap.size) 0 rfl (row := [.int .i64 x.Receiver.Expect, .bool x.Receiver.Locked, .bool x.Receiver.Again, .int .i64 x.Receiver.Taken]) (HB.out.to inferInstance) _ Tryz.underlying78 rfl (by kernel_rfl) (by kernel_rfl) ?_) | (refine stepLoad rfl _ _ rfl (w.heap.size + 1) 0 rfl (row := [.int .i64 x.Receiver.Expect, .bool x.Receiver.Locked, .bool x.Receiver.Again, .int .i64 x.Receiver.Taken]) (HC.out.to inferInstance) _ Tryz.underlying78 rfl (by kernel_rfl) (by kernel_rfl) ?_))
  refine (d_leqReceiver (B := 0) (B2 := 0) (x := x.Receiver) ⟨rfl, HOK.out.1⟩ ⟨rfl, HOK.out.1⟩).mono ?_
  rintro _ _ ⟨rfl, y0, rfl⟩
  go_wp2_with (first | ((with_reducible refine wp_region_later (by kernel_rfl) (by kernel_rfl) ?_); (repeat (first | go_big_quiet_step (first | fail))); refine wpQuiet_nil ?_; rintro _ ⟨x, rfl⟩) | (refine stepLoad rfl _ _ rfl (w.heap.size) 4 rfl (row := [.int .i64 x.Board.Clock, .slice A.a0 x.Board.Params.length A.c0, .bool x.Board.Safe, .slice A.a1 x.Board.Limits.length A.c1, .slice A.a2 x.Board.Orders.length A.c2, .slice A.a3 x.Board.Done.length A.c3, .int .i64 x.Board.Recorder.Room, .slice A.a4 x.Board.Recorder.Records.length A.c4, .slice A.a5 x.Board.Recorder.Dropped.length A.c5, .int .i64 x.Board.Made, .int .i64 x.Board.Taken, .slice A.a6 x.Board.Asked.length A.c6]) (HB.out.to inferInstance) _ Tryz.underlying85 rfl (by kernel_rfl) (by kernel_rfl) ?_) | (refine stepLoad rfl _ _ rfl (w.heap.size + 1) 4 rfl (row := [.int .i64 x.Board.Clock, .slice mA.a0 x.Board.Params.length mA.c0, .bool x.Board.Safe, .slice mA.a1 x.Board.Limits.length mA.c1, .slice mA.a2 x.Board.Orders.length mA.c2, .slice mA.a3 x.Board.Done.length mA.c3, .int .i64 x.Board.Recorder.Room, .slice mA.a4 x.Board.Recorder.Records.length mA.c4, .slice mA.a5 x.Board.Recorder.Dropped.length mA.c5, .int .i64 x.Board.Made, .int .i64 x.Board.Taken, .slice mA.a6 x.Board.Asked.length mA.c6]) (HC.out.to inferInstance) _ Tryz.underlying85 rfl (by kernel_rfl) (by kernel_rfl) ?_))
  refine (d_leqBoard (x := x.Board) ⟨⟨A.a0, A.c0, A.a1, A.c1, A.a2, A.c2, A.a3, A.c3, A.a4, A.c4, A.a5, A.c5, A.a6, A.c6⟩, rfl, ⟨HFF.out.q0.keep inferInstance, HFF.out.q1.keep inferInstance, HFF.out.q2.keep inferInstance, HFF.out.q3.keep inferInstance, HFF.out.q4.keep inferInstance, HFF.out.q5.keep inferInstance, HFF.out.q6.keep inferInstance, HOK.out.2.1⟩⟩ ⟨⟨mA.a0, mA.c0, mA.a1, mA.c1, mA.a2, mA.c2, mA.a3, mA.c3, mA.a4, mA.c4, mA.a5, mA.c5, mA.a6, mA.c6⟩, rfl, ⟨HMF.out.q0.keep inferInstance, HMF.out.q1.keep inferInstance, HMF.out.q2.keep inferInstance, HMF.out.q3.keep inferInstance, HMF.out.q4.keep inferInstance, HMF.out.q5.keep inferInstance, HMF.out.q6.keep inferInstance, HOK.out.2.1⟩⟩).mono ?_
  rintro _ _ ⟨rfl, y1, rfl⟩
  go_wp2_with (first | ((with_reducible refine wp_region_later (by kernel_rfl) (by kernel_rfl) ?_); (repeat (first | go_big_quiet_step (first | fail))); refine wpQuiet_nil ?_; rintro _ ⟨x, rfl⟩) | (refine stepLoad rfl _ _ rfl (w.heap.size) 16 rfl (row := [.int .i64 x.Packer.Channel, .int .i64 x.Packer.Count, .string x.Packer.Rest, .slice A.a7 x.Packer.Starts.length A.c7]) (HB.out.to inferInstance) _ Tryz.underlying86 rfl (by kernel_rfl) (by kernel_rfl) ?_) | (refine stepLoad rfl _ _ rfl (w.heap.size + 1) 16 rfl (row := [.int .i64 x.Packer.Channel, .int .i64 x.Packer.Count, .string x.Packer.Rest, .slice mA.a7 x.Packer.Starts.length mA.c7]) (HC.out.to inferInstance) _ Tryz.underlying86 rfl (by kernel_rfl) (by kernel_rfl) ?_))
  refine (d_leqPacker (x := x.Packer) ⟨A.a7, A.c7, rfl, HFF.out.q7.keep inferInstance, HOK.out.2.2.1⟩ ⟨mA.a7, mA.c7, rfl, HMF.out.q7.keep inferInstance, HOK.out.2.2.1⟩).mono ?_
  rintro _ _ ⟨rfl, y2, rfl⟩
  go_wp2_with (first | ((with_reducible refine wp_region_later (by kernel_rfl) (by kernel_rfl) ?_); (repeat (first | go_big_quiet_step (first | fail))); refine wpQuiet_nil ?_; rintro _ ⟨x, rfl⟩))
  refine (d_leqStringS (HFF.out.q8.keep inferInstance) (HMF.out.q8.keep inferInstance)).mono ?_
  rintro _ _ ⟨rfl, y3, rfl⟩
  go_wp2_with (first | ((with_reducible refine wp_region_later (by kernel_rfl) (by kernel_rfl) ?_); (repeat (first | go_big_quiet_step (first | fail))); refine wpQuiet_nil ?_; rintro _ ⟨x, rfl⟩))
  refine (d_leqFileOutS (HFF.out.q9.keep inferInstance) (HMF.out.q9.keep inferInstance)).mono ?_
  rintro _ _ ⟨rfl, y4, rfl⟩
  go_wp2_with (first | ((with_reducible refine wp_region_later (by kernel_rfl) (by kernel_rfl) ?_); (repeat (first | go_big_quiet_step (first | fail))); refine wpQuiet_nil ?_; rintro _ ⟨x, rfl⟩))
  refine (d_leqRecordS (HFF.out.q10.keep inferInstance) (HMF.out.q10.keep inferInstance)).mono ?_
  rintro _ _ ⟨rfl, y5, rfl⟩
  go_wp2_with (first | ((with_reducible refine wp_region_later (by kernel_rfl) (by kernel_rfl) ?_); (repeat (first | go_big_quiet_step (first | fail))); refine wpQuiet_nil ?_; rintro _ ⟨x, rfl⟩))
  go_ret
  exact Gives.mk rfl

end Go.Proofs.YtdankjbkioepgaaGreat
