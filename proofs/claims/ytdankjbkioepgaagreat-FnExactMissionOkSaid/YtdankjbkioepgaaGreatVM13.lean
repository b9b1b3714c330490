/- The contract of the mirror of the ground. No condition but on sizes. · The contracts of FileText and MissingOf. No condition but on lengths. · The contract of MissingOf, the reference's. No condition but on lengths. · The contract of FileText, the reference's. No condition but on lengths. -/
import Derived.Test.YtdankjbkioepgaaGreatVDF2
import Derived.Test.YtdankjbkioepgaaGreatVDM1
import Derived.Test.YtdankjbkioepgaaGreatVDM2
import Derived.Test.YtdankjbkioepgaaGreatVM2
import Derived.Test.YtdankjbkioepgaaGreatVFileI
namespace Go.Proofs.YtdankjbkioepgaaGreat
set_option linter.unusedVariables false
open Go.ChangeShapes Go.WideShapes Go.ChangeAt Go.RowKit

set_option maxRecDepth 100000 in
set_option maxHeartbeats 2000000 in
theorem d_ltoGround {B : Nat} {vs : List Value} {x : TGround} {w : World} (h : Enc.Rd B w vs x) (ht : Enc.tot x ≤ 1048576) :
    Calls Tryz.prog 37 #[.agg vs.toArray] w (GivesD w x) := by
  obtain ⟨A, rfl, F⟩ := h
  have HT := Lib.hid (show totL x.Offers ≤ 1048576 ∧ Enc.tot x.Sender ≤ 1048576 ∧ Enc.tot x.Unpacker ≤ 1048576 ∧ totL x.Pairs ≤ 1048576 ∧ totL x.Records ≤ 1048576 ∧ totL x.Files ≤ 1048576 ∧ totL x.Told ≤ 1048576 ∧ True from by
    have ht2 : totL x.Offers + Enc.tot x.Sender + Enc.tot x.Unpacker + totL x.Pairs + totL x.Records + totL x.Files + totL x.Told ≤ 1048576 := ht
    have n0 := totL_nonneg x.Offers
    have n1 := Enc.tot_nonneg x.Sender
    have n2 := Enc.tot_nonneg x.Unpacker
    have n3 := totL_nonneg x.Pairs
    have n4 := totL_nonneg x.Records
    have n5 := totL_nonneg x.Files
    have n6 := totL_nonneg x.Told
    refine ⟨?_, ?_, ?_, ?_, ?_, ?_, ?_, trivial⟩ <;> omega)
  clear ht
  have HOK := Lib.hid F.ok
  have HFF := Lib.hid F; clear F
  have H0 := Lib.hid (Held.new ((w.alloc (.cells #[.slice A.a0 x.Offers.length A.c0, .int .i64 x.Sender.Next, .int .i64 x.Sender.Window, .slice A.a1 x.Sender.Waiting.length A.c1, .int .i64 x.Sender.Done, .int .i64 x.Notice.Expect, .bool x.Notice.Locked, .bool x.Notice.Again, .int .i64 x.Unpacker.Channel, .int .i64 x.Unpacker.Next, .bool x.Unpacker.Synced, .string x.Unpacker.Rest, .int .i64 x.Unpacker.Lost, .slice A.a2 x.Pairs.length A.c2, .slice A.a3 x.Records.length A.c3, .slice A.a4 x.Files.length A.c4, .slice A.a5 x.Told.length A.c5] 43)).alloc (.cells #[.slice none 0 0, .int .i64 0, .int .i64 0, .slice none 0 0, .int .i64 0, .int .i64 0, .bool false, .bool false, .int .i64 0, .int .i64 0, .bool false, .string ⟨#[]⟩, .int .i64 0, .slice none 0 0, .slice none 0 0, .slice none 0 0, .slice none 0 0] 77)) [.slice none 0 0, .int .i64 0, .int .i64 0, .slice none 0 0, .int .i64 0, .int .i64 0, .bool false, .bool false, .int .i64 0, .int .i64 0, .bool false, .string ⟨#[]⟩, .int .i64 0, .slice none 0 0, .slice none 0 0, .slice none 0 0, .slice none 0 0] 77 (w.heap.size + 2) (by simp))
  have R0 := Lib.hid ((Held.new (w.alloc (.cells #[.slice A.a0 x.Offers.length A.c0, .int .i64 x.Sender.Next, .int .i64 x.Sender.Window, .slice A.a1 x.Sender.Waiting.length A.c1, .int .i64 x.Sender.Done, .int .i64 x.Notice.Expect, .bool x.Notice.Locked, .bool x.Notice.Again, .int .i64 x.Unpacker.Channel, .int .i64 x.Unpacker.Next, .bool x.Unpacker.Synced, .string x.Unpacker.Rest, .int .i64 x.Unpacker.Lost, .slice A.a2 x.Pairs.length A.c2, .slice A.a3 x.Records.length A.c3, .slice A.a4 x.Files.length A.c4, .slice A.a5 x.Told.length A.c5] 43)) [.slice none 0 0, .int .i64 0, .int .i64 0, .slice none 0 0, .int .i64 0, .int .i64 0, .bool false, .bool false, .int .i64 0, .int .i64 0, .bool false, .string ⟨#[]⟩, .int .i64 0, .slice none 0 0, .slice none 0 0, .slice none 0 0, .slice none 0 0] 77 (w.heap.size + 1) (by simp)).to (inferInstance : Grows _ (((w.alloc (.cells #[.slice A.a0 x.Offers.length A.c0, .int .i64 x.Sender.Next, .int .i64 x.Sender.Window, .slice A.a1 x.Sender.Waiting.length A.c1, .int .i64 x.Sender.Done, .int .i64 x.Notice.Expect, .bool x.Notice.Locked, .bool x.Notice.Again, .int .i64 x.Unpacker.Channel, .int .i64 x.Unpacker.Next, .bool x.Unpacker.Synced, .string x.Unpacker.Rest, .int .i64 x.Unpacker.Lost, .slice A.a2 x.Pairs.length A.c2, .slice A.a3 x.Records.length A.c3, .slice A.a4 x.Files.length A.c4, .slice A.a5 x.Told.length A.c5] 43)).alloc (.cells #[.slice none 0 0, .int .i64 0, .int .i64 0, .slice none 0 0, .int .i64 0, .int .i64 0, .bool false, .bool false, .int .i64 0, .int .i64 0, .bool false, .string ⟨#[]⟩, .int .i64 0, .slice none 0 0, .slice none 0 0, .slice none 0 0, .slice none 0 0] 77)).alloc (.cells #[.slice none 0 0, .int .i64 0, .int .i64 0, .slice none 0 0, .int .i64 0, .int .i64 0, .bool false, .bool false, .int .i64 0, .int .i64 0, .bool false, .string ⟨#[]⟩, .int .i64 0, .slice none 0 0, .slice none 0 0, .slice none 0 0, .slice none 0 0] 77))))
  have HB := Lib.hid ((Held.new w [.slice A.a0 x.Offers.length A.c0, .int .i64 x.Sender.Next, .int .i64 x.Sender.Window, .slice A.a1 x.Sender.Waiting.length A.c1, .int .i64 x.Sender.Done, .int .i64 x.Notice.Expect, .bool x.Notice.Locked, .bool x.Notice.Again, .int .i64 x.Unpacker.Channel, .int .i64 x.Unpacker.Next, .bool x.Unpacker.Synced, .string x.Unpacker.Rest, .int .i64 x.Unpacker.Lost, .slice A.a2 x.Pairs.length A.c2, .slice A.a3 x.Records.length A.c3, .slice A.a4 x.Files.length A.c4, .slice A.a5 x.Told.length A.c5] 43 w.heap.size rfl).to (inferInstance : Grows _ ((w.alloc (.cells #[.slice A.a0 x.Offers.length A.c0, .int .i64 x.Sender.Next, .int .i64 x.Sender.Window, .slice A.a1 x.Sender.Waiting.length A.c1, .int .i64 x.Sender.Done, .int .i64 x.Notice.Expect, .bool x.Notice.Locked, .bool x.Notice.Again, .int .i64 x.Unpacker.Channel, .int .i64 x.Unpacker.Next, .bool x.Unpacker.Synced, .string x.Unpacker.Rest, .int .i64 x.Unpacker.Lost, .slice A.a2 x.Pairs.length A.c2, .slice A.a3 x.Records.length A.c3, .slice A.a4 x.Files.length A.c4, .slice A.a5 x.Told.length A.c5] 43)).alloc (.cells #[.slice none 0 0, .int .i64 0, .int .i64 0, .slice none 0 0, .int .i64 0, .int .i64 0, .bool false, .bool false, .int .i64 0, .int .i64 0, .bool false, .string ⟨#[]⟩, .int .i64 0, .slice none 0 0, .slice none 0 0, .slice none 0 0, .slice none 0 0] 77))))
  go_enter Tryz.func37, Tryz.ntmps37
  go_wp2_with (first | ((with_reducible refine wp_region_later (by kernel_rfl) (by kernel_rfl) ?_); (repeat (first | go_big_quiet_step (first | fail))); refine wpQuiet_nil ?_; rintro _ ⟨x, rfl⟩))
  refine (d_ltoStringS (HFF.out.q0.keep inferInstance) (HT.out.1)).mono ?_
  rintro _ _ ⟨na0, nc0, rfl, nq0, y0, rfl⟩
  have Q0 := Lib.hid (nq0.mono (B' := w.heap.size + 3) LeN.out)
  clear nq0
  go_wp2_with (first | ((with_reducible refine wp_region_later (by kernel_rfl) (by kernel_rfl) ?_); (repeat (first | go_big_quiet_step (first | fail))); refine wpQuiet_nil ?_; rintro _ ⟨x, rfl⟩) | (refine stepStore rfl _ _ _ rfl (w.heap.size + 2) 0 rfl (us := [.slice na0 x.Offers.length nc0]) (cs2 := [.slice na0 x.Offers.length nc0, .int .i64 0, .int .i64 0, .slice none 0 0, .int .i64 0, .int .i64 0, .bool false, .bool false, .int .i64 0, .int .i64 0, .bool false, .string ⟨#[]⟩, .int .i64 0, .slice none 0 0, .slice none 0 0, .slice none 0 0, .slice none 0 0]) (H0.out.to inferInstance) rfl (by kernel_rfl) rfl (Nat.le_of_ble_eq_true rfl) (by kernel_rfl) (w0 := ((w.alloc (.cells #[.slice A.a0 x.Offers.length A.c0, .int .i64 x.Sender.Next, .int .i64 x.Sender.Window, .slice A.a1 x.Sender.Waiting.length A.c1, .int .i64 x.Sender.Done, .int .i64 x.Notice.Expect, .bool x.Notice.Locked, .bool x.Notice.Again, .int .i64 x.Unpacker.Channel, .int .i64 x.Unpacker.Next, .bool x.Unpacker.Synced, .string x.Unpacker.Rest, .int .i64 x.Unpacker.Lost, .slice A.a2 x.Pairs.length A.c2, .slice A.a3 x.Records.length A.c3, .slice A.a4 x.Files.length A.c4, .slice A.a5 x.Told.length A.c5] 43)).alloc (.cells #[.slice none 0 0, .int .i64 0, .int .i64 0, .slice none 0 0, .int .i64 0, .int .i64 0, .bool false, .bool false, .int .i64 0, .int .i64 0, .bool false, .string ⟨#[]⟩, .int .i64 0, .slice none 0 0, .slice none 0 0, .slice none 0 0, .slice none 0 0] 77))) inferInstance (by simp) ?_; intro z1 h1 k1; have H1 := Lib.hid h1; clear h1 H0; have e1 : LeN (w.heap.size + 3) z1.w.heap.size := ⟨H1.out.lt⟩; have K1 := Lib.hid k1; clear k1) | (refine stepLoad rfl _ _ rfl (w.heap.size) 1 rfl (row := [.int .i64 x.Sender.Next, .int .i64 x.Sender.Window, .slice A.a1 x.Sender.Waiting.length A.c1, .int .i64 x.Sender.Done]) (HB.out.to inferInstance) _ Tryz.underlying33 rfl (by kernel_rfl) (by kernel_rfl) ?_))
  refine (d_ltoSender (x := x.Sender) ⟨A.a1, A.c1, rfl, HFF.out.q1.keep inferInstance, HOK.out.1⟩ (HT.out.2.1)).mono ?_
  rintro _ _ ⟨_, rfl, ⟨n1a0, n1c0, rfl, n1q0, -⟩, y1, rfl⟩
  have Q1 := Lib.hid (n1q0.mono (B' := w.heap.size + 3) LeN.out)
  clear n1q0
  go_wp2_with (first | ((with_reducible refine wp_region_later (by kernel_rfl) (by kernel_rfl) ?_); (repeat (first | go_big_quiet_step (first | fail))); refine wpQuiet_nil ?_; rintro _ ⟨x, rfl⟩) | (refine stepStore rfl _ _ _ rfl (w.heap.size + 2) 1 rfl (us := [.int .i64 x.Sender.Next, .int .i64 x.Sender.Window, .slice n1a0 x.Sender.Waiting.length n1c0, .int .i64 x.Sender.Done]) (cs2 := [.slice na0 x.Offers.length nc0, .int .i64 x.Sender.Next, .int .i64 x.Sender.Window, .slice n1a0 x.Sender.Waiting.length n1c0, .int .i64 x.Sender.Done, .int .i64 0, .bool false, .bool false, .int .i64 0, .int .i64 0, .bool false, .string ⟨#[]⟩, .int .i64 0, .slice none 0 0, .slice none 0 0, .slice none 0 0, .slice none 0 0]) (H1.out.to inferInstance) rfl (by kernel_rfl) rfl (Nat.le_of_ble_eq_true rfl) (by kernel_rfl) (w0 := ((w.alloc (.cells #[.slice A.a0 x.Offers.length A.c0, .int .i64 x.Sender.Next, .int .i64 x.Sender.Window, .slice A.a1 x.Sender.Waiting.length A.c1, .int .i64 x.Sender.Done, .int .i64 x.Notice.Expect, .bool x.Notice.Locked, .bool x.Notice.Again, .int .i64 x.Unpacker.Channel, .int .i64 x.Unpacker.Next, .bool x.Unpacker.Synced, .string x.Unpacker.Rest, .int .i64 x.Unpacker.Lost, .slice A.a2 x.Pairs.length A.c2, .slice A.a3 x.Records.length A.c3, .slice A.a4 x.Files.length A.c4, .slice A.a5 x.Told.length A.c5] 43)).alloc (.cells #[.slice none 0 0, .int .i64 0, .int .i64 0, .slice none 0 0, .int .i64 0, .int .i64 0, .bool false, .bool false, .int .i64 0, .int .i64 0, .bool false, .string ⟨#[]⟩, .int .i64 0, .slice none 0 0, .slice none 0 0, .slice none 0 0, .slice none 0 0] 77))) inferInstance (by simp) ?_; intro z2 h2 k2; have H2 := Lib.hid h2; clear h2 H1; have e2 : LeN (w.heap.size + 3) z2.w.heap.size := ⟨H2.out.lt⟩; have K2 := Lib.hid k2; clear k2) | (refine stepLoad rfl _ _ rfl (w.heap.size) 5 rfl (row := [.int .i64 x.Notice.Expect, .bool x.Notice.Locked, .bool x.Notice.Again]) (HB.out.to inferInstance) _ Tryz.underlying35 rfl (by kernel_rfl) (by kernel_rfl) ?_))
  refine (d_ltoNotice (B := 0) (x := x.Notice) ⟨rfl, HOK.out.2.1⟩ (show (0 : Int) ≤ 1048576 by omega)).mono ?_
  rintro _ _ ⟨_, rfl, ⟨rfl, -⟩, y2, rfl⟩
  go_wp2_with (first | ((with_reducible refine wp_region_later (by kernel_rfl) (by kernel_rfl) ?_); (repeat (first | go_big_quiet_step (first | fail))); refine wpQuiet_nil ?_; rintro _ ⟨x, rfl⟩) | (refine stepStore rfl _ _ _ rfl (w.heap.size + 2) 5 rfl (us := [.int .i64 x.Notice.Expect, .bool x.Notice.Locked, .bool x.Notice.Again]) (cs2 := [.slice na0 x.Offers.length nc0, .int .i64 x.Sender.Next, .int .i64 x.Sender.Window, .slice n1a0 x.Sender.Waiting.length n1c0, .int .i64 x.Sender.Done, .int .i64 x.Notice.Expect, .bool x.Notice.Locked, .bool x.Notice.Again, .int .i64 0, .int .i64 0, .bool false, .string ⟨#[]⟩, .int .i64 0, .slice none 0 0, .slice none 0 0, .slice none 0 0, .slice none 0 0]) (H2.out.to inferInstance) rfl (by kernel_rfl) rfl (Nat.le_of_ble_eq_true rfl) (by kernel_rfl) (w0 := ((w.alloc (.cells #[.slice A.a0 x.Offers.length A.c0, .int .i64 x.Sender.Next, .int .i64 x.Sender.Window, .slice A.a1 x.Sender.Waiting.length A.c1, .int .i64 x.Sender.Done, .int .i64 x.Notice.Expect, .bool x.Notice.Locked, .bool x.Notice.Again, .int .i64 x.Unpacker.Channel, .int .i64 x.Unpacker.Next, .bool x.Unpacker.Synced, .string x.Unpacker.Rest, .int .i64 x.Unpacker.Lost, .slice A.a2 x.Pairs.length A.c2, .slice A.a3 x.Records.length A.c3, .slice A.a4 x.Files.length A.c4, .slice A.a5 x.Told.length A.c5] 43)).alloc (.cells #[.slice none 0 0, .int .i64 0, .int .i64 0, .slice none 0 0, .int .i64 0, .int .i64 0, .bool false, .bool false, .int .i64 0, .int .i64 0, .bool false, .string ⟨#[]⟩, .int .i64 0, .slice none 0 0, .slice none 0 0, .slice none 0 0, .slice none 0 0] 77))) inferInstance (by simp) ?_; intro z3 h3 k3; have H3 := Lib.hid h3; clear h3 H2; have e3 : LeN (w.heap.size + 3) z3.w.heap.size := ⟨H3.out.lt⟩; have K3 := Lib.hid k3; clear k3) | (refine stepLoad rfl _ _ rfl (w.heap.size) 8 rfl (row := [.int .i64 x.Unpacker.Channel, .int .i64 x.Unpacker.Next, .bool x.Unpacker.Synced, .string x.Unpacker.Rest, .int .i64 x.Unpacker.Lost]) (HB.out.to inferInstance) _ Tryz.underlying37 rfl (by kernel_rfl) (by kernel_rfl) ?_))
  refine (d_ltoUnpacker (B := 0) (x := x.Unpacker) ⟨rfl, HOK.out.2.2.1⟩ (HT.out.2.2.1)).mono ?_
  rintro _ _ ⟨_, rfl, ⟨rfl, -⟩, y3, rfl⟩
  go_wp2_with (first | ((with_reducible refine wp_region_later (by kernel_rfl) (by kernel_rfl) ?_); (repeat (first | go_big_quiet_step (first | fail))); refine wpQuiet_nil ?_; rintro _ ⟨x, rfl⟩) | (refine stepStore rfl _ _ _ rfl (w.heap.size + 2) 8 rfl (us := [.int .i64 x.Unpacker.Channel, .int .i64 x.Unpacker.Next, .bool x.Unpacker.Synced, .string x.Unpacker.Rest, .int .i64 x.Unpacker.Lost]) (cs2 := [.slice na0 x.Offers.length nc0, .int .i64 x.Sender.Next, .int .i64 x.Sender.Window, .slice n1a0 x.Sender.Waiting.length n1c0, .int .i64 x.Sender.Done, .int .i64 x.Notice.Expect, .bool x.Notice.Locked, .bool x.Notice.Again, .int .i64 x.Unpacker.Channel, .int .i64 x.Unpacker.Next, .bool x.Unpacker.Synced, .string x.Unpacker.Rest, .int .i64 x.Unpacker.Lost, .slice none 0 0, .slice none 0 0, .slice none 0 0, .slice none 0 0]) (H3.out.to inferInstance) rfl (by kernel_rfl) rfl (Nat.le_of_ble_eq_true rfl) (by kernel_rfl) (w0 := ((w.alloc (.cells #[.slice A.a0 x.Offers.length A.c0, .int .i64 x.Sender.Next, .int .i64 x.Sender.Window, .slice A.a1 x.Sender.Waiting.length A.c1, .int .i64 x.Sender.Done, .int .i64 x.Notice.Expect, .bool x.Notice.Locked, .bool x.Notice.Again, .int .i64 x.Unpacker.Channel, .int .i64 x.Unpacker.Next, .bool x.Unpacker.Synced, .string x.Unpacker.Rest, .int .i64 x.Unpacker.Lost, .slice A.a2 x.Pairs.length A.c2, .slice A.a3 x.Records.length A.c3, .slice A.a4 x.Files.length A.c4, .slice A.a5 x.Told.length A.c5] 43)).alloc (.cells #[.slice none 0 0, .int .i64 0, .int .i64 0, .slice none 0 0, .int .i64 0, .int .i64 0, .bool false, .bool false, .int .i64 0, .int .i64 0, .bool false, .string ⟨#[]⟩, .int .i64 0, .slice none 0 0, .slice none 0 0, .slice none 0 0, .slice none 0 0] 77))) inferInstance (by simp) ?_; intro z4 h4 k4; have H4 := Lib.hid h4; clear h4 H3; have e4 : LeN (w.heap.size + 3) z4.w.heap.size := ⟨H4.out.lt⟩; have K4 := Lib.hid k4; clear k4))
  refine (d_ltoPairS (HFF.out.q2.keep inferInstance) (HT.out.2.2.2.1)).mono ?_
  rintro _ _ ⟨na2, nc2, rfl, nq2, y4, rfl⟩
  have Q2 := Lib.hid (nq2.mono (B' := w.heap.size + 3) LeN.out)
  clear nq2
  go_wp2_with (first | ((with_reducible refine wp_region_later (by kernel_rfl) (by kernel_rfl) ?_); (repeat (first | go_big_quiet_step (first | fail))); refine wpQuiet_nil ?_; rintro _ ⟨x, rfl⟩) | (refine stepStore rfl _ _ _ rfl (w.heap.size + 2) 13 rfl (us := [.slice na2 x.Pairs.length nc2]) (cs2 := [.slice na0 x.Offers.length nc0, .int .i64 x.Sender.Next, .int .i64 x.Sender.Window, .slice n1a0 x.Sender.Waiting.length n1c0, .int .i64 x.Sender.Done, .int .i64 x.Notice.Expect, .bool x.Notice.Locked, .bool x.Notice.Again, .int .i64 x.Unpacker.Channel, .int .i64 x.Unpacker.Next, .bool x.Unpacker.Synced, .string x.Unpacker.Rest, .int .i64 x.Unpacker.Lost, .slice na2 x.Pairs.length nc2, .slice none 0 0, .slice none 0 0, .slice none 0 0]) (H4.out.to inferInstance) rfl (by kernel_rfl) rfl (Nat.le_of_ble_eq_true rfl) (by kernel_rfl) (w0 := ((w.alloc (.cells #[.slice A.a0 x.Offers.length A.c0, .int .i64 x.Sender.Next, .int .i64 x.Sender.Window, .slice A.a1 x.Sender.Waiting.length A.c1, .int .i64 x.Sender.Done, .int .i64 x.Notice.Expect, .bool x.Notice.Locked, .bool x.Notice.Again, .int .i64 x.Unpacker.Channel, .int .i64 x.Unpacker.Next, .bool x.Unpacker.Synced, .string x.Unpacker.Rest, .int .i64 x.Unpacker.Lost, .slice A.a2 x.Pairs.length A.c2, .slice A.a3 x.Records.length A.c3, .slice A.a4 x.Files.length A.c4, .slice A.a5 x.Told.length A.c5] 43)).alloc (.cells #[.slice none 0 0, .int .i64 0, .int .i64 0, .slice none 0 0, .int .i64 0, .int .i64 0, .bool false, .bool false, .int .i64 0, .int .i64 0, .bool false, .string ⟨#[]⟩, .int .i64 0, .slice none 0 0, .slice none 0 0, .slice none 0 0, .slice none 0 0] 77))) inferInstance (by simp) ?_; intro z5 h5 k5; have H5 := Lib.hid h5; clear h5 H4; have e5 : LeN (w.heap.size + 3) z5.w.heap.size := ⟨H5.out.lt⟩; have K5 := Lib.hid k5; clear k5))
  refine (d_ltoRecordS (HFF.out.q3.keep inferInstance) (HT.out.2.2.2.2.1)).mono ?_
  rintro _ _ ⟨na3, nc3, rfl, nq3, y5, rfl⟩
  have Q3 := Lib.hid (nq3.mono (B' := w.heap.size + 3) LeN.out)
  clear nq3
  go_wp2_with (first | ((with_reducible refine wp_region_later (by kernel_rfl) (by kernel_rfl) ?_); (repeat (first | go_big_quiet_step (first | fail))); refine wpQuiet_nil ?_; rintro _ ⟨x, rfl⟩) | (refine stepStore rfl _ _ _ rfl (w.heap.size + 2) 14 rfl (us := [.slice na3 x.Records.length nc3]) (cs2 := [.slice na0 x.Offers.length nc0, .int .i64 x.Sender.Next, .int .i64 x.Sender.Window, .slice n1a0 x.Sender.Waiting.length n1c0, .int .i64 x.Sender.Done, .int .i64 x.Notice.Expect, .bool x.Notice.Locked, .bool x.Notice.Again, .int .i64 x.Unpacker.Channel, .int .i64 x.Unpacker.Next, .bool x.Unpacker.Synced, .string x.Unpacker.Rest, .int .i64 x.Unpacker.Lost, .slice na2 x.Pairs.length nc2, .slice na3 x.Records.length nc3, .slice none 0 0, .slice none 0 0]) (H5.out.to inferInstance) rfl (by kernel_rfl) rfl (Nat.le_of_ble_eq_true rfl) (by kernel_rfl) (w0 := ((w.alloc (.cells #[.slice A.a0 x.Offers.length A.c0, .int .i64 x.Sender.Next, .int .i64 x.Sender.Window, .slice A.a1 x.Sender.Waiting.length A.c1, .int .i64 x.Sender.Done, .int .i64 x.Notice.Expect, .bool x.Notice.Locked, .bool x.Notice.Again, .int .i64 x.Unpacker.Channel, .int .i64 x.Unpacker.Next, .bool x.Unpacker.Synced, .string x.Unpacker.Rest, .int .i64 x.Unpacker.Lost, .slice A.a2 x.Pairs.length A.c2, .slice A.a3 x.Records.length A.c3, .slice A.a4 x.Files.length A.c4, .slice A.a5 x.Told.length A.c5] 43)).alloc (.cells #[.slice none 0 0, .int .i64 0, .int .i64 0, .slice none 0 0, .int .i64 0, .int .i64 0, .bool false, .bool false, .int .i64 0, .int .i64 0, .bool false, .string ⟨#[]⟩, .int .i64 0, .slice none 0 0, .slice none 0 0, .slice none 0 0, .slice none 0 0] 77))) inferInstance (by simp) ?_; intro z6 h6 k6; have H6 := Lib.hid h6; clear h6 H5; have e6 : LeN (w.heap.size + 3) z6.w.heap.size := ⟨H6.out.lt⟩; have K6 := Lib.hid k6; clear k6))
  refine (d_ltoFileInS (HFF.out.q4.keep inferInstance) (HT.out.2.2.2.2.2.1)).mono ?_
  rintro _ _ ⟨na4, nc4, rfl, nq4, y6, rfl⟩
  have Q4 := Lib.hid (nq4.mono (B' := w.heap.size + 3) LeN.out)
  clear nq4
  go_wp2_with (first | ((with_reducible refine wp_region_later (by kernel_rfl) (by kernel_rfl) ?_); (repeat (first | go_big_quiet_step (first | fail))); refine wpQuiet_nil ?_; rintro _ ⟨x, rfl⟩) | (refine stepStore rfl _ _ _ rfl (w.heap.size + 2) 15 rfl (us := [.slice na4 x.Files.length nc4]) (cs2 := [.slice na0 x.Offers.length nc0, .int .i64 x.Sender.Next, .int .i64 x.Sender.Window, .slice n1a0 x.Sender.Waiting.length n1c0, .int .i64 x.Sender.Done, .int .i64 x.Notice.Expect, .bool x.Notice.Locked, .bool x.Notice.Again, .int .i64 x.Unpacker.Channel, .int .i64 x.Unpacker.Next, .bool x.Unpacker.Synced, .string x.Unpacker.Rest, .int .i64 x.Unpacker.Lost, .slice na2 x.Pairs.length nc2, .slice na3 x.Records.length nc3, .slice na4 x.Files.length nc4, .slice none 0 0]) (H6.out.to inferInstance) rfl (by kernel_rfl) rfl (Nat.le_of_ble_eq_true rfl) (by kernel_rfl) (w0 := ((w.alloc (.cells #[.slice A.a0 x.Offers.length A.c0, .int .i64 x.Sender.Next, .int .i64 x.Sender.Window, .slice A.a1 x.Sender.Waiting.length A.c1, .int .i64 x.Sender.Done, .int .i64 x.Notice.Expect, .bool x.Notice.Locked, .bool x.Notice.Again, .int .i64 x.Unpacker.Channel, .int .i64 x.Unpacker.Next, .bool x.Unpacker.Synced, .string x.Unpacker.Rest, .int .i64 x.Unpacker.Lost, .slice A.a2 x.Pairs.length A.c2, .slice A.a3 x.Records.length A.c3, .slice A.a4 x.Files.length A.c4, .slice A.a5 x.Told.length A.c5] 43)).alloc (.cells #[.slice none 0 0, .int .i64 0, .int .i64 0, .slice none 0 0, .int .i64 0, .int .i64 0, .bool false, .bool false, .int .i64 0, .int .i64 0, .bool false, .string ⟨#[]⟩, .int .i64 0, .slice none 0 0, .slice none 0 0, .slice none 0 0, .slice none 0 0] 77))) inferInstance (by simp) ?_; intro z7 h7 k7; have H7 := Lib.hid h7; clear h7 H6; have e7 : LeN (w.heap.size + 3) z7.w.heap.size := ⟨H7.out.lt⟩; have K7 := Lib.hid k7; clear k7))
  refine (d_ltoBoolS (HFF.out.q5.keep inferInstance) (HT.out.2.2.2.2.2.2.1)).mono ?_
  rintro _ _ ⟨na5, nc5, rfl, nq5, y7, rfl⟩
  have Q5 := Lib.hid (nq5.mono (B' := w.heap.size + 3) LeN.out)
  clear nq5
  go_wp2_with (first | ((with_reducible refine wp_region_later (by kernel_rfl) (by kernel_rfl) ?_); (repeat (first | go_big_quiet_step (first | fail))); refine wpQuiet_nil ?_; rintro _ ⟨x, rfl⟩) | (refine stepStore rfl _ _ _ rfl (w.heap.size + 2) 16 rfl (us := [.slice na5 x.Told.length nc5]) (cs2 := [.slice na0 x.Offers.length nc0, .int .i64 x.Sender.Next, .int .i64 x.Sender.Window, .slice n1a0 x.Sender.Waiting.length n1c0, .int .i64 x.Sender.Done, .int .i64 x.Notice.Expect, .bool x.Notice.Locked, .bool x.Notice.Again, .int .i64 x.Unpacker.Channel, .int .i64 x.Unpacker.Next, .bool x.Unpacker.Synced, .string x.Unpacker.Rest, .int .i64 x.Unpacker.Lost, .slice na2 x.Pairs.length nc2, .slice na3 x.Records.length nc3, .slice na4 x.Files.length nc4, .slice na5 x.Told.length nc5]) (H7.out.to inferInstance) rfl (by kernel_rfl) rfl (Nat.le_of_ble_eq_true rfl) (by kernel_rfl) (w0 := ((w.alloc (.cells #[.slice A.a0 x.Offers.length A.c0, .int .i64 x.Sender.Next, .int .i64 x.Sender.Window, .slice A.a1 x.Sender.Waiting.length A.c1, .int .i64 x.Sender.Done, .int .i64 x.Notice.Expect, .bool x.Notice.Locked, .bool x.Notice.Again, .int .i64 x.Unpacker.Channel, .int .i64 x.Unpacker.Next, .bool x.Unpacker.Synced, .string x.Unpacker.Rest, .int .i64 x.Unpacker.Lost, .slice A.a2 x.Pairs.length A.c2, .slice A.a3 x.Records.length A.c3, .slice A.a4 x.Files.length A.c4, .slice A.a5 x.Told.length A.c5] 43)).alloc (.cells #[.slice none 0 0, .int .i64 0, .int .i64 0, .slice none 0 0, .int .i64 0, .int .i64 0, .bool false, .bool false, .int .i64 0, .int .i64 0, .bool false, .string ⟨#[]⟩, .int .i64 0, .slice none 0 0, .slice none 0 0, .slice none 0 0, .slice none 0 0] 77))) inferInstance (by simp) ?_; intro z8 h8 k8; have H8 := Lib.hid h8; clear h8 H7; have e8 : LeN (w.heap.size + 3) z8.w.heap.size := ⟨H8.out.lt⟩; have K8 := Lib.hid k8; clear k8) | (refine stepLoad rfl _ _ rfl (w.heap.size + 2) 0 rfl (row := [.slice na0 x.Offers.length nc0, .int .i64 x.Sender.Next, .int .i64 x.Sender.Window, .slice n1a0 x.Sender.Waiting.length n1c0, .int .i64 x.Sender.Done, .int .i64 x.Notice.Expect, .bool x.Notice.Locked, .bool x.Notice.Again, .int .i64 x.Unpacker.Channel, .int .i64 x.Unpacker.Next, .bool x.Unpacker.Synced, .string x.Unpacker.Rest, .int .i64 x.Unpacker.Lost, .slice na2 x.Pairs.length nc2, .slice na3 x.Records.length nc3, .slice na4 x.Files.length nc4, .slice na5 x.Told.length nc5]) H8.out _ Tryz.underlying77 rfl (by kernel_rfl) (by kernel_rfl) ?_) | (refine stepStore rfl _ _ _ rfl (w.heap.size + 1) 0 rfl (us := [.slice na0 x.Offers.length nc0, .int .i64 x.Sender.Next, .int .i64 x.Sender.Window, .slice n1a0 x.Sender.Waiting.length n1c0, .int .i64 x.Sender.Done, .int .i64 x.Notice.Expect, .bool x.Notice.Locked, .bool x.Notice.Again, .int .i64 x.Unpacker.Channel, .int .i64 x.Unpacker.Next, .bool x.Unpacker.Synced, .string x.Unpacker.Rest, .int .i64 x.Unpacker.Lost, .slice na2 x.Pairs.length nc2, .slice na3 x.Records.length nc3, .slice na4 x.Files.length nc4, .slice na5 x.Told.length nc5]) (cs2 := [.slice na0 x.Offers.length nc0, .int .i64 x.Sender.Next, .int .i64 x.Sender.Window, .slice n1a0 x.Sender.Waiting.length n1c0, .int .i64 x.Sender.Done, .int .i64 x.Notice.Expect, .bool x.Notice.Locked, .bool x.Notice.Again, .int .i64 x.Unpacker.Channel, .int .i64 x.Unpacker.Next, .bool x.Unpacker.Synced, .string x.Unpacker.Rest, .int .i64 x.Unpacker.Lost, .slice na2 x.Pairs.length nc2, .slice na3 x.Records.length nc3, .slice na4 x.Files.length nc4, .slice na5 x.Told.length nc5]) ((Held.new (w.alloc (.cells #[.slice A.a0 x.Offers.length A.c0, .int .i64 x.Sender.Next, .int .i64 x.Sender.Window, .slice A.a1 x.Sender.Waiting.length A.c1, .int .i64 x.Sender.Done, .int .i64 x.Notice.Expect, .bool x.Notice.Locked, .bool x.Notice.Again, .int .i64 x.Unpacker.Channel, .int .i64 x.Unpacker.Next, .bool x.Unpacker.Synced, .string x.Unpacker.Rest, .int .i64 x.Unpacker.Lost, .slice A.a2 x.Pairs.length A.c2, .slice A.a3 x.Records.length A.c3, .slice A.a4 x.Files.length A.c4, .slice A.a5 x.Told.length A.c5] 43)) [.slice none 0 0, .int .i64 0, .int .i64 0, .slice none 0 0, .int .i64 0, .int .i64 0, .bool false, .bool false, .int .i64 0, .int .i64 0, .bool false, .string ⟨#[]⟩, .int .i64 0, .slice none 0 0, .slice none 0 0, .slice none 0 0, .slice none 0 0] 77 (w.heap.size + 1) (by simp)).to inferInstance) rfl (by kernel_rfl) rfl (Nat.le_of_ble_eq_true rfl) (by kernel_rfl) (w0 := (w.alloc (.cells #[.slice A.a0 x.Offers.length A.c0, .int .i64 x.Sender.Next, .int .i64 x.Sender.Window, .slice A.a1 x.Sender.Waiting.length A.c1, .int .i64 x.Sender.Done, .int .i64 x.Notice.Expect, .bool x.Notice.Locked, .bool x.Notice.Again, .int .i64 x.Unpacker.Channel, .int .i64 x.Unpacker.Next, .bool x.Unpacker.Synced, .string x.Unpacker.Rest, .int .i64 x.Unpacker.Lost, .slice A.a2 x.Pairs.length A.c2, .slice A.a3 x.Records.length A.c3, .slice A.a4 x.Files.length A.c4, .slice A.a5 x.Told.length A.c5] 43))) inferInstance (by simp) ?_; intro zr hr kr; have HR := Lib.hid hr; clear hr; have KR := Lib.hid kr; clear kr))
  have G8 : Keeps (w.heap.size + 3) z8.w zr.w := ⟨KR.out.size, fun b h1 h2 => KR.out.block b (by omega) h2⟩
  have GY7 : Keeps (w.heap.size + 3) y7.w zr.w := Keeps.trans K8.out G8
  have G7 : Keeps (w.heap.size + 3) z7.w zr.w := Keeps.trans inferInstance GY7
  have GY6 : Keeps (w.heap.size + 3) y6.w zr.w := Keeps.trans K7.out G7
  have G6 : Keeps (w.heap.size + 3) z6.w zr.w := Keeps.trans inferInstance GY6
  have GY5 : Keeps (w.heap.size + 3) y5.w zr.w := Keeps.trans K6.out G6
  have G5 : Keeps (w.heap.size + 3) z5.w zr.w := Keeps.trans inferInstance GY5
  have GY4 : Keeps (w.heap.size + 3) y4.w zr.w := Keeps.trans K5.out G5
  have G4 : Keeps (w.heap.size + 3) z4.w zr.w := Keeps.trans inferInstance GY4
  have GY3 : Keeps (w.heap.size + 3) y3.w zr.w := Keeps.trans K4.out G4
  have G3 : Keeps (w.heap.size + 3) z3.w zr.w := Keeps.trans inferInstance GY3
  have GY2 : Keeps (w.heap.size + 3) y2.w zr.w := Keeps.trans K3.out G3
  have G2 : Keeps (w.heap.size + 3) z2.w zr.w := Keeps.trans inferInstance GY2
  have GY1 : Keeps (w.heap.size + 3) y1.w zr.w := Keeps.trans K2.out G2
  have G1 : Keeps (w.heap.size + 3) z1.w zr.w := Keeps.trans inferInstance GY1
  have GY0 : Keeps (w.heap.size + 3) y0.w zr.w := Keeps.trans K1.out G1
  refine bodyPost_ret (v := .agg #[.slice na0 x.Offers.length nc0, .int .i64 x.Sender.Next, .int .i64 x.Sender.Window, .slice n1a0 x.Sender.Waiting.length n1c0, .int .i64 x.Sender.Done, .int .i64 x.Notice.Expect, .bool x.Notice.Locked, .bool x.Notice.Again, .int .i64 x.Unpacker.Channel, .int .i64 x.Unpacker.Next, .bool x.Unpacker.Synced, .string x.Unpacker.Rest, .int .i64 x.Unpacker.Lost, .slice na2 x.Pairs.length nc2, .slice na3 x.Records.length nc3, .slice na4 x.Files.length nc4, .slice na5 x.Told.length nc5]) (results_cell (P := Tryz.prog) rfl rfl HR.out _ Tryz.underlying77 rfl (by kernel_rfl)) rfl ⟨[.slice na0 x.Offers.length nc0, .int .i64 x.Sender.Next, .int .i64 x.Sender.Window, .slice n1a0 x.Sender.Waiting.length n1c0, .int .i64 x.Sender.Done, .int .i64 x.Notice.Expect, .bool x.Notice.Locked, .bool x.Notice.Again, .int .i64 x.Unpacker.Channel, .int .i64 x.Unpacker.Next, .bool x.Unpacker.Synced, .string x.Unpacker.Rest, .int .i64 x.Unpacker.Lost, .slice na2 x.Pairs.length nc2, .slice na3 x.Records.length nc3, .slice na4 x.Files.length nc4, .slice na5 x.Told.length nc5], rfl, ⟨⟨na0, nc0, n1a0, n1c0, na2, nc2, na3, nc3, na4, nc4, na5, nc5⟩, rfl, ⟨(Q0.out.keep GY0).mono (by omega), (Q1.out.keep GY1).mono (by omega), (Q2.out.keep GY4).mono (by omega), (Q3.out.keep GY5).mono (by omega), (Q4.out.keep GY6).mono (by omega), (Q5.out.keep GY7).mono (by omega), HOK.out⟩⟩, Later.of⟩

end Go.Proofs.YtdankjbkioepgaaGreat

namespace Go.Proofs.YtdankjbkioepgaaGreat
set_option linter.unusedVariables false
open Go.ChangeShapes Go.WideShapes Go.ChangeAt Go.RowKit

def joined (p : List ByteArray) : ByteArray := p.foldl (· ++ ·) ⟨#[]⟩
def noEmpty (p : List ByteArray) : Bool := p.all (fun s => !(s.toList == []))
/-- The segments that a file has. -/
def segsIn (z : Int) (p : List ByteArray) : List ByteArray := p.take (countSeg z).toNat
def textIs (f z k : Int) (p : List ByteArray) : Bool := fileInOk f z k p && (!(z == -1) && (noEmpty (segsIn z p) && (((joined (segsIn z p)).size : Int) == z && checkOf (joined (segsIn z p)) == k)))
def fileText (f z k : Int) (p : List ByteArray) : ByteArray := if textIs f z k p = true then joined (segsIn z p) else ⟨#[]⟩
theorem joined_snoc (p : List ByteArray) (s : ByteArray) : joined (p ++ [s]) = joined p ++ s := by simp [joined, List.foldl_append]
theorem noEmpty_snoc (p : List ByteArray) (s : ByteArray) : noEmpty (p ++ [s]) = (noEmpty p && !(s.toList == [])) := by simp [noEmpty, List.all_append]
theorem noEmpty_cons (p : List ByteArray) (s : ByteArray) : noEmpty (s :: p) = (!(s.toList == []) && noEmpty p) := by simp [noEmpty]
theorem fileInOk_parts {f z k : Int} {p : List ByteArray} (h : fileInOk f z k p = true) : p.length = 25 ∧ ∀ s ∈ p, s.size ≤ 24 := by
  simp only [fileInOk, Bool.and_eq_true, decide_eq_true_eq] at h
  refine ⟨h.2.2.2.2.1, fun s hs => ?_⟩
  have := List.all_eq_true.1 h.2.2.2.2.2 s hs
  simpa using this
theorem take_snoc2 {p : List ByteArray} {j : Nat} {s : ByteArray} (h : p[j]? = some s) : p.take (j + 1) = p.take j ++ [s] := by
  rw [List.take_add_one, h]; rfl
def tupText (t : ByteArray) (b : Bool) : Value := .tuple #[.string t, .bool b]

set_option maxRecDepth 100000 in
set_option maxHeartbeats 2000000 in
theorem c_iFileText {a : Option Addr} {n c : Nat} {f z k : Int} {p : List ByteArray} {w : World} (hs : Sl encStr w a p) (hn : p.length = n) (hm : n ≤ 1048576) (hsz : ∀ s ∈ p, s.size ≤ 1048576) :
    Calls Tryz.prog 54 #[.agg #[.int .i64 f, .int .i64 z, .int .i64 k, .slice a n c]] w (Gives w (tupText (fileText f z k p) (textIs f z k p))) := by
  have HS := Lib.hid hsz; clear hsz
  cases c0 : fileInOk f z k p
  · have HV := Lib.hid (show textIs f z k p = false by rw [textIs, c0]; rfl)
    go_enter Tryz.func54, Tryz.ntmps54
    go_wp2_with (first | ((with_reducible refine wp_region_later (by kernel_rfl) (by kernel_rfl) ?_); (repeat (first | go_big_quiet_step (first | fail))); refine wpQuiet_nil ?_; rintro _ ⟨x, rfl⟩))
    refine (c_iFileInOk (hs.to inferInstance) hn (by omega) HS.out).mono ?_
    rintro _ _ ⟨rfl, y1, rfl⟩
    go_wp2_with (first | ((with_reducible refine wp_region_later (by kernel_rfl) (by kernel_rfl) ?_); (repeat (first | go_big_quiet_step (first | fail) | simp only [c0])); refine wpQuiet_nil ?_; rintro _ ⟨x, rfl⟩))
    refine bodyPost_ret (v := .tuple #[.string ⟨#[]⟩, .bool false]) ?_ rfl (Gives.mk (by rw [fileText, HV.out]; rfl))
    simp [results, Tryz.results54, go_sem]
  have hpp := fileInOk_parts c0
  have h25 : n = 25 := by omega
  have HP := Lib.hid hpp.2; clear hpp
  cases c1 : (z == -1)
  · obtain ⟨N, hN⟩ : ∃ N : Nat, countSeg z = N := ⟨(countSeg z).toNat, by have := countSeg_bd z; omega⟩
    have hNb : N ≤ 25 := by have := countSeg_bd z; omega
    have HN := Lib.hid (show segsIn z p = p.take N by rw [segsIn, hN]; rfl)
    have HC := Lib.hid hN; clear hN
    have HV := Lib.hid (show textIs f z k p = (noEmpty (p.take N) && (((joined (p.take N)).size : Int) == z && checkOf (joined (p.take N)) == k)) by rw [textIs, c0, c1, HN.out]; rfl)
    have H25 := Lib.hid h25
    have hnn : 25 ≤ n := by omega
    clear h25
    go_enter Tryz.func54, Tryz.ntmps54
    go_wp2_with (first | ((with_reducible refine wp_region_later (by kernel_rfl) (by kernel_rfl) ?_); (repeat (first | go_big_quiet_step (first | fail))); refine wpQuiet_nil ?_; rintro _ ⟨x, rfl⟩))
    refine (c_iFileInOk (hs.to inferInstance) hn (by omega) HS.out).mono ?_
    rintro _ _ ⟨rfl, y1, rfl⟩
    go_wp2_with (first | ((with_reducible refine wp_region_later (by kernel_rfl) (by kernel_rfl) ?_); (repeat (first | go_big_quiet_step (first | fail) | simp only [c0] | simp only [c1])); refine wpQuiet_nil ?_; rintro _ ⟨x, rfl⟩))
    refine c_iCountSegments.mono ?_
    rintro _ _ ⟨rfl, y2, rfl⟩
    rw [HC.out]
    go_wp2_with (first | ((with_reducible refine wp_region_later (by kernel_rfl) (by kernel_rfl) ?_); (repeat (first | go_big_quiet_step (first | fail))); refine wpQuiet_nil ?_; rintro _ ⟨x, rfl⟩))
    go_loopw [4, 17] (fun u v wr => ∃ (j : Nat) (acc : ByteArray), v = .int .i64 j ∧ u = .string acc ∧ j ≤ N ∧ acc.size ≤ 24 * j ∧ Hid (acc = joined (p.take j) ∧ noEmpty (p.take j) = true) ∧ ∃ x : Later (w.alloc (.cells #[.int .i64 f, .int .i64 z, .int .i64 k, .slice a n c] 131)), wr = x.w) (fun _ v _ => (N - intOf v).toNat)
    case atStart => exact ⟨0, _, rfl, rfl, by omega, by simp [ByteArray.size], ⟨rfl, rfl⟩, Later.of⟩
    case round =>
      obtain ⟨j, acc, rfl, rfl, hj, hacc, hf, x, rfl⟩ := hrel
      by_cases h : j < N
      · have hjn : j < n := by omega
        obtain ⟨b, off, s, rfl, hb, hd, h0⟩ := hs.str (show j < p.length by omega)
        have hps : p[j]? = some s := by
          have := congrArg (fun m => m[0]?) hd.out
          simpa using this
        have hss : s.size ≤ 24 := HP.out s (List.mem_of_getElem? hps)
        have HPS := Lib.hid hps; clear hps hd
        cases c2 : (s.toList == [])
        · have HF := Lib.hid (show acc ++ s = joined (p.take (j + 1)) ∧ noEmpty (p.take (j + 1)) = true by
            rw [take_snoc2 HPS.out, joined_snoc, noEmpty_snoc, hf.out.2, c2, ← hf.out.1]; exact ⟨rfl, rfl⟩)
          go_wp2_with (first | ((with_reducible refine wp_region_later (by kernel_rfl) (by kernel_rfl) ?_); (repeat (first | go_big_quiet_step (first | fail) | simp only [c2])); refine wpQuiet_nil ?_; rintro _ ⟨x, rfl⟩))
          go_roundw
          case rel => exact ⟨j + 1, _, by go_num, rfl, by omega, by rw [ByteArray.size_append]; omega, HF, Later.of⟩
          case measure => simp [intOf]; omega
        · have HF := Lib.hid (show textIs f z k p = false by
            have h8 : noEmpty (p.take N) = false := by
              cases h9 : noEmpty (p.take N)
              · rfl
              · have hmem : s ∈ p.take N := List.mem_of_getElem? (i := j) (by rw [List.getElem?_take_of_lt h]; exact HPS.out)
                have := List.all_eq_true.1 h9 s hmem
                rw [c2] at this; cases this
            rw [HV.out, h8]; rfl)
          clear HV hf
          go_wp2_with (first | ((with_reducible refine wp_region_later (by kernel_rfl) (by kernel_rfl) ?_); (repeat (first | go_big_quiet_step (first | fail) | simp only [c2])); refine wpQuiet_nil ?_; rintro _ ⟨x, rfl⟩))
          refine bodyPost_ret (v := .tuple #[.string ⟨#[]⟩, .bool false]) ?_ rfl (Gives.mk (by rw [fileText, HF.out]; rfl))
          simp [results, Tryz.results54, go_sem]
      · have hjN : j = N := by omega
        have HF := Lib.hid (show acc = joined (p.take N) ∧ noEmpty (p.take N) = true by rw [← hjN]; exact hf.out)
        clear hf hjN
        have HV2 := Lib.hid (show textIs f z k p = (((acc.size : Int) == z) && (checkOf acc == k)) by rw [HV.out, HF.out.2, HF.out.1]; rfl)
        have HT := Lib.hid (show joined (segsIn z p) = acc by rw [HN.out, HF.out.1])
        clear HV HF
        cases c3 : ((acc.size : Int) == z)
        · have c4 : ((acc.size : Int) != z) = true := by rw [bne, c3]; rfl
          have HV3 := Lib.hid (show textIs f z k p = false by rw [HV2.out, c3]; rfl)
          go_wp2_with (first | ((with_reducible refine wp_region_later (by kernel_rfl) (by kernel_rfl) ?_); (repeat (first | go_big_quiet_step (first | (go_at_call 119; exact Gives.quiet (c_iCheckOf (by omega)))) | simp only [c4])); refine wpQuiet_nil ?_; rintro _ ⟨x, rfl⟩) | (go_at_call 119; refine (c_iCheckOf (by omega)).mono ?_; rintro _ _ ⟨rfl, x, rfl⟩))
          refine bodyPost_ret (v := .tuple #[.string ⟨#[]⟩, .bool false]) ?_ rfl (Gives.mk (by rw [fileText, HV3.out]; rfl))
          simp [results, Tryz.results54, go_sem]
        · have c4 : ((acc.size : Int) != z) = false := by rw [bne, c3]; rfl
          cases c5 : (checkOf acc == k)
          · have c6 : (checkOf acc != k) = true := by rw [bne, c5]; rfl
            have HV3 := Lib.hid (show textIs f z k p = false by rw [HV2.out, c3, c5]; rfl)
            go_wp2_with (first | ((with_reducible refine wp_region_later (by kernel_rfl) (by kernel_rfl) ?_); (repeat (first | go_big_quiet_step (first | (go_at_call 119; exact Gives.quiet (c_iCheckOf (by omega)))) | simp only [c4] | simp only [c6])); refine wpQuiet_nil ?_; rintro _ ⟨x, rfl⟩) | (go_at_call 119; refine (c_iCheckOf (by omega)).mono ?_; rintro _ _ ⟨rfl, x, rfl⟩))
            refine bodyPost_ret (v := .tuple #[.string ⟨#[]⟩, .bool false]) ?_ rfl (Gives.mk (by rw [fileText, HV3.out]; rfl))
            simp [results, Tryz.results54, go_sem]
          · have c6 : (checkOf acc != k) = false := by rw [bne, c5]; rfl
            have HV3 := Lib.hid (show textIs f z k p = true by rw [HV2.out, c3, c5]; rfl)
            go_wp2_with (first | ((with_reducible refine wp_region_later (by kernel_rfl) (by kernel_rfl) ?_); (repeat (first | go_big_quiet_step (first | (go_at_call 119; exact Gives.quiet (c_iCheckOf (by omega)))) | simp only [c4] | simp only [c6])); refine wpQuiet_nil ?_; rintro _ ⟨x, rfl⟩) | (go_at_call 119; refine (c_iCheckOf (by omega)).mono ?_; rintro _ _ ⟨rfl, x, rfl⟩))
            refine bodyPost_ret (v := .tuple #[.string acc, .bool true]) ?_ rfl (Gives.mk (by rw [fileText, HV3.out, HT.out]; rfl))
            simp [results, Tryz.results54, go_sem]
  · obtain rfl : z = -1 := by simpa using c1
    have HV := Lib.hid (show textIs f (-1) k p = false by rw [textIs, c0]; rfl)
    clear c1 h25
    go_enter Tryz.func54, Tryz.ntmps54
    go_wp2_with (first | ((with_reducible refine wp_region_later (by kernel_rfl) (by kernel_rfl) ?_); (repeat (first | go_big_quiet_step (first | fail))); refine wpQuiet_nil ?_; rintro _ ⟨x, rfl⟩))
    refine (c_iFileInOk (hs.to inferInstance) hn (by omega) HS.out).mono ?_
    rintro _ _ ⟨rfl, y1, rfl⟩
    go_wp2_with (first | ((with_reducible refine wp_region_later (by kernel_rfl) (by kernel_rfl) ?_); (repeat (first | go_big_quiet_step (first | fail) | simp only [c0])); refine wpQuiet_nil ?_; rintro _ ⟨x, rfl⟩))
    refine bodyPost_ret (v := .tuple #[.string ⟨#[]⟩, .bool false]) ?_ rfl (Gives.mk (by rw [fileText, HV.out]; rfl))
    simp [results, Tryz.results54, go_sem]

end Go.Proofs.YtdankjbkioepgaaGreat

namespace Go.Proofs.YtdankjbkioepgaaGreat
set_option linter.unusedVariables false
open Go.ChangeShapes Go.WideShapes Go.ChangeAt Go.RowKit

/-! ### What is missing -/
def missGo (i : Nat) (cnt : Nat) : List ByteArray → List Int
  | [] => []
  | s :: r => if cnt = 0 then [] else if (s.toList == []) = true then (i : Int) :: missGo (i + 1) (cnt - 1) r else missGo (i + 1) cnt r
def missL (f z k : Int) (p : List ByteArray) : List Int := if (fileInOk f z k p && !(z == -1)) = true then missGo 0 20 (segsIn z p) else []
theorem missGo_none : ∀ (p : List ByteArray) (i cnt : Nat), (missGo i (cnt + 1) p = []) ↔ noEmpty p = true
  | [], i, cnt => by simp [missGo, noEmpty]
  | s :: r, i, cnt => by
    have ih := missGo_none r (i + 1) cnt
    rw [missGo, if_neg (by omega), noEmpty_cons]
    cases h : (s.toList == [])
    · simpa using ih
    · simp

set_option maxRecDepth 100000 in
set_option maxHeartbeats 2000000 in
theorem c_sMissingOf {a : Option Addr} {n c : Nat} {f z k : Int} {p : List ByteArray} {w : World} (hs : Sl encStr w a p) (hn : p.length = n) (hm : n ≤ 1048576) (hsz : ∀ s ∈ p, s.size ≤ 1048576) :
    Calls Tryz.prog 114 #[.agg #[.int .i64 f, .int .i64 z, .int .i64 k, .slice a n c]] w (GivesSl encInt 3 1 w (missL f z k p)) := by
  have HS := Lib.hid hsz; clear hsz
  cases c0 : fileInOk f z k p
  · have HV := Lib.hid (show missL f z k p = [] by rw [missL, c0]; rfl)
    go_enter Tryz.func114, Tryz.ntmps114
    go_wp2_with (first | ((with_reducible refine wp_region_later (by kernel_rfl) (by kernel_rfl) ?_); (repeat (first | go_big_quiet_step (first | fail))); refine wpQuiet_nil ?_; rintro _ ⟨x, rfl⟩))
    refine (c_sFileInOk (hs.to inferInstance) hn (by omega) HS.out).mono ?_
    rintro _ _ ⟨rfl, y1, rfl⟩
    go_wp2_with (first | ((with_reducible refine wp_region_later (by kernel_rfl) (by kernel_rfl) ?_); (repeat (first | go_big_quiet_step (first | fail) | simp only [c0])); refine wpQuiet_nil ?_; rintro _ ⟨x, rfl⟩))
    go_ret
    rw [HV.out]
    show GivesSl _ _ _ _ _ (.returned (.slice (some ⟨w.heap.size + 1, 0, none⟩) 0 0)) _
    exact ⟨some ⟨w.heap.size + 1, 0, none⟩, 0, rfl, Own.emptyBlk (g := w.heap.size + 1) encInt_len (by omega) (blk_later _ (blk_alloc _ _ _ (by simp))), Later.of⟩
  have hpp := fileInOk_parts c0
  have h25 : n = 25 := by omega
  cases c1 : (z == -1)
  · obtain ⟨N, hN⟩ : ∃ N : Nat, countSeg z = N := ⟨(countSeg z).toNat, by have := countSeg_bd z; omega⟩
    have hNb : N ≤ 25 := by have := countSeg_bd z; omega
    have HV := Lib.hid (show missL f z k p = missGo 0 20 (p.take N) by rw [missL, c0, c1, segsIn, hN]; rfl)
    have HC := Lib.hid hN; clear hN
    have hnn : 25 ≤ n := by omega
    clear h25 hpp
    go_enter Tryz.func114, Tryz.ntmps114
    go_wp2_with (first | ((with_reducible refine wp_region_later (by kernel_rfl) (by kernel_rfl) ?_); (repeat (first | go_big_quiet_step (first | fail))); refine wpQuiet_nil ?_; rintro _ ⟨x, rfl⟩))
    refine (c_sFileInOk (hs.to inferInstance) hn (by omega) HS.out).mono ?_
    rintro _ _ ⟨rfl, y1, rfl⟩
    go_wp2_with (first | ((with_reducible refine wp_region_later (by kernel_rfl) (by kernel_rfl) ?_); (repeat (first | go_big_quiet_step (first | fail) | simp only [c0] | simp only [c1])); refine wpQuiet_nil ?_; rintro _ ⟨x, rfl⟩))
    go_loopw [3, 4] (fun u v wr => ∃ (j : Nat) (acc : List Int) (m : Nat) (sa : Option Addr) (sc : Nat), v = .int .i64 j ∧ u = .slice sa m sc ∧ acc.length = m ∧ j ≤ N ∧ m ≤ j ∧ m ≤ 20 ∧ Hid (acc ++ missGo j (20 - m) ((p.take N).drop j) = missGo 0 20 (p.take N)) ∧ Own encInt 3 1 (w.alloc (.cells #[.int .i64 f, .int .i64 z, .int .i64 k, .slice a n c] 131)).heap.size wr sa sc acc ∧ ∃ x : Later (w.alloc (.cells #[.int .i64 f, .int .i64 z, .int .i64 k, .slice a n c] 131)), wr = x.w) (fun _ v _ => (N - intOf v).toNat)
    case atStart => exact ⟨0, [], 0, _, 0, rfl, rfl, rfl, by omega, by omega, by omega, by simp [Hid], Own.emptyBlk (g := w.heap.size + 1) encInt_len (by simp) (by first | (refine blk_alloc _ _ _ ?_; (first | rfl | (simp; done))) | (refine blk_past (blk_alloc _ _ _ ?_); (first | rfl | (simp; done))) | (refine blk_later _ (blk_alloc _ _ _ ?_); (first | rfl | (simp; done))) | (refine blk_later _ (blk_past (blk_alloc _ _ _ ?_)); (first | rfl | (simp; done))) | (refine blk_past (blk_past (blk_alloc _ _ _ ?_)); (first | rfl | (simp; done))) | assumption), Later.of⟩
    case round =>
      obtain ⟨j, acc, m, sa, sc, rfl, rfl, hacc, hj, hmj, hm20, hf, hown, x0, rfl⟩ := hrel
      by_cases h : j < N
      · have hjn : j < n := by omega
        obtain ⟨b, off, s, rfl, hb, hd, h0⟩ := hs.str (show j < p.length by omega)
        have hdd : (p.take N).drop j = s :: (p.take N).drop (j + 1) := by
          have hps : p[j]? = some s := by
            have := congrArg (fun m => m[0]?) hd.out
            simpa using this
          have hps2 : (p.take N)[j]? = some s := by rw [List.getElem?_take_of_lt h]; exact hps
          obtain ⟨hl, he⟩ := List.getElem?_eq_some_iff.1 hps2
          rw [List.drop_eq_getElem_cons hl, he]
        have HDD := Lib.hid hdd; clear hdd hd
        have kc : decide ((j : Int) < (N : Int)) = true := by simp; omega
        by_cases h20 : m < 20
        · have k2 : decide ((m : Int) < 20) = true := by simp; omega
          cases c2 : (s.toList == [])
          · have HF := Lib.hid (show acc ++ missGo (j + 1) (20 - m) ((p.take N).drop (j + 1)) = missGo 0 20 (p.take N) by
              have := hf.out; rw [HDD.out, missGo, if_neg (by omega), c2] at this; exact this)
            go_wp2_with (first | ((with_reducible refine wp_region_later (by kernel_rfl) (by kernel_rfl) ?_); (repeat (first | go_big_quiet_step (first | fail))); refine wpQuiet_nil ?_; rintro _ ⟨x, rfl⟩))
            refine c_sCountSegments.mono ?_
            rintro _ _ ⟨rfl, y5, rfl⟩
            rw [HC.out]
            go_wp2_with (first | ((with_reducible refine wp_region_later (by kernel_rfl) (by kernel_rfl) ?_); (repeat (first | go_big_quiet_step (first | fail) | simp only [kc] | simp only [k2] | simp only [c2])); refine wpQuiet_nil ?_; rintro _ ⟨x, rfl⟩))
            go_roundw
            case rel => exact ⟨j + 1, acc, m, sa, sc, by go_num, rfl, hacc, by omega, by omega, by omega, HF, Own.to hown inferInstance, Later.of⟩
            case measure => simp [intOf]; omega
          · have HF := Lib.hid (show (acc ++ [(j : Int)]) ++ missGo (j + 1) (20 - (m + 1)) ((p.take N).drop (j + 1)) = missGo 0 20 (p.take N) by
              have := hf.out; rw [HDD.out, missGo, if_neg (by omega), if_pos c2] at this; rw [List.append_assoc]; exact this)
            go_wp2_with (first | ((with_reducible refine wp_region_later (by kernel_rfl) (by kernel_rfl) ?_); (repeat (first | go_big_quiet_step (first | fail))); refine wpQuiet_nil ?_; rintro _ ⟨x, rfl⟩))
            refine c_sCountSegments.mono ?_
            rintro _ _ ⟨rfl, y5, rfl⟩
            rw [HC.out]
            go_wp2_with (first | ((with_reducible refine wp_region_later (by kernel_rfl) (by kernel_rfl) ?_); (repeat (first | go_big_quiet_step (first | fail) | simp only [kc] | simp only [k2] | simp only [c2])); refine wpQuiet_nil ?_; rintro _ ⟨x, rfl⟩) | (at_builtin; refine wpList_app1 (enc := encInt) (w0 := _) (z := .int .i64 0) (size := 1) (bytes := 8) (j : Int) rfl (.tmp 33) (.tmp 35) rfl Tryz.underlying46 (by kernel_rfl) rfl (by decide) (by decide) rfl rfl hacc (Own.to hown inferInstance) rfl (encInt_one _) (by omega) ?_; intro sa1 sc1 x1 hown1 hgr1))
            go_roundw
            case rel => exact ⟨j + 1, acc ++ [(j : Int)], m + 1, sa1, sc1, by go_num, rfl, by simp [hacc], by omega, by omega, by omega, HF, hown1, Later.of⟩
            case measure => simp [intOf]; omega
        · have k2 : decide ((m : Int) < 20) = false := by simp; omega
          have HF := Lib.hid (show acc = missGo 0 20 (p.take N) by
            have := hf.out; rw [HDD.out, missGo, if_pos (by omega), List.append_nil] at this; exact this)
          go_wp2_with (first | ((with_reducible refine wp_region_later (by kernel_rfl) (by kernel_rfl) ?_); (repeat (first | go_big_quiet_step (first | fail))); refine wpQuiet_nil ?_; rintro _ ⟨x, rfl⟩))
          refine c_sCountSegments.mono ?_
          rintro _ _ ⟨rfl, y5, rfl⟩
          rw [HC.out]
          go_wp2_with (first | ((with_reducible refine wp_region_later (by kernel_rfl) (by kernel_rfl) ?_); (repeat (first | go_big_quiet_step (first | fail) | simp only [kc] | simp only [k2])); refine wpQuiet_nil ?_; rintro _ ⟨x, rfl⟩))
          go_ret
          rw [HV.out, ← HF.out]
          exact ⟨sa, sc, by rw [hacc]; rfl, (Own.to hown inferInstance).mono (by simp), Later.of⟩
      · have kc : decide ((j : Int) < (N : Int)) = false := by simp; omega
        have HF := Lib.hid (show acc = missGo 0 20 (p.take N) by
          have := hf.out; rw [List.drop_of_length_le (by rw [List.length_take]; omega), missGo, List.append_nil] at this; exact this)
        go_wp2_with (first | ((with_reducible refine wp_region_later (by kernel_rfl) (by kernel_rfl) ?_); (repeat (first | go_big_quiet_step (first | fail))); refine wpQuiet_nil ?_; rintro _ ⟨x, rfl⟩))
        refine c_sCountSegments.mono ?_
        rintro _ _ ⟨rfl, y5, rfl⟩
        rw [HC.out]
        go_wp2_with (first | ((with_reducible refine wp_region_later (by kernel_rfl) (by kernel_rfl) ?_); (repeat (first | go_big_quiet_step (first | fail) | simp only [kc])); refine wpQuiet_nil ?_; rintro _ ⟨x, rfl⟩))
        go_ret
        rw [HV.out, ← HF.out]
        exact ⟨sa, sc, by rw [hacc]; rfl, (Own.to hown inferInstance).mono (by simp), Later.of⟩
  · obtain rfl : z = -1 := by simpa using c1
    have HV := Lib.hid (show missL f (-1) k p = [] by rw [missL, c0]; rfl)
    clear c1 h25 hpp
    go_enter Tryz.func114, Tryz.ntmps114
    go_wp2_with (first | ((with_reducible refine wp_region_later (by kernel_rfl) (by kernel_rfl) ?_); (repeat (first | go_big_quiet_step (first | fail))); refine wpQuiet_nil ?_; rintro _ ⟨x, rfl⟩))
    refine (c_sFileInOk (hs.to inferInstance) hn (by omega) HS.out).mono ?_
    rintro _ _ ⟨rfl, y1, rfl⟩
    go_wp2_with (first | ((with_reducible refine wp_region_later (by kernel_rfl) (by kernel_rfl) ?_); (repeat (first | go_big_quiet_step (first | fail) | simp only [c0])); refine wpQuiet_nil ?_; rintro _ ⟨x, rfl⟩))
    go_ret
    rw [HV.out]
    show GivesSl _ _ _ _ _ (.returned (.slice (some ⟨w.heap.size + 1, 0, none⟩) 0 0)) _
    exact ⟨some ⟨w.heap.size + 1, 0, none⟩, 0, rfl, Own.emptyBlk (g := w.heap.size + 1) encInt_len (by omega) (blk_later _ (blk_alloc _ _ _ (by simp))), Later.of⟩
end Go.Proofs.YtdankjbkioepgaaGreat

namespace Go.Proofs.YtdankjbkioepgaaGreat
set_option linter.unusedVariables false
open Go.ChangeShapes Go.WideShapes Go.ChangeAt Go.RowKit

set_option maxRecDepth 100000 in
set_option maxHeartbeats 2000000 in
theorem c_sFileText {a : Option Addr} {n c : Nat} {f z k : Int} {p : List ByteArray} {w : World} (hs : Sl encStr w a p) (hn : p.length = n) (hm : n ≤ 1048576) (hsz : ∀ s ∈ p, s.size ≤ 1048576) :
    Calls Tryz.prog 53 #[.agg #[.int .i64 f, .int .i64 z, .int .i64 k, .slice a n c]] w (Gives w (tupText (fileText f z k p) (textIs f z k p))) := by
  have HS := Lib.hid hsz; clear hsz
  cases c0 : fileInOk f z k p
  · have HV := Lib.hid (show textIs f z k p = false by rw [textIs, c0]; rfl)
    go_enter Tryz.func53, Tryz.ntmps53
    go_wp2_with (first | ((with_reducible refine wp_region_later (by kernel_rfl) (by kernel_rfl) ?_); (repeat (first | go_big_quiet_step (first | fail))); refine wpQuiet_nil ?_; rintro _ ⟨x, rfl⟩))
    refine (c_sFileInOk (hs.to inferInstance) hn (by omega) HS.out).mono ?_
    rintro _ _ ⟨rfl, y1, rfl⟩
    go_wp2_with (first | ((with_reducible refine wp_region_later (by kernel_rfl) (by kernel_rfl) ?_); (repeat (first | go_big_quiet_step (first | fail) | simp only [c0])); refine wpQuiet_nil ?_; rintro _ ⟨x, rfl⟩))
    refine bodyPost_ret (v := .tuple #[.string ⟨#[]⟩, .bool false]) ?_ rfl (Gives.mk (by rw [fileText, HV.out]; rfl))
    simp [results, Tryz.results53, go_sem]
  have hpp := fileInOk_parts c0
  have h25 : n = 25 := by omega
  have HP := Lib.hid hpp.2; clear hpp
  cases c1 : (z == -1)
  · obtain ⟨N, hN⟩ : ∃ N : Nat, countSeg z = N := ⟨(countSeg z).toNat, by have := countSeg_bd z; omega⟩
    have hNb : N ≤ 25 := by have := countSeg_bd z; omega
    have HN := Lib.hid (show segsIn z p = p.take N by rw [segsIn, hN]; rfl)
    have HC := Lib.hid hN; clear hN
    have HV := Lib.hid (show textIs f z k p = (noEmpty (p.take N) && (((joined (p.take N)).size : Int) == z && checkOf (joined (p.take N)) == k)) by rw [textIs, c0, c1, HN.out]; rfl)
    have H25 := Lib.hid h25
    have hnn : 25 ≤ n := by omega
    clear h25
    go_enter Tryz.func53, Tryz.ntmps53
    go_wp2_with (first | ((with_reducible refine wp_region_later (by kernel_rfl) (by kernel_rfl) ?_); (repeat (first | go_big_quiet_step (first | fail))); refine wpQuiet_nil ?_; rintro _ ⟨x, rfl⟩))
    refine (c_sFileInOk (hs.to inferInstance) hn (by omega) HS.out).mono ?_
    rintro _ _ ⟨rfl, y1, rfl⟩
    go_wp2_with (first | ((with_reducible refine wp_region_later (by kernel_rfl) (by kernel_rfl) ?_); (repeat (first | go_big_quiet_step (first | fail) | simp only [c0] | simp only [c1])); refine wpQuiet_nil ?_; rintro _ ⟨x, rfl⟩))
    refine (c_sMissingOf (hs.to inferInstance) hn (by omega) HS.out).mono ?_
    rintro _ _ ⟨a2, c2, rfl, o2, y2, rfl⟩
    clear o2
    have hml : missL f z k p = [] ↔ noEmpty (p.take N) = true := by
      rw [missL, c0, c1, HN.out]; exact missGo_none _ _ _
    obtain ⟨L, hL⟩ : ∃ L, (missL f z k p).length = L := ⟨_, rfl⟩
    rw [hL]
    by_cases hL0 : 0 < L
    · have hne : noEmpty (p.take N) = false := by
        cases h9 : noEmpty (p.take N)
        · rfl
        · rw [hml.2 h9] at hL; simp at hL; omega
      have HV2 := Lib.hid (show textIs f z k p = false by rw [HV.out, hne]; rfl)
      have k3 : decide ((0 : Int) < (L : Int)) = true := by simp; omega
      clear hml hL hne HV
      go_wp2_with (first | ((with_reducible refine wp_region_later (by kernel_rfl) (by kernel_rfl) ?_); (repeat (first | go_big_quiet_step (first | fail) | simp only [c0] | simp only [c1] | simp only [k3])); refine wpQuiet_nil ?_; rintro _ ⟨x, rfl⟩))
      refine bodyPost_ret (v := .tuple #[.string ⟨#[]⟩, .bool false]) ?_ rfl (Gives.mk (by rw [fileText, HV2.out]; rfl))
      simp [results, Tryz.results53, go_sem]
    have HNE := Lib.hid (show noEmpty (p.take N) = true from hml.1 (List.length_eq_zero_iff.1 (by omega)))
    clear hml hL
    obtain rfl : L = 0 := by omega
    clear hL0
    go_wp2_with (first | ((with_reducible refine wp_region_later (by kernel_rfl) (by kernel_rfl) ?_); (repeat (first | go_big_quiet_step (first | fail) | simp only [c0] | simp only [c1])); refine wpQuiet_nil ?_; rintro _ ⟨x, rfl⟩))
    go_loopw [4, 5] (fun u v wr => ∃ (j : Nat) (acc : ByteArray), v = .int .i64 j ∧ u = .string acc ∧ j ≤ N ∧ acc.size ≤ 24 * j ∧ Hid (acc = joined (p.take j)) ∧ ∃ x : Later (w.alloc (.cells #[.int .i64 f, .int .i64 z, .int .i64 k, .slice a n c] 131)), wr = x.w) (fun _ v _ => (N - intOf v).toNat)
    case atStart => exact ⟨0, _, rfl, rfl, by omega, by simp [ByteArray.size], rfl, Later.of⟩
    case round =>
      obtain ⟨j, acc, rfl, rfl, hj, hacc, hf, x, rfl⟩ := hrel
      by_cases h : j < N
      · have hjn : j < n := by omega
        have kc : decide ((j : Int) < (N : Int)) = true := by simp; omega
        obtain ⟨b, off, s, rfl, hb, hd, h0⟩ := hs.str (show j < p.length by omega)
        have hps : p[j]? = some s := by
          have := congrArg (fun m => m[0]?) hd.out
          simpa using this
        have hss : s.size ≤ 24 := HP.out s (List.mem_of_getElem? hps)
        have HF := Lib.hid (show acc ++ s = joined (p.take (j + 1)) by rw [take_snoc2 hps, joined_snoc, ← hf.out])
        clear hps hd
        go_wp2_with (first | ((with_reducible refine wp_region_later (by kernel_rfl) (by kernel_rfl) ?_); (repeat (first | go_big_quiet_step (first | fail))); refine wpQuiet_nil ?_; rintro _ ⟨x, rfl⟩))
        refine c_sCountSegments.mono ?_
        rintro _ _ ⟨rfl, y5, rfl⟩
        rw [HC.out]
        go_wp2_with (first | ((with_reducible refine wp_region_later (by kernel_rfl) (by kernel_rfl) ?_); (repeat (first | go_big_quiet_step (first | fail) | simp only [kc])); refine wpQuiet_nil ?_; rintro _ ⟨x, rfl⟩))
        go_roundw
        case rel => exact ⟨j + 1, _, by go_num, rfl, by omega, by rw [ByteArray.size_append]; omega, HF, Later.of⟩
        case measure => simp [intOf]; omega
      · have hjN : j = N := by omega
        have HF := Lib.hid (show acc = joined (p.take N) ∧ noEmpty (p.take N) = true by rw [← hjN]; exact ⟨hf.out, by rw [hjN]; exact HNE.out⟩)
        have kc : decide ((j : Int) < (N : Int)) = false := by simp; omega
        clear hf hjN
        go_wp2_with (first | ((with_reducible refine wp_region_later (by kernel_rfl) (by kernel_rfl) ?_); (repeat (first | go_big_quiet_step (first | fail))); refine wpQuiet_nil ?_; rintro _ ⟨x, rfl⟩))
        refine c_sCountSegments.mono ?_
        rintro _ _ ⟨rfl, y5, rfl⟩
        rw [HC.out]
        have HV2 := Lib.hid (show textIs f z k p = (((acc.size : Int) == z) && (checkOf acc == k)) by rw [HV.out, HF.out.2, HF.out.1]; rfl)
        have HT := Lib.hid (show joined (segsIn z p) = acc by rw [HN.out, HF.out.1])
        clear HV HF
        cases c3 : ((acc.size : Int) == z)
        · have c4 : ((acc.size : Int) != z) = true := by rw [bne, c3]; rfl
          have HV3 := Lib.hid (show textIs f z k p = false by rw [HV2.out, c3]; rfl)
          go_wp2_with (first | ((with_reducible refine wp_region_later (by kernel_rfl) (by kernel_rfl) ?_); (repeat (first | go_big_quiet_step (first | (go_at_call 116; exact Gives.quiet (c_sCheckOf (by omega)))) | simp only [kc] | simp only [c4])); refine wpQuiet_nil ?_; rintro _ ⟨x, rfl⟩) | (go_at_call 116; refine (c_sCheckOf (by omega)).mono ?_; rintro _ _ ⟨rfl, x, rfl⟩))
          refine bodyPost_ret (v := .tuple #[.string ⟨#[]⟩, .bool false]) ?_ rfl (Gives.mk (by rw [fileText, HV3.out]; rfl))
          simp [results, Tryz.results53, go_sem]
        · have c4 : ((acc.size : Int) != z) = false := by rw [bne, c3]; rfl
          cases c5 : (checkOf acc == k)
          · have c6 : (checkOf acc != k) = true := by rw [bne, c5]; rfl
            have HV3 := Lib.hid (show textIs f z k p = false by rw [HV2.out, c3, c5]; rfl)
            go_wp2_with (first | ((with_reducible refine wp_region_later (by kernel_rfl) (by kernel_rfl) ?_); (repeat (first | go_big_quiet_step (first | (go_at_call 116; exact Gives.quiet (c_sCheckOf (by omega)))) | simp only [kc] | simp only [c4] | simp only [c6])); refine wpQuiet_nil ?_; rintro _ ⟨x, rfl⟩) | (go_at_call 116; refine (c_sCheckOf (by omega)).mono ?_; rintro _ _ ⟨rfl, x, rfl⟩))
            refine bodyPost_ret (v := .tuple #[.string ⟨#[]⟩, .bool false]) ?_ rfl (Gives.mk (by rw [fileText, HV3.out]; rfl))
            simp [results, Tryz.results53, go_sem]
          · have c6 : (checkOf acc != k) = false := by rw [bne, c5]; rfl
            have HV3 := Lib.hid (show textIs f z k p = true by rw [HV2.out, c3, c5]; rfl)
            go_wp2_with (first | ((with_reducible refine wp_region_later (by kernel_rfl) (by kernel_rfl) ?_); (repeat (first | go_big_quiet_step (first | (go_at_call 116; exact Gives.quiet (c_sCheckOf (by omega)))) | simp only [kc] | simp only [c4] | simp only [c6])); refine wpQuiet_nil ?_; rintro _ ⟨x, rfl⟩) | (go_at_call 116; refine (c_sCheckOf (by omega)).mono ?_; rintro _ _ ⟨rfl, x, rfl⟩))
            refine bodyPost_ret (v := .tuple #[.string acc, .bool true]) ?_ rfl (Gives.mk (by rw [fileText, HV3.out, HT.out]; rfl))
            simp [results, Tryz.results53, go_sem]
  · obtain rfl : z = -1 := by simpa using c1
    have HV := Lib.hid (show textIs f (-1) k p = false by rw [textIs, c0]; rfl)
    clear c1 h25
    go_enter Tryz.func53, Tryz.ntmps53
    go_wp2_with (first | ((with_reducible refine wp_region_later (by kernel_rfl) (by kernel_rfl) ?_); (repeat (first | go_big_quiet_step (first | fail))); refine wpQuiet_nil ?_; rintro _ ⟨x, rfl⟩))
    refine (c_sFileInOk (hs.to inferInstance) hn (by omega) HS.out).mono ?_
    rintro _ _ ⟨rfl, y1, rfl⟩
    go_wp2_with (first | ((with_reducible refine wp_region_later (by kernel_rfl) (by kernel_rfl) ?_); (repeat (first | go_big_quiet_step (first | fail) | simp only [c0])); refine wpQuiet_nil ?_; rintro _ ⟨x, rfl⟩))
    refine bodyPost_ret (v := .tuple #[.string ⟨#[]⟩, .bool false]) ?_ rfl (Gives.mk (by rw [fileText, HV.out]; rfl))
    simp [results, Tryz.results53, go_sem]

end Go.Proofs.YtdankjbkioepgaaGreat
