/- The contracts of MissionOk, both sides. No condition but on sizes. · The contracts of LedgerOk, both sides. No condition but on sizes. -/
import Derived.Test.YtdankjbkioepgaaGreatVMisI
import Derived.Test.YtdankjbkioepgaaGreatVMisS
import Derived.Test.YtdankjbkioepgaaGreatVM24
import Derived.Test.YtdankjbkioepgaaGreatVRecO
import Derived.Test.YtdankjbkioepgaaGreatVFilT
import Derived.Test.YtdankjbkioepgaaGreatVTimT
namespace Go.Proofs.YtdankjbkioepgaaGreat
set_option linter.unusedVariables false
open Go.ChangeShapes Go.WideShapes Go.ChangeAt Go.RowKit

end Go.Proofs.YtdankjbkioepgaaGreat

namespace Go.Proofs.YtdankjbkioepgaaGreat
set_option linter.unusedVariables false
open Go.ChangeShapes Go.WideShapes Go.ChangeAt Go.RowKit

noncomputable def ledgerOk (m : TMission) : Bool := missionOk m && (commandsOnce m && (ordersOnce m && (recordsOnce m && (filesTrue m && timesTrue m))))

set_option maxRecDepth 100000 in
set_option maxHeartbeats 2000000 in
theorem c_iLedgerOk {B : Nat} {vs : List Value} {m : TMission} {w : World} (h : Enc.Rd B w vs m) (ht : Enc.tot m ≤ 1048576) :
    Calls Tryz.prog 26 #[.agg vs.toArray] w (Gives w (.bool (ledgerOk m))) := by
  have HL := Lib.hid (show vs.length = 61 from Enc.len h)
  have HM := Lib.hid h; clear h
  have HT := Lib.hid ht; clear ht
  have HB := Lib.hid (Held.new w vs 91 w.heap.size rfl)
  go_enter Tryz.func26, Tryz.ntmps26
  go_wp2_with (first | ((with_reducible refine wp_region_later (by kernel_rfl) (by kernel_rfl) ?_); (repeat (first | go_big_quiet_step (first | fail))); refine wpQuiet_nil ?_; rintro _ ⟨x, rfl⟩) | (refine stepLoadW (by first | kernel_rfl | go_simp) _ _ rfl w.heap.size 0 rfl (row := vs) (HB.out.to inferInstance) _ Tryz.underlying91 rfl (by rw [HL.out]; kernel_rfl) (by rw [List.drop_zero, List.take_length]) ?_))
  refine (c_iMissionOk (m := m) (Enc.keep HM.out inferInstance) HT.out).mono ?_
  rintro _ _ ⟨rfl, y0, rfl⟩
  cases g0 : missionOk m
  · have HF := Lib.hid (show ledgerOk m = false by rw [ledgerOk, g0]; rfl)
    clear g0
    go_wp2_with (first | ((with_reducible refine wp_region_later (by kernel_rfl) (by kernel_rfl) ?_); (repeat (first | go_big_quiet_step (first | fail))); refine wpQuiet_nil ?_; rintro _ ⟨x, rfl⟩))
    go_ret
    exact Gives.mk (by rw [HF.out]; rfl)
  go_wp2_with (first | ((with_reducible refine wp_region_later (by kernel_rfl) (by kernel_rfl) ?_); (repeat (first | go_big_quiet_step (first | fail))); refine wpQuiet_nil ?_; rintro _ ⟨x, rfl⟩) | (refine stepLoadW (by first | kernel_rfl | go_simp) _ _ rfl w.heap.size 0 rfl (row := vs) (HB.out.to inferInstance) _ Tryz.underlying91 rfl (by rw [HL.out]; kernel_rfl) (by rw [List.drop_zero, List.take_length]) ?_))
  refine (c_iCommandsOnce (m := m) (Enc.keep HM.out inferInstance) HT.out).mono ?_
  rintro _ _ ⟨rfl, y1, rfl⟩
  cases g1 : commandsOnce m
  · have HF := Lib.hid (show ledgerOk m = false by rw [ledgerOk, g0, g1]; rfl)
    clear g1
    go_wp2_with (first | ((with_reducible refine wp_region_later (by kernel_rfl) (by kernel_rfl) ?_); (repeat (first | go_big_quiet_step (first | fail))); refine wpQuiet_nil ?_; rintro _ ⟨x, rfl⟩))
    go_ret
    exact Gives.mk (by rw [HF.out]; rfl)
  go_wp2_with (first | ((with_reducible refine wp_region_later (by kernel_rfl) (by kernel_rfl) ?_); (repeat (first | go_big_quiet_step (first | fail))); refine wpQuiet_nil ?_; rintro _ ⟨x, rfl⟩) | (refine stepLoadW (by first | kernel_rfl | go_simp) _ _ rfl w.heap.size 0 rfl (row := vs) (HB.out.to inferInstance) _ Tryz.underlying91 rfl (by rw [HL.out]; kernel_rfl) (by rw [List.drop_zero, List.take_length]) ?_))
  refine (c_iOrdersOnce (m := m) (Enc.keep HM.out inferInstance) HT.out).mono ?_
  rintro _ _ ⟨rfl, y2, rfl⟩
  cases g2 : ordersOnce m
  · have HF := Lib.hid (show ledgerOk m = false by rw [ledgerOk, g0, g1, g2]; rfl)
    clear g2
    go_wp2_with (first | ((with_reducible refine wp_region_later (by kernel_rfl) (by kernel_rfl) ?_); (repeat (first | go_big_quiet_step (first | fail))); refine wpQuiet_nil ?_; rintro _ ⟨x, rfl⟩))
    go_ret
    exact Gives.mk (by rw [HF.out]; rfl)
  go_wp2_with (first | ((with_reducible refine wp_region_later (by kernel_rfl) (by kernel_rfl) ?_); (repeat (first | go_big_quiet_step (first | fail))); refine wpQuiet_nil ?_; rintro _ ⟨x, rfl⟩) | (refine stepLoadW (by first | kernel_rfl | go_simp) _ _ rfl w.heap.size 0 rfl (row := vs) (HB.out.to inferInstance) _ Tryz.underlying91 rfl (by rw [HL.out]; kernel_rfl) (by rw [List.drop_zero, List.take_length]) ?_))
  refine (c_iRecordsOnce (m := m) (Enc.keep HM.out inferInstance) HT.out).mono ?_
  rintro _ _ ⟨rfl, y3, rfl⟩
  cases g3 : recordsOnce m
  · have HF := Lib.hid (show ledgerOk m = false by rw [ledgerOk, g0, g1, g2, g3]; rfl)
    clear g3
    go_wp2_with (first | ((with_reducible refine wp_region_later (by kernel_rfl) (by kernel_rfl) ?_); (repeat (first | go_big_quiet_step (first | fail))); refine wpQuiet_nil ?_; rintro _ ⟨x, rfl⟩))
    go_ret
    exact Gives.mk (by rw [HF.out]; rfl)
  go_wp2_with (first | ((with_reducible refine wp_region_later (by kernel_rfl) (by kernel_rfl) ?_); (repeat (first | go_big_quiet_step (first | fail))); refine wpQuiet_nil ?_; rintro _ ⟨x, rfl⟩) | (refine stepLoadW (by first | kernel_rfl | go_simp) _ _ rfl w.heap.size 0 rfl (row := vs) (HB.out.to inferInstance) _ Tryz.underlying91 rfl (by rw [HL.out]; kernel_rfl) (by rw [List.drop_zero, List.take_length]) ?_))
  refine (c_iFilesTrue (m := m) (Enc.keep HM.out inferInstance) HT.out).mono ?_
  rintro _ _ ⟨rfl, y4, rfl⟩
  cases g4 : filesTrue m
  · have HF := Lib.hid (show ledgerOk m = false by rw [ledgerOk, g0, g1, g2, g3, g4]; rfl)
    clear g4
    go_wp2_with (first | ((with_reducible refine wp_region_later (by kernel_rfl) (by kernel_rfl) ?_); (repeat (first | go_big_quiet_step (first | fail))); refine wpQuiet_nil ?_; rintro _ ⟨x, rfl⟩))
    go_ret
    exact Gives.mk (by rw [HF.out]; rfl)
  go_wp2_with (first | ((with_reducible refine wp_region_later (by kernel_rfl) (by kernel_rfl) ?_); (repeat (first | go_big_quiet_step (first | fail))); refine wpQuiet_nil ?_; rintro _ ⟨x, rfl⟩) | (refine stepLoadW (by first | kernel_rfl | go_simp) _ _ rfl w.heap.size 0 rfl (row := vs) (HB.out.to inferInstance) _ Tryz.underlying91 rfl (by rw [HL.out]; kernel_rfl) (by rw [List.drop_zero, List.take_length]) ?_))
  refine (c_iTimesTrue (m := m) (Enc.keep HM.out inferInstance) HT.out).mono ?_
  rintro _ _ ⟨rfl, y5, rfl⟩
  cases g5 : timesTrue m
  · have HF := Lib.hid (show ledgerOk m = false by rw [ledgerOk, g0, g1, g2, g3, g4, g5]; rfl)
    clear g5
    go_wp2_with (first | ((with_reducible refine wp_region_later (by kernel_rfl) (by kernel_rfl) ?_); (repeat (first | go_big_quiet_step (first | fail))); refine wpQuiet_nil ?_; rintro _ ⟨x, rfl⟩))
    go_ret
    exact Gives.mk (by rw [HF.out]; rfl)
  have HF := Lib.hid (show ledgerOk m = true by rw [ledgerOk, g0, g1, g2, g3, g4, g5]; rfl)
  go_wp2_with (first | ((with_reducible refine wp_region_later (by kernel_rfl) (by kernel_rfl) ?_); (repeat (first | go_big_quiet_step (first | fail))); refine wpQuiet_nil ?_; rintro _ ⟨x, rfl⟩))
  go_ret
  exact Gives.mk (by rw [HF.out]; rfl)

set_option maxRecDepth 100000 in
set_option maxHeartbeats 2000000 in
theorem c_sLedgerOk {B : Nat} {vs : List Value} {m : TMission} {w : World} (h : Enc.Rd B w vs m) (ht : Enc.tot m ≤ 1048576) :
    Calls Tryz.prog 25 #[.agg vs.toArray] w (Gives w (.bool (ledgerOk m))) := by
  have HL := Lib.hid (show vs.length = 61 from Enc.len h)
  have HM := Lib.hid h; clear h
  have HT := Lib.hid ht; clear ht
  have HB := Lib.hid (Held.new w vs 91 w.heap.size rfl)
  go_enter Tryz.func25, Tryz.ntmps25
  go_wp2_with (first | ((with_reducible refine wp_region_later (by kernel_rfl) (by kernel_rfl) ?_); (repeat (first | go_big_quiet_step (first | fail))); refine wpQuiet_nil ?_; rintro _ ⟨x, rfl⟩) | (refine stepLoadW (by first | kernel_rfl | go_simp) _ _ rfl w.heap.size 0 rfl (row := vs) (HB.out.to inferInstance) _ Tryz.underlying91 rfl (by rw [HL.out]; kernel_rfl) (by rw [List.drop_zero, List.take_length]) ?_))
  refine (c_sMissionOk (m := m) (Enc.keep HM.out inferInstance) HT.out).mono ?_
  rintro _ _ ⟨rfl, y0, rfl⟩
  cases g0 : missionOk m
  · have HF := Lib.hid (show ledgerOk m = false by rw [ledgerOk, g0]; rfl)
    clear g0
    go_wp2_with (first | ((with_reducible refine wp_region_later (by kernel_rfl) (by kernel_rfl) ?_); (repeat (first | go_big_quiet_step (first | fail))); refine wpQuiet_nil ?_; rintro _ ⟨x, rfl⟩))
    go_ret
    exact Gives.mk (by rw [HF.out]; rfl)
  go_wp2_with (first | ((with_reducible refine wp_region_later (by kernel_rfl) (by kernel_rfl) ?_); (repeat (first | go_big_quiet_step (first | fail))); refine wpQuiet_nil ?_; rintro _ ⟨x, rfl⟩) | (refine stepLoadW (by first | kernel_rfl | go_simp) _ _ rfl w.heap.size 0 rfl (row := vs) (HB.out.to inferInstance) _ Tryz.underlying91 rfl (by rw [HL.out]; kernel_rfl) (by rw [List.drop_zero, List.take_length]) ?_))
  refine (c_sCommandsOnce (m := m) (Enc.keep HM.out inferInstance) HT.out).mono ?_
  rintro _ _ ⟨rfl, y1, rfl⟩
  cases g1 : commandsOnce m
  · have HF := Lib.hid (show ledgerOk m = false by rw [ledgerOk, g0, g1]; rfl)
    clear g1
    go_wp2_with (first | ((with_reducible refine wp_region_later (by kernel_rfl) (by kernel_rfl) ?_); (repeat (first | go_big_quiet_step (first | fail))); refine wpQuiet_nil ?_; rintro _ ⟨x, rfl⟩))
    go_ret
    exact Gives.mk (by rw [HF.out]; rfl)
  go_wp2_with (first | ((with_reducible refine wp_region_later (by kernel_rfl) (by kernel_rfl) ?_); (repeat (first | go_big_quiet_step (first | fail))); refine wpQuiet_nil ?_; rintro _ ⟨x, rfl⟩) | (refine stepLoadW (by first | kernel_rfl | go_simp) _ _ rfl w.heap.size 0 rfl (row := vs) (HB.out.to inferInstance) _ Tryz.underlying91 rfl (by rw [HL.out]; kernel_rfl) (by rw [List.drop_zero, List.take_length]) ?_))
  refine (c_sOrdersOnce (m := m) (Enc.keep HM.out inferInstance) HT.out).mono ?_
  rintro _ _ ⟨rfl, y2, rfl⟩
  cases g2 : ordersOnce m
  · have HF := Lib.hid (show ledgerOk m = false by rw [ledgerOk, g0, g1, g2]; rfl)
    clear g2
    go_wp2_with (first | ((with_reducible refine wp_region_later (by kernel_rfl) (by kernel_rfl) ?_); (repeat (first | go_big_quiet_step (first | fail))); refine wpQuiet_nil ?_; rintro _ ⟨x, rfl⟩))
    go_ret
    exact Gives.mk (by rw [HF.out]; rfl)
  go_wp2_with (first | ((with_reducible refine wp_region_later (by kernel_rfl) (by kernel_rfl) ?_); (repeat (first | go_big_quiet_step (first | fail))); refine wpQuiet_nil ?_; rintro _ ⟨x, rfl⟩) | (refine stepLoadW (by first | kernel_rfl | go_simp) _ _ rfl w.heap.size 0 rfl (row := vs) (HB.out.to inferInstance) _ Tryz.underlying91 rfl (by rw [HL.out]; kernel_rfl) (by rw [List.drop_zero, List.take_length]) ?_))
  refine (c_sRecordsOnce (m := m) (Enc.keep HM.out inferInstance) HT.out).mono ?_
  rintro _ _ ⟨rfl, y3, rfl⟩
  cases g3 : recordsOnce m
  · have HF := Lib.hid (show ledgerOk m = false by rw [ledgerOk, g0, g1, g2, g3]; rfl)
    clear g3
    go_wp2_with (first | ((with_reducible refine wp_region_later (by kernel_rfl) (by kernel_rfl) ?_); (repeat (first | go_big_quiet_step (first | fail))); refine wpQuiet_nil ?_; rintro _ ⟨x, rfl⟩))
    go_ret
    exact Gives.mk (by rw [HF.out]; rfl)
  go_wp2_with (first | ((with_reducible refine wp_region_later (by kernel_rfl) (by kernel_rfl) ?_); (repeat (first | go_big_quiet_step (first | fail))); refine wpQuiet_nil ?_; rintro _ ⟨x, rfl⟩) | (refine stepLoadW (by first | kernel_rfl | go_simp) _ _ rfl w.heap.size 0 rfl (row := vs) (HB.out.to inferInstance) _ Tryz.underlying91 rfl (by rw [HL.out]; kernel_rfl) (by rw [List.drop_zero, List.take_length]) ?_))
  refine (c_sFilesTrue (m := m) (Enc.keep HM.out inferInstance) HT.out).mono ?_
  rintro _ _ ⟨rfl, y4, rfl⟩
  cases g4 : filesTrue m
  · have HF := Lib.hid (show ledgerOk m = false by rw [ledgerOk, g0, g1, g2, g3, g4]; rfl)
    clear g4
    go_wp2_with (first | ((with_reducible refine wp_region_later (by kernel_rfl) (by kernel_rfl) ?_); (repeat (first | go_big_quiet_step (first | fail))); refine wpQuiet_nil ?_; rintro _ ⟨x, rfl⟩))
    go_ret
    exact Gives.mk (by rw [HF.out]; rfl)
  go_wp2_with (first | ((with_reducible refine wp_region_later (by kernel_rfl) (by kernel_rfl) ?_); (repeat (first | go_big_quiet_step (first | fail))); refine wpQuiet_nil ?_; rintro _ ⟨x, rfl⟩) | (refine stepLoadW (by first | kernel_rfl | go_simp) _ _ rfl w.heap.size 0 rfl (row := vs) (HB.out.to inferInstance) _ Tryz.underlying91 rfl (by rw [HL.out]; kernel_rfl) (by rw [List.drop_zero, List.take_length]) ?_))
  refine (c_sTimesTrue (m := m) (Enc.keep HM.out inferInstance) HT.out).mono ?_
  rintro _ _ ⟨rfl, y5, rfl⟩
  cases g5 : timesTrue m
  · have HF := Lib.hid (show ledgerOk m = false by rw [ledgerOk, g0, g1, g2, g3, g4, g5]; rfl)
    clear g5
    go_wp2_with (first | ((with_reducible refine wp_region_later (by kernel_rfl) (by kernel_rfl) ?_); (repeat (first | go_big_quiet_step (first | fail))); refine wpQuiet_nil ?_; rintro _ ⟨x, rfl⟩))
    go_ret
    exact Gives.mk (by rw [HF.out]; rfl)
  have HF := Lib.hid (show ledgerOk m = true by rw [ledgerOk, g0, g1, g2, g3, g4, g5]; rfl)
  go_wp2_with (first | ((with_reducible refine wp_region_later (by kernel_rfl) (by kernel_rfl) ?_); (repeat (first | go_big_quiet_step (first | fail))); refine wpQuiet_nil ?_; rintro _ ⟨x, rfl⟩))
  go_ret
  exact Gives.mk (by rw [HF.out]; rfl)

end Go.Proofs.YtdankjbkioepgaaGreat
