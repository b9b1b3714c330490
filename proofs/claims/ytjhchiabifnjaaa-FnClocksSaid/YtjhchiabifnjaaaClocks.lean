/- The law of the clocks, walked. No condition but on lengths. -/
import Derived.Test.YtjhchiabifnjaaaDraw
import Derived.Test.YtjhchiabifnjaaaNum
namespace Go.Proofs.Ytjhchiabifnjaaa
set_option linter.unusedVariables false
open Go.ChangeShapes Go.WideShapes Go.ChangeAt Go.RowKit

theorem Later.ofGrown {W w' : World} {p : Nat} (x : Later W) (hg : x.w.grownBy w' (some p)) (hp : W.heap.size ≤ p) : ∃ y : Later W, w' = y.w :=
  ⟨⟨w', x.h.os ▸ hg.os, by rw [hg.tape, x.h.tape], by rw [hg.output, x.h.output], Nat.le_trans x.h.size hg.size, fun k hk => by
    rw [hg.block k (Nat.lt_of_lt_of_le hk x.h.size) (by simp only [ne_eq, Option.some.injEq]; omega)]; exact x.h.block k hk⟩, rfl⟩

theorem c_sDrawDrift {w : World} {a : Option Addr} {n c : Nat} {l : List Int} (hs : Sl encByte w a l) (hn : l.length = n) (hm : n ≤ 1048576) (hby : ∀ x ∈ l, isByte x) :
    Calls Try.prog 41 #[.slice a n c] w fun e w' => ∃ r o, e = .returned (.agg #[.int .i64 r, .int .i64 o]) ∧ r ∈ [0, 1, -1, 7, -30, 100, -100] ∧ o ∈ [0, 3, 1000] ∧ ∃ x : Later w, w' = x.w := by
  go_enter Try.func41, Try.ntmps41
  go_wp2_with (first | ((with_reducible refine wp_region_later (by kernel_rfl) (by kernel_rfl) ?_); (repeat (first | go_big_quiet_step (first | fail))); refine wpQuiet_nil ?_; rintro _ ⟨x, rfl⟩))
  refine (c_sl01New (hs.alloc _) hn hm hby).mono ?_
  rintro _ _ ⟨p, rfl, hp, ⟨x, rfl⟩, hc⟩
  go_wp2_with (first | ((with_reducible refine wp_region_later (by kernel_rfl) (by kernel_rfl) ?_); (repeat (first | go_big_quiet_step (first | fail))); refine wpQuiet_nil ?_; rintro _ ⟨x, rfl⟩))
  refine (c_sl07Drift hc).mono ?_
  rintro _ _ ⟨r, o, rfl, hr, ho, hg, -⟩
  obtain ⟨y, rfl⟩ := x.ofGrown hg hp
  have HR := Lib.hid hr; have HO := Lib.hid ho; clear hr ho hg hc hp
  go_wp2_with (first | ((with_reducible refine wp_region_later (by kernel_rfl) (by kernel_rfl) ?_); (repeat (first | go_big_quiet_step (first | fail))); refine wpQuiet_nil ?_; rintro _ ⟨x, rfl⟩))
  refine bodyPost_ret (v := .agg #[.int .i64 r, .int .i64 o]) (by simp [results, Try.results41, go_sem]) rfl ⟨r, o, rfl, HR.out, HO.out, Later.of⟩

theorem c_lbig {w : World} {a : Option Addr} {n c : Nat} : Calls Try.prog 40 #[.slice a n c] w (Gives w (.bool (decide (1048576 < (n : Int))))) := by
  go_enter Try.func40, Try.ntmps40
  go_wp2_with (first | ((with_reducible refine wp_region_later (by kernel_rfl) (by kernel_rfl) ?_); (repeat (first | go_big_quiet_step (first | fail))); refine wpQuiet_nil ?_; rintro _ ⟨x, rfl⟩))
  go_ret
  exact Gives.mk (by simp)

theorem clocks_ok {r o : Int} (hr : r ∈ [0, 1, -1, 7, -30, 100, -100]) (ho : o ∈ [0, 3, 1000]) : -100 ≤ r ∧ r ≤ 100 ∧ 0 ≤ o ∧ o ≤ 1000 := by
  simp only [List.mem_cons, List.not_mem_nil, or_false] at hr ho
  omega
theorem clocks_drift {r o : Int} (h : -100 ≤ r ∧ r ≤ 100 ∧ 0 ≤ o ∧ o ≤ 1000) : driftOk r o = true := by simp [driftOk, inB]; omega
theorem clocks_at {r o t : Int} (h : -100 ≤ r ∧ r ≤ 100 ∧ 0 ≤ o ∧ o ≤ 1000) (h0 : 0 ≤ t) (h1 : t ≤ 1000000) : boardTime r o t = t + o + t * r / 1000 := by
  rw [boardTime, if_pos (by simp [clocks_drift h, inB]; omega)]
theorem clocks_step {r o t : Int} (h : -100 ≤ r ∧ r ≤ 100 ∧ 0 ≤ o ∧ o ≤ 1000) (h0 : 0 ≤ t) (h1 : t ≤ 300) : 0 ≤ ticksDue r o t ∧ ticksDue r o t ≤ 2 ∧ boardTime r o (t + 1) = boardTime r o t + ticksDue r o t := by
  have e : ticksDue r o t = boardTime r o (t + 1) - boardTime r o t := by
    rw [ticksDue, if_pos (by simp [clocks_drift h, inB]; omega)]
  have e1 := clocks_at h h0 (by omega)
  have e2 := clocks_at (t := t + 1) h (by omega) (by omega)
  rw [Int.add_mul, Int.one_mul] at e2
  omega
theorem clocks_end {r o : Int} (h : -100 ≤ r ∧ r ≤ 100 ∧ 0 ≤ o ∧ o ≤ 1000) : boardTime r o 1000 = 1000 + r + o := by
  rw [clocks_at h (by omega) (by omega)]; omega

set_option maxRecDepth 100000 in
set_option maxHeartbeats 2000000 in
theorem c_lFnClocks {w : World} {a : Option Addr} {n c : Nat} {l : List Int} (hs : Sl encByte w a l) (hn : l.length = n) (hz : n ≤ 9223372036854775807) (hby : ∀ x ∈ l, isByte x) :
    Calls Try.prog 13 #[.slice a n c] w (Gives w (.bool true)) := by
  cases q0 : decide (1048576 < (n : Int))
  · have hm : n ≤ 1048576 := by have := of_decide_eq_false q0; omega
    have HBY := Lib.hid hby; clear hby
    go_enter Try.func13, Try.ntmps13
    go_wp2_with (first | ((with_reducible refine wp_region_later (by kernel_rfl) (by kernel_rfl) ?_); (repeat (first | go_big_quiet_step (first | fail) | simp only [q0])); refine wpQuiet_nil ?_; rintro _ ⟨x, rfl⟩))
    refine c_lbig.mono ?_
    rintro _ _ ⟨rfl, x0, rfl⟩
    go_wp2_with (first | ((with_reducible refine wp_region_later (by kernel_rfl) (by kernel_rfl) ?_); (repeat (first | go_big_quiet_step (first | fail) | simp only [q0])); refine wpQuiet_nil ?_; rintro _ ⟨x, rfl⟩))
    refine (c_sDrawDrift (hs.to inferInstance) hn hm HBY.out).mono ?_
    rintro _ _ ⟨r, o, rfl, hr, ho, d, rfl⟩
    have HD := Lib.hid (clocks_ok hr ho); clear hr ho
    go_wp2_with (first | ((with_reducible refine wp_region_later (by kernel_rfl) (by kernel_rfl) ?_); (repeat (first | go_big_quiet_step (first | (go_at_call 26; exact Gives.quiet (c_iBoardTime))))); refine wpQuiet_nil ?_; rintro _ ⟨x, rfl⟩) | (go_at_call 26; refine (c_iBoardTime).mono ?_; rintro _ _ ⟨rfl, x, rfl⟩))
    have hend := clocks_end HD.out
    have hdr := clocks_drift HD.out
    go_loopw [4, 5] (fun va vb wr => ∃ k : Nat, va = .int .i64 (boardTime r o k) ∧ vb = .int .i64 k ∧ k ≤ 300 ∧ ∃ y : Later ((x0.andThen d).w.alloc (.cells #[.int .i64 r, .int .i64 o] 25)), wr = y.w) (fun _ v _ => (300 - intOf v).toNat)
    case atStart => exact ⟨0, rfl, rfl, by omega, Later.of⟩
    case round =>
      obtain ⟨k, rfl, rfl, hk, y, rfl⟩ := hrel
      cases q1 : decide ((k : Int) < 300)
      · have ⟨b1, b2, b3, b4⟩ := HD.out
        go_wp2_with (first | ((with_reducible refine wp_region_later (by kernel_rfl) (by kernel_rfl) ?_); (repeat (first | go_big_quiet_step (first | (go_at_call 17; exact Gives.quiet (c_iDriftOk)) | (go_at_call 26; exact Gives.quiet (c_iBoardTime))) | simp only [q1] | simp only [hdr] | simp only [hend])); refine wpQuiet_nil ?_; rintro _ ⟨x, rfl⟩) | (go_at_call 17; refine (c_iDriftOk).mono ?_; rintro _ _ ⟨rfl, x, rfl⟩) | (go_at_call 26; refine (c_iBoardTime).mono ?_; rintro _ _ ⟨rfl, x, rfl⟩))
        go_ret
        exact Gives.mk rfl
      · obtain ⟨t0, t2, te⟩ := clocks_step HD.out (t := (k : Int)) (by omega) (by omega)
        have bd := @boardTime_bd r o k
        have q2 : decide (ticksDue r o k < 0) = false := by simpa using t0
        have q3 : decide (2 < ticksDue r o k) = false := by simpa using t2
        go_wp2_with (first | ((with_reducible refine wp_region_later (by kernel_rfl) (by kernel_rfl) ?_); (repeat (first | go_big_quiet_step (first | (go_at_call 32; exact Gives.quiet (c_iTicksDue)) | (go_at_call 26; exact Gives.quiet (c_iBoardTime))) | simp only [q1] | simp only [q2] | simp only [q3] | simp only [te])); refine wpQuiet_nil ?_; rintro _ ⟨x, rfl⟩) | (go_at_call 32; refine (c_iTicksDue).mono ?_; rintro _ _ ⟨rfl, x, rfl⟩) | (go_at_call 26; refine (c_iBoardTime).mono ?_; rintro _ _ ⟨rfl, x, rfl⟩))
        go_roundw
        case rel => exact ⟨k + 1, by rw [← te]; rfl, by go_num, by have := of_decide_eq_true q1; omega, Later.of⟩
        case measure => have := of_decide_eq_true q1; simp [intOf]; omega
  · go_enter Try.func13, Try.ntmps13
    go_wp2_with (first | ((with_reducible refine wp_region_later (by kernel_rfl) (by kernel_rfl) ?_); (repeat (first | go_big_quiet_step (first | (go_at_call 40; exact Gives.quiet (c_lbig))) | simp only [q0])); refine wpQuiet_nil ?_; rintro _ ⟨x, rfl⟩) | (go_at_call 40; refine (c_lbig).mono ?_; rintro _ _ ⟨rfl, x, rfl⟩))
    go_ret
    exact Gives.mk rfl
end Go.Proofs.Ytjhchiabifnjaaa
