/- The law of the clocks, walked. No condition but on lengths. -/
import Derived.Test.YtonclekalgaojaaDraw
import Derived.Test.YtonclekalgaojaaAt
import Derived.Test.YtonclekalgaojaaNum
namespace Go.Proofs.Ytonclekalgaojaa
set_option linter.unusedVariables false
open Go.ChangeShapes Go.WideShapes Go.ChangeAt Go.RowKit

theorem Later.ofGrown {W w' : World} {p : Nat} (x : Later W) (hg : x.w.grownBy w' (some p)) (hp : W.heap.size ≤ p) : ∃ y : Later W, w' = y.w :=
  ⟨⟨w', x.h.os ▸ hg.os, by rw [hg.tape, x.h.tape], by rw [hg.output, x.h.output], Nat.le_trans x.h.size hg.size, fun k hk => by
    rw [hg.block k (Nat.lt_of_lt_of_le hk x.h.size) (by simp only [ne_eq, Option.some.injEq]; omega)]; exact x.h.block k hk⟩, rfl⟩

theorem c_sDrawDrift {w : World} {a : Option Addr} {n c : Nat} {l : List Int} (hs : Sl encByte w a l) (hn : l.length = n) (hm : n ≤ 1048576) (hby : ∀ x ∈ l, isByte x) :
    Calls Try.prog 47 #[.slice a n c] w fun e w' => ∃ r o, e = .returned (.agg #[.int .i64 r, .int .i64 o]) ∧ r ∈ [0, 1, -1, 7, -30, 100, -100] ∧ o ∈ [0, 3, 1000] ∧ ∃ x : Later w, w' = x.w := by
  go_enter Try.func47, Try.ntmps47
  go_wp2_with (first | ((with_reducible refine wp_region_later (by kernel_rfl) (by kernel_rfl) ?_); (repeat (first | go_big_quiet_step (first | fail))); refine wpQuiet_nil ?_; rintro _ ⟨x, rfl⟩))
  refine (c_sl01New (hs.alloc _) hn hm hby).mono ?_
  rintro _ _ ⟨p, rfl, hp, ⟨x, rfl⟩, hc⟩
  go_wp2_with (first | ((with_reducible refine wp_region_later (by kernel_rfl) (by kernel_rfl) ?_); (repeat (first | go_big_quiet_step (first | fail))); refine wpQuiet_nil ?_; rintro _ ⟨x, rfl⟩))
  refine (c_sl07Drift hc).mono ?_
  rintro _ _ ⟨r, o, rfl, hr, ho, hg, -⟩
  obtain ⟨y, rfl⟩ := x.ofGrown hg hp
  have HR := Lib.hid hr; have HO := Lib.hid ho; clear hr ho hg hc hp
  go_wp2_with (first | ((with_reducible refine wp_region_later (by kernel_rfl) (by kernel_rfl) ?_); (repeat (first | go_big_quiet_step (first | fail))); refine wpQuiet_nil ?_; rintro _ ⟨x, rfl⟩))
  refine bodyPost_ret (v := .agg #[.int .i64 r, .int .i64 o]) (by simp [results, Try.results47, go_sem]) rfl ⟨r, o, rfl, HR.out, HO.out, Later.of⟩

theorem clocks_ok {r o : Int} (hr : r ∈ [0, 1, -1, 7, -30, 100, -100]) (ho : o ∈ [0, 3, 1000]) : -100 ≤ r ∧ r ≤ 100 ∧ 0 ≤ o ∧ o ≤ 1000 := by
  simp only [List.mem_cons, List.not_mem_nil, or_false] at hr ho
  omega
theorem clocks_drift {r o : Int} (h : -100 ≤ r ∧ r ≤ 100 ∧ 0 ≤ o ∧ o ≤ 1000) : driftOk r o = true := by simp [driftOk, inB]; omega
theorem clocks_at {r o t : Int} (h : -100 ≤ r ∧ r ≤ 100 ∧ 0 ≤ o ∧ o ≤ 1000) (h0 : 0 ≤ t) (h1 : t ≤ 1000000) : boardTime r o t = t + o + t * r / 1000 := by
  rw [boardTime, if_pos (by simp [clocks_drift h, inB]; omega)]
theorem clocks_step {r o t : Int} (h : -100 ≤ r ∧ r ≤ 100 ∧ 0 ≤ o ∧ o ≤ 1000) (h0 : 0 ≤ t) (h1 : t ≤ 300) : 0 ≤ ticksDue r o t ∧ ticksDue r o t ≤ 2 ∧ boardTime r o (t + 1) = boardTime r o t + ticksDue r o t := by
  have e : ticksDue r o t = boardTime r o (t + 1) - boardTime r o t := by
    rw [ticksDue, if_pos (by simp [clocks_drift h, inB]; omega)]
  have e1 := clocks_at h h0 (by omega)
  have e2 := clocks_at (t := t + 1) h (by omega) (by omega)
  rw [Int.add_mul, Int.one_mul] at e2
  omega
theorem clocks_end {r o : Int} (h : -100 ≤ r ∧ r ≤ 100 ∧ 0 ≤ o ∧ o ≤ 1000) : boardTime r o 1000 = 1000 + r + o := by
  rw [clocks_at h (by omega) (by omega)]; omega
end Go.Proofs.Ytonclekalgaojaa
