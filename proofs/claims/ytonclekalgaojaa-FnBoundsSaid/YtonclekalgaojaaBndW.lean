/- FnBounds, walked. No condition but on lengths. -/
import Derived.Test.YtonclekalgaojaaBndL
import Derived.Test.YtonclekalgaojaaAddPair
import Derived.Test.YtonclekalgaojaaClocks
namespace Go.Proofs.Ytonclekalgaojaa
set_option linter.unusedVariables false
open Go.ChangeShapes Go.WideShapes Go.ChangeAt Go.RowKit

/-- What 'at' gives, for all indices at once. -/
theorem at_all {w : World} {a : Option Addr} {n c : Nat} {l : List Int} (hs : Sl encByte w a l) (hn : l.length = n) (hm : n ≤ 1048576) (hby : ∀ x ∈ l, isByte x) :
    ∃ f : Nat → Int, (∀ i, 0 ≤ f i ∧ f i ≤ 255) ∧ ∀ i : Nat, i ≤ 1000000 → ∀ (W : World) [Grows w W], Calls Try.prog 31 #[.slice a n c, .int .i64 i] W (Gives W (.int .i64 (f i))) := by
  refine ⟨fun i => if h : i ≤ 1000000 then (at_is hs hn hm hby (c := c) i h).choose else 0, fun i => ?_, fun i hi => ?_⟩
  · by_cases h : i ≤ 1000000
    · simp only [dif_pos h]
      exact (at_is hs hn hm hby (c := c) i h).choose_spec.1
    · simp only [dif_neg h]; omega
  · simp only [dif_pos hi]
    exact (at_is hs hn hm hby (c := c) i hi).choose_spec.2

theorem c_iAddPairC {a : Option Addr} {n c : Nat} {l : List Pair} {b t : Int} {w : World} (hs : Sl encPair w a l) (hn : l.length = n) (hm : n ≤ 1048576) :
    Calls Try.prog 44 #[.slice a n c, .agg #[.int .i64 b, .int .i64 t]] w (GivesSl encPair 58 2 w (addPair l ⟨b, t⟩)) := c_iAddPair (p := ⟨b, t⟩) hs hn hm

theorem at_of_dropP {l r : List Pair} {s : Pair} {k : Nat} (h : l.drop k = s :: r) : l[k]? = some s := by
  have := congrArg (fun m => m[0]?) h
  simpa using this
theorem show_clock {r o t : Int} (h : drift r o) (h0 : 0 ≤ t) (h1 : t ≤ 1000000) : boardTime r o t = showT r o t := by
  rw [clocks_at h h0 h1]; rfl

set_option maxRecDepth 100000 in
set_option maxHeartbeats 2000000 in
theorem c_lFnBounds {w : World} {a : Option Addr} {n c : Nat} {l : List Int} (hs : Sl encByte w a l) (hn : l.length = n) (hz : n ≤ 9223372036854775807) (hby : ∀ x ∈ l, isByte x) :
    Calls Try.prog 10 #[.slice a n c] w (Gives w (.bool true)) := by
  cases q0 : decide (1048576 < (n : Int))
  · have hm : n ≤ 1048576 := by have := of_decide_eq_false q0; omega
    obtain ⟨f, hf0, hat0⟩ := at_all (c := c) hs hn hm hby
    have hat := Lib.hid hat0; have hfb := Lib.hid hf0; clear hat0 hf0
    have HBY := Lib.hid hby; clear hby
    go_enter Try.func10, Try.ntmps10
    go_wp2_with (first | ((with_reducible refine wp_region_later (by kernel_rfl) (by kernel_rfl) ?_); (repeat (first | go_big_quiet_step (first | fail) | simp only [q0])); refine wpQuiet_nil ?_; rintro _ ⟨x, rfl⟩))
    refine c_lbig.mono ?_
    rintro _ _ ⟨rfl, x0, rfl⟩
    go_wp2_with (first | ((with_reducible refine wp_region_later (by kernel_rfl) (by kernel_rfl) ?_); (repeat (first | go_big_quiet_step (first | fail) | simp only [q0])); refine wpQuiet_nil ?_; rintro _ ⟨x, rfl⟩))
    refine (c_sDrawDrift (hs.to inferInstance) hn hm HBY.out).mono ?_
    rintro _ _ ⟨r, o, rfl, hr, ho, d, rfl⟩
    have HD := Lib.hid (clocks_ok hr ho); clear hr ho
    have ⟨d1, d2, d3, d4⟩ := HD.out
    have cu0 := hat.out 0 (by omega)
    have f0 := hfb.out 0
    go_wp2_with (first | ((with_reducible refine wp_region_later (by kernel_rfl) (by kernel_rfl) ?_); (repeat (first | go_big_quiet_step (first | fail) | simp only [q0])); refine wpQuiet_nil ?_; rintro _ ⟨x, rfl⟩))
    refine (cu0 _).mono ?_
    rintro _ _ ⟨rfl, x1, rfl⟩
    clear cu0
    have hE := (Own.emptyAt (enc := encPair) (T := 58) (B := w.heap.size) (W := (x0.andThen d).w.alloc (.cells #[.int .i64 r, .int .i64 o] 63)) encPair_len LeN.out (by simp : _ = (x0.andThen d).w.heap.size + 1)).to (inferInstance : Grows _ x1.w)
    obtain ⟨Y, hY⟩ := Later.of (w := (x0.andThen d).w.alloc (.cells #[.int .i64 r, .int .i64 o] 63)) (W := x1.w)
    rw [hY] at hE ⊢
    clear hY x1
    go_wp2_with (first | ((with_reducible refine wp_region_later (by kernel_rfl) (by kernel_rfl) ?_); (repeat (first | go_big_quiet_step (first | fail))); refine wpQuiet_nil ?_; rintro _ ⟨x, rfl⟩))
    go_loopw [4, 5, 6] (fun vl vt vk wr => ∃ (k : Nat) (pl : List Pair) (sa : Option Addr) (sc : Nat) (t : Int), vk = .int .i64 k ∧ vt = .int .i64 t ∧ vl = .slice sa k sc ∧ pl.length = k ∧ k ≤ 6 ∧ Hid (chain r o 0 pl) ∧ Hid (∀ q ∈ pl, q.True + 20 ≤ t) ∧ 0 ≤ t ∧ t ≤ 255 + 275 * k ∧ Own encPair 58 2 w.heap.size wr sa sc pl ∧ ∃ y : Later ((x0.andThen d).w.alloc (.cells #[.int .i64 r, .int .i64 o] 63)), wr = y.w) (fun _ _ v _ => (6 - intOf v).toNat)
    case atStart => exact ⟨0, [], _, 0, f 0, rfl, rfl, rfl, rfl, by omega, trivial, fun q hq => by simp at hq, by omega, by omega, hE, Later.of⟩
    case round =>
      obtain ⟨k, pl, sa, sc, t, rfl, rfl, rfl, hpl, hk, hch, hgap, ht0, ht1, hown, y, rfl⟩ := hrel
      by_cases h : k < 6
      · have hb := show_clock HD.out (t := t) ht0 (by omega)
        have hch2 := chain_snoc (r := r) (o := o) (p := ⟨showT r o t, t⟩) (by simp only; omega) rfl hch.out ht0 hgap.out
        have HA := Lib.hid (show addPair pl ⟨showT r o t, t⟩ = pl ++ [⟨showT r o t, t⟩] by
          rw [addPair, if_pos (chain_ok HD.out hch2 (by simp; omega))])
        have HC2 := Lib.hid hch2; clear hch2
        have hl2 : (pl ++ [(⟨showT r o t, t⟩ : Pair)]).length = k + 1 := by simp [hpl]
        have cu := hat.out (k + 1) (by omega)
        have fk := hfb.out (k + 1)
        have e1 : ((k + 1 : Nat) : Int) = (k : Int) + 1 := by omega
        rw [e1] at cu
        have hsl := hown.sl
        have HB := Lib.hid hb; clear hb e1
        have c6 : decide ((k : Int) < 6) = true := by simp; omega
        go_wp2_with (first | ((with_reducible refine wp_region_later (by kernel_rfl) (by kernel_rfl) ?_); (repeat (first | go_big_quiet_step (first | fail) | simp only [c6])); refine wpQuiet_nil ?_; rintro _ ⟨x, rfl⟩))
        refine c_iBoardTime.mono ?_
        rintro _ _ ⟨rfl, y2, rfl⟩
        rw [HB.out]
        go_wp2_with (first | ((with_reducible refine wp_region_later (by kernel_rfl) (by kernel_rfl) ?_); (repeat (first | go_big_quiet_step (first | fail))); refine wpQuiet_nil ?_; rintro _ ⟨x, rfl⟩))
        refine (c_iAddPairC (hsl.to inferInstance) hpl (by omega)).mono ?_
        rintro _ _ ⟨sa1, sc1, rfl, hown1, y3, rfl⟩
        rw [HA.out] at hown1 ⊢
        rw [hl2]
        replace hown1 := hown1.mono (LeN.out (a := w.heap.size))
        go_wp2_with (first | ((with_reducible refine wp_region_later (by kernel_rfl) (by kernel_rfl) ?_); (repeat (first | go_big_quiet_step (first | fail))); refine wpQuiet_nil ?_; rintro _ ⟨x, rfl⟩))
        refine (cu _).mono ?_
        rintro _ _ ⟨rfl, y4, rfl⟩
        go_wp2_with (first | ((with_reducible refine wp_region_later (by kernel_rfl) (by kernel_rfl) ?_); (repeat (first | go_big_quiet_step (first | fail))); refine wpQuiet_nil ?_; rintro _ ⟨x, rfl⟩))
        go_roundw
        case rel => exact ⟨k + 1, pl ++ [⟨showT r o t, t⟩], sa1, sc1, t + 20 + f (k + 1), by go_num, rfl, rfl, hl2, by omega, HC2, fun q hq => by
          rcases List.mem_append.1 hq with hq | hq
          · have := hgap.out q hq; omega
          · simp only [List.mem_singleton] at hq; subst hq; simp only; omega, by omega, by omega, hown1.to inferInstance, Later.of⟩
        case measure => simp [intOf]; omega
      · obtain rfl : k = 6 := by omega
        clear h hk hgap ht0 ht1
        obtain ⟨p0, p1, p2, p3, p4, p5, rfl⟩ : ∃ p0 p1 p2 p3 p4 p5 : Pair, pl = [p0, p1, p2, p3, p4, p5] := by
          match pl, hpl with
          | [p0, p1, p2, p3, p4, p5], _ => exact ⟨p0, p1, p2, p3, p4, p5, rfl⟩
        obtain ⟨s0, s0m, s0b, s1, s1m, s1b, s2, s2m, s2b, s3, s3m, s3b, s4, s4m, s4b, s5, s5m, s5b, -⟩ := hch.out
        have hok := chain_ok HD.out hch.out (by simp)
        have hsl := hown.sl
        obtain ⟨b0, off0, q0', rfl, hb0, hd0, g00, g01⟩ := hsl.pair (k := 0) (by simp)
        obtain rfl : p0 = q0' := by have := at_of_dropP hd0.out; simpa using this
        obtain ⟨b5, off5, q5', hbo5, hb5, hd5, g50, g51⟩ := hsl.pair (k := 5) (by simp)
        obtain rfl : p5 = q5' := by have := at_of_dropP hd5.out; simpa using this
        simp only [Option.some.injEq, Addr.mk.injEq, and_true] at hbo5
        obtain ⟨rfl, rfl⟩ := hbo5
        simp only [Nat.zero_mul, Nat.add_zero, Nat.reduceMul] at g00 g01 g50 g51
        clear hd0 hd5 g00 g50
        have HRT := Lib.hid (show rateOf [p0, p1, p2, p3, p4, p5] = .tuple #[.int .i64 (rateVal p0 p5), .bool true] by rw [rateOf, if_pos hok]; rfl)
        have HBO := Lib.hid (fun b => show pairsOk [p0, p1, p2, p3, p4, p5] = true → inB b 0 2000000 = true → boundsOf [p0, p1, p2, p3, p4, p5] b = .tuple #[.int .i64 (boundsFrom b 0 [p0, p1, p2, p3, p4, p5]).1, .int .i64 (boundsFrom b 0 [p0, p1, p2, p3, p4, p5]).2, .bool true] from fun h1 h2 => by rw [boundsOf, h1, h2]; rfl)
        have HGT := Lib.hid (fun b => show pairsOk [p0, p1, p2, p3, p4, p5] = true → inB b 0 2000000 = true → guessTrue [p0, p1, p2, p3, p4, p5] b = .tuple #[.int .i64 (guessVal b (guessFrom b p0 p1 [p2, p3, p4, p5])), .bool true] from fun h1 h2 => by rw [guessTrue, h1, h2]; rfl)
        have RK := rate_ok HD.out (u := p0) (v := p5) (by omega) s0b s5b
        obtain ⟨RV, hRV⟩ : ∃ RV, rateVal p0 p5 = RV := ⟨_, rfl⟩
        rw [hRV] at RK HRT
        have hK0 : 0 ≤ 1000 / (p5.True - p0.True) := Int.ediv_nonneg (by omega) (by omega)
        have hK1 : 1000 / (p5.True - p0.True) ≤ 1000 := Int.ediv_le_self _ (by omega)
        obtain ⟨K, hK⟩ : ∃ K, 1000 / (p5.True - p0.True) = K := ⟨_, rfl⟩
        rw [hK] at hK0 hK1 RK
        obtain ⟨RK1, RK2⟩ := RK
        have HC := Lib.hid hch.out
        clear hRV hch s0b s1b s2b s3b s4b s5b
        simp only [show ((6 : Nat) : Int) = 6 from rfl]
        go_wp2_with (first | ((with_reducible refine wp_region_later (by kernel_rfl) (by kernel_rfl) ?_); (repeat (first | go_big_quiet_step (first | fail))); refine wpQuiet_nil ?_; rintro _ ⟨x, rfl⟩))
        go_loopw [8] (fun vk wr => ∃ k : Nat, vk = .int .i64 k ∧ k ≤ 40 ∧ ∃ z : Later y.w, wr = z.w) (fun v _ => (40 - intOf v).toNat)
        case atStart => exact ⟨0, rfl, by omega, Later.of⟩
        case round =>
          obtain ⟨k, rfl, hk, z, rfl⟩ := hrel
          by_cases h : k < 40
          · have c40 : decide ((k : Int) < 40) = true := by simp; omega
            have fk := hfb.out k
            have hx0 := Int.emod_nonneg (f k * 7) (show p5.True - p0.True + 1 ≠ 0 by omega)
            have hx1 := Int.emod_lt_of_pos (f k * 7) (show 0 < p5.True - p0.True + 1 by omega)
            have cu : ∀ {W : World} [Grows w W], Calls Try.prog 31 #[.slice a n c, .int .i64 k] W (Gives W (.int .i64 (f k))) := fun {W} => hat.out k (by omega) W
            obtain ⟨X, hX⟩ : ∃ X, p0.True + f k * 7 % (p5.True - p0.True + 1) = X := ⟨_, rfl⟩
            have hX0 : p0.True ≤ X ∧ X ≤ p5.True := by omega
            obtain ⟨hXa, hXb⟩ := hX0
            have HBX := Lib.hid (show_clock HD.out (t := X) (by omega) (by omega))
            have hsb := show_bd HD.out (t := X) (by omega) (by omega)
            have hin : inB (showT r o X) 0 2000000 = true := inB_iff.2 hsb
            have BO := HBO.out (showT r o X) hok hin
            have GT := HGT.out (showT r o X) hok hin
            obtain ⟨lo1, lo2⟩ := bounds_ok HD.out (x := X) (low := 0) (by omega) (by omega) HC.out (by omega)
            have hch := HC.out
            obtain ⟨u, v, hg, u1, u2, u3, u4, u5, u6, u7⟩ := guess_pairs HD.out (x := X) (p := p0) (q := p1) (rest := [p2, p3, p4, p5]) (by omega) (by omega) hch.2.2.1 hch.2.2.2 hXa hXb
            obtain ⟨gg1, gg2⟩ := guess_ok HD.out u1 u2 u4 u5 u6 u7
            rw [hg] at GT
            obtain ⟨lo, hlo⟩ : ∃ lo, (boundsFrom (showT r o X) 0 [p0, p1, p2, p3, p4, p5]).1 = lo := ⟨_, rfl⟩
            obtain ⟨hi, hhi⟩ : ∃ hi, (boundsFrom (showT r o X) 0 [p0, p1, p2, p3, p4, p5]).2 = hi := ⟨_, rfl⟩
            obtain ⟨G, hG⟩ : ∃ G, guessVal (showT r o X) (u, v) = G := ⟨_, rfl⟩
            rw [hlo] at lo1 BO
            rw [hhi] at lo2 BO
            rw [hG] at gg1 gg2 GT
            have HBOX := Lib.hid BO; have HGTX := Lib.hid GT
            clear BO GT hlo hhi hG hg u1 u2 u3 u4 u5 u6 u7 hin hch u v
            go_wp2_with (first | ((with_reducible refine wp_region_later (by kernel_rfl) (by kernel_rfl) ?_); (repeat (first | go_big_quiet_step (first | (go_at_call 31; exact Gives.quiet (cu))) | simp only [c40] | simp only [hX])); refine wpQuiet_nil ?_; rintro _ ⟨x, rfl⟩) | (go_at_call 31; refine (cu).mono ?_; rintro _ _ ⟨rfl, x, rfl⟩))
            refine c_iBoardTime.mono ?_
            rintro _ _ ⟨rfl, y8, rfl⟩
            rw [HBX.out]
            go_wp2_with (first | ((with_reducible refine wp_region_later (by kernel_rfl) (by kernel_rfl) ?_); (repeat (first | go_big_quiet_step (first | fail))); refine wpQuiet_nil ?_; rintro _ ⟨x, rfl⟩))
            refine (c_iBoundsOf (hsl.to inferInstance) rfl (by simp)).mono ?_
            rintro _ _ ⟨rfl, y9, rfl⟩
            rw [HBOX.out]
            go_wp2_with (first | ((with_reducible refine wp_region_later (by kernel_rfl) (by kernel_rfl) ?_); (repeat (first | go_big_quiet_step (first | fail))); refine wpQuiet_nil ?_; rintro _ ⟨x, rfl⟩))
            refine c_iBoardTime.mono ?_
            rintro _ _ ⟨rfl, y10, rfl⟩
            rw [HBX.out]
            go_wp2_with (first | ((with_reducible refine wp_region_later (by kernel_rfl) (by kernel_rfl) ?_); (repeat (first | go_big_quiet_step (first | fail))); refine wpQuiet_nil ?_; rintro _ ⟨x, rfl⟩))
            refine (c_iGuessTrue (hsl.to inferInstance) rfl (by simp)).mono ?_
            rintro _ _ ⟨rfl, y11, rfl⟩
            rw [HGTX.out]
            go_wp2_with (first | ((with_reducible refine wp_region_later (by kernel_rfl) (by kernel_rfl) ?_); (repeat (first | go_big_quiet_step (first | fail))); refine wpQuiet_nil ?_; rintro _ ⟨x, rfl⟩))
            go_roundw
            case rel => exact ⟨k + 1, by go_num, by omega, Later.of⟩
            case measure => simp [intOf]; omega
          · go_wp2_with (first | ((with_reducible refine wp_region_later (by kernel_rfl) (by kernel_rfl) ?_); (repeat (first | go_big_quiet_step (first | fail))); refine wpQuiet_nil ?_; rintro _ ⟨x, rfl⟩))
            refine (c_iRateOf (hsl.to inferInstance) rfl (by simp)).mono ?_
            rintro _ _ ⟨rfl, y7, rfl⟩
            rw [HRT.out]
            go_wp2_with (first | ((with_reducible refine wp_region_later (by kernel_rfl) (by kernel_rfl) ?_); (repeat (first | go_big_quiet_step (first | (go_at_call 49; exact Gives.quiet (c_iPairsOk (by first | assumption | (apply Sl.to <;> first | assumption | infer_instance) | omega) (by first | assumption | (apply Sl.to <;> first | assumption | infer_instance) | omega) (by first | assumption | (apply Sl.to <;> first | assumption | infer_instance) | omega)))))); refine wpQuiet_nil ?_; rintro _ ⟨x, rfl⟩) | (go_at_call 49; refine (c_iPairsOk (by first | assumption | (apply Sl.to <;> first | assumption | infer_instance) | omega) (by first | assumption | (apply Sl.to <;> first | assumption | infer_instance) | omega) (by first | assumption | (apply Sl.to <;> first | assumption | infer_instance) | omega)).mono ?_; rintro _ _ ⟨rfl, x, rfl⟩))
            go_ret
            exact Gives.mk rfl
  · go_enter Try.func10, Try.ntmps10
    go_wp2_with (first | ((with_reducible refine wp_region_later (by kernel_rfl) (by kernel_rfl) ?_); (repeat (first | go_big_quiet_step (first | (go_at_call 29; exact Gives.quiet (c_lbig))) | simp only [q0])); refine wpQuiet_nil ?_; rintro _ ⟨x, rfl⟩) | (go_at_call 29; refine (c_lbig).mono ?_; rintro _ _ ⟨rfl, x, rfl⟩))
    go_ret
    exact Gives.mk rfl
end Go.Proofs.Ytonclekalgaojaa
