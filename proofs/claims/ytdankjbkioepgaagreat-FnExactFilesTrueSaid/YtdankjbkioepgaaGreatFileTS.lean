/- The contract of FileText, the reference's. No condition but on lengths. -/
import Derived.Test.YtdankjbkioepgaaGreatMissO
namespace Go.Proofs.YtdankjbkioepgaaGreat
set_option linter.unusedVariables false
open Go.ChangeShapes Go.WideShapes Go.ChangeAt Go.RowKit

set_option maxRecDepth 100000 in
set_option maxHeartbeats 2000000 in
theorem c_sFileText {a : Option Addr} {n c : Nat} {f z k : Int} {p : List ByteArray} {w : World} (hs : Sl encStr w a p) (hn : p.length = n) (hm : n ≤ 1048576) (hsz : ∀ s ∈ p, s.size ≤ 1048576) :
    Calls Tryz.prog 53 #[.agg #[.int .i64 f, .int .i64 z, .int .i64 k, .slice a n c]] w (Gives w (tupText (fileText f z k p) (textIs f z k p))) := by
  have HS := Lib.hid hsz; clear hsz
  cases c0 : fileInOk f z k p
  · have HV := Lib.hid (show textIs f z k p = false by rw [textIs, c0]; rfl)
    go_enter Tryz.func53, Tryz.ntmps53
    go_wp2_with (first | ((with_reducible refine wp_region_later (by kernel_rfl) (by kernel_rfl) ?_); (repeat (first | go_big_quiet_step (first | fail))); refine wpQuiet_nil ?_; rintro _ ⟨x, rfl⟩))
    refine (c_sFileInOk (hs.to inferInstance) hn (by omega) HS.out).mono ?_
    rintro _ _ ⟨rfl, y1, rfl⟩
    go_wp2_with (first | ((with_reducible refine wp_region_later (by kernel_rfl) (by kernel_rfl) ?_); (repeat (first | go_big_quiet_step (first | fail) | simp only [c0])); refine wpQuiet_nil ?_; rintro _ ⟨x, rfl⟩))
    refine bodyPost_ret (v := .tuple #[.string ⟨#[]⟩, .bool false]) ?_ rfl (Gives.mk (by rw [fileText, HV.out]; rfl))
    simp [results, Tryz.results53, go_sem]
  have hpp := fileInOk_parts c0
  have h25 : n = 25 := by omega
  have HP := Lib.hid hpp.2; clear hpp
  cases c1 : (z == -1)
  · obtain ⟨N, hN⟩ : ∃ N : Nat, countSeg z = N := ⟨(countSeg z).toNat, by have := countSeg_bd z; omega⟩
    have hNb : N ≤ 25 := by have := countSeg_bd z; omega
    have HN := Lib.hid (show segsIn z p = p.take N by rw [segsIn, hN]; rfl)
    have HC := Lib.hid hN; clear hN
    have HV := Lib.hid (show textIs f z k p = (noEmpty (p.take N) && (((joined (p.take N)).size : Int) == z && checkOf (joined (p.take N)) == k)) by rw [textIs, c0, c1, HN.out]; rfl)
    have H25 := Lib.hid h25
    have hnn : 25 ≤ n := by omega
    clear h25
    go_enter Tryz.func53, Tryz.ntmps53
    go_wp2_with (first | ((with_reducible refine wp_region_later (by kernel_rfl) (by kernel_rfl) ?_); (repeat (first | go_big_quiet_step (first | fail))); refine wpQuiet_nil ?_; rintro _ ⟨x, rfl⟩))
    refine (c_sFileInOk (hs.to inferInstance) hn (by omega) HS.out).mono ?_
    rintro _ _ ⟨rfl, y1, rfl⟩
    go_wp2_with (first | ((with_reducible refine wp_region_later (by kernel_rfl) (by kernel_rfl) ?_); (repeat (first | go_big_quiet_step (first | fail) | simp only [c0] | simp only [c1])); refine wpQuiet_nil ?_; rintro _ ⟨x, rfl⟩))
    refine (c_sMissingOf (hs.to inferInstance) hn (by omega) HS.out).mono ?_
    rintro _ _ ⟨a2, c2, rfl, o2, y2, rfl⟩
    clear o2
    have hml : missL f z k p = [] ↔ noEmpty (p.take N) = true := by
      rw [missL, c0, c1, HN.out]; exact missGo_none _ _ _
    obtain ⟨L, hL⟩ : ∃ L, (missL f z k p).length = L := ⟨_, rfl⟩
    rw [hL]
    by_cases hL0 : 0 < L
    · have hne : noEmpty (p.take N) = false := by
        cases h9 : noEmpty (p.take N)
        · rfl
        · rw [hml.2 h9] at hL; simp at hL; omega
      have HV2 := Lib.hid (show textIs f z k p = false by rw [HV.out, hne]; rfl)
      have k3 : decide ((0 : Int) < (L : Int)) = true := by simp; omega
      clear hml hL hne HV
      go_wp2_with (first | ((with_reducible refine wp_region_later (by kernel_rfl) (by kernel_rfl) ?_); (repeat (first | go_big_quiet_step (first | fail) | simp only [c0] | simp only [c1] | simp only [k3])); refine wpQuiet_nil ?_; rintro _ ⟨x, rfl⟩))
      refine bodyPost_ret (v := .tuple #[.string ⟨#[]⟩, .bool false]) ?_ rfl (Gives.mk (by rw [fileText, HV2.out]; rfl))
      simp [results, Tryz.results53, go_sem]
    have HNE := Lib.hid (show noEmpty (p.take N) = true from hml.1 (List.length_eq_zero_iff.1 (by omega)))
    clear hml hL
    obtain rfl : L = 0 := by omega
    clear hL0
    go_wp2_with (first | ((with_reducible refine wp_region_later (by kernel_rfl) (by kernel_rfl) ?_); (repeat (first | go_big_quiet_step (first | fail) | simp only [c0] | simp only [c1])); refine wpQuiet_nil ?_; rintro _ ⟨x, rfl⟩))
    go_loopw [4, 5] (fun u v wr => ∃ (j : Nat) (acc : ByteArray), v = .int .i64 j ∧ u = .string acc ∧ j ≤ N ∧ acc.size ≤ 24 * j ∧ Hid (acc = joined (p.take j)) ∧ ∃ x : Later (w.alloc (.cells #[.int .i64 f, .int .i64 z, .int .i64 k, .slice a n c] 131)), wr = x.w) (fun _ v _ => (N - intOf v).toNat)
    case atStart => exact ⟨0, _, rfl, rfl, by omega, by simp [ByteArray.size], rfl, Later.of⟩
    case round =>
      obtain ⟨j, acc, rfl, rfl, hj, hacc, hf, x, rfl⟩ := hrel
      by_cases h : j < N
      · have hjn : j < n := by omega
        have kc : decide ((j : Int) < (N : Int)) = true := by simp; omega
        obtain ⟨b, off, s, rfl, hb, hd, h0⟩ := hs.str (show j < p.length by omega)
        have hps : p[j]? = some s := by
          have := congrArg (fun m => m[0]?) hd.out
          simpa using this
        have hss : s.size ≤ 24 := HP.out s (List.mem_of_getElem? hps)
        have HF := Lib.hid (show acc ++ s = joined (p.take (j + 1)) by rw [take_snoc2 hps, joined_snoc, ← hf.out])
        clear hps hd
        go_wp2_with (first | ((with_reducible refine wp_region_later (by kernel_rfl) (by kernel_rfl) ?_); (repeat (first | go_big_quiet_step (first | fail))); refine wpQuiet_nil ?_; rintro _ ⟨x, rfl⟩))
        refine c_sCountSegments.mono ?_
        rintro _ _ ⟨rfl, y5, rfl⟩
        rw [HC.out]
        go_wp2_with (first | ((with_reducible refine wp_region_later (by kernel_rfl) (by kernel_rfl) ?_); (repeat (first | go_big_quiet_step (first | fail) | simp only [kc])); refine wpQuiet_nil ?_; rintro _ ⟨x, rfl⟩))
        go_roundw
        case rel => exact ⟨j + 1, _, by go_num, rfl, by omega, by rw [ByteArray.size_append]; omega, HF, Later.of⟩
        case measure => simp [intOf]; omega
      · have hjN : j = N := by omega
        have HF := Lib.hid (show acc = joined (p.take N) ∧ noEmpty (p.take N) = true by rw [← hjN]; exact ⟨hf.out, by rw [hjN]; exact HNE.out⟩)
        have kc : decide ((j : Int) < (N : Int)) = false := by simp; omega
        clear hf hjN
        go_wp2_with (first | ((with_reducible refine wp_region_later (by kernel_rfl) (by kernel_rfl) ?_); (repeat (first | go_big_quiet_step (first | fail))); refine wpQuiet_nil ?_; rintro _ ⟨x, rfl⟩))
        refine c_sCountSegments.mono ?_
        rintro _ _ ⟨rfl, y5, rfl⟩
        rw [HC.out]
        have HV2 := Lib.hid (show textIs f z k p = (((acc.size : Int) == z) && (checkOf acc == k)) by rw [HV.out, HF.out.2, HF.out.1]; rfl)
        have HT := Lib.hid (show joined (segsIn z p) = acc by rw [HN.out, HF.out.1])
        clear HV HF
        cases c3 : ((acc.size : Int) == z)
        · have c4 : ((acc.size : Int) != z) = true := by rw [bne, c3]; rfl
          have HV3 := Lib.hid (show textIs f z k p = false by rw [HV2.out, c3]; rfl)
          go_wp2_with (first | ((with_reducible refine wp_region_later (by kernel_rfl) (by kernel_rfl) ?_); (repeat (first | go_big_quiet_step (first | (go_at_call 116; exact Gives.quiet (c_sCheckOf (by omega)))) | simp only [kc] | simp only [c4])); refine wpQuiet_nil ?_; rintro _ ⟨x, rfl⟩) | (go_at_call 116; refine (c_sCheckOf (by omega)).mono ?_; rintro _ _ ⟨rfl, x, rfl⟩))
          refine bodyPost_ret (v := .tuple #[.string ⟨#[]⟩, .bool false]) ?_ rfl (Gives.mk (by rw [fileText, HV3.out]; rfl))
          simp [results, Tryz.results53, go_sem]
        · have c4 : ((acc.size : Int) != z) = false := by rw [bne, c3]; rfl
          cases c5 : (checkOf acc == k)
          · have c6 : (checkOf acc != k) = true := by rw [bne, c5]; rfl
            have HV3 := Lib.hid (show textIs f z k p = false by rw [HV2.out, c3, c5]; rfl)
            go_wp2_with (first | ((with_reducible refine wp_region_later (by kernel_rfl) (by kernel_rfl) ?_); (repeat (first | go_big_quiet_step (first | (go_at_call 116; exact Gives.quiet (c_sCheckOf (by omega)))) | simp only [kc] | simp only [c4] | simp only [c6])); refine wpQuiet_nil ?_; rintro _ ⟨x, rfl⟩) | (go_at_call 116; refine (c_sCheckOf (by omega)).mono ?_; rintro _ _ ⟨rfl, x, rfl⟩))
            refine bodyPost_ret (v := .tuple #[.string ⟨#[]⟩, .bool false]) ?_ rfl (Gives.mk (by rw [fileText, HV3.out]; rfl))
            simp [results, Tryz.results53, go_sem]
          · have c6 : (checkOf acc != k) = false := by rw [bne, c5]; rfl
            have HV3 := Lib.hid (show textIs f z k p = true by rw [HV2.out, c3, c5]; rfl)
            go_wp2_with (first | ((with_reducible refine wp_region_later (by kernel_rfl) (by kernel_rfl) ?_); (repeat (first | go_big_quiet_step (first | (go_at_call 116; exact Gives.quiet (c_sCheckOf (by omega)))) | simp only [kc] | simp only [c4] | simp only [c6])); refine wpQuiet_nil ?_; rintro _ ⟨x, rfl⟩) | (go_at_call 116; refine (c_sCheckOf (by omega)).mono ?_; rintro _ _ ⟨rfl, x, rfl⟩))
            refine bodyPost_ret (v := .tuple #[.string acc, .bool true]) ?_ rfl (Gives.mk (by rw [fileText, HV3.out, HT.out]; rfl))
            simp [results, Tryz.results53, go_sem]
  · obtain rfl : z = -1 := by simpa using c1
    have HV := Lib.hid (show textIs f (-1) k p = false by rw [textIs, c0]; rfl)
    clear c1 h25
    go_enter Tryz.func53, Tryz.ntmps53
    go_wp2_with (first | ((with_reducible refine wp_region_later (by kernel_rfl) (by kernel_rfl) ?_); (repeat (first | go_big_quiet_step (first | fail))); refine wpQuiet_nil ?_; rintro _ ⟨x, rfl⟩))
    refine (c_sFileInOk (hs.to inferInstance) hn (by omega) HS.out).mono ?_
    rintro _ _ ⟨rfl, y1, rfl⟩
    go_wp2_with (first | ((with_reducible refine wp_region_later (by kernel_rfl) (by kernel_rfl) ?_); (repeat (first | go_big_quiet_step (first | fail) | simp only [c0])); refine wpQuiet_nil ?_; rintro _ ⟨x, rfl⟩))
    refine bodyPost_ret (v := .tuple #[.string ⟨#[]⟩, .bool false]) ?_ rfl (Gives.mk (by rw [fileText, HV.out]; rfl))
    simp [results, Tryz.results53, go_sem]

end Go.Proofs.YtdankjbkioepgaaGreat
