/- The law of whole files, walked. No condition but on lengths. -/
import Derived.Test.YtjffbpdippbfkaaWholeN
import Derived.Test.YtjffbpdippbfkaaWholeD
import Derived.Test.YtjffbpdippbfkaaBox2
namespace Go.Proofs.Ytjffbpdippbfkaa
set_option linter.unusedVariables false
open Go.ChangeShapes Go.WideShapes Go.ChangeAt Go.RowKit

theorem But.grown {b : Nat} {w0 w : World} {z : Later w0} (h : But b w z.w) (g : Grows w0 w) : w.grownBy z.w (some b) :=
  ⟨z.h.os.trans g.out.os.symm, z.h.tape.trans g.out.tape.symm, z.h.output.trans g.out.output.symm, h.size, fun k hk hr => h.block k (fun e => hr (by rw [e])) hk⟩
theorem Own.grownAt {α : Type} {enc : α → List Value} {T T' size B : Nat} {w w' : World} {a : Option Addr} {c b : Nat} {l : List α} {cs : List Value} (h : Own enc T size B w a c l) (hb : Held w b cs T') (hT : T ≠ T') (hg : w.grownBy w' (some b)) : Own enc T size B w' a c l :=
  ⟨h.1, h.2.kept hg (.inr (fun e => h.notHeld (n := l.length) hb hT e.symm))⟩
theorem Held.grownAt {w w' : World} {b b2 : Nat} {cs : List Value} {T : TypeId} (h : Held w b cs T) (hg : w.grownBy w' (some b2)) (hne : b ≠ b2) : Held w' b cs T := blk_grown hg h (by simpa using hne)

section
variable {P : Program} {ops : Array Oper} {op : Oper} {a : Act} {w : World} {Q : Exit → Act → World → Prop} {K : Act → World → Prop} {E : Prop}
theorem step_loadH (hw : Region.wanted op (yielded ops a.tmps) = true) (ty : TypeId) (x : Operand) (ho : op.op = .load ty x) (b : Nat) (hx : a.eval x = .pointer (some ⟨b, 0, none⟩)) {cs : List Value} {T : TypeId} (H : Held w b cs T)
    (d : TypeDesc) (hu : P.underlying ty = some d) (hd : d.isRow = true) (hi : (P.info? ty).map (·.size) = some cs.length)
    (h : K (a.put op.dst (.agg cs.toArray)) w) : if Region.wanted op (yielded ops a.tmps) = true then Oper.wp P op a w K Q else E := by
  rw [if_pos hw]
  exact wp_load_mid ty x ho b 0 hx cs d (H.range (by rw [List.drop_zero, List.take_length])) hu hd hi h
theorem step_storeH (hw : Region.wanted op (yielded ops a.tmps) = true) (ty : TypeId) (x y : Operand) (ho : op.op = .store ty x y) (b : Nat) (hx : a.eval x = .pointer (some ⟨b, 0, none⟩)) {cs us : List Value} {T : TypeId} (H : Held w b cs T)
    (hv : (a.eval y).cells.toList = us) (hi : (P.info? ty).map (·.size) = some us.length) (h1 : us.all (·.oneCell') = true) (hl : us.length = cs.length) {w0 : World} (g : Grows w0 w) (hb : w0.heap.size ≤ b)
    (h : ∀ z : Later w0, Held z.w b us T → w.grownBy z.w (some b) → K (a.put op.dst undef) z.w) : if Region.wanted op (yielded ops a.tmps) = true then Oper.wp P op a w K Q else E := by
  rw [if_pos hw]
  unfold Oper.wp execOp
  simp only [ho, hx, Instr.storeAt, Instr.sureAddr, Sem.run_bind, Sem.run_pure, Result.andThen_ok, run_storeVar_held hv (H.there (o := 0) (n := us.length) (by omega)) hi (fun u hu => List.all_eq_true.1 h1 u hu)]
  have hs := H.setCells us 0
  rw [splice_all hl] at hs
  have bt : But b w (w.setCells b 0 us) := But.setCells us 0 ⟨Nat.le_refl _, fun _ _ _ => rfl⟩
  exact h ⟨_, below_setCells hb us 0 g.out⟩ hs (But.grown (z := ⟨_, below_setCells hb us 0 g.out⟩) bt g)
end

theorem RInv.start {s : ByteArray} (h : s.size ≤ 200) : RInv s 0 (-1) (-1) (List.replicate 25 ⟨#[]⟩) (queue0 s) false :=
  ⟨⟨by simp, fun j hj => .inl (by unfold nth; rw [List.getD_eq_getElem?_getD, List.getElem?_replicate]; simp [hj]), .inl ⟨rfl, rfl⟩⟩, queue0_inv h, fun e => (by cases e), fun e => absurd e (by omega)⟩

set_option maxRecDepth 100000 in
set_option maxHeartbeats 4000000 in
theorem c_lFnFilesWhole {w : World} {a : Option Addr} {n c : Nat} {l : List Int} (hs : Sl encByte w a l) (hn : l.length = n) (hz : n ≤ 9223372036854775807) (hby : ∀ x ∈ l, isByte x) :
    Calls Try.prog 3 #[.slice a n c] w (Gives w (.bool true)) := by
  cases q0 : decide (1048576 < (n : Int))
  · have hm : n ≤ 1048576 := by have := of_decide_eq_false q0; omega
    have HBY := Lib.hid hby; clear hby
    go_enter Try.func3, Try.ntmps3
    go_wp2_with (first | ((with_reducible refine wp_region_later (by kernel_rfl) (by kernel_rfl) ?_); (repeat (first | go_big_quiet_step (first | fail) | simp only [q0])); refine wpQuiet_nil ?_; rintro _ ⟨x, rfl⟩))
    refine c_lbig.mono ?_
    rintro _ _ ⟨rfl, x0, rfl⟩
    go_wp2_with (first | ((with_reducible refine wp_region_later (by kernel_rfl) (by kernel_rfl) ?_); (repeat (first | go_big_quiet_step (first | fail) | simp only [q0])); refine wpQuiet_nil ?_; rintro _ ⟨x, rfl⟩))
    refine (c_sDrawFile (hs.to inferInstance) hn hm HBY.out).mono ?_
    rintro _ _ ⟨s, rfl, hs2, x1, rfl⟩
    go_wp2_with (first | ((with_reducible refine wp_region_later (by kernel_rfl) (by kernel_rfl) ?_); (repeat (first | go_big_quiet_step (first | fail))); refine wpQuiet_nil ?_; rintro _ ⟨x, rfl⟩))
    refine (c_iNewFileOut hs2).mono ?_
    rintro _ _ ⟨qa, qc, rfl, hoq, x2, rfl⟩
    have hoq := Lib.hid (Own.mono (B' := w.heap.size) hoq LeN.out)
    obtain ⟨nq, hnq⟩ : ∃ nq, (queue0 s).length = nq := ⟨_, rfl⟩
    rw [hnq]
    have HNQ := Lib.hid hnq; clear hnq
    obtain ⟨X, hX⟩ := Later.of (w := w) (W := x2.w)
    rw [hX] at hoq ⊢
    clear hX
    go_wp2_with (first | ((with_reducible refine wp_region_later (by kernel_rfl) (by kernel_rfl) ?_); (repeat (first | go_big_quiet_step (first | fail))); refine wpQuiet_nil ?_; rintro _ ⟨x, rfl⟩))
    refine c_iNewFileIn.mono ?_
    rintro _ _ ⟨pa, pc, rfl, hop, x3, rfl⟩
    have hop := Lib.hid (Own.mono (B' := w.heap.size) hop LeN.out)
    go_wp2_with (first | ((with_reducible refine wp_region_later (by kernel_rfl) (by kernel_rfl) ?_); (repeat (first | go_big_quiet_step (first | fail))); refine wpQuiet_nil ?_; rintro _ ⟨x, rfl⟩))
    have HX4 := Held.new X.w [.int .i64 4, .string s, .slice qa nq qc, .bool false] 27 X.w.heap.size rfl
    have HX6 := Held.new x3.w [.int .i64 4, .int .i64 (-1), .int .i64 (-1), .slice pa 25 pc] 32 x3.w.heap.size rfl
    have hge4 : w.heap.size ≤ X.w.heap.size := LeN.out
    have hge6 : w.heap.size ≤ x3.w.heap.size := LeN.out
    have hne : X.w.heap.size ≠ x3.w.heap.size := by have := (inferInstance : LtN X.w.heap.size x3.w.heap.size).out; omega
    have HX4 := Lib.hid (HX4.to (inferInstance : Grows _ (x3.w.alloc (.cells #[.int .i64 4, .int .i64 (-1), .int .i64 (-1), .slice pa 25 pc] 32))))
    have hoq := Lib.hid (hoq.out.to (inferInstance : Grows _ (x3.w.alloc (.cells #[.int .i64 4, .int .i64 (-1), .int .i64 (-1), .slice pa 25 pc] 32))))
    have hop := Lib.hid (hop.out.to (inferInstance : Grows _ (x3.w.alloc (.cells #[.int .i64 4, .int .i64 (-1), .int .i64 (-1), .slice pa 25 pc] 32))))
    have HX6 := Lib.hid HX6
    obtain ⟨b4, hb4⟩ : ∃ b, X.w.heap.size = b := ⟨_, rfl⟩
    obtain ⟨b6, hb6⟩ : ∃ b, x3.w.heap.size = b := ⟨_, rfl⟩
    obtain ⟨Y, hY⟩ := Later.of (w := w) (W := x3.w.alloc (.cells #[.int .i64 4, .int .i64 (-1), .int .i64 (-1), .slice pa 25 pc] 32))
    rw [hb4, hb6] at hne
    rw [hb4] at hge4
    rw [hb6] at hge6
    change Hid (Held (x3.w.alloc (.cells #[.int .i64 4, .int .i64 (-1), .int .i64 (-1), .slice pa 25 pc] 32)) x3.w.heap.size _ _) at HX6
    rw [hY] at HX4 HX6 hoq hop ⊢
    rw [hb4] at HX4; rw [hb6] at HX6
    simp only [hb4, hb6]
    clear hY hb4 hb6
    have hLE4 : LeN w.heap.size b4 := ⟨hge4⟩
    have hLE6 : LeN w.heap.size b6 := ⟨hge6⟩
    go_loopw [7] (fun v wr => ∃ (K : Nat) (z k : Int) (p : List ByteArray) (q : List Int) (d : Bool) (qa : Option Addr) (qc nq : Nat) (pa : Option Addr) (pc : Nat), v = .int .i64 K ∧ K ≤ 90 ∧ q.length = nq ∧ Hid (RInv s K z k p q d) ∧ Hid (Held wr b4 [.int .i64 4, .string s, .slice qa nq qc, .bool d] 27) ∧ Hid (Held wr b6 [.int .i64 4, .int .i64 z, .int .i64 k, .slice pa 25 pc] 32) ∧ Hid (Own encInt 3 1 w.heap.size wr qa qc q) ∧ Hid (Own encStr 9 1 w.heap.size wr pa pc p) ∧ ∃ y : Later w, wr = y.w) (fun v _ => (90 - intOf v).toNat)
    case atStart => exact ⟨0, -1, -1, List.replicate 25 ⟨#[]⟩, queue0 s, false, qa, qc, nq, pa, pc, rfl, by omega, HNQ.out, RInv.start hs2, HX4, HX6, hoq, hop, Later.of⟩
    case round =>
      clear hoq hop HX4 HX6 HNQ
      obtain ⟨K, z, k, p, q, d, qa, qc, nq, pa, pc, rfl, hK, hnq, HR, H4, H6, HQ, HP, y, rfl⟩ := hrel
      have hp25 : p.length = 25 := HR.out.fi.len
      have hq10 : nq ≤ 10 := by have := HR.out.qi.len; omega
      obtain ⟨e0, e1, e2, e3, k0, k1, k2, k3⟩ := H4.out.four
      obtain ⟨f0, f1, f2, f3, j0, j1, j2, j3⟩ := H6.out.four
      have hl4 := H4.out.ltN; have hl6 := H6.out.ltN
      by_cases hK90 : K < 90
      · have kc : decide ((K : Int) < 90) = true := by simp; omega
        have hcap : nq ≤ qc := by have := HQ.out.cap; omega
        go_wp2_with (first | ((with_reducible refine wp_region_later (by kernel_rfl) (by kernel_rfl) ?_); (repeat (first | go_big_quiet_step (first | fail) | simp only [kc])); refine wpQuiet_nil ?_; rintro _ ⟨x, rfl⟩))
        refine (c_iNextPart HQ.out.sl hnq hcap (by omega) (by omega)).mono ?_
        rintro _ _ ⟨qa2, qc2, rfl, hoq2, y1, rfl⟩
        cases q with
        | nil =>
          obtain rfl : nq = 0 := hnq.symm
          clear hnq
          obtain ⟨g1, g2⟩ := next_none hs2 HR.out.qi
          rw [g1, g2]
          simp only [List.length_nil]
          have hoq3 := Lib.hid (Own.mono (B' := w.heap.size) hoq2 LeN.out)
          rw [g1] at hoq3
          go_wp2_with (first | ((with_reducible refine wp_region_later (by kernel_rfl) (by kernel_rfl) ?_); (repeat (first | go_big_quiet_step (first | (go_at_call 12; exact Gives.quiet (c_iEncodeEnd (by first | assumption | (apply Sl.to <;> first | assumption | infer_instance) | omega)))))); refine wpQuiet_nil ?_; rintro _ ⟨x, rfl⟩) | (go_at_call 12; refine (c_iEncodeEnd (by first | assumption | (apply Sl.to <;> first | assumption | infer_instance) | omega)).mono ?_; rintro _ _ ⟨rfl, x, rfl⟩) | (refine stepStore2 rfl _ _ _ rfl b4 0 rfl (us := [.int .i64 4, .string s, .slice qa2 0 qc2, .bool d]) (cs2 := [.int .i64 4, .string s, .slice qa2 0 qc2, .bool d]) (Held.to H4.out inferInstance) ?A1 ?A2 ?A3 ?A4 ?A5 (w0 := w) inferInstance LeN.out ?A6; go_must ((case A1 => rfl); (case A2 => kernel_rfl); (case A3 => rfl); (case A4 => exact Nat.le_of_ble_eq_true rfl); (case A5 => kernel_rfl); intro zA hA uA; have GA := uA.grown inferInstance; have H6A := Lib.hid (Held.grownAt (Held.to H6.out inferInstance) GA hne.symm); have HPA := Lib.hid (Own.grownAt (Own.to HP.out inferInstance) (Held.to H4.out inferInstance) (by decide) GA); have HQA := Lib.hid (Own.grownAt (Own.to hoq3.out inferInstance) (Held.to H4.out inferInstance) (by decide) GA); have HA := Lib.hid hA; obtain ⟨pA0, pA1, pA2, pA3, qA0, qA1, qA2, qA3⟩ := hA.four; obtain ⟨rA0, rA1, rA2, rA3, sA0, sA1, sA2, sA3⟩ := H6A.out.four; have lA := hA.ltN; have mA := H6A.out.ltN; clear hA uA GA)))
          have hsm : ∀ t ∈ p, t.size ≤ 1048576 := fun t ht => by have := HR.out.fi.small hs2 t ht; omega
          refine (c_iHearPart (Own.to HPA.out inferInstance).sl hp25 (by omega) hsm (by have := (decEnd_enc (s := s) (by omega)).2.2; omega)).mono ?_
          rintro _ _ ⟨pa2, pc2, rfl, hop2, y2, rfl⟩
          obtain ⟨a1, a2, a3⟩ := hear_end hs2 HR.out.fi
          rw [a1, a2, a3, hp25]
          have hop3 := Lib.hid (Own.mono (B' := w.heap.size) hop2 LeN.out)
          rw [a3] at hop3
          go_wp2_with (first | ((with_reducible refine wp_region_later (by kernel_rfl) (by kernel_rfl) ?_); (repeat (first | go_big_quiet_step (first | fail))); refine wpQuiet_nil ?_; rintro _ ⟨x, rfl⟩) | (refine stepStore2 rfl _ _ _ rfl b6 0 rfl (us := [.int .i64 4, .int .i64 s.size, .int .i64 (checkOf s), .slice pa2 25 pc2]) (cs2 := [.int .i64 4, .int .i64 s.size, .int .i64 (checkOf s), .slice pa2 25 pc2]) (Held.to H6A.out inferInstance) ?B1 ?B2 ?B3 ?B4 ?B5 (w0 := w) inferInstance LeN.out ?B6; go_must ((case B1 => rfl); (case B2 => kernel_rfl); (case B3 => rfl); (case B4 => exact Nat.le_of_ble_eq_true rfl); (case B5 => kernel_rfl); intro zB hB uB; have GB := uB.grown inferInstance; have H4B := Lib.hid (Held.grownAt (Held.to HA.out inferInstance) GB hne); have HPB := Lib.hid (Own.grownAt (Own.to hop3.out inferInstance) (Held.to H6A.out inferInstance) (by decide) GB); have HQB := Lib.hid (Own.grownAt (Own.to HQA.out inferInstance) (Held.to H6A.out inferInstance) (by decide) GB); have HB := Lib.hid hB; obtain ⟨pB0, pB1, pB2, pB3, qB0, qB1, qB2, qB3⟩ := hB.four; obtain ⟨rB0, rB1, rB2, rB3, sB0, sB1, sB2, sB3⟩ := H4B.out.four; have lB := hB.ltN; have mB := H4B.out.ltN; clear hB uB GB)))
          (try simp only [Act.put])
          have HFE := Lib.hid (show FInv s s.size (checkOf s) p from ⟨HR.out.fi.len, HR.out.fi.part, .inr ⟨rfl, rfl⟩⟩)
          have HML := Lib.hid (show (missL 4 s.size (checkOf s) p).length ≤ 1048576 from Nat.le_trans (miss_is hs2 HFE.out).1 (by omega))
          refine wp_region_held_drew (S := fun W => Held W b6 [.int .i64 4, .int .i64 s.size, .int .i64 (checkOf s), .slice pa2 25 pc2] 32) (by kernel_rfl) (HB.out.to inferInstance) (fun hH => ?_)
          refine wpAnyH_take (i := 1) (v := _) rfl (by kernel_rfl) (by kernel_rfl) (by kernel_rfl) (fun _ _ _ h => h) (yieldsIf_load_mid (by rfl) _ _ rfl _ _ rfl [.int .i64 4, .int .i64 s.size, .int .i64 (checkOf s), .slice pa2 25 pc2] _ (fun W hW => Held.range (n := 4) hW rfl) Try.underlying32 rfl (by kernel_rfl)) hH ?_
          (try simp only [Act.put]); (try simp only [List.setIfInBounds_toArray]); (try simp only [List.set_cons_succ]); (try simp only [List.set_cons_zero])
          refine wpAnyH_ready (rs := [0, 2]) (by kernel_rfl) (by simp) ?_
          refine AllReadyH.cons rfl (fun K hK => ?_) (AllReadyH.cons rfl (fun K hK => ?_) AllReadyH.nil)
          · refine step_loadH (by kernel_rfl) _ _ rfl b4 rfl (Held.to H4B.out inferInstance) _ Try.underlying27 rfl (by kernel_rfl) ?_
            refine hK.out _ _ hH (fun _ => ?_)
            (try simp only [Act.put]); (try simp only [List.setIfInBounds_toArray]); (try simp only [List.set_cons_succ]); (try simp only [List.set_cons_zero])
            clear hK K
            refine wpAnyH_ready (rs := [2]) (by kernel_rfl) (by simp) ?_
            refine AllReadyH.cons rfl (fun K hK => ?_) AllReadyH.nil
            refine step_call rfl (f := 15) rfl Try.func15 (by kernel_rfl) (by kernel_rfl) [.agg #[.int .i64 4, .int .i64 s.size, .int .i64 (checkOf s), .slice pa2 25 pc2]] rfl ((c_iMissingOf (Own.to HPB.out inferInstance).sl hp25 (by omega) hsm).mono ?_)
            rintro _ _ ⟨ma, mc, rfl, hmo, y5, rfl⟩
            refine ⟨_, rfl, hK.out _ _ (HB.out.to inferInstance) (fun _ => ?_)⟩
            (try simp only [Act.put]); (try simp only [List.setIfInBounds_toArray]); (try simp only [List.set_cons_succ]); (try simp only [List.set_cons_zero])
            clear hK K
            refine wpAnyH_ready (rs := [3]) (by kernel_rfl) (by simp) ?_
            refine AllReadyH.cons rfl (fun K hK => ?_) AllReadyH.nil
            refine step_call rfl (f := 14) rfl Try.func14 (by kernel_rfl) (by kernel_rfl) [.agg #[.int .i64 4, .string s, .slice qa2 0 qc2, .bool d], .int .i64 4, .slice ma (missL 4 s.size (checkOf s) p).length mc] rfl ((c_iHearMissing (Own.to HQB.out inferInstance).sl (Own.to hmo inferInstance).sl rfl rfl (Nat.zero_le _) HML.out (by omega)).mono ?_)
            rintro _ _ ⟨qa4, qc4, rfl, hoq4, y6, rfl⟩
            refine ⟨_, rfl, hK.out _ _ (HB.out.to inferInstance) (fun _ => ?_)⟩
            (try simp only [Act.put]); (try simp only [List.setIfInBounds_toArray]); (try simp only [List.set_cons_succ]); (try simp only [List.set_cons_zero])
            clear hK K
            refine wpAnyH_ready (rs := [4]) (by kernel_rfl) (by simp) ?_
            refine AllReadyH.cons rfl (fun K hK => ?_) AllReadyH.nil
            refine step_storeH (by kernel_rfl) _ _ _ rfl b4 rfl (us := [.int .i64 4, .string s, .slice qa4 (heardQ 4 s.size [] 4 (missL 4 s.size (checkOf s) p)).length qc4, .bool (heardD 4 s.size [] d 4 (missL 4 s.size (checkOf s) p))]) (Held.to H4B.out inferInstance) rfl (by kernel_rfl) rfl rfl (w0 := w) inferInstance LeN.out ?_
            intro zC hC gC
            have H6C := Lib.hid (Held.grownAt (Held.to HB.out inferInstance) gC hne.symm)
            have hoq5 := Own.mono (B' := w.heap.size) hoq4 LeN.out
            have HQC := Lib.hid (Own.grownAt hoq5 (Held.to H4B.out inferInstance) (by decide) gC)
            have HPC := Lib.hid (Own.grownAt (Own.to HPB.out inferInstance) (Held.to H4B.out inferInstance) (by decide) gC)
            have HC := Lib.hid hC
            refine hK.out _ _ H6C.out (fun _ => ?_)
            (try simp only [Act.put]); (try simp only [List.setIfInBounds_toArray]); (try simp only [List.set_cons_succ]); (try simp only [List.set_cons_zero])
            clear hK K
            refine wpAnyH_done (by kernel_rfl) ?_ _
            have HRN := Lib.hid (HR.out.ended hs2 rfl)
            have hp25n : p.length = 25 := HRN.out.fi.len
            have hsmn : ∀ t ∈ p, t.size ≤ 1048576 := fun t ht => by have := HRN.out.fi.small hs2 t ht; omega
            obtain ⟨dx, hdx⟩ : ∃ dx, (heardD 4 s.size [] d 4 (missL 4 s.size (checkOf s) p)) = dx := ⟨_, rfl⟩
            obtain ⟨qx, hqx⟩ : ∃ qx, (heardQ 4 s.size [] 4 (missL 4 s.size (checkOf s) p)) = qx := ⟨_, rfl⟩
            rw [hdx, hqx] at HC HRN
            rw [hqx] at HQC
            rw [hdx, hqx]
            clear hdx hqx
            obtain ⟨nx, hnx⟩ : ∃ nx, qx.length = nx := ⟨_, rfl⟩
            rw [hnx] at HC
            rw [hnx]
            have HNX := Lib.hid hnx; clear hnx
            obtain ⟨u0, u1, u2, u3, v0, v1, v2, v3⟩ := HC.out.four
            obtain ⟨t0, t1, t2, t3, o0, o1, o2, o3⟩ := H6C.out.four
            have lu := HC.out.ltN; have lt := H6C.out.ltN
            go_wp2_with (first | ((with_reducible refine wp_region_later (by kernel_rfl) (by kernel_rfl) ?_); (repeat (first | go_big_quiet_step (first | fail))); refine wpQuiet_nil ?_; rintro _ ⟨x, rfl⟩))
            refine (c_iFileText (Own.to HPC.out inferInstance).sl hp25n (by omega) hsmn).mono ?_
            rintro _ _ ⟨rfl, y7, rfl⟩
            cases ht : textIs 4 (s.size : Int) (checkOf s) p
            · cases dx
              · simp only [tupText]
                go_wp2_with (first | ((with_reducible refine wp_region_later (by kernel_rfl) (by kernel_rfl) ?_); (repeat (first | go_big_quiet_step (first | fail))); refine wpQuiet_nil ?_; rintro _ ⟨x, rfl⟩))
                go_roundw
                case rel => exact ⟨K + 1, (s.size : Int), (checkOf s), p, qx, false, qa4, qc4, nx, pa2, pc2, by go_num, by omega, HNX.out, HRN, HC.out.to inferInstance, H6C.out.to inferInstance, Own.to HQC.out inferInstance, Own.to HPC.out inferInstance, Later.of⟩
                case measure => simp [intOf]; omega
              · have := (full_text hs2 HRN.out.fi (HRN.out.done rfl)).1
                rw [ht] at this; cases this
            · have hfull := text_full hs2 HRN.out.fi ht
              have hft := (full_text hs2 HRN.out.fi hfull).2
              rw [hft]
              simp only [tupText]
              have hss : (s.toList != s.toList) = false := by simp
              have HMS := Lib.hid (show missL 4 (s.size : Int) (checkOf s) p = [] by
                have hzz : (s.size : Int) = s.size := by rcases HRN.out.fi.zk with ⟨e, -⟩ | ⟨e, -⟩ <;> first | exact absurd e hfull.1 | exact e
                have hfi : FInv s s.size (checkOf s) p := hzz ▸ HRN.out.fi
                have hm2 := (miss_is hs2 hfi).2
                rw [hzz]
                cases hl : missL 4 s.size (checkOf s) p with
                | nil => rfl
                | cons y r => rw [hl] at hm2; obtain ⟨m, g1, -, g3⟩ := (hm2 y).1 (by simp); exact absurd g3 (hfull.2 m g1))
              clear hft hfull
              go_wp2_with (first | ((with_reducible refine wp_region_later (by kernel_rfl) (by kernel_rfl) ?_); (repeat (first | go_big_quiet_step (first | fail) | simp only [hss])); refine wpQuiet_nil ?_; rintro _ ⟨x, rfl⟩))
              refine (c_iMissingOf (Own.to HPC.out inferInstance).sl hp25n (by omega) hsmn).mono ?_
              rintro _ _ ⟨mb, mbc, rfl, hmb, y8, rfl⟩
              rw [HMS.out]
              cases dx
              all_goals (
                go_wp2_with (first | ((with_reducible refine wp_region_later (by kernel_rfl) (by kernel_rfl) ?_); (repeat (first | go_big_quiet_step (first | fail) | simp only [hss])); refine wpQuiet_nil ?_; rintro _ ⟨x, rfl⟩))
                go_roundw
                case rel => exact ⟨K + 1, (s.size : Int), (checkOf s), p, qx, _, qa4, qc4, nx, pa2, pc2, by go_num, by omega, HNX.out, HRN, HC.out.to inferInstance, H6C.out.to inferInstance, Own.to HQC.out inferInstance, Own.to HPC.out inferInstance, Later.of⟩
                case measure => simp [intOf]; omega)
          · skip
            refine step_call rfl (f := 15) rfl Try.func15 (by kernel_rfl) (by kernel_rfl) [.agg #[.int .i64 4, .int .i64 s.size, .int .i64 (checkOf s), .slice pa2 25 pc2]] rfl ((c_iMissingOf (Own.to HPB.out inferInstance).sl hp25 (by omega) hsm).mono ?_)
            rintro _ _ ⟨ma, mc, rfl, hmo, y5, rfl⟩
            refine ⟨_, rfl, hK.out _ _ (HB.out.to inferInstance) (fun _ => ?_)⟩
            (try simp only [Act.put]); (try simp only [List.setIfInBounds_toArray]); (try simp only [List.set_cons_succ]); (try simp only [List.set_cons_zero])
            clear hK K
            refine wpAnyH_ready (rs := [0]) (by kernel_rfl) (by simp) ?_
            refine AllReadyH.cons rfl (fun K hK => ?_) AllReadyH.nil
            refine step_loadH (by kernel_rfl) _ _ rfl b4 rfl (Held.to H4B.out inferInstance) _ Try.underlying27 rfl (by kernel_rfl) ?_
            refine hK.out _ _ (HB.out.to inferInstance) (fun _ => ?_)
            (try simp only [Act.put]); (try simp only [List.setIfInBounds_toArray]); (try simp only [List.set_cons_succ]); (try simp only [List.set_cons_zero])
            clear hK K
            refine wpAnyH_ready (rs := [3]) (by kernel_rfl) (by simp) ?_
            refine AllReadyH.cons rfl (fun K hK => ?_) AllReadyH.nil
            refine step_call rfl (f := 14) rfl Try.func14 (by kernel_rfl) (by kernel_rfl) [.agg #[.int .i64 4, .string s, .slice qa2 0 qc2, .bool d], .int .i64 4, .slice ma (missL 4 s.size (checkOf s) p).length mc] rfl ((c_iHearMissing (Own.to HQB.out inferInstance).sl (Own.to hmo inferInstance).sl rfl rfl (Nat.zero_le _) HML.out (by omega)).mono ?_)
            rintro _ _ ⟨qa4, qc4, rfl, hoq4, y6, rfl⟩
            refine ⟨_, rfl, hK.out _ _ (HB.out.to inferInstance) (fun _ => ?_)⟩
            (try simp only [Act.put]); (try simp only [List.setIfInBounds_toArray]); (try simp only [List.set_cons_succ]); (try simp only [List.set_cons_zero])
            clear hK K
            refine wpAnyH_ready (rs := [4]) (by kernel_rfl) (by simp) ?_
            refine AllReadyH.cons rfl (fun K hK => ?_) AllReadyH.nil
            refine step_storeH (by kernel_rfl) _ _ _ rfl b4 rfl (us := [.int .i64 4, .string s, .slice qa4 (heardQ 4 s.size [] 4 (missL 4 s.size (checkOf s) p)).length qc4, .bool (heardD 4 s.size [] d 4 (missL 4 s.size (checkOf s) p))]) (Held.to H4B.out inferInstance) rfl (by kernel_rfl) rfl rfl (w0 := w) inferInstance LeN.out ?_
            intro zC hC gC
            have H6C := Lib.hid (Held.grownAt (Held.to HB.out inferInstance) gC hne.symm)
            have hoq5 := Own.mono (B' := w.heap.size) hoq4 LeN.out
            have HQC := Lib.hid (Own.grownAt hoq5 (Held.to H4B.out inferInstance) (by decide) gC)
            have HPC := Lib.hid (Own.grownAt (Own.to HPB.out inferInstance) (Held.to H4B.out inferInstance) (by decide) gC)
            have HC := Lib.hid hC
            refine hK.out _ _ H6C.out (fun _ => ?_)
            (try simp only [Act.put]); (try simp only [List.setIfInBounds_toArray]); (try simp only [List.set_cons_succ]); (try simp only [List.set_cons_zero])
            clear hK K
            refine wpAnyH_done (by kernel_rfl) ?_ _
            have HRN := Lib.hid (HR.out.ended hs2 rfl)
            have hp25n : p.length = 25 := HRN.out.fi.len
            have hsmn : ∀ t ∈ p, t.size ≤ 1048576 := fun t ht => by have := HRN.out.fi.small hs2 t ht; omega
            obtain ⟨dx, hdx⟩ : ∃ dx, (heardD 4 s.size [] d 4 (missL 4 s.size (checkOf s) p)) = dx := ⟨_, rfl⟩
            obtain ⟨qx, hqx⟩ : ∃ qx, (heardQ 4 s.size [] 4 (missL 4 s.size (checkOf s) p)) = qx := ⟨_, rfl⟩
            rw [hdx, hqx] at HC HRN
            rw [hqx] at HQC
            rw [hdx, hqx]
            clear hdx hqx
            obtain ⟨nx, hnx⟩ : ∃ nx, qx.length = nx := ⟨_, rfl⟩
            rw [hnx] at HC
            rw [hnx]
            have HNX := Lib.hid hnx; clear hnx
            obtain ⟨u0, u1, u2, u3, v0, v1, v2, v3⟩ := HC.out.four
            obtain ⟨t0, t1, t2, t3, o0, o1, o2, o3⟩ := H6C.out.four
            have lu := HC.out.ltN; have lt := H6C.out.ltN
            go_wp2_with (first | ((with_reducible refine wp_region_later (by kernel_rfl) (by kernel_rfl) ?_); (repeat (first | go_big_quiet_step (first | fail))); refine wpQuiet_nil ?_; rintro _ ⟨x, rfl⟩))
            refine (c_iFileText (Own.to HPC.out inferInstance).sl hp25n (by omega) hsmn).mono ?_
            rintro _ _ ⟨rfl, y7, rfl⟩
            cases ht : textIs 4 (s.size : Int) (checkOf s) p
            · cases dx
              · simp only [tupText]
                go_wp2_with (first | ((with_reducible refine wp_region_later (by kernel_rfl) (by kernel_rfl) ?_); (repeat (first | go_big_quiet_step (first | fail))); refine wpQuiet_nil ?_; rintro _ ⟨x, rfl⟩))
                go_roundw
                case rel => exact ⟨K + 1, (s.size : Int), (checkOf s), p, qx, false, qa4, qc4, nx, pa2, pc2, by go_num, by omega, HNX.out, HRN, HC.out.to inferInstance, H6C.out.to inferInstance, Own.to HQC.out inferInstance, Own.to HPC.out inferInstance, Later.of⟩
                case measure => simp [intOf]; omega
              · have := (full_text hs2 HRN.out.fi (HRN.out.done rfl)).1
                rw [ht] at this; cases this
            · have hfull := text_full hs2 HRN.out.fi ht
              have hft := (full_text hs2 HRN.out.fi hfull).2
              rw [hft]
              simp only [tupText]
              have hss : (s.toList != s.toList) = false := by simp
              have HMS := Lib.hid (show missL 4 (s.size : Int) (checkOf s) p = [] by
                have hzz : (s.size : Int) = s.size := by rcases HRN.out.fi.zk with ⟨e, -⟩ | ⟨e, -⟩ <;> first | exact absurd e hfull.1 | exact e
                have hfi : FInv s s.size (checkOf s) p := hzz ▸ HRN.out.fi
                have hm2 := (miss_is hs2 hfi).2
                rw [hzz]
                cases hl : missL 4 s.size (checkOf s) p with
                | nil => rfl
                | cons y r => rw [hl] at hm2; obtain ⟨m, g1, -, g3⟩ := (hm2 y).1 (by simp); exact absurd g3 (hfull.2 m g1))
              clear hft hfull
              go_wp2_with (first | ((with_reducible refine wp_region_later (by kernel_rfl) (by kernel_rfl) ?_); (repeat (first | go_big_quiet_step (first | fail) | simp only [hss])); refine wpQuiet_nil ?_; rintro _ ⟨x, rfl⟩))
              refine (c_iMissingOf (Own.to HPC.out inferInstance).sl hp25n (by omega) hsmn).mono ?_
              rintro _ _ ⟨mb, mbc, rfl, hmb, y8, rfl⟩
              rw [HMS.out]
              cases dx
              all_goals (
                go_wp2_with (first | ((with_reducible refine wp_region_later (by kernel_rfl) (by kernel_rfl) ?_); (repeat (first | go_big_quiet_step (first | fail) | simp only [hss])); refine wpQuiet_nil ?_; rintro _ ⟨x, rfl⟩))
                go_roundw
                case rel => exact ⟨K + 1, (s.size : Int), (checkOf s), p, qx, _, qa4, qc4, nx, pa2, pc2, by go_num, by omega, HNX.out, HRN, HC.out.to inferInstance, H6C.out.to inferInstance, Own.to HQC.out inferInstance, Own.to HPC.out inferInstance, Later.of⟩
                case measure => simp [intOf]; omega)
        | cons v r =>
          obtain ⟨g1, g2, g3⟩ := next_some hs2 HR.out.qi
          have HNQ2 := Lib.hid hnq; clear hnq
          obtain ⟨nr, hnr⟩ : ∃ nr, r.length = nr := ⟨_, rfl⟩
          have hnr10 : nr ≤ 10 := by have := HR.out.qi.len; simp only [List.length_cons] at this; omega
          rw [g1] at hoq2
          rw [g1, g2, hnr]
          have HNR := Lib.hid hnr; clear hnr
          obtain ⟨b, hb⟩ : ∃ b, nextB 4 s (v :: r) = b := ⟨_, rfl⟩
          rw [hb]
          have HBB := Lib.hid (hb.symm.trans g3)
          clear g1 g2 g3 hb
          have hoq3 := Lib.hid (Own.mono (B' := w.heap.size) hoq2 LeN.out)
          have hsm : ∀ t ∈ p, t.size ≤ 1048576 := fun t ht => by have := HR.out.fi.small hs2 t ht; omega
          have hbz : b.size ≤ 1048576 := by
            rw [HBB.out]
            split
            · have := (decEnd_enc (s := s) (by omega)).2.2; omega
            · rename_i hv1
              rcases HR.out.qi.mem v (by simp) with e | ⟨e1, e2⟩
              · exact absurd e (by simpa using hv1)
              · obtain ⟨j, rfl⟩ : ∃ j : Nat, v = j := ⟨v.toNat, by omega⟩
                have h9 := segN9 hs2
                obtain ⟨-, i1, i2⟩ := segOf_is (s := s) (by omega) (show j < segN s by omega)
                have := (decSeg_enc (j := (j : Int)) (d := segOf s j) (by omega) (by omega) i1 i2).2.2
                omega
          obtain ⟨va, hva, hat⟩ := at_is hs hn hm HBY.out K (by omega)
          have cu : ∀ {W : World} [Grows w W], Calls Try.prog 16 #[.slice a n c, .int .i64 K] W (Gives W (.int .i64 va)) := fun {W} _ => hat W
          clear hat
          cases c1 : decide (0 < va.tmod 3)
          · cases c2 : decide ((40 : Int) < (K : Int))
            · have hK40 : K ≤ 40 := by simp at c2; omega
              have HRN := Lib.hid (HR.out.lost hK40)
              go_wp2_with (first | ((with_reducible refine wp_region_later (by kernel_rfl) (by kernel_rfl) ?_); (repeat (first | go_big_quiet_step (first | (go_at_call 16; exact Gives.quiet (cu))) | simp only [c1] | simp only [c2])); refine wpQuiet_nil ?_; rintro _ ⟨x, rfl⟩) | (go_at_call 16; refine (cu).mono ?_; rintro _ _ ⟨rfl, x, rfl⟩) | (refine stepStore2 rfl _ _ _ rfl b4 0 rfl (us := [.int .i64 4, .string s, .slice qa2 nr qc2, .bool d]) (cs2 := [.int .i64 4, .string s, .slice qa2 nr qc2, .bool d]) (Held.to H4.out inferInstance) ?L1 ?L2 ?L3 ?L4 ?L5 (w0 := w) inferInstance LeN.out ?L6; go_must ((case L1 => rfl); (case L2 => kernel_rfl); (case L3 => rfl); (case L4 => exact Nat.le_of_ble_eq_true rfl); (case L5 => kernel_rfl); intro zD hD uD; have GD := uD.grown inferInstance; have H6D := Lib.hid (Held.grownAt (Held.to H6.out inferInstance) GD hne.symm); have HPD := Lib.hid (Own.grownAt (Own.to HP.out inferInstance) (Held.to H4.out inferInstance) (by decide) GD); have HQD := Lib.hid (Own.grownAt (Own.to hoq3.out inferInstance) (Held.to H4.out inferInstance) (by decide) GD); have HD := Lib.hid hD; obtain ⟨pD0, pD1, pD2, pD3, qD0, qD1, qD2, qD3⟩ := hD.four; obtain ⟨rD0, rD1, rD2, rD3, sD0, sD1, sD2, sD3⟩ := H6D.out.four; have lD := hD.ltN; have mD := H6D.out.ltN; clear hD uD GD)))
              have hp25n : p.length = 25 := HRN.out.fi.len
              have hsmn : ∀ t ∈ p, t.size ≤ 1048576 := fun t ht => by have := HRN.out.fi.small hs2 t ht; omega
              refine (c_iFileText (Own.to HPD.out inferInstance).sl hp25n (by omega) hsmn).mono ?_
              rintro _ _ ⟨rfl, y7, rfl⟩
              cases ht : textIs 4 z k p
              · cases d
                · simp only [tupText]
                  go_wp2_with (first | ((with_reducible refine wp_region_later (by kernel_rfl) (by kernel_rfl) ?_); (repeat (first | go_big_quiet_step (first | fail))); refine wpQuiet_nil ?_; rintro _ ⟨x, rfl⟩))
                  go_roundw
                  case rel => exact ⟨K + 1, z, k, p, r, false, qa2, qc2, nr, pa, pc, by go_num, by omega, HNR.out, HRN, HD.out.to inferInstance, H6D.out.to inferInstance, Own.to HQD.out inferInstance, Own.to HPD.out inferInstance, Later.of⟩
                  case measure => simp [intOf]; omega
                · have := (full_text hs2 HRN.out.fi (HRN.out.done rfl)).1
                  rw [ht] at this; cases this
              · have hfull := text_full hs2 HRN.out.fi ht
                have hft := (full_text hs2 HRN.out.fi hfull).2
                rw [hft]
                simp only [tupText]
                have hss : (s.toList != s.toList) = false := by simp
                have HMS := Lib.hid (show missL 4 z k p = [] by
                  have hzz : z = s.size := by rcases HRN.out.fi.zk with ⟨e, -⟩ | ⟨e, -⟩ <;> first | exact absurd e hfull.1 | exact e
                  have hfi : FInv s s.size k p := hzz ▸ HRN.out.fi
                  have hm2 := (miss_is hs2 hfi).2
                  rw [hzz]
                  cases hl : missL 4 s.size k p with
                  | nil => rfl
                  | cons y r => rw [hl] at hm2; obtain ⟨m, g1, -, g3⟩ := (hm2 y).1 (by simp); exact absurd g3 (hfull.2 m g1))
                clear hft hfull
                go_wp2_with (first | ((with_reducible refine wp_region_later (by kernel_rfl) (by kernel_rfl) ?_); (repeat (first | go_big_quiet_step (first | fail) | simp only [hss])); refine wpQuiet_nil ?_; rintro _ ⟨x, rfl⟩))
                refine (c_iMissingOf (Own.to HPD.out inferInstance).sl hp25n (by omega) hsmn).mono ?_
                rintro _ _ ⟨mb, mbc, rfl, hmb, y8, rfl⟩
                rw [HMS.out]
                cases d
                all_goals (
                  go_wp2_with (first | ((with_reducible refine wp_region_later (by kernel_rfl) (by kernel_rfl) ?_); (repeat (first | go_big_quiet_step (first | fail) | simp only [hss])); refine wpQuiet_nil ?_; rintro _ ⟨x, rfl⟩))
                  go_roundw
                  case rel => exact ⟨K + 1, z, k, p, r, _, qa2, qc2, nr, pa, pc, by go_num, by omega, HNR.out, HRN, HD.out.to inferInstance, H6D.out.to inferInstance, Own.to HQD.out inferInstance, Own.to HPD.out inferInstance, Later.of⟩
                  case measure => simp [intOf]; omega)
            · skip
              go_wp2_with (first | ((with_reducible refine wp_region_later (by kernel_rfl) (by kernel_rfl) ?_); (repeat (first | go_big_quiet_step (first | (go_at_call 16; exact Gives.quiet (cu))) | simp only [c1] | simp only [c2])); refine wpQuiet_nil ?_; rintro _ ⟨x, rfl⟩) | (go_at_call 16; refine (cu).mono ?_; rintro _ _ ⟨rfl, x, rfl⟩) | (refine stepStore2 rfl _ _ _ rfl b4 0 rfl (us := [.int .i64 4, .string s, .slice qa2 nr qc2, .bool d]) (cs2 := [.int .i64 4, .string s, .slice qa2 nr qc2, .bool d]) (Held.to H4.out inferInstance) ?Ma1 ?Ma2 ?Ma3 ?Ma4 ?Ma5 (w0 := w) inferInstance LeN.out ?Ma6; go_must ((case Ma1 => rfl); (case Ma2 => kernel_rfl); (case Ma3 => rfl); (case Ma4 => exact Nat.le_of_ble_eq_true rfl); (case Ma5 => kernel_rfl); intro zD hD uD; have GD := uD.grown inferInstance; have H6D := Lib.hid (Held.grownAt (Held.to H6.out inferInstance) GD hne.symm); have HPD := Lib.hid (Own.grownAt (Own.to HP.out inferInstance) (Held.to H4.out inferInstance) (by decide) GD); have HQD := Lib.hid (Own.grownAt (Own.to hoq3.out inferInstance) (Held.to H4.out inferInstance) (by decide) GD); have HD := Lib.hid hD; obtain ⟨pD0, pD1, pD2, pD3, qD0, qD1, qD2, qD3⟩ := hD.four; obtain ⟨rD0, rD1, rD2, rD3, sD0, sD1, sD2, sD3⟩ := H6D.out.four; have lD := hD.ltN; have mD := H6D.out.ltN; clear hD uD GD)))
              refine (c_iHearPart (Own.to HPD.out inferInstance).sl hp25 (by omega) hsm hbz).mono ?_
              rintro _ _ ⟨pa2, pc2, rfl, hop2, y2, rfl⟩
              have hpl := heardP_length 4 z k p b
              have hop3 := Lib.hid (Own.mono (B' := w.heap.size) hop2 LeN.out)
              have HRN := Lib.hid (HR.out.heard hs2 HBB.out)
              rw [hpl, hp25]
              clear hpl hop2
              obtain ⟨zx, hzx⟩ : ∃ x, heardZ 4 z k p b = x := ⟨_, rfl⟩
              obtain ⟨kx, hkx⟩ : ∃ x, heardK 4 z k p b = x := ⟨_, rfl⟩
              obtain ⟨px, hpx⟩ : ∃ x, heardP 4 z k p b = x := ⟨_, rfl⟩
              rw [hzx, hkx]
              rw [hzx, hkx, hpx] at HRN
              rw [hpx] at hop3
              clear hzx hkx hpx
              go_wp2_with (first | ((with_reducible refine wp_region_later (by kernel_rfl) (by kernel_rfl) ?_); (repeat (first | go_big_quiet_step (first | fail) | simp only [c1] | simp only [c2])); refine wpQuiet_nil ?_; rintro _ ⟨x, rfl⟩) | (refine stepStore2 rfl _ _ _ rfl b6 0 rfl (us := [.int .i64 4, .int .i64 zx, .int .i64 kx, .slice pa2 25 pc2]) (cs2 := [.int .i64 4, .int .i64 zx, .int .i64 kx, .slice pa2 25 pc2]) (Held.to H6D.out inferInstance) ?Mb1 ?Mb2 ?Mb3 ?Mb4 ?Mb5 (w0 := w) inferInstance LeN.out ?Mb6; go_must ((case Mb1 => rfl); (case Mb2 => kernel_rfl); (case Mb3 => rfl); (case Mb4 => exact Nat.le_of_ble_eq_true rfl); (case Mb5 => kernel_rfl); intro zF hF uF; have GF := uF.grown inferInstance; have H4F := Lib.hid (Held.grownAt (Held.to HD.out inferInstance) GF hne); have HPF := Lib.hid (Own.grownAt (Own.to hop3.out inferInstance) (Held.to H6D.out inferInstance) (by decide) GF); have HQF := Lib.hid (Own.grownAt (Own.to HQD.out inferInstance) (Held.to H6D.out inferInstance) (by decide) GF); have HF := Lib.hid hF; obtain ⟨pF0, pF1, pF2, pF3, qF0, qF1, qF2, qF3⟩ := hF.four; obtain ⟨rF0, rF1, rF2, rF3, sF0, sF1, sF2, sF3⟩ := H4F.out.four; have lF := hF.ltN; have mF := H4F.out.ltN; clear hF uF GF)))
              have hp25n : px.length = 25 := HRN.out.fi.len
              have hsmn : ∀ t ∈ px, t.size ≤ 1048576 := fun t ht => by have := HRN.out.fi.small hs2 t ht; omega
              refine (c_iFileText (Own.to HPF.out inferInstance).sl hp25n (by omega) hsmn).mono ?_
              rintro _ _ ⟨rfl, y7, rfl⟩
              cases ht : textIs 4 zx kx px
              · cases d
                · simp only [tupText]
                  go_wp2_with (first | ((with_reducible refine wp_region_later (by kernel_rfl) (by kernel_rfl) ?_); (repeat (first | go_big_quiet_step (first | fail))); refine wpQuiet_nil ?_; rintro _ ⟨x, rfl⟩))
                  go_roundw
                  case rel => exact ⟨K + 1, zx, kx, px, r, false, qa2, qc2, nr, pa2, pc2, by go_num, by omega, HNR.out, HRN, H4F.out.to inferInstance, HF.out.to inferInstance, Own.to HQF.out inferInstance, Own.to HPF.out inferInstance, Later.of⟩
                  case measure => simp [intOf]; omega
                · have := (full_text hs2 HRN.out.fi (HRN.out.done rfl)).1
                  rw [ht] at this; cases this
              · have hfull := text_full hs2 HRN.out.fi ht
                have hft := (full_text hs2 HRN.out.fi hfull).2
                rw [hft]
                simp only [tupText]
                have hss : (s.toList != s.toList) = false := by simp
                have HMS := Lib.hid (show missL 4 zx kx px = [] by
                  have hzz : zx = s.size := by rcases HRN.out.fi.zk with ⟨e, -⟩ | ⟨e, -⟩ <;> first | exact absurd e hfull.1 | exact e
                  have hfi : FInv s s.size kx px := hzz ▸ HRN.out.fi
                  have hm2 := (miss_is hs2 hfi).2
                  rw [hzz]
                  cases hl : missL 4 s.size kx px with
                  | nil => rfl
                  | cons y r => rw [hl] at hm2; obtain ⟨m, g1, -, g3⟩ := (hm2 y).1 (by simp); exact absurd g3 (hfull.2 m g1))
                clear hft hfull
                go_wp2_with (first | ((with_reducible refine wp_region_later (by kernel_rfl) (by kernel_rfl) ?_); (repeat (first | go_big_quiet_step (first | fail) | simp only [hss])); refine wpQuiet_nil ?_; rintro _ ⟨x, rfl⟩))
                refine (c_iMissingOf (Own.to HPF.out inferInstance).sl hp25n (by omega) hsmn).mono ?_
                rintro _ _ ⟨mb, mbc, rfl, hmb, y8, rfl⟩
                rw [HMS.out]
                cases d
                all_goals (
                  go_wp2_with (first | ((with_reducible refine wp_region_later (by kernel_rfl) (by kernel_rfl) ?_); (repeat (first | go_big_quiet_step (first | fail) | simp only [hss])); refine wpQuiet_nil ?_; rintro _ ⟨x, rfl⟩))
                  go_roundw
                  case rel => exact ⟨K + 1, zx, kx, px, r, _, qa2, qc2, nr, pa2, pc2, by go_num, by omega, HNR.out, HRN, H4F.out.to inferInstance, HF.out.to inferInstance, Own.to HQF.out inferInstance, Own.to HPF.out inferInstance, Later.of⟩
                  case measure => simp [intOf]; omega)
          · skip
            go_wp2_with (first | ((with_reducible refine wp_region_later (by kernel_rfl) (by kernel_rfl) ?_); (repeat (first | go_big_quiet_step (first | (go_at_call 16; exact Gives.quiet (cu))) | simp only [c1])); refine wpQuiet_nil ?_; rintro _ ⟨x, rfl⟩) | (go_at_call 16; refine (cu).mono ?_; rintro _ _ ⟨rfl, x, rfl⟩) | (refine stepStore2 rfl _ _ _ rfl b4 0 rfl (us := [.int .i64 4, .string s, .slice qa2 nr qc2, .bool d]) (cs2 := [.int .i64 4, .string s, .slice qa2 nr qc2, .bool d]) (Held.to H4.out inferInstance) ?Na1 ?Na2 ?Na3 ?Na4 ?Na5 (w0 := w) inferInstance LeN.out ?Na6; go_must ((case Na1 => rfl); (case Na2 => kernel_rfl); (case Na3 => rfl); (case Na4 => exact Nat.le_of_ble_eq_true rfl); (case Na5 => kernel_rfl); intro zD hD uD; have GD := uD.grown inferInstance; have H6D := Lib.hid (Held.grownAt (Held.to H6.out inferInstance) GD hne.symm); have HPD := Lib.hid (Own.grownAt (Own.to HP.out inferInstance) (Held.to H4.out inferInstance) (by decide) GD); have HQD := Lib.hid (Own.grownAt (Own.to hoq3.out inferInstance) (Held.to H4.out inferInstance) (by decide) GD); have HD := Lib.hid hD; obtain ⟨pD0, pD1, pD2, pD3, qD0, qD1, qD2, qD3⟩ := hD.four; obtain ⟨rD0, rD1, rD2, rD3, sD0, sD1, sD2, sD3⟩ := H6D.out.four; have lD := hD.ltN; have mD := H6D.out.ltN; clear hD uD GD)))
            refine (c_iHearPart (Own.to HPD.out inferInstance).sl hp25 (by omega) hsm hbz).mono ?_
            rintro _ _ ⟨pa2, pc2, rfl, hop2, y2, rfl⟩
            have hpl := heardP_length 4 z k p b
            have hop3 := Lib.hid (Own.mono (B' := w.heap.size) hop2 LeN.out)
            have HRN := Lib.hid (HR.out.heard hs2 HBB.out)
            rw [hpl, hp25]
            clear hpl hop2
            obtain ⟨zx, hzx⟩ : ∃ x, heardZ 4 z k p b = x := ⟨_, rfl⟩
            obtain ⟨kx, hkx⟩ : ∃ x, heardK 4 z k p b = x := ⟨_, rfl⟩
            obtain ⟨px, hpx⟩ : ∃ x, heardP 4 z k p b = x := ⟨_, rfl⟩
            rw [hzx, hkx]
            rw [hzx, hkx, hpx] at HRN
            rw [hpx] at hop3
            clear hzx hkx hpx
            go_wp2_with (first | ((with_reducible refine wp_region_later (by kernel_rfl) (by kernel_rfl) ?_); (repeat (first | go_big_quiet_step (first | fail) | simp only [c1])); refine wpQuiet_nil ?_; rintro _ ⟨x, rfl⟩) | (refine stepStore2 rfl _ _ _ rfl b6 0 rfl (us := [.int .i64 4, .int .i64 zx, .int .i64 kx, .slice pa2 25 pc2]) (cs2 := [.int .i64 4, .int .i64 zx, .int .i64 kx, .slice pa2 25 pc2]) (Held.to H6D.out inferInstance) ?Nb1 ?Nb2 ?Nb3 ?Nb4 ?Nb5 (w0 := w) inferInstance LeN.out ?Nb6; go_must ((case Nb1 => rfl); (case Nb2 => kernel_rfl); (case Nb3 => rfl); (case Nb4 => exact Nat.le_of_ble_eq_true rfl); (case Nb5 => kernel_rfl); intro zF hF uF; have GF := uF.grown inferInstance; have H4F := Lib.hid (Held.grownAt (Held.to HD.out inferInstance) GF hne); have HPF := Lib.hid (Own.grownAt (Own.to hop3.out inferInstance) (Held.to H6D.out inferInstance) (by decide) GF); have HQF := Lib.hid (Own.grownAt (Own.to HQD.out inferInstance) (Held.to H6D.out inferInstance) (by decide) GF); have HF := Lib.hid hF; obtain ⟨pF0, pF1, pF2, pF3, qF0, qF1, qF2, qF3⟩ := hF.four; obtain ⟨rF0, rF1, rF2, rF3, sF0, sF1, sF2, sF3⟩ := H4F.out.four; have lF := hF.ltN; have mF := H4F.out.ltN; clear hF uF GF)))
            have hp25n : px.length = 25 := HRN.out.fi.len
            have hsmn : ∀ t ∈ px, t.size ≤ 1048576 := fun t ht => by have := HRN.out.fi.small hs2 t ht; omega
            refine (c_iFileText (Own.to HPF.out inferInstance).sl hp25n (by omega) hsmn).mono ?_
            rintro _ _ ⟨rfl, y7, rfl⟩
            cases ht : textIs 4 zx kx px
            · cases d
              · simp only [tupText]
                go_wp2_with (first | ((with_reducible refine wp_region_later (by kernel_rfl) (by kernel_rfl) ?_); (repeat (first | go_big_quiet_step (first | fail))); refine wpQuiet_nil ?_; rintro _ ⟨x, rfl⟩))
                go_roundw
                case rel => exact ⟨K + 1, zx, kx, px, r, false, qa2, qc2, nr, pa2, pc2, by go_num, by omega, HNR.out, HRN, H4F.out.to inferInstance, HF.out.to inferInstance, Own.to HQF.out inferInstance, Own.to HPF.out inferInstance, Later.of⟩
                case measure => simp [intOf]; omega
              · have := (full_text hs2 HRN.out.fi (HRN.out.done rfl)).1
                rw [ht] at this; cases this
            · have hfull := text_full hs2 HRN.out.fi ht
              have hft := (full_text hs2 HRN.out.fi hfull).2
              rw [hft]
              simp only [tupText]
              have hss : (s.toList != s.toList) = false := by simp
              have HMS := Lib.hid (show missL 4 zx kx px = [] by
                have hzz : zx = s.size := by rcases HRN.out.fi.zk with ⟨e, -⟩ | ⟨e, -⟩ <;> first | exact absurd e hfull.1 | exact e
                have hfi : FInv s s.size kx px := hzz ▸ HRN.out.fi
                have hm2 := (miss_is hs2 hfi).2
                rw [hzz]
                cases hl : missL 4 s.size kx px with
                | nil => rfl
                | cons y r => rw [hl] at hm2; obtain ⟨m, g1, -, g3⟩ := (hm2 y).1 (by simp); exact absurd g3 (hfull.2 m g1))
              clear hft hfull
              go_wp2_with (first | ((with_reducible refine wp_region_later (by kernel_rfl) (by kernel_rfl) ?_); (repeat (first | go_big_quiet_step (first | fail) | simp only [hss])); refine wpQuiet_nil ?_; rintro _ ⟨x, rfl⟩))
              refine (c_iMissingOf (Own.to HPF.out inferInstance).sl hp25n (by omega) hsmn).mono ?_
              rintro _ _ ⟨mb, mbc, rfl, hmb, y8, rfl⟩
              rw [HMS.out]
              cases d
              all_goals (
                go_wp2_with (first | ((with_reducible refine wp_region_later (by kernel_rfl) (by kernel_rfl) ?_); (repeat (first | go_big_quiet_step (first | fail) | simp only [hss])); refine wpQuiet_nil ?_; rintro _ ⟨x, rfl⟩))
                go_roundw
                case rel => exact ⟨K + 1, zx, kx, px, r, _, qa2, qc2, nr, pa2, pc2, by go_num, by omega, HNR.out, HRN, H4F.out.to inferInstance, HF.out.to inferInstance, Own.to HQF.out inferInstance, Own.to HPF.out inferInstance, Later.of⟩
                case measure => simp [intOf]; omega)
      · have kc : decide ((K : Int) < 90) = false := by simp; omega
        obtain rfl : K = 90 := by omega
        have hfull := HR.out.full
        have htx := (full_text hs2 HR.out.fi hfull).1
        have hft := (full_text hs2 HR.out.fi hfull).2
        have hsm : ∀ t ∈ p, t.size ≤ 1048576 := fun t ht => by have := HR.out.fi.small hs2 t ht; omega
        have hok1 := HR.out.fi.ok hs2
        have hok2 := HR.out.qi.ok hs2
        have hss : (s.toList == s.toList) = true := by simp
        have HFT := Lib.hid (And.intro htx hft)
        have HOK := Lib.hid (And.intro hok1 hok2)
        clear htx hft hfull hok1 hok2
        go_wp2_with (first | ((with_reducible refine wp_region_later (by kernel_rfl) (by kernel_rfl) ?_); (repeat (first | go_big_quiet_step (first | fail) | simp only [kc])); refine wpQuiet_nil ?_; rintro _ ⟨x, rfl⟩))
        refine (c_iFileText HP.out.sl hp25 (by omega) hsm).mono ?_
        rintro _ _ ⟨rfl, y7, rfl⟩
        rw [HFT.out.1, HFT.out.2]
        simp only [tupText]
        go_wp2_with (first | ((with_reducible refine wp_region_later (by kernel_rfl) (by kernel_rfl) ?_); (repeat (first | go_big_quiet_step (first | fail) | simp only [hss])); refine wpQuiet_nil ?_; rintro _ ⟨x, rfl⟩))
        refine (c_iFileInOk (Own.to HP.out inferInstance).sl hp25 (by omega) hsm).mono ?_
        rintro _ _ ⟨rfl, y8, rfl⟩
        rw [HOK.out.1]
        go_wp2_with (first | ((with_reducible refine wp_region_later (by kernel_rfl) (by kernel_rfl) ?_); (repeat (first | go_big_quiet_step (first | fail) | simp only [hss])); refine wpQuiet_nil ?_; rintro _ ⟨x, rfl⟩))
        refine (c_iFileOutOk (Own.to HQ.out inferInstance).sl hnq (by omega) (by omega)).mono ?_
        rintro _ _ ⟨rfl, y9, rfl⟩
        rw [HOK.out.2]
        go_wp2_with (first | ((with_reducible refine wp_region_later (by kernel_rfl) (by kernel_rfl) ?_); (repeat (first | go_big_quiet_step (first | fail) | simp only [hss])); refine wpQuiet_nil ?_; rintro _ ⟨x, rfl⟩))
        go_ret
        exact Gives.mk rfl
  · go_enter Try.func3, Try.ntmps3
    go_wp2_with (first | ((with_reducible refine wp_region_later (by kernel_rfl) (by kernel_rfl) ?_); (repeat (first | go_big_quiet_step (first | fail) | simp only [q0])); refine wpQuiet_nil ?_; rintro _ ⟨x, rfl⟩))
    refine c_lbig.mono ?_
    rintro _ _ ⟨rfl, x0, rfl⟩
    go_wp2_with (first | ((with_reducible refine wp_region_later (by kernel_rfl) (by kernel_rfl) ?_); (repeat (first | go_big_quiet_step (first | fail) | simp only [q0])); refine wpQuiet_nil ?_; rintro _ ⟨x, rfl⟩))
    go_ret
    exact Gives.mk rfl

end Go.Proofs.Ytjffbpdippbfkaa
