/- The contracts of FilesTrue, both sides. No condition but on sizes. -/
import Derived.Test.YtdankjbkioepgaaGreatVM13
import Derived.Test.YtdankjbkioepgaaGreatVM24
namespace Go.Proofs.YtdankjbkioepgaaGreat
set_option linter.unusedVariables false
open Go.ChangeShapes Go.WideShapes Go.ChangeAt Go.RowKit

def xText (x : TFileIn) : ByteArray := fileText x.File x.Size x.Check x.Parts
def xIs (x : TFileIn) : Bool := textIs x.File x.Size x.Check x.Parts
def fileGood (files : List ByteArray) (told : List Bool) (k : Nat) (x : TFileIn) : Bool :=
  if xIs x = true then (match files[k]? with | some s => ((xText x).toList == s.toList) | none => false) else !(told.getD k false)
def filesGo (files : List ByteArray) (told : List Bool) : Nat → List TFileIn → Bool
  | _, [] => true
  | k, x :: r => fileGood files told k x && filesGo files told (k + 1) r
def filesTrue (m : TMission) : Bool := filesGo m.Space.Files m.Ground.Told 0 m.Ground.Files
theorem parts_small {m : TMission} (ht : Enc.tot m ≤ 1048576) : m.Ground.Files.length ≤ 1048576 ∧ m.Space.Files.length ≤ 1048576 ∧ m.Ground.Told.length ≤ 1048576 ∧ ∀ x ∈ m.Ground.Files, x.Parts.length ≤ 1048576 ∧ ∀ s ∈ x.Parts, s.size ≤ 1048576 := by
  have h := mbounds ht
  have hg : totL m.Ground.Offers + Enc.tot m.Ground.Sender + Enc.tot m.Ground.Unpacker + totL m.Ground.Pairs + totL m.Ground.Records + totL m.Ground.Files + totL m.Ground.Told ≤ 1048576 := h.2.2.1
  have hsp : Enc.tot m.Space.Board + Enc.tot m.Space.Packer + totL m.Space.Files + totL m.Space.Outs + totL m.Space.Sent ≤ 1048576 := h.2.2.2.1
  have n1 := totL_nonneg m.Ground.Offers; have n2 := Enc.tot_nonneg m.Ground.Sender; have n3 := Enc.tot_nonneg m.Ground.Unpacker; have n4 := totL_nonneg m.Ground.Pairs; have n5 := totL_nonneg m.Ground.Records; have n6 := totL_nonneg m.Ground.Files; have n7 := totL_nonneg m.Ground.Told
  have n8 := Enc.tot_nonneg m.Space.Board; have n9 := Enc.tot_nonneg m.Space.Packer; have n10 := totL_nonneg m.Space.Files; have n11 := totL_nonneg m.Space.Outs; have n12 := totL_nonneg m.Space.Sent
  have l1 := totL_len m.Ground.Files; have l2 := totL_len m.Space.Files; have l3 := totL_len m.Ground.Told
  refine ⟨by omega, by omega, by omega, fun x hx => ?_⟩
  have hx1 : Enc.tot x ≤ totL m.Ground.Files := totL_mem hx
  have hx2 : totL x.Parts ≤ totL m.Ground.Files := hx1
  have hx3 := totL_len x.Parts
  refine ⟨by omega, fun s hs => ?_⟩
  have hs1 : (s.size : Int) ≤ totL x.Parts := totL_mem hs
  omega
theorem RdS.atB {B : Nat} {w : World} {a : Option Addr} {c : Nat} {l : List Bool} (h : RdS B w a c l) {k : Nat} (hk : k < l.length) :
    ∃ b off, a = some ⟨b, off, none⟩ ∧ LtN b w.heap.size ∧ (∀ (W : World) [Grows w W], W.cell? ⟨b, off + k, none⟩ = some (.bool (l.getD k false))) := by
  obtain ⟨b, off, x, h0, h1, h2, h3⟩ := h.atBool hk
  have : l.getD k false = x := by
    have := congrArg (fun m => m[0]?) h2.out
    simp only [List.getElem?_drop, Nat.add_zero, List.getElem?_cons_zero] at this
    simp [this]
  exact ⟨b, off, h0, h1, by rw [this]; exact h3⟩

set_option maxRecDepth 100000 in
set_option maxHeartbeats 2000000 in
theorem c_iFilesTrue {B : Nat} {vs : List Value} {m : TMission} {w : World} (h : Enc.Rd B w vs m) (ht : Enc.tot m ≤ 1048576) :
    Calls Tryz.prog 20 #[.agg vs.toArray] w (Gives w (.bool (filesTrue m))) := by
  obtain ⟨A, hvs, F⟩ := mcell h
  have hsm := parts_small ht
  clear ht h
  have HB := Held.new w vs 91 w.heap.size rfl
  have e7 := HB.cellG 31 (.slice A.a7 m.Ground.Files.length A.c7) (by rw [hvs]; rfl)
  have e8 := HB.cellG 32 (.slice A.a8 m.Ground.Told.length A.c8) (by rw [hvs]; rfl)
  have e17 := HB.cellG 54 (.slice A.a17 m.Space.Files.length A.c17) (by rw [hvs]; rfl)
  clear HB hvs
  have F7 := Lib.hid F.q7; have F8 := Lib.hid F.q8; have F17 := Lib.hid F.q17
  clear F
  obtain ⟨n, hn⟩ : ∃ n, m.Ground.Files.length = n := ⟨_, rfl⟩
  obtain ⟨nf, hnf⟩ : ∃ n, m.Space.Files.length = n := ⟨_, rfl⟩
  obtain ⟨nt, hnt⟩ : ∃ n, m.Ground.Told.length = n := ⟨_, rfl⟩
  have HS := Lib.hid hsm.2.2.2
  have hm1 : n ≤ 1048576 := by omega
  have hm2 : nf ≤ 1048576 := by omega
  have hm3 : nt ≤ 1048576 := by omega
  clear hsm
  rw [hn] at e7; rw [hnf] at e17; rw [hnt] at e8
  have HN := Lib.hid (And.intro hn (And.intro hnf hnt)); clear hn hnf hnt
  go_enter Tryz.func20, Tryz.ntmps20
  go_wp2_with (first | ((with_reducible refine wp_region_later (by kernel_rfl) (by kernel_rfl) ?_); (repeat (first | go_big_quiet_step (first | fail))); refine wpQuiet_nil ?_; rintro _ ⟨x, rfl⟩))
  go_loopw [11] (fun v wr => ∃ k : Nat, v = .int .i64 k ∧ k ≤ n ∧ Hid (filesGo m.Space.Files m.Ground.Told k (m.Ground.Files.drop k) = filesTrue m) ∧ ∃ x : Later (w.alloc (.cells vs.toArray 91)), wr = x.w) (fun v _ => (n - intOf v).toNat)
  case atStart => exact ⟨0, rfl, by omega, rfl, Later.of⟩
  case round =>
    obtain ⟨k, rfl, hk, HV, x, rfl⟩ := hrel
    by_cases h : k < n
    · have hkl : k < m.Ground.Files.length := by have := HN.out.1; omega
      obtain ⟨eb, eoff, ex, ea0, ec0, he, ehb, ehd, eq0, eok, eh0, eh1, eh2, eh3⟩ := F7.out.atTFileIn hkl
      have hxm : ex ∈ m.Ground.Files := List.mem_of_mem_drop (by rw [ehd.out]; exact List.mem_cons_self ..)
      have HX := Lib.hid (HS.out ex hxm)
      rw [he] at e7
      (try rw [he])
      obtain ⟨T, hT⟩ : ∃ T, xText ex = T := ⟨_, rfl⟩
      obtain ⟨K, hK⟩ : ∃ K, xIs ex = K := ⟨_, rfl⟩
      have HT := Lib.hid (And.intro hT hK)
      have EOK := Lib.hid eok; clear eok hxm hkl he
      cases K
      · have hgd : fileGood m.Space.Files m.Ground.Told k ex = !(m.Ground.Told.getD k false) := by rw [fileGood, hK]; rfl
        clear hT hK
        by_cases hkt : k < nt
        · obtain ⟨tb, toff, ha8, htb, ht0⟩ := F8.out.atB (k := k) (by have := HN.out.2.2; omega)
          rw [ha8] at e8
          clear ha8
          have k1 : decide ((k : Int) < (nt : Int)) = true := by simp; omega
          cases hB : m.Ground.Told.getD k false
          · have hg : fileGood m.Space.Files m.Ground.Told k ex = true := by rw [hgd, hB]; rfl
            rw [hB] at ht0
            clear hgd hB
            have HF := Lib.hid (show filesGo m.Space.Files m.Ground.Told (k + 1) (m.Ground.Files.drop (k + 1)) = filesTrue m by have := HV.out; rw [ehd.out, filesGo, hg, Bool.true_and] at this; exact this)
            clear hg
            go_wp2_with (first | ((with_reducible refine wp_region_later (by kernel_rfl) (by kernel_rfl) ?_); (repeat (first | go_big_quiet_step (first | fail))); refine wpQuiet_nil ?_; rintro _ ⟨x, rfl⟩))
            refine (c_iFileText (eq0.toSlStr.to inferInstance) rfl HX.out.1 HX.out.2).mono ?_
            rintro _ _ ⟨rfl, y1, rfl⟩
            rw [show fileText ex.File ex.Size ex.Check ex.Parts = T from HT.out.1, show textIs ex.File ex.Size ex.Check ex.Parts = _ from HT.out.2]; simp only [tupText]
            go_wp2_with (first | ((with_reducible refine wp_region_later (by kernel_rfl) (by kernel_rfl) ?_); (repeat (first | go_big_quiet_step (first | fail) | simp only [k1])); refine wpQuiet_nil ?_; rintro _ ⟨x, rfl⟩))
            go_roundw
            case rel => exact ⟨k + 1, by go_num, by omega, HF, Later.of⟩
            case measure => simp [intOf]; omega
          · have hg : fileGood m.Space.Files m.Ground.Told k ex = false := by rw [hgd, hB]; rfl
            rw [hB] at ht0
            clear hgd hB
            have HF := Lib.hid (show filesTrue m = false by have := HV.out; rw [ehd.out, filesGo, hg] at this; rw [← this]; rfl)
            clear hg
            go_wp2_with (first | ((with_reducible refine wp_region_later (by kernel_rfl) (by kernel_rfl) ?_); (repeat (first | go_big_quiet_step (first | fail))); refine wpQuiet_nil ?_; rintro _ ⟨x, rfl⟩))
            refine (c_iFileText (eq0.toSlStr.to inferInstance) rfl HX.out.1 HX.out.2).mono ?_
            rintro _ _ ⟨rfl, y1, rfl⟩
            rw [show fileText ex.File ex.Size ex.Check ex.Parts = T from HT.out.1, show textIs ex.File ex.Size ex.Check ex.Parts = _ from HT.out.2]; simp only [tupText]
            go_wp2_with (first | ((with_reducible refine wp_region_later (by kernel_rfl) (by kernel_rfl) ?_); (repeat (first | go_big_quiet_step (first | fail) | simp only [k1])); refine wpQuiet_nil ?_; rintro _ ⟨x, rfl⟩))
            go_ret
            exact Gives.mk (by rw [HF.out]; rfl)
        · have k1 : decide ((k : Int) < (nt : Int)) = false := by simp; omega
          have hg : fileGood m.Space.Files m.Ground.Told k ex = true := by
            have h5 : m.Ground.Told[k]? = none := List.getElem?_eq_none (by have := HN.out.2.2; omega)
            rw [hgd]; simp [List.getD, h5]
          clear hgd
          have HF := Lib.hid (show filesGo m.Space.Files m.Ground.Told (k + 1) (m.Ground.Files.drop (k + 1)) = filesTrue m by have := HV.out; rw [ehd.out, filesGo, hg, Bool.true_and] at this; exact this)
          clear hg
          go_wp2_with (first | ((with_reducible refine wp_region_later (by kernel_rfl) (by kernel_rfl) ?_); (repeat (first | go_big_quiet_step (first | fail))); refine wpQuiet_nil ?_; rintro _ ⟨x, rfl⟩))
          refine (c_iFileText (eq0.toSlStr.to inferInstance) rfl HX.out.1 HX.out.2).mono ?_
          rintro _ _ ⟨rfl, y1, rfl⟩
          rw [show fileText ex.File ex.Size ex.Check ex.Parts = T from HT.out.1, show textIs ex.File ex.Size ex.Check ex.Parts = _ from HT.out.2]; simp only [tupText]
          go_wp2_with (first | ((with_reducible refine wp_region_later (by kernel_rfl) (by kernel_rfl) ?_); (repeat (first | go_big_quiet_step (first | fail) | simp only [k1])); refine wpQuiet_nil ?_; rintro _ ⟨x, rfl⟩))
          go_roundw
          case rel => exact ⟨k + 1, by go_num, by omega, HF, Later.of⟩
          case measure => simp [intOf]; omega
      · by_cases hkf : k < nf
        · have hkf2 : k < m.Space.Files.length := by have := HN.out.2.1; omega
          obtain ⟨fb, foff, fs, ha17, hfb, hfd, hf0⟩ := F17.out.toSlStr.str hkf2
          rw [ha17] at e17
          clear ha17
          have hfs : m.Space.Files[k]? = some fs := by
            have := congrArg (fun m => m[0]?) hfd.out
            simpa using this
          have k1 : decide ((nf : Int) ≤ (k : Int)) = false := by simp; omega
          have hgd : fileGood m.Space.Files m.Ground.Told k ex = (T.toList == fs.toList) := by rw [fileGood, hK, hT, hfs]; rfl
          clear hT hK hfs hfd hkf2
          cases hB : (T.toList == fs.toList)
          · have k2 : (T.toList != fs.toList) = true := by rw [bne, hB]; rfl
            have hg : fileGood m.Space.Files m.Ground.Told k ex = false := by rw [hgd, hB]
            clear hgd
            have HF := Lib.hid (show filesTrue m = false by have := HV.out; rw [ehd.out, filesGo, hg] at this; rw [← this]; rfl)
            clear hg
            go_wp2_with (first | ((with_reducible refine wp_region_later (by kernel_rfl) (by kernel_rfl) ?_); (repeat (first | go_big_quiet_step (first | fail))); refine wpQuiet_nil ?_; rintro _ ⟨x, rfl⟩))
            refine (c_iFileText (eq0.toSlStr.to inferInstance) rfl HX.out.1 HX.out.2).mono ?_
            rintro _ _ ⟨rfl, y1, rfl⟩
            rw [show fileText ex.File ex.Size ex.Check ex.Parts = T from HT.out.1, show textIs ex.File ex.Size ex.Check ex.Parts = _ from HT.out.2]; simp only [tupText]
            go_wp2_with (first | ((with_reducible refine wp_region_later (by kernel_rfl) (by kernel_rfl) ?_); (repeat (first | go_big_quiet_step (first | fail) | simp only [k1] | simp only [k2])); refine wpQuiet_nil ?_; rintro _ ⟨x, rfl⟩))
            go_ret
            exact Gives.mk (by rw [HF.out]; rfl)
          · have k2 : (T.toList != fs.toList) = false := by rw [bne, hB]; rfl
            have hg : fileGood m.Space.Files m.Ground.Told k ex = true := by rw [hgd, hB]
            clear hgd
            have HF := Lib.hid (show filesGo m.Space.Files m.Ground.Told (k + 1) (m.Ground.Files.drop (k + 1)) = filesTrue m by have := HV.out; rw [ehd.out, filesGo, hg, Bool.true_and] at this; exact this)
            clear hg
            go_wp2_with (first | ((with_reducible refine wp_region_later (by kernel_rfl) (by kernel_rfl) ?_); (repeat (first | go_big_quiet_step (first | fail))); refine wpQuiet_nil ?_; rintro _ ⟨x, rfl⟩))
            refine (c_iFileText (eq0.toSlStr.to inferInstance) rfl HX.out.1 HX.out.2).mono ?_
            rintro _ _ ⟨rfl, y1, rfl⟩
            rw [show fileText ex.File ex.Size ex.Check ex.Parts = T from HT.out.1, show textIs ex.File ex.Size ex.Check ex.Parts = _ from HT.out.2]; simp only [tupText]
            go_wp2_with (first | ((with_reducible refine wp_region_later (by kernel_rfl) (by kernel_rfl) ?_); (repeat (first | go_big_quiet_step (first | fail) | simp only [k1] | simp only [k2])); refine wpQuiet_nil ?_; rintro _ ⟨x, rfl⟩))
            go_roundw
            case rel => exact ⟨k + 1, by go_num, by omega, HF, Later.of⟩
            case measure => simp [intOf]; omega
        · have k1 : decide ((nf : Int) ≤ (k : Int)) = true := by simp; omega
          have hg : fileGood m.Space.Files m.Ground.Told k ex = false := by
            rw [fileGood, hK, List.getElem?_eq_none (by have := HN.out.2.1; omega)]; rfl
          clear hT hK
          have HF := Lib.hid (show filesTrue m = false by have := HV.out; rw [ehd.out, filesGo, hg] at this; rw [← this]; rfl)
          clear hg
          go_wp2_with (first | ((with_reducible refine wp_region_later (by kernel_rfl) (by kernel_rfl) ?_); (repeat (first | go_big_quiet_step (first | fail))); refine wpQuiet_nil ?_; rintro _ ⟨x, rfl⟩))
          refine (c_iFileText (eq0.toSlStr.to inferInstance) rfl HX.out.1 HX.out.2).mono ?_
          rintro _ _ ⟨rfl, y1, rfl⟩
          rw [show fileText ex.File ex.Size ex.Check ex.Parts = T from HT.out.1, show textIs ex.File ex.Size ex.Check ex.Parts = _ from HT.out.2]; simp only [tupText]
          go_wp2_with (first | ((with_reducible refine wp_region_later (by kernel_rfl) (by kernel_rfl) ?_); (repeat (first | go_big_quiet_step (first | fail) | simp only [k1])); refine wpQuiet_nil ?_; rintro _ ⟨x, rfl⟩))
          go_ret
          exact Gives.mk (by rw [HF.out]; rfl)
    · go_wp2_with (first | ((with_reducible refine wp_region_later (by kernel_rfl) (by kernel_rfl) ?_); (repeat (first | go_big_quiet_step (first | fail))); refine wpQuiet_nil ?_; rintro _ ⟨x, rfl⟩))
      go_ret
      exact Gives.mk (by have := HV.out; rw [List.drop_of_length_le (by have := HN.out.1; omega), filesGo] at this; rw [← this]; rfl)

set_option maxRecDepth 100000 in
set_option maxHeartbeats 2000000 in
theorem c_sFilesTrue {B : Nat} {vs : List Value} {m : TMission} {w : World} (h : Enc.Rd B w vs m) (ht : Enc.tot m ≤ 1048576) :
    Calls Tryz.prog 19 #[.agg vs.toArray] w (Gives w (.bool (filesTrue m))) := by
  obtain ⟨A, hvs, F⟩ := mcell h
  have hsm := parts_small ht
  clear ht h
  have HB := Held.new w vs 91 w.heap.size rfl
  have e7 := HB.cellG 31 (.slice A.a7 m.Ground.Files.length A.c7) (by rw [hvs]; rfl)
  have e8 := HB.cellG 32 (.slice A.a8 m.Ground.Told.length A.c8) (by rw [hvs]; rfl)
  have e17 := HB.cellG 54 (.slice A.a17 m.Space.Files.length A.c17) (by rw [hvs]; rfl)
  clear HB hvs
  have F7 := Lib.hid F.q7; have F8 := Lib.hid F.q8; have F17 := Lib.hid F.q17
  clear F
  obtain ⟨n, hn⟩ : ∃ n, m.Ground.Files.length = n := ⟨_, rfl⟩
  obtain ⟨nf, hnf⟩ : ∃ n, m.Space.Files.length = n := ⟨_, rfl⟩
  obtain ⟨nt, hnt⟩ : ∃ n, m.Ground.Told.length = n := ⟨_, rfl⟩
  have HS := Lib.hid hsm.2.2.2
  have hm1 : n ≤ 1048576 := by omega
  have hm2 : nf ≤ 1048576 := by omega
  have hm3 : nt ≤ 1048576 := by omega
  clear hsm
  rw [hn] at e7; rw [hnf] at e17; rw [hnt] at e8
  have HN := Lib.hid (And.intro hn (And.intro hnf hnt)); clear hn hnf hnt
  go_enter Tryz.func19, Tryz.ntmps19
  go_wp2_with (first | ((with_reducible refine wp_region_later (by kernel_rfl) (by kernel_rfl) ?_); (repeat (first | go_big_quiet_step (first | fail))); refine wpQuiet_nil ?_; rintro _ ⟨x, rfl⟩))
  go_loopw [3] (fun v wr => ∃ k : Nat, v = .int .i64 k ∧ k ≤ n ∧ Hid (filesGo m.Space.Files m.Ground.Told k (m.Ground.Files.drop k) = filesTrue m) ∧ ∃ x : Later (w.alloc (.cells vs.toArray 91)), wr = x.w) (fun v _ => (n - intOf v).toNat)
  case atStart => exact ⟨0, rfl, by omega, rfl, Later.of⟩
  case round =>
    obtain ⟨k, rfl, hk, HV, x, rfl⟩ := hrel
    by_cases h : k < n
    · have hkl : k < m.Ground.Files.length := by have := HN.out.1; omega
      obtain ⟨eb, eoff, ex, ea0, ec0, he, ehb, ehd, eq0, eok, eh0, eh1, eh2, eh3⟩ := F7.out.atTFileIn hkl
      have hxm : ex ∈ m.Ground.Files := List.mem_of_mem_drop (by rw [ehd.out]; exact List.mem_cons_self ..)
      have HX := Lib.hid (HS.out ex hxm)
      rw [he] at e7
      (try rw [he])
      obtain ⟨T, hT⟩ : ∃ T, xText ex = T := ⟨_, rfl⟩
      obtain ⟨K, hK⟩ : ∃ K, xIs ex = K := ⟨_, rfl⟩
      have HT := Lib.hid (And.intro hT hK)
      have EOK := Lib.hid eok; clear eok hxm hkl he
      cases K
      · have hgd : fileGood m.Space.Files m.Ground.Told k ex = !(m.Ground.Told.getD k false) := by rw [fileGood, hK]; rfl
        clear hT hK
        by_cases hkt : k < nt
        · obtain ⟨tb, toff, ha8, htb, ht0⟩ := F8.out.atB (k := k) (by have := HN.out.2.2; omega)
          rw [ha8] at e8
          clear ha8
          have k1 : decide ((k : Int) < (nt : Int)) = true := by simp; omega
          cases hB : m.Ground.Told.getD k false
          · have hg : fileGood m.Space.Files m.Ground.Told k ex = true := by rw [hgd, hB]; rfl
            rw [hB] at ht0
            clear hgd hB
            have HF := Lib.hid (show filesGo m.Space.Files m.Ground.Told (k + 1) (m.Ground.Files.drop (k + 1)) = filesTrue m by have := HV.out; rw [ehd.out, filesGo, hg, Bool.true_and] at this; exact this)
            clear hg
            go_wp2_with (first | ((with_reducible refine wp_region_later (by kernel_rfl) (by kernel_rfl) ?_); (repeat (first | go_big_quiet_step (first | fail))); refine wpQuiet_nil ?_; rintro _ ⟨x, rfl⟩))
            refine (c_sFileText (eq0.toSlStr.to inferInstance) rfl HX.out.1 HX.out.2).mono ?_
            rintro _ _ ⟨rfl, y1, rfl⟩
            rw [show fileText ex.File ex.Size ex.Check ex.Parts = T from HT.out.1, show textIs ex.File ex.Size ex.Check ex.Parts = _ from HT.out.2]; simp only [tupText]
            go_wp2_with (first | ((with_reducible refine wp_region_later (by kernel_rfl) (by kernel_rfl) ?_); (repeat (first | go_big_quiet_step (first | fail) | simp only [k1])); refine wpQuiet_nil ?_; rintro _ ⟨x, rfl⟩))
            go_roundw
            case rel => exact ⟨k + 1, by go_num, by omega, HF, Later.of⟩
            case measure => simp [intOf]; omega
          · have hg : fileGood m.Space.Files m.Ground.Told k ex = false := by rw [hgd, hB]; rfl
            rw [hB] at ht0
            clear hgd hB
            have HF := Lib.hid (show filesTrue m = false by have := HV.out; rw [ehd.out, filesGo, hg] at this; rw [← this]; rfl)
            clear hg
            go_wp2_with (first | ((with_reducible refine wp_region_later (by kernel_rfl) (by kernel_rfl) ?_); (repeat (first | go_big_quiet_step (first | fail))); refine wpQuiet_nil ?_; rintro _ ⟨x, rfl⟩))
            refine (c_sFileText (eq0.toSlStr.to inferInstance) rfl HX.out.1 HX.out.2).mono ?_
            rintro _ _ ⟨rfl, y1, rfl⟩
            rw [show fileText ex.File ex.Size ex.Check ex.Parts = T from HT.out.1, show textIs ex.File ex.Size ex.Check ex.Parts = _ from HT.out.2]; simp only [tupText]
            go_wp2_with (first | ((with_reducible refine wp_region_later (by kernel_rfl) (by kernel_rfl) ?_); (repeat (first | go_big_quiet_step (first | fail) | simp only [k1])); refine wpQuiet_nil ?_; rintro _ ⟨x, rfl⟩))
            go_ret
            exact Gives.mk (by rw [HF.out]; rfl)
        · have k1 : decide ((k : Int) < (nt : Int)) = false := by simp; omega
          have hg : fileGood m.Space.Files m.Ground.Told k ex = true := by
            have h5 : m.Ground.Told[k]? = none := List.getElem?_eq_none (by have := HN.out.2.2; omega)
            rw [hgd]; simp [List.getD, h5]
          clear hgd
          have HF := Lib.hid (show filesGo m.Space.Files m.Ground.Told (k + 1) (m.Ground.Files.drop (k + 1)) = filesTrue m by have := HV.out; rw [ehd.out, filesGo, hg, Bool.true_and] at this; exact this)
          clear hg
          go_wp2_with (first | ((with_reducible refine wp_region_later (by kernel_rfl) (by kernel_rfl) ?_); (repeat (first | go_big_quiet_step (first | fail))); refine wpQuiet_nil ?_; rintro _ ⟨x, rfl⟩))
          refine (c_sFileText (eq0.toSlStr.to inferInstance) rfl HX.out.1 HX.out.2).mono ?_
          rintro _ _ ⟨rfl, y1, rfl⟩
          rw [show fileText ex.File ex.Size ex.Check ex.Parts = T from HT.out.1, show textIs ex.File ex.Size ex.Check ex.Parts = _ from HT.out.2]; simp only [tupText]
          go_wp2_with (first | ((with_reducible refine wp_region_later (by kernel_rfl) (by kernel_rfl) ?_); (repeat (first | go_big_quiet_step (first | fail) | simp only [k1])); refine wpQuiet_nil ?_; rintro _ ⟨x, rfl⟩))
          go_roundw
          case rel => exact ⟨k + 1, by go_num, by omega, HF, Later.of⟩
          case measure => simp [intOf]; omega
      · by_cases hkf : k < nf
        · have hkf2 : k < m.Space.Files.length := by have := HN.out.2.1; omega
          obtain ⟨fb, foff, fs, ha17, hfb, hfd, hf0⟩ := F17.out.toSlStr.str hkf2
          rw [ha17] at e17
          clear ha17
          have hfs : m.Space.Files[k]? = some fs := by
            have := congrArg (fun m => m[0]?) hfd.out
            simpa using this
          have k1 : decide ((nf : Int) ≤ (k : Int)) = false := by simp; omega
          have hgd : fileGood m.Space.Files m.Ground.Told k ex = (T.toList == fs.toList) := by rw [fileGood, hK, hT, hfs]; rfl
          clear hT hK hfs hfd hkf2
          cases hB : (T.toList == fs.toList)
          · have k2 : (T.toList != fs.toList) = true := by rw [bne, hB]; rfl
            have hg : fileGood m.Space.Files m.Ground.Told k ex = false := by rw [hgd, hB]
            clear hgd
            have HF := Lib.hid (show filesTrue m = false by have := HV.out; rw [ehd.out, filesGo, hg] at this; rw [← this]; rfl)
            clear hg
            go_wp2_with (first | ((with_reducible refine wp_region_later (by kernel_rfl) (by kernel_rfl) ?_); (repeat (first | go_big_quiet_step (first | fail))); refine wpQuiet_nil ?_; rintro _ ⟨x, rfl⟩))
            refine (c_sFileText (eq0.toSlStr.to inferInstance) rfl HX.out.1 HX.out.2).mono ?_
            rintro _ _ ⟨rfl, y1, rfl⟩
            rw [show fileText ex.File ex.Size ex.Check ex.Parts = T from HT.out.1, show textIs ex.File ex.Size ex.Check ex.Parts = _ from HT.out.2]; simp only [tupText]
            go_wp2_with (first | ((with_reducible refine wp_region_later (by kernel_rfl) (by kernel_rfl) ?_); (repeat (first | go_big_quiet_step (first | fail) | simp only [k1] | simp only [k2])); refine wpQuiet_nil ?_; rintro _ ⟨x, rfl⟩))
            go_ret
            exact Gives.mk (by rw [HF.out]; rfl)
          · have k2 : (T.toList != fs.toList) = false := by rw [bne, hB]; rfl
            have hg : fileGood m.Space.Files m.Ground.Told k ex = true := by rw [hgd, hB]
            clear hgd
            have HF := Lib.hid (show filesGo m.Space.Files m.Ground.Told (k + 1) (m.Ground.Files.drop (k + 1)) = filesTrue m by have := HV.out; rw [ehd.out, filesGo, hg, Bool.true_and] at this; exact this)
            clear hg
            go_wp2_with (first | ((with_reducible refine wp_region_later (by kernel_rfl) (by kernel_rfl) ?_); (repeat (first | go_big_quiet_step (first | fail))); refine wpQuiet_nil ?_; rintro _ ⟨x, rfl⟩))
            refine (c_sFileText (eq0.toSlStr.to inferInstance) rfl HX.out.1 HX.out.2).mono ?_
            rintro _ _ ⟨rfl, y1, rfl⟩
            rw [show fileText ex.File ex.Size ex.Check ex.Parts = T from HT.out.1, show textIs ex.File ex.Size ex.Check ex.Parts = _ from HT.out.2]; simp only [tupText]
            go_wp2_with (first | ((with_reducible refine wp_region_later (by kernel_rfl) (by kernel_rfl) ?_); (repeat (first | go_big_quiet_step (first | fail) | simp only [k1] | simp only [k2])); refine wpQuiet_nil ?_; rintro _ ⟨x, rfl⟩))
            go_roundw
            case rel => exact ⟨k + 1, by go_num, by omega, HF, Later.of⟩
            case measure => simp [intOf]; omega
        · have k1 : decide ((nf : Int) ≤ (k : Int)) = true := by simp; omega
          have hg : fileGood m.Space.Files m.Ground.Told k ex = false := by
            rw [fileGood, hK, List.getElem?_eq_none (by have := HN.out.2.1; omega)]; rfl
          clear hT hK
          have HF := Lib.hid (show filesTrue m = false by have := HV.out; rw [ehd.out, filesGo, hg] at this; rw [← this]; rfl)
          clear hg
          go_wp2_with (first | ((with_reducible refine wp_region_later (by kernel_rfl) (by kernel_rfl) ?_); (repeat (first | go_big_quiet_step (first | fail))); refine wpQuiet_nil ?_; rintro _ ⟨x, rfl⟩))
          refine (c_sFileText (eq0.toSlStr.to inferInstance) rfl HX.out.1 HX.out.2).mono ?_
          rintro _ _ ⟨rfl, y1, rfl⟩
          rw [show fileText ex.File ex.Size ex.Check ex.Parts = T from HT.out.1, show textIs ex.File ex.Size ex.Check ex.Parts = _ from HT.out.2]; simp only [tupText]
          go_wp2_with (first | ((with_reducible refine wp_region_later (by kernel_rfl) (by kernel_rfl) ?_); (repeat (first | go_big_quiet_step (first | fail) | simp only [k1])); refine wpQuiet_nil ?_; rintro _ ⟨x, rfl⟩))
          go_ret
          exact Gives.mk (by rw [HF.out]; rfl)
    · go_wp2_with (first | ((with_reducible refine wp_region_later (by kernel_rfl) (by kernel_rfl) ?_); (repeat (first | go_big_quiet_step (first | fail))); refine wpQuiet_nil ?_; rintro _ ⟨x, rfl⟩))
      go_ret
      exact Gives.mk (by have := HV.out; rw [List.drop_of_length_le (by have := HN.out.1; omega), filesGo] at this; rw [← this]; rfl)
end Go.Proofs.YtdankjbkioepgaaGreat
