/- The contracts on slices of strings: their mirrors, their size, their equality, their marks. No condition but on lengths. -/
import Derived.Test.YtjffbpdippbfkaaHeld
import Derived.Test.YtjffbpdippbfkaaEqInt
import Derived.Test.YtjffbpdippbfkaaNum
namespace Go.Proofs.Ytjffbpdippbfkaa
set_option linter.unusedVariables false
open Go.ChangeShapes Go.WideShapes Go.ChangeAt Go.RowKit

/-- One string. -/
def encStr (s : ByteArray) : List Value := [.string s]
theorem encStr_len (n : ByteArray) : (encStr n).length = 1 := rfl
theorem encStr_one (n : ByteArray) : ∀ u ∈ encStr n, u.oneCell' = true := by intro u hu; simp [encStr] at hu; subst hu; rfl
theorem Sl.str {w : World} {a : Option Addr} {l : List ByteArray} (h : Sl encStr w a l) {k : Nat} (hk : k < l.length) :
    ∃ b off s, a = some ⟨b, off, none⟩ ∧ LtN b w.heap.size ∧ Hid (l.drop k = s :: l.drop (k + 1)) ∧ (∀ (W : World) [Grows w W], W.cell? ⟨b, off + k, none⟩ = some (.string s)) := by
  obtain ⟨s, hs, hd⟩ := drop_at hk
  obtain ⟨b, off, ha, hb, hc⟩ := h k s hs
  exact ⟨b, off, s, ha, ⟨hb⟩, hd, cell_grown hb (by simpa [encStr] using hc 0 _ rfl)⟩
theorem flatStr {w : World} {cs : List Value} (hl : cs.length = 1) (h : RdL w [.str] cs) : ∃ s : ByteArray, encStr s = cs ∧ s.size ≤ maxLen := by
  obtain ⟨u0, g0, r0⟩ := h.at (j := 0) rfl
  obtain ⟨x0, rfl, p0⟩ := r0.str_inv
  refine ⟨x0, (list_all hl ?_).symm, p0⟩
  intro j y hy
  match j, hy with
  | 0, hy => cases hy; exact g0
def eqStr (s t : ByteArray) : Bool := s.toList == t.toList
theorem eqStr_self (s : ByteArray) : eqStr s s = true := by simp [eqStr]

theorem c_cloneStr {a : Option Addr} {n c : Nat} {l : List ByteArray} {w : World} (hs : Sl encStr w a l) (hn : l.length = n) (hm : n ≤ 100000000) :
    Calls Try.prog 70 #[.slice a n c] w (GivesSl encStr 9 1 w l) := by
  cases a with
  | none =>
    have hl : l = [] := by
      cases l with
      | nil => rfl
      | cons y r => obtain ⟨b, off, h0, -⟩ := hs 0 y rfl; cases h0
    have hq := fun (w : World) => run_eql_slice_nil (P := Try.prog) w 30 9 none n c Try.underlying30
    simp only [Option.isNone] at hq
    have HL := Lib.hid hl; clear hl
    go_enter Try.func70, Try.ntmps70
    go_wp2_with (first | ((with_reducible refine wp_region_later (by kernel_rfl) (by kernel_rfl) ?_); (repeat (first | go_big_quiet_step (first | fail))); refine wpQuiet_nil ?_; rintro _ ⟨x, rfl⟩))
    go_ret
    exact GivesSl.nilOf encStr_len HL.out
  | some ad =>
    have hq := fun (w : World) => run_eql_slice_nil (P := Try.prog) w 30 9 (some ad) n c Try.underlying30
    simp only [Option.isNone] at hq
    go_enter Try.func70, Try.ntmps70
    go_wp2_with (first | ((with_reducible refine wp_region_later (by kernel_rfl) (by kernel_rfl) ?_); (repeat (first | go_big_quiet_step (first | fail))); refine wpQuiet_nil ?_; rintro _ ⟨x, rfl⟩) | (at_builtin; refine wpList_appS (enc := encStr) (w0 := w) (z := .string ByteArray.empty) (size := 1) (bytes := 16) (n := 0) (l := []) rfl (.tmp 5) (.tmp 6) rfl Try.underlying30 (by kernel_rfl) rfl (by decide) (by decide) rfl rfl (fun h => by cases h) rfl hn (Own.emptyAt encStr_len (Nat.le_refl _) rfl) (hs.to inferInstance) encStr_one (by omega) ?_; intro sa1 sc1 x1 hown1 hgr1))
    go_ret
    rw [List.nil_append] at hown1
    exact ⟨sa1, sc1, by rw [hn]; first | rfl | simp, hown1, Later.of⟩

theorem c_ltoStringS {a : Option Addr} {n c : Nat} {l : List ByteArray} {w : World} (hs : Sl encStr w a l) (hn : l.length = n) (hm : n ≤ 1048576) :
    Calls Try.prog 62 #[.slice a n c] w (GivesSl encStr 9 1 w l) := by
  obtain ⟨C, hC, hmk⟩ := run_mk (P := Try.prog) Try.underlying30 (e := 9) (z := .string ByteArray.empty) (size := 1) (bytes := 16) (by kernel_rfl) n (by omega) (by omega)
  have hCz : C.size = n := by rw [hC, size_madeCells, Nat.mul_one]
  clear hC
  go_enter Try.func62, Try.ntmps62
  go_wp2_with (first | ((with_reducible refine wp_region_later (by kernel_rfl) (by kernel_rfl) ?_); (repeat (first | go_big_quiet_step (first | fail))); refine wpQuiet_nil ?_; rintro _ ⟨x, rfl⟩))
  clear hmk
  go_loopw [4] (fun v wr => ∃ k : Nat, v = .int .i64 k ∧ k ≤ n ∧ ∃ D : Array Value, D.size = n ∧ Hid (D.toList.take k = (l.take k).flatMap encStr) ∧ ∃ x : Later (w.alloc (.cells D 9)), wr = x.w) (fun v _ => (n - intOf v).toNat)
  case atStart => exact ⟨0, rfl, by omega, C, hCz, by simp [Hid], Later.here _, rfl⟩
  case round =>
    obtain ⟨k, rfl, hk, D, hDz, hf, x, rfl⟩ := hrel
    by_cases h : k < n
    · obtain ⟨b, off, s, rfl, hb, hd, h10⟩ := hs.str (show k < l.length by omega)
      obtain ⟨o0, g0⟩ := getD_lt hDz (show k < n by omega)
      go_wp2_with (first | ((with_reducible refine wp_region_later (by kernel_rfl) (by kernel_rfl) ?_); (repeat (first | go_big_quiet_step (first | fail))); refine wpQuiet_nil ?_; rintro _ ⟨x, rfl⟩))
      go_roundw
      case rel => exact ⟨k + 1, by go_num, by omega, _, by simpa using hDz, fill1 hf.out hDz h hd.out rfl, Later.set1_at _ _ _⟩
      case measure => simp [intOf]; omega
    · go_wp2_with (first | ((with_reducible refine wp_region_later (by kernel_rfl) (by kernel_rfl) ?_); (repeat (first | go_big_quiet_step (first | fail))); refine wpQuiet_nil ?_; rintro _ ⟨x, rfl⟩))
      go_ret
      refine ⟨_, _, by rw [hn]; rfl, own_block encStr_len hn (by omega) (Nat.le_refl _) (by rw [Nat.mul_one]; exact hDz) ?_ x, ⟨x.w, Grows.out⟩, rfl⟩
      have hf' := hf.out
      rw [List.take_of_length_le (by simp; omega), List.take_of_length_le (by omega)] at hf'
      exact hf'

/-- What is left of a size. -/
def szI (left : Int) (t : Int) : Int := if left - t < 0 then -1 else left - t
/-- The sizes of strings, summed up. -/
def totS : List ByteArray → Int
  | [] => 0
  | s :: r => s.size + totS r
theorem totS_nonneg (l : List ByteArray) : 0 ≤ totS l := by induction l with | nil => simp [totS] | cons s r ih => simp only [totS]; omega
theorem totS_le {l : List ByteArray} {s : ByteArray} (h : s ∈ l) : (s.size : Int) ≤ totS l := by
  induction l with
  | nil => cases h
  | cons t r ih =>
    have := totS_nonneg r
    simp only [totS]
    rcases List.mem_cons.1 h with rfl | h
    · omega
    · have := ih h; omega

set_option maxRecDepth 100000 in
set_option maxHeartbeats 2000000 in
theorem c_lszStringS {a : Option Addr} {n c : Nat} {left : Int} {l : List ByteArray} {w : World} (hs : Sl encStr w a l) (hn : l.length = n) (hl : 0 ≤ left) (hl' : left ≤ 1048576) (hm : n ≤ 9223372036854775807) (hsz : ∀ s ∈ l, s.size ≤ 9223372036854775807) :
    Calls Try.prog 57 #[.slice a n c, .int .i64 left] w (Gives w (.int .i64 (szI left (n + totS l)))) := by
  have ht := totS_nonneg l
  have HS := Lib.hid hsz; clear hsz
  by_cases h : left - n < 0
  · have HV := Lib.hid (show szI left (n + totS l) = -1 from if_pos (by omega))
    go_enter Try.func57, Try.ntmps57
    go_wp2_with (first | ((with_reducible refine wp_region_later (by kernel_rfl) (by kernel_rfl) ?_); (repeat (first | go_big_quiet_step (first | fail))); refine wpQuiet_nil ?_; rintro _ ⟨x, rfl⟩))
    go_ret
    exact Gives.mk (by rw [HV.out]; rfl)
  · go_enter Try.func57, Try.ntmps57
    go_wp2_with (first | ((with_reducible refine wp_region_later (by kernel_rfl) (by kernel_rfl) ?_); (repeat (first | go_big_quiet_step (first | fail))); refine wpQuiet_nil ?_; rintro _ ⟨x, rfl⟩))
    go_loopw [1, 5] (fun u v wr => ∃ (k : Nat) (r : Int), v = .int .i64 k ∧ u = .int .i64 r ∧ k ≤ n ∧ 0 ≤ r ∧ r ≤ 1048576 ∧ Hid (r - totS (l.drop k) = left - n - totS l) ∧ ∃ x : Later w, wr = x.w) (fun _ v _ => (n - intOf v).toNat)
    case atStart => exact ⟨0, left - n, rfl, by go_num, by omega, by omega, by omega, by simp [Hid], Later.of⟩
    case round =>
      obtain ⟨k, r, rfl, rfl, hk, hr, hr2, hf, x, rfl⟩ := hrel
      by_cases h2 : k < n
      · obtain ⟨b, off, s, rfl, hb, hd, h10⟩ := hs.str (show k < l.length by omega)
        have hd2 := totS_nonneg (l.drop (k + 1))
        have hsm : s.size ≤ 9223372036854775807 := HS.out s (List.mem_of_mem_drop (by rw [hd.out]; exact List.mem_cons_self ..))
        have hf2 : Hid (r - (s.size + totS (l.drop (k + 1))) = left - n - totS l) := by
          have := hf.out; rw [hd.out] at this; exact this
        by_cases h3 : r - s.size < 0
        · have HV := Lib.hid (show szI left (n + totS l) = -1 from if_pos (by have := hf2.out; omega))
          go_wp2_with (first | ((with_reducible refine wp_region_later (by kernel_rfl) (by kernel_rfl) ?_); (repeat (first | go_big_quiet_step (first | fail))); refine wpQuiet_nil ?_; rintro _ ⟨x, rfl⟩))
          go_ret
          exact Gives.mk (by rw [HV.out]; rfl)
        · go_wp2_with (first | ((with_reducible refine wp_region_later (by kernel_rfl) (by kernel_rfl) ?_); (repeat (first | go_big_quiet_step (first | fail))); refine wpQuiet_nil ?_; rintro _ ⟨x, rfl⟩))
          go_roundw
          case rel => exact ⟨k + 1, r - s.size, by go_num, by go_num, by omega, by omega, by omega, by have := hf2.out; unfold Hid; omega, Later.of⟩
          case measure => simp [intOf]; omega
      · have hf2 : Hid (r = left - n - totS l) := by
          have := hf.out; rw [List.drop_of_length_le (by omega)] at this; simpa [totS, Hid] using this
        have HV := Lib.hid (show szI left (n + totS l) = r by have := hf2.out; unfold szI; rw [if_neg (by omega)]; omega)
        go_wp2_with (first | ((with_reducible refine wp_region_later (by kernel_rfl) (by kernel_rfl) ?_); (repeat (first | go_big_quiet_step (first | fail))); refine wpQuiet_nil ?_; rintro _ ⟨x, rfl⟩))
        go_ret
        exact Gives.mk (by rw [HV.out]; rfl)

set_option maxRecDepth 100000 in
set_option maxHeartbeats 2000000 in
theorem c_leqStringS {a a' : Option Addr} {n n' c c' : Nat} {l l' : List ByteArray} {w : World} (hs : Sl encStr w a l) (hs' : Sl encStr w a' l') (hn : l.length = n) (hn' : l'.length = n') (hm : n ≤ 4611686018427387904) (hm' : n' ≤ 4611686018427387904) :
    Calls Try.prog 63 #[.slice a n c, .slice a' n' c'] w (Gives w (.bool ((n == n') && eqAll eqStr l l'))) := by
  by_cases hnn : n = n'
  · subst hnn
    have kn : ((n : Int) != (n : Int)) = false := by simp
    go_enter Try.func63, Try.ntmps63
    go_wp2_with (first | ((with_reducible refine wp_region_later (by kernel_rfl) (by kernel_rfl) ?_); (repeat (first | go_big_quiet_step (first | fail) | simp only [kn])); refine wpQuiet_nil ?_; rintro _ ⟨x, rfl⟩))
    go_loopw [5] (fun v wr => ∃ k : Nat, v = .int .i64 k ∧ k ≤ n ∧ Hid (eqAll eqStr (l.drop k) (l'.drop k) = eqAll eqStr l l') ∧ ∃ x : Later w, wr = x.w) (fun v _ => (n - intOf v).toNat)
    case atStart => exact ⟨0, rfl, by omega, rfl, Later.here w, rfl⟩
    case round =>
      obtain ⟨k, rfl, hk, hf, x, rfl⟩ := hrel
      by_cases h : k < n
      · obtain ⟨b, off, s, rfl, hb, hd, h0⟩ := hs.str (show k < l.length by omega)
        obtain ⟨b', off', s', rfl, hb', hd', h0'⟩ := hs'.str (show k < l'.length by omega)
        cases he : (s.toList == s'.toList)
        · have he2 : (s.toList != s'.toList) = true := by simp [bne, he]
          go_wp2_with (first | ((with_reducible refine wp_region_later (by kernel_rfl) (by kernel_rfl) ?_); (repeat (first | go_big_quiet_step (first | fail) | simp only [he2])); refine wpQuiet_nil ?_; rintro _ ⟨x, rfl⟩))
          go_ret
          exact Gives.mk (by have := hf.out; rw [hd.out, hd'.out, eqAll, eqStr, he] at this; simp [← this])
        · have he2 : (s.toList != s'.toList) = false := by simp [bne, he]
          go_wp2_with (first | ((with_reducible refine wp_region_later (by kernel_rfl) (by kernel_rfl) ?_); (repeat (first | go_big_quiet_step (first | fail) | simp only [he2])); refine wpQuiet_nil ?_; rintro _ ⟨x, rfl⟩))
          go_roundw
          case rel => exact ⟨k + 1, by go_num, by omega, by have := hf.out; rw [hd.out, hd'.out, eqAll, eqStr, he, Bool.true_and] at this; exact this, Later.of⟩
          case measure => simp [intOf]; omega
      · go_wp2_with (first | ((with_reducible refine wp_region_later (by kernel_rfl) (by kernel_rfl) ?_); (repeat (first | go_big_quiet_step (first | fail))); refine wpQuiet_nil ?_; rintro _ ⟨x, rfl⟩))
        go_ret
        exact Gives.mk (by have := hf.out; rw [List.drop_of_length_le (by omega), List.drop_of_length_le (by omega)] at this; simp [← this, eqAll])
  · have kn : ((n : Int) != (n' : Int)) = true := by simp; omega
    go_enter Try.func63, Try.ntmps63
    go_wp2_with (first | ((with_reducible refine wp_region_later (by kernel_rfl) (by kernel_rfl) ?_); (repeat (first | go_big_quiet_step (first | fail) | simp only [kn])); refine wpQuiet_nil ?_; rintro _ ⟨x, rfl⟩))
    go_ret
    exact Gives.mk (by simp [hnn])
end Go.Proofs.Ytjffbpdippbfkaa
