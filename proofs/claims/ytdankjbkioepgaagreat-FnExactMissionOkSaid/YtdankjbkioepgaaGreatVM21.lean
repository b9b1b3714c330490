/- The contracts of valid senders and receivers of files, for their Lean types, both sides. No condition but on sizes. · The contracts of what says whether a board's waiting orders are valid: the code's first index of a number. No condition but on sizes. · The contracts of the valid parts of a mission, both sides, for their Lean types and for later worlds. No condition but on sizes. -/
import Derived.Test.YtdankjbkioepgaaGreatVOkR
import Derived.Test.YtdankjbkioepgaaGreatVFileI
import Derived.Test.YtdankjbkioepgaaGreatVM9
import Derived.Test.YtdankjbkioepgaaGreatVOkS
import Derived.Test.YtdankjbkioepgaaGreatVSlots2
namespace Go.Proofs.YtdankjbkioepgaaGreat
set_option linter.unusedVariables false
open Go.ChangeShapes Go.WideShapes Go.ChangeAt Go.RowKit

/-- (As in the text on commands, under another name.) -/
theorem RdS.slStr {B : Nat} {w : World} {a : Option Addr} {c : Nat} {l : List ByteArray} (h : RdS B w a c l) : Sl encStr w a l := fun i s hx => by
  obtain ⟨b, off, vs, h0, -, h2, h3, h4⟩ := h.2.2.2 i s hx
  exact ⟨b, off, h0, h2, fun j v hv => by
    obtain ⟨rfl, -⟩ := h3
    have := h4 j v hv
    rw [show Enc.size ByteArray = (encStr s).length from rfl] at this
    exact this⟩
def fileOutOkT (f : TFileOut) : Bool := fileOutOk f.File f.Data.size f.Queue
def fileInOkT (f : TFileIn) : Bool := fileInOk f.File f.Size f.Check f.Parts

theorem k_iFileOutOk {B n : Nat} {a : Option Addr} {c : Nat} {f : TFileOut} {w0 w : World} (hs0 : RdS B w0 a c f.Queue) [g : Keeps B w0 w] (hn : f.Queue.length = n) (hm : n ≤ 1048576) (hz : f.Data.size ≤ 1048576) :
    Calls Tryz.prog 137 #[.agg #[.int .i64 f.File, .string f.Data, .slice a n c, .bool f.Done]] w (Gives w (.bool (fileOutOkT f))) :=
  c_iFileOutOk (hs0.to g).toSlInt hn (by omega) hz
theorem k_sFileOutOk {B n : Nat} {a : Option Addr} {c : Nat} {f : TFileOut} {w0 w : World} (hs0 : RdS B w0 a c f.Queue) [g : Keeps B w0 w] (hn : f.Queue.length = n) (hm : n ≤ 1048576) (hz : f.Data.size ≤ 1048576) :
    Calls Tryz.prog 130 #[.agg #[.int .i64 f.File, .string f.Data, .slice a n c, .bool f.Done]] w (Gives w (.bool (fileOutOkT f))) :=
  c_sFileOutOk (hs0.to g).toSlInt hn (by omega) hz
theorem k_iFileInOk {B n : Nat} {a : Option Addr} {c : Nat} {f : TFileIn} {w0 w : World} (hs0 : RdS B w0 a c f.Parts) [g : Keeps B w0 w] (hn : f.Parts.length = n) (hm : n ≤ 1048576) (hz : ∀ s ∈ f.Parts, s.size ≤ 1048576) :
    Calls Tryz.prog 117 #[.agg #[.int .i64 f.File, .int .i64 f.Size, .int .i64 f.Check, .slice a n c]] w (Gives w (.bool (fileInOkT f))) :=
  c_iFileInOk (hs0.to g).slStr hn (by omega) hz
theorem k_sFileInOk {B n : Nat} {a : Option Addr} {c : Nat} {f : TFileIn} {w0 w : World} (hs0 : RdS B w0 a c f.Parts) [g : Keeps B w0 w] (hn : f.Parts.length = n) (hm : n ≤ 1048576) (hz : ∀ s ∈ f.Parts, s.size ≤ 1048576) :
    Calls Tryz.prog 113 #[.agg #[.int .i64 f.File, .int .i64 f.Size, .int .i64 f.Check, .slice a n c]] w (Gives w (.bool (fileInOkT f))) :=
  c_sFileInOk (hs0.to g).slStr hn (by omega) hz

end Go.Proofs.YtdankjbkioepgaaGreat

namespace Go.Proofs.YtdankjbkioepgaaGreat
set_option linter.unusedVariables false
open Go.ChangeShapes Go.WideShapes Go.ChangeAt Go.RowKit

/-- The index of the first order with a number, counted from k on; -1 if there is none. -/
def firstAt (q : Int) : Nat → List TWaiting → Int
  | _, [] => -1
  | k, s :: r => if s.Number = q then (k : Int) else firstAt q (k + 1) r
theorem firstAt_ge {q : Int} : ∀ (l : List TWaiting) (k : Nat), firstAt q k l = -1 ∨ (k : Int) ≤ firstAt q k l
  | [], _ => Or.inl rfl
  | s :: r, k => by
    rw [firstAt]
    by_cases h : s.Number = q
    · rw [if_pos h]; exact Or.inr (Int.le_refl _)
    · rw [if_neg h]
      rcases firstAt_ge r (k + 1) with h1 | h1
      · exact Or.inl h1
      · right; omega
/-- None of the first j has the number, and the next one has it: so the first index is that one's. -/
theorem firstAt_is {q : Int} {s : TWaiting} {r : List TWaiting} (hs : s.Number = q) : ∀ (l : List TWaiting) (k j : Nat), l.drop j = s :: r → (firstAt q k l = ((k + j : Nat) : Int) ↔ ∀ y ∈ l.take j, y.Number ≠ q)
  | [], _, j, h => by simp at h
  | y :: t, k, 0, h => by
    rw [List.drop_zero] at h
    injection h with h1 h2
    rw [firstAt, h1, if_pos hs]
    simp
  | y :: t, k, j + 1, h => by
    rw [List.drop_succ_cons] at h
    rw [firstAt, List.take_succ_cons]
    by_cases hy : y.Number = q
    · rw [if_pos hy]
      constructor
      · intro e; omega
      · intro e; exact absurd hy (e y (by simp))
    · rw [if_neg hy, show ((k + (j + 1) : Nat) : Int) = ((k + 1 + j : Nat) : Int) from by omega, firstAt_is hs t (k + 1) j h]
      constructor
      · intro e z hz
        rcases List.mem_cons.1 hz with h1 | h1
        · rw [h1]; exact hy
        · exact e z h1
      · intro e z hz
        exact e z (List.mem_cons_of_mem _ hz)

theorem k_iindexOfOrder {B n : Nat} {a : Option Addr} {c : Nat} {q : Int} {l : List TWaiting} {w0 w : World} (hs0 : RdS B w0 a c l) [g : Keeps B w0 w] (hn : l.length = n) (hm : n ≤ 1048576) :
    Calls Tryz.prog 185 #[.slice a n c, .int .i64 q] w (Gives w (.int .i64 (firstAt q 0 l))) := by
  have HN := Lib.hid hn
  have hs := hs0.to g; clear hs0
  clear hn
  go_enter Tryz.func185, Tryz.ntmps185
  go_wp2_with (first | ((with_reducible refine wp_region_later (by kernel_rfl) (by kernel_rfl) ?_); (repeat (first | go_big_quiet_step (first | fail))); refine wpQuiet_nil ?_; rintro _ ⟨x, rfl⟩))
  go_loopw [9] (fun v wr => ∃ k : Nat, v = .int .i64 k ∧ k ≤ n ∧ Hid (firstAt q k (l.drop k) = firstAt q 0 l) ∧ ∃ y : Later w, wr = y.w) (fun v _ => (n - intOf v).toNat)
  case atStart => exact ⟨0, rfl, by omega, rfl, Later.of⟩
  case round =>
    obtain ⟨k, rfl, hk, HV, y, rfl⟩ := hrel
    by_cases h : k < n
    · have hkl : k < l.length := by have := HN.out; omega
      obtain ⟨eb, eoff, es, rfl, ehb, ehd, eok, eh0, eh1, eh2, eh3, eh4⟩ := hs.atTWaiting hkl
      have EOK := Lib.hid eok; clear eok hkl
      by_cases hq : es.Number = q
      · have kq : (es.Number == q) = true := by simp [hq]
        have HF := Lib.hid (show (k : Int) = firstAt q 0 l by have := HV.out; rw [ehd.out, firstAt, if_pos hq] at this; exact this)
        clear hq
        go_wp2_with (first | ((with_reducible refine wp_region_later (by kernel_rfl) (by kernel_rfl) ?_); (repeat (first | go_big_quiet_step (first | fail) | simp only [kq])); refine wpQuiet_nil ?_; rintro _ ⟨x, rfl⟩))
        go_ret
        exact Gives.mk (by rw [← HF.out]; rfl)
      · have kq : (es.Number == q) = false := by simp [hq]
        have HF := Lib.hid (show firstAt q (k + 1) (l.drop (k + 1)) = firstAt q 0 l by have := HV.out; rw [ehd.out, firstAt, if_neg hq] at this; exact this)
        clear hq
        go_wp2_with (first | ((with_reducible refine wp_region_later (by kernel_rfl) (by kernel_rfl) ?_); (repeat (first | go_big_quiet_step (first | fail) | simp only [kq])); refine wpQuiet_nil ?_; rintro _ ⟨x, rfl⟩))
        go_roundw
        case rel => exact ⟨k + 1, by go_num, by omega, HF, Later.of⟩
        case measure => simp [intOf]; omega
    · have HF := Lib.hid (show -1 = firstAt q 0 l by have := HV.out; rw [List.drop_of_length_le (by have := HN.out; omega), firstAt] at this; exact this)
      go_wp2_with (first | ((with_reducible refine wp_region_later (by kernel_rfl) (by kernel_rfl) ?_); (repeat (first | go_big_quiet_step (first | fail))); refine wpQuiet_nil ?_; rintro _ ⟨x, rfl⟩))
      go_ret
      exact Gives.mk (by rw [← HF.out]; rfl)

end Go.Proofs.YtdankjbkioepgaaGreat

namespace Go.Proofs.YtdankjbkioepgaaGreat
set_option linter.unusedVariables false
open Go.ChangeShapes Go.WideShapes Go.ChangeAt Go.RowKit

theorem RdS.toSlPair {B : Nat} {w : World} {a : Option Addr} {c : Nat} {l : List Pair} (h : RdS B w a c l) : Sl encPair w a l := fun i s hx => by
  obtain ⟨b, off, vs, h0, -, h2, h3, h4⟩ := h.2.2.2 i s hx
  exact ⟨b, off, h0, h2, fun j v hv => by
    obtain ⟨rfl, -⟩ := h3
    have := h4 j v hv
    rw [show Enc.size Pair = (encPair s).length from rfl] at this
    exact this⟩
def driftOkT (x : TDrift) : Bool := driftOk x.Rate x.Offset
def orbitOkT (x : TOrbit) : Bool := orbitOk x.Period x.Start x.Length

theorem k_iDriftOk {x : TDrift} {w : World} : Calls Tryz.prog 70 #[.agg #[.int .i64 x.Rate, .int .i64 x.Offset]] w (Gives w (.bool (driftOkT x))) := c_iDriftOk

theorem k_iOrbitOk {x : TOrbit} {w : World} : Calls Tryz.prog 71 #[.agg #[.int .i64 x.Period, .int .i64 x.Start, .int .i64 x.Length]] w (Gives w (.bool (orbitOkT x))) := c_iOrbitOk

theorem k_iPairsOk {B n : Nat} {a : Option Addr} {c : Nat} {l : List Pair} {w0 w : World} (hs0 : RdS B w0 a c l) [g : Keeps B w0 w] (hn : l.length = n) (hm : n ≤ 1048576) :
    Calls Tryz.prog 123 #[.slice a n c] w (Gives w (.bool (pairsOk l))) := c_iPairsOk (hs0.to g).toSlPair hn (by omega)

theorem k_iflightsOkN {B n : Nat} {a : Option Addr} {c : Nat} {l : List TFlight} {w0 w : World} (hs0 : RdS B w0 a c l) [g : Keeps B w0 w] (hn : l.length = n) (hm : n ≤ 1048576) :
    Calls Tryz.prog 73 #[.slice a n c] w (Gives w (.bool (flightsOk l))) := by
  subst hn; exact k_iflightsOk (hs0.to g) hm

theorem k_irecordsOkN {B n : Nat} {a : Option Addr} {c : Nat} {l : List TRecord} {w0 w : World} (hs0 : RdS B w0 a c l) [g : Keeps B w0 w] (hn : l.length = n) (hm : n ≤ 1048576) :
    Calls Tryz.prog 133 #[.slice a n c] w (Gives w (.bool (recordsOk l))) := by
  subst hn; exact k_irecordsOk (hs0.to g) hm

theorem k_iSenderOkN {B n : Nat} {a : Option Addr} {c : Nat} {sd : TSender} {w0 w : World} (hs0 : RdS B w0 a c sd.Waiting) [g : Keeps B w0 w] (hn : sd.Waiting.length = n) (hm : n ≤ 1048576) (hi : okDTSender sd) :
    Calls Tryz.prog 131 #[.agg #[.int .i64 sd.Next, .int .i64 sd.Window, .slice a n c, .int .i64 sd.Done]] w (Gives w (.bool (senderOk sd))) := by
  subst hn; exact k_iSenderOk (hs0.to g) hm hi

theorem k_iPackerOkN {B n : Nat} {a : Option Addr} {c : Nat} {p : TPacker} {w0 w : World} (hs0 : RdS B w0 a c p.Starts) [g : Keeps B w0 w] (hn : p.Starts.length = n) (hm : n ≤ 1048576) (hz : p.Rest.size ≤ 1048576) :
    Calls Tryz.prog 136 #[.agg #[.int .i64 p.Channel, .int .i64 p.Count, .string p.Rest, .slice a n c]] w (Gives w (.bool (packerOk p))) := by
  subst hn; exact k_iPackerOk (hs0.to g) hm hz

theorem k_sDriftOk {x : TDrift} {w : World} : Calls Tryz.prog 63 #[.agg #[.int .i64 x.Rate, .int .i64 x.Offset]] w (Gives w (.bool (driftOkT x))) := c_sDriftOk

theorem k_sOrbitOk {x : TOrbit} {w : World} : Calls Tryz.prog 64 #[.agg #[.int .i64 x.Period, .int .i64 x.Start, .int .i64 x.Length]] w (Gives w (.bool (orbitOkT x))) := c_sOrbitOk

theorem k_sPairsOk {B n : Nat} {a : Option Addr} {c : Nat} {l : List Pair} {w0 w : World} (hs0 : RdS B w0 a c l) [g : Keeps B w0 w] (hn : l.length = n) (hm : n ≤ 1048576) :
    Calls Tryz.prog 121 #[.slice a n c] w (Gives w (.bool (pairsOk l))) := c_sPairsOk (hs0.to g).toSlPair hn (by omega)

theorem k_sflightsOkN {B n : Nat} {a : Option Addr} {c : Nat} {l : List TFlight} {w0 w : World} (hs0 : RdS B w0 a c l) [g : Keeps B w0 w] (hn : l.length = n) (hm : n ≤ 1048576) :
    Calls Tryz.prog 66 #[.slice a n c] w (Gives w (.bool (flightsOk l))) := by
  subst hn; exact k_sflightsOk (hs0.to g) hm

theorem k_srecordsOkN {B n : Nat} {a : Option Addr} {c : Nat} {l : List TRecord} {w0 w : World} (hs0 : RdS B w0 a c l) [g : Keeps B w0 w] (hn : l.length = n) (hm : n ≤ 1048576) :
    Calls Tryz.prog 126 #[.slice a n c] w (Gives w (.bool (recordsOk l))) := by
  subst hn; exact k_srecordsOk (hs0.to g) hm

theorem k_sSenderOkN {B n : Nat} {a : Option Addr} {c : Nat} {sd : TSender} {w0 w : World} (hs0 : RdS B w0 a c sd.Waiting) [g : Keeps B w0 w] (hn : sd.Waiting.length = n) (hm : n ≤ 1048576) (hi : okDTSender sd) :
    Calls Tryz.prog 124 #[.agg #[.int .i64 sd.Next, .int .i64 sd.Window, .slice a n c, .int .i64 sd.Done]] w (Gives w (.bool (senderOk sd))) := by
  subst hn; exact k_sSenderOk (hs0.to g) hm hi

theorem k_sPackerOkN {B n : Nat} {a : Option Addr} {c : Nat} {p : TPacker} {w0 w : World} (hs0 : RdS B w0 a c p.Starts) [g : Keeps B w0 w] (hn : p.Starts.length = n) (hm : n ≤ 1048576) (hz : p.Rest.size ≤ 1048576) :
    Calls Tryz.prog 129 #[.agg #[.int .i64 p.Channel, .int .i64 p.Count, .string p.Rest, .slice a n c]] w (Gives w (.bool (packerOk p))) := by
  subst hn; exact k_sPackerOk (hs0.to g) hm hz

end Go.Proofs.YtdankjbkioepgaaGreat
