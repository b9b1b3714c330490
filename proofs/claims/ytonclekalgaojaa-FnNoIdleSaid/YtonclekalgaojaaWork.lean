/- The contracts of what draws a piece of work: an orbit and a list of requests. No condition but on lengths. -/
import Derived.Test.YtonclekalgaojaaDraw
import Derived.Test.YtonclekalgaojaaReq
import Derived.Deep.RegionHeld3
namespace Go.Proofs.Ytonclekalgaojaa
set_option linter.unusedVariables false
open Go.ChangeShapes Go.WideShapes Go.ChangeAt Go.RowKit

theorem held_cell {W : World} {B : Nat} {cs : Array Value} {T : TypeId} (h : W.heap[B]? = some (.cells cs T)) (i : Nat) : W.cell? ⟨B, i, none⟩ = cs[i]? := by simp [World.cell?, h]
theorem held_frozen {W : World} {B : Nat} {cs : Array Value} {T : TypeId} (h : W.heap[B]? = some (.cells cs T)) (i : Nat) : W.frozen? ⟨B, i, none⟩ = false := by simp [World.frozen?, h]
theorem held_new (W : World) (o : Obj) : (W.alloc o).heap[W.heap.size]? = some o := by
  show (W.heap.push _)[W.heap.size]? = _
  simp
theorem held_past {W : World} {B : Nat} {x : Obj} (h : W.heap[B]? = some x) (o : Obj) : (W.alloc o).heap[B]? = some x := by
  rw [Below.heap_alloc _ _ _ (Array.getElem?_eq_some_iff.1 h).1]; exact h
theorem held_grown {w W : World} {B p : Nat} {x : Obj} (hg : w.grownBy W (some p)) (h : w.heap[B]? = some x) (hp : B ≠ p) : W.heap[B]? = some x := by
  rw [hg.block B (Array.getElem?_eq_some_iff.1 h).1 (fun e => hp (Option.some.inj e))]; exact h
theorem held_later {W : World} {B : Nat} {x : Obj} (h : W.heap[B]? = some x) (y : Later W) : y.w.heap[B]? = some x := by
  rw [y.h.block B (Array.getElem?_eq_some_iff.1 h).1]; exact h

set_option maxRecDepth 100000 in
set_option maxHeartbeats 2000000 in
theorem c_sl08Orbit {w : World} {p : Nat} {a : Option Addr} {n c : Nat} {l : List Int} {i : Nat} (hc : IsCur w p a n c l i) :
    Calls Try.prog 81 #[.pointer (some ⟨p, 0, none⟩)] w fun e w' => ∃ pp ss ll : Int, e = .returned (.agg #[.int .i64 pp, .int .i64 ss, .int .i64 ll]) ∧ pp ∈ [1, 5, 9, 20, 50] ∧ (0 ≤ ss ∧ ss < pp) ∧ (1 ≤ ll ∧ ll ≤ pp) ∧ w.grownBy w' (some p) ∧ ∃ i', IsCur w' p a n c l i' := by
  have HC := Lib.hid hc; clear hc
  have hp := HC.out.lt.out
  go_enter Try.func81, Try.ntmps81
  go_wp2_with (first | ((with_reducible refine wp_region_later (by kernel_rfl) (by kernel_rfl) ?_); (repeat (first | go_big_quiet_step (first | fail))); refine wpQuiet_nil ?_; rintro _ ⟨x, rfl⟩))
  refine (c_sl01PickInt (xs := [1, 5, 9, 20, 50]) ((HC.out.alloc _).alloc _) (Sl.litB (by simp) encInt_len rfl) rfl (by decide) (by decide) ?_).mono ?_
  · intro b off h; cases h; omega
  rintro _ w1 ⟨pp, rfl, hpp, hg1, i1, hc1⟩
  have hb : 1 ≤ pp ∧ pp ≤ 50 := by simp only [List.mem_cons, List.not_mem_nil, or_false] at hpp; omega
  have H1 := held_grown hg1 (held_past (held_new w (.cells #[.int .i64 0, .int .i64 0, .int .i64 0] 43)) _) (by omega)
  have G1 := grownBy_trans (grownBy_new (grownBy_new (grownBy_refl w (some p)) _) _) hg1
  have HG := Lib.hid G1; have HP := Lib.hid hpp; clear hg1 G1 hpp
  go_wp2_with (first | ((with_reducible refine wp_region_later (by kernel_rfl) (by kernel_rfl) ?_); (repeat (first | go_big_quiet_step (first | fail))); refine wpQuiet_nil ?_; rintro _ ⟨x, rfl⟩))
  refine (c_sl01Below hc1 (by omega) (by omega)).mono ?_
  rintro _ w2 ⟨ss, rfl, hss, hg2, i2, hc2⟩
  have H2 := held_grown hg2 H1 (by omega)
  have HG2 := Lib.hid hg2; clear hg2 hc1
  go_wp2_with (first | ((with_reducible refine wp_region_later (by kernel_rfl) (by kernel_rfl) ?_); (repeat (first | go_big_quiet_step (first | fail))); refine wpQuiet_nil ?_; rintro _ ⟨x, rfl⟩))
  refine (c_sl01Below hc2 (by omega) (by omega)).mono ?_
  rintro _ w3 ⟨ll, rfl, hll, hg3, i3, hc3⟩
  have H3 := held_grown hg3 H2 (by omega)
  have HG3 := Lib.hid hg3; have HC3 := Lib.hid hc3; clear hg3 hc2 hc3
  have f0 := held_cell H3 0
  have f1 := held_cell H3 1
  have f2 := held_cell H3 2
  have k0 := held_frozen H3 0
  have k1 := held_frozen H3 1
  have k2 := held_frozen H3 2
  simp only [List.getElem?_toArray, List.getElem?_cons_zero, List.getElem?_cons_succ] at f0 f1 f2
  have HH := Lib.hid (And.intro H1 (And.intro H2 H3)); clear H1 H2 H3 HH
  go_wp2_with (first | ((with_reducible refine wp_region_later (by kernel_rfl) (by kernel_rfl) ?_); (repeat (first | go_big_quiet_step (first | fail))); refine wpQuiet_nil ?_; rintro _ ⟨x, rfl⟩))
  refine bodyPost_ret (v := .agg #[.int .i64 pp, .int .i64 ss, .int .i64 (1 + ll)]) ?_ rfl ⟨pp, ss, 1 + ll, rfl, HP.out, hss, by omega, ?_, i3, ((HC3.out.put hp _ _).put hp _ _).put hp _ _⟩
  · simp [results, Try.results81, go_sem, f0, f1, f2]
  · exact grownBy_put (grownBy_put (grownBy_put (grownBy_trans (grownBy_trans HG.out HG2.out) HG3.out) (Nat.le_refl _) _ _) (Nat.le_refl _) _ _) (Nat.le_refl _) _ _

/-- 'append(s, y)', the slice's blocks at or above B. -/
theorem wpList_app1B {α : Type} {enc : α → List Value} {T size : Nat} {P : Program} {ops : Array Oper} {rest : List Oper} {o : Oper} {a : Act} {Q : Exit → Act → World → Prop} {B : Nat} {W : World} {T1 : TypeId} {cs : Array Value} {t : TypeId} {bytes : Nat} {z : Value} (y : α)
    (hgd : o.guard = none) (s x : Operand) (ho : o.op = .call { callee := .builtin .append, args := #[s, x], argTypes := #[t, t] })
    (ht : P.underlying t = some (.slice T)) (hinfo : (P.info? T).map (fun i => (i.zero, i.size, i.bytes)) = some (some z, size, bytes)) (hzs : z.cells.size = size) (hsz : 0 < size) (hby : bytes ≤ 1000)
    {l : List α} {n : Nat} {sa : Option Addr} {sc : Nat} (hs : a.eval s = .slice sa n sc) (hx : a.eval x = .slice (some ⟨W.heap.size, 0, none⟩) 1 1) (hn : l.length = n) (hown : Own enc T size B W sa sc l)
    (hy : cs.toList = enc y) (h1 : ∀ u ∈ enc y, u.oneCell' = true) (hb : n ≤ 1000000000) (hB : B ≤ W.heap.size)
    (h : ∀ (sa' : Option Addr) (sc' : Nat) (w' : World), Own enc T size B w' sa' sc' (l ++ [y]) → W.grownBy w' (Value.ownBlock (.slice sa n sc)) → wpList P ops Q rest (a.put o.dst (.slice sa' (n + 1) sc')) w') :
    wpList P ops Q (o :: rest) a (W.alloc (.cells cs T1)) := by
  obtain ⟨i, hi, h3⟩ := Option.map_eq_some_iff.1 hinfo
  simp only [Prod.mk.injEq] at h3
  obtain ⟨h4, h5, h6⟩ := h3
  subst hn
  have hb' : (l.length + 1) * bytes ≤ 140737488355328 := by
    have : (l.length + 1) * bytes ≤ (l.length + 1) * 1000 := Nat.mul_le_mul_left _ hby
    omega
  have hnl : (enc y).length = 1 * size := by rw [hown.1]; omega
  refine wpList_append_own (a := a) (w := W.alloc (.cells cs T1)) hgd s x t ho B T i z size bytes ht hi h4 h5 h6 hzs hsz _ l.length (l.flatMap enc) hs (hown.2.alloc _) ⟨W.heap.size, 0, none⟩ 1 1 (enc y) hx hnl
    (fun j u hj => by rw [cells_new, ← Array.getElem?_toList, hy]; exact hj) h1 (by unfold maxLen; omega) hb' (Nat.le_trans hB (by simp)) ?_
  intro v' w' ho' hg' _
  have hf : xs_form v' (l.length + 1) := by
    rcases ho'.2 with ⟨hv, hn0⟩ | ⟨g', cap, cur, hv, -⟩
    · omega
    · exact ⟨_, _, hv⟩
  obtain ⟨sa', sc', rfl⟩ := hf
  refine h sa' sc' w' ⟨hown.1, ?_⟩ ⟨hg'.os, hg'.tape, hg'.output, Nat.le_trans (by simp) hg'.size, fun k hk hr => ?_⟩
  · rw [List.flatMap_append, List.flatMap_singleton, List.length_append, List.length_singleton]; exact ho'
  · rw [hg'.block k (by simp; omega) hr]; exact Below.heap_alloc _ _ _ hk

theorem reqsFrom_snoc (s : Request) : ∀ (L b : List Request), reqsFrom b (L ++ [s]) = (reqsFrom b L && (inB s.Id 0 255 && (inB s.Ready 0 1000000 && (dueOk s && (inB s.Need 1 100 && idFree s.Id (b ++ L))))))
  | [], b => by simp [reqsFrom]
  | x :: L, b => by
    simp only [List.cons_append, reqsFrom]
    rw [reqsFrom_snoc s L (b ++ [x])]
    simp [Bool.and_assoc, List.append_assoc]
theorem idFree_of {id : Int} : ∀ {L : List Request}, (∀ x ∈ L, x.Id ≠ id) → idFree id L = true
  | [], _ => rfl
  | x :: L, h => by
    simp only [idFree, idFree_of (fun y hy => h y (List.mem_cons_of_mem _ hy)), Bool.and_true]
    have := h x (List.mem_cons_self ..)
    simpa using this

/-- What the draw's requests keep to, with k rounds to go. -/
def drawnReqs (k : Nat) (L : List Request) : Prop :=
  reqsFrom [] L = true ∧ L.length + k ≤ 5 ∧ ∀ x ∈ L, (k : Int) < x.Id % 9 ∧ 0 ≤ x.Id ∧ x.Id ≤ 23 ∧ 0 ≤ x.Ready ∧ x.Ready ≤ 39 ∧ x.Ready ≤ x.Deadline ∧ x.Deadline ≤ 88 ∧ 1 ≤ x.Need ∧ x.Need ≤ 9
theorem drawnReqs_step {k : Nat} {L : List Request} (h : drawnReqs (k + 1) L) {x r d m : Int} (hx : 0 ≤ x ∧ x < 3) (hr : 0 ≤ r ∧ r < 40) (hd : 0 ≤ d ∧ d < 50) (hm : 0 ≤ m ∧ m < 9) :
    drawnReqs k (L ++ [⟨x * 9 + (k + 1 : Nat), r, r + d, 1 + m⟩]) := by
  obtain ⟨h1, h2, h3⟩ := h
  refine ⟨?_, by simp; omega, fun y hy => ?_⟩
  · rw [reqsFrom_snoc, h1, idFree_of (fun y hy he => by have := (h3 y (by simpa using hy)).1; simp only at he; omega)]
    simp [inB, dueOk]
    omega
  · rcases List.mem_append.1 hy with hy | hy
    · have := h3 y hy; omega
    · simp only [List.mem_singleton] at hy
      subst hy
      simp only
      omega
theorem drawnReqs_ok {k : Nat} {L : List Request} (h : drawnReqs k L) : requestsOk L = true := by
  obtain ⟨h1, h2, -⟩ := h
  simp [requestsOk, h1]; omega

set_option maxRecDepth 100000 in
set_option maxHeartbeats 2000000 in
theorem c_sl08Requests {w : World} {p : Nat} {a : Option Addr} {n c : Nat} {l : List Int} {i : Nat} (hc : IsCur w p a n c l i) :
    Calls Try.prog 82 #[.pointer (some ⟨p, 0, none⟩)] w fun e w' => ∃ (L : List Request) (sa : Option Addr) (sc : Nat), e = .returned (.slice sa L.length sc) ∧ Own encRequest 87 4 w.heap.size w' sa sc L ∧ drawnReqs 0 L ∧ w.grownBy w' (some p) ∧ ∃ i', IsCur w' p a n c l i' := by
  have HC := Lib.hid hc; clear hc
  have hp := HC.out.lt.out
  go_enter Try.func82, Try.ntmps82
  go_wp2_with (first | ((with_reducible refine wp_region_later (by kernel_rfl) (by kernel_rfl) ?_); (repeat (first | go_big_quiet_step (first | fail))); refine wpQuiet_nil ?_; rintro _ ⟨x, rfl⟩))
  refine (c_sl01Below (HC.out.alloc _) (by omega) (by omega)).mono ?_
  rintro _ w1 ⟨k0, rfl, hk0, hg1, i1, hc1⟩
  have O1 := (Own.empty0 (T := 87) (W := w) encRequest_len (Nat.le_refl _)).kept hg1 (fun k hk => by cases hk; exact .inl hp)
  have G1 := grownBy_trans (grownBy_new (grownBy_refl w (some p)) _) hg1
  clear hg1
  obtain ⟨k0, rfl⟩ := Int.eq_ofNat_of_zero_le hk0.1
  go_wp2_with (first | ((with_reducible refine wp_region_later (by kernel_rfl) (by kernel_rfl) ?_); (repeat (first | go_big_quiet_step (first | fail))); refine wpQuiet_nil ?_; rintro _ ⟨x, rfl⟩))
  go_loopw [3, 4] (fun vs vk wr => ∃ (L : List Request) (sa : Option Addr) (sc k : Nat), vs = .slice sa L.length sc ∧ vk = .int .i64 k ∧ Hid (Own encRequest 87 4 w.heap.size wr sa sc L) ∧ Hid (w.grownBy wr (some p)) ∧ (∃ i', Hid (IsCur wr p a n c l i')) ∧ Hid (drawnReqs k L)) (fun _ v _ => (intOf v).toNat)
  case atStart => exact ⟨[], _, _, k0, rfl, rfl, O1, G1, ⟨i1, hc1⟩, ⟨rfl, by simp; omega, by simp⟩⟩
  case round =>
    obtain ⟨L, sa, sc, k, rfl, rfl, hO, hG, ⟨i2, hC⟩, hD⟩ := hrel
    cases k with
    | zero =>
      go_wp2_with (first | ((with_reducible refine wp_region_later (by kernel_rfl) (by kernel_rfl) ?_); (repeat (first | go_big_quiet_step (first | fail))); refine wpQuiet_nil ?_; rintro _ ⟨x, rfl⟩))
      go_ret
      exact ⟨L, sa, sc, rfl, hO.out, hD.out, hG.out, i2, hC.out⟩
    | succ k =>
      have hlen := hD.out.2.1
      have KEEP : ∀ {W W' : World} {sa : Option Addr} {sc : Nat}, Own encRequest 87 4 w.heap.size W sa sc L → W.grownBy W' (some p) → Own encRequest 87 4 w.heap.size W' sa sc L := fun h hg => h.kept hg (fun k hk => by cases hk; exact .inl hp)
      go_wp2_with (first | ((with_reducible refine wp_region_later (by kernel_rfl) (by kernel_rfl) ?_); (repeat (first | go_big_quiet_step (first | fail))); refine wpQuiet_nil ?_; rintro _ ⟨x, rfl⟩))
      refine (c_sl01Below hC.out (by omega) (by omega)).mono ?_
      rintro _ w2 ⟨r, rfl, hr, hg2, i3, hc2⟩
      have O2 := Lib.hid (KEEP hO.out hg2); have G2 := Lib.hid (grownBy_trans hG.out hg2); clear hO hG hC hg2
      go_wp2_with (first | ((with_reducible refine wp_region_later (by kernel_rfl) (by kernel_rfl) ?_); (repeat (first | go_big_quiet_step (first | fail))); refine wpQuiet_nil ?_; rintro _ ⟨x, rfl⟩))
      refine (c_sl01Below hc2 (by omega) (by omega)).mono ?_
      rintro _ w3 ⟨x, rfl, hx, hg3, i4, hc3⟩
      have O3 := Lib.hid (KEEP O2.out hg3); have G3 := Lib.hid (grownBy_trans G2.out hg3); clear O2 G2 hc2 hg3
      go_wp2_with (first | ((with_reducible refine wp_region_later (by kernel_rfl) (by kernel_rfl) ?_); (repeat (first | go_big_quiet_step (first | fail))); refine wpQuiet_nil ?_; rintro _ ⟨x, rfl⟩))
      refine (c_sl01Below hc3 (by omega) (by omega)).mono ?_
      rintro _ w4 ⟨d, rfl, hd, hg4, i5, hc4⟩
      have O4 := Lib.hid (KEEP O3.out hg4); have G4 := Lib.hid (grownBy_trans G3.out hg4); clear O3 G3 hc3 hg4
      go_wp2_with (first | ((with_reducible refine wp_region_later (by kernel_rfl) (by kernel_rfl) ?_); (repeat (first | go_big_quiet_step (first | fail))); refine wpQuiet_nil ?_; rintro _ ⟨x, rfl⟩))
      refine (c_sl01Below hc4 (by omega) (by omega)).mono ?_
      rintro _ w5 ⟨m, rfl, hm, hg5, i6, hc5⟩
      have O5 := KEEP O4.out hg5; have G5 := Lib.hid (grownBy_trans G4.out hg5); have HC5 := Lib.hid hc5; clear O4 G4 hc4 hg5 hc5
      have hsz := G5.out.size
      clear KEEP
      have hp5 := HC5.out.lt.out
      go_wp2_with (first | ((with_reducible refine wp_region_later (by kernel_rfl) (by kernel_rfl) ?_); (repeat (first | go_big_quiet_step (first | fail))); refine wpQuiet_nil ?_; rintro _ ⟨x, rfl⟩) | (at_builtin; refine wpList_app1B (enc := encRequest) (B := w.heap.size) (z := .agg #[.int .i64 0, .int .i64 0, .int .i64 0, .int .i64 0]) (size := 4) (bytes := 32) (⟨x * 9 + (k + 1 : Nat), r, r + d, 1 + m⟩ : Request) rfl (.tmp 15) (.tmp 30) rfl Try.underlying25 (by kernel_rfl) rfl (by decide) (by decide) rfl rfl rfl O5 rfl (by intro u hu; simp [encRequest] at hu; rcases hu with rfl | rfl | rfl | rfl <;> rfl) (by omega) hsz ?_; intro sa1 sc1 w6 O6 g6))
      have hlt := O5.lt (n := L.length)
      go_roundw
      case rel =>
        refine ⟨L ++ [(⟨x * 9 + (k + 1 : Nat), r, r + d, 1 + m⟩ : Request)], sa1, sc1, k, by simp, rfl, O6, ?_, ⟨i6, HC5.out.kept g6.size (fun j hj => g6.block j (by omega) (fun e => by have := (hlt j e.symm).1; omega))⟩, drawnReqs_step hD.out hx hr hd hm⟩
        have G := G5.out
        exact ⟨g6.os.trans G.os, g6.tape.trans G.tape, g6.output.trans G.output, Nat.le_trans G.size g6.size, fun j hj hr => (g6.block j (by omega) (fun e => by have := (hlt j e.symm).1; omega)).trans (G.block j hj hr)⟩
      case measure => simp [intOf]

theorem Own.belowLater {α : Type} {enc : α → List Value} {T size B : Nat} {W W' : World} {a : Option Addr} {c : Nat} {l : List α} (h : Own enc T size B W a c l) (e : W = W') : Own enc T size B W' a c l := e ▸ h

theorem Later.ofGrownW {W w' : World} {p : Nat} (x : Later W) (hg : x.w.grownBy w' (some p)) (hp : W.heap.size ≤ p) : ∃ y : Later W, w' = y.w :=
  ⟨⟨w', x.h.os ▸ hg.os, by rw [hg.tape, x.h.tape], by rw [hg.output, x.h.output], Nat.le_trans x.h.size hg.size, fun k hk => by
    rw [hg.block k (Nat.lt_of_lt_of_le hk x.h.size) (by simp only [ne_eq, Option.some.injEq]; omega)]; exact x.h.block k hk⟩, rfl⟩
theorem IsCur.drew {w : World} {p : Nat} {a : Option Addr} {n c : Nat} {l : List Int} {i : Nat} (h : IsCur w p a n c l i) : IsCur w.drew p a n c l i := h.kept (Nat.le_refl _) (fun _ _ => rfl)
theorem grownBy_drew {w W : World} {row : Option Nat} (h : w.grownBy W row) : w.grownBy W.drew row := ⟨h.os, h.tape, h.output, h.size, h.block⟩

set_option maxRecDepth 100000 in
set_option maxHeartbeats 2000000 in
theorem c_sDrawWork {w : World} {a : Option Addr} {n c : Nat} {l : List Int} (hs : Sl encByte w a l) (hn : l.length = n) (hm : n ≤ 1048576) (hby : ∀ x ∈ l, isByte x) :
    Calls Try.prog 30 #[.slice a n c] w fun e w' => ∃ (pp ss ll : Int) (L : List Request) (sa : Option Addr) (sc : Nat), e = .returned (.tuple #[.agg #[.int .i64 pp, .int .i64 ss, .int .i64 ll], .slice sa L.length sc]) ∧ (pp ∈ [1, 5, 9, 20, 50] ∧ (0 ≤ ss ∧ ss < pp) ∧ (1 ≤ ll ∧ ll ≤ pp)) ∧ drawnReqs 0 L ∧ Own encRequest 87 4 w.heap.size w' sa sc L ∧ ∃ x : Later w, w' = x.w := by
  go_enter Try.func30, Try.ntmps30
  go_wp2_with (first | ((with_reducible refine wp_region_later (by kernel_rfl) (by kernel_rfl) ?_); (repeat (first | go_big_quiet_step (first | fail))); refine wpQuiet_nil ?_; rintro _ ⟨x, rfl⟩))
  refine (c_sl01New (hs.alloc _) hn hm hby).mono ?_
  rintro _ _ ⟨p, rfl, hp, ⟨x, rfl⟩, hc⟩
  go_wp2_with (first | ((with_reducible refine wp_region_later (by kernel_rfl) (by kernel_rfl) ?_); (repeat (first | go_big_quiet_step (first | fail))); refine wpQuiet_nil ?_; rintro _ ⟨x, rfl⟩))
  refine (c_sl08Orbit hc).mono ?_
  rintro _ w2 ⟨pp, ss, ll, rfl, hpp, hss, hll, hg, i2, hc2⟩
  have hp' : w.heap.size < p := by simp at hp; omega
  have hk := held_grown hg (held_later (held_new w (.cells #[.int .i64 0, .int .i64 0, .int .i64 0] 43)) x) (by omega)
  have HG := Lib.hid hg; have HC2 := Lib.hid hc2; have HX := Lib.hid (And.intro hpp (And.intro hss hll)); clear hg hc2 hpp hss hll
  go_wp2_with (first | ((with_reducible refine wp_region_later (by kernel_rfl) (by kernel_rfl) ?_); (repeat (first | go_big_quiet_step (first | fail))); refine wpQuiet_nil ?_; rintro _ ⟨x, rfl⟩))
  have CALL := (c_sl08Requests (HC2.out.alloc (.cells #[.int .i64 pp, .int .i64 ss, .int .i64 ll] 43)).drew).mono (R' := fun e w4 => ∃ (L : List Request) (sa : Option Addr) (sc : Nat), e = .returned (.slice sa L.length sc) ∧ w4.cell? ⟨w.heap.size, 0, none⟩ = some (.int .i64 0) ∧ w4.cell? ⟨w.heap.size, 1, none⟩ = some (.int .i64 0) ∧ w4.cell? ⟨w.heap.size, 2, none⟩ = some (.int .i64 0) ∧ w4.frozen? ⟨w.heap.size, 0, none⟩ = false ∧ w4.frozen? ⟨w.heap.size, 1, none⟩ = false ∧ w4.frozen? ⟨w.heap.size, 2, none⟩ = false ∧ w4.cell? ⟨w2.heap.size, 0, none⟩ = some (.int .i64 pp) ∧ w4.cell? ⟨w2.heap.size, 1, none⟩ = some (.int .i64 ss) ∧ w4.cell? ⟨w2.heap.size, 2, none⟩ = some (.int .i64 ll) ∧ Hid (drawnReqs 0 L ∧ Own encRequest 87 4 (w2.heap.size + 1) w4 sa sc L ∧ ((w2.alloc (.cells #[.int .i64 pp, .int .i64 ss, .int .i64 ll] 43)).drew).grownBy w4 (some p))) (by
    rintro _ w4 ⟨L, sa, sc, rfl, hO, hD, hg4, i4, -⟩
    have hk4 := held_grown hg4 (held_past hk _) (by omega)
    have hp2 := HC2.out.lt.out
    have hk5 := held_grown hg4 (held_new w2 _) (by omega)
    exact ⟨L, sa, sc, rfl, held_cell hk4 0, held_cell hk4 1, held_cell hk4 2, held_frozen hk4 0, held_frozen hk4 1, held_frozen hk4 2, held_cell hk5 0, held_cell hk5 1, held_cell hk5 2, Lib.hid ⟨hD, by simpa using hO, hg4⟩⟩)
  have e0 : ((w2.alloc (.cells #[.int .i64 pp, .int .i64 ss, .int .i64 ll] 43)).drew).cell? ⟨w2.heap.size, 0, none⟩ = some (.int .i64 pp) := held_cell (held_new w2 _) 0
  have e1 : ((w2.alloc (.cells #[.int .i64 pp, .int .i64 ss, .int .i64 ll] 43)).drew).cell? ⟨w2.heap.size, 1, none⟩ = some (.int .i64 ss) := held_cell (held_new w2 _) 1
  have e2 : ((w2.alloc (.cells #[.int .i64 pp, .int .i64 ss, .int .i64 ll] 43)).drew).cell? ⟨w2.heap.size, 2, none⟩ = some (.int .i64 ll) := held_cell (held_new w2 _) 2
  have hfar : w.heap.size ≠ w2.heap.size := by have := (Array.getElem?_eq_some_iff.1 hk).1; omega
  go_region_held3 (fun W : World => W.cell? ⟨w2.heap.size, 0, none⟩ = some (.int .i64 pp) ∧ W.cell? ⟨w2.heap.size, 1, none⟩ = some (.int .i64 ss) ∧ W.cell? ⟨w2.heap.size, 2, none⟩ = some (.int .i64 ll)) (first | exact ⟨e0, e1, e2⟩ | exact ⟨g0, g1, g2⟩ | ((try dsimp only); refine ⟨?_, ?_, ?_⟩ <;> (first | assumption | ((repeat rw [World.cell?_setCell_far _ _ _ _ hfar]); assumption)))) (first | (go_at_call 82; refine CALL.mono ?_; rintro _ w4 ⟨L, sa, sc, rfl, f0, f1, f2, k0, k1, k2, g0, g1, g2, HO⟩))
  go_wp2_with (first | ((with_reducible refine wp_region_later (by kernel_rfl) (by kernel_rfl) ?_); (repeat (first | go_big_quiet_step (first | fail))); refine wpQuiet_nil ?_; rintro _ ⟨x, rfl⟩))
  have HO' := HO.out
  have HG' := HG.out
  refine bodyPost_ret (v := .tuple #[.agg #[.int .i64 pp, .int .i64 ss, .int .i64 ll], .slice sa L.length sc]) ?_ rfl ⟨pp, ss, ll, L, sa, sc, rfl, HX.out, HO'.1, ?_, ?_⟩
  · simp [results, Try.results30, go_sem, f0, f1, f2]
  · have := (Array.getElem?_eq_some_iff.1 hk).1
    exact (HO'.2.1.kept (grownBy_set (grownBy_set (grownBy_set (grownBy_refl w4 (some w.heap.size)) _ _) _ _) _ _) (fun k hk => by cases hk; left; omega)).mono (by omega)
  · have hall := grownBy_trans (grownBy_drew (grownBy_new HG' _)) HO'.2.2
    obtain ⟨y, rfl⟩ := x.ofGrownW hall (by simp; omega)
    exact Later.of
end Go.Proofs.Ytonclekalgaojaa
