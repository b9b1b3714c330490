/- The contracts of what draws a piece of work: an orbit and a list of requests. No condition but on lengths. -/
import Derived.Test.YtdinhfeflobafaaGreatSM0
import Derived.Deep.RegionHeld3
namespace Go.Proofs.YtdinhfeflobafaaGreat
set_option linter.unusedVariables false
open Go.ChangeShapes Go.WideShapes Go.ChangeAt Go.RowKit
theorem held_cell{W:World}{B:Nat}{cs:Array Value}{T:TypeId}(h:W.heap[B]?=some (.cells cs T))(i:Nat):W.cell? ⟨B,i,none⟩=cs[i]?:=by simp[World.cell?,h]
theorem held_frozen{W:World}{B:Nat}{cs:Array Value}{T:TypeId}(h:W.heap[B]?=some (.cells cs T))(i:Nat):W.frozen? ⟨B,i,none⟩=false:=by simp[World.frozen?,h]
theorem held_new(W:World)(o:Obj):(W.alloc o).heap[W.heap.size]?=some o:=by
 show(W.heap.push _)[W.heap.size]?=_
 simp
theorem held_past{W:World}{B:Nat}{x:Obj}(h:W.heap[B]?=some x)(o:Obj):(W.alloc o).heap[B]?=some x:=by
 rw[Below.heap_alloc _ _ _ (Array.getElem?_eq_some_iff.1 h).1];exact h
theorem held_grown{w W:World}{B p:Nat}{x:Obj}(hg:w.grownBy W (some p))(h:w.heap[B]?=some x)(hp:B≠p):W.heap[B]?=some x:=by
 rw[hg.block B (Array.getElem?_eq_some_iff.1 h).1 (fun e=>hp (Option.some.inj e))];exact h
set_option maxRecDepth 100000 in
set_option maxHeartbeats 2000000 in
theorem c_sl08Orbit{w:World}{p:Nat}{a:Option Addr}{n c:Nat}{l:List Int}{i:Nat}(hc:IsCur w p a n c l i) :
  Calls Tryz.prog 200 #[.pointer (some ⟨p,0,none⟩)] w fun e w'=>∃ pp ss ll:Int,e=.returned (.agg #[.int .i64 pp,.int .i64 ss,.int .i64 ll])∧pp∈[1,5,9,20,50]∧(0≤ss∧ss<pp)∧(1≤ll∧ll≤pp)∧w.grownBy w' (some p)∧∃ i',IsCur w' p a n c l i':=by
 have HC:=lH hc;clear hc
 have hp:=HC.out.lt.out
 go_enter Tryz.func200,Tryz.ntmps200
 go_wp2_with (first|((with_reducible refine wp_region_later (by kernel_rfl) (by kernel_rfl) ?_);(repeat(first|go_big_quiet_step (first|fail)));refine wpQuiet_nil ?_;rintro _ ⟨x,rfl⟩))
 refine(c_sl01PickInt (xs:=[1,5,9,20,50]) ((HC.out.alloc _).alloc _) (Sl.litB (by simp) encInt_len rfl) rfl (by decide) (by decide) ?_).mono ?_
 ·intro b off h;cases h;omega
 rintro _ w1 ⟨pp,rfl,hpp,hg1,i1,hc1⟩
 have hb:1≤pp∧pp≤50:=by simp only[List.mem_cons,List.not_mem_nil,or_false]at hpp;omega
 have H1:=held_grown hg1 (held_past (held_new w (.cells #[.int .i64 0,.int .i64 0,.int .i64 0] 63)) _) (by omega)
 have G1:=grownBy_trans (grownBy_new (grownBy_new (grownBy_refl w (some p)) _) _) hg1
 have HG:=lH G1;have HP:=lH hpp;clear hg1 G1 hpp
 go_wp2_with (first|((with_reducible refine wp_region_later (by kernel_rfl) (by kernel_rfl) ?_);(repeat(first|go_big_quiet_step (first|fail)));refine wpQuiet_nil ?_;rintro _ ⟨x,rfl⟩))
 refine(c_sl01Below hc1 (by omega) (by omega)).mono ?_
 rintro _ w2 ⟨ss,rfl,hss,hg2,i2,hc2⟩
 have H2:=held_grown hg2 H1 (by omega)
 have HG2:=lH hg2;clear hg2 hc1
 go_wp2_with (first|((with_reducible refine wp_region_later (by kernel_rfl) (by kernel_rfl) ?_);(repeat(first|go_big_quiet_step (first|fail)));refine wpQuiet_nil ?_;rintro _ ⟨x,rfl⟩))
 refine(c_sl01Below hc2 (by omega) (by omega)).mono ?_
 rintro _ w3 ⟨ll,rfl,hll,hg3,i3,hc3⟩
 have H3:=held_grown hg3 H2 (by omega)
 have HG3:=lH hg3;have HC3:=lH hc3;clear hg3 hc2 hc3
 have f0:=held_cell H3 0
 have f1:=held_cell H3 1
 have f2:=held_cell H3 2
 have k0:=held_frozen H3 0
 have k1:=held_frozen H3 1
 have k2:=held_frozen H3 2
 simp only[List.getElem?_toArray,List.getElem?_cons_zero,List.getElem?_cons_succ]at f0 f1 f2
 have HH:=lH (And.intro H1 (And.intro H2 H3));clear H1 H2 H3 HH
 go_wp2_with (first|((with_reducible refine wp_region_later (by kernel_rfl) (by kernel_rfl) ?_);(repeat(first|go_big_quiet_step (first|fail)));refine wpQuiet_nil ?_;rintro _ ⟨x,rfl⟩))
 refine bodyPost_ret (v:=.agg #[.int .i64 pp,.int .i64 ss,.int .i64 (1+ll)]) ?_ rfl ⟨pp,ss,1+ll,rfl,HP.out,hss,by omega,?_,i3,((HC3.out.put hp _ _).put hp _ _).put hp _ _⟩
 ·simp[results,Tryz.results200,go_sem,f0,f1,f2]
 ·exact grownBy_put (grownBy_put (grownBy_put (grownBy_trans (grownBy_trans HG.out HG2.out) HG3.out) (Nat.le_refl _) _ _) (Nat.le_refl _) _ _) (Nat.le_refl _) _ _
theorem wpList_app1B{α:Type}{enc:α→List Value}{T size:Nat}{P:Program}{ops:Array Oper}{rest:List Oper}{o:Oper}{a:Act}{Q:Exit→Act→World→Prop}{B:Nat}{W:World}{T1:TypeId}{cs:Array Value}{t:TypeId}{bytes:Nat}{z:Value}(y:α)
  (hgd:o.guard=none) (s x:Operand) (ho:o.op=.call { callee:=.builtin .append,args:=#[s,x],argTypes:=#[t,t] })
  (ht:P.underlying t=some (.slice T)) (hinfo:(P.info? T).map (fun i=>(i.zero,i.size,i.bytes))=some (some z,size,bytes)) (hzs:z.cells.size=size) (hsz:0<size) (hby:bytes≤1000)
  {l:List α} {n:Nat} {sa:Option Addr} {sc:Nat} (hs:a.eval s=.slice sa n sc) (hx:a.eval x=.slice (some ⟨W.heap.size,0,none⟩) 1 1) (hn:l.length=n) (hown:Own enc T size B W sa sc l)
  (hy:cs.toList=enc y) (h1:∀ u∈enc y,u.oneCell'=true) (hb:n≤1000000000) (hB:B≤W.heap.size)
  (h:∀ (sa':Option Addr) (sc':Nat) (w':World),Own enc T size B w' sa' sc' (l++[y])→W.grownBy w' (Value.ownBlock (.slice sa n sc))→wpList P ops Q rest (a.put o.dst (.slice sa' (n+1) sc')) w') :
  wpList P ops Q (o::rest) a (W.alloc (.cells cs T1)):=by
 obtain⟨i,hi,h3⟩:=Option.map_eq_some_iff.1 hinfo
 simp only[Prod.mk.injEq]at h3
 obtain⟨h4,h5,h6⟩:=h3
 subst hn
 have hb':(l.length+1)*bytes≤140737488355328:=by
  have:(l.length+1)*bytes≤(l.length+1)*1000:=Nat.mul_le_mul_left _ hby
  omega
 have hnl:(enc y).length=1*size:=by rw[hown.1];omega
 refine wpList_append_own (a:=a) (w:=W.alloc (.cells cs T1)) hgd s x t ho B T i z size bytes ht hi h4 h5 h6 hzs hsz _ l.length (l.flatMap enc) hs (hown.2.alloc _) ⟨W.heap.size,0,none⟩ 1 1 (enc y) hx hnl
  (fun j u hj=>by rw[cells_new,← Array.getElem?_toList,hy];exact hj) h1 (by unfold maxLen;omega) hb' (Nat.le_trans hB (by simp)) ?_
 intro v' w' ho' hg' _
 have hf:xs_form v' (l.length+1):=by
  rcases ho'.2 with⟨hv,hn0⟩|⟨g',cap,cur,hv,-⟩
  ·omega
  ·exact⟨_,_,hv⟩
 obtain⟨sa',sc',rfl⟩:=hf
 refine h sa' sc' w' ⟨hown.1,?_⟩ ⟨hg'.os,hg'.tape,hg'.output,Nat.le_trans (by simp) hg'.size,fun k hk hr=>?_⟩
 ·rw[List.flatMap_append,List.flatMap_singleton,List.length_append,List.length_singleton];exact ho'
 ·rw[hg'.block k (by simp;omega) hr];exact Below.heap_alloc _ _ _ hk
theorem IsCur.drew{w:World}{p:Nat}{a:Option Addr}{n c:Nat}{l:List Int}{i:Nat}(h:IsCur w p a n c l i):IsCur w.drew p a n c l i:=h.kept (Nat.le_refl _) (fun _ _=>rfl)
end Go.Proofs.YtdinhfeflobafaaGreat
