/- FnStarted: whatever the code, the law holds. No condition but on the code's length. -/
import Derived.Test.YtbaffippdifbpaaGreatSM50
import Derived.Test.YtbaffippdifbpaaGreatSNewI
import Derived.Test.YtbaffippdifbpaaGreatSM45
import Derived.Test.YtbaffippdifbpaaGreatSM16
namespace Go.Proofs.YtbaffippdifbpaaGreat
set_option linter.unusedVariables false
open Go.ChangeShapes Go.WideShapes Go.ChangeAt Go.RowKit
theorem stepLoad1G{P:Program}{ops:Array Oper}{rest:List Oper}{op:Oper}{a:Act}{w:World}{Q:Exit→Act→World→Prop}(hw:Region.wanted op (yielded ops a.tmps)=true)(ty:TypeId)(x:Operand)(ho:op.op=.load ty x)(b o:Nat)(hx:a.eval x=.pointer (some ⟨b,o,none⟩)){cs:List Value}{T:TypeId}(H:Held w b cs T)(v:Value)(hv:cs[o]?=some v)
  (d:TypeDesc) (hu:P.underlying ty=some d) (hd:d.isRow=false) (h:wpList P ops Q rest (a.put op.dst v) w):wpList P ops Q (op::rest) a w :=
 wpList_step fun K hK=>st_load1 hw ty x ho b o hx H v hv d hu hd (hK _ _ h)
theorem RdS.shiftStr{B b off c:Nat}{w:World}{s:ByteArray}{r:List ByteArray}(h:RdS B w (some ⟨b,off,none⟩) c (s::r)):RdS B w (some ⟨b,off+1,none⟩) (c - 1) r:=by
 have h1:=h.1
 have h2:=h.2.1
 refine⟨by simp at h1;omega,by unfold maxLen at *;omega,(fun e=>by cases e),fun i x hx=>?_⟩
 obtain⟨b',off',vs,e,h3,h4,h5,h6⟩:=h.2.2.2 (i+1) x (by simpa using hx)
 simp only[Option.some.injEq,Addr.mk.injEq]at e
 obtain⟨rfl,rfl,-⟩:=e
 refine⟨b,off+1,vs,rfl,h3,h4,h5,fun j u hu=>?_⟩
 have h7:=h6 j u hu
 have e:off+(i+1)*(Enc.size (α:=ByteArray))+j=off+1+i*(Enc.size (α:=ByteArray))+j:=by
  have:Enc.size (α:=ByteArray)=1:=rfl
  rw[this];omega
 rwa[e]at h7
theorem plan_nil{p s l:Int}:planAll p s l []=[]:=List.eq_nil_iff_forall_not_mem.2 fun x hx=>by
 obtain⟨-,r,hr,-⟩:=plan_mem x hx
 cases hr
theorem started_ok{m:TMission}(h:isNew m):newOk m.Light m.Drift m.Orbit (planAll m.Orbit.Period m.Orbit.Start m.Orbit.Length []) m.Up m.Down 100 [] m.Space.Files=true:=by
 obtain⟨h1,h2,h3,h4,h5,h8,h9,-⟩:=h
 have hb:=newB_ok (room:=100) (L:=[]) rfl (by simp) rfl
 rw[newOk,hb,h8,newM_ok (inB_iff.2 h1) h2 h3 h4 h5 (by rw[plan_nil];simp) hb h8 (fun s hs=>Nat.le_trans (h9 s hs) (by omega))]
 rfl
theorem started_no{m:TMission}(h:isNew m):newOk m.Light m.Drift m.Orbit (planAll m.Orbit.Period m.Orbit.Start m.Orbit.Length []) m.Up m.Down 100 [] (m.Space.Files.drop 1)=false:=by
 have h8:=h.2.2.2.2.2.1
 simp[newOk,h8]
theorem started_tot{m:TMission}(h:isNew m)(fs:List ByteArray)(hf:fs.length≤8)(hs:∀ s∈fs,s.size≤70):Enc.tot (newM m.Light m.Drift m.Orbit (planAll m.Orbit.Period m.Orbit.Start m.Orbit.Length []) m.Up m.Down 100 [] fs)≤1048576:=by
 have h2:=totL_small hs
 have h3:(fs.length:Int)*((70:Nat)+1)≤8*71:=by omega
 rw[newM_tot,plan_nil]
 simp only[List.length_nil]
 omega
theorem keeps_of{B:Nat}{u v:World}(g:Grows u v):Keeps B u v:=⟨g.out.size,fun k _ h2=>g.out.block k h2⟩
def isZero(v:Value):Prop:=∃ vs2:List Value,v=.tuple #[.agg vs2.toArray,.bool false]∧vs2.length=61∧vs2.all (·.oneCell')=true∧vs2[1]?=some (.int .i64 0)
set_option maxRecDepth 100000 in
set_option maxHeartbeats 3000000 in
theorem c_lFnStarted{w:World}{a:Option Addr}{n c:Nat}{l:List Int}(hs:Sl encByte w a l)(hn:l.length=n)(hz:n≤9223372036854775807)(hby:∀ x∈l,isByte x) :
  Calls Tryz.prog 3 #[.slice a n c] w (Gives w (.bool true)):=by
 cases q0:decide (1048576<(n:Int))
 ·have hm:n≤1048576:=by have:=of_decide_eq_false q0;omega
  have HBY:=lH hby;clear hby
  go_enter Tryz.func3,Tryz.ntmps3
  go_wp2_with (first|((with_reducible refine wp_region_later (by kernel_rfl) (by kernel_rfl) ?_);(repeat(first|go_big_quiet_step (first|(go_at_call 9;exact Gives.quiet (c_lbig)))|simp only[q0]));refine wpQuiet_nil ?_;rintro _ ⟨x,rfl⟩)|(go_at_call 9;refine(c_lbig).mono ?_;rintro _ _ ⟨rfl,x,rfl⟩))
  refine(c_sDrawMission (hs.to inferInstance) hn hm HBY.out).mono ?_
  rintro _ X ⟨vs,m,u,rfl,hnew,hR,y,hy⟩
  have gX:Grows w X:=hy▸inferInstance
  clear hy
  have HV1:=lH (len_mission hR);have HV2:=lH (one_mission hR);have HNW:=lH hnew
  obtain⟨A,hvs,F⟩:=hR
  have h8:=hnew.2.2.2.2.2.1
  have hc1:=lH (show vs[1]?=some (.int .i64 m.Light)by rw[hvs];rfl)
  have hc3:=lH (show vs[3]?=some (.int .i64 m.Drift.Offset)by rw[hvs];rfl)
  have hc54:=lH (show vs[54]?=some (.slice A.a17 8 A.c17)by rw[hvs,← h8];rfl)
  have hr2:=lH (show(vs.drop 2).take 2=[.int .i64 m.Drift.Rate,.int .i64 m.Drift.Offset]by rw[hvs];rfl)
  have hr4:=lH (show(vs.drop 4).take 3=[.int .i64 m.Orbit.Period,.int .i64 m.Orbit.Start,.int .i64 m.Orbit.Length]by rw[hvs];rfl)
  have hr8:=lH (show(vs.drop 8).take 3=[.int .i64 m.Up.Seed,.int .i64 m.Up.Burst,.int .i64 m.Up.Loss]by rw[hvs];rfl)
  have hr11:=lH (show(vs.drop 11).take 3=[.int .i64 m.Down.Seed,.int .i64 m.Down.Burst,.int .i64 m.Down.Loss]by rw[hvs];rfl)
  have HF17:=lH F.q17;have HOK:=lH F.ok;have H8:=lH h8
  clear hvs F hnew h8
  go_wp2_with (first|((with_reducible refine wp_region_later (by kernel_rfl) (by kernel_rfl) ?_);(repeat(first|go_big_quiet_step (first|fail)));refine wpQuiet_nil ?_;rintro _ ⟨x,rfl⟩)|(refine stepStore2 rfl _ _ _ rfl _ 0 rfl (us:=vs) (cs2:=vs) (Held.new _ nmZ 62 _ rfl) ?ca1 ?ca2 ?ca3 ?ca4 ?ca5 (w0:=X) inferInstance LeN.out ?_;(case ca1=>rfl);(case ca2=>(rw[HV1.out];kernel_rfl));(case ca3=>exact HV2.out);(case ca4=>(rw[HV1.out];exact Nat.le_of_ble_eq_true rfl));(case ca5=>exact splice_all HV1.out);intro z1 hx kx;(have HX1:=lH hx);clear hx kx)|(refine stepLoad1 rfl _ _ rfl X.heap.size 1 rfl HX1.out (.int .i64 m.Light) hc1.out _ Tryz.underlying3 rfl ?_)|(refine stepLoad rfl _ _ rfl X.heap.size 2 rfl (row:=[.int .i64 m.Drift.Rate,.int .i64 m.Drift.Offset]) HX1.out _ Tryz.underlying25 rfl (by kernel_rfl) hr2.out ?_)|(refine stepLoad rfl _ _ rfl X.heap.size 4 rfl (row:=[.int .i64 m.Orbit.Period,.int .i64 m.Orbit.Start,.int .i64 m.Orbit.Length]) HX1.out _ Tryz.underlying27 rfl (by kernel_rfl) hr4.out ?_)|(refine stepLoad rfl _ _ rfl X.heap.size 8 rfl (row:=[.int .i64 m.Up.Seed,.int .i64 m.Up.Burst,.int .i64 m.Up.Loss]) HX1.out _ Tryz.underlying30 rfl (by kernel_rfl) hr8.out ?_)|(refine stepLoad rfl _ _ rfl X.heap.size 11 rfl (row:=[.int .i64 m.Down.Seed,.int .i64 m.Down.Burst,.int .i64 m.Down.Loss]) HX1.out _ Tryz.underlying30 rfl (by kernel_rfl) hr11.out ?_)|(refine stepLoad1 rfl _ _ rfl X.heap.size 54 rfl HX1.out (.slice A.a17 8 A.c17) hc54.out _ Tryz.underlying32 rfl ?_))
  have hok1:=started_ok HNW.out
  refine(o_iNewMission (d:=m.Drift) (o:=m.Orbit) (up:=m.Up) (down:=m.Down) (Q:=[]) (L:=[]) (fs:=m.Space.Files) (qa:=none) (qn:=0) (qc:=0) (la:=none) (ln:=0) (lc:=0) (fn:=8) (room:=100) (Bl:=0) (fun i x hx=>by simp at hx) rfl (Nat.le_refl _) (by decide) RdS.nil rfl (by decide) (HF17.out.keep inferInstance) H8.out (by decide)
   (newM_okD HOK.out.2.1 HOK.out.2.2.1 HOK.out.2.2.2.1 HOK.out.2.2.2.2.1 HOK.out.2.2.2.2.2.1 (by unfold i64;omega)) (plan_okD (fun r hr=>by cases hr)) (by rw[plan_nil];decide) (Int.le_trans (started_tot HNW.out m.Space.Files (by rw[H8.out];decide) HNW.out.2.2.2.2.2.2.1) (by decide))).mono ?_
  rintro _ Y ⟨vs1,χ1,rfl,hO1,y1,hy1⟩
  have gY:Grows z1.w Y:=hy1▸inferInstance
  have gXY:Grows X Y:=hy1▸inferInstance
  have gwY:Grows w Y:=hy1▸inferInstance
  clear hy1
  rw[hok1]
  rw[newMission,if_pos hok1,plan_nil]at hO1
  have HW1:=lH (len_mission (EncO.toRd hO1));have HW2:=lH (one_mission (EncO.toRd hO1));have HO1:=lH hO1;clear hO1 hok1
  go_wp2_with (first|((with_reducible refine wp_region_later (by kernel_rfl) (by kernel_rfl) ?_);(repeat(first|go_big_quiet_step (first|fail)));refine wpQuiet_nil ?_;rintro _ ⟨x,rfl⟩)|(refine stepStore2 rfl _ _ _ rfl _ 0 rfl (us:=vs1) (cs2:=vs1) (Held.new _ nmZ 62 _ rfl) ?cb1 ?cb2 ?cb3 ?cb4 ?cb5 (w0:=Y) inferInstance LeN.out ?_;(case cb1=>rfl);(case cb2=>(rw[HW1.out];kernel_rfl));(case cb3=>exact HW2.out);(case cb4=>(rw[HW1.out];exact Nat.le_of_ble_eq_true rfl));(case cb5=>exact splice_all HW1.out);intro z2 hx kx;(have HX2:=lH hx);clear hx kx))
  obtain⟨fb,fo,sf,hA17,hfb,hfd,-⟩:=HF17.out.slF.str (show 0<m.Space.Files.length by rw[H8.out];decide)
  obtain⟨fcap,hfc⟩:∃ c,A.c17=c:=⟨_,rfl⟩
  rw[hA17,hfc]at hc54 HF17
  have h17:=HF17.out
  rw[show m.Space.Files=sf::m.Space.Files.drop 1 from hfd.out]at h17
  have HF2:=lH h17.shiftStr;clear h17
  have hcap:8≤fcap:=by have:=HF17.out.cap;rw[H8.out]at this;exact this
  refine wp_region_stabZ (by kernel_rfl) (T:=[19,20]) (Zs:=[(17,[14])]) (H:=[(1,[]),(3,[]),(5,[]),(7,[]),(9,[]),(12,[]),(13,[]),(14,[]),(15,[14]),(16,[14]),(17,[14]),(18,[])]) (C:=[14,18]) (Fs:=[(some 34,.v (.pointer (some ⟨X.heap.size,1,none⟩))),(some 35,.v (.int .i64 m.Light)),(some 36,.v (.pointer (some ⟨X.heap.size,2,none⟩))),(some 37,.v (.agg #[.int .i64 m.Drift.Rate,.int .i64 m.Drift.Offset])),(some 38,.v (.pointer (some ⟨X.heap.size,4,none⟩))),(some 39,.v (.agg #[.int .i64 m.Orbit.Period,.int .i64 m.Orbit.Start,.int .i64 m.Orbit.Length])),(some 40,.v (.pointer (some ⟨X.heap.size,8,none⟩))),(some 41,.v (.agg #[.int .i64 m.Up.Seed,.int .i64 m.Up.Burst,.int .i64 m.Up.Loss])),(some 42,.v (.pointer (some ⟨X.heap.size,11,none⟩))),(some 43,.v (.agg #[.int .i64 m.Down.Seed,.int .i64 m.Down.Burst,.int .i64 m.Down.Loss])),(some 44,.v (.pointer (some ⟨X.heap.size,33,none⟩))),(some 45,.v (.pointer (some ⟨X.heap.size,54,none⟩))),(some 46,.v (.slice (some ⟨fb,fo,none⟩) 8 fcap)),(some 47,.v (.slice (some ⟨fb,fo+1*1,none⟩) (8 - 1) (fcap - 1))),(some 48,.is isZero),(some 33,.fn [14] one1),(some 49,.fn [14] fst2),(some 50,.fn [14] snd2),(some 7,.box z2.w.heap.size nmZ 62),(none,.v undef),(none,.v undef)]) (by kernel_rfl) (fun val W=>by kernel_rfl) ?ob ?lz ?pn ?tl9
  case ob =>
   refine⟨fun x=>?_,fun x=>?_,fun x=>?_,fun x=>?_,fun x=>?_,fun x=>?_,fun x=>?_,fun x=>?_,fun x=>?_,fun x=>?_,fun x=>?_,fun x=>?_,trivial⟩
   ·exact g_one (o:=1) (v:=.int .i64 m.Light) (HX1.out.to (inferInstance:Grows _ x.w)) rfl (by kernel_rfl) hc1.out _ Tryz.underlying3 rfl
   ·exact g_row (o:=2) (HX1.out.to (inferInstance:Grows _ x.w)) rfl (by kernel_rfl) _ Tryz.underlying25 rfl (by kernel_rfl) hr2.out
   ·exact g_row (o:=4) (HX1.out.to (inferInstance:Grows _ x.w)) rfl (by kernel_rfl) _ Tryz.underlying27 rfl (by kernel_rfl) hr4.out
   ·exact g_row (o:=8) (HX1.out.to (inferInstance:Grows _ x.w)) rfl (by kernel_rfl) _ Tryz.underlying30 rfl (by kernel_rfl) hr8.out
   ·exact g_row (o:=11) (HX1.out.to (inferInstance:Grows _ x.w)) rfl (by kernel_rfl) _ Tryz.underlying30 rfl (by kernel_rfl) hr11.out
   ·exact g_one (o:=54) (v:=.slice (some ⟨fb,fo,none⟩) 8 fcap) (HX1.out.to (inferInstance:Grows _ x.w)) rfl (by kernel_rfl) hc54.out _ Tryz.underlying32 rfl
   ·exact g_from (n:=8) (c:=fcap) (o:=fo) (j:=1) (size:=1) rfl (by kernel_rfl) Tryz.underlying32 (by kernel_rfl) (by decide) (by omega)
   ·have hno:=started_no HNW.out
    refine g_call (f:=11) (args:=[.int .i64 m.Light,.agg #[.int .i64 m.Drift.Rate,.int .i64 m.Drift.Offset],.agg #[.int .i64 m.Orbit.Period,.int .i64 m.Orbit.Start,.int .i64 m.Orbit.Length],.slice none 0 0,.agg #[.int .i64 m.Up.Seed,.int .i64 m.Up.Burst,.int .i64 m.Up.Loss],.agg #[.int .i64 m.Down.Seed,.int .i64 m.Down.Burst,.int .i64 m.Down.Loss],.int .i64 100,.slice none 0 0,.slice (some ⟨fb,fo+1,none⟩) 7 (fcap - 1)]) Tryz.func11 (by kernel_rfl) (by kernel_rfl) ((o_iNewMission (d:=m.Drift) (o:=m.Orbit) (up:=m.Up) (down:=m.Down) (Q:=[]) (L:=[]) (fs:=m.Space.Files.drop 1) (qa:=none) (qn:=0) (qc:=0) (la:=none) (ln:=0) (lc:=0) (fn:=7) (room:=100) (Bl:=0) (fun i x hx=>by simp at hx) rfl (Nat.le_refl _) (by decide) RdS.nil rfl (by decide) (HF2.out.keep (keeps_of inferInstance)) (by rw[List.length_drop,H8.out]) (by decide)
     (newM_okD HOK.out.2.1 HOK.out.2.2.1 HOK.out.2.2.2.1 HOK.out.2.2.2.2.1 HOK.out.2.2.2.2.2.1 (by unfold i64;omega)) (plan_okD (fun r hr=>by cases hr)) (by rw[plan_nil];decide) (Int.le_trans (started_tot HNW.out _ (by rw[List.length_drop,H8.out];decide) (fun s hs=>HNW.out.2.2.2.2.2.2.1 s (List.mem_of_mem_drop hs))) (by decide))).mono ?_)
    rintro _ _ ⟨vs2,χ2,rfl,hO2,y2,rfl⟩
    rw[hno]
    rw[newMission,if_neg (by rw[hno];decide)]at hO2
    exact⟨_,rfl,⟨y2,rfl⟩,vs2,rfl,len_mission (EncO.toRd hO2),one_mission (EncO.toRd hO2),by obtain⟨A2,h0,-⟩:=hO2;rw[h0];rfl⟩
   ·refine chain1 fun v14 q14=>chain0 ?_
    obtain⟨vs2,rfl,q⟩:=(show isZero v14 from q14)
    exact g_fn (k:=15) (by kernel_rfl) (by kernel_rfl)
   ·refine chain1 fun v14 q14=>chain0 ?_
    obtain⟨vs2,rfl,q⟩:=(show isZero v14 from q14)
    exact g_fn (k:=16) (by kernel_rfl) (by kernel_rfl)
   ·refine chain1 fun v14 q14=>chain0 ?_
    obtain⟨vs2,rfl,q⟩:=(show isZero v14 from q14)
    exact g_fn (k:=17) (by kernel_rfl) (by kernel_rfl)
   ·exact g_box rfl (by kernel_rfl) LeN.out
  case lz =>
   refine⟨fun W hW=>?_,trivial⟩
   refine chain1 fun v14 q14=>chain0 ?_
   obtain⟨vs2,rfl,q⟩:=(show isZero v14 from q14)
   intro W2
   kernel_rfl
  case pn=>exact fun _ _ _ _ _ _ h=>h
  case tl9 =>
   intro x
   refine chain1 fun v14 q14=>chain1 fun v18 q18=>?_
   obtain⟨vs2,rfl,hZ1,hZ2,hZ3⟩:=(show isZero v14 from q14)
   obtain⟨bz,rfl,hbz,hBz⟩:=(show ∃ b,v18=.pointer (some ⟨b,0,none⟩)∧z2.w.heap.size≤b∧Held x.w b nmZ 62 from q18)
   clear q14 q18
   refine tail2 rfl rfl ?_
   simp only[put_nrm,put_nrm2,List.map,one1,fst2,snd2]
   simp only[Act.put,List.setIfInBounds_toArray,List.set_cons_succ,List.set_cons_zero,if_true,if_false,Nat.reduceEqDiff,Nat.reduceAdd]
   have HZ3:=lH hZ3
   have hbt:boardTime m.Drift.Rate m.Drift.Offset 0=m.Drift.Offset:=bt_zero HNW.out.2.1
   obtain⟨A1,hv1,T1⟩:=HO1.out
   have k0:=lH (show vs1[0]?=some (.int .i64 0)by rw[hv1];rfl)
   have k37:=lH (show vs1[37]?=some (.int .i64 m.Drift.Offset)by rw[← hbt,hv1];rfl)
   have k7:=lH (show vs1[7]?=some (.slice A1.a0 0 A1.c0)by rw[hv1];rfl)
   have k54:=lH (show vs1[54]?=some (.slice A1.a17 8 A1.c17)by rw[hv1,← H8.out];rfl)
   have T17:Hid (∀ (W:World) [Grows Y W],Sl encStr W A1.a17 m.Space.Files):=lH (fun W g=>Sl.to T1.o17.sl g)
   have S17:Hid (∀ (W:World) [Grows X W],Sl encStr W (some ⟨fb,fo,none⟩) m.Space.Files):=lH (fun W g=>Sl.to HF17.out.slF g)
   have hmk:missionOk (newM m.Light m.Drift m.Orbit [] m.Up m.Down 100 [] m.Space.Files)=true:=by
    have h:=started_ok HNW.out
    rw[plan_nil,newOk,Bool.and_eq_true,Bool.and_eq_true]at h
    exact h.2.2
   have HLE:=lH (newM_ledger hmk)
   have HTO:=lH (started_tot HNW.out m.Space.Files (by rw[H8.out];decide) HNW.out.2.2.2.2.2.2.1)
   rw[plan_nil]at HTO
   have HRD1:=lH (EncO.toRd HO1.out)
   clear hv1 T1 hmk hbt hZ3
   go_wp2_with (first|((with_reducible refine wp_region_later (by kernel_rfl) (by kernel_rfl) ?_);(repeat(first|go_big_quiet_step (first|fail)));refine wpQuiet_nil ?_;rintro _ ⟨x,rfl⟩)|(refine stepStore2 rfl _ _ _ rfl bz 0 rfl (us:=vs2) (cs2:=vs2) hBz ?cz1 ?cz2 ?cz3 ?cz4 ?cz5 (w0:=z2.w) inferInstance hbz ?_;(case cz1=>rfl);(case cz2=>(rw[hZ1];kernel_rfl));(case cz3=>exact hZ2);(case cz4=>(rw[hZ1];exact Nat.le_of_ble_eq_true rfl));(case cz5=>exact splice_all hZ1);intro z3 hx kx;(have HX3:=lH hx);clear hx kx)|(refine stepLoad1G (by kernel_rfl) _ _ rfl (Y.heap.size) 0 rfl (HX2.out.to inferInstance) (.int .i64 0) k0.out _ Tryz.underlying3 rfl ?_)|(refine stepLoad1G (by kernel_rfl) _ _ rfl (Y.heap.size) 37 rfl (HX2.out.to inferInstance) (.int .i64 m.Drift.Offset) k37.out _ Tryz.underlying3 rfl ?_)|(refine stepLoad1G (by kernel_rfl) _ _ rfl (X.heap.size) 3 rfl (HX1.out.to inferInstance) (.int .i64 m.Drift.Offset) hc3.out _ Tryz.underlying3 rfl ?_)|(refine stepLoad1G (by kernel_rfl) _ _ rfl (Y.heap.size) 7 rfl (HX2.out.to inferInstance) (.slice A1.a0 0 A1.c0) k7.out _ Tryz.underlying28 rfl ?_)|(refine stepLoad1G (by kernel_rfl) _ _ rfl (bz) 1 rfl (HX3.out.to inferInstance) (.int .i64 0) HZ3.out _ Tryz.underlying3 rfl ?_)|(refine stepLoadG (by kernel_rfl) _ _ rfl Y.heap.size 0 rfl (row:=vs1) (HX2.out.to inferInstance) _ Tryz.underlying62 rfl (by rw[HW1.out];kernel_rfl) (by rw[List.drop_zero,List.take_length]) ?_))
   refine(c_iLedgerOk (m:=newM m.Light m.Drift m.Orbit [] m.Up m.Down 100 [] m.Space.Files) (Enc.keep HRD1.out (keeps_of inferInstance)) HTO.out).mono ?_
   rintro _ _ ⟨rfl,y9,rfl⟩
   rw[HLE.out]
   go_wp2_with (first|((with_reducible refine wp_region_later (by kernel_rfl) (by kernel_rfl) ?_);(repeat(first|go_big_quiet_step (first|fail)));refine wpQuiet_nil ?_;rintro _ ⟨x,rfl⟩)|(refine stepLoad1G (by kernel_rfl) _ _ rfl (Y.heap.size) 54 rfl (HX2.out.to inferInstance) (.slice A1.a17 8 A1.c17) k54.out _ Tryz.underlying32 rfl ?_)|(refine stepLoad1G (by kernel_rfl) _ _ rfl (X.heap.size) 54 rfl (HX1.out.to inferInstance) (.slice (some ⟨fb,fo,none⟩) 8 fcap) hc54.out _ Tryz.underlying32 rfl ?_))
   refine(c_lsameTexts (l:=m.Space.Files) (T17.out _) (S17.out _) H8.out (by decide)).mono ?_
   rintro _ _ ⟨rfl,y10,rfl⟩
   go_wp2_with (first|((with_reducible refine wp_region_later (by kernel_rfl) (by kernel_rfl) ?_);(repeat(first|go_big_quiet_step (first|fail)));refine wpQuiet_nil ?_;rintro _ ⟨x,rfl⟩))
   go_ret
   exact Gives.mk rfl
 ·go_enter Tryz.func3,Tryz.ntmps3
  go_wp2_with (first|((with_reducible refine wp_region_later (by kernel_rfl) (by kernel_rfl) ?_);(repeat(first|go_big_quiet_step (first|(go_at_call 9;exact Gives.quiet (c_lbig)))|simp only[q0]));refine wpQuiet_nil ?_;rintro _ ⟨x,rfl⟩)|(go_at_call 9;refine(c_lbig).mono ?_;rintro _ _ ⟨rfl,x,rfl⟩))
  go_ret
  exact Gives.mk rfl
end Go.Proofs.YtbaffippdifbpaaGreat
