/- SendUp of the program while nothing is seen. No condition but on sizes. -/
import Derived.Test.YtdinhfeflobafaaGreatSM39
import Derived.Test.YtdinhfeflobafaaGreatSM19
import Derived.Test.YtdinhfeflobafaaGreatSM27
import Derived.Test.YtdinhfeflobafaaGreatSM35
import Derived.Deep.CutRange
namespace Go.Proofs.YtdinhfeflobafaaGreat
set_option linter.unusedVariables false
open Go.ChangeShapes Go.WideShapes Go.ChangeAt Go.RowKit
theorem gKeeps{B:Nat}{u v:World}(g:Grows u v):Keeps B u v:=⟨g.out.size,fun k _ h2=>g.out.block k h2⟩
def gFst:List Value→Value
 | [.tuple t]=>t.getD 0 undef
 | _=>undef
def gSnd:List Value→Value
 | [.tuple t]=>t.getD 1 undef
 | _=>undef
def gOne:List Value→Value
 | [v]=>v
 | _=>undef
def isOB{α:Type}[E:OBox α](B:Nat)(x:α)(b:Bool)(v:Value)(w:World):Prop:=∃ (vs:List Value) (χ:Nat→Col),v=.tuple #[.agg vs.toArray,.bool b]∧E.O B χ 0 w vs x
def entOB{α:Type}[E:OBox α](B:Nat)(x:α)(b:Bool):Ent Gr:=.of (isOB B x b) (fun _ _ _ g ⟨vs,χ,e,h⟩=>⟨vs,χ,e,E.map h (.to ⟨g⟩)⟩)
def cellLen(w:World)(b o:Nat):Nat:=match w.cell? ⟨b,o,none⟩with|some (.slice _ n _)=>n|_=>0
theorem cellLen_eq{w:World}{b o n c:Nat}{a:Option Addr}(h:w.cell? ⟨b,o,none⟩=some (.slice a n c)):cellLen w b o=n:=by rw[cellLen,h]
theorem offered_at{m:TMission}{q:List ByteArray × TSender × List ByteArray}(h:offerGo q.1 q.2.1 q.2.2=offerGo m.Ground.Offers m.Ground.Sender m.Offered)(hq:q.1=[]∨∃ d r,q.1=d::r∧(offerCmd q.2.1 d).2=false):offeredM m=upM m q:=by
 obtain⟨of,sd,od⟩:=q
 rw[offeredM,← h]
 rcases hq with rfl|⟨d,r,rfl,hb⟩
 ·rfl
 ·simp only at hb;simp only[offerGo,hb];rfl
theorem gb_cells{X:Nat→Prop}{B b:Nat}{w:World}{m:TMission}(h:GB X B b w m):∃ (vs:List Value) (A:TMissionA),Held w b vs 90∧vs=(dMission m A)∧TMissionF B w A m:=by
 obtain⟨vs,hH,-,-,⟨A,hv,F⟩,-⟩:=h.vs
 exact⟨vs,A,hH,hv,F⟩
set_option maxRecDepth 100000 in
set_option maxHeartbeats 4000000 in
theorem o_iSendUp0{B:Nat}{vs:List Value}{m:TMission}{w:World}(h:Enc.Rd B w vs m)(ht:Enc.tot m≤100000000)(ht5:Enc.tot m≤20000000)(h0:visible m.Orbit.Period m.Orbit.Start m.Orbit.Length m.Time=false) :
  Calls Tryz.prog 14 #[.agg vs.toArray] w (GivesO w (sendUp0 m)):=by
 have HT5:=lH ht5;clear ht5
 have HL:=lH (len_mission h)
 have HM:=lH h;clear h
 have HT:=lH ht;clear ht
 have HB:=lH ((Held.new w vs 90 w.heap.size rfl).to (inferInstance:Grows _ ((w.alloc (.cells vs.toArray 90)).alloc (.cells zMission.toArray 90))))
 have HR:=lH (Held.new (w.alloc (.cells vs.toArray 90)) zMission 90 (w.heap.size+1) (by simp))
 have gW:Grows w ((w.alloc (.cells vs.toArray 90)).alloc (.cells zMission.toArray 90)):=inferInstance
 have hsz:((w.alloc (.cells vs.toArray 90)).alloc (.cells zMission.toArray 90)).heap.size=w.heap.size+2:=by simp
 go_enter Tryz.func14,Tryz.ntmps14
 go_upto_region 1 with(first|((with_reducible refine wp_region_later (by kernel_rfl) (by kernel_rfl) ?_);(repeat(first|go_big_quiet_step (first|fail)));refine wpQuiet_nil ?_;rintro _ ⟨x,rfl⟩))
 generalize ((w.alloc (.cells vs.toArray 90)).alloc (.cells zMission.toArray 90))=W2 at HB HR gW hsz ⊢
 have iB:LtN w.heap.size W2.heap.size:=⟨by omega⟩
 have iR:LtN (w.heap.size+1) W2.heap.size:=⟨by omega⟩
 have hW2:w.heap.size≤W2.heap.size:=by omega
 go_wp2_with (first|(refine stepLoad rfl _ (.tmp 1) rfl (w.heap.size) 0 (by kernel_rfl) (row:=vs) (HB.out.to inferInstance) _ Tryz.underlying90 rfl (by rw[HL.out];kernel_rfl) (by rw[List.drop_zero,List.take_length]) ?_))
 refine(o_cloneMission (x:=m) (Enc.keep HM.out inferInstance) HT.out).mono ?_
 rintro _ _ ⟨cs,χ,rfl,hO,y1,rfl⟩
 have HLC:=lH (len_mission (EncO.toRd hO));have HOC:=lH (one_mission (EncO.toRd hO));have HO:=lH hO;clear hO
 go_upto_region 2 with(first|((with_reducible refine wp_region_later (by kernel_rfl) (by kernel_rfl) ?_);(repeat(first|go_big_quiet_step (first|fail)));refine wpQuiet_nil ?_;rintro _ ⟨x,rfl⟩)|(refine stepStore2 rfl _ _ _ rfl _ 0 rfl (us:=cs) (cs2:=cs) (Held.new _ zMission 90 _ rfl) ?a11 ?a12 ?a13 ?a14 ?a15 (w0:=W2) inferInstance LeN.out ?_;(case a11=>rfl);(case a12=>(rw[HLC.out];kernel_rfl));(case a13=>exact HOC.out);(case a14=>(rw[HLC.out];exact Nat.le_of_ble_eq_true rfl));(case a15=>exact splice_all HLC.out);intro z1 hx kx;have HX1:=lH hx;clear hx;have KX1:=lH kx;clear kx))
 (try simp only[Act.put])
 obtain⟨qb,hqb⟩:∃ qb,y1.w.heap.size=qb:=⟨_,rfl⟩
 rw[hqb]
 have HG:=lH (show GB (fun _=>False) W2.heap.size qb z1.w m from hqb▸GB.of HO.out (KX1.out.under inferInstance (Nat.le_refl _)) y1.size_le HX1.out)
 have hqB:W2.heap.size≤qb:=HG.out.le
 have hqlt:LtN qb z1.w.heap.size:=⟨HG.out.lt⟩
 clear hqb HX1 KX1 HO HLC HOC
 go_wp2_with (first|(refine stepLoad rfl _ (.tmp 1) rfl (w.heap.size) 0 (by kernel_rfl) (row:=vs) (HB.out.to inferInstance) _ Tryz.underlying90 rfl (by rw[HL.out];kernel_rfl) (by rw[List.drop_zero,List.take_length]) ?_))
 refine(c_iMissionOk (m:=m) (Enc.keep HM.out inferInstance) HT.out).mono ?_
 rintro _ _ ⟨rfl,y2,rfl⟩
 cases hv:missionOk m
 ·obtain⟨vs9,hH9,hl9,h19,-,χ9,hO9⟩:=HG.out.vs
  have HH9:=lH hH9;have HO9:=lH hO9;have H19:=lH h19;have HL9:=lH (show vs9.length=61 from hl9)
  clear hO9 hH9 h19 hl9
  go_wp2_with (first|(refine stepLoad rfl _ (.tmp 3) rfl (qb) 0 (by kernel_rfl) (row:=vs9) (HH9.out.to inferInstance) _ Tryz.underlying90 rfl (by rw[HL9.out];kernel_rfl) (by rw[List.drop_zero,List.take_length]) ?_)|(refine stepStore2 rfl _ _ _ rfl (w.heap.size+1) 0 rfl (us:=vs9) (cs2:=vs9) (HR.out.to inferInstance) ?a91 ?a92 ?a93 ?a94 ?a95 (w0:=w) inferInstance (by omega) ?_;(case a91=>rfl);(case a92=>(rw[HL9.out];kernel_rfl));(case a93=>exact H19.out);(case a94=>(rw[HL9.out];exact Nat.le_of_ble_eq_true rfl));(case a95=>exact splice_all HL9.out);intro z9 hx kx;have HX9:=lH hx;clear hx;have KX9:=lH kx;clear kx))
  refine bodyPost_ret (v:=.agg vs9.toArray) (results_cell (P:=Tryz.prog) rfl rfl HX9.out _ Tryz.underlying90 rfl (by rw[HL9.out];kernel_rfl)) rfl ?_
  rw[show sendUp0 m=m by rw[sendUp0,if_neg (by rw[hv];decide)]]
  exact⟨vs9,χ9,rfl,obox_fin (obox_to HO9.out inferInstance) KX9.out (show w.heap.size+1<W2.heap.size by omega) hW2,Later.of⟩
 ·have HSU:=lH (show sendUp0 m=offeredM m by rw[sendUp0,if_pos hv])
  clear hv
  go_wp2_with fail
  go_loopw [] (fun wr=>∃ q:List ByteArray × TSender × List ByteArray,Hid (offerGo q.1 q.2.1 q.2.2=offerGo m.Ground.Offers m.Ground.Sender m.Offered)∧Hid (2*totL q.1+Enc.tot q.2.1+totL q.2.2≤2*Enc.tot m)∧Hid (GB (fun _=>False) W2.heap.size qb wr (upM m q))∧∃ y:Later W2,wr=y.w) (fun wr=>cellLen wr qb 16)
  case atStart=>exact⟨(m.Ground.Offers,m.Ground.Sender,m.Offered),rfl,(by have h1:=offers_le m;have h2:=Enc.tot_nonneg m;show _≤_;simp only;omega),HG.out.to inferInstance,Later.of⟩
  case round =>
   obtain⟨⟨of,sd,od⟩,HQ,HTT,HGR,y,rfl⟩:=hrel
   obtain⟨oa,oc,eo,hown,hgood,-⟩:=HGR.out.own mGOffers
   cases of with
   | nil =>
    have eo2:∀ (W:World) [Grows y.w W],W.cell? ⟨qb,16,none⟩=some (.slice oa 0 oc):=fun W g=>eo W
    clear eo
    obtain⟨vs6,A6,hV6,hvs6,-⟩:=gb_cells HGR.out
    have HV7:=lH hV6
    have HR4:=lH (show(vs6.drop 4).take 3=[.int .i64 m.Orbit.Period,.int .i64 m.Orbit.Start,.int .i64 m.Orbit.Length]by rw[hvs6];rfl)
    have HR0:=lH (show vs6[0]?=some (.int .i64 m.Time)by rw[hvs6];rfl)
    clear hV6 hvs6
    obtain⟨vs7,hH7,hl7,h17,-,χ7,hO7⟩:=HGR.out.vs
    have HH7:=lH hH7;have HO7:=lH hO7;have H17:=lH h17;have HL7:=lH (show vs7.length=61 from hl7)
    clear hO7 hH7 h17 hl7
    go_wp2_with (first|(refine stepLoad rfl _ (.tmp 62) rfl (qb) 4 (by kernel_rfl) (row:=[.int .i64 m.Orbit.Period,.int .i64 m.Orbit.Start,.int .i64 m.Orbit.Length]) (HV7.out.to inferInstance) _ Tryz.underlying63 rfl (by kernel_rfl) HR4.out ?_)|(refine stepLoad1 rfl _ (.tmp 64) rfl (qb) 0 (by kernel_rfl) (HV7.out.to inferInstance) (.int .i64 m.Time) HR0.out _ Tryz.underlying3 rfl ?_))
    refine(c_iVisible).mono ?_
    rintro _ _ ⟨rfl,y3,rfl⟩
    rw[h0]
    go_wp2_with (first|(refine stepLoad rfl _ (.tmp 3) rfl (qb) 0 (by kernel_rfl) (row:=vs7) (HH7.out.to inferInstance) _ Tryz.underlying90 rfl (by rw[HL7.out];kernel_rfl) (by rw[List.drop_zero,List.take_length]) ?_)|(refine stepStore2 rfl _ _ _ rfl (w.heap.size+1) 0 rfl (us:=vs7) (cs2:=vs7) (HR.out.to inferInstance) ?a71 ?a72 ?a73 ?a74 ?a75 (w0:=w) inferInstance (by omega) ?_;(case a71=>rfl);(case a72=>(rw[HL7.out];kernel_rfl));(case a73=>exact H17.out);(case a74=>(rw[HL7.out];exact Nat.le_of_ble_eq_true rfl));(case a75=>exact splice_all HL7.out);intro z7 hx kx;have HX7:=lH hx;clear hx;have KX7:=lH kx;clear kx))
    refine bodyPost_ret (v:=.agg vs7.toArray) (results_cell (P:=Tryz.prog) rfl rfl HX7.out _ Tryz.underlying90 rfl (by rw[HL7.out];kernel_rfl)) rfl ?_
    rw[HSU.out,offered_at (q:=([],sd,od)) HQ.out (.inl rfl)]
    exact⟨vs7,χ7,rfl,obox_fin (obox_to HO7.out inferInstance) KX7.out (show w.heap.size+1<W2.heap.size by omega) hW2,Later.of⟩
   | cons ss rs =>
    obtain⟨fl,hfl⟩:∃ k,rs.length=k:=⟨_,rfl⟩
    have eo1:∀ (W:World) [Grows y.w W],W.cell? ⟨qb,16,none⟩=some (.slice oa (fl+1) oc):=fun W g=>hfl▸eo W
    have HEO:=lH (eo y.w);have HFL:=lH hfl
    have hfb:fl+1≤100000000:=by have h1:=HTT.out;have h2:=totL_len (ss::rs);have h3:=totL_nonneg od;have h4:=Enc.tot_nonneg sd;have h5:=HT5.out;simp only[List.length_cons,hfl]at h1 h2;omega
    obtain⟨ob,oo,s0,rfl,hob,hod,hd0⟩:=(Own.sl hown).str (show 0<(ss::rs).length from Nat.succ_pos _)
    obtain rfl:s0=ss:=by have h9:ss::rs=s0::rs:=hod.out;injection h9 with h9;exact h9.symm
    have eo2:=eo1
    have hdz:s0.size≤9223372036854775807:=hgood s0 (List.mem_cons_self ..)
    obtain⟨vs5,A,hV5,hvs5,F⟩:=gb_cells HGR.out
    have HV:=lH hV5
    have HR17:=lH (show(vs5.drop 17).take 4=[.int .i64 sd.Next,.int .i64 sd.Window,.slice A.a4 sd.Waiting.length A.c4,.int .i64 sd.Done]by rw[hvs5];rfl)
    have F4:=lH F.q4;have OKS:=lH (show okDTSender sd from F.ok.2.2.2.2.2.2.1.1)
    have HTS:=lH (show Enc.tot sd≤50000000 by have h1:=HTT.out;have h2:=totL_nonneg (s0::rs);have h3:=totL_nonneg od;have h4:=HT5.out;simp only at h1;omega)
    clear eo eo1 hV5 hvs5 F hgood hown hod hfl
    go_upto_region 6 with(first|((with_reducible refine wp_region_later (by kernel_rfl) (by kernel_rfl) ?_);(repeat(first|go_big_quiet_step (first|fail)));refine wpQuiet_nil ?_;rintro _ ⟨x,rfl⟩))
    refine wp_region_stabZ (by kernel_rfl) (T:=[15,16]) (Zs:=[(13,[10])]) (H:=[(3,[]),(7,[]),(8,[]),(9,[]),(10,[]),(11,[10]),(12,[10]),(13,[10]),(14,[])]) (C:=[10,14]) (Fs:=[(some 24,.v (.pointer (some ⟨qb,16,none⟩))),(some 25,.v (.pointer (some ⟨qb,16,none⟩))),(some 26,.v (.pointer (some ⟨qb,17,none⟩))),(some 27,.v (.agg #[.int .i64 sd.Next,.int .i64 sd.Window,.slice A.a4 sd.Waiting.length A.c4,.int .i64 sd.Done])),(some 28,.v (.pointer (some ⟨qb,16,none⟩))),(some 29,.v (.pointer (some ⟨qb,16,none⟩))),(some 30,.v (.pointer (some ⟨qb,16,none⟩))),(some 31,.v (.slice (some ⟨ob,oo,none⟩) (fl+1) oc)),(some 32,.v (.pointer (some ⟨ob,oo+0*1,none⟩))),(some 33,.v (.string s0)),(some 34,entOB y.w.heap.size (offerCmd sd s0).1 (offerCmd sd s0).2),(some 23,.fn [10] gOne),(some 35,.fn [10] gFst),(some 36,.fn [10] gSnd),(some 5,.box y.w.heap.size [.int .i64 0,.int .i64 0,.slice none 0 0,.int .i64 0] 69),(none,.v undef),(none,.v undef)]) (by kernel_rfl) (fun val W=>by kernel_rfl) ?ob6 ?lz6 ?pn6 ?tl6
    case ob6 =>
     refine⟨fun x=>?_,fun x=>?_,fun x=>?_,fun x=>?_,fun x=>?_,fun x=>?_,fun x=>?_,fun x=>?_,fun x=>?_,trivial⟩
     ·exact g_row (o:=17) (HV.out.to (inferInstance:Grows y.w x.w)) rfl (by kernel_rfl) _ Tryz.underlying69 rfl (by kernel_rfl) HR17.out
     ·exact g_cell (eo2 x.w) rfl (by kernel_rfl) _ Tryz.underlying30 rfl
     ·exact g_ix (size:=1) (o:=oo) (j:=0) (n:=fl+1) (c:=oc) rfl (by kernel_rfl) Tryz.underlying30 (by kernel_rfl) (Nat.succ_pos _)
     ·exact g_cell (hd0 x.w) rfl (by kernel_rfl) _ Tryz.underlying9 rfl
     ·refine g_call (f:=72) (args:=[.agg #[.int .i64 sd.Next,.int .i64 sd.Window,.slice A.a4 sd.Waiting.length A.c4,.int .i64 sd.Done],.string s0]) Tryz.func72 (by kernel_rfl) (by kernel_rfl) ((o_iOfferCommand (B:=W2.heap.size) (s:=sd) ⟨A.a4,A.c4,rfl,F4.out.keep (gKeeps (inferInstance:Grows y.w x.w)),OKS.out⟩ hdz HTS.out).mono ?_)
      rintro _ _ ⟨vs2,χ2,rfl,hO2,y2,rfl⟩
      exact⟨_,rfl,⟨y2,rfl⟩,vs2,χ2,rfl,OBox.map hO2 (.mono x.size_le)⟩
     ·refine chain1 fun v10 q10=>chain0 ?_
      obtain⟨vs2,χ2,rfl,q⟩:=(show isOB y.w.heap.size (offerCmd sd s0).1 (offerCmd sd s0).2 v10 x.w from q10)
      exact g_fn (k:=11) (by kernel_rfl) (by kernel_rfl)
     ·refine chain1 fun v10 q10=>chain0 ?_
      obtain⟨vs2,χ2,rfl,q⟩:=(show isOB y.w.heap.size (offerCmd sd s0).1 (offerCmd sd s0).2 v10 x.w from q10)
      exact g_fn (k:=12) (by kernel_rfl) (by kernel_rfl)
     ·refine chain1 fun v10 q10=>chain0 ?_
      obtain⟨vs2,χ2,rfl,q⟩:=(show isOB y.w.heap.size (offerCmd sd s0).1 (offerCmd sd s0).2 v10 x.w from q10)
      exact g_fn (k:=13) (by kernel_rfl) (by kernel_rfl)
     ·exact g_box rfl (by kernel_rfl) LeN.out
    case lz6 =>
     refine⟨fun W hW=>?_,trivial⟩
     refine chain1 fun v10 q10=>chain0 ?_
     obtain⟨vs2,χ2,rfl,q⟩:=(show isOB y.w.heap.size (offerCmd sd s0).1 (offerCmd sd s0).2 v10 W from q10)
     intro W3
     kernel_rfl
    case pn6=>exact fun _ _ _ _ _ _ h=>h
    case tl6 =>
     intro x
     refine chain1 fun v10 q10=>chain1 fun v14 q14=>?_
     obtain⟨vs2,χ2,rfl,hO2⟩:=(show isOB y.w.heap.size (offerCmd sd s0).1 (offerCmd sd s0).2 v10 x.w from q10)
     obtain⟨bz,rfl,hbz,hBz⟩:=(show ∃ b,v14=.pointer (some ⟨b,0,none⟩)∧y.w.heap.size≤b∧Held x.w b [.int .i64 0,.int .i64 0,.slice none 0 0,.int .i64 0] 69 from q14)
     clear q10 q14
     refine tail2 rfl rfl ?_
     simp only[put_nrm,put_nrm2,List.map,gOne,gFst,gSnd]
     simp only[Act.put,List.setIfInBounds_toArray,List.set_cons_succ,List.set_cons_zero,if_true,if_false,Nat.reduceEqDiff,Nat.reduceAdd]
     have HL2:=lH (os_len (EncO.toRd hO2));have H12:=lH (os_one (EncO.toRd hO2))
     go_upto_region 7 with(first|((with_reducible refine wp_region_later (by kernel_rfl) (by kernel_rfl) ?_);(repeat(first|go_big_quiet_step (first|fail)));refine wpQuiet_nil ?_;rintro _ ⟨x,rfl⟩)|(refine stepStore2 rfl _ (.tmp 5) (.tmp 35) rfl (bz) 0 rfl (us:=vs2) (cs2:=vs2) (hBz) ?a51 ?a52 ?a53 ?a54 ?a55 (w0:=y.w) inferInstance hbz ?_;(case a51=>rfl);(case a52=>(rw[HL2.out];kernel_rfl));(case a53=>exact H12.out);(case a54=>(rw[HL2.out];exact Nat.le_of_ble_eq_true rfl));(case a55=>exact splice_all HL2.out);intro z5 hx kx;have HX5:=lH hx;clear hx;have KX5:=lH kx;clear kx))
     (try simp only[Act.put])
     have HO5:=lH (show EncO.O y.w.heap.size χ2 0 z5.w vs2 (offerCmd sd s0).1 by obtain⟨a0,c0,rfl,k⟩:=hO2;exact⟨a0,c0,rfl,⟨k.o0.own.at hBz (by decide) (KX5.out.grown1 (inferInstance:Grows y.w x.w)),k.o0.col,k.o0.good⟩,k.ok⟩)
     have hbz5:LtN bz z5.w.heap.size:=HX5.out.ltN
     clear hO2 hBz KX5
     cases hb:(offerCmd sd s0).2
     ·obtain⟨vs6,A6,hV6,hvs6,-⟩:=gb_cells HGR.out
      have HV7:=lH hV6
      have HR4:=lH (show(vs6.drop 4).take 3=[.int .i64 m.Orbit.Period,.int .i64 m.Orbit.Start,.int .i64 m.Orbit.Length]by rw[hvs6];rfl)
      have HR0:=lH (show vs6[0]?=some (.int .i64 m.Time)by rw[hvs6];rfl)
      clear hV6 hvs6
      obtain⟨vs7,hH7,hl7,h17,-,χ7,hO7⟩:=HGR.out.vs
      have HH7:=lH hH7;have HO7:=lH hO7;have H17:=lH h17;have HL7:=lH (show vs7.length=61 from hl7)
      clear hO7 hH7 h17 hl7
      go_wp2_with (first|(refine stepLoad rfl _ (.tmp 62) rfl (qb) 4 (by kernel_rfl) (row:=[.int .i64 m.Orbit.Period,.int .i64 m.Orbit.Start,.int .i64 m.Orbit.Length]) (HV7.out.to inferInstance) _ Tryz.underlying63 rfl (by kernel_rfl) HR4.out ?_)|(refine stepLoad1 rfl _ (.tmp 64) rfl (qb) 0 (by kernel_rfl) (HV7.out.to inferInstance) (.int .i64 m.Time) HR0.out _ Tryz.underlying3 rfl ?_))
      refine(c_iVisible).mono ?_
      rintro _ _ ⟨rfl,y3,rfl⟩
      rw[h0]
      go_wp2_with (first|(refine stepLoad rfl _ (.tmp 3) rfl (qb) 0 (by kernel_rfl) (row:=vs7) (HH7.out.to inferInstance) _ Tryz.underlying90 rfl (by rw[HL7.out];kernel_rfl) (by rw[List.drop_zero,List.take_length]) ?_)|(refine stepStore2 rfl _ _ _ rfl (w.heap.size+1) 0 rfl (us:=vs7) (cs2:=vs7) (HR.out.to inferInstance) ?a71 ?a72 ?a73 ?a74 ?a75 (w0:=w) inferInstance (by omega) ?_;(case a71=>rfl);(case a72=>(rw[HL7.out];kernel_rfl));(case a73=>exact H17.out);(case a74=>(rw[HL7.out];exact Nat.le_of_ble_eq_true rfl));(case a75=>exact splice_all HL7.out);intro z7 hx kx;have HX7:=lH hx;clear hx;have KX7:=lH kx;clear kx))
      refine bodyPost_ret (v:=.agg vs7.toArray) (results_cell (P:=Tryz.prog) rfl rfl HX7.out _ Tryz.underlying90 rfl (by rw[HL7.out];kernel_rfl)) rfl ?_
      rw[HSU.out,offered_at (q:=(s0::rs,sd,od)) HQ.out (.inr ⟨s0,rs,rfl,hb⟩)]
      exact⟨vs7,χ7,rfl,obox_fin (obox_to HO7.out inferInstance) KX7.out (show w.heap.size+1<W2.heap.size by omega) hW2,Later.of⟩
     ·have HQ8:=lH (GBq.new (D:=mSender) HGR.out (inferInstance:Grows y.w z5.w) HO5.out)
      go_upto_region 9 with(first|((with_reducible refine wp_region_later (by kernel_rfl) (by kernel_rfl) ?_);(repeat(first|go_big_quiet_step (first|fail)));refine wpQuiet_nil ?_;rintro _ ⟨x,rfl⟩)|(refine stepLoad rfl _ (.tmp 5) rfl bz 0 (by kernel_rfl) (row:=vs2) (HX5.out.to inferInstance) _ Tryz.underlying69 rfl (by rw[HL2.out];kernel_rfl) (by rw[List.drop_zero,List.take_length]) ?_)|(refine step_gbD rfl _ (.tmp 42) (.tmp 40) rfl HQ8.out rfl rfl (by rw[HL2.out];kernel_rfl) (w0:=W2) inferInstance (Nat.le_refl _) ?_;intro z6 hz6 hX6))
      (try simp only[Act.put])
      clear hd0 eo2 hX6
      have HZ6:=lH (show GB (fun _=>False) W2.heap.size qb z6.w (upM m (s0::rs,(offerCmd sd s0).1,od))from hz6)
      clear hz6
      obtain⟨oa6,oc6,eo6,hown6,hgood6,-⟩:=HZ6.out.own mGOffers
      obtain⟨va,vc,ev6,hownv,-,-⟩:=HZ6.out.own mOffered
      have HEV:=lH (ev6 z6.w)
      obtain⟨vn,hvn⟩:∃ k,od.length=k:=⟨_,rfl⟩
      have HVN:=lH hvn
      have hvb:vn≤1000000000:=by have h1:=HTT.out;have h2:=totL_nonneg (s0::rs);have h3:=totL_len od;have h4:=HT5.out;have h5:=Enc.tot_nonneg sd;simp only at h1;omega
      have ev7:∀ (W:World) [Grows z6.w W],W.cell? ⟨qb,58,none⟩=some (.slice va vn vc):=fun W g=>hvn▸ev6 W
      have eo7:∀ (W:World) [Grows z6.w W],W.cell? ⟨qb,16,none⟩=some (.slice oa6 (fl+1) oc6):=fun W g=>HFL.out▸eo6 W
      obtain⟨ob6,oo6,s6,rfl,hob6,hod6,hd6⟩:=(Own.sl hown6).str (show 0<(s0::rs).length from Nat.succ_pos _)
      obtain rfl:s6=s0:=by have h9:s0::rs=s6::rs:=hod6.out;injection h9 with h9;exact h9.symm
      clear eo6 ev6 hvn hod6 hown6
      refine wp_region_stabZ (by kernel_rfl) (T:=[9,10,11]) (Zs:=[]) (H:=[(1,[]),(5,[]),(6,[]),(7,[]),(8,[])]) (C:=[8]) (Fs:=[(some 43,.v (.pointer (some ⟨qb,58,none⟩))),(some 44,.v (.slice va vn vc)),(some 45,.v (.pointer (some ⟨qb,16,none⟩))),(some 46,.v (.pointer (some ⟨qb,16,none⟩))),(some 47,.v (.pointer (some ⟨qb,16,none⟩))),(some 48,.v (.slice (some ⟨ob6,oo6,none⟩) (fl+1) oc6)),(some 49,.v (.pointer (some ⟨ob6,oo6+0*1,none⟩))),(some 50,.v (.string s6)),(some 51,.sl z6.w.heap.size 1 [.string s6] 9),(none,.v undef),(none,.v undef),(none,.v undef)]) (by kernel_rfl) (fun val W=>by kernel_rfl) ?ob9 ?lz9 ?pn9 ?tl9
      case ob9 =>
       refine⟨fun x=>?_,fun x=>?_,fun x=>?_,fun x=>?_,fun x=>?_,trivial⟩
       ·exact g_cell (ev7 x.w) rfl (by kernel_rfl) _ Tryz.underlying30 rfl
       ·exact g_cell (eo7 x.w) rfl (by kernel_rfl) _ Tryz.underlying30 rfl
       ·exact g_ix (size:=1) (o:=oo6) (j:=0) (n:=fl+1) (c:=oc6) rfl (by kernel_rfl) Tryz.underlying30 (by kernel_rfl) (Nat.succ_pos _)
       ·exact g_cell (hd6 x.w) rfl (by kernel_rfl) _ Tryz.underlying9 rfl
       ·exact g_sl rfl (by kernel_rfl) LeN.out
      case lz9 =>
       exact trivial
      case pn9=>exact fun _ _ _ _ _ _ h=>h
      case tl9 =>
       intro x
       refine chain1 fun v8 q8=>?_
       obtain⟨bs,rfl,hbs,hH⟩:=(show ∃ b,v8=.slice (some ⟨b,0,none⟩) 1 1∧z6.w.heap.size≤b∧Held x.w b [.string s6] 9 from q8)
       clear q8
       refine tail3 rfl rfl rfl ?_
       simp only[put_nrm,put_nrm2]
       simp only[Act.put,List.setIfInBounds_toArray,List.set_cons_succ,List.set_cons_zero,if_true]
       have gx:Grows W2 x.w:=growsTr (inferInstance:Grows W2 z6.w) inferInstance
       refine wpList_app1F (enc:=encStr) (w0:=W2) (z:=.string ⟨#[]⟩) (size:=1) (bytes:=16) (n:=vn) s6 rfl (.tmp 44) (.tmp 51) rfl Tryz.underlying30 (by kernel_rfl) rfl (by decide) (by decide) (by kernel_rfl) (by kernel_rfl) HVN.out (Own.to hownv inferInstance) hH rfl (encStr_one _) hvb gx.out.size gx (Nat.le_refl _) ?_
       intro sa3 sc3 xw hown1 hgr1 hblk1
       have hp9:=(GBp.app (F:=mOffered) HZ6.out HEV.out (inferInstance:Grows z6.w x.w) hown1 hgr1 hblk1 hdz).1
       clear hown1 hgr1 hblk1 gx hH hownv ev7 eo7 hd6
       (try simp only[Act.put,List.setIfInBounds_toArray])
       (try simp only[List.set_cons_succ])
       (try simp only[List.set_cons_zero])
       go_upto_region 10 with(first|((with_reducible refine wp_region_later (by kernel_rfl) (by kernel_rfl) ?_);(repeat(first|go_big_quiet_step (first|fail)));refine wpQuiet_nil ?_;rintro _ ⟨x,rfl⟩)|(refine step_gbN (app_len HVN.out) rfl _ _ _ rfl hp9 rfl rfl (by kernel_rfl) inferInstance (Nat.le_refl _) ?_;intro z9 hz9))
       (try simp only[Act.put])
       have HZ9:=lH hz9;clear hz9
       obtain⟨sa5,sc5,ec5,hown5,hgood5,-⟩:=HZ9.out.own mGOffers
       have HEC5:=lH (ec5 z9.w)
       have ec6:∀ (W:World) [Grows z9.w W],W.cell? ⟨qb,16,none⟩=some (.slice sa5 (fl+1) sc5):=fun W g=>HFL.out▸ec5 W
       have hown5:Own encStr 9 1 W2.heap.size z9.w sa5 sc5 (s6::rs):=hown5
       have hlen5:(s6::rs).length=fl+1:=congrArg (·+1) HFL.out
       have HD5:=fun(W:World) (g:Grows z9.w W)=>(show Calls Tryz.prog 73 #[.slice sa5 (fl+1) sc5,.int .i64 0,.int .i64 1] W (fun e w1=>e=.returned (.slice sa5 fl sc5)∧Own encStr 9 1 W2.heap.size w1 sa5 sc5 rs∧W.grownBy w1 (blkOf sa5))from HFL.out▸c_DeleteStr (k:=0) (hown5.to g) (Nat.succ_pos _) (by rw[hlen5];omega))
       clear ec5
       go_wp2_with (first|(go_at_call 73;refine(HD5 _ inferInstance).mono ?_;rintro _ w6 ⟨rfl,hown7,hgr6⟩;obtain⟨z7,rfl⟩:=grown_later (w0:=W2) inferInstance hgr6 (fun k hk=>(hown5.blk k hk).1);have hp7:=(GBp.upd (F:=mGOffers) (n:=0) HZ9.out HEC5.out inferInstance hown7 ((ownBlock_eq _ _ _).symm▸hgr6) (.inl rfl) (fun q hq=>hgood5 q (List.mem_cons_of_mem _ hq))).1;clear hown7 hgr6)|(refine step_gbN HFL.out rfl _ _ _ rfl hp7 rfl rfl (by kernel_rfl) inferInstance (Nat.le_refl _) ?_;intro z8 hz8))
       (try simp only[Act.put])
       have HZ8:=lH (show GB (fun _=>False) W2.heap.size qb z8.w (upM m (rs,(offerCmd sd s6).1,od++[s6]))from hz8)
       clear hz8
       go_roundw
       case rel=>exact⟨(rs,(offerCmd sd s6).1,od++[s6]),(by have h1:=HQ.out;simp only[offerGo,hb,if_true]at h1;exact h1),(by have h1:=HTT.out;have h2:=offerCmd_tot sd s6;have h3:Enc.tot s6=(s6.size:Int):=rfl;show _≤_;simp only[totL_snoc,totL,h3]at h1 ⊢;omega),HZ8,Later.of⟩
       case measure =>
        obtain⟨p1,p2,p3,-⟩:=HZ8.out.own mGOffers
        have e1:cellLen z8.w qb 16=rs.length:=cellLen_eq (p3 z8.w)
        have e2:cellLen y.w qb 16=rs.length+1:=cellLen_eq HEO.out
        show cellLen z8.w qb 16<cellLen y.w qb 16
        omega
end Go.Proofs.YtdinhfeflobafaaGreat
