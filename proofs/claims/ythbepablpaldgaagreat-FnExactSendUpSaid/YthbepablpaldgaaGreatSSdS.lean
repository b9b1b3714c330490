/- SendUp of the reference. No condition but on sizes. -/
import Derived.Test.YthbepablpaldgaaGreatSM50
import Derived.Test.YthbepablpaldgaaGreatSM47
import Derived.Test.YthbepablpaldgaaGreatSCopyMS
import Derived.Test.YthbepablpaldgaaGreatSMisS
import Derived.Deep.CutRange
import Derived.Deep.CutBlock
namespace Go.Proofs.YthbepablpaldgaaGreat
set_option maxRecDepth 100000
set_option maxHeartbeats 4000000
set_option linter.unusedVariables false
open Go.ChangeShapes Go.WideShapes Go.ChangeAt Go.RowKit
private abbrev uu3:=Tryz.underlying3
private abbrev uu30:=Tryz.underlying30
private abbrev uu65:=Tryz.underlying65
private abbrev uu66:=Tryz.underlying66
private abbrev uu90:=Tryz.underlying90
theorem o_sSendUp5{B:Nat}{vs:List Value}{m:TMission}{w:World}(h:Enc.Rd B w vs m)(ht:Enc.tot m≤100000000)(ht5:Enc.tot m≤20000000) :
  Calls Tryz.prog 12 #[.agg vs.toArray] w (GivesO w (sendUp m)):=by
 have HT5:=lH ht5;clear ht5
 have HL:=lH (len_mission h)
 have HM:=lH h;clear h
 have HT:=lH ht;clear ht
 have HB:=lH ((Held.new w vs 90 w.heap.size rfl).to (ii:Grows _ ((w.alloc (.cells vs.toArray 90)).alloc (.cells zMission.toArray 90))))
 have HR:=lH (Held.new (w.alloc (.cells vs.toArray 90)) zMission 90 (w.heap.size+1) (by simp))
 have gW:Grows w ((w.alloc (.cells vs.toArray 90)).alloc (.cells zMission.toArray 90)):=inferInstance
 have hsz:((w.alloc (.cells vs.toArray 90)).alloc (.cells zMission.toArray 90)).heap.size=w.heap.size+2:=by simp
 go_enter Tryz.func12,Tryz.ntmps12
 go_upto_region 1 with(first|((with_reducible refine rl ?_);refine rq ?_;intro x))
 generalize ((w.alloc (.cells vs.toArray 90)).alloc (.cells zMission.toArray 90))=W2 at HB HR gW hsz ⊢
 have iB:LtN w.heap.size W2.heap.size:=⟨by omega⟩
 have iR:LtN (w.heap.size+1) W2.heap.size:=⟨by omega⟩
 have hW2:w.heap.size≤W2.heap.size:=by omega
 go_wp2_with (first|((with_reducible refine rl ?_);refine rq ?_;intro x)|(refine sL rfl _ (.tmp 1) rfl (w.heap.size) kr HB ii uu90 HL ?_))
 refine(o_copyMission (x:=m) (Enc.keep HM.out ii) HT.out).mono ?_
 rintro _ _ ⟨cs,χ,rfl,hO,y1,rfl⟩
 have HLC:=lH (len_mission (EncO.toRd hO));have HOC:=lH (one_mission (EncO.toRd hO));have HO:=lH hO;clear hO
 go_upto_region 2 with(first|((with_reducible refine rl ?_);refine rq ?_;intro x)|(refine sW rfl _ _ _ rfl _ rfl (us:=cs) (Held.new _ zMission 90 _ rfl) HLC HOC (w0:=W2) ii LeN.out ?_;intro z1 HX1 KX1))
 (try simp only[Act.put])
 obtain⟨qb,hqb⟩:∃ qb,y1.w.heap.size=qb:=⟨_,rfl⟩
 rw[hqb]
 have HG:=lH (show GB (fun _=>False) W2.heap.size qb z1.w m from hqb▸GB.of HO.out (KX1.out.under ii nl) y1.size_le HX1.out)
 have hqB:W2.heap.size≤qb:=HG.out.le
 have hqlt:LtN qb z1.w.heap.size:=⟨HG.out.lt⟩
 clear hqb HX1 KX1 HO HLC HOC
 go_wp2_with (first|((with_reducible refine rl ?_);refine rq ?_;intro x)|(refine sL rfl _ (.tmp 1) rfl (w.heap.size) kr HB ii uu90 HL ?_))
 refine gm (c_sMissionOk (m:=m) (Enc.keep HM.out ii) HT.out) ?_
 intro y2
 cases hv:missionOk m
 ·obtain⟨vs9,hH9,hl9,h19,-,χ9,hO9⟩:=HG.out.vs
  have HH9:=lH hH9;have HO9:=lH hO9;have H19:=lH h19;have HL9:=lH (show vs9.length=61 from hl9)
  clear hO9 hH9 h19 hl9
  go_wp2_with (first|((with_reducible refine rl ?_);refine rq ?_;intro x)|(refine sL rfl _ (.tmp 3) rfl (qb) kr HH9 ii uu90 HL9 ?_)|(refine sW rfl _ _ _ rfl (w.heap.size+1) rfl (us:=vs9) (HR.out.to ii) HL9 H19 (w0:=w) ii (by omega) ?_;intro z9 HX9 KX9))
  refine bodyPost_ret (v:=.agg vs9.toArray) (results_cell (P:=Tryz.prog) rfl rfl HX9.out _ uu90 rfl (by rw[HL9.out];kernel_rfl)) rfl ?_
  rw[show sendUp m=m by rw[sendUp,if_neg (by rw[hv];decide)]]
  exact⟨vs9,χ9,rfl,obox_fin (obox_to HO9.out ii) KX9.out (show w.heap.size+1<W2.heap.size by omega) hW2,Later.of⟩
 ·have HMV:=lH hv
  have HMP:=lH (mission_parts hv)
  clear hv
  go_upto_block 0 with(first|((with_reducible refine rl ?_);refine rq ?_;intro x))
  go_cut [4,5]from 14 to 53 (fun s4 s5 wx=>GB (fun _=>False) W2.heap.size qb wx (offeredM m)∧∃ y:Later W2,wx=y.w)
  case first =>
   go_wp2_with (first|((with_reducible refine rl ?_);refine rq ?_;intro x))
   go_loopw [] (fun wr=>∃ q:List ByteArray × TSender × List ByteArray,Hid (offerGo q.1 q.2.1 q.2.2=offerGo m.Ground.Offers m.Ground.Sender m.Offered)∧Hid (2*totL q.1+Enc.tot q.2.1+totL q.2.2≤2*Enc.tot m)∧Hid (GB (fun _=>False) W2.heap.size qb wr (upM m q))∧∃ y:Later W2,wr=y.w) (fun wr=>cellLen wr qb 16)
   case atStart=>exact⟨(m.Ground.Offers,m.Ground.Sender,m.Offered),rfl,(by have h1:=offers_le m;have h2:=Enc.tot_nonneg m;show _≤_;simp only;omega),HG.out.to ii,Later.of⟩
   case round =>
    obtain⟨⟨of,sD,od⟩,HQ,HTT,HGR,y,rfl⟩:=hrel
    obtain⟨oa,oc,eo,hown,hgood,-⟩:=HGR.out.own mGOffers
    cases of with
    | nil =>
     have eo2:∀ (W:World) [Grows y.w W],W.cell? ⟨qb,16,none⟩=some (.slice oa 0 oc):=fun W g=>eo W
     clear eo
     go_wp2_with (first|((with_reducible refine rl ?_);refine rq ?_;intro x))
     go_meet
     case rel=>exact⟨by rw[offered_at (q:=([],sD,od)) HQ.out (.inl rfl)];exact HGR.out.to ii,Later.of⟩
    | cons ss rs =>
     obtain⟨fl,hfl⟩:∃ k,rs.length=k:=⟨_,rfl⟩
     have eo1:∀ (W:World) [Grows y.w W],W.cell? ⟨qb,16,none⟩=some (.slice oa (fl+1) oc):=fun W g=>hfl▸eo W
     have HEO:=lH (eo y.w);have HFL:=lH hfl
     have hfb:fl+1≤100000000:=by have h1:=HTT.out;have h2:=totL_len (ss::rs);have h3:=totL_nonneg od;have h4:=Enc.tot_nonneg sD;have h5:=HT5.out;simp only[List.length_cons,hfl]at h1 h2;omega
     obtain⟨ob,oo,s0,rfl,hob,hod,hd0⟩:=(Own.sl hown).str (show 0<(ss::rs).length from Nat.succ_pos _)
     obtain rfl:s0=ss:=by have h9:ss::rs=s0::rs:=hod.out;injection h9 with h9;exact h9.symm
     have eo2:=eo1
     have hdz:s0.size≤9223372036854775807:=hgood s0 (List.mem_cons_self ..)
     obtain⟨vs5,A,hV5,hvs5,F⟩:=gb_cells HGR.out
     have HV:=lH hV5
     have HR17:=lH (show(vs5.drop 17).take 4=[.int .i64 sD.Next,.int .i64 sD.Window,.slice A.a4 sD.Waiting.length A.c4,.int .i64 sD.Done]by rw[hvs5];rfl)
     have F4:=lH F.q4;have OKS:=lH (show okDTSender sD from F.ok.2.2.2.2.2.2.1.1)
     have HTS:=lH (show Enc.tot sD≤50000000 by have h1:=HTT.out;have h2:=totL_nonneg (s0::rs);have h3:=totL_nonneg od;have h4:=HT5.out;simp only at h1;omega)
     clear eo eo1 hV5 hvs5 F hgood hown hod hfl
     go_upto_region 5 with(first|((with_reducible refine rl ?_);refine rq ?_;intro x))
     refine wp_region_stabZ kr (T:=[13,14]) (Zs:=[(11,[8])]) (H:=[(2,[]),(5,[]),(6,[]),(7,[]),(8,[]),(9,[8]),(10,[8]),(11,[8]),(12,[])]) (C:=[8,12]) (Fs:=[(some 20,.v (.pointer (some ⟨qb,16,none⟩))),(some 21,.v (.pointer (some ⟨qb,17,none⟩))),(some 22,.v (.agg #[.int .i64 sD.Next,.int .i64 sD.Window,.slice A.a4 sD.Waiting.length A.c4,.int .i64 sD.Done])),(some 23,.v (.pointer (some ⟨qb,16,none⟩))),(some 24,.v (.pointer (some ⟨qb,16,none⟩))),(some 25,.v (.slice (some ⟨ob,oo,none⟩) (fl+1) oc)),(some 26,.v (.pointer (some ⟨ob,oo+0*1,none⟩))),(some 27,.v (.string s0)),(some 28,entOB y.w.heap.size (offerCmd sD s0).1 (offerCmd sD s0).2),(some 19,.fn [8] gOne),(some 29,.fn [8] gFst),(some 30,.fn [8] gSnd),(some 4,.box y.w.heap.size [.int .i64 0,.int .i64 0,.slice none 0 0,.int .i64 0] 69),(none,.v undef),(none,.v undef)]) kr (fun val W=>by kernel_rfl) ?ob5 ?lz5 ?pn5 ?tl5
     case ob5 =>
      refine⟨fun x=>?_,fun x=>?_,fun x=>?_,fun x=>?_,fun x=>?_,fun x=>?_,fun x=>?_,fun x=>?_,fun x=>?_,trivial⟩
      ·exact g_row (o:=17) (HV.out.to (ii:Grows y.w x.w)) rfl kr _ Tryz.underlying69 rfl kr HR17.out
      ·exact g_cell (eo2 x.w) rfl kr _ uu30 rfl
      ·exact g_ix (size:=1) (o:=oo) (j:=0) (n:=fl+1) (c:=oc) rfl kr uu30 kr (Nat.succ_pos _)
      ·exact g_cell (hd0 x.w) rfl kr _ Tryz.underlying9 rfl
      ·refine g_call (f:=55) (args:=[.agg #[.int .i64 sD.Next,.int .i64 sD.Window,.slice A.a4 sD.Waiting.length A.c4,.int .i64 sD.Done],.string s0]) Tryz.func55 kr kr ((o_sOfferCommand (B:=W2.heap.size) (s:=sD) ⟨A.a4,A.c4,rfl,F4.out.keep (gKeeps (ii:Grows y.w x.w)),OKS.out⟩ hdz HTS.out).mono ?_)
       rintro _ _ ⟨vs2,χ2,rfl,hO2,y2,rfl⟩
       exact⟨_,rfl,⟨y2,rfl⟩,vs2,χ2,rfl,OBox.map hO2 (.mono x.size_le)⟩
      ·refine chain1 fun v8 q8=>chain0 ?_
       obtain⟨vs2,χ2,rfl,q⟩:=(show isOB y.w.heap.size (offerCmd sD s0).1 (offerCmd sD s0).2 v8 x.w from q8)
       exact g_fn (k:=9) kr kr
      ·refine chain1 fun v8 q8=>chain0 ?_
       obtain⟨vs2,χ2,rfl,q⟩:=(show isOB y.w.heap.size (offerCmd sD s0).1 (offerCmd sD s0).2 v8 x.w from q8)
       exact g_fn (k:=10) kr kr
      ·refine chain1 fun v8 q8=>chain0 ?_
       obtain⟨vs2,χ2,rfl,q⟩:=(show isOB y.w.heap.size (offerCmd sD s0).1 (offerCmd sD s0).2 v8 x.w from q8)
       exact g_fn (k:=11) kr kr
      ·exact g_box rfl kr LeN.out
     case lz5 =>
      refine⟨fun W hW=>?_,trivial⟩
      refine chain1 fun v8 q8=>chain0 ?_
      obtain⟨vs2,χ2,rfl,q⟩:=(show isOB y.w.heap.size (offerCmd sD s0).1 (offerCmd sD s0).2 v8 W from q8)
      intro W3
      kernel_rfl
     case pn5=>exact fun _ _ _ _ _ _ h=>h
     case tl5 =>
      intro x
      refine chain1 fun v8 q8=>chain1 fun v12 q12=>?_
      obtain⟨vs2,χ2,rfl,hO2⟩:=(show isOB y.w.heap.size (offerCmd sD s0).1 (offerCmd sD s0).2 v8 x.w from q8)
      obtain⟨bz,rfl,hbz,hBz⟩:=(show ∃ b,v12=.pointer (some ⟨b,0,none⟩)∧y.w.heap.size≤b∧Held x.w b [.int .i64 0,.int .i64 0,.slice none 0 0,.int .i64 0] 69 from q12)
      clear q8 q12
      refine tail2 rfl rfl ?_
      simp only[put_nrm,put_nrm2,List.map,gOne,gFst,gSnd]
      simp only[Act.put,List.setIfInBounds_toArray,List.set_cons_succ,List.set_cons_zero,if_true,if_false,Nat.reduceEqDiff,Nat.reduceAdd]
      have HL2:=lH (os_len (EncO.toRd hO2));have H12:=lH (os_one (EncO.toRd hO2))
      go_upto_region 6 with(first|((with_reducible refine rl ?_);refine rq ?_;intro x)|(refine sW rfl _ (.tmp 4) (.tmp 29) rfl (bz) rfl (us:=vs2) (hBz) HL2 H12 (w0:=y.w) ii hbz ?_;intro z5 HX5 KX5))
      (try simp only[Act.put])
      have HO5:=lH (show EncO.O y.w.heap.size χ2 0 z5.w vs2 (offerCmd sD s0).1 by obtain⟨a0,c0,rfl,k⟩:=hO2;exact⟨a0,c0,rfl,⟨k.o0.own.at hBz (by decide) (KX5.out.grown1 (ii:Grows y.w x.w)),k.o0.col,k.o0.good⟩,k.ok⟩)
      have hbz5:LtN bz z5.w.heap.size:=HX5.out.ltN
      clear hO2 hBz KX5
      cases hb:(offerCmd sD s0).2
      ·go_wp2_with (first|((with_reducible refine rl ?_);refine rq ?_;intro x))
       go_meet
       case rel=>exact⟨by rw[offered_at (q:=(s0::rs,sD,od)) HQ.out (.inr ⟨s0,rs,rfl,hb⟩)];exact HGR.out.to ii,Later.of⟩
      ·have HQ8:=lH (GBq.new (D:=mSender) HGR.out (ii:Grows y.w z5.w) HO5.out)
       go_upto_region 8 with(first|((with_reducible refine rl ?_);refine rq ?_;intro x)|(refine sL rfl _ (.tmp 4) rfl bz kr HX5 ii Tryz.underlying69 HL2 ?_)|(refine step_gbD rfl _ (.tmp 35) (.tmp 33) rfl HQ8.out rfl rfl (by rw[HL2.out];kernel_rfl) (w0:=W2) ii nl ?_;intro z6 hz6 hX6))
       (try simp only[Act.put])
       clear hd0 eo2 hX6
       have HZ6:=lH (show GB (fun _=>False) W2.heap.size qb z6.w (upM m (s0::rs,(offerCmd sD s0).1,od))from hz6)
       clear hz6
       obtain⟨oa6,oc6,eo6,hown6,hgood6,-⟩:=HZ6.out.own mGOffers
       obtain⟨va,vc,ev6,hownv,-,-⟩:=HZ6.out.own mOffered
       have HEV:=lH (ev6 z6.w)
       obtain⟨vn,hvn⟩:∃ k,od.length=k:=⟨_,rfl⟩
       have HVN:=lH hvn
       have hvb:vn≤1000000000:=by have h1:=HTT.out;have h2:=totL_nonneg (s0::rs);have h3:=totL_len od;have h4:=HT5.out;have h5:=Enc.tot_nonneg sD;simp only at h1;omega
       have ev7:∀ (W:World) [Grows z6.w W],W.cell? ⟨qb,58,none⟩=some (.slice va vn vc):=fun W g=>hvn▸ev6 W
       have eo7:∀ (W:World) [Grows z6.w W],W.cell? ⟨qb,16,none⟩=some (.slice oa6 (fl+1) oc6):=fun W g=>HFL.out▸eo6 W
       obtain⟨ob6,oo6,s6,rfl,hob6,hod6,hd6⟩:=(Own.sl hown6).str (show 0<(s0::rs).length from Nat.succ_pos _)
       obtain rfl:s6=s0:=by have h9:s0::rs=s6::rs:=hod6.out;injection h9 with h9;exact h9.symm
       clear eo6 ev6 hvn hod6 hown6
       refine wp_region_stabZ kr (T:=[8,9,10]) (Zs:=[]) (H:=[(1,[]),(4,[]),(5,[]),(6,[]),(7,[])]) (C:=[7]) (Fs:=[(some 36,.v (.pointer (some ⟨qb,58,none⟩))),(some 37,.v (.slice va vn vc)),(some 38,.v (.pointer (some ⟨qb,16,none⟩))),(some 39,.v (.pointer (some ⟨qb,16,none⟩))),(some 40,.v (.slice (some ⟨ob6,oo6,none⟩) (fl+1) oc6)),(some 41,.v (.pointer (some ⟨ob6,oo6+0*1,none⟩))),(some 42,.v (.string s6)),(some 43,.sl z6.w.heap.size 1 [.string s6] 9),(none,.v undef),(none,.v undef),(none,.v undef)]) kr (fun val W=>by kernel_rfl) ?ob8 ?lz8 ?pn8 ?tl8
       case ob8 =>
        refine⟨fun x=>?_,fun x=>?_,fun x=>?_,fun x=>?_,fun x=>?_,trivial⟩
        ·exact g_cell (ev7 x.w) rfl kr _ uu30 rfl
        ·exact g_cell (eo7 x.w) rfl kr _ uu30 rfl
        ·exact g_ix (size:=1) (o:=oo6) (j:=0) (n:=fl+1) (c:=oc6) rfl kr uu30 kr (Nat.succ_pos _)
        ·exact g_cell (hd6 x.w) rfl kr _ Tryz.underlying9 rfl
        ·exact g_sl rfl kr LeN.out
       case lz8 =>
        exact trivial
       case pn8=>exact fun _ _ _ _ _ _ h=>h
       case tl8 =>
        intro x
        refine chain1 fun v8 q8=>?_
        obtain⟨bs,rfl,hbs,hH⟩:=(show ∃ b,v8=.slice (some ⟨b,0,none⟩) 1 1∧z6.w.heap.size≤b∧Held x.w b [.string s6] 9 from q8)
        clear q8
        refine tail3 rfl rfl rfl ?_
        simp only[put_nrm,put_nrm2]
        simp only[nrm,if_true]
        have gx:Grows W2 x.w:=growsTr (ii:Grows W2 z6.w) ii
        refine wpList_app1F (enc:=encStr) (w0:=W2) (z:=.string ⟨#[]⟩) (size:=1) (bytes:=16) (n:=vn) s6 rfl (.tmp 37) (.tmp 43) rfl uu30 kr rfl (by decide) (by decide) kr kr HVN.out (Own.to hownv ii) hH rfl (encStr_one _) hvb gx.out.size gx nl ?_
        intro sa3 sc3 xw hown1 hgr1 hblk1
        have hp9:=(GBp.app (F:=mOffered) HZ6.out HEV.out (ii:Grows z6.w x.w) hown1 hgr1 hblk1 hdz).1
        clear hown1 hgr1 hblk1 gx hH hownv ev7 eo7 hd6
        (try simp only[nrm])
        go_upto_region 9 with(first|((with_reducible refine rl ?_);refine rq ?_;intro x)|(refine step_gbN (app_len HVN.out) rfl _ _ _ rfl hp9 rfl rfl kr ii nl ?_;intro z9 hz9))
        (try simp only[Act.put])
        have HZ9:=lH hz9;clear hz9
        obtain⟨sa5,sc5,ec5,hown5,hgood5,-⟩:=HZ9.out.own mGOffers
        have ec6:∀ (W:World) [Grows z9.w W],W.cell? ⟨qb,16,none⟩=some (.slice sa5 (fl+1) sc5):=fun W g=>HFL.out▸ec5 W
        have hown5:Own encStr 9 1 W2.heap.size z9.w sa5 sc5 (s6::rs):=hown5
        have hcap5:fl+1≤sc5:=by have h1:=hown5.cap;have h2:=HFL.out;simp only[List.length_cons]at h1;omega
        obtain⟨gb,rfl⟩:∃ g,sa5=some ⟨g,0,none⟩:=by
         rcases Own.at0 hown5 with⟨-,h0⟩|h
         ·omega
         ·exact h
        have HSL:=lH (show Sl encStr z9.w (some ⟨gb,if sc5=1 then 0 else 0+1*1,none⟩) rs from Sl.from2 (j:=1) (size:=1) (Own.sl hown5) hown5.cap encStr_len)
        have HRS:=lH (show rs.length=fl+1 - 1 from HFL.out)
        clear ec5 hown5
        have HSZ:=lH hsz;clear hsz
        go_wp2_with (first|((with_reducible refine rl ?_);refine rq ?_;intro x)|(refine step_from rfl _ (.tmp 49) _ rfl (bb:=gb) (off:=0) (n:=fl+1) (cc:=sc5) (jj:=1) (size:=1) rfl rfl uu30 kr (Nat.succ_le_succ (Nat.zero_le _)) hcap5 ?_)|(at_builtin;refine wpList_appS (t:=30) (enc:=encStr) (w0:=z9.w) (z:=.string ⟨#[]⟩) (size:=1) (bytes:=16) (n:=0) (m:=fl+1 - 1) (c:=sc5 - 1) (l:=[]) (r:=rs) rfl (.tmp 46) (.tmp 50) rfl uu30 kr rfl (by decide) (by decide) rfl rfl (fun h=>by cases h) rfl HRS.out (Own.emptyAt (W:=z9.w) encStr_len LeN.out rfl) ((HSL.out).to ii) encStr_one (by omega) ?_;intro sa7 sc7 x7 hown7 hgr7;have HP7:=lH (GBp.new (F:=mGOffers) (l:=rs) HZ9.out (ii:Grows z9.w x7.w) (OwnC.of (show Own encStr 9 1 z9.w.heap.size x7.w sa7 sc7 rs from hown7) (fun q hq=>hgood5 q (List.mem_cons_of_mem _ hq)) (0,0)));clear hown7 hgr7)|(refine step_gbN (n:=fl) HFL.out rfl _ _ _ rfl HP7.out rfl rfl kr ii nl ?_;intro z8 hz8))
        (try simp only[Act.put])
        have HZ8:=lH (show GB (fun _=>False) W2.heap.size qb z8.w (upM m (rs,(offerCmd sD s6).1,od++[s6]))from hz8)
        clear hz8
        go_roundw
        case rel=>exact⟨rs,(offerCmd sD s6).1,od++[s6],(by have h1:=HQ.out;simp only[offerGo,hb,if_true]at h1;exact h1),(by have h1:=HTT.out;have h2:=offerCmd_tot sD s6;have h3:Enc.tot s6=(s6.size:Int):=rfl;show _≤_;simp only[totL_snoc,totL,h3]at h1 ⊢;omega),HZ8,Later.of⟩
        case measure =>
         obtain⟨p1,p2,p3,-⟩:=HZ8.out.own mGOffers
         have e1:cellLen z8.w qb 16=rs.length:=cellLen_eq (p3 z8.w)
         have e2:cellLen y.w qb 16=rs.length+1:=cellLen_eq HEO.out
         show cellLen z8.w qb 16<cellLen y.w qb 16
         omega
  case rest =>
   obtain⟨HG0,y0,rfl⟩:=hcut
   have HGM:=lH HG0;clear HG0
   obtain⟨vs6,A6,hV6,hvs6,F6⟩:=gb_cells HGM.out
   have HV7:=lH hV6
   have HRP4:=lH (show(vs.drop 4).take 3=[.int .i64 m.Orbit.Period,.int .i64 m.Orbit.Start,.int .i64 m.Orbit.Length]by obtain⟨A,h1,-⟩:=HM.out;rw[h1];rfl)
   have HRP0:=lH (show vs[0]?=some (.int .i64 m.Time)by obtain⟨A,h1,-⟩:=HM.out;rw[h1];rfl)
   have HRP1:=lH (show vs[1]?=some (.int .i64 m.Light)by obtain⟨A,h1,-⟩:=HM.out;rw[h1];rfl)
   obtain⟨sD,hsd⟩:∃ sD,(offeredM m).Ground.Sender=sD:=⟨_,rfl⟩
   obtain⟨lk,hlk⟩:∃ lk,(offeredM m).Ground.Notice.Locked=lk:=⟨_,rfl⟩
   have HR17:=lH (show(vs6.drop 17).take 4=[.int .i64 sD.Next,.int .i64 sD.Window,.slice A6.a4 sD.Waiting.length A6.c4,.int .i64 sD.Done]by rw[hvs6,← hsd];rfl)
   have HR22:=lH (show vs6[22]?=some (.bool lk)by rw[hvs6,← hlk];rfl)
   have F4:=lH (show RdS W2.heap.size y0.w A6.a4 A6.c4 sD.Waiting from hsd▸F6.q4)
   have OKS:=lH (show okDTSender sD from hsd▸F6.ok.2.2.2.2.2.2.1.1)
   have HSO:=lH (show senderOk sD=true from hsd▸offered_ok HMV.out)
   have HUT:=lH (show upTexts (offeredM m)=if lk=true then[encCmd 1 0 ⟨#[]⟩]else cmdBlocks sD by rw[upTexts,hlk,hsd])
   have HFT:=lH (upTexts_fit (offered_ok HMV.out))
   have HUL:=lH (show(offeredM m).Ups.length≤100000000+0 by have h1:(offeredM m).Ups.length=m.Ups.length:=rfl;have h2:=mups_len m;have:=HT5.out;omega)
   clear hV6 hvs6 F6 hsd hlk
   have hqy0:LtN qb y0.w.heap.size:=⟨HGM.out.lt⟩
   cases h0:visible m.Orbit.Period m.Orbit.Start m.Orbit.Length m.Time
   ·obtain⟨vs7,hH7,hl7,h17,-,χ7,hO7⟩:=HGM.out.vs
    have HH7:=lH hH7;have HO7:=lH hO7;have H17:=lH h17;have HL7:=lH (show vs7.length=61 from hl7)
    clear hO7 hH7 h17 hl7
    go_wp2_with (first|((with_reducible refine rl ?_);refine rq ?_;intro x)|(refine stepLoad rfl _ (.tmp 54) rfl (w.heap.size) 4 kr (row:=[.int .i64 m.Orbit.Period,.int .i64 m.Orbit.Start,.int .i64 m.Orbit.Length]) (HB.out.to ii) _ Tryz.underlying63 rfl kr HRP4.out ?_)|(refine stepLoad1 rfl _ (.tmp 56) rfl (w.heap.size) 0 kr (HB.out.to ii) (.int .i64 m.Time) HRP0.out _ uu3 rfl ?_))
    refine gm (c_sVisible) ?_
    intro y3
    rw[h0]
    go_wp2_with (first|((with_reducible refine rl ?_);refine rq ?_;intro x)|(refine sL rfl _ (.tmp 3) rfl (qb) kr HH7 ii uu90 HL7 ?_)|(refine sW rfl _ _ _ rfl (w.heap.size+1) rfl (us:=vs7) (HR.out.to ii) HL7 H17 (w0:=w) ii (by omega) ?_;intro z7 HX7 KX7))
    refine bodyPost_ret (v:=.agg vs7.toArray) (results_cell (P:=Tryz.prog) rfl rfl HX7.out _ uu90 rfl (by rw[HL7.out];kernel_rfl)) rfl ?_
    rw[show sendUp m=offeredM m by rw[sendUp,if_pos HMV.out,if_neg (by rw[h0];decide)]]
    exact⟨vs7,χ7,rfl,obox_fin (obox_to HO7.out ii) KX7.out (show w.heap.size+1<W2.heap.size by omega) hW2,Later.of⟩
   ·go_wp2_with (first|((with_reducible refine rl ?_);refine rq ?_;intro x)|(refine stepLoad rfl _ (.tmp 54) rfl (w.heap.size) 4 kr (row:=[.int .i64 m.Orbit.Period,.int .i64 m.Orbit.Start,.int .i64 m.Orbit.Length]) (HB.out.to ii) _ Tryz.underlying63 rfl kr HRP4.out ?_)|(refine stepLoad1 rfl _ (.tmp 56) rfl (w.heap.size) 0 kr (HB.out.to ii) (.int .i64 m.Time) HRP0.out _ uu3 rfl ?_))
    refine gm (c_sVisible) ?_
    intro y3
    rw[h0]
    have HSU0:=lH (show sendUp m=sendAll ((upTexts (offeredM m)).take 3) (offeredM m)by rw[sendUp,if_pos HMV.out,if_pos h0])
    clear h0
    go_upto_region 13 with(first|((with_reducible refine rl ?_);refine rq ?_;intro x)|(refine stepLoad rfl _ (.tmp 62) rfl (qb) 17 kr (row:=[.int .i64 sD.Next,.int .i64 sD.Window,.slice A6.a4 sD.Waiting.length A6.c4,.int .i64 sD.Done]) (HV7.out.to ii) _ Tryz.underlying69 rfl kr HR17.out ?_)|(go_at_call 57;refine(c_sCommandBlocks (sD:=sD) (F4.out.keep (gKeeps ii)) OKS.out HSO.out).mono ?_;rintro _ _ ⟨ca,cc,rfl,hoc,yc,rfl⟩))
    have HOC:=lH hoc;clear hoc
    cases lk
    ·have HUT2:=lH (show upTexts (offeredM m)=cmdBlocks sD from HUT.out)
     obtain⟨L,hL⟩:∃ L,cmdBlocks sD=L:=⟨_,rfl⟩
     rw[hL]at HOC HUT2 ⊢
     clear hL HUT
     rw[HUT2.out]at HFT HSU0
     have HFIT:=lH HFT.out
     have HSU:=lH HSU0.out.symm
     clear HFT HSU0 HUT2
     obtain⟨n,hn⟩:∃ n,L.length=n:=⟨_,rfl⟩
     rw[hn]
     go_upto_region 15 with(first|((with_reducible refine rl ?_);refine rq ?_;intro x)|(refine stepLoad1 rfl _ (.tmp 67) rfl (qb) 22 kr (HV7.out.to ii) (_) HR22.out _ Tryz.underlying4 rfl ?_))
     obtain⟨BL,hBL⟩:∃ BL,(y0.andThen y3).w.heap.size=BL:=⟨_,rfl⟩
     have hyB:y0.w.heap.size≤BL:=hBL▸y3.size_le
     rw[hBL]at HOC
     clear hBL
     have HGL:=lH (HGM.out.prot (P:=fun k=>blkOf ca=some k) (w:=((y0.andThen y3).andThen yc).w) ii fun k hk=>by have:=HOC.out.blk k hk;exact⟨by omega,this.2⟩)
     clear HV7 HRP4 HR17 HR22 F4 OKS HSO HGM
     obtain⟨r,hr⟩:∃ r,min 3 L.length=r:=⟨_,rfl⟩
     have HRR:=lH (show r≤L.length∧r≤3∧(r=3∨r=L.length)by omega)
     clear hr
     go_upto_region 16 with(first|((with_reducible refine rl ?_);refine rq ?_;intro x))
     go_loopw [7] (fun v wr=>∃ (k:Nat) (x:TMission),v=.int .i64 k∧k≤r∧Hid (sendAll ((L.take 3).drop k) x=sendUp m)∧Hid (x.Time=m.Time∧x.Light=m.Light∧x.Ups.length≤100000000+k)∧Hid (GB (fun k=>False∨blkOf ca=some k) W2.heap.size qb wr x)∧Hid (Own encStr 9 1 BL wr ca cc L)∧∃ y:Later W2,wr=y.w) (fun v _=>(r - intOf v).toNat)
     case atStart=>exact⟨0,offeredM m,rfl,Nat.zero_le _,lH HSU.out,lH ⟨rfl,rfl,HUL.out⟩,lH (HGL.out.to ii),lH (HOC.out.to ii),Later.of⟩
     case round =>
      obtain⟨k,x,rfl,hk,HF,HXT,HGR,HOL,y,rfl⟩:=hrel
      by_cases hkr:k<r
      ·obtain⟨ob,oo,s0,hsa,hob,hod,hd0⟩:=(Own.sl HOL.out).str (show k<L.length by have:=HRR.out;omega)
       have HSA:=lH hsa
       have hoB:ob<y.w.heap.size:=hob.out
       have hblk:blkOf ca=some ob:=by rw[hsa];rfl
       have HBK:=lH hblk
       clear hsa hblk
       have hs2:s0.size≤200:=HFIT.out s0 (List.mem_of_mem_drop (show s0∈L.drop k by rw[hod.out];simp))
       obtain⟨vs5,A,hV5,hvs5,F⟩:=gb_cells HGR.out
       have HV:=lH hV5
       have HR8:=lH (show(vs5.drop 8).take 3=[.int .i64 x.Up.Seed,.int .i64 x.Up.Burst,.int .i64 x.Up.Loss]by rw[hvs5];rfl)
       have HOK:=lH F.ok
       clear hV5 hvs5 F
       obtain⟨ua,uc,ue,hown,hgood,-⟩:=HGR.out.own mUps
       have HUE:=lH (ue y.w)
       have HOW:=lH (show Own encTFlight 177 2 W2.heap.size y.w ua uc x.Ups from hown)
       have HGD:=lH hgood
       clear hown hgood
       obtain⟨un,hun⟩:∃ k,x.Ups.length=k:=⟨_,rfl⟩
       have HUN:=lH hun
       have HU14:=lH (show vs5[14]?=some (.slice ua un uc)by rw[← HV.out.cell 14,← hun];exact ue y.w)
       have hub:un≤1000000000:=by have:=HXT.out.2.2;have:=HRR.out;omega
       clear ue hun
       have hx0:0≤m.Time∧m.Time≤1000000:=⟨HMP.out.1,HMP.out.2.1⟩
       have hx1:0≤m.Light∧m.Light≤50:=⟨HMP.out.2.2.1,HMP.out.2.2.2.1⟩
       have hxa:=hx0.1;have hxb:=hx0.2;have hxc:=hx1.1;have hxd:=hx1.2
       clear hx0 hx1
       have HWT:=lH (show IntKind.i64.wrap (m.Time+m.Light)=m.Time+m.Light from i64_wr (by omega) (by omega))
       have HTL:=lH (show m.Time+m.Light=x.Time+x.Light by rw[HXT.out.1,HXT.out.2.1])
       have hqy:LtN qb y.w.heap.size:=⟨HGR.out.lt⟩
       have HCL:=lH hd0
       clear hd0
       have kd1:decide ((k:Int)<(n:Int))=true:=by have:=HRR.out;simp;omega
       have kd2:decide ((k:Int)<3)=true:=by have:=HRR.out;simp;omega
       have hk3:(k:Int)<3:=by have:=HRR.out;omega
       have hkI:(k:Int)<(n:Int):=by have:=HRR.out;omega
       go_upto_region 18 with(first|((with_reducible refine rl ?_);(repeat(first|go_big_quiet_step (first|fail)|simp only[kd1]|simp only[kd2]));refine wpQuiet_nil ?_;intro x))
       have kn:k<n:=by have:=HRR.out;omega
       refine wp_abs (fun _ _ _ _ _ h=>h) fun KK hPK hKK=>?_
       refine wp_region_held_drew (S:=fun W=>Grows W2 W∧Held W w.heap.size vs 90∧W.cell? ⟨ob,oo+k,none⟩=some (.string s0)) kr ⟨ii,HB.out.to ii,HCL.out _⟩ (fun hH=>?_)
       refine wpAnyH_take (i:=0) (v:=?vb0) rfl kr kr kr (fun _ _ _ h=>hPK.out _ _ _ _ _ h) (Or.inl ⟨by rfl,?yb0⟩) (by assumption) ?rb0
       case yb0=>intro w hSw;clear hSw;go_simp;(try with_reducible rfl)
       (try simp only[List.getElem_toArray,List.getElem_cons_succ,List.getElem_cons_zero]);(try simp only[nrm])
       refine wpAnyH_take (i:=2) (v:=?vb2) rfl kr kr kr (fun _ _ _ h=>hPK.out _ _ _ _ _ h) (Or.inl ⟨by rfl,?yb2⟩) (by assumption) ?rb2
       case yb2=>intro w hSw;clear hSw;go_simp;(try with_reducible rfl)
       (try simp only[List.getElem_toArray,List.getElem_cons_succ,List.getElem_cons_zero]);(try simp only[nrm])
       refine wpAnyH_take (i:=4) (v:=?vb4) rfl kr kr kr (fun _ _ _ h=>hPK.out _ _ _ _ _ h) (Or.inl ⟨by rfl,?yb4⟩) (by assumption) ?rb4
       case yb4=>intro w hSw;clear hSw;go_simp;(try with_reducible rfl)
       (try simp only[List.getElem_toArray,List.getElem_cons_succ,List.getElem_cons_zero]);(try simp only[nrm])
       refine wpAnyH_take (i:=6) (v:=?vb6) rfl kr kr kr (fun _ _ _ h=>hPK.out _ _ _ _ _ h) (Or.inl ⟨by rfl,?yb6⟩) (by assumption) ?rb6
       case yb6=>intro w hSw;clear hSw;go_simp;(try with_reducible rfl)
       (try simp only[List.getElem_toArray,List.getElem_cons_succ,List.getElem_cons_zero]);(try simp only[nrm])
       refine wpAnyH_take (i:=9) (v:=?vb9) rfl kr kr kr (fun _ _ _ h=>hPK.out _ _ _ _ _ h) (Or.inl ⟨by rfl,?yb9⟩) (by assumption) ?rb9
       case yb9=>intro w hSw;clear hSw;go_simp;(try with_reducible rfl)
       (try simp only[List.getElem_toArray,List.getElem_cons_succ,List.getElem_cons_zero]);(try simp only[nrm])
       refine wpAnyH_take (i:=10) (v:=?vb10) rfl kr kr kr (fun _ _ _ h=>hPK.out _ _ _ _ _ h) (Or.inl ⟨by rfl,?yb10⟩) (by assumption) ?rb10
       case yb10=>intro w hSw;clear hSw;go_simp;(try with_reducible rfl)
       (try simp only[List.getElem_toArray,List.getElem_cons_succ,List.getElem_cons_zero]);(try simp only[nrm])
       refine wpAnyH_take (i:=5) (v:=.int .i64 m.Time) rfl kr kr kr (fun _ _ _ h=>hPK.out _ _ _ _ _ h) (yields_cell (by rfl) _ _ rfl (w.heap.size) (0) kr (.int .i64 m.Time) (fun W hW=>(hW.2.1.cell 0).trans HRP0.out) _ uu3 rfl) (by assumption) ?_
       (try simp only[List.getElem_toArray,List.getElem_cons_succ,List.getElem_cons_zero]);(try simp only[nrm])
       refine wpAnyH_take (i:=7) (v:=.int .i64 m.Light) rfl kr kr kr (fun _ _ _ h=>hPK.out _ _ _ _ _ h) (yields_cell (by rfl) _ _ rfl (w.heap.size) (1) kr (.int .i64 m.Light) (fun W hW=>(hW.2.1.cell 1).trans HRP1.out) _ uu3 rfl) (by assumption) ?_
       (try simp only[List.getElem_toArray,List.getElem_cons_succ,List.getElem_cons_zero]);(try simp only[nrm])
       refine wpAnyH_take (i:=8) (v:=?vb8) rfl kr kr kr (fun _ _ _ h=>hPK.out _ _ _ _ _ h) (Or.inl ⟨by rfl,?yb8⟩) (by assumption) ?rb8
       case yb8=>intro w hSw;clear hSw;go_simp;(try rw[HWT.out]);(try with_reducible rfl)
       (try simp only[List.getElem_toArray,List.getElem_cons_succ,List.getElem_cons_zero]);(try simp only[nrm])
       (try rw[HSA.out])
       refine wpAnyH_take (i:=11) (v:=?vb11) rfl kr kr kr (fun _ _ _ h=>hPK.out _ _ _ _ _ h) (Or.inl ⟨by rfl,?yb11⟩) (by assumption) ?rb11
       case yb11=>intro w hSw;clear hSw;go_simp;(try simp only[kq1,kq2,if_true]);(try with_reducible rfl)
       (try simp only[List.getElem_toArray,List.getElem_cons_succ,List.getElem_cons_zero]);(try simp only[nrm])
       refine wpAnyH_take (i:=12) (v:=.string s0) rfl kr kr kr (fun _ _ _ h=>hPK.out _ _ _ _ _ h) (yields_cell (by rfl) _ _ rfl (ob) (oo+k) kr (.string s0) (fun W hW=>hW.2.2) _ Tryz.underlying9 rfl) (by assumption) ?_
       (try simp only[List.getElem_toArray,List.getElem_cons_succ,List.getElem_cons_zero]);(try simp only[nrm])
       apply any_meet (y:=y.w)
       case main =>
        intro TAIL
        refine wpAnyH_r3 1 3 13 kr ?_ ?_ ?_
        ·refine one_loadH rfl kr _ _ rfl qb 8 kr (row:=[.int .i64 x.Up.Seed,.int .i64 x.Up.Burst,.int .i64 x.Up.Loss]) (HV.out.to ii) _ uu65 rfl kr HR8.out ⟨ii,HB.out.to ii,HCL.out _⟩ ?_
         (try simp only[List.getElem_toArray,List.getElem_cons_succ,List.getElem_cons_zero]);(try simp only[nrm])
         refine wpAnyH_r2 3 13 kr ?_ ?_
         ·refine one_load1 rfl kr _ _ rfl qb 14 kr (HV.out.to ii) (.slice ua un uc) HU14.out _ uu66 rfl ⟨ii,HB.out.to ii,HCL.out _⟩ ?_
          (try simp only[List.getElem_toArray,List.getElem_cons_succ,List.getElem_cons_zero]);(try simp only[nrm])
          refine wpAnyH_r1 13 kr (one_call rfl kr (f:=60) rfl Tryz.func60 kr kr [.string s0] kr ((c_sMakeBlock (by omega)).mono ?_))
          rintro _ _ ⟨rfl,y9,rfl⟩
          refine⟨_,rfl,⟨ii,HB.out.to ii,HCL.out _⟩,?_⟩
          (try simp only[List.getElem_toArray,List.getElem_cons_succ,List.getElem_cons_zero]);(try simp only[nrm])
          exact TAIL ⟨_,(ii:Grows y.w _).out⟩
         ·refine one_call rfl kr (f:=60) rfl Tryz.func60 kr kr [.string s0] kr ((c_sMakeBlock (by omega)).mono ?_)
          rintro _ _ ⟨rfl,y9,rfl⟩
          refine⟨_,rfl,⟨ii,HB.out.to ii,HCL.out _⟩,?_⟩
          (try simp only[List.getElem_toArray,List.getElem_cons_succ,List.getElem_cons_zero]);(try simp only[nrm])
          refine wpAnyH_r1 3 kr (one_load1 rfl kr _ _ rfl qb 14 kr (HV.out.to ii) (.slice ua un uc) HU14.out _ uu66 rfl ⟨ii,HB.out.to ii,HCL.out _⟩ ?_)
          (try simp only[List.getElem_toArray,List.getElem_cons_succ,List.getElem_cons_zero]);(try simp only[nrm])
          exact TAIL ⟨_,(ii:Grows y.w _).out⟩
        ·refine one_load1 rfl kr _ _ rfl qb 14 kr (HV.out.to ii) (.slice ua un uc) HU14.out _ uu66 rfl ⟨ii,HB.out.to ii,HCL.out _⟩ ?_
         (try simp only[List.getElem_toArray,List.getElem_cons_succ,List.getElem_cons_zero]);(try simp only[nrm])
         refine wpAnyH_r2 1 13 kr ?_ ?_
         ·refine one_loadH rfl kr _ _ rfl qb 8 kr (row:=[.int .i64 x.Up.Seed,.int .i64 x.Up.Burst,.int .i64 x.Up.Loss]) (HV.out.to ii) _ uu65 rfl kr HR8.out ⟨ii,HB.out.to ii,HCL.out _⟩ ?_
          (try simp only[List.getElem_toArray,List.getElem_cons_succ,List.getElem_cons_zero]);(try simp only[nrm])
          refine wpAnyH_r1 13 kr (one_call rfl kr (f:=60) rfl Tryz.func60 kr kr [.string s0] kr ((c_sMakeBlock (by omega)).mono ?_))
          rintro _ _ ⟨rfl,y9,rfl⟩
          refine⟨_,rfl,⟨ii,HB.out.to ii,HCL.out _⟩,?_⟩
          (try simp only[List.getElem_toArray,List.getElem_cons_succ,List.getElem_cons_zero]);(try simp only[nrm])
          exact TAIL ⟨_,(ii:Grows y.w _).out⟩
         ·refine one_call rfl kr (f:=60) rfl Tryz.func60 kr kr [.string s0] kr ((c_sMakeBlock (by omega)).mono ?_)
          rintro _ _ ⟨rfl,y9,rfl⟩
          refine⟨_,rfl,⟨ii,HB.out.to ii,HCL.out _⟩,?_⟩
          (try simp only[List.getElem_toArray,List.getElem_cons_succ,List.getElem_cons_zero]);(try simp only[nrm])
          refine wpAnyH_r1 1 kr (one_loadH rfl kr _ _ rfl qb 8 kr (row:=[.int .i64 x.Up.Seed,.int .i64 x.Up.Burst,.int .i64 x.Up.Loss]) (HV.out.to ii) _ uu65 rfl kr HR8.out ⟨ii,HB.out.to ii,HCL.out _⟩ ?_)
          (try simp only[List.getElem_toArray,List.getElem_cons_succ,List.getElem_cons_zero]);(try simp only[nrm])
          exact TAIL ⟨_,(ii:Grows y.w _).out⟩
        ·refine one_call rfl kr (f:=60) rfl Tryz.func60 kr kr [.string s0] kr ((c_sMakeBlock (by omega)).mono ?_)
         rintro _ _ ⟨rfl,y9,rfl⟩
         refine⟨_,rfl,⟨ii,HB.out.to ii,HCL.out _⟩,?_⟩
         (try simp only[List.getElem_toArray,List.getElem_cons_succ,List.getElem_cons_zero]);(try simp only[nrm])
         refine wpAnyH_r2 1 3 kr ?_ ?_
         ·refine one_loadH rfl kr _ _ rfl qb 8 kr (row:=[.int .i64 x.Up.Seed,.int .i64 x.Up.Burst,.int .i64 x.Up.Loss]) (HV.out.to ii) _ uu65 rfl kr HR8.out ⟨ii,HB.out.to ii,HCL.out _⟩ ?_
          (try simp only[List.getElem_toArray,List.getElem_cons_succ,List.getElem_cons_zero]);(try simp only[nrm])
          refine wpAnyH_r1 3 kr (one_load1 rfl kr _ _ rfl qb 14 kr (HV.out.to ii) (.slice ua un uc) HU14.out _ uu66 rfl ⟨ii,HB.out.to ii,HCL.out _⟩ ?_)
          (try simp only[List.getElem_toArray,List.getElem_cons_succ,List.getElem_cons_zero]);(try simp only[nrm])
          exact TAIL ⟨_,(ii:Grows y.w _).out⟩
         ·refine one_load1 rfl kr _ _ rfl qb 14 kr (HV.out.to ii) (.slice ua un uc) HU14.out _ uu66 rfl ⟨ii,HB.out.to ii,HCL.out _⟩ ?_
          (try simp only[List.getElem_toArray,List.getElem_cons_succ,List.getElem_cons_zero]);(try simp only[nrm])
          refine wpAnyH_r1 1 kr (one_loadH rfl kr _ _ rfl qb 8 kr (row:=[.int .i64 x.Up.Seed,.int .i64 x.Up.Burst,.int .i64 x.Up.Loss]) (HV.out.to ii) _ uu65 rfl kr HR8.out ⟨ii,HB.out.to ii,HCL.out _⟩ ?_)
          (try simp only[List.getElem_toArray,List.getElem_cons_succ,List.getElem_cons_zero]);(try simp only[nrm])
          exact TAIL ⟨_,(ii:Grows y.w _).out⟩
       case tail =>
        intro V
        refine wpAnyH_r1 14 kr ?_
        refine one_call rfl kr (f:=59) rfl Tryz.func59 kr kr [.agg #[.int .i64 x.Up.Seed,.int .i64 x.Up.Burst,.int .i64 x.Up.Loss],.slice ua un uc,.int .i64 (m.Time+m.Light),.string (makeBlock s0)] kr ?_
        rw[HTL.out]
        refine(o_sl09Send (w0:=W2) (B:=W2.heap.size) (c:=x.Up) (l:=x.Ups) (s:=makeBlock s0) (t:=x.Time+x.Light) (growsTr (ii:Grows W2 y.w) ii) nl ((growsTr (ii:Grows W2 y.w) (ii:Grows y.w V.w)).out.size) (HOW.out.to ii) HUN.out hub (makeBlock_size s0 hs2)).mono ?_
        rintro _ w6 ⟨ua2,uc2,rfl,ho2,hg2,hb2,z6,rfl⟩
        have hp2:=GBp.updK (F:=mUps) (n:=un) HGR.out HUE.out (ii:Grows y.w V.w) ho2 hg2 hb2 (flights_good HGD.out HOK.out.2.2.2.2.1 (by rw[HXT.out.1];exact hxa) (by rw[HXT.out.1];exact hxb) (by rw[HXT.out.2.1];exact hxc) (by rw[HXT.out.2.1];exact hxd))
        have HP6:=lH hp2.1
        have HK6:=lH (show ∀ k,blkOf ca=some k→z6.w.heap[k]?=y.w.heap[k]? from fun k hk=>(hp2.2 k (.inr hk)).trans ((ii:Grows y.w V.w).out.block k (HGR.out.xs (.inr hk)).2))
        clear ho2 hg2 hb2 hp2
        have hS6:(fun W=>Grows W2 W∧Held W w.heap.size vs 90∧W.cell? ⟨ob,oo+k,none⟩=some (.string s0)) z6.w:=⟨ii,HB.out.to ii,(cell_heap (HK6.out ob HBK.out) _).trans (HCL.out y.w)⟩
        refine⟨_,rfl,hS6,?_⟩
        (try simp only[List.getElem_toArray,List.getElem_cons_succ,List.getElem_cons_zero]);(try simp only[nrm])
        refine wpAnyH_take (i:=15) (v:=?vb15) rfl kr kr kr (fun _ _ _ h=>hPK.out _ _ _ _ _ h) (Or.inl ⟨by rfl,?yb15⟩) (by assumption) ?rb15
        case yb15=>intro w hSw;clear hSw;go_simp;(try with_reducible rfl)
        (try simp only[List.getElem_toArray,List.getElem_cons_succ,List.getElem_cons_zero]);(try simp only[nrm])
        refine wpAnyH_take (i:=16) (v:=?vb16) rfl kr kr kr (fun _ _ _ h=>hPK.out _ _ _ _ _ h) (Or.inl ⟨by rfl,?yb16⟩) (by assumption) ?rb16
        case yb16=>intro w hSw;clear hSw;go_simp;(try with_reducible rfl)
        (try simp only[List.getElem_toArray,List.getElem_cons_succ,List.getElem_cons_zero]);(try simp only[nrm])
        refine wpAnyH_take (i:=17) (v:=?vb17) rfl kr kr kr (fun _ _ _ h=>hPK.out _ _ _ _ _ h) (Or.inl ⟨by rfl,?yb17⟩) (by assumption) ?rb17
        case yb17=>intro w hSw;clear hSw;go_simp;(try with_reducible rfl)
        (try simp only[List.getElem_toArray,List.getElem_cons_succ,List.getElem_cons_zero]);(try simp only[nrm])
        refine wpAnyH_take (i:=18) (v:=?vb18) rfl kr kr kr (fun _ _ _ h=>hPK.out _ _ _ _ _ h) (Or.inl ⟨by rfl,?yb18⟩) (by assumption) ?rb18
        case yb18=>intro w hSw;clear hSw;go_simp;(try with_reducible rfl)
        (try simp only[List.getElem_toArray,List.getElem_cons_succ,List.getElem_cons_zero]);(try simp only[nrm])
        refine any_gbpC (o:=8) (us:=[.int .i64 (sendFlight x.Up x.Ups (makeBlock s0) (x.Time+x.Light)).1.Seed,.int .i64 (sendFlight x.Up x.Ups (makeBlock s0) (x.Time+x.Light)).1.Burst,.int .i64 (sendFlight x.Up x.Ups (makeBlock s0) (x.Time+x.Light)).1.Loss]) 19 rfl kr kr ({ x with Up:=(sendFlight x.Up x.Ups (makeBlock s0) (x.Time+x.Light)).1 }:TMission) _ _ _ rfl HP6.out kr kr kr (by rfl) nb (.inr nb) (by intros;rename_i h;obtain⟨A1,rfl,q⟩:=h;exact⟨A1,rfl,{ q with ok:=ok_up (m:=mUps.set x (sendFlight x.Up x.Ups (makeBlock s0) (x.Time+x.Light)).2) q.ok (sendBlock_ok HOK.out.2.2.2.2.1) }⟩) (w0:=W2) ii nl ?_
        intro z7 hz7 hx7
        have HP7:=lH hz7
        have HK7:=lH (show ∀ k,blkOf ca=some k→z7.w.heap[k]?=z6.w.heap[k]? from fun k hk=>hx7 k (.inr hk))
        clear hz7 hx7
        have hS7:(fun W=>Grows W2 W∧Held W w.heap.size vs 90∧W.cell? ⟨ob,oo+k,none⟩=some (.string s0)) z7.w:=⟨ii,HB.out.to ii,(cell_heap ((HK7.out ob HBK.out).trans (HK6.out ob HBK.out)) _).trans (HCL.out y.w)⟩
        refine⟨hS7,?_⟩
        (try simp only[List.getElem_toArray,List.getElem_cons_succ,List.getElem_cons_zero]);(try simp only[nrm])
        refine wpAnyH_take (i:=20) (v:=?vb20) rfl kr kr kr (fun _ _ _ h=>hPK.out _ _ _ _ _ h) (Or.inl ⟨by rfl,?yb20⟩) (by assumption) ?rb20
        case yb20=>intro w hSw;clear hSw;go_simp;(try with_reducible rfl)
        (try simp only[List.getElem_toArray,List.getElem_cons_succ,List.getElem_cons_zero]);(try simp only[nrm])
        refine any_gbS 21 rfl kr kr _ _ _ rfl HP7.out kr kr kr (w0:=W2) ii nl ?_
        intro z8 hz8 hx8
        have HP8:=lH (show GB (fun k=>False∨blkOf ca=some k) W2.heap.size qb z8.w (sendOne x s0)from hz8)
        have HK8:=lH (show ∀ k,blkOf ca=some k→z8.w.heap[k]?=z7.w.heap[k]? from fun k hk=>hx8 k (.inr hk))
        clear hz8 hx8
        refine⟨⟨ii,HB.out.to ii,(cell_heap (((HK8.out ob HBK.out).trans (HK7.out ob HBK.out)).trans (HK6.out ob HBK.out)) _).trans (HCL.out y.w)⟩,?_⟩
        (try simp only[List.getElem_toArray,List.getElem_cons_succ,List.getElem_cons_zero]);(try simp only[nrm])
        refine wpAnyH_done kr ?_ _
        refine hKK.out _ _ _ ?_
        clear hKK hPK hH hS6 hS7
        go_wp2_with (first|((with_reducible refine rl ?_);refine rq ?_;intro x))
        (try rw[← HSA.out])
        go_roundw
        case rel=>exact⟨k+1,sendOne x s0,by go_num,by omega,lH (by have:=HF.out;rw[show(L.take 3).drop k=s0::(L.take 3).drop (k+1)by rw[List.drop_take,List.drop_take,hod.out,show 3 - k=3 - (k+1)+1 by have:=HRR.out;omega,List.take_succ_cons],sendAll]at this;exact this),lH ⟨HXT.out.1,HXT.out.2.1,by have:=(sendOne_tot x s0).2;have:=HXT.out.2.2;omega⟩,(by first|exact HP8|(rw[← HSA.out];exact HP8)),(by first|exact lH (HOL.out.same fun k hk _ _=>((HK8.out k hk).trans (HK7.out k hk)).trans (HK6.out k hk))|(rw[← HSA.out];exact lH (HOL.out.same fun k hk _ _=>((HK8.out k hk).trans (HK7.out k hk)).trans (HK6.out k hk)))),Later.of⟩
        case measure=>simp[intOf];omega
      ·obtain rfl:k=r:=by omega
       by_cases hkn:k<n
       ·have kd2:decide ((k:Int)<3)=false:=by have:=HRR.out;simp;omega
        have kd1:decide ((k:Int)<(n:Int))=true:=by simp;omega
        obtain⟨vs8,hH8,hl8,h18,-,χ8,hO8⟩:=HGR.out.vs
        have HH8:=lH hH8;have HO8:=lH hO8;have H18:=lH h18;have HL8:=lH (show vs8.length=61 from hl8)
        clear hO8 hH8 h18 hl8
        go_wp2_with (first|((with_reducible refine rl ?_);(repeat(first|go_big_quiet_step (first|fail)|simp only[kd1]|simp only[kd2]));refine wpQuiet_nil ?_;intro x)|(refine sL rfl _ (.tmp 3) rfl (qb) kr HH8 ii uu90 HL8 ?_)|(refine sW rfl _ _ _ rfl (w.heap.size+1) rfl (us:=vs8) (HR.out.to ii) HL8 H18 (w0:=w) ii (by omega) ?_;intro z8 HX8 KX8))
        refine bodyPost_ret (v:=.agg vs8.toArray) (results_cell (P:=Tryz.prog) rfl rfl HX8.out _ uu90 rfl (by rw[HL8.out];kernel_rfl)) rfl ?_
        rw[show sendUp m=x by have:=HF.out;rw[List.drop_of_length_le (by rw[List.length_take];have:=HRR.out;omega)]at this;exact this.symm]
        exact⟨vs8,χ8,rfl,obox_fin (obox_to HO8.out ii) KX8.out (show w.heap.size+1<W2.heap.size by omega) hW2,Later.of⟩
       ·have kd1:decide ((k:Int)<(n:Int))=false:=by simp;omega
        obtain⟨vs8,hH8,hl8,h18,-,χ8,hO8⟩:=HGR.out.vs
        have HH8:=lH hH8;have HO8:=lH hO8;have H18:=lH h18;have HL8:=lH (show vs8.length=61 from hl8)
        clear hO8 hH8 h18 hl8
        go_wp2_with (first|((with_reducible refine rl ?_);(repeat(first|go_big_quiet_step (first|fail)|simp only[kd1]));refine wpQuiet_nil ?_;intro x)|(refine sL rfl _ (.tmp 3) rfl (qb) kr HH8 ii uu90 HL8 ?_)|(refine sW rfl _ _ _ rfl (w.heap.size+1) rfl (us:=vs8) (HR.out.to ii) HL8 H18 (w0:=w) ii (by omega) ?_;intro z8 HX8 KX8))
        refine bodyPost_ret (v:=.agg vs8.toArray) (results_cell (P:=Tryz.prog) rfl rfl HX8.out _ uu90 rfl (by rw[HL8.out];kernel_rfl)) rfl ?_
        rw[show sendUp m=x by have:=HF.out;rw[List.drop_of_length_le (by rw[List.length_take];have:=HRR.out;omega)]at this;exact this.symm]
        exact⟨vs8,χ8,rfl,obox_fin (obox_to HO8.out ii) KX8.out (show w.heap.size+1<W2.heap.size by omega) hW2,Later.of⟩
    ·have HUT2:=lH (show upTexts (offeredM m)=[encCmd 1 0 ⟨#[]⟩]from HUT.out)
     obtain⟨e,he⟩:∃ e,encCmd 1 0 ⟨#[]⟩=e:=⟨_,rfl⟩
     have HEC:=fun(W:World)=>(c_sEncodeCommand (kind:=1) (seq:=0) (s:=⟨#[]⟩) (w:=W) (.inr rfl) (by decide) (by decide) (by decide))
     rw[he]at HUT2 HEC
     clear he HUT HOC
     go_upto_region 15 with(first|((with_reducible refine rl ?_);refine rq ?_;intro x)|(refine stepLoad1 rfl _ (.tmp 67) rfl (qb) 22 kr (HV7.out.to ii) (_) HR22.out _ Tryz.underlying4 rfl ?_)|(go_at_call 58;refine gm (HEC _) ?_;intro ye))
     obtain⟨L,hL⟩:∃ L,[e]=L:=⟨_,rfl⟩
     have hn:L.length=1:=by rw[← hL];rfl
     obtain⟨BL,hBL⟩:∃ BL,(((y0.andThen y3).andThen yc).andThen ye).w.heap.size=BL:=⟨_,rfl⟩
     have hyB:y0.w.heap.size≤BL:=hBL▸(ii:Grows y0.w (((y0.andThen y3).andThen yc).andThen ye).w).out.size
     have HOC:=lH (show Own encStr 9 1 BL ((((y0.andThen y3).andThen yc).andThen ye).w.alloc (.cells #[.string e] 9)) (some ⟨BL,0,none⟩) 1 L from hBL▸own_block encStr_len hn (by omega) nl rfl (by rw[← hL];rfl) (Later.here _))
     rw[hBL]
     obtain⟨ca,hca⟩:∃ ca:Option Addr,some ⟨BL,0,none⟩=ca:=⟨_,rfl⟩
     rw[hca]at HOC ⊢
     rw[hL]at HUT2
     rw[HUT2.out]at HFT HSU0
     have HFIT:=lH HFT.out
     have HSU:=lH HSU0.out.symm
     clear HFT HSU0 HUT2 hL hBL hca HEC
     have HGL:=lH (HGM.out.prot (P:=fun k=>blkOf ca=some k) (w:=((((y0.andThen y3).andThen yc).andThen ye).w.alloc (.cells #[.string e] 9))) ii fun k hk=>by have:=HOC.out.blk k hk;exact⟨by omega,this.2⟩)
     clear HV7 HRP4 HR17 HR22 F4 OKS HSO HGM
     have HSV:∃ n cc,Value.slice ca 1 1=Value.slice ca n cc∧L.length=n∧Hid (Own encStr 9 1 BL ((((y0.andThen y3).andThen yc).andThen ye).w.alloc (.cells #[.string e] 9)) ca cc L):=⟨1,1,rfl,hn,HOC⟩
     clear hn HOC
     generalize Value.slice ca 1 1=sv at HSV ⊢
     obtain⟨n,cc,rfl,hn,HOC⟩:=HSV
     obtain⟨r,hr⟩:∃ r,min 3 L.length=r:=⟨_,rfl⟩
     have HRR:=lH (show r≤L.length∧r≤3∧(r=3∨r=L.length)by omega)
     clear hr
     go_upto_region 16 with(first|((with_reducible refine rl ?_);refine rq ?_;intro x))
     go_loopw [7] (fun v wr=>∃ (k:Nat) (x:TMission),v=.int .i64 k∧k≤r∧Hid (sendAll ((L.take 3).drop k) x=sendUp m)∧Hid (x.Time=m.Time∧x.Light=m.Light∧x.Ups.length≤100000000+k)∧Hid (GB (fun k=>False∨blkOf ca=some k) W2.heap.size qb wr x)∧Hid (Own encStr 9 1 BL wr ca cc L)∧∃ y:Later W2,wr=y.w) (fun v _=>(r - intOf v).toNat)
     case atStart=>exact⟨0,offeredM m,rfl,Nat.zero_le _,lH HSU.out,lH ⟨rfl,rfl,HUL.out⟩,lH (HGL.out.to ii),lH (HOC.out.to ii),Later.of⟩
     case round =>
      obtain⟨k,x,rfl,hk,HF,HXT,HGR,HOL,y,rfl⟩:=hrel
      by_cases hkr:k<r
      ·obtain⟨ob,oo,s0,hsa,hob,hod,hd0⟩:=(Own.sl HOL.out).str (show k<L.length by have:=HRR.out;omega)
       have HSA:=lH hsa
       have hoB:ob<y.w.heap.size:=hob.out
       have hblk:blkOf ca=some ob:=by rw[hsa];rfl
       have HBK:=lH hblk
       clear hsa hblk
       have hs2:s0.size≤200:=HFIT.out s0 (List.mem_of_mem_drop (show s0∈L.drop k by rw[hod.out];simp))
       obtain⟨vs5,A,hV5,hvs5,F⟩:=gb_cells HGR.out
       have HV:=lH hV5
       have HR8:=lH (show(vs5.drop 8).take 3=[.int .i64 x.Up.Seed,.int .i64 x.Up.Burst,.int .i64 x.Up.Loss]by rw[hvs5];rfl)
       have HOK:=lH F.ok
       clear hV5 hvs5 F
       obtain⟨ua,uc,ue,hown,hgood,-⟩:=HGR.out.own mUps
       have HUE:=lH (ue y.w)
       have HOW:=lH (show Own encTFlight 177 2 W2.heap.size y.w ua uc x.Ups from hown)
       have HGD:=lH hgood
       clear hown hgood
       obtain⟨un,hun⟩:∃ k,x.Ups.length=k:=⟨_,rfl⟩
       have HUN:=lH hun
       have HU14:=lH (show vs5[14]?=some (.slice ua un uc)by rw[← HV.out.cell 14,← hun];exact ue y.w)
       have hub:un≤1000000000:=by have:=HXT.out.2.2;have:=HRR.out;omega
       clear ue hun
       have hx0:0≤m.Time∧m.Time≤1000000:=⟨HMP.out.1,HMP.out.2.1⟩
       have hx1:0≤m.Light∧m.Light≤50:=⟨HMP.out.2.2.1,HMP.out.2.2.2.1⟩
       have hxa:=hx0.1;have hxb:=hx0.2;have hxc:=hx1.1;have hxd:=hx1.2
       clear hx0 hx1
       have HWT:=lH (show IntKind.i64.wrap (m.Time+m.Light)=m.Time+m.Light from i64_wr (by omega) (by omega))
       have HTL:=lH (show m.Time+m.Light=x.Time+x.Light by rw[HXT.out.1,HXT.out.2.1])
       have hqy:LtN qb y.w.heap.size:=⟨HGR.out.lt⟩
       have HCL:=lH hd0
       clear hd0
       have kd1:decide ((k:Int)<(n:Int))=true:=by have:=HRR.out;simp;omega
       have kd2:decide ((k:Int)<3)=true:=by have:=HRR.out;simp;omega
       have hk3:(k:Int)<3:=by have:=HRR.out;omega
       have hkI:(k:Int)<(n:Int):=by have:=HRR.out;omega
       go_upto_region 18 with(first|((with_reducible refine rl ?_);(repeat(first|go_big_quiet_step (first|fail)|simp only[kd1]|simp only[kd2]));refine wpQuiet_nil ?_;intro x))
       have kn:k<n:=by have:=HRR.out;omega
       refine wp_abs (fun _ _ _ _ _ h=>h) fun KK hPK hKK=>?_
       refine wp_region_held_drew (S:=fun W=>Grows W2 W∧Held W w.heap.size vs 90∧W.cell? ⟨ob,oo+k,none⟩=some (.string s0)) kr ⟨ii,HB.out.to ii,HCL.out _⟩ (fun hH=>?_)
       refine wpAnyH_take (i:=0) (v:=?vc0) rfl kr kr kr (fun _ _ _ h=>hPK.out _ _ _ _ _ h) (Or.inl ⟨by rfl,?yc0⟩) (by assumption) ?rc0
       case yc0=>intro w hSw;clear hSw;go_simp;(try with_reducible rfl)
       (try simp only[List.getElem_toArray,List.getElem_cons_succ,List.getElem_cons_zero]);(try simp only[nrm])
       refine wpAnyH_take (i:=2) (v:=?vc2) rfl kr kr kr (fun _ _ _ h=>hPK.out _ _ _ _ _ h) (Or.inl ⟨by rfl,?yc2⟩) (by assumption) ?rc2
       case yc2=>intro w hSw;clear hSw;go_simp;(try with_reducible rfl)
       (try simp only[List.getElem_toArray,List.getElem_cons_succ,List.getElem_cons_zero]);(try simp only[nrm])
       refine wpAnyH_take (i:=4) (v:=?vc4) rfl kr kr kr (fun _ _ _ h=>hPK.out _ _ _ _ _ h) (Or.inl ⟨by rfl,?yc4⟩) (by assumption) ?rc4
       case yc4=>intro w hSw;clear hSw;go_simp;(try with_reducible rfl)
       (try simp only[List.getElem_toArray,List.getElem_cons_succ,List.getElem_cons_zero]);(try simp only[nrm])
       refine wpAnyH_take (i:=6) (v:=?vc6) rfl kr kr kr (fun _ _ _ h=>hPK.out _ _ _ _ _ h) (Or.inl ⟨by rfl,?yc6⟩) (by assumption) ?rc6
       case yc6=>intro w hSw;clear hSw;go_simp;(try with_reducible rfl)
       (try simp only[List.getElem_toArray,List.getElem_cons_succ,List.getElem_cons_zero]);(try simp only[nrm])
       refine wpAnyH_take (i:=9) (v:=?vc9) rfl kr kr kr (fun _ _ _ h=>hPK.out _ _ _ _ _ h) (Or.inl ⟨by rfl,?yc9⟩) (by assumption) ?rc9
       case yc9=>intro w hSw;clear hSw;go_simp;(try with_reducible rfl)
       (try simp only[List.getElem_toArray,List.getElem_cons_succ,List.getElem_cons_zero]);(try simp only[nrm])
       refine wpAnyH_take (i:=10) (v:=?vc10) rfl kr kr kr (fun _ _ _ h=>hPK.out _ _ _ _ _ h) (Or.inl ⟨by rfl,?yc10⟩) (by assumption) ?rc10
       case yc10=>intro w hSw;clear hSw;go_simp;(try with_reducible rfl)
       (try simp only[List.getElem_toArray,List.getElem_cons_succ,List.getElem_cons_zero]);(try simp only[nrm])
       refine wpAnyH_take (i:=5) (v:=.int .i64 m.Time) rfl kr kr kr (fun _ _ _ h=>hPK.out _ _ _ _ _ h) (yields_cell (by rfl) _ _ rfl (w.heap.size) (0) kr (.int .i64 m.Time) (fun W hW=>(hW.2.1.cell 0).trans HRP0.out) _ uu3 rfl) (by assumption) ?_
       (try simp only[List.getElem_toArray,List.getElem_cons_succ,List.getElem_cons_zero]);(try simp only[nrm])
       refine wpAnyH_take (i:=7) (v:=.int .i64 m.Light) rfl kr kr kr (fun _ _ _ h=>hPK.out _ _ _ _ _ h) (yields_cell (by rfl) _ _ rfl (w.heap.size) (1) kr (.int .i64 m.Light) (fun W hW=>(hW.2.1.cell 1).trans HRP1.out) _ uu3 rfl) (by assumption) ?_
       (try simp only[List.getElem_toArray,List.getElem_cons_succ,List.getElem_cons_zero]);(try simp only[nrm])
       refine wpAnyH_take (i:=8) (v:=?vc8) rfl kr kr kr (fun _ _ _ h=>hPK.out _ _ _ _ _ h) (Or.inl ⟨by rfl,?yc8⟩) (by assumption) ?rc8
       case yc8=>intro w hSw;clear hSw;go_simp;(try rw[HWT.out]);(try with_reducible rfl)
       (try simp only[List.getElem_toArray,List.getElem_cons_succ,List.getElem_cons_zero]);(try simp only[nrm])
       (try rw[HSA.out])
       refine wpAnyH_take (i:=11) (v:=?vc11) rfl kr kr kr (fun _ _ _ h=>hPK.out _ _ _ _ _ h) (Or.inl ⟨by rfl,?yc11⟩) (by assumption) ?rc11
       case yc11=>intro w hSw;clear hSw;go_simp;(try simp only[kq1,kq2,if_true]);(try with_reducible rfl)
       (try simp only[List.getElem_toArray,List.getElem_cons_succ,List.getElem_cons_zero]);(try simp only[nrm])
       refine wpAnyH_take (i:=12) (v:=.string s0) rfl kr kr kr (fun _ _ _ h=>hPK.out _ _ _ _ _ h) (yields_cell (by rfl) _ _ rfl (ob) (oo+k) kr (.string s0) (fun W hW=>hW.2.2) _ Tryz.underlying9 rfl) (by assumption) ?_
       (try simp only[List.getElem_toArray,List.getElem_cons_succ,List.getElem_cons_zero]);(try simp only[nrm])
       apply any_meet (y:=y.w)
       case main =>
        intro TAIL
        refine wpAnyH_r3 1 3 13 kr ?_ ?_ ?_
        ·refine one_loadH rfl kr _ _ rfl qb 8 kr (row:=[.int .i64 x.Up.Seed,.int .i64 x.Up.Burst,.int .i64 x.Up.Loss]) (HV.out.to ii) _ uu65 rfl kr HR8.out ⟨ii,HB.out.to ii,HCL.out _⟩ ?_
         (try simp only[List.getElem_toArray,List.getElem_cons_succ,List.getElem_cons_zero]);(try simp only[nrm])
         refine wpAnyH_r2 3 13 kr ?_ ?_
         ·refine one_load1 rfl kr _ _ rfl qb 14 kr (HV.out.to ii) (.slice ua un uc) HU14.out _ uu66 rfl ⟨ii,HB.out.to ii,HCL.out _⟩ ?_
          (try simp only[List.getElem_toArray,List.getElem_cons_succ,List.getElem_cons_zero]);(try simp only[nrm])
          refine wpAnyH_r1 13 kr (one_call rfl kr (f:=60) rfl Tryz.func60 kr kr [.string s0] kr ((c_sMakeBlock (by omega)).mono ?_))
          rintro _ _ ⟨rfl,y9,rfl⟩
          refine⟨_,rfl,⟨ii,HB.out.to ii,HCL.out _⟩,?_⟩
          (try simp only[List.getElem_toArray,List.getElem_cons_succ,List.getElem_cons_zero]);(try simp only[nrm])
          exact TAIL ⟨_,(ii:Grows y.w _).out⟩
         ·refine one_call rfl kr (f:=60) rfl Tryz.func60 kr kr [.string s0] kr ((c_sMakeBlock (by omega)).mono ?_)
          rintro _ _ ⟨rfl,y9,rfl⟩
          refine⟨_,rfl,⟨ii,HB.out.to ii,HCL.out _⟩,?_⟩
          (try simp only[List.getElem_toArray,List.getElem_cons_succ,List.getElem_cons_zero]);(try simp only[nrm])
          refine wpAnyH_r1 3 kr (one_load1 rfl kr _ _ rfl qb 14 kr (HV.out.to ii) (.slice ua un uc) HU14.out _ uu66 rfl ⟨ii,HB.out.to ii,HCL.out _⟩ ?_)
          (try simp only[List.getElem_toArray,List.getElem_cons_succ,List.getElem_cons_zero]);(try simp only[nrm])
          exact TAIL ⟨_,(ii:Grows y.w _).out⟩
        ·refine one_load1 rfl kr _ _ rfl qb 14 kr (HV.out.to ii) (.slice ua un uc) HU14.out _ uu66 rfl ⟨ii,HB.out.to ii,HCL.out _⟩ ?_
         (try simp only[List.getElem_toArray,List.getElem_cons_succ,List.getElem_cons_zero]);(try simp only[nrm])
         refine wpAnyH_r2 1 13 kr ?_ ?_
         ·refine one_loadH rfl kr _ _ rfl qb 8 kr (row:=[.int .i64 x.Up.Seed,.int .i64 x.Up.Burst,.int .i64 x.Up.Loss]) (HV.out.to ii) _ uu65 rfl kr HR8.out ⟨ii,HB.out.to ii,HCL.out _⟩ ?_
          (try simp only[List.getElem_toArray,List.getElem_cons_succ,List.getElem_cons_zero]);(try simp only[nrm])
          refine wpAnyH_r1 13 kr (one_call rfl kr (f:=60) rfl Tryz.func60 kr kr [.string s0] kr ((c_sMakeBlock (by omega)).mono ?_))
          rintro _ _ ⟨rfl,y9,rfl⟩
          refine⟨_,rfl,⟨ii,HB.out.to ii,HCL.out _⟩,?_⟩
          (try simp only[List.getElem_toArray,List.getElem_cons_succ,List.getElem_cons_zero]);(try simp only[nrm])
          exact TAIL ⟨_,(ii:Grows y.w _).out⟩
         ·refine one_call rfl kr (f:=60) rfl Tryz.func60 kr kr [.string s0] kr ((c_sMakeBlock (by omega)).mono ?_)
          rintro _ _ ⟨rfl,y9,rfl⟩
          refine⟨_,rfl,⟨ii,HB.out.to ii,HCL.out _⟩,?_⟩
          (try simp only[List.getElem_toArray,List.getElem_cons_succ,List.getElem_cons_zero]);(try simp only[nrm])
          refine wpAnyH_r1 1 kr (one_loadH rfl kr _ _ rfl qb 8 kr (row:=[.int .i64 x.Up.Seed,.int .i64 x.Up.Burst,.int .i64 x.Up.Loss]) (HV.out.to ii) _ uu65 rfl kr HR8.out ⟨ii,HB.out.to ii,HCL.out _⟩ ?_)
          (try simp only[List.getElem_toArray,List.getElem_cons_succ,List.getElem_cons_zero]);(try simp only[nrm])
          exact TAIL ⟨_,(ii:Grows y.w _).out⟩
        ·refine one_call rfl kr (f:=60) rfl Tryz.func60 kr kr [.string s0] kr ((c_sMakeBlock (by omega)).mono ?_)
         rintro _ _ ⟨rfl,y9,rfl⟩
         refine⟨_,rfl,⟨ii,HB.out.to ii,HCL.out _⟩,?_⟩
         (try simp only[List.getElem_toArray,List.getElem_cons_succ,List.getElem_cons_zero]);(try simp only[nrm])
         refine wpAnyH_r2 1 3 kr ?_ ?_
         ·refine one_loadH rfl kr _ _ rfl qb 8 kr (row:=[.int .i64 x.Up.Seed,.int .i64 x.Up.Burst,.int .i64 x.Up.Loss]) (HV.out.to ii) _ uu65 rfl kr HR8.out ⟨ii,HB.out.to ii,HCL.out _⟩ ?_
          (try simp only[List.getElem_toArray,List.getElem_cons_succ,List.getElem_cons_zero]);(try simp only[nrm])
          refine wpAnyH_r1 3 kr (one_load1 rfl kr _ _ rfl qb 14 kr (HV.out.to ii) (.slice ua un uc) HU14.out _ uu66 rfl ⟨ii,HB.out.to ii,HCL.out _⟩ ?_)
          (try simp only[List.getElem_toArray,List.getElem_cons_succ,List.getElem_cons_zero]);(try simp only[nrm])
          exact TAIL ⟨_,(ii:Grows y.w _).out⟩
         ·refine one_load1 rfl kr _ _ rfl qb 14 kr (HV.out.to ii) (.slice ua un uc) HU14.out _ uu66 rfl ⟨ii,HB.out.to ii,HCL.out _⟩ ?_
          (try simp only[List.getElem_toArray,List.getElem_cons_succ,List.getElem_cons_zero]);(try simp only[nrm])
          refine wpAnyH_r1 1 kr (one_loadH rfl kr _ _ rfl qb 8 kr (row:=[.int .i64 x.Up.Seed,.int .i64 x.Up.Burst,.int .i64 x.Up.Loss]) (HV.out.to ii) _ uu65 rfl kr HR8.out ⟨ii,HB.out.to ii,HCL.out _⟩ ?_)
          (try simp only[List.getElem_toArray,List.getElem_cons_succ,List.getElem_cons_zero]);(try simp only[nrm])
          exact TAIL ⟨_,(ii:Grows y.w _).out⟩
       case tail =>
        intro V
        refine wpAnyH_r1 14 kr ?_
        refine one_call rfl kr (f:=59) rfl Tryz.func59 kr kr [.agg #[.int .i64 x.Up.Seed,.int .i64 x.Up.Burst,.int .i64 x.Up.Loss],.slice ua un uc,.int .i64 (m.Time+m.Light),.string (makeBlock s0)] kr ?_
        rw[HTL.out]
        refine(o_sl09Send (w0:=W2) (B:=W2.heap.size) (c:=x.Up) (l:=x.Ups) (s:=makeBlock s0) (t:=x.Time+x.Light) (growsTr (ii:Grows W2 y.w) ii) nl ((growsTr (ii:Grows W2 y.w) (ii:Grows y.w V.w)).out.size) (HOW.out.to ii) HUN.out hub (makeBlock_size s0 hs2)).mono ?_
        rintro _ w6 ⟨ua2,uc2,rfl,ho2,hg2,hb2,z6,rfl⟩
        have hp2:=GBp.updK (F:=mUps) (n:=un) HGR.out HUE.out (ii:Grows y.w V.w) ho2 hg2 hb2 (flights_good HGD.out HOK.out.2.2.2.2.1 (by rw[HXT.out.1];exact hxa) (by rw[HXT.out.1];exact hxb) (by rw[HXT.out.2.1];exact hxc) (by rw[HXT.out.2.1];exact hxd))
        have HP6:=lH hp2.1
        have HK6:=lH (show ∀ k,blkOf ca=some k→z6.w.heap[k]?=y.w.heap[k]? from fun k hk=>(hp2.2 k (.inr hk)).trans ((ii:Grows y.w V.w).out.block k (HGR.out.xs (.inr hk)).2))
        clear ho2 hg2 hb2 hp2
        have hS6:(fun W=>Grows W2 W∧Held W w.heap.size vs 90∧W.cell? ⟨ob,oo+k,none⟩=some (.string s0)) z6.w:=⟨ii,HB.out.to ii,(cell_heap (HK6.out ob HBK.out) _).trans (HCL.out y.w)⟩
        refine⟨_,rfl,hS6,?_⟩
        (try simp only[List.getElem_toArray,List.getElem_cons_succ,List.getElem_cons_zero]);(try simp only[nrm])
        refine wpAnyH_take (i:=15) (v:=?vc15) rfl kr kr kr (fun _ _ _ h=>hPK.out _ _ _ _ _ h) (Or.inl ⟨by rfl,?yc15⟩) (by assumption) ?rc15
        case yc15=>intro w hSw;clear hSw;go_simp;(try with_reducible rfl)
        (try simp only[List.getElem_toArray,List.getElem_cons_succ,List.getElem_cons_zero]);(try simp only[nrm])
        refine wpAnyH_take (i:=16) (v:=?vc16) rfl kr kr kr (fun _ _ _ h=>hPK.out _ _ _ _ _ h) (Or.inl ⟨by rfl,?yc16⟩) (by assumption) ?rc16
        case yc16=>intro w hSw;clear hSw;go_simp;(try with_reducible rfl)
        (try simp only[List.getElem_toArray,List.getElem_cons_succ,List.getElem_cons_zero]);(try simp only[nrm])
        refine wpAnyH_take (i:=17) (v:=?vc17) rfl kr kr kr (fun _ _ _ h=>hPK.out _ _ _ _ _ h) (Or.inl ⟨by rfl,?yc17⟩) (by assumption) ?rc17
        case yc17=>intro w hSw;clear hSw;go_simp;(try with_reducible rfl)
        (try simp only[List.getElem_toArray,List.getElem_cons_succ,List.getElem_cons_zero]);(try simp only[nrm])
        refine wpAnyH_take (i:=18) (v:=?vc18) rfl kr kr kr (fun _ _ _ h=>hPK.out _ _ _ _ _ h) (Or.inl ⟨by rfl,?yc18⟩) (by assumption) ?rc18
        case yc18=>intro w hSw;clear hSw;go_simp;(try with_reducible rfl)
        (try simp only[List.getElem_toArray,List.getElem_cons_succ,List.getElem_cons_zero]);(try simp only[nrm])
        refine any_gbpC (o:=8) (us:=[.int .i64 (sendFlight x.Up x.Ups (makeBlock s0) (x.Time+x.Light)).1.Seed,.int .i64 (sendFlight x.Up x.Ups (makeBlock s0) (x.Time+x.Light)).1.Burst,.int .i64 (sendFlight x.Up x.Ups (makeBlock s0) (x.Time+x.Light)).1.Loss]) 19 rfl kr kr ({ x with Up:=(sendFlight x.Up x.Ups (makeBlock s0) (x.Time+x.Light)).1 }:TMission) _ _ _ rfl HP6.out kr kr kr (by rfl) nb (.inr nb) (by intros;rename_i h;obtain⟨A1,rfl,q⟩:=h;exact⟨A1,rfl,{ q with ok:=ok_up (m:=mUps.set x (sendFlight x.Up x.Ups (makeBlock s0) (x.Time+x.Light)).2) q.ok (sendBlock_ok HOK.out.2.2.2.2.1) }⟩) (w0:=W2) ii nl ?_
        intro z7 hz7 hx7
        have HP7:=lH hz7
        have HK7:=lH (show ∀ k,blkOf ca=some k→z7.w.heap[k]?=z6.w.heap[k]? from fun k hk=>hx7 k (.inr hk))
        clear hz7 hx7
        have hS7:(fun W=>Grows W2 W∧Held W w.heap.size vs 90∧W.cell? ⟨ob,oo+k,none⟩=some (.string s0)) z7.w:=⟨ii,HB.out.to ii,(cell_heap ((HK7.out ob HBK.out).trans (HK6.out ob HBK.out)) _).trans (HCL.out y.w)⟩
        refine⟨hS7,?_⟩
        (try simp only[List.getElem_toArray,List.getElem_cons_succ,List.getElem_cons_zero]);(try simp only[nrm])
        refine wpAnyH_take (i:=20) (v:=?vc20) rfl kr kr kr (fun _ _ _ h=>hPK.out _ _ _ _ _ h) (Or.inl ⟨by rfl,?yc20⟩) (by assumption) ?rc20
        case yc20=>intro w hSw;clear hSw;go_simp;(try with_reducible rfl)
        (try simp only[List.getElem_toArray,List.getElem_cons_succ,List.getElem_cons_zero]);(try simp only[nrm])
        refine any_gbS 21 rfl kr kr _ _ _ rfl HP7.out kr kr kr (w0:=W2) ii nl ?_
        intro z8 hz8 hx8
        have HP8:=lH (show GB (fun k=>False∨blkOf ca=some k) W2.heap.size qb z8.w (sendOne x s0)from hz8)
        have HK8:=lH (show ∀ k,blkOf ca=some k→z8.w.heap[k]?=z7.w.heap[k]? from fun k hk=>hx8 k (.inr hk))
        clear hz8 hx8
        refine⟨⟨ii,HB.out.to ii,(cell_heap (((HK8.out ob HBK.out).trans (HK7.out ob HBK.out)).trans (HK6.out ob HBK.out)) _).trans (HCL.out y.w)⟩,?_⟩
        (try simp only[List.getElem_toArray,List.getElem_cons_succ,List.getElem_cons_zero]);(try simp only[nrm])
        refine wpAnyH_done kr ?_ _
        refine hKK.out _ _ _ ?_
        clear hKK hPK hH hS6 hS7
        go_wp2_with (first|((with_reducible refine rl ?_);refine rq ?_;intro x))
        (try rw[← HSA.out])
        go_roundw
        case rel=>exact⟨k+1,sendOne x s0,by go_num,by omega,lH (by have:=HF.out;rw[show(L.take 3).drop k=s0::(L.take 3).drop (k+1)by rw[List.drop_take,List.drop_take,hod.out,show 3 - k=3 - (k+1)+1 by have:=HRR.out;omega,List.take_succ_cons],sendAll]at this;exact this),lH ⟨HXT.out.1,HXT.out.2.1,by have:=(sendOne_tot x s0).2;have:=HXT.out.2.2;omega⟩,(by first|exact HP8|(rw[← HSA.out];exact HP8)),(by first|exact lH (HOL.out.same fun k hk _ _=>((HK8.out k hk).trans (HK7.out k hk)).trans (HK6.out k hk))|(rw[← HSA.out];exact lH (HOL.out.same fun k hk _ _=>((HK8.out k hk).trans (HK7.out k hk)).trans (HK6.out k hk)))),Later.of⟩
        case measure=>simp[intOf];omega
      ·obtain rfl:k=r:=by omega
       by_cases hkn:k<n
       ·have kd2:decide ((k:Int)<3)=false:=by have:=HRR.out;simp;omega
        have kd1:decide ((k:Int)<(n:Int))=true:=by simp;omega
        obtain⟨vs8,hH8,hl8,h18,-,χ8,hO8⟩:=HGR.out.vs
        have HH8:=lH hH8;have HO8:=lH hO8;have H18:=lH h18;have HL8:=lH (show vs8.length=61 from hl8)
        clear hO8 hH8 h18 hl8
        go_wp2_with (first|((with_reducible refine rl ?_);(repeat(first|go_big_quiet_step (first|fail)|simp only[kd1]|simp only[kd2]));refine wpQuiet_nil ?_;intro x)|(refine sL rfl _ (.tmp 3) rfl (qb) kr HH8 ii uu90 HL8 ?_)|(refine sW rfl _ _ _ rfl (w.heap.size+1) rfl (us:=vs8) (HR.out.to ii) HL8 H18 (w0:=w) ii (by omega) ?_;intro z8 HX8 KX8))
        refine bodyPost_ret (v:=.agg vs8.toArray) (results_cell (P:=Tryz.prog) rfl rfl HX8.out _ uu90 rfl (by rw[HL8.out];kernel_rfl)) rfl ?_
        rw[show sendUp m=x by have:=HF.out;rw[List.drop_of_length_le (by rw[List.length_take];have:=HRR.out;omega)]at this;exact this.symm]
        exact⟨vs8,χ8,rfl,obox_fin (obox_to HO8.out ii) KX8.out (show w.heap.size+1<W2.heap.size by omega) hW2,Later.of⟩
       ·have kd1:decide ((k:Int)<(n:Int))=false:=by simp;omega
        obtain⟨vs8,hH8,hl8,h18,-,χ8,hO8⟩:=HGR.out.vs
        have HH8:=lH hH8;have HO8:=lH hO8;have H18:=lH h18;have HL8:=lH (show vs8.length=61 from hl8)
        clear hO8 hH8 h18 hl8
        go_wp2_with (first|((with_reducible refine rl ?_);(repeat(first|go_big_quiet_step (first|fail)|simp only[kd1]));refine wpQuiet_nil ?_;intro x)|(refine sL rfl _ (.tmp 3) rfl (qb) kr HH8 ii uu90 HL8 ?_)|(refine sW rfl _ _ _ rfl (w.heap.size+1) rfl (us:=vs8) (HR.out.to ii) HL8 H18 (w0:=w) ii (by omega) ?_;intro z8 HX8 KX8))
        refine bodyPost_ret (v:=.agg vs8.toArray) (results_cell (P:=Tryz.prog) rfl rfl HX8.out _ uu90 rfl (by rw[HL8.out];kernel_rfl)) rfl ?_
        rw[show sendUp m=x by have:=HF.out;rw[List.drop_of_length_le (by rw[List.length_take];have:=HRR.out;omega)]at this;exact this.symm]
        exact⟨vs8,χ8,rfl,obox_fin (obox_to HO8.out ii) KX8.out (show w.heap.size+1<W2.heap.size by omega) hW2,Later.of⟩
