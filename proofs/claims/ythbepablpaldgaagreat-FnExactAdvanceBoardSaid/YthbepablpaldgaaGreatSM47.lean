/- AdvanceBoard of the program. No condition but on sizes. -/
import Derived.Test.YthbepablpaldgaaGreatSAdvP
import Derived.Test.YthbepablpaldgaaGreatSTkI
import Derived.Test.YthbepablpaldgaaGreatSNfO
import Derived.Test.YthbepablpaldgaaGreatSCopyMI
import Derived.Test.YthbepablpaldgaaGreatSM26
import Derived.Test.YthbepablpaldgaaGreatSM20
import Derived.Deep.CutRange
import Derived.Deep.CutBlock
import Derived.Test.YthbepablpaldgaaGreatSM45
import Derived.Test.YthbepablpaldgaaGreatSCopyMS
import Derived.Test.YthbepablpaldgaaGreatSM38
import Derived.Test.YthbepablpaldgaaGreatSDOf
import Derived.Test.YthbepablpaldgaaGreatSM0
namespace Go.Proofs.YthbepablpaldgaaGreat
set_option maxRecDepth 100000
set_option maxHeartbeats 4000000
set_option linter.unusedVariables false
open Go.ChangeShapes Go.WideShapes Go.ChangeAt Go.RowKit
private abbrev uu3:=Tryz.underlying3
private abbrev uu60:=Tryz.underlying60
private abbrev uu84:=Tryz.underlying84
private abbrev uu90:=Tryz.underlying90
theorem ok_begun{m:TMission}{n:Int}(h:okDTMission m)(hn:i64 n):okDTMission { m with Space:={ m.Space with Begun:=n } }:=by
 obtain⟨h1,h2,h3,h4,h5,h6,h7,h8,h9⟩:=h
 obtain⟨g1,g2,g3,g4,g5,g6⟩:=h8
 exact⟨h1,h2,h3,h4,h5,h6,h7,⟨g1,g2,g3,g4,hn,g6⟩,h9⟩
theorem o_iAdvanceBoard5{B:Nat}{vs:List Value}{m:TMission}{w:World}(h:Enc.Rd B w vs m)(ht:Enc.tot m≤100000000)(ht5:Enc.tot m≤20000000) :
  Calls Tryz.prog 8 #[.agg vs.toArray] w (GivesO w (advanceBoard m)):=by
 have HT5:=lH ht5;clear ht5
 have HL:=lH (len_mission h)
 have HM:=lH h;clear h
 have HT:=lH ht;clear ht
 have HB:=lH ((Held.new w vs 90 w.heap.size rfl).to (ii:Grows _ ((w.alloc (.cells vs.toArray 90)).alloc (.cells zMission.toArray 90))))
 have HR:=lH (Held.new (w.alloc (.cells vs.toArray 90)) zMission 90 (w.heap.size+1) (by simp))
 have gW:Grows w ((w.alloc (.cells vs.toArray 90)).alloc (.cells zMission.toArray 90)):=inferInstance
 have hsz:((w.alloc (.cells vs.toArray 90)).alloc (.cells zMission.toArray 90)).heap.size=w.heap.size+2:=by simp
 go_enter Tryz.func8,Tryz.ntmps8
 go_upto_region 1 with(first|((with_reducible refine rl ?_);refine rq ?_;intro x))
 generalize ((w.alloc (.cells vs.toArray 90)).alloc (.cells zMission.toArray 90))=W2 at HB HR gW hsz ⊢
 have iB:LtN w.heap.size W2.heap.size:=⟨by omega⟩
 have iR:LtN (w.heap.size+1) W2.heap.size:=⟨by omega⟩
 have hW2:w.heap.size≤W2.heap.size:=by omega
 have HR2:=lH (show(vs.drop 2).take 2=[.int .i64 m.Drift.Rate,.int .i64 m.Drift.Offset]by obtain⟨A,h1,-⟩:=HM.out;rw[h1];rfl)
 have HR0:=lH (show vs[0]?=some (.int .i64 m.Time)by obtain⟨A,h1,-⟩:=HM.out;rw[h1];rfl)
 go_wp2_with (first|((with_reducible refine rl ?_);refine rq ?_;intro x)|(refine sL rfl _ (.tmp 1) rfl (w.heap.size) kr HB ii uu90 HL ?_))
 refine(o_cloneMission (x:=m) (Enc.keep HM.out ii) HT.out).mono ?_
 rintro _ _ ⟨cs,χ,rfl,hO,y1,rfl⟩
 have HLC:=lH (len_mission (EncO.toRd hO));have HOC:=lH (one_mission (EncO.toRd hO));have HO:=lH hO;clear hO
 go_upto_region 2 with(first|((with_reducible refine rl ?_);refine rq ?_;intro x)|(refine sW rfl _ _ _ rfl _ rfl (us:=cs) (Held.new _ zMission 90 _ rfl) HLC HOC (w0:=W2) ii LeN.out ?_;intro z1 HX1 KX1))
 (try simp only[Act.put])
 obtain⟨qb,hqb⟩:∃ qb,y1.w.heap.size=qb:=⟨_,rfl⟩
 rw[hqb]
 have HG:=lH (show GB (fun _=>False) W2.heap.size qb z1.w m from hqb▸GB.of HO.out (KX1.out.under ii nl) y1.size_le HX1.out)
 have hqB:W2.heap.size≤qb:=HG.out.le
 have hqlt:LtN qb z1.w.heap.size:=⟨HG.out.lt⟩
 clear hqb HX1 KX1 HO HLC HOC
 go_cut [16]from 7 (fun s wx=>s=.bool (!advNow m)∧∃ y:Later z1.w,wx=y.w)
 case first =>
  go_wp2_with (first|((with_reducible refine rl ?_);refine rq ?_;intro x)|(refine sL rfl _ (.tmp 1) rfl (w.heap.size) kr HB ii uu90 HL ?_))
  refine gm (c_iMissionOk (m:=m) (Enc.keep HM.out ii) HT.out) ?_
  intro y2
  cases hv:missionOk m
  ·have HK:=lH (show advNow m=false by rw[advNow,hv];rfl)
   go_wp2_with (first|((with_reducible refine rl ?_);refine rq ?_;intro x))
   go_meet
   case rel=>exact⟨by rw[HK.out];rfl,Later.of⟩
  cases c1:(m.Time == 1000000)
  ·have HK:=lH (show advNow m=true by rw[advNow,hv,c1];rfl)
   go_wp2_with (first|((with_reducible refine rl ?_);(repeat(first|go_big_quiet_step (first|fail)|simp only[c1]));refine wpQuiet_nil ?_;intro x)|(refine stepLoad1W kg _ (.tmp 13) rfl (w.heap.size) 0 kr (HB.out.to ii) (.int .i64 m.Time) HR0.out _ uu3 rfl ?_))
   go_meet
   case rel=>exact⟨by rw[HK.out];rfl,Later.of⟩
  ·have HK:=lH (show advNow m=false by rw[advNow,hv,c1];rfl)
   go_wp2_with (first|((with_reducible refine rl ?_);(repeat(first|go_big_quiet_step (first|fail)|simp only[c1]));refine wpQuiet_nil ?_;intro x)|(refine stepLoad1W kg _ (.tmp 13) rfl (w.heap.size) 0 kr (HB.out.to ii) (.int .i64 m.Time) HR0.out _ uu3 rfl ?_))
   go_meet
   case rel=>exact⟨by rw[HK.out];rfl,Later.of⟩
 case rest =>
  obtain⟨rfl,y0,rfl⟩:=hcut
  cases hn:advNow m
  ·obtain⟨vs7,hH7,hl7,h17,-,χ7,hO7⟩:=HG.out.vs
   have HH7:=lH hH7;have HO7:=lH hO7;have H17:=lH h17;have HL7:=lH (show vs7.length=61 from hl7)
   clear hO7 hH7 h17 hl7
   go_wp2_with (first|((with_reducible refine rl ?_);refine rq ?_;intro x)|(refine sL rfl _ (.tmp 3) rfl (qb) kr HH7 ii uu90 HL7 ?_)|(refine sW rfl _ _ _ rfl (w.heap.size+1) rfl (us:=vs7) (HR.out.to ii) HL7 H17 (w0:=w) ii (by omega) ?_;intro z7 HX7 KX7))
   refine bodyPost_ret (v:=.agg vs7.toArray) (results_cell (P:=Tryz.prog) rfl rfl HX7.out _ uu90 rfl (by rw[HL7.out];kernel_rfl)) rfl ?_
   rw[show advanceBoard m=m by rw[advanceBoard,hn];rfl]
   exact⟨vs7,χ7,rfl,obox_fin (obox_to HO7.out ii) KX7.out (show w.heap.size+1<W2.heap.size by omega) hW2,Later.of⟩
  have HN:=lH hn
  have hb:=adv_parts hn
  have ht0:=hb.2.1;have ht1:=hb.2.2.1
  have htd:=td_bd m.Drift.Rate m.Drift.Offset m.Time
  obtain⟨N,hN⟩:∃ N:Nat,advN m=N:=⟨_,rfl⟩
  have HNE:=lH hN
  have HTD:=lH (show ticksDue m.Drift.Rate m.Drift.Offset m.Time=(N:Int)by rw[← hN,advN];omega)
  have hNb:N≤1000:=by have:=HTD.out;omega
  clear hn hb htd hN
  (try simp only[Bool.not_true])
  have et:=gb_time HG.out
  go_upto_region 5 with(first|((with_reducible refine rl ?_);refine rq ?_;intro x)|(refine step_gbC (o:=0) (us:=[.int .i64 (m.Time+1)]) ({ m with Time:=m.Time+1 }:TMission) rfl _ (.tmp 21) (.tmp 20) rfl (HG.out.to ii) rfl rfl kr rfl nb (by intros;rename_i h;obtain⟨A1,rfl,q⟩:=h;exact⟨A1,rfl,{ q with ok:=⟨(by show i64 (m.Time+1);unfold i64;omega),q.ok.2⟩ }⟩) ii nl ?_;intro z2 hz2 hX2))
  (try simp only[Act.put])
  have HZ2:=lH (show GB (fun _=>False) W2.heap.size qb z2.w (advT m 0)from hz2)
  clear hz2 hX2 et ht0 ht1
  go_wp2_with (first|((with_reducible refine rl ?_);refine rq ?_;intro x)|(refine stepLoad rfl _ (.tmp 23) rfl (w.heap.size) 2 kr (row:=[.int .i64 m.Drift.Rate,.int .i64 m.Drift.Offset]) (HB.out.to ii) _ Tryz.underlying62 rfl kr HR2.out ?_)|(refine stepLoad1W kg _ (.tmp 25) rfl (w.heap.size) 0 kr (HB.out.to ii) (.int .i64 m.Time) HR0.out _ uu3 rfl ?_))
  refine gm (c_iTicksDue) ?_
  intro y3
  rw[HTD.out]
  go_wp2_with (first|((with_reducible refine rl ?_);refine rq ?_;intro x))
  go_loopw [28] (fun v wr=>∃ k:Nat,v=.int .i64 k∧k≤N∧Hid (GB (fun _=>False) W2.heap.size qb wr (advT m k))∧∃ y:Later W2,wr=y.w) (fun v _=>(N - intOf v).toNat)
  case atStart=>exact⟨0,rfl,Nat.zero_le _,HZ2.out.to ii,Later.of⟩
  case round =>
   obtain⟨k,rfl,hk,HGK,y,rfl⟩:=hrel
   have hqy:LtN qb y.w.heap.size:=⟨HGK.out.lt⟩
   by_cases hkn:k<N
   ·have kc:decide ((k:Int)<(N:Int))=true:=by simp;omega
    obtain⟨vs5,A,hV5,hvs5,F⟩:=gb_cells HGK.out
    have HV:=lH hV5
    obtain⟨bd,hbd⟩:∃ bd,(vs5.drop 37).take 12=bd:=⟨_,rfl⟩
    have HRB:=lH hbd
    have HBR:=lH (show Enc.Rd W2.heap.size y.w bd (advT m k).Space.Board from by rw[← hbd,hvs5];exact⟨⟨A.a9,A.c9,A.a10,A.c10,A.a11,A.c11,A.a12,A.c12,A.a13,A.c13,A.a14,A.c14,A.a15,A.c15⟩,rfl,⟨F.q9,F.q10,F.q11,F.q12,F.q13,F.q14,F.q15,F.ok.2.2.2.2.2.2.2.1.2.1⟩⟩)
    clear hV5 hvs5 hbd F
    have HBL:=lH (len_board HBR.out)
    have HTK:=lH (tickN_tot HN.out k)
    go_wp2_with (first|((with_reducible refine rl ?_);(repeat(first|go_big_quiet_step (first|fail)|simp only[kc]));refine wpQuiet_nil ?_;intro x)|(refine stepLoad rfl _ (.tmp 33) rfl (qb) 37 kr (row:=bd) (HV.out.to ii) _ uu84 rfl (by rw[HBL.out];kernel_rfl) (by rw[HBL.out];exact HRB.out) ?_))
    refine(o_iTickBoard (b:=(advT m k).Space.Board) (Enc.keep HBR.out ii) (Int.le_trans HTK.out (by decide))).mono ?_
    rintro _ _ ⟨vs2,χ2,rfl,hO2,y4,rfl⟩
    have HL2:=lH (len_board (EncO.toRd hO2))
    have HP:=lH (GBq.new (D:=mBoard) HGK.out (ii:Grows y.w y4.w) (OBox.map hO2 (.mono LeN.out)))
    clear hO2
    go_wp2_with (first|((with_reducible refine rl ?_);refine rq ?_;intro x)|(refine step_gbD rfl _ (.tmp 37) (.tmp 35) rfl HP.out rfl rfl (by rw[HL2.out];kernel_rfl) (w0:=W2) ii nl ?_;intro z6 hz6 hX6))
    have HZ6:=lH (show GB (fun _=>False) W2.heap.size qb z6.w (advT m (k+1))from advT_next m k▸hz6)
    clear hz6 hX6
    go_roundw
    case rel=>exact⟨k+1,by go_num,by omega,HZ6.out.to ii,Later.of⟩
    case measure=>simp[intOf];omega
   ·obtain rfl:k=N:=by omega
    have kc:decide ((k:Int)<(k:Int))=false:=by simp
    clear hkn hk
    obtain⟨s,n,hs,hn,hsn,hn5,hal,haf⟩:=advA_facts HN.out
    rw[HNE.out]at hn hal haf
    have HS:=lH hs;have HNL:=lH hn;have HAL:=lH hal;have HAF:=lH haf
    clear hs hn hal haf
    obtain⟨aa,ac,ea,hown,-,hrd⟩:=HGK.out.own mAsked
    have HRD:=lH (show RdS W2.heap.size y.w aa ac (tickN k m.Space.Board).Asked from hrd)
    have ea2:∀ (W:World) [Grows y.w W],W.cell? ⟨qb,48,none⟩=some (.slice aa n ac):=fun W g=>HNL.out▸ea W
    obtain⟨vs5,A,hV5,hvs5,-⟩:=gb_cells HGK.out
    have eb:∀ (W:World) [Grows y.w W],W.cell? ⟨qb,56,none⟩=some (.int .i64 s):=fun W g=>(hV5.to g).cell 56 |>.trans (by rw[hvs5];exact congrArg (fun k=>some (Value.int .i64 k)) HS.out)
    have HC48:=lH (ea2 y.w)
    have hnac:n≤ac:=by have h1:=hown.cap;have h2:=HNL.out;have h3:(mAsked.get (advT m k)).length=n:=h2;omega
    have HOR:=lH (Own.at0 hown)
    clear ea hV5 hvs5 hown hrd
    go_upto_region 10 with(first|((with_reducible refine rl ?_);(repeat(first|go_big_quiet_step (first|fail)|simp only[kc]));refine wpQuiet_nil ?_;intro x))
    go_cut [48,49,50]from 29 (fun s48 s49 s50 wx=>(∃ (a3:Option Addr) (c3:Nat),s48=.slice a3 (n - s) c3∧∀ j,j<n - s→∃ g o:Nat,aa=some ⟨g,o,none⟩∧a3=some ⟨g,o+s,none⟩)∧s49=.int .i64 ((n - s:Nat):Int)∧s50=.int .i64 0∧∃ y2:Later y.w,wx=y2.w)
    case first =>
     by_cases hcs:ac=s
     ·obtain rfl:n=s:=by omega
      subst hcs
      go_wp2_with (first|((with_reducible refine rl ?_);refine rq ?_;intro x))
      go_meet
      case rel=>exact⟨⟨aa,0,by rw[Nat.sub_self],fun j hj=>by omega⟩,by rw[Nat.sub_self];rfl,rfl,Later.of⟩
     ·go_wp2_with (first|((with_reducible refine rl ?_);refine rq ?_;intro x))
      go_meet
      case rel =>
       refine⟨?_,rfl,rfl,Later.of⟩
       rcases HOR.out with⟨rfl,h0⟩|⟨g,rfl⟩
       ·omega
       ·exact⟨_,_,rfl,fun j hj=>⟨g,0,rfl,by rw[Option.map_some,addr_add]⟩⟩
    case rest =>
     obtain⟨⟨a3,c3,rfl,ha3⟩,rfl,rfl,y2,rfl⟩:=hcut
     obtain⟨M,hM⟩:∃ M,n - s=M:=⟨_,rfl⟩
     rw[hM]at HAL ha3 ⊢
     have HA3:=lH ha3
     clear ha3 ea2 eb
     have hgt:s+M=n:=by omega
     clear hM
     have HC0:=lH (cell_grown HGK.out.lt HC48.out y2.w)
     have HG0:=lH (show GB (fun _=>False) W2.heap.size qb y2.w (advF m k 0)from HGK.out.to ii)
     go_wp2_with (first|((with_reducible refine rl ?_);refine rq ?_;intro x))
     go_loopw [50] (fun v wr=>∃ j:Nat,v=.int .i64 j∧j≤M∧Hid (wr.cell? ⟨qb,48,none⟩=some (.slice aa n ac))∧Hid (GB (fun _=>False) W2.heap.size qb wr (advF m k j))∧∃ z:Later W2,wr=z.w) (fun v _=>(M - intOf v).toNat)
     case atStart=>exact⟨0,rfl,Nat.zero_le _,HC0.out,HG0.out,Later.of⟩
     case round =>
      obtain⟨j,rfl,hj,HC,HGR,z,rfl⟩:=hrel
      clear hqy HC0 HG0
      obtain⟨y,hy⟩:∃ y:Later W2,z.w=y.w:=⟨z,rfl⟩
      rw[hy]at HC HGR ⊢
      clear hy z
      have hqy:LtN qb y.w.heap.size:=⟨HGR.out.lt⟩
      have HLN:=lH (advF_lens HN.out k j)
      by_cases hjm:j<M
      ·have kc:decide ((j:Int)<(M:Int))=true:=by simp;omega
       obtain⟨g,oo,haa,haa3⟩:=HA3.out j hjm
       subst haa haa3
       obtain⟨ab,abc,eab,-,-,hrd⟩:=HGR.out.own mAsked
       have e1:=(eab y.w).symm.trans HC.out
       simp only[Option.some.injEq,Value.slice.injEq]at e1
       obtain⟨rfl,-,rfl⟩:=e1
       have hrd:RdS W2.heap.size y.w (some ⟨g,oo,none⟩) abc (tickN k m.Space.Board).Asked:=hrd
       obtain⟨eb,eoff,es0,heq,hg0,ehd,h0⟩:=(RdS.toSlInt hrd).int (k:=s+j) (by rw[HNL.out];omega)
       cases heq
       have hel:(advA m k)[j]?=some es0:=by
        have:=congrArg (fun l=>l[0]?) ehd.out
        simp only[List.getElem?_drop,Nat.add_zero,List.getElem?_cons_zero]at this
        rw[advA,show m.Space.Begun.toNat=s by rw[HS.out];rfl,List.getElem?_drop];exact this
       have hf:=HAF.out es0 (List.mem_of_getElem? hel)
       obtain⟨fj,rfl⟩:∃ fj:Nat,es0=(fj:Int):=⟨es0.toNat,by omega⟩
       have hf8:fj<8:=by omega
       have HEL:=lH hel
       have ej:∀ (W:World) [Grows y.w W],W.cell? ⟨g,oo+s+j,none⟩=some (.int .i64 fj):=fun W gg=>by rw[Nat.add_assoc];exact h0 W
       obtain⟨oa,oc,eo1,hoa⟩:=GB.ownN mOuts HGR.out
       have HLO:=lH (show(mOuts.get (advF m k j)).length=8 from HLN.out.1)
       obtain⟨ob,rfl⟩:=hoa (by rw[HLO.out];decide)
       have HEO:=lH (eo1 y.w)
       have eo:∀ (W:World) [Grows y.w W],W.cell? ⟨qb,55,none⟩=some (.slice (some ⟨ob,0,none⟩) 8 oc):=fun W g=>HLO.out▸eo1 W
       obtain⟨fa,fc,ef1,hownf,-,-⟩:=HGR.out.own mSFiles
       have HLF:=lH (show(mSFiles.get (advF m k j)).length=8 from HLN.out.2.2.1)
       obtain⟨fb,fo,sf,rfl,hfb,hfd,hs0⟩:=(Own.sl hownf).str (k:=fj) (by rw[HLF.out];exact hf8)
       have ef:∀ (W:World) [Grows y.w W],W.cell? ⟨qb,54,none⟩=some (.slice (some ⟨fb,fo,none⟩) 8 fc):=fun W g=>HLF.out▸ef1 W
       have es:∀ (W:World) [Grows y.w W],W.cell? ⟨fb,fo+fj*1,none⟩=some (.string sf):=fun W g=>by rw[Nat.mul_one];exact hs0 W
       have hsg:m.Space.Files.getD fj ByteArray.empty=sf:=by
        have:=congrArg (fun l=>l[0]?) (show m.Space.Files.drop fj=sf::_ from hfd.out)
        simp only[List.getElem?_drop,Nat.add_zero,List.getElem?_cons_zero]at this
        rw[List.getD_eq_getElem?_getD,this];rfl
       have hsf:sf.size≤600:=by rw[← hsg];exact HLN.out.2.2.2.1 fj hf8
       have HSG:=lH hsg
       clear eab hrd ehd h0 hel hf eo1 ef1 hownf hfd hs0 hsg
       go_upto_region 13 with(first|((with_reducible refine rl ?_);(repeat(first|go_big_quiet_step (first|fail)|simp only[kc]));refine wpQuiet_nil ?_;intro x))
       refine wp_region_stabZ kr (T:=[18]) (Zs:=[(16,[13])]) (H:=[(3,[]),(9,[]),(11,[]),(12,[]),(13,[]),(14,[13]),(15,[13]),(16,[13]),(17,[13])]) (C:=[13]) (Fs:=[(some 55,.v (.pointer (some ⟨qb,33,none⟩))),(some 56,.v (.pointer (some ⟨qb,33,none⟩))),(some 57,.v (.pointer (some ⟨qb,55,none⟩))),(some 58,.v (.slice (some ⟨ob,0,none⟩) 8 oc)),(some 59,.v (.int .i64 fj)),(some 60,.v (.int .i64 fj)),(some 61,.v (.pointer (some ⟨qb,33,none⟩))),(some 62,.v (.pointer (some ⟨qb,33,none⟩))),(some 63,.v (.pointer (some ⟨qb,54,none⟩))),(some 64,.v (.slice (some ⟨fb,fo,none⟩) 8 fc)),(some 65,.v (.int .i64 fj)),(some 66,.v (.pointer (some ⟨fb,fo+fj*1,none⟩))),(some 67,.v (.string sf)),(some 68,entOB y.w.heap.size (newOut (fj:Int) sf) true),(some 54,.fn [13] gOne),(some 69,.fn [13] gFst),(some 70,.fn [13] gSnd),(some 71,.v (.pointer (some ⟨ob,0+fj*4,none⟩))),(none,.v undef)]) kr (fun val W=>by kernel_rfl) ?ob3 ?lz3 ?pn3 ?tl3
       case ob3 =>
        refine⟨fun x=>?_,fun x=>?_,fun x=>?_,fun x=>?_,fun x=>?_,fun x=>?_,fun x=>?_,fun x=>?_,fun x=>?_,trivial⟩
        ·exact g_cell (eo x.w) rfl kr _ Tryz.underlying86 rfl
        ·exact g_cell (ef x.w) rfl kr _ Tryz.underlying30 rfl
        ·exact g_ix (size:=1) (o:=fo) (j:=fj) (n:=8) (c:=fc) rfl kr Tryz.underlying30 kr hf8
        ·exact g_cell (es x.w) rfl kr _ Tryz.underlying9 rfl
        ·refine g_call (f:=36) (args:=[.int .i64 fj,.string sf]) Tryz.func36 kr kr ((o_iNewFileOut (f:=(fj:Int)) (s:=sf) (by omega) hsf).mono ?_)
         rintro _ _ ⟨vs2,χ2,rfl,hO2,y2,rfl⟩
         exact⟨_,rfl,⟨y2,rfl⟩,vs2,χ2,rfl,OBox.map hO2 (.mono x.size_le)⟩
        ·refine chain1 fun v13 q13=>chain0 ?_
         obtain⟨vs2,χ2,rfl,q⟩:=(show isOB y.w.heap.size (newOut (fj:Int) sf) true v13 x.w from q13)
         exact g_fn (k:=14) kr kr
        ·refine chain1 fun v13 q13=>chain0 ?_
         obtain⟨vs2,χ2,rfl,q⟩:=(show isOB y.w.heap.size (newOut (fj:Int) sf) true v13 x.w from q13)
         exact g_fn (k:=15) kr kr
        ·refine chain1 fun v13 q13=>chain0 ?_
         obtain⟨vs2,χ2,rfl,q⟩:=(show isOB y.w.heap.size (newOut (fj:Int) sf) true v13 x.w from q13)
         exact g_fn (k:=16) kr kr
        ·refine chain1 fun v13 q13=>chain0 ?_
         exact g_ix (size:=4) (o:=0) (j:=fj) (n:=8) (c:=oc) rfl kr Tryz.underlying86 kr hf8
       case lz3 =>
        refine⟨fun W hW=>?_,trivial⟩
        refine chain1 fun v13 q13=>chain0 ?_
        obtain⟨vs2,χ2,rfl,q⟩:=(show isOB y.w.heap.size (newOut (fj:Int) sf) true v13 W from q13)
        intro W3
        kernel_rfl
       case pn3=>exact fun _ _ _ _ _ _ h=>h
       case tl3 =>
        intro x
        refine chain1 fun v13 q13=>?_
        obtain⟨vs2,χ2,rfl,hO2⟩:=(show isOB y.w.heap.size (newOut (fj:Int) sf) true v13 x.w from q13)
        clear q13
        obtain⟨ra,rc,rfl,kO⟩:=hO2
        have HKO:=lH kO;clear kO
        refine tail1 rfl ?_
        simp only[put_nrm,put_nrm2,List.map,gOne,gFst,gSnd]
        simp only[nrm,if_true]
        go_upto_region 14 with(first|((with_reducible refine rl ?_);refine rq ?_;intro x)|(refine step_gbR mOuts rfl _ (.tmp 71) (.tmp 69) rfl HGR.out (ii:Grows y.w x.w) HEO.out (by rw[show(mOuts.get (advF m k j)).length=8 from HLO.out];exact hf8) HKO.out.o0 HKO.out.ok rfl rfl (by omega) rfl rfl kr (w0:=W2) ii nl ?_;intro z6 hz6 hbq hh6))
        (try simp only[Act.put])
        have HZ6:=lH (show GB (fun _=>False) W2.heap.size qb z6.w (advF m k (j+1))from by rw[← advF_next HEL.out,show((fj:Int)).toNat=fj from rfl,HSG.out];exact hz6)
        have HC6:=lH ((cell_heap (hh6 qb (Nat.lt_of_lt_of_le hqy.out (ii:Grows y.w x.w).out.size) hbq) 48).trans (cell_grown hqy.out HC.out x.w))
        clear hz6 hh6 ej eo ef es
        go_wp2_with (first|((with_reducible refine rl ?_);refine rq ?_;intro x))
        go_roundw
        case rel=>exact⟨j+1,by go_num,by omega,cell_grown HZ6.out.lt HC6.out _,HZ6.out.to ii,Later.of⟩
        case measure=>simp[intOf];omega
      ·obtain rfl:j=M:=by omega
       have kc:decide ((j:Int)<(j:Int))=false:=by simp
       have ec:∀ (W:World) [Grows y.w W],W.cell? ⟨qb,48,none⟩=some (.slice aa n ac):=fun W g=>cell_grown hqy.out HC.out W
       have HFIN:=lH (show({ advF m k j with Space:={ (advF m k j).Space with Begun:=(n:Int) } }:TMission)=advanceBoard m from by have h1:=advF_end (M:=j) (n:=n) HN.out (by rw[HNE.out];exact HAL.out) (by rw[HNE.out];exact HNL.out);rw[HNE.out]at h1;exact h1)
       go_upto_region 16 with(first|((with_reducible refine rl ?_);(repeat(first|go_big_quiet_step (first|fail)|simp only[kc]));refine wpQuiet_nil ?_;intro x)|(refine step_gbC (o:=56) (us:=[.int .i64 n]) ({ advF m k j with Space:={ (advF m k j).Space with Begun:=(n:Int) } }:TMission) rfl _ (.tmp 81) (.tmp 79) rfl (HGR.out.to ii) rfl rfl kr rfl nb (by intros;rename_i h;obtain⟨A1,rfl,q⟩:=h;exact⟨A1,rfl,{ q with ok:=ok_begun q.ok (by unfold i64;omega) }⟩) ii nl ?_;intro z8 hz8 hX8))
       (try simp only[Act.put])
       have HZ8:=lH hz8
       clear hz8 hX8 ec
       obtain⟨vs9,hH9,hl9,h19,-,χ9,hO9⟩:=HZ8.out.vs
       have HH9:=lH hH9;have HO9:=lH hO9;have H19:=lH h19;have HL9:=lH (show vs9.length=61 from hl9)
       clear hO9 hH9 h19 hl9
       go_wp2_with (first|((with_reducible refine rl ?_);refine rq ?_;intro x)|(refine sL rfl _ (.tmp 3) rfl (qb) kr HH9 ii uu90 HL9 ?_)|(refine sW rfl _ _ _ rfl (w.heap.size+1) rfl (us:=vs9) (HR.out.to ii) HL9 H19 (w0:=w) ii (by omega) ?_;intro z9 HX9 KX9))
       refine bodyPost_ret (v:=.agg vs9.toArray) (results_cell (P:=Tryz.prog) rfl rfl HX9.out _ uu90 rfl (by rw[HL9.out];kernel_rfl)) rfl ?_
       rw[← HFIN.out]
       exact⟨vs9,χ9,rfl,obox_fin (obox_to HO9.out ii) KX9.out (show w.heap.size+1<W2.heap.size by omega) hW2,Later.of⟩
theorem o_iAdvanceBoard{B:Nat}{vs:List Value}{m:TMission}{w:World}(h:Enc.Rd B w vs m)(ht:Enc.tot m≤4000000):Calls Tryz.prog 8 #[.agg vs.toArray] w (GivesO w (advanceBoard m)):=o_iAdvanceBoard5 h (by omega) (by omega)
theorem Sl.tailc{α:Type}{enc:α→List Value}{w:World}{bb o size:Nat}{x:α}{l:List α}(h:Sl enc w (some ⟨bb,o,none⟩) (x::l))(hs:∀ y,(enc y).length=size):Sl enc w (some ⟨bb,o+size,none⟩) l:=fun i y hy=>by
 obtain⟨b,off,h1,h2,h3⟩:=h (i+1) y (by simpa using hy)
 cases h1
 refine⟨bb,o+size,rfl,h2,fun q v hv=>?_⟩
 have:=h3 q v hv
 rw[hs,Nat.add_mul,Nat.one_mul]at this
 rw[hs,show o+size+i*size+q=o+(i*size+size)+q by omega];exact this
theorem o_sTickBoard{B:Nat}{vs:List Value}{b:TBoard}{w:World}(h:Enc.Rd B w vs b)(ht:Enc.tot b≤50000000) :
  Calls Tryz.prog 22 #[.agg vs.toArray] w (GivesO w (tickBoard b)):=by
 have HL:=lH (len_board h);have H1:=lH (one_board h)
 have HM:=lH h
 have HT:=lH (show Enc.tot b≤100000000 by omega);have HT5:=lH ht;clear ht
 obtain⟨A,hvs,F⟩:=h
 have HV0:=lH (show vs[0]?=some (.int .i64 b.Clock)by rw[hvs];rfl)
 have HV9:=lH (show vs[9]?=some (.int .i64 b.Made)by rw[hvs];rfl)
 have HV10:=lH (show vs[10]?=some (.int .i64 b.Taken)by rw[hvs];rfl)
 have HV5:=lH (show vs[5]?=some (.slice A.a3 b.Done.length A.c3)by rw[hvs];rfl)
 have HV11:=lH (show vs[11]?=some (.slice A.a6 b.Asked.length A.c6)by rw[hvs];rfl)
 clear hvs F
 have HB:=lH ((Held.new w vs 84 w.heap.size rfl).to (ii:Grows _ ((w.alloc (.cells vs.toArray 84)).alloc (.cells zBoard.toArray 84))))
 have HR:=lH (Held.new (w.alloc (.cells vs.toArray 84)) zBoard 84 (w.heap.size+1) (by simp))
 have gW:Grows w ((w.alloc (.cells vs.toArray 84)).alloc (.cells zBoard.toArray 84)):=inferInstance
 have hsz:(((w.alloc (.cells vs.toArray 84)).alloc (.cells zBoard.toArray 84))).heap.size=w.heap.size+2:=by simp
 go_enter Tryz.func22,Tryz.ntmps22
 go_upto_region 1 with(first|((with_reducible refine rl ?_);refine rq ?_;intro x))
 generalize ((w.alloc (.cells vs.toArray 84)).alloc (.cells zBoard.toArray 84))=W2 at HB HR gW hsz ⊢
 have iB:LtN w.heap.size W2.heap.size:=⟨by omega⟩
 have iR:LtN (w.heap.size+1) W2.heap.size:=⟨by omega⟩
 have hW2:w.heap.size≤W2.heap.size:=by omega
 go_wp2_with (first|((with_reducible refine rl ?_);refine rq ?_;intro x)|(refine sL rfl _ (.tmp 1) rfl (w.heap.size) rfl HB ii uu84 HL ?_))
 refine(o_copyBoard (x:=b) (Enc.keep HM.out ii) HT.out).mono ?_
 rintro _ _ ⟨cs,χ,rfl,hO,y1,rfl⟩
 have HLC:=lH (len_board (EncO.toRd hO));have HOC:=lH (one_board (EncO.toRd hO));have HO:=lH hO;clear hO
 go_upto_region 2 with(first|((with_reducible refine rl ?_);refine rq ?_;intro x)|(refine sW rfl _ _ _ rfl _ rfl (us:=cs) (Held.new _ zBoard 84 _ rfl) HLC HOC (w0:=W2) ii LeN.out ?_;intro z1 HX1 KX1))
 (try simp only[Act.put])
 obtain⟨qb,hqb⟩:∃ qb,y1.w.heap.size=qb:=⟨_,rfl⟩
 rw[hqb]
 have HG:=lH (show GB (fun _=>False) W2.heap.size qb z1.w b from hqb▸GB.of HO.out (KX1.out.under ii nl) y1.size_le HX1.out)
 have hqB:W2.heap.size≤qb:=HG.out.le
 have hqlt:LtN qb z1.w.heap.size:=⟨HG.out.lt⟩
 clear hqb HX1 KX1 HO HLC HOC
 go_cut [36]from 5 (fun s wx=>s=.bool (!tickNow b)∧∃ y:Later z1.w,wx=y.w)
 case first =>
  obtain⟨n5,hn5⟩:∃ n,b.Done.length=n:=⟨_,rfl⟩
  obtain⟨n11,hn11⟩:∃ n,b.Asked.length=n:=⟨_,rfl⟩
  have hcs:=tickNow_cases b
  rw[hn5,hn11]at hcs
  have e0:=HB.out.cellG 0 _ HV0.out
  have e9:=HB.out.cellG 9 _ HV9.out
  have e10:=HB.out.cellG 10 _ HV10.out
  have e5:=HB.out.cellG 5 _ HV5.out
  have e11:=HB.out.cellG 11 _ HV11.out
  simp only[hn5]at e5;simp only[hn11]at e11
  clear hn5 hn11
  have HCS:=lH hcs;clear hcs
  go_wp2_with (first|((with_reducible refine rl ?_);refine rq ?_;intro x)|(refine sL rfl _ (.tmp 1) rfl (w.heap.size) rfl HB ii uu84 HL ?_))
  refine gm (c_sBoardOkE (Enc.keep HM.out ii) HT.out) ?_
  intro y0
  rcases HCS.out with⟨c0,hk⟩|⟨c0,⟨c1,hk⟩|⟨c1,c2,hk⟩|⟨c1,c2,c3,hk⟩|⟨c1,c2,c3,c4,hk⟩|⟨c1,c2,c3,c4,c5,hk⟩|⟨c1,c2,c3,c4,c5,hk⟩⟩
  ·have HK:=lH hk;clear hk
   rw[c0]
   go_wp2_with (first|((with_reducible refine rl ?_);refine rq ?_;intro x))
   go_meet
   case rel=>exact⟨by rw[HK.out];rfl,Later.of⟩
  ·have HK:=lH hk;clear hk
   rw[c0]
   go_wp2_with (first|((with_reducible refine rl ?_);(repeat(first|go_big_quiet_step (first|fail)|simp only[c1]));refine wpQuiet_nil ?_;intro x))
   go_meet
   case rel=>exact⟨by rw[HK.out];rfl,Later.of⟩
  ·have HK:=lH hk;clear hk
   rw[c0]
   go_wp2_with (first|((with_reducible refine rl ?_);(repeat(first|go_big_quiet_step (first|fail)|simp only[c1]|simp only[c2]));refine wpQuiet_nil ?_;intro x))
   go_meet
   case rel=>exact⟨by rw[HK.out];rfl,Later.of⟩
  ·have HK:=lH hk;clear hk
   rw[c0]
   go_wp2_with (first|((with_reducible refine rl ?_);(repeat(first|go_big_quiet_step (first|fail)|simp only[c1]|simp only[c2]|simp only[c3]));refine wpQuiet_nil ?_;intro x))
   go_meet
   case rel=>exact⟨by rw[HK.out];rfl,Later.of⟩
  ·have HK:=lH hk;clear hk
   rw[c0]
   go_wp2_with (first|((with_reducible refine rl ?_);(repeat(first|go_big_quiet_step (first|fail)|simp only[c1]|simp only[c2]|simp only[c3]|simp only[c4]));refine wpQuiet_nil ?_;intro x))
   go_meet
   case rel=>exact⟨by rw[HK.out];rfl,Later.of⟩
  ·have HK:=lH hk;clear hk
   rw[c0]
   go_wp2_with (first|((with_reducible refine rl ?_);(repeat(first|go_big_quiet_step (first|fail)|simp only[c1]|simp only[c2]|simp only[c3]|simp only[c4]|simp only[c5]));refine wpQuiet_nil ?_;intro x))
   go_meet
   case rel=>exact⟨by rw[HK.out];rfl,Later.of⟩
  ·have HK:=lH hk;clear hk
   rw[c0]
   go_wp2_with (first|((with_reducible refine rl ?_);(repeat(first|go_big_quiet_step (first|fail)|simp only[c1]|simp only[c2]|simp only[c3]|simp only[c4]|simp only[c5]));refine wpQuiet_nil ?_;intro x))
   go_meet
   case rel=>exact⟨by rw[HK.out];rfl,Later.of⟩
 case rest =>
  obtain⟨rfl,y0,rfl⟩:=hcut
  cases hk:tickNow b
  ·have HK:=lH (show tickBoard b=b by rw[tickBoard,hk];rfl)
   clear hk
   obtain⟨vs9,hH9,hl9,h19,-,χ9,hO9⟩:=HG.out.vs
   have HH9:=lH hH9;have HO9:=lH hO9;have H19:=lH h19;have HL9:=lH (show vs9.length=12 from hl9)
   clear hO9 hH9 h19 hl9
   go_wp2_with (first|((with_reducible refine rl ?_);refine rq ?_;intro x)|(refine sL rfl _ (.tmp 3) rfl (qb) kr HH9 ii uu84 HL9 ?_)|(refine sW rfl _ _ _ rfl (w.heap.size+1) rfl (us:=vs9) (HR.out.to ii) HL9 H19 (w0:=w) ii (by omega) ?_;intro z9 HX9 KX9))
   refine bodyPost_ret (v:=.agg vs9.toArray) (results_cell (P:=Tryz.prog) rfl rfl HX9.out _ uu84 rfl (by rw[HL9.out];kernel_rfl)) rfl ?_
   rw[HK.out]
   exact⟨vs9,χ9,rfl,obox_fin (obox_to HO9.out ii) KX9.out (show w.heap.size+1<W2.heap.size by omega) hW2,Later.of⟩
  have hbo:boardOk b=true∧(b.Clock == 1000000)=false:=by
   rw[tickNow,Bool.and_eq_true,Bool.and_eq_true]at hk
   exact⟨hk.1,by have:=hk.2.1;simpa using this⟩
  have hbp:=(board_parts hbo.1).2.2.2.2.2.1
  have hne:b.Clock≠1000000:=by have:=hbo.2;simpa using this
  have hclk:-9223372036854775808≤b.Clock∧b.Clock≤999999:=by omega
  obtain⟨hcl1,hcl2⟩:=hclk
  have HTB:=lH (show tickBoard b=tickGo b.Orders.length { b with Clock:=b.Clock+1 } by rw[tickBoard,if_pos hk])
  clear hk hbo hbp hne
  have et:∀ (W:World) [Grows z1.w W],W.cell? ⟨qb,0,none⟩=some (.int .i64 b.Clock):=by
   obtain⟨vs6,hH6,-,-,⟨A6,rfl,-⟩,-⟩:=HG.out.vs
   exact hH6.cellG 0 _ rfl
  go_upto_block 0 with(first|((with_reducible refine rl ?_);refine rq ?_;intro x)|(refine step_gbC (o:=0) (us:=[.int .i64 (b.Clock+1)]) ({ b with Clock:=b.Clock+1 }:TBoard) rfl _ (.tmp 41) (.tmp 40) rfl (HG.out.to ii) rfl rfl kr rfl nb (by intros;rename_i h;obtain⟨A1,rfl,q⟩:=h;exact⟨A1,rfl,{ q with ok:=⟨(by show i64 (b.Clock+1);unfold i64;omega),q.ok.2⟩ }⟩) ii nl ?_;intro z2 hz2 hX2))
  (try simp only[Act.put])
  have HZ2:=lH hz2;clear hz2 et hX2 hcl1 hcl2
  have HT2:=lH (show Enc.tot ({ b with Clock:=b.Clock+1 }:TBoard)≤50000000 from HT5.out)
  (try simp only[Bool.not_true])
  go_wp2_with (first|((with_reducible refine rl ?_);refine rq ?_;intro x))
  go_loopw [] (fun wr=>∃ (x:TBoard) (n:Nat),Hid (tickGo n x=tickBoard b)∧Hid (x.Orders.length≤n)∧Hid (Enc.tot x≤50000000)∧Hid (GB (fun _=>False) W2.heap.size qb wr x)∧∃ y:Later W2,wr=y.w) (fun wr=>cellLen wr qb 4)
  case atStart=>exact⟨_,_,HTB.out.symm,Nat.le_refl _,HT2.out,HZ2,Later.of⟩
  case round =>
   obtain⟨bx,n,HQ,HLN,HTX,HGR,y,rfl⟩:=hrel
   obtain⟨oa,oc,eo,hown,hgood,-⟩:=HGR.out.own fBoardOrders
   have hqy:LtN qb y.w.heap.size:=⟨HGR.out.lt⟩
   have ek:∀ (W:World) [Grows y.w W],W.cell? ⟨qb,0,none⟩=some (.int .i64 bx.Clock):=by
    obtain⟨vs6,hH6,-,-,⟨A6,rfl,-⟩,-⟩:=HGR.out.vs
    exact hH6.cellG 0 _ rfl
   have HEO:=lH (eo y.w)
   obtain⟨ol,hol⟩:∃ l,bx.Orders=l:=⟨_,rfl⟩
   have HOL:=lH hol
   cases ol with
   | nil =>
    have eo2:∀ (W:World) [Grows y.w W],W.cell? ⟨qb,4,none⟩=some (.slice oa 0 oc):=fun W g=>(eo W).trans (congrArg (fun k:Nat=>some (Value.slice oa k oc)) (show bx.Orders.length=0 by rw[hol];rfl))
    have HRES:=lH (show tickBoard b=bx by rw[← HQ.out];exact tickGo_stop (fun w r h=>by rw[HOL.out]at h;cases h))
    clear eo ek hol hown hgood
    obtain⟨vs9,hH9,hl9,h19,-,χ9,hO9⟩:=HGR.out.vs
    have HH9:=lH hH9;have HO9:=lH hO9;have H19:=lH h19;have HL9:=lH (show vs9.length=12 from hl9)
    clear hO9 hH9 h19 hl9
    go_wp2_with (first|((with_reducible refine rl ?_);refine rq ?_;intro x)|(refine sL rfl _ (.tmp 3) rfl (qb) kr HH9 ii uu84 HL9 ?_)|(refine sW rfl _ _ _ rfl (w.heap.size+1) rfl (us:=vs9) (HR.out.to ii) HL9 H19 (w0:=w) ii (by omega) ?_;intro z9 HX9 KX9))
    refine bodyPost_ret (v:=.agg vs9.toArray) (results_cell (P:=Tryz.prog) rfl rfl HX9.out _ uu84 rfl (by rw[HL9.out];kernel_rfl)) rfl ?_
    rw[HRES.out]
    exact⟨vs9,χ9,rfl,obox_fin (obox_to HO9.out ii) KX9.out (show w.heap.size+1<W2.heap.size by omega) hW2,Later.of⟩
   | cons ws rs =>
    obtain⟨fl,hfl⟩:∃ k,rs.length=k:=⟨_,rfl⟩
    have HFL:=lH hfl
    have eo2:∀ (W:World) [Grows y.w W],W.cell? ⟨qb,4,none⟩=some (.slice oa (fl+1) oc):=fun W g=>(eo W).trans (congrArg (fun k:Nat=>some (Value.slice oa k oc)) (show bx.Orders.length=fl+1 by rw[hol,← hfl];rfl))
    have hown:Own encTWaiting 169 5 W2.heap.size y.w oa oc (ws::rs):=hol▸hown
    have hgood:∀ s∈ws::rs,okDTWaiting s:=hol▸hgood
    have HGW:=lH (hgood ws (List.mem_cons_self ..));have HGR2:=lH (fun s h=>hgood s (List.mem_cons_of_mem ws h))
    obtain⟨eb,eoff,rfl,heb,hrow⟩:=(Own.sl hown).row0
    have HROW:=lH hrow
    have HEOG:=lH (fun(W:World) (g:Grows y.w W)=>eo W)
    have er:∀ (W:World) [Grows y.w W],W.cell? ⟨eb,eoff+2,none⟩=some (.int .i64 ws.Order.At):=fun W g=>hrow W g 2 _ rfl
    clear eo hgood hol hfl hrow
    cases c5:decide (ws.Order.At≤bx.Clock)
    ·have HRES:=lH (show tickBoard b=bx by rw[← HQ.out];exact tickGo_stop (fun w r h=>by rw[HOL.out]at h;cases h;exact of_decide_eq_false c5))
     clear hown
     obtain⟨vs9,hH9,hl9,h19,-,χ9,hO9⟩:=HGR.out.vs
     have HH9:=lH hH9;have HO9:=lH hO9;have H19:=lH h19;have HL9:=lH (show vs9.length=12 from hl9)
     clear hO9 hH9 h19 hl9
     go_wp2_with (first|((with_reducible refine rl ?_);(repeat(first|go_big_quiet_step (first|fail)|simp only[c5]));refine wpQuiet_nil ?_;intro x)|(refine sL rfl _ (.tmp 3) rfl (qb) kr HH9 ii uu84 HL9 ?_)|(refine sW rfl _ _ _ rfl (w.heap.size+1) rfl (us:=vs9) (HR.out.to ii) HL9 H19 (w0:=w) ii (by omega) ?_;intro z9 HX9 KX9))
     refine bodyPost_ret (v:=.agg vs9.toArray) (results_cell (P:=Tryz.prog) rfl rfl HX9.out _ uu84 rfl (by rw[HL9.out];kernel_rfl)) rfl ?_
     rw[HRES.out]
     exact⟨vs9,χ9,rfl,obox_fin (obox_to HO9.out ii) KX9.out (show w.heap.size+1<W2.heap.size by omega) hW2,Later.of⟩
    ·obtain⟨n,rfl⟩:∃ k,n=k+1:=⟨n - 1,by have:=HLN.out;rw[HOL.out,List.length_cons]at this;omega⟩
     have HQ2:=lH (show tickGo n (performOrder { bx with Orders:=rs } ws)=tickBoard b by rw[← HQ.out];exact(tickGo_go HOL.out (of_decide_eq_true c5)).symm)
     have HT6:=lH (show Enc.tot ({ bx with Orders:=rs }:TBoard)≤50000000 from Int.le_trans (dropOrder_tot HOL.out) HTX.out)
     have hfb:fl+1≤100000000:=by
      have h1:=(board_lens bx).2.2.1;have h2:=HTX.out
      rw[HOL.out,List.length_cons,HFL.out]at h1;omega
     go_upto_region 7 with(first|((with_reducible refine rl ?_);(repeat(first|go_big_quiet_step (first|fail)|simp only[c5]));refine wpQuiet_nil ?_;intro x)|(refine wpList_load_mid rfl _ (.tmp 59) rfl eb (eoff+0) kr [.int .i64 ws.Number,.int .i64 ws.Order.Kind,.int .i64 ws.Order.At,.int .i64 ws.Order.A,.int .i64 ws.Order.B] _ (HROW.out _ ii) Tryz.underlying169 rfl kr ?_))
     (try simp only[Act.put])
     have HX5:=lH (Held.new (y.andThen x).w [.int .i64 ws.Number,.int .i64 ws.Order.Kind,.int .i64 ws.Order.At,.int .i64 ws.Order.A,.int .i64 ws.Order.B] 169 (y.andThen x).w.heap.size rfl)
     obtain⟨z5,hz5⟩:∃ z5:Later (y.andThen x).w,((y.andThen x).w.alloc (.cells #[.int .i64 ws.Number,.int .i64 ws.Order.Kind,.int .i64 ws.Order.At,.int .i64 ws.Order.A,.int .i64 ws.Order.B] 169))=z5.w:=Later.of
     rw[show([.int .i64 ws.Number,.int .i64 ws.Order.Kind,.int .i64 ws.Order.At,.int .i64 ws.Order.A,.int .i64 ws.Order.B]:List Value).toArray=#[.int .i64 ws.Number,.int .i64 ws.Order.Kind,.int .i64 ws.Order.At,.int .i64 ws.Order.A,.int .i64 ws.Order.B]from rfl,hz5]at HX5
     rw[hz5];clear hz5
     obtain⟨qo,hqo⟩:∃ qo,(y.andThen x).w.heap.size=qo:=⟨_,rfl⟩
     rw[hqo]at HX5 ⊢
     have HP:=lH (GB.prot (P:=(·=qo)) HGR.out (growsTr (ii:Grows y.w (y.andThen x).w) (ii:Grows (y.andThen x).w z5.w)) (fun k hk=>by subst hk;exact⟨hqo▸LeN.out,HX5.out.lt⟩))
     obtain⟨X,hX⟩:∃ X:Nat→Prop,(fun k=>False∨k=qo)=X:=⟨_,rfl⟩
     rw[hX]at HP
     have HXq:=lH (show X qo by rw[← hX];exact .inr rfl)
     clear hqo hX
     have hqlt5:LtN qb z5.w.heap.size:=⟨HP.out.lt⟩
     have gW5:Grows W2 z5.w:=growsTr (ii:Grows W2 y.w) ii
     have gy5:Grows y.w z5.w:=growsTr (ii:Grows y.w (y.andThen x).w) ii
     have HEO5:=lH (HEOG.out z5.w gy5)
     have hoc:fl+1≤oc:=by have:=hown.cap;rw[List.length_cons,HFL.out]at this;exact this
     have HSL:=lH (hown.sl)
     clear er ek
     go_cut []from 61 to 66 (fun wx=>GB X W2.heap.size qb wx { bx with Orders:=rs }∧Held wx qo [.int .i64 ws.Number,.int .i64 ws.Order.Kind,.int .i64 ws.Order.At,.int .i64 ws.Order.A,.int .i64 ws.Order.B] 169∧∃ V:Later W2,wx=V.w)
     case first =>
      by_cases hq1:oc=1
      ·obtain rfl:fl=0:=by omega
       obtain rfl:rs=[]:=List.length_eq_zero_iff.1 HFL.out
       subst hq1
       go_wp2_with (first|((with_reducible refine rl ?_);refine rq ?_;intro x)|(at_builtin;refine wpList_appS (enc:=encTWaiting) (w0:=z5.w) (z:=.agg #[.int .i64 0,.int .i64 0,.int .i64 0,.int .i64 0,.int .i64 0]) (size:=5) (bytes:=40) (n:=0) (m:=0) (c:=0) (l:=[]) (r:=[]) rfl (.tmp 61) (.tmp 64) rfl Tryz.underlying79 kr rfl (by decide) (by decide) rfl rfl (fun h=>by cases h) rfl rfl (Own.emptyAt (encTWaiting_len) nl (by first|rfl|(simp;done))) (fun i x h=>by simp at h) encTWaiting_one (by omega) ?_;intro sa9 sc9 y9 ho9 hg9;rw[List.nil_append]at ho9;have hp9:=GBp.new (F:=fBoardOrders) HP.out (ii:Grows z5.w y9.w) (OwnC.of ho9 HGR2.out (0,0));clear ho9 hg9)|(refine step_gbNX (n:=0) rfl rfl _ _ _ rfl hp9 rfl rfl kr (w0:=W2) ii nl ?_;intro z8 hz8 hX8))
       (try simp only[Act.put])
       go_meet
       case rel=>exact⟨(show GB X W2.heap.size qb z8.w { bx with Orders:=[] } from hz8).to ii,((HX5.out.to (ii:Grows z5.w y9.w)).same (hX8 qo HXq.out)).to ii,Later.of⟩
      ·go_wp2_with (first|((with_reducible refine rl ?_);refine rq ?_;intro x)|(at_builtin;refine wpList_appS (enc:=encTWaiting) (w0:=z5.w) (z:=.agg #[.int .i64 0,.int .i64 0,.int .i64 0,.int .i64 0,.int .i64 0]) (size:=5) (bytes:=40) (n:=0) (m:=fl) (c:=oc - 1) (l:=[]) (r:=rs) rfl (.tmp 61) (.tmp 64) rfl Tryz.underlying79 kr rfl (by decide) (by decide) rfl rfl (fun h=>by cases h) rfl HFL.out (Own.emptyAt (encTWaiting_len) nl (by first|rfl|(simp;done))) (Sl.tailc (HSL.out.to (growsTr gy5 ii)) encTWaiting_len) encTWaiting_one (by omega) ?_;intro sa9 sc9 y9 ho9 hg9;rw[List.nil_append]at ho9;have hp9:=GBp.new (F:=fBoardOrders) HP.out (ii:Grows z5.w y9.w) (OwnC.of ho9 HGR2.out (0,0));clear ho9 hg9)|(refine step_gbNX HFL.out rfl _ _ _ rfl hp9 rfl rfl kr (w0:=W2) ii nl ?_;intro z8 hz8 hX8))
       (try simp only[Act.put])
       go_meet
       case rel=>exact⟨(show GB X W2.heap.size qb z8.w { bx with Orders:=rs } from hz8).to ii,((HX5.out.to (ii:Grows z5.w y9.w)).same (hX8 qo HXq.out)).to ii,Later.of⟩
     case rest =>
     obtain⟨hzz,hxx,z8,rfl⟩:=hcut
     have HX8:=lH hxx;have HZ8:=lH hzz
     clear hzz hxx eo2 HX5
     have hqb8:LtN qb z8.w.heap.size:=⟨HZ8.out.lt⟩
     have hqo8:LtN qo z8.w.heap.size:=⟨HX8.out.lt⟩
     obtain⟨vs6,hH6,hl6,-,hrd6,-⟩:=HZ8.out.vs
     have HH6:=lH hH6;have HL6:=lH (show vs6.length=12 from hl6);have HRD6:=lH hrd6
     clear hH6 hl6 hrd6
     go_wp2_with (first|((with_reducible refine rl ?_);refine rq ?_;intro x)|(refine sL rfl _ (.tmp 3) rfl (qb) kr HH6 ii uu84 HL6 ?_)|(refine stepLoad rfl _ (.tmp 4) rfl (qo) 0 rfl (row:=[.int .i64 ws.Number,.int .i64 ws.Order.Kind,.int .i64 ws.Order.At,.int .i64 ws.Order.A,.int .i64 ws.Order.B]) (HX8.out.to ii) _ Tryz.underlying169 rfl kr rfl ?_))
     refine(o_sPerformOrder (q:=ws) (Enc.keep HRD6.out ii) HGW.out HT6.out).mono ?_
     rintro _ _ ⟨vs2,χ2,rfl,hO2,y2,rfl⟩
     have HL2:=lH (len_board (EncO.toRd hO2));have H12:=lH (one_board (EncO.toRd hO2));have HO2:=lH hO2;clear hO2
     go_wp2_with (first|((with_reducible refine rl ?_);refine rq ?_;intro x)|(refine stepStore2 rfl _ _ _ rfl (qb) 0 rfl (us:=vs2) (cs2:=vs2) (HH6.out.to ii) ?a71 ?a72 ?a73 ?a74 ?a75 (w0:=W2) ii hqB ?_;(case a71=>rfl);(case a72=>(rw[HL2.out];kernel_rfl));(case a73=>exact H12.out);(case a74=>(rw[HL2.out,HL6.out];exact Nat.le_of_ble_eq_true rfl));(case a75=>exact splice_all (HL2.out.trans HL6.out.symm));intro z7 hx kx;have HX7:=lH hx;clear hx;have KX7:=lH kx;clear kx))
     have HZ7:=lH (GB.over HO2.out y2.size_le KX7.out hqb8.out hqB HX7.out)
     (try simp only[Act.put])
     go_roundw
     case rel=>exact⟨_,n,HQ2.out,(by have h1:=(performOrder_orders { bx with Orders:=rs } ws).1;have h2:=HLN.out;rw[HOL.out,List.length_cons]at h2;simp only at h1;exact Nat.le_trans h1 (by omega)),perform_tot HT6.out,HZ7.out,Later.of⟩
     case measure =>
      obtain⟨p1,p2,p3,-⟩:=HZ7.out.own fBoardOrders
      have e1:cellLen z7.w qb 4=_:=cellLen_eq (p3 z7.w)
      have e2:cellLen y.w qb 4=_:=cellLen_eq HEO.out
      have h1:=(performOrder_orders { bx with Orders:=rs } ws).1
      have h3:(fBoardOrders.get bx).length=rs.length+1:=by show bx.Orders.length=_;rw[HOL.out];rfl
      have h4:(fBoardOrders.get (performOrder { bx with Orders:=rs } ws)).length≤rs.length:=h1
      show cellLen z7.w qb 4<cellLen y.w qb 4
      omega
def advS(m:TMission)(k:Nat):TMission:={ m with Space:={ m.Space with Board:=tickN k m.Space.Board } }
theorem advS_next(m:TMission)(k:Nat):mBoard.set (advS m k) (tickBoard (advS m k).Space.Board)=advS m (k+1):=by
 show({ m with Space:={ m.Space with Board:=tickBoard (tickN k m.Space.Board) } }:TMission)=_
 rw[← tickN_snoc];rfl
theorem o_sAdvanceBoard5{B:Nat}{vs:List Value}{m:TMission}{w:World}(h:Enc.Rd B w vs m)(ht:Enc.tot m≤100000000)(ht5:Enc.tot m≤20000000) :
  Calls Tryz.prog 6 #[.agg vs.toArray] w (GivesO w (advanceBoard m)):=by
 have HT5:=lH ht5;clear ht5
 have HL:=lH (len_mission h)
 have HM:=lH h;clear h
 have HT:=lH ht;clear ht
 have HB:=lH ((Held.new w vs 90 w.heap.size rfl).to (ii:Grows _ ((w.alloc (.cells vs.toArray 90)).alloc (.cells zMission.toArray 90))))
 have HR:=lH (Held.new (w.alloc (.cells vs.toArray 90)) zMission 90 (w.heap.size+1) (by simp))
 have gW:Grows w ((w.alloc (.cells vs.toArray 90)).alloc (.cells zMission.toArray 90)):=inferInstance
 have hsz:((w.alloc (.cells vs.toArray 90)).alloc (.cells zMission.toArray 90)).heap.size=w.heap.size+2:=by simp
 go_enter Tryz.func6,Tryz.ntmps6
 go_upto_region 1 with(first|((with_reducible refine rl ?_);refine rq ?_;intro x))
 generalize ((w.alloc (.cells vs.toArray 90)).alloc (.cells zMission.toArray 90))=W2 at HB HR gW hsz ⊢
 have iB:LtN w.heap.size W2.heap.size:=⟨by omega⟩
 have iR:LtN (w.heap.size+1) W2.heap.size:=⟨by omega⟩
 have hW2:w.heap.size≤W2.heap.size:=by omega
 have HR2:=lH (show(vs.drop 2).take 2=[.int .i64 m.Drift.Rate,.int .i64 m.Drift.Offset]by obtain⟨A,h1,-⟩:=HM.out;rw[h1];rfl)
 have HR0:=lH (show vs[0]?=some (.int .i64 m.Time)by obtain⟨A,h1,-⟩:=HM.out;rw[h1];rfl)
 go_wp2_with (first|((with_reducible refine rl ?_);refine rq ?_;intro x)|(refine sL rfl _ (.tmp 1) rfl (w.heap.size) kr HB ii uu90 HL ?_))
 refine(o_copyMission (x:=m) (Enc.keep HM.out ii) HT.out).mono ?_
 rintro _ _ ⟨cs,χ,rfl,hO,y1,rfl⟩
 have HLC:=lH (len_mission (EncO.toRd hO));have HOC:=lH (one_mission (EncO.toRd hO));have HO:=lH hO;clear hO
 go_upto_region 2 with(first|((with_reducible refine rl ?_);refine rq ?_;intro x)|(refine sW rfl _ _ _ rfl _ rfl (us:=cs) (Held.new _ zMission 90 _ rfl) HLC HOC (w0:=W2) ii LeN.out ?_;intro z1 HX1 KX1))
 (try simp only[Act.put])
 obtain⟨qb,hqb⟩:∃ qb,y1.w.heap.size=qb:=⟨_,rfl⟩
 rw[hqb]
 have HG:=lH (show GB (fun _=>False) W2.heap.size qb z1.w m from hqb▸GB.of HO.out (KX1.out.under ii nl) y1.size_le HX1.out)
 have hqB:W2.heap.size≤qb:=HG.out.le
 have hqlt:LtN qb z1.w.heap.size:=⟨HG.out.lt⟩
 clear hqb HX1 KX1 HO HLC HOC
 go_cut [16]from 7 (fun s wx=>s=.bool (!advNow m)∧∃ y:Later z1.w,wx=y.w)
 case first =>
  go_wp2_with (first|((with_reducible refine rl ?_);refine rq ?_;intro x)|(refine sL rfl _ (.tmp 1) rfl (w.heap.size) kr HB ii uu90 HL ?_))
  refine gm (c_sMissionOk (m:=m) (Enc.keep HM.out ii) HT.out) ?_
  intro y2
  cases hv:missionOk m
  ·have HK:=lH (show advNow m=false by rw[advNow,hv];rfl)
   go_wp2_with (first|((with_reducible refine rl ?_);refine rq ?_;intro x))
   go_meet
   case rel=>exact⟨by rw[HK.out];rfl,Later.of⟩
  cases c1:(m.Time == 1000000)
  ·have HK:=lH (show advNow m=true by rw[advNow,hv,c1];rfl)
   go_wp2_with (first|((with_reducible refine rl ?_);(repeat(first|go_big_quiet_step (first|fail)|simp only[c1]));refine wpQuiet_nil ?_;intro x)|(refine stepLoad1W kg _ (.tmp 13) rfl (w.heap.size) 0 kr (HB.out.to ii) (.int .i64 m.Time) HR0.out _ uu3 rfl ?_))
   go_meet
   case rel=>exact⟨by rw[HK.out];rfl,Later.of⟩
  ·have HK:=lH (show advNow m=false by rw[advNow,hv,c1];rfl)
   go_wp2_with (first|((with_reducible refine rl ?_);(repeat(first|go_big_quiet_step (first|fail)|simp only[c1]));refine wpQuiet_nil ?_;intro x)|(refine stepLoad1W kg _ (.tmp 13) rfl (w.heap.size) 0 kr (HB.out.to ii) (.int .i64 m.Time) HR0.out _ uu3 rfl ?_))
   go_meet
   case rel=>exact⟨by rw[HK.out];rfl,Later.of⟩
 case rest =>
  obtain⟨rfl,y0,rfl⟩:=hcut
  cases hn:advNow m
  ·obtain⟨vs7,hH7,hl7,h17,-,χ7,hO7⟩:=HG.out.vs
   have HH7:=lH hH7;have HO7:=lH hO7;have H17:=lH h17;have HL7:=lH (show vs7.length=61 from hl7)
   clear hO7 hH7 h17 hl7
   go_wp2_with (first|((with_reducible refine rl ?_);refine rq ?_;intro x)|(refine sL rfl _ (.tmp 3) rfl (qb) kr HH7 ii uu90 HL7 ?_)|(refine sW rfl _ _ _ rfl (w.heap.size+1) rfl (us:=vs7) (HR.out.to ii) HL7 H17 (w0:=w) ii (by omega) ?_;intro z7 HX7 KX7))
   refine bodyPost_ret (v:=.agg vs7.toArray) (results_cell (P:=Tryz.prog) rfl rfl HX7.out _ uu90 rfl (by rw[HL7.out];kernel_rfl)) rfl ?_
   rw[show advanceBoard m=m by rw[advanceBoard,hn];rfl]
   exact⟨vs7,χ7,rfl,obox_fin (obox_to HO7.out ii) KX7.out (show w.heap.size+1<W2.heap.size by omega) hW2,Later.of⟩
  have HN:=lH hn
  have hb:=adv_parts hn
  have ht0:=hb.2.1;have ht1:=hb.2.2.1
  have htd:=td_bd m.Drift.Rate m.Drift.Offset m.Time
  obtain⟨N,hN⟩:∃ N:Nat,advN m=N:=⟨_,rfl⟩
  have HNE:=lH hN
  have HTD:=lH (show ticksDue m.Drift.Rate m.Drift.Offset m.Time=(N:Int)by rw[← hN,advN];omega)
  have hNb:N≤1000:=by have:=HTD.out;omega
  clear hn hb htd hN
  (try simp only[Bool.not_true])
  have HG0:=lH (show GB (fun _=>False) W2.heap.size qb z1.w (advS m 0)from HG.out)
  go_wp2_with (first|((with_reducible refine rl ?_);refine rq ?_;intro x)|(refine stepLoad rfl _ (.tmp 18) rfl (w.heap.size) 2 kr (row:=[.int .i64 m.Drift.Rate,.int .i64 m.Drift.Offset]) (HB.out.to ii) _ Tryz.underlying62 rfl kr HR2.out ?_)|(refine stepLoad1W kg _ (.tmp 20) rfl (w.heap.size) 0 kr (HB.out.to ii) (.int .i64 m.Time) HR0.out _ uu3 rfl ?_))
  refine gm (c_sTicksDue) ?_
  intro y3
  rw[HTD.out]
  go_wp2_with (first|((with_reducible refine rl ?_);refine rq ?_;intro x))
  go_loopw [4] (fun v wr=>∃ (k:Nat) (u:Int),v=.int .i64 u∧0≤u∧u≤1000∧Hid (u+k=N)∧Hid (GB (fun _=>False) W2.heap.size qb wr (advS m k))∧∃ y:Later W2,wr=y.w) (fun v _=>(intOf v).toNat)
  case atStart=>exact⟨0,N,rfl,by omega,by omega,(by show(N:Int)+((0:Nat):Int)=N;omega),HG0.out.to ii,Later.of⟩
  case round =>
   obtain⟨k,u,rfl,hu0,hu1,HU,HGK,y,rfl⟩:=hrel
   clear HG HG0
   have hqy:LtN qb y.w.heap.size:=⟨HGK.out.lt⟩
   cases kc:decide (0<u)
   ·have hu2:=of_decide_eq_false kc
    obtain rfl:k=N:=by have:=HU.out;omega
    obtain rfl:u=0:=by omega
    clear hu0 hu1 hu2 kc
    obtain⟨s,n,hs,hn,hsn,hn5,hal,haf⟩:=advA_facts HN.out
    rw[HNE.out]at hn hal haf
    have HS:=lH hs;have HNL:=lH hn;have HAL:=lH hal;have HAF:=lH haf
    clear hs hn hal haf
    have et:∀ (W:World) [Grows y.w W],W.cell? ⟨qb,0,none⟩=some (.int .i64 m.Time):=fun W g=>gb_time HGK.out W
    go_upto_region 9 with(first|((with_reducible refine rl ?_);refine rq ?_;intro x)|(refine step_gbC (o:=0) (us:=[.int .i64 (m.Time+1)]) (advF m k 0) rfl _ (.tmp 36) (.tmp 35) rfl (HGK.out.to ii) rfl rfl kr rfl nb (by intros;rename_i h;obtain⟨A1,rfl,q⟩:=h;exact⟨A1,rfl,{ q with ok:=⟨(by show i64 (m.Time+1);unfold i64;omega),q.ok.2⟩ }⟩) ii nl ?_;intro z2 hz2 hX2))
    (try simp only[Act.put])
    have HZ2:=lH hz2
    clear hz2 hX2 et ht0 ht1 hqy
    have hqz2:LtN qb z2.w.heap.size:=⟨HZ2.out.lt⟩
    obtain⟨aa,ac,ea,hown,-,-⟩:=HZ2.out.own mAsked
    have HOR:=lH (Own.at0 hown)
    have ea2:∀ (W:World) [Grows z2.w W],W.cell? ⟨qb,48,none⟩=some (.slice aa n ac):=fun W g=>HNL.out▸ea W
    obtain⟨vs5,A,hV5,hvs5,-⟩:=gb_cells HZ2.out
    have eb:∀ (W:World) [Grows z2.w W],W.cell? ⟨qb,56,none⟩=some (.int .i64 s):=fun W g=>(hV5.to g).cell 56 |>.trans (by rw[hvs5];exact congrArg (fun k=>some (Value.int .i64 k)) HS.out)
    have HC48:=lH (ea2 z2.w)
    have hnac:n≤ac:=by have h1:=hown.cap;have h2:=HNL.out;have h3:(mAsked.get (advF m k 0)).length=n:=h2;omega
    clear ea hV5 hvs5 hown
    go_wp2_with (first|((with_reducible refine rl ?_);refine rq ?_;intro x))
    clear ea2 eb
    go_loopw [6] (fun v wr=>∃ i:Nat,v=.int .i64 i∧s≤i∧i≤n∧Hid (wr.cell? ⟨qb,48,none⟩=some (.slice aa n ac))∧Hid (GB (fun _=>False) W2.heap.size qb wr (advF m k (i - s)))∧∃ z:Later W2,wr=z.w) (fun v _=>(n - intOf v).toNat)
    case atStart=>exact⟨s,rfl,Nat.le_refl _,hsn,cell_grown hqz2.out HC48.out _,(by rw[Nat.sub_self];exact HZ2.out.to ii),Later.of⟩
    case round =>
     obtain⟨i,rfl,hsi,hi,HC,HGR,z,rfl⟩:=hrel
     obtain⟨j,hj⟩:∃ j,i - s=j:=⟨_,rfl⟩
     rw[hj]at HGR
     obtain⟨y,hy⟩:∃ y:Later W2,z.w=y.w:=⟨z,rfl⟩
     rw[hy]at HC HGR ⊢
     clear hy z
     have hqy:LtN qb y.w.heap.size:=⟨HGR.out.lt⟩
     have HLN:=lH (advF_lens HN.out k j)
     by_cases hin:i<n
     ·have kc:decide ((i:Int)<(n:Int))=true:=by simp;omega
      obtain⟨g,rfl⟩:∃ g,aa=some ⟨g,0,none⟩:=by
       rcases HOR.out with⟨-,h0⟩|h
       ·omega
       ·exact h
      obtain⟨oo,hoo⟩:∃ oo,(0:Nat)=oo:=⟨_,rfl⟩
      obtain⟨ab,abc,eab,-,-,hrd⟩:=HGR.out.own mAsked
      have e1:=(eab y.w).symm.trans HC.out
      simp only[Option.some.injEq,Value.slice.injEq]at e1
      obtain⟨rfl,-,rfl⟩:=e1
      have hrd:RdS W2.heap.size y.w (some ⟨g,0,none⟩) abc (tickN k m.Space.Board).Asked:=hrd
      obtain⟨eb,eoff,es0,heq,hg0,ehd,h0⟩:=(RdS.toSlInt hrd).int (k:=i) (by rw[HNL.out];exact hin)
      cases heq
      clear oo hoo
      have hel:(advA m k)[j]?=some es0:=by
       have:=congrArg (fun l=>l[0]?) ehd.out
       simp only[List.getElem?_drop,Nat.add_zero,List.getElem?_cons_zero]at this
       rw[advA,show m.Space.Begun.toNat=s by rw[HS.out];rfl,List.getElem?_drop,show s+j=i by omega];exact this
      have hf:=HAF.out es0 (List.mem_of_getElem? hel)
      obtain⟨fj,rfl⟩:∃ fj:Nat,es0=(fj:Int):=⟨es0.toNat,by omega⟩
      have hf8:fj<8:=by omega
      have HEL:=lH hel
      have ej:∀ (W:World) [Grows y.w W],W.cell? ⟨g,0+i*1,none⟩=some (.int .i64 fj):=fun W gg=>by rw[Nat.mul_one];exact h0 W
      obtain⟨oa,oc,eo1,hoa⟩:=GB.ownN mOuts HGR.out
      have HLO:=lH (show(mOuts.get (advF m k j)).length=8 from HLN.out.1)
      obtain⟨ob,rfl⟩:=hoa (by rw[HLO.out];decide)
      have HEO:=lH (eo1 y.w)
      have eo:∀ (W:World) [Grows y.w W],W.cell? ⟨qb,55,none⟩=some (.slice (some ⟨ob,0,none⟩) 8 oc):=fun W g=>HLO.out▸eo1 W
      obtain⟨fa,fc,ef1,hownf,-,-⟩:=HGR.out.own mSFiles
      have HLF:=lH (show(mSFiles.get (advF m k j)).length=8 from HLN.out.2.2.1)
      obtain⟨fb,fo,sf,rfl,hfb,hfd,hs0⟩:=(Own.sl hownf).str (k:=fj) (by rw[HLF.out];exact hf8)
      have ef:∀ (W:World) [Grows y.w W],W.cell? ⟨qb,54,none⟩=some (.slice (some ⟨fb,fo,none⟩) 8 fc):=fun W g=>HLF.out▸ef1 W
      have es:∀ (W:World) [Grows y.w W],W.cell? ⟨fb,fo+fj*1,none⟩=some (.string sf):=fun W g=>by rw[Nat.mul_one];exact hs0 W
      have hsg:m.Space.Files.getD fj ByteArray.empty=sf:=by
       have:=congrArg (fun l=>l[0]?) (show m.Space.Files.drop fj=sf::_ from hfd.out)
       simp only[List.getElem?_drop,Nat.add_zero,List.getElem?_cons_zero]at this
       rw[List.getD_eq_getElem?_getD,this];rfl
      have hsf:sf.size≤600:=by rw[← hsg];exact HLN.out.2.2.2.1 fj hf8
      have HSG:=lH hsg
      have HJ1:=lH (show i+1 - s=j+1 by omega)
      clear eab hrd ehd h0 hel hf eo1 ef1 hownf hfd hs0 hsg
      go_upto_region 13 with(first|((with_reducible refine rl ?_);(repeat(first|go_big_quiet_step (first|fail)|simp only[kc]));refine wpQuiet_nil ?_;intro x))
      refine wp_region_stabZ kr (T:=[25]) (Zs:=[(23,[20])]) (H:=[(2,[]),(5,[]),(6,[]),(9,[]),(10,[]),(13,[]),(16,[]),(17,[]),(18,[]),(19,[]),(20,[]),(21,[20]),(22,[20]),(23,[20]),(24,[20])]) (C:=[20]) (Fs:=[(some 51,.v (.pointer (some ⟨qb,33,none⟩))),(some 52,.v (.pointer (some ⟨qb,55,none⟩))),(some 53,.v (.slice (some ⟨ob,0,none⟩) 8 oc)),(some 54,.v (.slice (some ⟨g,0,none⟩) n abc)),(some 55,.v (.int .i64 i)),(some 56,.v (.pointer (some ⟨g,0+i*1,none⟩))),(some 57,.v (.int .i64 fj)),(some 58,.v (.slice (some ⟨g,0,none⟩) n abc)),(some 59,.v (.int .i64 i)),(some 60,.v (.pointer (some ⟨g,0+i*1,none⟩))),(some 61,.v (.int .i64 fj)),(some 62,.v (.pointer (some ⟨qb,33,none⟩))),(some 63,.v (.pointer (some ⟨qb,54,none⟩))),(some 64,.v (.slice (some ⟨fb,fo,none⟩) 8 fc)),(some 65,.v (.slice (some ⟨g,0,none⟩) n abc)),(some 66,.v (.int .i64 i)),(some 67,.v (.pointer (some ⟨g,0+i*1,none⟩))),(some 68,.v (.int .i64 fj)),(some 69,.v (.pointer (some ⟨fb,fo+fj*1,none⟩))),(some 70,.v (.string sf)),(some 71,entOB y.w.heap.size (newOut (fj:Int) sf) true),(some 50,.fn [20] gOne),(some 72,.fn [20] gFst),(some 73,.fn [20] gSnd),(some 74,.v (.pointer (some ⟨ob,0+fj*4,none⟩))),(none,.v undef)]) kr (fun val W=>by kernel_rfl) ?ob3 ?lz3 ?pn3 ?tl3
      case ob3 =>
       refine⟨fun x=>?_,fun x=>?_,fun x=>?_,fun x=>?_,fun x=>?_,fun x=>?_,fun x=>?_,fun x=>?_,fun x=>?_,fun x=>?_,fun x=>?_,fun x=>?_,fun x=>?_,fun x=>?_,fun x=>?_,trivial⟩
       ·exact g_cell (eo x.w) rfl kr _ Tryz.underlying86 rfl
       ·exact g_ix (size:=1) (o:=0) (j:=i) (n:=n) (c:=abc) rfl kr Tryz.underlying46 kr hin
       ·exact g_cell (ej x.w) rfl kr _ uu3 rfl
       ·exact g_ix (size:=1) (o:=0) (j:=i) (n:=n) (c:=abc) rfl kr Tryz.underlying46 kr hin
       ·exact g_cell (ej x.w) rfl kr _ uu3 rfl
       ·exact g_cell (ef x.w) rfl kr _ Tryz.underlying30 rfl
       ·exact g_ix (size:=1) (o:=0) (j:=i) (n:=n) (c:=abc) rfl kr Tryz.underlying46 kr hin
       ·exact g_cell (ej x.w) rfl kr _ uu3 rfl
       ·exact g_ix (size:=1) (o:=fo) (j:=fj) (n:=8) (c:=fc) rfl kr Tryz.underlying30 kr hf8
       ·exact g_cell (es x.w) rfl kr _ Tryz.underlying9 rfl
       ·refine g_call (f:=23) (args:=[.int .i64 fj,.string sf]) Tryz.func23 kr kr ((o_sNewFileOut (f:=(fj:Int)) (s:=sf) (by omega) hsf).mono ?_)
        rintro _ _ ⟨vs2,χ2,rfl,hO2,y2,rfl⟩
        exact⟨_,rfl,⟨y2,rfl⟩,vs2,χ2,rfl,OBox.map hO2 (.mono x.size_le)⟩
       ·refine chain1 fun v13 q13=>chain0 ?_
        obtain⟨vs2,χ2,rfl,q⟩:=(show isOB y.w.heap.size (newOut (fj:Int) sf) true v13 x.w from q13)
        exact g_fn (k:=21) kr kr
       ·refine chain1 fun v13 q13=>chain0 ?_
        obtain⟨vs2,χ2,rfl,q⟩:=(show isOB y.w.heap.size (newOut (fj:Int) sf) true v13 x.w from q13)
        exact g_fn (k:=22) kr kr
       ·refine chain1 fun v13 q13=>chain0 ?_
        obtain⟨vs2,χ2,rfl,q⟩:=(show isOB y.w.heap.size (newOut (fj:Int) sf) true v13 x.w from q13)
        exact g_fn (k:=23) kr kr
       ·refine chain1 fun v13 q13=>chain0 ?_
        exact g_ix (size:=4) (o:=0) (j:=fj) (n:=8) (c:=oc) rfl kr Tryz.underlying86 kr hf8
      case lz3 =>
       refine⟨fun W hW=>?_,trivial⟩
       refine chain1 fun v13 q13=>chain0 ?_
       obtain⟨vs2,χ2,rfl,q⟩:=(show isOB y.w.heap.size (newOut (fj:Int) sf) true v13 W from q13)
       intro W3
       kernel_rfl
      case pn3=>exact fun _ _ _ _ _ _ h=>h
      case tl3 =>
       intro x
       refine chain1 fun v13 q13=>?_
       obtain⟨vs2,χ2,rfl,hO2⟩:=(show isOB y.w.heap.size (newOut (fj:Int) sf) true v13 x.w from q13)
       clear q13
       obtain⟨ra,rc,rfl,kO⟩:=hO2
       have HKO:=lH kO;clear kO
       refine tail1 rfl ?_
       simp only[put_nrm,put_nrm2,List.map,gOne,gFst,gSnd]
       simp only[nrm,if_true]
       go_upto_region 12 with(first|((with_reducible refine rl ?_);refine rq ?_;intro x)|(refine step_gbR mOuts rfl _ (.tmp 74) (.tmp 72) rfl HGR.out (ii:Grows y.w x.w) HEO.out (by rw[show(mOuts.get (advF m k j)).length=8 from HLO.out];exact hf8) HKO.out.o0 HKO.out.ok rfl rfl (by omega) rfl rfl kr (w0:=W2) ii nl ?_;intro z6 hz6 hbq hh6))
       (try simp only[Act.put])
       have HZ6:=lH (show GB (fun _=>False) W2.heap.size qb z6.w (advF m k (i+1 - s))from by rw[HJ1.out,← advF_next HEL.out,show((fj:Int)).toNat=fj from rfl,HSG.out];exact hz6)
       have HC6:=lH ((cell_heap (hh6 qb (Nat.lt_of_lt_of_le hqy.out (ii:Grows y.w x.w).out.size) hbq) 48).trans (cell_grown hqy.out HC.out x.w))
       clear hz6 hh6 ej eo ef es
       go_wp2_with (first|((with_reducible refine rl ?_);refine rq ?_;intro x))
       go_roundw
       case rel=>exact⟨i+1,by go_num,by omega,by omega,cell_grown HZ6.out.lt HC6.out _,HZ6.out.to ii,Later.of⟩
       case measure=>simp[intOf];omega
     ·obtain rfl:i=n:=by omega
      have kc:decide ((i:Int)<(i:Int))=false:=by simp
      have HFIN:=lH (show({ advF m k j with Space:={ (advF m k j).Space with Begun:=(i:Int) } }:TMission)=advanceBoard m from by have h1:=advF_end (M:=j) (n:=i) HN.out (by rw[HNE.out,HAL.out,hj]) (by rw[HNE.out];exact HNL.out);rw[HNE.out]at h1;exact h1)
      go_upto_region 15 with(first|((with_reducible refine rl ?_);(repeat(first|go_big_quiet_step (first|fail)|simp only[kc]));refine wpQuiet_nil ?_;intro x)|(refine step_gbC (o:=56) (us:=[.int .i64 i]) ({ advF m k j with Space:={ (advF m k j).Space with Begun:=(i:Int) } }:TMission) rfl _ (.tmp 78) (.tmp 76) rfl (HGR.out.to ii) rfl rfl kr rfl nb (by intros;rename_i h;obtain⟨A1,rfl,q⟩:=h;exact⟨A1,rfl,{ q with ok:=ok_begun q.ok (by unfold i64;omega) }⟩) ii nl ?_;intro z8 hz8 hX8))
      (try simp only[Act.put])
      have HZ8:=lH hz8
      clear hz8 hX8
      obtain⟨vs9,hH9,hl9,h19,-,χ9,hO9⟩:=HZ8.out.vs
      have HH9:=lH hH9;have HO9:=lH hO9;have H19:=lH h19;have HL9:=lH (show vs9.length=61 from hl9)
      clear hO9 hH9 h19 hl9
      go_wp2_with (first|((with_reducible refine rl ?_);refine rq ?_;intro x)|(refine sL rfl _ (.tmp 3) rfl (qb) kr HH9 ii uu90 HL9 ?_)|(refine sW rfl _ _ _ rfl (w.heap.size+1) rfl (us:=vs9) (HR.out.to ii) HL9 H19 (w0:=w) ii (by omega) ?_;intro z9 HX9 KX9))
      refine bodyPost_ret (v:=.agg vs9.toArray) (results_cell (P:=Tryz.prog) rfl rfl HX9.out _ uu90 rfl (by rw[HL9.out];kernel_rfl)) rfl ?_
      rw[← HFIN.out]
      exact⟨vs9,χ9,rfl,obox_fin (obox_to HO9.out ii) KX9.out (show w.heap.size+1<W2.heap.size by omega) hW2,Later.of⟩
   ·have hu2:=of_decide_eq_true kc
    obtain⟨vs5,A,hV5,hvs5,F⟩:=gb_cells HGK.out
    have HV:=lH hV5
    obtain⟨bd,hbd⟩:∃ bd,(vs5.drop 37).take 12=bd:=⟨_,rfl⟩
    have HRB:=lH hbd
    have HBR:=lH (show Enc.Rd W2.heap.size y.w bd (advS m k).Space.Board from by rw[← hbd,hvs5];exact⟨⟨A.a9,A.c9,A.a10,A.c10,A.a11,A.c11,A.a12,A.c12,A.a13,A.c13,A.a14,A.c14,A.a15,A.c15⟩,rfl,⟨F.q9,F.q10,F.q11,F.q12,F.q13,F.q14,F.q15,F.ok.2.2.2.2.2.2.2.1.2.1⟩⟩)
    clear hV5 hvs5 hbd F
    have HBL:=lH (len_board HBR.out)
    have HTK:=lH (tickN_tot HN.out k)
    have HU2:=lH (show u - 1+((k+1:Nat):Int)=N by have:=HU.out;omega)
    go_wp2_with (first|((with_reducible refine rl ?_);(repeat(first|go_big_quiet_step (first|fail)|simp only[kc]));refine wpQuiet_nil ?_;intro x)|(refine stepLoad rfl _ (.tmp 28) rfl (qb) 37 kr (row:=bd) (HV.out.to ii) _ uu84 rfl (by rw[HBL.out];kernel_rfl) (by rw[HBL.out];exact HRB.out) ?_))
    refine(o_sTickBoard (b:=(advS m k).Space.Board) (Enc.keep HBR.out ii) (Int.le_trans HTK.out (by decide))).mono ?_
    rintro _ _ ⟨vs2,χ2,rfl,hO2,y4,rfl⟩
    have HL2:=lH (len_board (EncO.toRd hO2))
    have HP:=lH (GBq.new (D:=mBoard) HGK.out (ii:Grows y.w y4.w) (OBox.map hO2 (.mono LeN.out)))
    clear hO2
    go_wp2_with (first|((with_reducible refine rl ?_);refine rq ?_;intro x)|(refine step_gbD rfl _ (.tmp 32) (.tmp 30) rfl HP.out rfl rfl (by rw[HL2.out];kernel_rfl) (w0:=W2) ii nl ?_;intro z6 hz6 hX6))
    have HZ6:=lH (show GB (fun _=>False) W2.heap.size qb z6.w (advS m (k+1))from advS_next m k▸hz6)
    clear hz6 hX6
    go_roundw
    case rel=>exact⟨k+1,u - 1,rfl,by omega,by omega,HU2.out,HZ6.out.to ii,Later.of⟩
    case measure=>simp[intOf];omega
theorem o_sAdvanceBoard{B:Nat}{vs:List Value}{m:TMission}{w:World}(h:Enc.Rd B w vs m)(ht:Enc.tot m≤4000000):Calls Tryz.prog 6 #[.agg vs.toArray] w (GivesO w (advanceBoard m)):=o_sAdvanceBoard5 h (by omega) (by omega)
theorem c_lFnExactAdvanceBoard{vs:List Value}{m:TMission}{w:World}(hm:Enc.Rd 0 w vs m) :
  Calls Tryz.prog 3 #[.agg vs.toArray] w (Gives w (.bool true)):=by
 have HL:=lH (len_mission hm)
 have HM:=lH hm;clear hm
 have HB:=lH (Held.new w vs 60 w.heap.size rfl)
 by_cases ht:(1048576:Int) - Enc.tot m<0
 ·have HSZ:=lH (szD_neg ht);clear ht
  go_enter Tryz.func3,Tryz.ntmps3
  go_wp2_with (first|((with_reducible refine rl ?_);refine rq ?_;intro x)|(refine sL rfl _ _ rfl w.heap.size rfl HB ii uu60 HL ?_))
  refine gm (d_lszMission (x:=m) (Enc.keep HM.out ii) (by omega) (by omega)) ?_
  intro y0
  rw[HSZ.out]
  go_wp2_with (first|((with_reducible refine rl ?_);refine rq ?_;intro x))
  go_ret
  exact Gives.mk rfl
 have HSZ:=lH (szD_pos ht)
 have hle:0≤(1048576:Int) - Enc.tot m:=by omega
 have HT:=lH (show Enc.tot m≤1048576 by omega)
 have HT8:=lH (show Enc.tot m≤100000000 by omega)
 have HTS:=lH (show Enc.tot m≤4000000 by omega)
 clear ht
 have HTF:=lH (show Enc.tot (advanceBoard m)≤100000000 from by have h1:=advanceBoard_tot m;have h2:=HT.out;omega)
 obtain⟨fm,hfm⟩:∃ fm,advanceBoard m=fm:=⟨_,rfl⟩
 have HF:=lH hfm;clear hfm
 rw[HF.out]at HTF
 obtain⟨K,hK⟩:∃ K,mnMMission fm 1=K:=⟨_,rfl⟩
 have hKb:=mnMMission_le fm 1
 rw[hK]at hKb
 have hK1:1≤K:=hKb.1
 have hK2:¬ K<0:=by omega
 have HK:=lH hK;clear hK hKb
 obtain⟨J,hJ⟩:∃ J,mnMMission m 1=J:=⟨_,rfl⟩
 have hJb:=mnMMission_le m 1
 rw[hJ]at hJb
 have hJ1:1≤J:=hJb.1
 have hJ2:¬ J<0:=by omega
 have HJ:=lH hJ;clear hJ hJb
 have kb:(K != K)=false:=by simp
 go_enter Tryz.func3,Tryz.ntmps3
 go_wp2_with (first|((with_reducible refine rl ?_);refine rq ?_;intro x)|(refine sL rfl _ _ rfl w.heap.size rfl HB ii uu60 HL ?_))
 refine gm (d_lszMission (x:=m) (Enc.keep HM.out ii) (by omega) (by omega)) ?_
 intro y0
 rw[HSZ.out]
 go_wp2_with (first|((with_reducible refine rl ?_);refine rq ?_;intro x)|(refine sL rfl _ _ rfl w.heap.size rfl HB ii uu60 HL ?_))
 refine(dl_toMission (x:=m) (Enc.keep HM.out ii) HT.out).mono ?_
 rintro _ _ ⟨os,rfl,hR1,y1,rfl⟩
 have HR1:=lH hR1;clear hR1
 go_wp2_with (first|((with_reducible refine rl ?_);refine rq ?_;intro x))
 refine(o_sAdvanceBoard (m:=m) HR1.out HTS.out).mono ?_
 rintro _ _ ⟨ws,χw,rfl,hW,y2,rfl⟩
 rw[HF.out]at hW
 have HLW:=lH (len_mission (EncO.toRd hW))
 have HOW:=lH (one_mission (EncO.toRd hW))
 have HW0:=lH (Enc.mono (EncO.toRd hW) (Nat.zero_le _));clear hW HR1
 go_wp2_with (first|((with_reducible refine rl ?_);refine rq ?_;intro x)|(refine sW rfl _ _ _ rfl _ rfl (us:=ws) (Held.new _ zMission 90 _ rfl) HLW HOW (w0:=(w.alloc (.cells vs.toArray 60))) ii LeN.out ?_;intro z1 HX1 KX1)|(refine sL rfl _ _ rfl w.heap.size rfl HB ii uu60 HL ?_))
 have HW1:=lH (Enc.keep HW0.out (KX1.out.under ii nl));clear HW0 KX1
 have HWb1:=lH HX1.out;clear HX1
 have HB1:=lH (HB.out.to (ii:Grows _ z1.w))
 have HM1:=lH (Enc.keep HM.out (ii:Keeps _ _ z1.w));clear HB HM
 refine(o_ltoMission (x:=m) (Enc.keep HM1.out ii) HT.out).mono ?_
 rintro _ _ ⟨xs,χx,rfl,hX,y3,rfl⟩
 have HLX:=lH (len_mission (EncO.toRd hX))
 have HOX:=lH (one_mission (EncO.toRd hX))
 have HX0:=lH (om_old hX nl);clear hX
 go_wp2_with (first|((with_reducible refine rl ?_);refine rq ?_;intro x)|(refine sW rfl _ _ _ rfl _ rfl (us:=xs) (Held.new _ zMission 90 _ rfl) HLX HOX (w0:=(w.alloc (.cells vs.toArray 60))) ii LeN.out ?_;intro z2 HX2 KX2)|(refine sL rfl _ _ rfl _ rfl HX2 ii uu90 HLX ?_))
 have HG12:=lH (growsOf z1 z2 (KX2.out.under ii y3.size_le))
 have HXO2:=lH (om_keep HX0.out (KX2.out.under ii nl));clear HX0 KX2
 have HWb2:=lH (HWb1.out.to HG12.out)
 have HU2:=lH (show y3.w.heap.size≤z2.w.heap.size from Nat.le_of_lt HX2.out.lt)
 refine(o_iAdvanceBoard (m:=m) (EncO.toRd HXO2.out) HTS.out).mono ?_
 rintro _ _ ⟨gs,χg,rfl,hG,y4,rfl⟩
 rw[HF.out]at hG
 have HLG:=lH (len_mission (EncO.toRd hG))
 have HOG:=lH (one_mission (EncO.toRd hG))
 have HG0:=lH (om_old hG nl);clear hG
 go_wp2_with (first|((with_reducible refine rl ?_);refine rq ?_;intro x)|(refine sW rfl _ _ _ rfl _ rfl (us:=gs) (Held.new _ zMission 90 _ rfl) HLG HOG (w0:=(w.alloc (.cells vs.toArray 60))) ii LeN.out ?_;intro z3 HX3 KX3)|(refine sL rfl _ _ rfl _ rfl HX3 ii uu90 HLG ?_)|(refine stepLoad rfl _ _ rfl _ 0 rfl (row:=ws) ((HWb2.out.past ii KX3.out y4.size_le).to ii) _ uu90 rfl (by rw[HLW.out];kernel_rfl) dt ?_))
 have HG23:=lH (growsOf z2 z3 (KX3.out.under ii y4.size_le))
 have HGO3:=lH (om_keep HG0.out (KX3.out.under ii nl));clear HG0 KX3
 have HG13:=lH (growsTr HG12.out HG23.out)
 have HW3:=lH (Enc.keep HW1.out (@Keeps.grows 0 _ _ HG13.out))
 have HUg:=lH (show y4.w.heap.size≤z3.w.heap.size from Nat.le_of_lt HX3.out.lt)
 refine gm (d_leqMission (x:=fm) (EncO.toRd HGO3.out) HW3.out) ?_
 intro y5
 go_wp2_with (first|((with_reducible refine rl ?_);refine rq ?_;intro x))
 have HGV:=lH (ii:Grows z3.w (z3.andThen y5).w)
 obtain⟨V,hV⟩:∃ V:Later (w.alloc (.cells vs.toArray 60)),(z3.andThen y5).w=V.w:=⟨_,rfl⟩
 rw[hV]at HGV ⊢
 clear hV
 have HG1V:=lH (growsTr HG13.out HGV.out);have HG2V:=lH (growsTr HG23.out HGV.out)
 have HBV:=lH (HB1.out.to HG1V.out);have HMV:=lH (Enc.keep HM1.out (@Keeps.grows 0 _ _ HG1V.out))
 have HXV:=lH (HX2.out.to HG2V.out);have HXOV:=lH (om_to HXO2.out HG2V.out)
 have HGbV:=lH (HX3.out.to HGV.out);have HGOV:=lH (om_to HGO3.out HGV.out)
 refine wp_region_held_drew (S:=fun W=>Below V.w.heap.size V.w W) kr (Below.refl _ _).drew (fun hH=>?_)
 refine wpAnyH_take (i:=0) (v:=_) rfl kr kr kr (fun _ _ _ h=>h) (yieldsIf_load_mid (by rfl) _ _ rfl _ _ rfl xs _ (fun W hW=>(HXV.out.to ⟨hW⟩).range (n:=xs.length) dt) uu90 rfl (by rw[HLX.out];kernel_rfl)) (by assumption) ?_
 (try simp only[nrm])
 refine wpAnyH_take (i:=1) (v:=_) rfl kr kr kr (fun _ _ _ h=>h) (yieldsIf_load_mid (by rfl) _ _ rfl _ _ rfl vs _ (fun W hW=>(HBV.out.to ⟨hW⟩).range (n:=vs.length) dt) uu60 rfl (by rw[HL.out];kernel_rfl)) (by assumption) ?_
 (try simp only[nrm])
 refine wpAnyH_ready (rs:=[2]) kr (by simp) ?_
 refine AllReadyH.cons rfl (fun K2 hQ=>?_) AllReadyH.nil
 refine step_call rfl (f:=7) rfl Tryz.func7 kr kr [.agg vs.toArray] rfl ((dl_toMission (x:=m) (Enc.keep HMV.out ⟨hH.size,fun b _ h2=>hH.block b h2⟩) HT.out).mono ?_)
 rintro _ _ ⟨qs,rfl,hR3,y6,rfl⟩
 refine⟨_,rfl,hQ.out _ _ (hH.trans (y6.h.mono hH.size)) (fun hH2=>?_)⟩
 (try simp only[nrm])
 clear hQ K2
 refine wpAnyH_ready (rs:=[3]) kr (by simp) ?_
 refine AllReadyH.cons rfl (fun K2 hQ=>?_) AllReadyH.nil
 refine step_call rfl (f:=9) rfl Tryz.func9 kr kr [.agg xs.toArray,.agg qs.toArray] rfl ((d_leqMission (x:=m) (Enc.keep (EncO.toRd HXOV.out) ⟨hH2.size,fun b _ h2=>hH2.block b h2⟩) hR3).mono ?_)
 rintro _ _ ⟨rfl,y7,rfl⟩
 refine⟨_,rfl,hQ.out _ _ (hH2.trans (y7.h.mono hH2.size)) (fun hH3=>?_)⟩
 (try simp only[nrm])
 clear hQ K2
 have HGZ:=lH (show Grows V.w y7.w from⟨hH3⟩)
 obtain⟨Z,hZ⟩:∃ Z:Later (w.alloc (.cells vs.toArray 60)),y7.w=Z.w:=Later.ofG (growsTr (ii:Grows _ V.w) HGZ.out)
 rw[hZ]at hH3 HGZ ⊢
 refine wpAnyH_ready (rs:=[4]) kr (by simp) ?_
 refine AllReadyH.cons rfl (fun K2 hQ=>?_) AllReadyH.nil
 go_simp
 refine hQ.out _ _ hH3 (fun hH4=>?_)
 clear hQ K2
 refine wpAnyH_done kr ?_ _
 clear hH hH2 hH3 hH4 hR3 hZ
 have HG1Z:=lH (growsTr HG1V.out HGZ.out);have HG2Z:=lH (growsTr HG2V.out HGZ.out)
 have HXZ:=lH (HXV.out.to HGZ.out);have HXOZ:=lH (om_to HXOV.out HGZ.out)
 have HGbZ:=lH (HGbV.out.to HGZ.out);have HGOZ:=lH (om_to HGOV.out HGZ.out)
 clear HGV HG1V HG2V HBV HMV HXV HXOV HGbV HGOV
 go_wp2_with (first|((with_reducible refine rl ?_);refine rq ?_;intro x)|(refine sL rfl _ _ rfl _ rfl HXZ ii uu90 HLX ?_))
 refine(o_markM (k:=1) HXOZ.out (freshU (Nat.le_of_lt HXZ.out.lt)) HG1Z.out.out.size HT8.out (by omega) (by omega)).mono ?_
 intro e5 Z5 hq5
 obtain⟨he,-,hF⟩:=hq5
 obtain rfl:e5=.returned (.int .i64 J):=he.trans (by rw[HJ.out])
 have HG5:=lH (hF.below HG1Z.out nl)
 have HK5:=lH (hF.keepsU (Rng.out (.inr (by decide))));clear he hF
 obtain⟨V5,rfl⟩:∃ x:Later (w.alloc (.cells vs.toArray 60)),Z5=x.w:=Later.ofG (growsTr (ii:Grows _ z1.w) HG5.out)
 have HW5:=lH (Enc.keep HW1.out (@Keeps.grows 0 _ _ HG5.out));have HWb5:=lH (HWb1.out.to HG5.out)
 have HUb:=lH (show y3.w.heap.size≤(z2.andThen y4).w.heap.size from Nat.le_trans HU2.out y4.size_le)
 have HGb5:=lH (HK5.out.ofU _ _ _ HUb.out HGbZ.out);have HGO5:=lH (om_keep HGOZ.out (HK5.out.more HU2.out))
 go_wp2_with (first|((with_reducible refine rl ?_);refine rq ?_;intro x)|(refine stepLoadG (by go_simp) _ _ rfl _ 0 rfl (row:=gs) (HGb5.out.to ii) _ uu90 rfl (by rw[HLG.out];kernel_rfl) dt ?_)|(refine stepLoadG (by go_simp) _ _ rfl _ 0 rfl (row:=ws) (HWb5.out.to ii) _ uu90 rfl (by rw[HLW.out];kernel_rfl) dt ?_))
 refine gm (d_leqMission (x:=fm) (EncO.toRd HGO5.out) HW5.out) ?_
 intro y8
 go_wp2_with (first|((with_reducible refine rl ?_);refine rq ?_;intro x)|(refine sL rfl _ _ rfl _ rfl HGb5 ii uu90 HLG ?_))
 have HGb7:=lH (HGb5.out.to (ii:Grows _ (V5.andThen y8).w))
 refine(o_markM (k:=1) (om_to HGO5.out ii) (freshU (Nat.le_of_lt HGb7.out.lt)) (Nat.le_trans y4.size_le (Nat.le_of_lt HGb7.out.lt)) HTF.out (by omega) (by omega)).mono ?_
 intro e6 Z6 hq6
 obtain⟨he,hO6,hF⟩:=hq6
 obtain rfl:e6=.returned (.int .i64 K):=he.trans (by rw[HK.out])
 have HG6:=lH (hF.below (growsTr HG5.out (ii:Grows _ (V5.andThen y8).w)) HG12.out.out.size)
 have HK6:=lH (hF.keepsU (Rng.out (.inr (by decide))));have HGO6:=lH hO6;clear he hF hO6
 obtain⟨V6,rfl⟩:∃ x:Later (w.alloc (.cells vs.toArray 60)),Z6=x.w:=Later.ofG (growsTr (ii:Grows _ z1.w) HG6.out)
 have HB6:=lH (HB1.out.to HG6.out);have HM6:=lH (Enc.keep HM1.out (@Keeps.grows 0 _ _ HG6.out))
 have HW6:=lH (Enc.keep HW1.out (@Keeps.grows 0 _ _ HG6.out));have HWb6:=lH (HWb1.out.to HG6.out)
 have HGb6:=lH (HK6.out.ofU _ _ _ nl HGb7.out)
 go_wp2_with (first|((with_reducible refine rl ?_);refine rq ?_;intro x)|(refine sL rfl _ _ rfl _ rfl HGb6 ii uu90 HLG ?_))
 refine(o_heldM (k:=1) (EncO.toRd HGO6.out) HTF.out (by omega) (by omega)).mono ?_
 intro e7 Z7 hq7
 obtain⟨he,y9,hw⟩:=hq7
 obtain rfl:e7=.returned (.int .i64 K):=he.trans (by rw[HK.out])
 clear he;subst hw
 go_wp2_with (first|((with_reducible refine rl ?_);(repeat(first|go_big_quiet_step (first|fail)|simp only[kb]));refine wpQuiet_nil ?_;intro x)|(refine sL rfl _ _ rfl w.heap.size rfl HB6 ii uu60 HL ?_))
 refine(dl_toMission (x:=m) (Enc.keep HM6.out ii) HT.out).mono ?_
 rintro _ _ ⟨os2,rfl,hR4,y10,rfl⟩
 have HR4:=lH hR4;clear hR4
 go_wp2_with (first|((with_reducible refine rl ?_);refine rq ?_;intro x))
 refine(o_iAdvanceBoard (m:=m) HR4.out HTS.out).mono ?_
 rintro _ _ ⟨hs,χh,rfl,hH,y11,rfl⟩
 rw[HF.out]at hH
 have HLH:=lH (len_mission (EncO.toRd hH))
 have HOH:=lH (one_mission (EncO.toRd hH))
 have HH0:=lH (Enc.mono (EncO.toRd hH) (Nat.zero_le _));clear hH HR4
 go_wp2_with (first|((with_reducible refine rl ?_);refine rq ?_;intro x)|(refine sW rfl _ _ _ rfl _ rfl (us:=hs) (Held.new _ zMission 90 _ rfl) HLH HOH (w0:=(w.alloc (.cells vs.toArray 60))) ii LeN.out ?_;intro z4 HX4 KX4)|(refine sL rfl _ _ rfl _ rfl HX4 ii uu90 HLH ?_)|(refine stepLoad rfl _ _ rfl _ 0 rfl (row:=ws) ((HWb6.out.past ii KX4.out LeN.out).to ii) _ uu90 rfl (by rw[HLW.out];kernel_rfl) dt ?_))
 have HH4:=lH (Enc.keep HH0.out (KX4.out.under ii nl));clear HH0
 have HW4:=lH (Enc.keep HW6.out (KX4.out.under (ii:Keeps 0 V6.w _) LeN.out))
 have HGb4:=lH (HGb6.out.past (ii:Keeps 0 V6.w _) KX4.out LeN.out)
 have HGR4:=lH (Enc.keep (Enc.mono (EncO.toRd HGO6.out) (Nat.zero_le _)) (KX4.out.under (ii:Keeps 0 V6.w _) LeN.out))
 refine gm (d_leqMission (x:=fm) HH4.out HW4.out) ?_
 intro y12
 go_wp2_with (first|((with_reducible refine rl ?_);refine rq ?_;intro x)|(refine sL rfl _ _ rfl _ rfl HGb4 ii uu90 HLG ?_))
 refine(o_heldM (k:=1) (Enc.keep HGR4.out ii) HTF.out (by omega) (by omega)).mono ?_
 intro e8 Z8 hq8
 obtain⟨he,y13,hw⟩:=hq8
 obtain rfl:e8=.returned (.int .i64 K):=he.trans (by rw[HK.out])
 clear he;subst hw
 go_wp2_with (first|((with_reducible refine rl ?_);(repeat(first|go_big_quiet_step (first|fail)|simp only[kb]));refine wpQuiet_nil ?_;intro x))
 go_ret
 exact Gives.mk rfl
theorem FnExactAdvanceBoard_lifted(os:Os)(started:os.Started)(H:Type)(enc:TypeId × Value→H) :
  ReturnsInHanded {} Tryz.checked os 3 .any (Rows.fnExactAdvanceBoardSpec.pre6 enc Tryz.prog Tryz.f3 Rows.fnExactAdvanceBoardRow.domain false) (Rows.fnExactAdvanceBoardSpec.post enc Tryz.prog Tryz.f3 false true false false):=by
 refine returnsInHanded_of_change (C:=Tryz.checked) own started kr Tryz.func3
  (ChangeSpec.witness6 (enc:=enc) (C:=Tryz.checked) false ⟨#[],#[.agg zMission.toArray],[]⟩ 8 kr kr kr kr) ?_
 intro W base args ds gs before hval0 hW hcnd _
 have hval:∀ (j:Nat) t v,Tryz.f3.params[j]?=some t→args[j]?=some v→Value.okWide Tryz.prog W .any base t v:=hval0
 have hW':=hW
 obtain⟨p,q,hA0,hV,rfl,hfz,hnd⟩:=hW
 have hA:DataW.TrodAll enc Tryz.prog W 0 (fun _=>true) true Tryz.f3.params.toList args.toList ds p:=hA0
 rw[Tryz.params3]at hA hval
 obtain⟨rfl,rfl⟩:=trodVars_none hV
 obtain⟨v0,vs0,d0,ds0,p0,q0,hargs,rfl,rfl,h0,r0⟩:=trodAll_cons hA
 obtain⟨rfl,rfl,rfl⟩:=trodAll_nil r0
 obtain rfl:args=#[v0]:=by cases args;simp_all
 obtain⟨cb0,rfl,hcz0⟩:=okWide_struct uu60 (hval 0 60 v0 rfl rfl)
 obtain⟨ca0,rfl⟩:∃ ca:List Value,cb0=ca.toArray:=⟨cb0.toList,by simp⟩
 obtain⟨f0,t0⟩:=h0
 obtain⟨hl0,rd0⟩:=codes_sound 10 _ _ _ _ _ (show codes Tryz.prog 10 60=some [.int,.int,.int,.int,.int,.int,.int,.sl [.int,.int],.int,.int,.int,.int,.int,.int,.sl [.int,.str],.sl [.int,.str],.sl [.str],.int,.int,.sl [.int,.str],.int,.int,.bool,.bool,.int,.int,.bool,.str,.int,.sl [.int,.int],.sl [.int,.int,.int,.str],.sl [.int,.int,.int,.sl [.str]],.sl [.bool],.int,.bool,.bool,.int,.int,.sl [.int],.bool,.sl [.int,.int,.int],.sl [.int,.int,.int,.int,.int],.sl [.int,.int,.int],.int,.sl [.int,.int,.int,.str],.sl [.int],.int,.int,.sl [.int],.int,.int,.str,.sl [.int],.int,.sl [.str],.sl [.int,.str,.sl [.int],.bool],.int,.sl [.int,.int,.int,.str],.sl [.str],.sl [.str],.int]by kernel_rfl) t0
 obtain⟨x0,hx0⟩:=ofTMission _ hl0 rd0
 clear hA0 hval0
 refine(Gives.below (c_lFnExactAdvanceBoard hx0)).mono fun e W' ⟨he,hb⟩=>?_
 subst he
 exact⟨_,rfl,law_post laidOut kr rfl rfl rfl Tryz.underlying4 hW' hb⟩
