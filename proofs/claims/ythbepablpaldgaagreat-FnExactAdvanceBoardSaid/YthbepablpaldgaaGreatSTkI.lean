/- TickBoard of the program. No condition but on sizes. -/
import Derived.Test.YthbepablpaldgaaGreatSM45
import Derived.Deep.CutRange
import Derived.Deep.CutBlock
namespace Go.Proofs.YthbepablpaldgaaGreat
set_option maxRecDepth 100000
set_option maxHeartbeats 4000000
set_option linter.unusedVariables false
open Go.ChangeShapes Go.WideShapes Go.ChangeAt Go.RowKit
private abbrev uu84:=Tryz.underlying84
theorem tickNow_cases(b:TBoard):(boardOk b=false∧tickNow b=false)∨(boardOk b=true∧(
  ((b.Clock == 1000000)=true∧tickNow b=false) ∨
  ((b.Clock == 1000000)=false∧decide ((60000:Int)<b.Made)=true∧tickNow b=false) ∨
  ((b.Clock == 1000000)=false∧decide ((60000:Int)<b.Made)=false∧decide ((60000:Int)<b.Taken)=true∧tickNow b=false) ∨
  ((b.Clock == 1000000)=false∧decide ((60000:Int)<b.Made)=false∧decide ((60000:Int)<b.Taken)=false∧decide ((4900:Int)<(b.Done.length:Int))=true∧tickNow b=false) ∨
  ((b.Clock == 1000000)=false∧decide ((60000:Int)<b.Made)=false∧decide ((60000:Int)<b.Taken)=false∧decide ((4900:Int)<(b.Done.length:Int))=false∧decide ((4900:Int)<(b.Asked.length:Int))=true∧tickNow b=false) ∨
  ((b.Clock == 1000000)=false∧decide ((60000:Int)<b.Made)=false∧decide ((60000:Int)<b.Taken)=false∧decide ((4900:Int)<(b.Done.length:Int))=false∧decide ((4900:Int)<(b.Asked.length:Int))=false∧tickNow b=true))):=by
 have n1:decide (b.Made≤60000)=!decide ((60000:Int)<b.Made):=by rw[← decide_not];exact decide_eq_decide.2 (by omega)
 have n2:decide (b.Taken≤60000)=!decide ((60000:Int)<b.Taken):=by rw[← decide_not];exact decide_eq_decide.2 (by omega)
 have n3:decide ((b.Done.length:Int)≤4900)=!decide ((4900:Int)<(b.Done.length:Int)):=by rw[← decide_not];exact decide_eq_decide.2 (by omega)
 have n4:decide ((b.Asked.length:Int)≤4900)=!decide ((4900:Int)<(b.Asked.length:Int)):=by rw[← decide_not];exact decide_eq_decide.2 (by omega)
 rw[tickNow,n1,n2,n3,n4]
 cases boardOk b<;>cases(b.Clock == 1000000)<;>cases decide ((60000:Int)<b.Made)<;>cases decide ((60000:Int)<b.Taken)<;>cases decide ((4900:Int)<(b.Done.length:Int))<;>cases decide ((4900:Int)<(b.Asked.length:Int))<;>simp
theorem tickGo_stop{b:TBoard}:∀ {n:Nat},(∀ w r,b.Orders=w::r→¬ w.Order.At≤b.Clock)→tickGo n b=b
 | 0,_=>rfl
 | n+1,h=>by
  rw[tickGo]
  split
  ·rfl
  ·rename_i w r hr;rw[if_neg (h w r hr)]
theorem tickGo_go{b:TBoard}{n:Nat}{w:TWaiting}{r:List TWaiting}(h:b.Orders=w::r)(ha:w.Order.At≤b.Clock):tickGo (n+1) b=tickGo n (performOrder { b with Orders:=r } w):=by
 rw[tickGo,h];simp only;rw[if_pos ha]
theorem perform_tot{b:TBoard}{w:TWaiting}(h:Enc.tot b≤50000000):Enc.tot (performOrder b w)≤50000000:=by
 have:=(perform_asked b w).2.2;omega
theorem dropOrder_tot{b:TBoard}{w:TWaiting}{r:List TWaiting}(h:b.Orders=w::r):Enc.tot ({ b with Orders:=r }:TBoard)≤Enc.tot b:=by
 rw[board_tot,board_tot,h,List.length_cons];simp only;omega
theorem o_iTickBoard{B:Nat}{vs:List Value}{b:TBoard}{w:World}(h:Enc.Rd B w vs b)(ht:Enc.tot b≤50000000) :
  Calls Tryz.prog 35 #[.agg vs.toArray] w (GivesO w (tickBoard b)):=by
 have HL:=lH (len_board h);have H1:=lH (one_board h)
 have HM:=lH h
 have HT:=lH (show Enc.tot b≤100000000 by omega);have HT5:=lH ht;clear ht
 obtain⟨A,hvs,F⟩:=h
 have HV0:=lH (show vs[0]?=some (.int .i64 b.Clock)by rw[hvs];rfl)
 have HV9:=lH (show vs[9]?=some (.int .i64 b.Made)by rw[hvs];rfl)
 have HV10:=lH (show vs[10]?=some (.int .i64 b.Taken)by rw[hvs];rfl)
 have HV5:=lH (show vs[5]?=some (.slice A.a3 b.Done.length A.c3)by rw[hvs];rfl)
 have HV11:=lH (show vs[11]?=some (.slice A.a6 b.Asked.length A.c6)by rw[hvs];rfl)
 clear hvs F
 have HB:=lH ((Held.new w vs 84 w.heap.size rfl).to (ii:Grows _ ((w.alloc (.cells vs.toArray 84)).alloc (.cells zBoard.toArray 84))))
 have HR:=lH (Held.new (w.alloc (.cells vs.toArray 84)) zBoard 84 (w.heap.size+1) (by simp))
 have gW:Grows w ((w.alloc (.cells vs.toArray 84)).alloc (.cells zBoard.toArray 84)):=inferInstance
 have hsz:(((w.alloc (.cells vs.toArray 84)).alloc (.cells zBoard.toArray 84))).heap.size=w.heap.size+2:=by simp
 go_enter Tryz.func35,Tryz.ntmps35
 go_upto_region 1 with(first|((with_reducible refine rl ?_);refine rq ?_;intro x))
 generalize ((w.alloc (.cells vs.toArray 84)).alloc (.cells zBoard.toArray 84))=W2 at HB HR gW hsz ⊢
 have iB:LtN w.heap.size W2.heap.size:=⟨by omega⟩
 have iR:LtN (w.heap.size+1) W2.heap.size:=⟨by omega⟩
 have hW2:w.heap.size≤W2.heap.size:=by omega
 go_wp2_with (first|((with_reducible refine rl ?_);refine rq ?_;intro x)|(refine sL rfl _ (.tmp 1) rfl (w.heap.size) rfl HB ii uu84 HL ?_))
 refine(o_cloneBoard (x:=b) (Enc.keep HM.out ii) HT.out).mono ?_
 rintro _ _ ⟨cs,χ,rfl,hO,y1,rfl⟩
 have HLC:=lH (len_board (EncO.toRd hO));have HOC:=lH (one_board (EncO.toRd hO));have HO:=lH hO;clear hO
 go_upto_region 2 with(first|((with_reducible refine rl ?_);refine rq ?_;intro x)|(refine sW rfl _ _ _ rfl _ rfl (us:=cs) (Held.new _ zBoard 84 _ rfl) HLC HOC (w0:=W2) ii LeN.out ?_;intro z1 HX1 KX1))
 (try simp only[Act.put])
 obtain⟨qb,hqb⟩:∃ qb,y1.w.heap.size=qb:=⟨_,rfl⟩
 rw[hqb]
 have HG:=lH (show GB (fun _=>False) W2.heap.size qb z1.w b from hqb▸GB.of HO.out (KX1.out.under ii nl) y1.size_le HX1.out)
 have hqB:W2.heap.size≤qb:=HG.out.le
 have hqlt:LtN qb z1.w.heap.size:=⟨HG.out.lt⟩
 clear hqb HX1 KX1 HO HLC HOC
 go_cut [36]from 5 (fun s wx=>s=.bool (!tickNow b)∧∃ y:Later z1.w,wx=y.w)
 case first =>
  obtain⟨n5,hn5⟩:∃ n,b.Done.length=n:=⟨_,rfl⟩
  obtain⟨n11,hn11⟩:∃ n,b.Asked.length=n:=⟨_,rfl⟩
  have hcs:=tickNow_cases b
  rw[hn5,hn11]at hcs
  have e0:=HB.out.cellG 0 _ HV0.out
  have e9:=HB.out.cellG 9 _ HV9.out
  have e10:=HB.out.cellG 10 _ HV10.out
  have e5:=HB.out.cellG 5 _ HV5.out
  have e11:=HB.out.cellG 11 _ HV11.out
  simp only[hn5]at e5;simp only[hn11]at e11
  clear hn5 hn11
  have HCS:=lH hcs;clear hcs
  go_wp2_with (first|((with_reducible refine rl ?_);refine rq ?_;intro x)|(refine sL rfl _ (.tmp 1) rfl (w.heap.size) rfl HB ii uu84 HL ?_))
  refine gm (c_iBoardOkE (Enc.keep HM.out ii) HT.out) ?_
  intro y0
  rcases HCS.out with⟨c0,hk⟩|⟨c0,⟨c1,hk⟩|⟨c1,c2,hk⟩|⟨c1,c2,c3,hk⟩|⟨c1,c2,c3,c4,hk⟩|⟨c1,c2,c3,c4,c5,hk⟩|⟨c1,c2,c3,c4,c5,hk⟩⟩
  ·have HK:=lH hk;clear hk
   rw[c0]
   go_wp2_with (first|((with_reducible refine rl ?_);refine rq ?_;intro x))
   go_meet
   case rel=>exact⟨by rw[HK.out];rfl,Later.of⟩
  ·have HK:=lH hk;clear hk
   rw[c0]
   go_wp2_with (first|((with_reducible refine rl ?_);(repeat(first|go_big_quiet_step (first|fail)|simp only[c1]));refine wpQuiet_nil ?_;intro x))
   go_meet
   case rel=>exact⟨by rw[HK.out];rfl,Later.of⟩
  ·have HK:=lH hk;clear hk
   rw[c0]
   go_wp2_with (first|((with_reducible refine rl ?_);(repeat(first|go_big_quiet_step (first|fail)|simp only[c1]|simp only[c2]));refine wpQuiet_nil ?_;intro x))
   go_meet
   case rel=>exact⟨by rw[HK.out];rfl,Later.of⟩
  ·have HK:=lH hk;clear hk
   rw[c0]
   go_wp2_with (first|((with_reducible refine rl ?_);(repeat(first|go_big_quiet_step (first|fail)|simp only[c1]|simp only[c2]|simp only[c3]));refine wpQuiet_nil ?_;intro x))
   go_meet
   case rel=>exact⟨by rw[HK.out];rfl,Later.of⟩
  ·have HK:=lH hk;clear hk
   rw[c0]
   go_wp2_with (first|((with_reducible refine rl ?_);(repeat(first|go_big_quiet_step (first|fail)|simp only[c1]|simp only[c2]|simp only[c3]|simp only[c4]));refine wpQuiet_nil ?_;intro x))
   go_meet
   case rel=>exact⟨by rw[HK.out];rfl,Later.of⟩
  ·have HK:=lH hk;clear hk
   rw[c0]
   go_wp2_with (first|((with_reducible refine rl ?_);(repeat(first|go_big_quiet_step (first|fail)|simp only[c1]|simp only[c2]|simp only[c3]|simp only[c4]|simp only[c5]));refine wpQuiet_nil ?_;intro x))
   go_meet
   case rel=>exact⟨by rw[HK.out];rfl,Later.of⟩
  ·have HK:=lH hk;clear hk
   rw[c0]
   go_wp2_with (first|((with_reducible refine rl ?_);(repeat(first|go_big_quiet_step (first|fail)|simp only[c1]|simp only[c2]|simp only[c3]|simp only[c4]|simp only[c5]));refine wpQuiet_nil ?_;intro x))
   go_meet
   case rel=>exact⟨by rw[HK.out];rfl,Later.of⟩
 case rest =>
  obtain⟨rfl,y0,rfl⟩:=hcut
  cases hk:tickNow b
  ·have HK:=lH (show tickBoard b=b by rw[tickBoard,hk];rfl)
   clear hk
   obtain⟨vs9,hH9,hl9,h19,-,χ9,hO9⟩:=HG.out.vs
   have HH9:=lH hH9;have HO9:=lH hO9;have H19:=lH h19;have HL9:=lH (show vs9.length=12 from hl9)
   clear hO9 hH9 h19 hl9
   go_wp2_with (first|((with_reducible refine rl ?_);refine rq ?_;intro x)|(refine sL rfl _ (.tmp 3) rfl (qb) kr HH9 ii uu84 HL9 ?_)|(refine sW rfl _ _ _ rfl (w.heap.size+1) rfl (us:=vs9) (HR.out.to ii) HL9 H19 (w0:=w) ii (by omega) ?_;intro z9 HX9 KX9))
   refine bodyPost_ret (v:=.agg vs9.toArray) (results_cell (P:=Tryz.prog) rfl rfl HX9.out _ uu84 rfl (by rw[HL9.out];kernel_rfl)) rfl ?_
   rw[HK.out]
   exact⟨vs9,χ9,rfl,obox_fin (obox_to HO9.out ii) KX9.out (show w.heap.size+1<W2.heap.size by omega) hW2,Later.of⟩
  have hbo:boardOk b=true∧(b.Clock == 1000000)=false:=by
   rw[tickNow,Bool.and_eq_true,Bool.and_eq_true]at hk
   exact⟨hk.1,by have:=hk.2.1;simpa using this⟩
  have hbp:=(board_parts hbo.1).2.2.2.2.2.1
  have hne:b.Clock≠1000000:=by have:=hbo.2;simpa using this
  have hclk:-9223372036854775808≤b.Clock∧b.Clock≤999999:=by omega
  obtain⟨hcl1,hcl2⟩:=hclk
  have HTB:=lH (show tickBoard b=tickGo b.Orders.length { b with Clock:=b.Clock+1 } by rw[tickBoard,if_pos hk])
  clear hk hbo hbp hne
  have et:∀ (W:World) [Grows z1.w W],W.cell? ⟨qb,0,none⟩=some (.int .i64 b.Clock):=by
   obtain⟨vs6,hH6,-,-,⟨A6,rfl,-⟩,-⟩:=HG.out.vs
   exact hH6.cellG 0 _ rfl
  go_upto_block 0 with(first|((with_reducible refine rl ?_);refine rq ?_;intro x)|(refine step_gbC (o:=0) (us:=[.int .i64 (b.Clock+1)]) ({ b with Clock:=b.Clock+1 }:TBoard) rfl _ (.tmp 41) (.tmp 40) rfl (HG.out.to ii) rfl rfl kr rfl nb (by intros;rename_i h;obtain⟨A1,rfl,q⟩:=h;exact⟨A1,rfl,{ q with ok:=⟨(by show i64 (b.Clock+1);unfold i64;omega),q.ok.2⟩ }⟩) ii nl ?_;intro z2 hz2 hX2))
  (try simp only[Act.put])
  have HZ2:=lH hz2;clear hz2 et hX2 hcl1 hcl2
  have HT2:=lH (show Enc.tot ({ b with Clock:=b.Clock+1 }:TBoard)≤50000000 from HT5.out)
  (try simp only[Bool.not_true])
  go_wp2_with (first|((with_reducible refine rl ?_);refine rq ?_;intro x))
  go_loopw [] (fun wr=>∃ (x:TBoard) (n:Nat),Hid (tickGo n x=tickBoard b)∧Hid (x.Orders.length≤n)∧Hid (Enc.tot x≤50000000)∧Hid (GB (fun _=>False) W2.heap.size qb wr x)∧∃ y:Later W2,wr=y.w) (fun wr=>cellLen wr qb 4)
  case atStart=>exact⟨_,_,HTB.out.symm,Nat.le_refl _,HT2.out,HZ2,Later.of⟩
  case round =>
   obtain⟨bx,n,HQ,HLN,HTX,HGR,y,rfl⟩:=hrel
   obtain⟨oa,oc,eo,hown,hgood,-⟩:=HGR.out.own fBoardOrders
   have hqy:LtN qb y.w.heap.size:=⟨HGR.out.lt⟩
   have ek:∀ (W:World) [Grows y.w W],W.cell? ⟨qb,0,none⟩=some (.int .i64 bx.Clock):=by
    obtain⟨vs6,hH6,-,-,⟨A6,rfl,-⟩,-⟩:=HGR.out.vs
    exact hH6.cellG 0 _ rfl
   have HEO:=lH (eo y.w)
   obtain⟨ol,hol⟩:∃ l,bx.Orders=l:=⟨_,rfl⟩
   have HOL:=lH hol
   cases ol with
   | nil =>
    have eo2:∀ (W:World) [Grows y.w W],W.cell? ⟨qb,4,none⟩=some (.slice oa 0 oc):=fun W g=>(eo W).trans (congrArg (fun k:Nat=>some (Value.slice oa k oc)) (show bx.Orders.length=0 by rw[hol];rfl))
    have HRES:=lH (show tickBoard b=bx by rw[← HQ.out];exact tickGo_stop (fun w r h=>by rw[HOL.out]at h;cases h))
    clear eo ek hol hown hgood
    obtain⟨vs9,hH9,hl9,h19,-,χ9,hO9⟩:=HGR.out.vs
    have HH9:=lH hH9;have HO9:=lH hO9;have H19:=lH h19;have HL9:=lH (show vs9.length=12 from hl9)
    clear hO9 hH9 h19 hl9
    go_wp2_with (first|((with_reducible refine rl ?_);refine rq ?_;intro x)|(refine sL rfl _ (.tmp 3) rfl (qb) kr HH9 ii uu84 HL9 ?_)|(refine sW rfl _ _ _ rfl (w.heap.size+1) rfl (us:=vs9) (HR.out.to ii) HL9 H19 (w0:=w) ii (by omega) ?_;intro z9 HX9 KX9))
    refine bodyPost_ret (v:=.agg vs9.toArray) (results_cell (P:=Tryz.prog) rfl rfl HX9.out _ uu84 rfl (by rw[HL9.out];kernel_rfl)) rfl ?_
    rw[HRES.out]
    exact⟨vs9,χ9,rfl,obox_fin (obox_to HO9.out ii) KX9.out (show w.heap.size+1<W2.heap.size by omega) hW2,Later.of⟩
   | cons ws rs =>
    obtain⟨fl,hfl⟩:∃ k,rs.length=k:=⟨_,rfl⟩
    have HFL:=lH hfl
    have eo2:∀ (W:World) [Grows y.w W],W.cell? ⟨qb,4,none⟩=some (.slice oa (fl+1) oc):=fun W g=>(eo W).trans (congrArg (fun k:Nat=>some (Value.slice oa k oc)) (show bx.Orders.length=fl+1 by rw[hol,← hfl];rfl))
    have hown:Own encTWaiting 169 5 W2.heap.size y.w oa oc (ws::rs):=hol▸hown
    have hgood:∀ s∈ws::rs,okDTWaiting s:=hol▸hgood
    have HGW:=lH (hgood ws (List.mem_cons_self ..));have HGR2:=lH (fun s h=>hgood s (List.mem_cons_of_mem ws h))
    obtain⟨eb,eoff,rfl,heb,hrow⟩:=(Own.sl hown).row0
    have HROW:=lH hrow
    have HEOG:=lH (fun(W:World) (g:Grows y.w W)=>eo W)
    have er:∀ (W:World) [Grows y.w W],W.cell? ⟨eb,eoff+2,none⟩=some (.int .i64 ws.Order.At):=fun W g=>hrow W g 2 _ rfl
    clear eo hgood hol hfl hrow
    cases c5:decide (ws.Order.At≤bx.Clock)
    ·have HRES:=lH (show tickBoard b=bx by rw[← HQ.out];exact tickGo_stop (fun w r h=>by rw[HOL.out]at h;cases h;exact of_decide_eq_false c5))
     clear hown
     obtain⟨vs9,hH9,hl9,h19,-,χ9,hO9⟩:=HGR.out.vs
     have HH9:=lH hH9;have HO9:=lH hO9;have H19:=lH h19;have HL9:=lH (show vs9.length=12 from hl9)
     clear hO9 hH9 h19 hl9
     go_wp2_with (first|((with_reducible refine rl ?_);(repeat(first|go_big_quiet_step (first|fail)|simp only[c5]));refine wpQuiet_nil ?_;intro x)|(refine sL rfl _ (.tmp 3) rfl (qb) kr HH9 ii uu84 HL9 ?_)|(refine sW rfl _ _ _ rfl (w.heap.size+1) rfl (us:=vs9) (HR.out.to ii) HL9 H19 (w0:=w) ii (by omega) ?_;intro z9 HX9 KX9))
     refine bodyPost_ret (v:=.agg vs9.toArray) (results_cell (P:=Tryz.prog) rfl rfl HX9.out _ uu84 rfl (by rw[HL9.out];kernel_rfl)) rfl ?_
     rw[HRES.out]
     exact⟨vs9,χ9,rfl,obox_fin (obox_to HO9.out ii) KX9.out (show w.heap.size+1<W2.heap.size by omega) hW2,Later.of⟩
    ·obtain⟨n,rfl⟩:∃ k,n=k+1:=⟨n - 1,by have:=HLN.out;rw[HOL.out,List.length_cons]at this;omega⟩
     have HQ2:=lH (show tickGo n (performOrder { bx with Orders:=rs } ws)=tickBoard b by rw[← HQ.out];exact(tickGo_go HOL.out (of_decide_eq_true c5)).symm)
     have HT6:=lH (show Enc.tot ({ bx with Orders:=rs }:TBoard)≤50000000 from Int.le_trans (dropOrder_tot HOL.out) HTX.out)
     have hfb:fl+1≤100000000:=by
      have h1:=(board_lens bx).2.2.1;have h2:=HTX.out
      rw[HOL.out,List.length_cons,HFL.out]at h1;omega
     go_upto_region 7 with(first|((with_reducible refine rl ?_);(repeat(first|go_big_quiet_step (first|fail)|simp only[c5]));refine wpQuiet_nil ?_;intro x)|(refine wpList_load_mid rfl _ (.tmp 59) rfl eb (eoff+0) kr [.int .i64 ws.Number,.int .i64 ws.Order.Kind,.int .i64 ws.Order.At,.int .i64 ws.Order.A,.int .i64 ws.Order.B] _ (HROW.out _ ii) Tryz.underlying169 rfl kr ?_))
     (try simp only[Act.put])
     have HX5:=lH (Held.new (y.andThen x).w [.int .i64 ws.Number,.int .i64 ws.Order.Kind,.int .i64 ws.Order.At,.int .i64 ws.Order.A,.int .i64 ws.Order.B] 169 (y.andThen x).w.heap.size rfl)
     obtain⟨z5,hz5⟩:∃ z5:Later (y.andThen x).w,((y.andThen x).w.alloc (.cells #[.int .i64 ws.Number,.int .i64 ws.Order.Kind,.int .i64 ws.Order.At,.int .i64 ws.Order.A,.int .i64 ws.Order.B] 169))=z5.w:=Later.of
     rw[show([.int .i64 ws.Number,.int .i64 ws.Order.Kind,.int .i64 ws.Order.At,.int .i64 ws.Order.A,.int .i64 ws.Order.B]:List Value).toArray=#[.int .i64 ws.Number,.int .i64 ws.Order.Kind,.int .i64 ws.Order.At,.int .i64 ws.Order.A,.int .i64 ws.Order.B]from rfl,hz5]at HX5
     rw[hz5];clear hz5
     obtain⟨qo,hqo⟩:∃ qo,(y.andThen x).w.heap.size=qo:=⟨_,rfl⟩
     rw[hqo]at HX5 ⊢
     have HP:=lH (GB.prot (P:=(·=qo)) HGR.out (growsTr (ii:Grows y.w (y.andThen x).w) (ii:Grows (y.andThen x).w z5.w)) (fun k hk=>by subst hk;exact⟨hqo▸LeN.out,HX5.out.lt⟩))
     obtain⟨X,hX⟩:∃ X:Nat→Prop,(fun k=>False∨k=qo)=X:=⟨_,rfl⟩
     rw[hX]at HP
     have HXq:=lH (show X qo by rw[← hX];exact .inr rfl)
     clear hqo hX
     have hqlt5:LtN qb z5.w.heap.size:=⟨HP.out.lt⟩
     have gW5:Grows W2 z5.w:=growsTr (ii:Grows W2 y.w) ii
     have gy5:Grows y.w z5.w:=growsTr (ii:Grows y.w (y.andThen x).w) ii
     have HEO5:=lH (HEOG.out z5.w gy5)
     have HDL:=lH (show ∀ (W:World),Grows y.w W→Calls Tryz.prog 129 #[.slice (some ⟨eb,eoff,none⟩) (fl+1) oc,.int .i64 0,.int .i64 1] W (fun e w1=>e=.returned (.slice (some ⟨eb,eoff,none⟩) fl oc)∧Own encTWaiting 169 5 W2.heap.size w1 (some ⟨eb,eoff,none⟩) oc rs∧W.grownBy w1 (blkOf (some ⟨eb,eoff,none⟩)))from fun W g=>HFL.out▸c_DeleteWaiting (k:=0) (hown.to g) (Nat.succ_pos _) (by rw[List.length_cons,HFL.out];exact hfb))
     go_upto_region 8 with(first|((with_reducible refine rl ?_);refine rq ?_;intro x)|(go_at_call 129;refine(HDL.out _ ii).mono ?_;rintro _ w6 ⟨rfl,hown7,hgr6⟩;obtain⟨z7,rfl⟩:=grown_later (w0:=W2) ii hgr6 (fun k hk=>(hown.blk k hk).1);obtain⟨hp7,hX7⟩:=GBp.upd (F:=fBoardOrders) (n:=0) HP.out HEO5.out ii hown7 ((ownBlock_eq _ _ _).symm▸hgr6) (.inl rfl) HGR2.out;clear hown7 hgr6)|(refine step_gbNX HFL.out rfl _ _ _ rfl hp7 rfl rfl kr (w0:=W2) ii nl ?_;intro z8 hz8 hX8))
     (try simp only[Act.put])
     have HX8:=lH (show Held z8.w qo [.int .i64 ws.Number,.int .i64 ws.Order.Kind,.int .i64 ws.Order.At,.int .i64 ws.Order.A,.int .i64 ws.Order.B] 169 by unfold Held;rw[hX8 qo HXq.out,hX7 qo HXq.out];exact HX5.out.to ii)
     have HZ8:=lH (show GB X W2.heap.size qb z8.w { bx with Orders:=rs } from hz8)
     clear hX8 hX7 hz8 eo2 ek er HX5
     have hqb8:LtN qb z8.w.heap.size:=⟨HZ8.out.lt⟩
     have hqo8:LtN qo z8.w.heap.size:=⟨HX8.out.lt⟩
     obtain⟨vs6,hH6,hl6,-,hrd6,-⟩:=HZ8.out.vs
     have HH6:=lH hH6;have HL6:=lH (show vs6.length=12 from hl6);have HRD6:=lH hrd6
     clear hH6 hl6 hrd6
     go_wp2_with (first|((with_reducible refine rl ?_);refine rq ?_;intro x)|(refine sL rfl _ (.tmp 3) rfl (qb) kr HH6 ii uu84 HL6 ?_)|(refine stepLoad rfl _ (.tmp 4) rfl (qo) 0 rfl (row:=[.int .i64 ws.Number,.int .i64 ws.Order.Kind,.int .i64 ws.Order.At,.int .i64 ws.Order.A,.int .i64 ws.Order.B]) (HX8.out.to ii) _ Tryz.underlying169 rfl kr rfl ?_))
     refine(o_iPerformOrder (q:=ws) (Enc.keep HRD6.out ii) HGW.out HT6.out).mono ?_
     rintro _ _ ⟨vs2,χ2,rfl,hO2,y2,rfl⟩
     have HL2:=lH (len_board (EncO.toRd hO2));have H12:=lH (one_board (EncO.toRd hO2));have HO2:=lH hO2;clear hO2
     go_wp2_with (first|((with_reducible refine rl ?_);refine rq ?_;intro x)|(refine stepStore2 rfl _ _ _ rfl (qb) 0 rfl (us:=vs2) (cs2:=vs2) (HH6.out.to ii) ?a71 ?a72 ?a73 ?a74 ?a75 (w0:=W2) ii hqB ?_;(case a71=>rfl);(case a72=>(rw[HL2.out];kernel_rfl));(case a73=>exact H12.out);(case a74=>(rw[HL2.out,HL6.out];exact Nat.le_of_ble_eq_true rfl));(case a75=>exact splice_all (HL2.out.trans HL6.out.symm));intro z7 hx kx;have HX7:=lH hx;clear hx;have KX7:=lH kx;clear kx))
     have HZ7:=lH (GB.over HO2.out y2.size_le KX7.out hqb8.out hqB HX7.out)
     (try simp only[Act.put])
     go_roundw
     case rel=>exact⟨_,n,HQ2.out,(by have h1:=(performOrder_orders { bx with Orders:=rs } ws).1;have h2:=HLN.out;rw[HOL.out,List.length_cons]at h2;simp only at h1;exact Nat.le_trans h1 (by omega)),perform_tot HT6.out,HZ7.out,Later.of⟩
     case measure =>
      obtain⟨p1,p2,p3,-⟩:=HZ7.out.own fBoardOrders
      have e1:cellLen z7.w qb 4=_:=cellLen_eq (p3 z7.w)
      have e2:cellLen y.w qb 4=_:=cellLen_eq HEO.out
      have h1:=(performOrder_orders { bx with Orders:=rs } ws).1
      have h3:(fBoardOrders.get bx).length=rs.length+1:=by show bx.Orders.length=_;rw[HOL.out];rfl
      have h4:(fBoardOrders.get (performOrder { bx with Orders:=rs } ws)).length≤rs.length:=h1
      show cellLen z7.w qb 4<cellLen y.w qb 4
      omega
