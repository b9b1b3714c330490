/- AdvanceBoard of the program, of a board without orders. No condition but on sizes. StepMission of the program out of sight. No condition but on sizes. FnOutOfSight: whatever the code, the law holds. -/
import Derived.Test.YtdinhfeflobafaaGreatSM39
import Derived.Test.YtdinhfeflobafaaGreatSSupI
import Derived.Deep.CutRange
import Derived.Test.YtdinhfeflobafaaGreatSAskI
import Derived.Test.YtdinhfeflobafaaGreatSRunG
import Derived.Test.YtdinhfeflobafaaGreatSGivS
import Derived.Test.YtdinhfeflobafaaGreatSCmdO
import Derived.Test.YtdinhfeflobafaaGreatSM12
import Derived.Test.YtdinhfeflobafaaGreatSRecO
import Derived.Test.YtdinhfeflobafaaGreatSM0
namespace Go.Proofs.YtdinhfeflobafaaGreat
set_option linter.unusedVariables false
open Go.ChangeShapes Go.WideShapes Go.ChangeAt Go.RowKit
theorem splice_same{vs:List Value}{o:Nat}{v:Value}(h:vs[o]?=some v):splice vs o [v]=vs:=by
 obtain⟨hl,he⟩:=List.getElem?_eq_some_iff.1 h
 show vs.set o v=vs
 rw[← he,List.set_getElem_self]
def advK(m:TMission)(k:Nat):TMission:={ m with Time:=m.Time+1,Space:={ m.Space with Board:={ m.Space.Board with Clock:=m.Space.Board.Clock+k } } }
theorem advK_next(m:TMission)(k:Nat):mBoard.set (advK m k) { (advK m k).Space.Board with Clock:=(advK m k).Space.Board.Clock+1 }=advK m (k+1):=by
 have h:m.Space.Board.Clock+(k:Int)+1=m.Space.Board.Clock+((k+1:Nat):Int):=by omega
 show({ m with Time:=m.Time+1,Space:={ m.Space with Board:={ m.Space.Board with Clock:=m.Space.Board.Clock+(k:Int)+1 } } }:TMission)=_
 rw[h];rfl
theorem adv_idle{m:TMission}{N:Nat}(hn:advNow m=true)(hi:Idle m.Space.Board)(hN:ticksDue m.Drift.Rate m.Drift.Offset m.Time=(N:Int))(hc:m.Space.Board.Clock+N≤1000000):advanceBoard m=advK m N:=by
 have hB:advB m={ m.Space.Board with Clock:=m.Space.Board.Clock+N }:=by
  rw[advB,advN,hN,Int.toNat_natCast];exact idle_ticks N _ hi hc
 have hb:=adv_parts hn
 have h0:m.Space.Begun=0:=by have h1:=hb.2.2.2.2.1;have h2:=hb.2.2.2.2.2.1;rw[hi.asked]at h2;simp at h2;omega
 have hO:advO m=m.Space.Outs:=by
  rw[advO,hB]
  show beginFiles _ (m.Space.Board.Asked.drop _) _=_
  rw[hi.asked,List.drop_nil];rfl
 rw[advanceBoard,if_pos hn,hB,hO]
 have h6:(({ m.Space.Board with Clock:=m.Space.Board.Clock+N }:TBoard).Asked.length:Int)=m.Space.Begun:=by
  show(m.Space.Board.Asked.length:Int)=_
  rw[hi.asked,h0];rfl
 rw[h6];rfl
set_option maxRecDepth 100000 in
set_option maxHeartbeats 4000000 in
theorem o_iAdvanceBoard0{B:Nat}{vs:List Value}{m:TMission}{w:World}(h:Enc.Rd B w vs m)(ht:Enc.tot m≤100000000){N:Nat}(hn:advNow m=true)(hi:Idle m.Space.Board)(hN:ticksDue m.Drift.Rate m.Drift.Offset m.Time=(N:Int))(hc:m.Space.Board.Clock+N≤1000000) :
  Calls Tryz.prog 9 #[.agg vs.toArray] w (GivesO w (advK m N)):=by
 have HN:=lH hN;have HI:=lH hi;have HAN:=lH hn;have HC:=lH hc
 have hb:=adv_parts hn
 have hv:=lH hb.1;have ht0:=hb.2.1;have ht1:=hb.2.2.1
 have HBG:=lH (show m.Space.Begun=0 by have h1:=hb.2.2.2.2.1;have h2:=hb.2.2.2.2.2.1;rw[hi.asked]at h2;simp at h2;omega)
 have hcl:=lH (idle_clock hi)
 have hNb:N≤1000000:=by have:=hcl.out;omega
 clear hn hi hN hc hb
 have HL:=lH (len_mission h)
 have HM:=lH h;clear h
 have HT:=lH ht;clear ht
 have HB:=lH ((Held.new w vs 90 w.heap.size rfl).to (inferInstance:Grows _ ((w.alloc (.cells vs.toArray 90)).alloc (.cells #[.int .i64 0,.int .i64 0,.int .i64 0,.int .i64 0,.int .i64 0,.int .i64 0,.int .i64 0,.slice none 0 0,.int .i64 0,.int .i64 0,.int .i64 0,.int .i64 0,.int .i64 0,.int .i64 0,.slice none 0 0,.slice none 0 0,.slice none 0 0,.int .i64 0,.int .i64 0,.slice none 0 0,.int .i64 0,.int .i64 0,.bool false,.bool false,.int .i64 0,.int .i64 0,.bool false,.string ⟨#[]⟩,.int .i64 0,.slice none 0 0,.slice none 0 0,.slice none 0 0,.slice none 0 0,.int .i64 0,.bool false,.bool false,.int .i64 0,.int .i64 0,.slice none 0 0,.bool false,.slice none 0 0,.slice none 0 0,.slice none 0 0,.int .i64 0,.slice none 0 0,.slice none 0 0,.int .i64 0,.int .i64 0,.slice none 0 0,.int .i64 0,.int .i64 0,.string ⟨#[]⟩,.slice none 0 0,.int .i64 0,.slice none 0 0,.slice none 0 0,.int .i64 0,.slice none 0 0,.slice none 0 0,.slice none 0 0,.int .i64 0] 90))))
 have HR:=lH (Held.new (w.alloc (.cells vs.toArray 90)) [.int .i64 0,.int .i64 0,.int .i64 0,.int .i64 0,.int .i64 0,.int .i64 0,.int .i64 0,.slice none 0 0,.int .i64 0,.int .i64 0,.int .i64 0,.int .i64 0,.int .i64 0,.int .i64 0,.slice none 0 0,.slice none 0 0,.slice none 0 0,.int .i64 0,.int .i64 0,.slice none 0 0,.int .i64 0,.int .i64 0,.bool false,.bool false,.int .i64 0,.int .i64 0,.bool false,.string ⟨#[]⟩,.int .i64 0,.slice none 0 0,.slice none 0 0,.slice none 0 0,.slice none 0 0,.int .i64 0,.bool false,.bool false,.int .i64 0,.int .i64 0,.slice none 0 0,.bool false,.slice none 0 0,.slice none 0 0,.slice none 0 0,.int .i64 0,.slice none 0 0,.slice none 0 0,.int .i64 0,.int .i64 0,.slice none 0 0,.int .i64 0,.int .i64 0,.string ⟨#[]⟩,.slice none 0 0,.int .i64 0,.slice none 0 0,.slice none 0 0,.int .i64 0,.slice none 0 0,.slice none 0 0,.slice none 0 0,.int .i64 0] 90 (w.heap.size+1) (by simp))
 have gW:Grows w ((w.alloc (.cells vs.toArray 90)).alloc (.cells #[.int .i64 0,.int .i64 0,.int .i64 0,.int .i64 0,.int .i64 0,.int .i64 0,.int .i64 0,.slice none 0 0,.int .i64 0,.int .i64 0,.int .i64 0,.int .i64 0,.int .i64 0,.int .i64 0,.slice none 0 0,.slice none 0 0,.slice none 0 0,.int .i64 0,.int .i64 0,.slice none 0 0,.int .i64 0,.int .i64 0,.bool false,.bool false,.int .i64 0,.int .i64 0,.bool false,.string ⟨#[]⟩,.int .i64 0,.slice none 0 0,.slice none 0 0,.slice none 0 0,.slice none 0 0,.int .i64 0,.bool false,.bool false,.int .i64 0,.int .i64 0,.slice none 0 0,.bool false,.slice none 0 0,.slice none 0 0,.slice none 0 0,.int .i64 0,.slice none 0 0,.slice none 0 0,.int .i64 0,.int .i64 0,.slice none 0 0,.int .i64 0,.int .i64 0,.string ⟨#[]⟩,.slice none 0 0,.int .i64 0,.slice none 0 0,.slice none 0 0,.int .i64 0,.slice none 0 0,.slice none 0 0,.slice none 0 0,.int .i64 0] 90)):=inferInstance
 have hsz:((w.alloc (.cells vs.toArray 90)).alloc (.cells #[.int .i64 0,.int .i64 0,.int .i64 0,.int .i64 0,.int .i64 0,.int .i64 0,.int .i64 0,.slice none 0 0,.int .i64 0,.int .i64 0,.int .i64 0,.int .i64 0,.int .i64 0,.int .i64 0,.slice none 0 0,.slice none 0 0,.slice none 0 0,.int .i64 0,.int .i64 0,.slice none 0 0,.int .i64 0,.int .i64 0,.bool false,.bool false,.int .i64 0,.int .i64 0,.bool false,.string ⟨#[]⟩,.int .i64 0,.slice none 0 0,.slice none 0 0,.slice none 0 0,.slice none 0 0,.int .i64 0,.bool false,.bool false,.int .i64 0,.int .i64 0,.slice none 0 0,.bool false,.slice none 0 0,.slice none 0 0,.slice none 0 0,.int .i64 0,.slice none 0 0,.slice none 0 0,.int .i64 0,.int .i64 0,.slice none 0 0,.int .i64 0,.int .i64 0,.string ⟨#[]⟩,.slice none 0 0,.int .i64 0,.slice none 0 0,.slice none 0 0,.int .i64 0,.slice none 0 0,.slice none 0 0,.slice none 0 0,.int .i64 0] 90)).heap.size=w.heap.size+2:=by simp
 go_enter Tryz.func9,Tryz.ntmps9
 go_upto_region 1 with(first|((with_reducible refine wp_region_later (by kernel_rfl) (by kernel_rfl) ?_);(repeat(first|go_big_quiet_step (first|fail)));refine wpQuiet_nil ?_;rintro _ ⟨x,rfl⟩))
 generalize ((w.alloc (.cells vs.toArray 90)).alloc (.cells #[.int .i64 0,.int .i64 0,.int .i64 0,.int .i64 0,.int .i64 0,.int .i64 0,.int .i64 0,.slice none 0 0,.int .i64 0,.int .i64 0,.int .i64 0,.int .i64 0,.int .i64 0,.int .i64 0,.slice none 0 0,.slice none 0 0,.slice none 0 0,.int .i64 0,.int .i64 0,.slice none 0 0,.int .i64 0,.int .i64 0,.bool false,.bool false,.int .i64 0,.int .i64 0,.bool false,.string ⟨#[]⟩,.int .i64 0,.slice none 0 0,.slice none 0 0,.slice none 0 0,.slice none 0 0,.int .i64 0,.bool false,.bool false,.int .i64 0,.int .i64 0,.slice none 0 0,.bool false,.slice none 0 0,.slice none 0 0,.slice none 0 0,.int .i64 0,.slice none 0 0,.slice none 0 0,.int .i64 0,.int .i64 0,.slice none 0 0,.int .i64 0,.int .i64 0,.string ⟨#[]⟩,.slice none 0 0,.int .i64 0,.slice none 0 0,.slice none 0 0,.int .i64 0,.slice none 0 0,.slice none 0 0,.slice none 0 0,.int .i64 0] 90))=W2 at HB HR gW hsz ⊢
 have iB:LtN w.heap.size W2.heap.size:=⟨by omega⟩
 have iR:LtN (w.heap.size+1) W2.heap.size:=⟨by omega⟩
 have hW2:w.heap.size≤W2.heap.size:=by omega
 have HR2:=lH (show(vs.drop 2).take 2=[.int .i64 m.Drift.Rate,.int .i64 m.Drift.Offset]by obtain⟨A,h1,-⟩:=HM.out;rw[h1];rfl)
 have HR0:=lH (show vs[0]?=some (.int .i64 m.Time)by obtain⟨A,h1,-⟩:=HM.out;rw[h1];rfl)
 go_wp2_with (first|((with_reducible refine wp_region_later (by kernel_rfl) (by kernel_rfl) ?_);(repeat(first|go_big_quiet_step (first|fail)));refine wpQuiet_nil ?_;rintro _ ⟨x,rfl⟩)|(refine stepLoad rfl _ (.tmp 1) rfl (w.heap.size) 0 (by kernel_rfl) (row:=vs) (HB.out.to inferInstance) _ Tryz.underlying90 rfl (by rw[HL.out];kernel_rfl) (by rw[List.drop_zero,List.take_length]) ?_))
 refine(o_cloneMission (x:=m) (Enc.keep HM.out inferInstance) HT.out).mono ?_
 rintro _ _ ⟨cs,χ,rfl,hO,y1,rfl⟩
 have HLC:=lH (len_mission (EncO.toRd hO));have HOC:=lH (one_mission (EncO.toRd hO));have HO:=lH hO;clear hO
 go_upto_region 2 with(first|((with_reducible refine wp_region_later (by kernel_rfl) (by kernel_rfl) ?_);(repeat(first|go_big_quiet_step (first|fail)));refine wpQuiet_nil ?_;rintro _ ⟨x,rfl⟩)|(refine stepStore2 rfl _ _ _ rfl _ 0 rfl (us:=cs) (cs2:=cs) (Held.new _ [.int .i64 0,.int .i64 0,.int .i64 0,.int .i64 0,.int .i64 0,.int .i64 0,.int .i64 0,.slice none 0 0,.int .i64 0,.int .i64 0,.int .i64 0,.int .i64 0,.int .i64 0,.int .i64 0,.slice none 0 0,.slice none 0 0,.slice none 0 0,.int .i64 0,.int .i64 0,.slice none 0 0,.int .i64 0,.int .i64 0,.bool false,.bool false,.int .i64 0,.int .i64 0,.bool false,.string ⟨#[]⟩,.int .i64 0,.slice none 0 0,.slice none 0 0,.slice none 0 0,.slice none 0 0,.int .i64 0,.bool false,.bool false,.int .i64 0,.int .i64 0,.slice none 0 0,.bool false,.slice none 0 0,.slice none 0 0,.slice none 0 0,.int .i64 0,.slice none 0 0,.slice none 0 0,.int .i64 0,.int .i64 0,.slice none 0 0,.int .i64 0,.int .i64 0,.string ⟨#[]⟩,.slice none 0 0,.int .i64 0,.slice none 0 0,.slice none 0 0,.int .i64 0,.slice none 0 0,.slice none 0 0,.slice none 0 0,.int .i64 0] 90 _ rfl) ?a11 ?a12 ?a13 ?a14 ?a15 (w0:=W2) inferInstance LeN.out ?_;(case a11=>rfl);(case a12=>(rw[HLC.out];kernel_rfl));(case a13=>exact HOC.out);(case a14=>(rw[HLC.out];exact Nat.le_of_ble_eq_true rfl));(case a15=>exact splice_all HLC.out);intro z1 hx kx;have HX1:=lH hx;clear hx;have KX1:=lH kx;clear kx))
 (try simp only[Act.put])
 obtain⟨qb,hqb⟩:∃ qb,y1.w.heap.size=qb:=⟨_,rfl⟩
 rw[hqb]
 have HG:=lH (show GB (fun _=>False) W2.heap.size qb z1.w m from hqb▸GB.of HO.out (KX1.out.under inferInstance (Nat.le_refl _)) y1.size_le HX1.out)
 have hqB:W2.heap.size≤qb:=HG.out.le
 have hqlt:LtN qb z1.w.heap.size:=⟨HG.out.lt⟩
 clear hqb HX1 KX1 HO HLC HOC
 have et:=gb_time HG.out
 have c1:(m.Time == 1000000)=false:=by simp;omega
 go_wp2_with (first|((with_reducible refine wp_region_later (by kernel_rfl) (by kernel_rfl) ?_);(repeat(first|go_big_quiet_step (first|fail)));refine wpQuiet_nil ?_;rintro _ ⟨x,rfl⟩)|(refine stepLoad rfl _ (.tmp 1) rfl (w.heap.size) 0 (by kernel_rfl) (row:=vs) (HB.out.to inferInstance) _ Tryz.underlying90 rfl (by rw[HL.out];kernel_rfl) (by rw[List.drop_zero,List.take_length]) ?_))
 refine(c_iMissionOk (m:=m) (Enc.keep HM.out inferInstance) HT.out).mono ?_
 rintro _ _ ⟨rfl,y2,rfl⟩
 rw[hv.out]
 go_upto_region 5 with(first|((with_reducible refine wp_region_later (by kernel_rfl) (by kernel_rfl) ?_);(repeat(first|go_big_quiet_step (first|fail)|simp only[c1]));refine wpQuiet_nil ?_;rintro _ ⟨x,rfl⟩)|(refine stepLoad1W (by first|kernel_rfl|go_simp) _ (.tmp 13) rfl (w.heap.size) 0 (by kernel_rfl) (HB.out.to inferInstance) (.int .i64 m.Time) HR0.out _ Tryz.underlying3 rfl ?_)|(refine step_gbC (o:=0) (us:=[.int .i64 (m.Time+1)]) ({ m with Time:=m.Time+1 }:TMission) rfl _ (.tmp 21) (.tmp 20) rfl (HG.out.to inferInstance) rfl rfl (by kernel_rfl) rfl (Nat.le_of_ble_eq_true rfl) (by intros;rename_i h;obtain⟨A1,rfl,q⟩:=h;exact⟨A1,rfl,{ q with ok:=⟨(by show i64 (m.Time+1);unfold i64;omega),q.ok.2⟩ }⟩) inferInstance (Nat.le_refl _) ?_;intro z2 hz2 hX2))
 (try simp only[Act.put])
 have HZ2:=lH (show GB (fun _=>False) W2.heap.size qb z2.w (advK m 0)from(show({ m with Time:=m.Time+1 }:TMission)=advK m 0 by simp[advK])▸hz2)
 clear hz2 hX2 et c1
 go_wp2_with (first|((with_reducible refine wp_region_later (by kernel_rfl) (by kernel_rfl) ?_);(repeat(first|go_big_quiet_step (first|fail)));refine wpQuiet_nil ?_;rintro _ ⟨x,rfl⟩)|(refine stepLoad rfl _ (.tmp 23) rfl (w.heap.size) 2 (by kernel_rfl) (row:=[.int .i64 m.Drift.Rate,.int .i64 m.Drift.Offset]) (HB.out.to inferInstance) _ Tryz.underlying62 rfl (by kernel_rfl) HR2.out ?_)|(refine stepLoad1W (by first|kernel_rfl|go_simp) _ (.tmp 25) rfl (w.heap.size) 0 (by kernel_rfl) (HB.out.to inferInstance) (.int .i64 m.Time) HR0.out _ Tryz.underlying3 rfl ?_))
 refine(c_iTicksDue).mono ?_
 rintro _ _ ⟨rfl,y3,rfl⟩
 rw[HN.out]
 go_wp2_with (first|((with_reducible refine wp_region_later (by kernel_rfl) (by kernel_rfl) ?_);(repeat(first|go_big_quiet_step (first|fail)));refine wpQuiet_nil ?_;rintro _ ⟨x,rfl⟩))
 go_loopw [28] (fun v wr=>∃ k:Nat,v=.int .i64 k∧k≤N∧Hid (GB (fun _=>False) W2.heap.size qb wr (advK m k))∧∃ y:Later W2,wr=y.w) (fun v _=>(N - intOf v).toNat)
 case atStart=>exact⟨0,rfl,Nat.zero_le _,HZ2.out.to inferInstance,Later.of⟩
 case round =>
  obtain⟨k,rfl,hk,HGK,y,rfl⟩:=hrel
  by_cases hkn:k<N
  ·have kc:decide ((k:Int)<(N:Int))=true:=by simp;omega
   obtain⟨vs5,A,hV5,hvs5,F⟩:=gb_cells HGK.out
   have HV:=lH hV5
   obtain⟨bd,hbd⟩:∃ bd,(vs5.drop 37).take 12=bd:=⟨_,rfl⟩
   have HRB:=lH hbd
   have HBR:=lH (show Enc.Rd W2.heap.size y.w bd (advK m k).Space.Board from by rw[← hbd,hvs5];exact⟨⟨A.a9,A.c9,A.a10,A.c10,A.a11,A.c11,A.a12,A.c12,A.a13,A.c13,A.a14,A.c14,A.a15,A.c15⟩,rfl,⟨F.q9,F.q10,F.q11,F.q12,F.q13,F.q14,F.q15,F.ok.2.2.2.2.2.2.2.1.2.1⟩⟩)
   clear hV5 hvs5 hbd F
   have HBL:=lH (len_board HBR.out)
   go_wp2_with (first|((with_reducible refine wp_region_later (by kernel_rfl) (by kernel_rfl) ?_);(repeat(first|go_big_quiet_step (first|fail)|simp only[kc]));refine wpQuiet_nil ?_;rintro _ ⟨x,rfl⟩)|(refine stepLoad rfl _ (.tmp 33) rfl (qb) 37 (by kernel_rfl) (row:=bd) (HV.out.to inferInstance) _ Tryz.underlying84 rfl (by rw[HBL.out];kernel_rfl) (by rw[HBL.out];exact HRB.out) ?_))
   have hidk:Idle (advK m k).Space.Board:=HI.out.clock (inB_iff.2 ⟨by have:=hcl.out;omega,by have:=HC.out;omega⟩)
   have htk:Enc.tot (advK m k).Space.Board≤100000000:=Int.le_trans (boardOk_tot hidk.ok) (by decide)
   refine(o_iTickBoard0 (b:=(advK m k).Space.Board) (Enc.keep HBR.out inferInstance) htk hidk (by have:=HC.out;show m.Space.Board.Clock+(k:Int)<_;omega)).mono ?_
   rintro _ _ ⟨vs2,χ2,rfl,hO2,y4,rfl⟩
   have HL2:=lH (len_board (EncO.toRd hO2))
   have HP:=lH (GBq.new (D:=mBoard) HGK.out (inferInstance:Grows y.w y4.w) (OBox.map hO2 (.mono LeN.out)))
   clear hO2
   go_wp2_with (first|((with_reducible refine wp_region_later (by kernel_rfl) (by kernel_rfl) ?_);(repeat(first|go_big_quiet_step (first|fail)));refine wpQuiet_nil ?_;rintro _ ⟨x,rfl⟩)|(refine step_gbD rfl _ (.tmp 37) (.tmp 35) rfl HP.out rfl rfl (by rw[HL2.out];kernel_rfl) (w0:=W2) inferInstance (Nat.le_refl _) ?_;intro z6 hz6 hX6))
   have HZ6:=lH (show GB (fun _=>False) W2.heap.size qb z6.w (advK m (k+1))from advK_next m k▸hz6)
   clear hz6 hX6
   go_roundw
   case rel=>exact⟨k+1,by go_num,by omega,HZ6.out.to inferInstance,Later.of⟩
   case measure=>simp[intOf];omega
  ·obtain rfl:k=N:=by omega
   have kc:decide ((k:Int)<(k:Int))=false:=by simp
   obtain⟨aa,ac,ea,hna,-,-⟩:=HGK.out.own mAsked
   have ea2:∀ (W:World) [Grows y.w W],W.cell? ⟨qb,48,none⟩=some (.slice aa 0 ac):=fun W g=>(ea W).trans (congrArg (fun k:Nat=>some (Value.slice aa k ac)) (show m.Space.Board.Asked.length=0 by rw[HI.out.asked];rfl))
   obtain⟨vs5,A,hV5,hvs5,-⟩:=gb_cells HGK.out
   have eb:∀ (W:World) [Grows y.w W],W.cell? ⟨qb,56,none⟩=some (.int .i64 0):=fun W g=>(hV5.to g).cell 56 |>.trans (by rw[hvs5];exact congrArg (fun k=>some (Value.int .i64 k)) HBG.out)
   clear ea hV5 hvs5 hna
   go_wp2_with (first|((with_reducible refine wp_region_later (by kernel_rfl) (by kernel_rfl) ?_);(repeat(first|go_big_quiet_step (first|fail)|simp only[kc]));refine wpQuiet_nil ?_;rintro _ ⟨x,rfl⟩))
   go_loopw [50] (fun v wr=>v=.int .i64 0∧∃ y2:Later y.w,wr=y2.w) (fun _ _=>0)
   case atStart=>exact⟨rfl,Later.of⟩
   case round =>
    obtain⟨rfl,y2,rfl⟩:=hrel
    go_upto_region 16 with(first|((with_reducible refine wp_region_later (by kernel_rfl) (by kernel_rfl) ?_);(repeat(first|go_big_quiet_step (first|fail)));refine wpQuiet_nil ?_;rintro _ ⟨x,rfl⟩)|(refine step_gbC (o:=56) (us:=[.int .i64 0]) (advK m k) rfl _ (.tmp 81) (.tmp 79) rfl (HGK.out.to inferInstance) rfl rfl (by kernel_rfl) rfl (Nat.le_of_ble_eq_true rfl) (by intros;rename_i h;obtain⟨A1,rfl,q⟩:=h;exact⟨A1,splice_same (Eq.trans rfl (congrArg (fun k=>some (Value.int .i64 k)) HBG.out)),q⟩) inferInstance (Nat.le_refl _) ?_;intro z8 hz8 hX8))
    (try simp only[Act.put])
    have HZ8:=lH hz8
    clear hz8 hX8
    obtain⟨vs9,hH9,hl9,h19,-,χ9,hO9⟩:=HZ8.out.vs
    have HH9:=lH hH9;have HO9:=lH hO9;have H19:=lH h19;have HL9:=lH (show vs9.length=61 from hl9)
    clear hO9 hH9 h19 hl9
    go_wp2_with (first|((with_reducible refine wp_region_later (by kernel_rfl) (by kernel_rfl) ?_);(repeat(first|go_big_quiet_step (first|fail)));refine wpQuiet_nil ?_;rintro _ ⟨x,rfl⟩)|(refine stepLoad rfl _ (.tmp 3) rfl (qb) 0 (by kernel_rfl) (row:=vs9) (HH9.out.to inferInstance) _ Tryz.underlying90 rfl (by rw[HL9.out];kernel_rfl) (by rw[List.drop_zero,List.take_length]) ?_)|(refine stepStore2 rfl _ _ _ rfl (w.heap.size+1) 0 rfl (us:=vs9) (cs2:=vs9) (HR.out.to inferInstance) ?a91 ?a92 ?a93 ?a94 ?a95 (w0:=w) inferInstance (by omega) ?_;(case a91=>rfl);(case a92=>(rw[HL9.out];kernel_rfl));(case a93=>exact H19.out);(case a94=>(rw[HL9.out];exact Nat.le_of_ble_eq_true rfl));(case a95=>exact splice_all HL9.out);intro z9 hx kx;have HX9:=lH hx;clear hx;have KX9:=lH kx;clear kx))
    refine bodyPost_ret (v:=.agg vs9.toArray) (results_cell (P:=Tryz.prog) rfl rfl HX9.out _ Tryz.underlying90 rfl (by rw[HL9.out];kernel_rfl)) rfl ?_
    exact⟨vs9,χ9,rfl,obox_fin (obox_to HO9.out inferInstance) KX9.out (show w.heap.size+1<W2.heap.size by omega) hW2,Later.of⟩
theorem out_facts{m0 m:TMission}{t:Nat}(h:Begun m0)(k:IsOut m0 t m)(ht:t<1000):m.Ups=[]∧m.Downs=[]∧Idle m.Space.Board∧m.Orbit=outO∧m.Time=(t:Int)∧advNow m=true∧∃ N:Nat,ticksDue m.Drift.Rate m.Drift.Offset m.Time=(N:Int)∧m.Space.Board.Clock+N≤1000000:=by
 have hok:=k.ok h (by omega)
 obtain⟨offs,sd,offd,rfl,h1,h2,h3⟩:=k
 have hbs:=bt_step (begun_drift h) (t:=t) (by omega) (by omega)
 have hbh:=bt_high (begun_drift h) (t:=t+1) (by omega) (by omega)
 have hnn:¬ (t:Int)=1000000:=by omega
 refine⟨h.ups,h.downs,(begun_idle h).clock (bt_inB h (by omega)),rfl,rfl,by rw[advNow,hok];simp[outM,hnn],(ticksDue m0.Drift.Rate m0.Drift.Offset t).toNat,?_,?_⟩
 ·show ticksDue m0.Drift.Rate m0.Drift.Offset t=_
  omega
 ·show boardTime m0.Drift.Rate m0.Drift.Offset t+((ticksDue m0.Drift.Rate m0.Drift.Offset t).toNat:Int)≤_
  omega
theorem out_visible{m:TMission}(ho:m.Orbit=outO)(h0:m.Time≤800):visible m.Orbit.Period m.Orbit.Start m.Orbit.Length m.Time=false:=by
 rw[ho]
 have h1:inB m.Time 900 1000000=false:=by
  cases h:inB m.Time 900 1000000
  ·rfl
  ·have:=inB_iff.1 h;omega
 show visible 1000 900 5 m.Time=false
 rw[visible,h1];simp
set_option maxRecDepth 100000 in
set_option maxHeartbeats 4000000 in
theorem o_iStepMission0{B t:Nat}{vs:List Value}{m0 m:TMission}{w:World}(h:Enc.Rd B w vs m)(hb:Begun m0)(k:IsOut m0 t m)(htt:t≤700)(hts:Enc.tot m≤50000) :
  Calls Tryz.prog 86 #[.agg vs.toArray] w (GivesO w (stepOut m)):=by
 obtain⟨hu,hd,hi,ho,hT,hn,N,hN,hC⟩:=out_facts hb k (by omega)
 have hok:=k.ok hb (by omega)
 have k1:=k.adv hb (by omega)
 have hadv:=adv_idle hn hi hN hC
 rw[hadv]at k1
 obtain⟨hu1,hd1,-,ho1,hT1,-,-⟩:=out_facts hb k1 (by omega)
 have hv1:=out_visible ho1 (by rw[hT1];omega)
 have hask:askMissing (advK m N)=advK m N:=k1.ask hb
 have ht1:Enc.tot (advK m N)≤200000:=by have:=advanceBoard_tot m;rw[hadv]at this;omega
 have HSO:=lH (show stepOut m=sendUp0 (advK m N)by rw[stepOut,hadv,hask])
 have H1:=lH hu1;have H2:=lH hd1;have H3:=lH hv1;have H4:=lH hask;have H5:=lH ht1;have H6:=lH hn;have H7:=lH hi;have H8:=lH hN;have H9:=lH hC;have H0:=lH hok
 have hTT:m.Time≤800:=by rw[hT];omega
 have hT0:0≤m.Time:=by rw[hT];omega
 have HTS:=lH hts
 clear hu hd hi ho hT hn hN hC k k1 hadv hu1 hd1 ho1 hT1 hv1 hask ht1 hok hts hb htt
 have HL:=lH (len_mission h)
 have HM:=lH h;clear h
 have HB:=lH ((Held.new w vs 90 w.heap.size rfl).to (inferInstance:Grows _ ((w.alloc (.cells vs.toArray 90)).alloc (.cells zMission.toArray 90))))
 have HR:=lH (Held.new (w.alloc (.cells vs.toArray 90)) zMission 90 (w.heap.size+1) (by simp))
 have gW:Grows w ((w.alloc (.cells vs.toArray 90)).alloc (.cells zMission.toArray 90)):=inferInstance
 have hsz:((w.alloc (.cells vs.toArray 90)).alloc (.cells zMission.toArray 90)).heap.size=w.heap.size+2:=by simp
 go_enter Tryz.func86,Tryz.ntmps86
 go_upto_region 1 with(first|((with_reducible refine wp_region_later (by kernel_rfl) (by kernel_rfl) ?_);(repeat(first|go_big_quiet_step (first|fail)));refine wpQuiet_nil ?_;rintro _ ⟨x,rfl⟩))
 generalize ((w.alloc (.cells vs.toArray 90)).alloc (.cells zMission.toArray 90))=W2 at HB HR gW hsz ⊢
 have iB:LtN w.heap.size W2.heap.size:=⟨by omega⟩
 have iR:LtN (w.heap.size+1) W2.heap.size:=⟨by omega⟩
 have hW2:w.heap.size≤W2.heap.size:=by omega
 have HR0:=lH (show vs[0]?=some (.int .i64 m.Time)by obtain⟨A,h1,-⟩:=HM.out;rw[h1];rfl)
 have c1:(m.Time == 1000000)=false:=by simp;omega
 go_wp2_with (first|(refine stepLoad rfl _ (.tmp 1) rfl (w.heap.size) 0 (by kernel_rfl) (row:=vs) (HB.out.to inferInstance) _ Tryz.underlying90 rfl (by rw[HL.out];kernel_rfl) (by rw[List.drop_zero,List.take_length]) ?_))
 refine(c_iMissionOk (m:=m) (Enc.keep HM.out inferInstance) (Int.le_trans HTS.out (by decide))).mono ?_
 rintro _ _ ⟨rfl,y0,rfl⟩
 rw[H0.out]
 go_wp2_with (first|((with_reducible refine wp_region_later (by kernel_rfl) (by kernel_rfl) ?_);(repeat(first|go_big_quiet_step (first|fail)|simp only[c1]));refine wpQuiet_nil ?_;rintro _ ⟨x,rfl⟩)|(refine stepLoad1W (by first|kernel_rfl|go_simp) _ (.tmp 7) rfl (w.heap.size) 0 (by kernel_rfl) (HB.out.to inferInstance) (.int .i64 m.Time) HR0.out _ Tryz.underlying3 rfl ?_)|(refine stepLoad rfl _ (.tmp 1) rfl (w.heap.size) 0 (by kernel_rfl) (row:=vs) (HB.out.to inferInstance) _ Tryz.underlying90 rfl (by rw[HL.out];kernel_rfl) (by rw[List.drop_zero,List.take_length]) ?_))
 refine(o_iAdvanceBoard0 (m:=m) (N:=N) (Enc.keep HM.out inferInstance) (Int.le_trans HTS.out (by decide)) H6.out H7.out H8.out H9.out).mono ?_
 rintro _ _ ⟨vs1,χ1,rfl,hO1,y1,rfl⟩
 have HO1:=lH hO1;clear hO1
 go_wp2_with (first|(refine stepLoad rfl _ (.tmp 1) rfl (w.heap.size) 0 (by kernel_rfl) (row:=vs) (HB.out.to inferInstance) _ Tryz.underlying90 rfl (by rw[HL.out];kernel_rfl) (by rw[List.drop_zero,List.take_length]) ?_))
 refine(o_iHearUplink0 (Enc.keep (EncO.toRd HO1.out) inferInstance) (Int.le_trans H5.out (by decide)) H1.out).mono ?_
 rintro _ _ ⟨vs2,χ2,rfl,hO2,y2,rfl⟩
 have HO2:=lH hO2;clear hO2
 go_wp2_with (first|(refine stepLoad rfl _ (.tmp 1) rfl (w.heap.size) 0 (by kernel_rfl) (row:=vs) (HB.out.to inferInstance) _ Tryz.underlying90 rfl (by rw[HL.out];kernel_rfl) (by rw[List.drop_zero,List.take_length]) ?_))
 refine(o_iSendDown0 (Enc.keep (EncO.toRd HO2.out) inferInstance) (Int.le_trans H5.out (by decide)) H3.out).mono ?_
 rintro _ _ ⟨vs3,χ3,rfl,hO3,y3,rfl⟩
 have HO3:=lH hO3;clear hO3
 go_wp2_with (first|(refine stepLoad rfl _ (.tmp 1) rfl (w.heap.size) 0 (by kernel_rfl) (row:=vs) (HB.out.to inferInstance) _ Tryz.underlying90 rfl (by rw[HL.out];kernel_rfl) (by rw[List.drop_zero,List.take_length]) ?_))
 refine(o_iHearDown0 (Enc.keep (EncO.toRd HO3.out) inferInstance) (Int.le_trans H5.out (by decide)) H2.out).mono ?_
 rintro _ _ ⟨vs4,χ4,rfl,hO4,y4,rfl⟩
 have HO4:=lH hO4;clear hO4
 go_wp2_with (first|(refine stepLoad rfl _ (.tmp 1) rfl (w.heap.size) 0 (by kernel_rfl) (row:=vs) (HB.out.to inferInstance) _ Tryz.underlying90 rfl (by rw[HL.out];kernel_rfl) (by rw[List.drop_zero,List.take_length]) ?_))
 refine(o_iAskMissing (Enc.keep (EncO.toRd HO4.out) inferInstance) (Int.le_trans H5.out (by decide))).mono ?_
 rintro _ _ ⟨vs5,χ5,rfl,hO5,y5,rfl⟩
 rw[H4.out]at hO5
 have HO5:=lH hO5;clear hO5
 go_wp2_with fail
 refine(o_iSendUp0 (Enc.keep (EncO.toRd HO5.out) inferInstance) (Int.le_trans H5.out (by decide)) (Int.le_trans H5.out (by decide)) H3.out).mono ?_
 rintro _ _ ⟨vs6,χ6,rfl,hO6,y6,rfl⟩
 have HO6:=lH hO6;have HL6:=lH (len_mission (EncO.toRd hO6));have H16:=lH (one_mission (EncO.toRd hO6));clear hO6
 go_wp2_with (first|(refine stepStore2 rfl _ _ _ rfl (w.heap.size+1) 0 rfl (us:=vs6) (cs2:=vs6) (HR.out.to inferInstance) ?a91 ?a92 ?a93 ?a94 ?a95 (w0:=w) inferInstance (by omega) ?_;(case a91=>rfl);(case a92=>(rw[HL6.out];kernel_rfl));(case a93=>exact H16.out);(case a94=>(rw[HL6.out];exact Nat.le_of_ble_eq_true rfl));(case a95=>exact splice_all HL6.out);intro z9 hx kx;have HX9:=lH hx;clear hx;have KX9:=lH kx;clear kx))
 refine bodyPost_ret (v:=.agg vs6.toArray) (results_cell (P:=Tryz.prog) rfl rfl HX9.out _ Tryz.underlying90 rfl (by rw[HL6.out];kernel_rfl)) rfl ?_
 rw[HSO.out]
 exact⟨vs6,χ6,rfl,obox_fin HO6.out KX9.out (show w.heap.size+1<_ from Nat.lt_of_lt_of_le (show w.heap.size+1<W2.heap.size by omega) LeN.out) (Nat.le_trans hW2 LeN.out),Later.of⟩
structure Ago(q:Nat)(u W:World):Prop where
 size:u.heap.size≤W.heap.size
 block:∀ k,k<u.heap.size→k≠q→W.heap[k]?=u.heap[k]?
theorem Ago.grows{q:Nat}{u W:World}(g:Grows u W):Ago q u W:=⟨g.out.size,fun k hk _=>g.out.block k hk⟩
theorem Ago.but{q:Nat}{u W:World}(h:But q u W):Ago q u W:=⟨h.size,fun k hk hq=>h.block k hq hk⟩
theorem Ago.trans{q:Nat}{a b c:World}(h:Ago q a b)(k:Ago q b c):Ago q a c:=⟨Nat.le_trans h.size k.size,fun i h1 h2=>(k.block i (Nat.lt_of_lt_of_le h1 h.size) h2).trans (h.block i h1 h2)⟩
def Rob(u:World)(q:Nat)(vs:List Value)(m:TMission):Prop:=∀ W,Ago q u W→Enc.Rd 0 W vs m
theorem Rob.to{u u':World}{q:Nat}{vs:List Value}{m:TMission}(h:Rob u q vs m)(g:Ago q u u'):Rob u' q vs m:=fun W k=>h W (g.trans k)
theorem Rob.rd{u:World}{q:Nat}{vs:List Value}{m:TMission}(h:Rob u q vs m):Enc.Rd 0 u vs m:=h u (.grows inferInstance)
theorem Rob.low{X u:World}{q B:Nat}{vs:List Value}{m:TMission}(h:Enc.Rd B X vs m)(hq:X.heap.size≤q)(g:Grows X u):Rob u q vs m:=fun W k=>Enc.mono (Enc.keep h ⟨Nat.le_trans g.out.size k.size,fun i _ h2=>(k.block i (Nat.lt_of_lt_of_le h2 g.out.size) (by omega)).trans (g.out.block i h2)⟩) (Nat.zero_le _)
theorem Rob.high{u:World}{q B:Nat}{vs:List Value}{m:TMission}(h:Enc.Rd B u vs m)(hq:q<B):Rob u q vs m:=fun W k=>Enc.mono (Enc.keep h ⟨k.size,fun i h1 h2=>k.block i h2 (by omega)⟩) (Nat.zero_le _)
theorem Rob.orbit{u:World}{q:Nat}{vs:List Value}{m:TMission}(h:Rob u q vs m):Rob u q (splice vs 4 [.int .i64 1000,.int .i64 900,.int .i64 5]) { m with Orbit:=outO }:=fun W k=>by
 obtain⟨A,rfl,F⟩:=h W k
 refine⟨A,rfl,⟨F.q0,F.q1,F.q2,F.q3,F.q4,F.q5,F.q6,F.q7,F.q8,F.q9,F.q10,F.q11,F.q12,F.q13,F.q14,F.q15,F.q16,F.q17,F.q18,F.q19,F.q20,F.q21,?_⟩⟩
 obtain⟨k1,k2,k3,-,k5⟩:=F.ok
 exact⟨k1,k2,k3,⟨(show i64 1000 by unfold i64;decide),(show i64 900 by unfold i64;decide),(show i64 5 by unfold i64;decide),trivial⟩,k5⟩
theorem g_rowAt{P:Program}{ops:Array Oper}{b:Act}{w:World}{i:Nat}{bb o:Nat}{row:List Value}{ty:TypeId}{Fs:EntL Gr}{val:Nat→Value}{k:Nat}(hR:w.rangeAt bb o row)(he:(entAt Fs k).fix=some fun _=>.agg row.toArray)(hk:loadAt ops b i=some (ty,.pointer (some ⟨bb,o,none⟩)))(d:TypeDesc)(hu:P.underlying ty=some d)(hd:d.isRow=true)
  (hi:(P.info? ty).map (·.size)=some row.length):gives P ops (opAt ops i) b w (fun v w'=>(∃ y:Later w,w'=y.w)∧entP Fs k val v w') :=
 g_load hk (v:=.agg row.toArray) (by simp only[Instr.loadAt,Instr.sureAddr,Sem.run_bind,Sem.run_pure,Result.andThen_ok,run_loadVar_mid w bb o ty row d hR hu hd hi]) ⟨Later.of,by unfold entP;rw[he]⟩
def isO{α:Type}[E:OBox α](B:Nat)(x:α)(v:Value)(w:World):Prop:=∃ (vs:List Value) (χ:Nat→Col),v=.agg vs.toArray∧E.O B χ 0 w vs x
def entO{α:Type}[E:OBox α](B:Nat)(x:α):Ent Gr:=.of (isO B x) (fun _ _ _ g ⟨vs,χ,e,h⟩=>⟨vs,χ,e,E.map h (.to ⟨g⟩)⟩)
def Given(m0 m:TMission)(k:Nat):Prop:=∃ offs,m={ m0 with Ground:={ m0.Ground with Offers:=offs } }∧offs.all offerOk=true∧offs.length≤k
theorem given_next{m0 m:TMission}{k:Nat}(h:Given m0 m k)(q:TOrder):Given m0 (giveOrder m q).1 (k+1):=by
 obtain⟨offs,rfl,h1,h2⟩:=h
 unfold giveOrder
 split
 ·split
  ·split
   ·rename_i hok
    simp only[missionOk,Bool.and_eq_true]at hok
    have hg:=hok.2.2.2.2.2.2.2.2.2.2.1
    simp only[groundOk,Bool.and_eq_true]at hg
    exact⟨offs++[payOrder q],rfl,hg.2.2.2.2.2.2.2.1,by rw[List.length_append,List.length_singleton];omega⟩
   ·exact⟨offs,rfl,h1,by omega⟩
  ·exact⟨offs,rfl,h1,by omega⟩
 ·exact⟨offs,rfl,h1,by omega⟩
theorem given_out{m0 m:TMission}{k:Nat}(hb:Begun m0)(h:Given m0 m k)(hk:k≤100):IsOut m0 0 { m with Orbit:=outO }:=by
 obtain⟨offs,rfl,h1,h2⟩:=h
 refine⟨offs,m0.Ground.Sender,m0.Offered,?_,?_,?_,?_⟩
 ·have e:outM m0 ((0:Nat):Int) (boardTime m0.Drift.Rate m0.Drift.Offset ((0:Nat):Int)) outO offs m0.Ground.Sender m0.Offered=outM m0 m0.Time m0.Space.Board.Clock outO offs m0.Ground.Sender m0.Offered:=by
   rw[hb.time,hb.clock];rfl
  exact(show _=outM m0 m0.Time m0.Space.Board.Clock outO offs m0.Ground.Sender m0.Offered from rfl).trans e.symm
 ·rw[hb.win];rfl
 ·rw[hb.offd];exact h1
 ·rw[hb.offd];simp;omega
theorem offers_tot:∀ {l:List ByteArray},l.all offerOk=true→totL l≤41*l.length
 | [],_=>by simp[totL]
 | s::r,h=>by
  rw[List.all_cons,Bool.and_eq_true]at h
  have ih:=offers_tot h.2
  have h1:=h.1
  have h2:Enc.tot s=(s.size:Int):=rfl
  simp only[offerOk,inB,Bool.and_eq_true,decide_eq_true_eq]at h1
  simp only[totL,List.length_cons,h2];omega
theorem sent_tot{nx:Int}{n:Nat}:∀ {l:List TSent} {i:Nat},sentGo nx n i l=true→totL l≤41*l.length
 | [],_,_=>by simp[totL]
 | s::r,i,h=>by
  rw[sentGo,Bool.and_eq_true]at h
  have ih:=sent_tot h.2
  have h1:=h.1
  have h2:Enc.tot s=(s.Data.size:Int):=rfl
  simp only[sentGood,inB,Bool.and_eq_true,decide_eq_true_eq]at h1
  simp only[totL,List.length_cons,h2];omega
theorem sender_small{s:TSender}(h:senderOk s=true):Enc.tot s≤820:=by
 simp only[senderOk,Bool.and_eq_true,decide_eq_true_eq]at h
 have h1:=inB_iff.1 h.2.1
 have h2:=sent_tot h.2.2.2.2
 rw[sender_tot];omega
theorem out_tot{m0 m:TMission}{t:Nat}(h:IsOut m0 t m)(h0:Enc.tot m0≤10000):Enc.tot m≤50000:=by
 obtain⟨offs,sd,offd,rfl,h1,h2,h3⟩:=h
 have k1:=sender_small h1
 have k2:=offers_tot h2
 rw[List.length_append]at k2
 have k3:totL (offd++offs)=totL offd+totL offs:=totL_app _ _
 have e1:Enc.tot (outM m0 t (boardTime m0.Drift.Rate m0.Drift.Offset t) outO offs sd offd)=Enc.tot (upM m0 (offs,sd,offd)):=rfl
 have k4:=offers_le m0
 have k5:=totL_nonneg m0.Ground.Offers;have k6:=Enc.tot_nonneg m0.Ground.Sender;have k7:=totL_nonneg m0.Offered
 rw[e1,upM_tot];simp only;omega
theorem begun_tot{m:TMission}(h:isNew m):Begun m∧Enc.tot m≤10000:=by
 obtain⟨-,-,-,-,-,h8,h9,-,pl,room,L,hm,hok⟩:=h
 obtain⟨fs,hfs⟩:∃ fs,m.Space.Files=fs:=⟨_,rfl⟩
 rw[hfs]at hm h8 h9
 rw[hm]at hok ⊢
 refine⟨begun_of hok h8,?_⟩
 have h2:=totL_small h9
 rw[newM_tot]
 simp only[missionOk,spaceOk,boardOk,Bool.and_eq_true,decide_eq_true_eq]at hok
 have h3:(pl.length:Int)≤1500:=hok.2.2.2.2.2.2.2.1
 have h4:(L.length:Int)≤8:=hok.2.2.2.2.2.2.2.2.2.2.2.1.2.1.2.2.2.1
 omega
theorem c_run60{B:Nat}{vs:List Value}{m0 m:TMission}{w:World}(h:Enc.Rd B w vs m)(hb:Begun m0)(k:IsOut m0 0 m)(h0:Enc.tot m0≤10000) :
  Calls Tryz.prog 18 #[.agg vs.toArray,.int .i64 60] w (GivesO w (stepsOut 60 m)) :=
 o_iRunMissionG (n:=60) (fun j=>stepsOut j m) h (Int.le_trans (out_tot k h0) (by decide)) rfl (by decide) (fun j hj {B2 vs2 w2} h2=>by
  have kj:=IsOut.steps hb j k (by omega)
  rw[Nat.zero_add]at kj
  show Calls _ _ _ _ (GivesO w2 (stepsOut (j+1) m))
  rw[stepsOut_snoc]
  exact o_iStepMission0 h2 hb kj (by omega) (out_tot kj h0))
theorem c_runB{B N:Nat}{vs:List Value}{b:TBoard}{w:World}(h:Enc.Rd B w vs b)(hi:Idle b)(hN:N≤5000)(hc:b.Clock+N≤1000000) :
  Calls Tryz.prog 19 #[.agg vs.toArray,.int .i64 N] w (GivesO w ({ b with Clock:=b.Clock+N }:TBoard)) :=
 o_sRunBoardG (n:=N) (fun j=>{ b with Clock:=b.Clock+j }) h (Int.le_trans (boardOk_tot hi.ok) (by decide)) (by simp) hN (fun j hj {B2 vs2 w2} h2=>by
  have h0:=idle_clock hi
  have hij:Idle ({ b with Clock:=b.Clock+j }:TBoard):=hi.clock (inB_iff.2 ⟨by omega,by omega⟩)
  have:=o_sTickBoard0 (b:={ b with Clock:=b.Clock+j }) h2 (Int.le_trans (boardOk_tot hij.ok) (by decide)) hij (by show b.Clock+(j:Int)<_;omega)
  rw[show b.Clock+((j+1:Nat):Int)=b.Clock+(j:Int)+1 by omega]
  exact this)
set_option maxRecDepth 100000 in
set_option maxHeartbeats 8000000 in
theorem c_lFnOutOfSight{w:World}{a:Option Addr}{n c:Nat}{l:List Int}(hs:Sl encByte w a l)(hn:l.length=n)(hz:n≤9223372036854775807)(hby:∀ x∈l,isByte x) :
  Calls Tryz.prog 5 #[.slice a n c] w (Gives w (.bool true)):=by
 cases q0:decide (1048576<(n:Int))
 case true =>
  go_enter Tryz.func5,Tryz.ntmps5
  go_wp2_with (first|((with_reducible refine wp_region_later (by kernel_rfl) (by kernel_rfl) ?_);(repeat(first|go_big_quiet_step (first|(go_at_call 15;exact Gives.quiet (c_lbig)))|simp only[q0]));refine wpQuiet_nil ?_;rintro _ ⟨x,rfl⟩)|(go_at_call 15;refine(c_lbig).mono ?_;rintro _ _ ⟨rfl,x,rfl⟩))
  go_ret
  exact Gives.mk rfl
 have hm:n≤1048576:=by have:=of_decide_eq_false q0;omega
 have HBY:=lH hby;clear hby
 go_enter Tryz.func5,Tryz.ntmps5
 go_wp2_with (first|((with_reducible refine wp_region_later (by kernel_rfl) (by kernel_rfl) ?_);(repeat(first|go_big_quiet_step (first|(go_at_call 15;exact Gives.quiet (c_lbig)))|simp only[q0]));refine wpQuiet_nil ?_;rintro _ ⟨x,rfl⟩)|(go_at_call 15;refine(c_lbig).mono ?_;rintro _ _ ⟨rfl,x,rfl⟩))
 refine(c_sDrawMissionO (hs.to inferInstance) hn hm HBY.out).mono ?_
 rintro _ X ⟨vs,m0,sa,sc,L,rfl,hL100,hSl,hnew,hR,y,hy⟩
 have gX:Grows w X:=hy▸inferInstance
 clear hy
 obtain⟨hbeg,htot0⟩:=begun_tot hnew
 have HBG:=lH hbeg;have HT0:=lH htot0;have HNW:=lH hnew;clear hbeg htot0 hnew
 have HV1:=lH (len_mission hR);have HV2:=lH (one_mission hR);have HR:=lH hR;have HSL:=lH hSl
 clear hR hSl
 go_upto_region 4 with(first|((with_reducible refine wp_region_later (by kernel_rfl) (by kernel_rfl) ?_);(repeat(first|go_big_quiet_step (first|fail)));refine wpQuiet_nil ?_;rintro _ ⟨x,rfl⟩)|(refine stepStore2 rfl _ _ _ rfl _ 0 rfl (us:=vs) (cs2:=vs) (Held.new _ zMission 90 _ rfl) ?ca1 ?ca2 ?ca3 ?ca4 ?ca5 (w0:=X) inferInstance LeN.out ?_;(case ca1=>rfl);(case ca2=>(rw[HV1.out];kernel_rfl));(case ca3=>exact HV2.out);(case ca4=>(rw[HV1.out];exact Nat.le_of_ble_eq_true rfl));(case ca5=>exact splice_all HV1.out);intro z1 hx kx;(have HX1:=lH hx);(have KX1:=lH kx);clear hx kx))
 (try simp only[Act.put])
 obtain⟨qb,hqb⟩:∃ qb,X.heap.size=qb:=⟨_,rfl⟩
 rw[hqb]
 have HX:=lH (show Held z1.w qb vs 90 from hqb▸HX1.out)
 have HRB:=lH (Rob.low HR.out (show X.heap.size≤qb by omega) (inferInstance:Grows X z1.w))
 have hqX:X.heap.size≤qb:=by omega
 clear hqb HX1 KX1
 obtain⟨ln,hln⟩:∃ k,L.length=k:=⟨_,rfl⟩
 rw[hln]
 have HLN:=lH hln
 have hl100:ln≤100:=by omega
 go_wp2_with fail
 go_loopw [5] (fun v wr=>∃ (k:Nat) (vs1:List Value) (m1:TMission),v=.int .i64 k∧k≤ln∧Hid (Given m0 m1 k)∧Hid (Held wr qb vs1 90)∧Hid (Rob wr qb vs1 m1)∧Hid (Enc.tot m1≤10000+9*k)∧∃ y:Later X,wr=y.w) (fun v _=>(ln - intOf v).toNat)
 case atStart=>exact⟨0,vs,m0,rfl,Nat.zero_le _,⟨m0.Ground.Offers,rfl,by rw[HBG.out.offs];rfl,by rw[HBG.out.offs];exact Nat.le_refl _⟩,HX.out.to inferInstance,HRB.out.to (.grows inferInstance),by have:=HT0.out;show _≤_;omega,Later.of⟩
 case round =>
  obtain⟨k,vs1,m1,rfl,hk,HGV,HH1,HR1,HT1,y1,rfl⟩:=hrel
  have HL1:=lH (len_mission HR1.out.rd);have H11:=lH (one_mission HR1.out.rd)
  by_cases hkn:k<ln
  ·have kc:decide ((k:Int)<(ln:Int))=true:=by simp;omega
   obtain⟨o4,ho4⟩:∃ o,L[k]?=some o:=⟨_,List.getElem?_eq_getElem (by rw[HLN.out];exact hkn)⟩
   obtain⟨ob,oo,rfl,hob,hoc⟩:=HSL.out k o4 ho4
   have HOC:=lH hoc;clear hoc ho4
   obtain⟨tq,htq⟩:∃ q:TOrder,q=⟨o4.1,o4.2.1,o4.2.2.1,o4.2.2.2⟩:=⟨_,rfl⟩
   have HGO:=lH (show ∀ (B:Nat) (w:World),Enc.Rd B w vs1 m1→Calls Tryz.prog 17 #[.agg vs1.toArray,.agg #[.int .i64 o4.1,.int .i64 o4.2.1,.int .i64 o4.2.2.1,.int .i64 o4.2.2.2]] w (GivesOB w (giveOrder m1 tq).1 (giveOrder m1 tq).2)from fun B w h=>by rw[htq];exact o_sGiveOrder (q:=⟨o4.1,o4.2.1,o4.2.2.1,o4.2.2.2⟩) h (by have:=HT1.out;omega))
   clear htq
   go_upto_region 7 with(first|((with_reducible refine wp_region_later (by kernel_rfl) (by kernel_rfl) ?_);(repeat(first|go_big_quiet_step (first|fail)|simp only[kc]));refine wpQuiet_nil ?_;rintro _ ⟨x,rfl⟩))
   refine wp_region_stabZ (by kernel_rfl) (T:=[9]) (Zs:=[(8,[5])]) (H:=[(0,[]),(3,[]),(4,[]),(5,[]),(6,[5]),(7,[5]),(8,[5])]) (C:=[5]) (Fs:=[(some 22,.v (.agg vs1.toArray)),(some 23,.v (.slice (some ⟨ob,oo,none⟩) ln sc)),(some 24,.v (.int .i64 k)),(some 25,.v (.pointer (some ⟨ob,oo+k*4,none⟩))),(some 26,.v (.agg #[.int .i64 o4.1,.int .i64 o4.2.1,.int .i64 o4.2.2.1,.int .i64 o4.2.2.2])),(some 27,entOB y1.w.heap.size (giveOrder m1 tq).1 (giveOrder m1 tq).2),(some 21,.fn [5] gOne),(some 28,.fn [5] gFst),(some 29,.fn [5] gSnd),(none,.v undef)]) (by kernel_rfl) (fun val W=>by kernel_rfl) ?ob7 ?lz7 ?pn7 ?tl7
   case ob7 =>
    refine⟨fun x=>?_,fun x=>?_,fun x=>?_,fun x=>?_,fun x=>?_,fun x=>?_,fun x=>?_,trivial⟩
    ·exact g_row (o:=0) (cs:=vs1) (HH1.out.to (inferInstance:Grows y1.w x.w)) rfl (by kernel_rfl) _ Tryz.underlying90 rfl (by rw[HL1.out];kernel_rfl) (by rw[List.drop_zero,List.take_length])
    ·exact g_ix (size:=4) (o:=oo) (j:=k) (n:=ln) (c:=sc) rfl (by kernel_rfl) Tryz.underlying98 (by kernel_rfl) hkn
    ·exact g_rowAt (row:=[.int .i64 o4.1,.int .i64 o4.2.1,.int .i64 o4.2.2.1,.int .i64 o4.2.2.2]) (fun j v hv=>(x.h.cell (p:=⟨ob,_,none⟩) (Nat.lt_of_lt_of_le hob y1.size_le)).trans ((y1.h.cell (p:=⟨ob,_,none⟩) hob).trans (HOC.out j v hv))) rfl (by kernel_rfl) _ Tryz.underlying104 rfl (by kernel_rfl)
    ·refine g_call (f:=17) (args:=[.agg vs1.toArray,.agg #[.int .i64 o4.1,.int .i64 o4.2.1,.int .i64 o4.2.2.1,.int .i64 o4.2.2.2]]) Tryz.func17 (by kernel_rfl) (by kernel_rfl) ((HGO.out _ _ (Enc.keep HR1.out.rd (gKeeps (inferInstance:Grows y1.w x.w)))).mono ?_)
     rintro _ _ ⟨vs2,χ2,rfl,hO2,y2,rfl⟩
     exact⟨_,rfl,⟨y2,rfl⟩,vs2,χ2,rfl,OBox.map hO2 (.mono x.size_le)⟩
    ·refine chain1 fun v5 q5=>chain0 ?_
     obtain⟨vs2,χ2,rfl,q⟩:=(show isOB y1.w.heap.size (giveOrder m1 tq).1 (giveOrder m1 tq).2 v5 x.w from q5)
     exact g_fn (k:=6) (by kernel_rfl) (by kernel_rfl)
    ·refine chain1 fun v5 q5=>chain0 ?_
     obtain⟨vs2,χ2,rfl,q⟩:=(show isOB y1.w.heap.size (giveOrder m1 tq).1 (giveOrder m1 tq).2 v5 x.w from q5)
     exact g_fn (k:=7) (by kernel_rfl) (by kernel_rfl)
    ·refine chain1 fun v5 q5=>chain0 ?_
     obtain⟨vs2,χ2,rfl,q⟩:=(show isOB y1.w.heap.size (giveOrder m1 tq).1 (giveOrder m1 tq).2 v5 x.w from q5)
     exact g_fn (k:=8) (by kernel_rfl) (by kernel_rfl)
   case lz7 =>
    refine⟨fun W hW=>?_,trivial⟩
    refine chain1 fun v5 q5=>chain0 ?_
    obtain⟨vs2,χ2,rfl,q⟩:=(show isOB y1.w.heap.size (giveOrder m1 tq).1 (giveOrder m1 tq).2 v5 W from q5)
    intro W3
    kernel_rfl
   case pn7=>exact fun _ _ _ _ _ _ h=>h
   case tl7 =>
    intro x
    refine chain1 fun v5 q5=>?_
    obtain⟨vs2,χ2,rfl,hO2⟩:=(show isOB y1.w.heap.size (giveOrder m1 tq).1 (giveOrder m1 tq).2 v5 x.w from q5)
    clear q5
    refine tail1 rfl ?_
    simp only[put_nrm,put_nrm2,List.map,gOne,gFst,gSnd]
    simp only[Act.put,List.setIfInBounds_toArray,List.set_cons_succ,List.set_cons_zero,if_true,Nat.reduceAdd]
    have HL2:=lH (len_mission (EncO.toRd hO2));have H12:=lH (one_mission (EncO.toRd hO2));have HO2:=lH hO2;clear hO2
    have hql:=HH1.out.lt
    go_wp2_with (first|(refine stepStore2 rfl _ (.tmp 3) (.tmp 28) rfl (qb) 0 rfl (us:=vs2) (cs2:=vs2) (HH1.out.to inferInstance) ?a51 ?a52 ?a53 ?a54 ?a55 (w0:=X) inferInstance hqX ?_;(case a51=>rfl);(case a52=>(rw[HL2.out];kernel_rfl));(case a53=>exact H12.out);(case a54=>(rw[HL2.out,HL1.out];exact Nat.le_of_ble_eq_true rfl));(case a55=>exact splice_all (HL2.out.trans HL1.out.symm));intro z5 hx kx;have HX5:=lH hx;clear hx;have KX5:=lH kx;clear kx))
    have HR5:=lH (Rob.high (Enc.keep (EncO.toRd HO2.out) (KX5.out.keeps hql)) hql)
    go_roundw
    case rel=>exact⟨k+1,vs2,_,by go_num,by omega,given_next HGV.out tq,HX5.out.to inferInstance,HR5.out.to (.grows inferInstance),(by have h1:=HT1.out;have h2:=giveOrder_tot m1 tq;show _≤_;omega),Later.of⟩
    case measure=>simp[intOf];omega
  ·obtain rfl:k=ln:=by omega
   have kc:decide ((k:Int)<(k:Int))=false:=by simp
   have HIO:=lH (given_out HBG.out HGV.out (by omega))
   go_upto_region 9 with(first|((with_reducible refine wp_region_later (by kernel_rfl) (by kernel_rfl) ?_);(repeat(first|go_big_quiet_step (first|fail)|simp only[kc]));refine wpQuiet_nil ?_;rintro _ ⟨x,rfl⟩)|(refine stepStore2 rfl _ (.tmp 31) (.tmp 30) rfl qb 4 (by kernel_rfl) (us:=[.int .i64 1000,.int .i64 900,.int .i64 5]) (cs2:=splice vs1 4 [.int .i64 1000,.int .i64 900,.int .i64 5]) (HH1.out.to inferInstance) rfl (by kernel_rfl) rfl (by rw[HL1.out];exact Nat.le_of_ble_eq_true rfl) rfl (w0:=X) inferInstance hqX ?_;intro z2 hx kx;(have HX2:=lH hx);(have KX2:=lH kx);clear hx kx))
   (try simp only[Act.put])
   have HRQ:=lH (Rob.orbit (HR1.out.to (Ago.trans (.grows inferInstance) (.but KX2.out))))
   obtain⟨vsq,hvsq⟩:∃ v,splice vs1 4 [.int .i64 1000,.int .i64 900,.int .i64 5]=v:=⟨_,rfl⟩
   obtain⟨m2,hm2⟩:∃ x,({ m1 with Orbit:=outO }:TMission)=x:=⟨_,rfl⟩
   rw[hm2]at HIO
   rw[hvsq,hm2]at HRQ
   rw[hvsq]at HX2
   have HLQ:=lH (len_mission HRQ.out.rd)
   clear hvsq hm2 KX2 HH1 HR1
   go_wp2_with (first|(refine stepLoad rfl _ (.tmp 3) rfl (qb) 0 (by kernel_rfl) (row:=vsq) (HX2.out.to inferInstance) _ Tryz.underlying90 rfl (by rw[HLQ.out];kernel_rfl) (by rw[List.drop_zero,List.take_length]) ?_))
   refine(c_run60 (m0:=m0) (Enc.keep HRQ.out.rd inferInstance) HBG.out HIO.out HT0.out).mono ?_
   rintro _ _ ⟨vs6,χ6,rfl,hO6,y6,rfl⟩
   have HL6:=lH (len_mission (EncO.toRd hO6));have H16:=lH (one_mission (EncO.toRd hO6));have HO6:=lH hO6;clear hO6
   go_upto_region 10 with(first|((with_reducible refine wp_region_later (by kernel_rfl) (by kernel_rfl) ?_);(repeat(first|go_big_quiet_step (first|fail)));refine wpQuiet_nil ?_;rintro _ ⟨x,rfl⟩)|(refine stepStore2 rfl _ _ _ rfl _ 0 rfl (us:=vs6) (cs2:=vs6) (Held.new _ zMission 90 _ rfl) ?a61 ?a62 ?a63 ?a64 ?a65 (w0:=z2.w) inferInstance LeN.out ?_;(case a61=>rfl);(case a62=>(rw[HL6.out];kernel_rfl));(case a63=>exact H16.out);(case a64=>(rw[HL6.out];exact Nat.le_of_ble_eq_true rfl));(case a65=>exact splice_all HL6.out);intro z6 hx kx;have HX6:=lH hx;clear hx;have KX6:=lH kx;clear kx))
   (try simp only[Act.put])
   obtain⟨qx,hqx⟩:∃ q,(z2.andThen y6).w.heap.size=q:=⟨_,rfl⟩
   rw[hqx]
   have HXX:=lH (show Held z6.w qx vs6 90 from hqx▸HX6.out)
   have hR6:=Enc.keep (EncO.toRd HO6.out) (KX6.out.under (inferInstance:Keeps z2.w.heap.size y6.w _) (Nat.le_refl _))
   have HR6:=lH hR6
   have hIx:=IsOut.steps HBG.out 60 HIO.out (by omega)
   rw[Nat.zero_add]at hIx
   obtain⟨mx,hmx⟩:∃ x,stepsOut 60 m2=x:=⟨_,rfl⟩
   rw[hmx]at hIx hR6 HR6
   have HTX:=lH (show Enc.tot mx≤1048576 from Int.le_trans (out_tot hIx HT0.out) (by decide))
   have HLE:=lH (hIx.ledger HBG.out)
   obtain⟨-,-,hid2,-,-,-,-⟩:=out_facts HBG.out HIO.out (by omega)
   have hdr:=begun_drift HBG.out
   have hl60:=bt_low hdr 60 (by omega)
   have hh60:=bt_high hdr (t:=60) (by omega) (by omega)
   obtain⟨b0,hb0⟩:∃ b,boardTime m0.Drift.Rate m0.Drift.Offset 0=b:=⟨_,rfl⟩
   obtain⟨b60,hb60⟩:∃ b,boardTime m0.Drift.Rate m0.Drift.Offset 60=b:=⟨_,rfl⟩
   rw[show(((60:Nat):Int))=60 from rfl,hb0,hb60]at hl60
   rw[hb60]at hh60
   have hl0:=(bt_low hdr 0 (by omega)).1
   rw[show(((0:Nat):Int))=0 from rfl,hb0]at hl0
   obtain⟨N,hN⟩:∃ N:Nat,b60 - b0=(N:Int):=⟨(b60 - b0).toNat,by omega⟩
   have hc2:m2.Space.Board.Clock=b0:=by obtain⟨o1,o2,o3,e,-⟩:=HIO.out;rw[e,← hb0];rfl
   have hd2:m2.Drift=m0.Drift:=by obtain⟨o1,o2,o3,e,-⟩:=HIO.out;rw[e];rfl
   have hwr:IntKind.i64.wrap (b60 - b0)=(N:Int):=by
    rw[hN]
    simp[IntKind.wrap,IntKind.bits,IntKind.signed]
    split<;>omega
   have hRQ:=HRQ.out z6.w (.grows inferInstance)
   obtain⟨AQ,hvq,FQ⟩:=hRQ
   obtain⟨bd,hbd⟩:∃ bd,(vsq.drop 37).take 12=bd:=⟨_,rfl⟩
   have HBD:=lH hbd
   have HBR:=lH (show Enc.Rd 0 z6.w bd m2.Space.Board from by rw[← hbd,hvq];exact⟨⟨AQ.a9,AQ.c9,AQ.a10,AQ.c10,AQ.a11,AQ.c11,AQ.a12,AQ.c12,AQ.a13,AQ.c13,AQ.a14,AQ.c14,AQ.a15,AQ.c15⟩,rfl,⟨FQ.q9,FQ.q10,FQ.q11,FQ.q12,FQ.q13,FQ.q14,FQ.q15,FQ.ok.2.2.2.2.2.2.2.1.2.1⟩⟩)
   have HDQ:=lH (show(vsq.drop 2).take 2=[.int .i64 m0.Drift.Rate,.int .i64 m0.Drift.Offset]by rw[hvq,← hd2];rfl)
   have HBL:=lH (len_board HBR.out)
   have hNb:N≤5000:=by omega
   have HID:=lH hid2;have HC2:=lH hc2;have HN:=lH hN
   have HBT0:=lH hb0;have HBT6:=lH hb60
   have hcN:m2.Space.Board.Clock+(N:Int)≤1000000:=by rw[hc2];omega
   have HCN:=lH hcN
   obtain⟨A6,hv6,F6⟩:=hR6
   obtain⟨o1,o2,o3,ex,-⟩:=hIx
   have hcx:mx.Space.Board.Clock=b60:=by rw[ex,← hb60];rfl
   have hux:mx.Ups.length=0:=by rw[ex];show m0.Ups.length=0;rw[HBG.out.ups];rfl
   have hdx:mx.Downs.length=0:=by rw[ex];show m0.Downs.length=0;rw[HBG.out.downs];rfl
   have htx:mx.Took.length=0:=by rw[ex];show m0.Took.length=0;rw[HBG.out.took];rfl
   have hsx:mx.Space.Sent.length=0:=by rw[ex];show m0.Space.Sent.length=0;rw[HBG.out.sent];rfl
   have hbx:mx.Bad=0:=by rw[ex];exact HBG.out.bad
   have g14:=HXX.out.cellG 14 (.slice A6.a1 0 A6.c1) (by rw[hv6,← hux];rfl)
   have g15:=HXX.out.cellG 15 (.slice A6.a2 0 A6.c2) (by rw[hv6,← hdx];rfl)
   have g59:=HXX.out.cellG 59 (.slice A6.a21 0 A6.c21) (by rw[hv6,← htx];rfl)
   have g57:=HXX.out.cellG 57 (.slice A6.a19 0 A6.c19) (by rw[hv6,← hsx];rfl)
   have g60:=HXX.out.cellG 60 (.int .i64 0) (by rw[hv6,← hbx];rfl)
   have g37:=HXX.out.cellG 37 (.int .i64 b60) (by rw[hv6,← hcx];rfl)
   clear hqx HX6 KX6 hmx hid2 hdr hl60 hh60 hl0 hb0 hb60 hN hc2 hd2 hbd hvq FQ hv6 F6 ex hcx hux hdx htx hsx hbx hcN HO6
   refine wp_region_stabZ (by kernel_rfl) (T:=[12]) (Zs:=[]) (H:=[(2,[]),(4,[]),(5,[]),(7,[]),(8,[]),(10,[]),(11,[])]) (C:=[10,11]) (Fs:=[(some 34,.v (.pointer (some ⟨qb,33,none⟩))),(some 35,.v (.pointer (some ⟨qb,37,none⟩))),(some 36,.v (.agg bd.toArray)),(some 37,.v (.pointer (some ⟨qb,2,none⟩))),(some 38,.v (.agg #[.int .i64 m0.Drift.Rate,.int .i64 m0.Drift.Offset])),(some 39,.v (.int .i64 b60)),(some 40,.v (.pointer (some ⟨qb,2,none⟩))),(some 41,.v (.agg #[.int .i64 m0.Drift.Rate,.int .i64 m0.Drift.Offset])),(some 42,.v (.int .i64 b0)),(some 43,.v (.int .i64 (IntKind.i64.wrap (b60 - b0)))),(some 44,entO z6.w.heap.size ({ m2.Space.Board with Clock:=m2.Space.Board.Clock+N }:TBoard)),(some 7,.box z6.w.heap.size zBoard 84),(none,.v undef)]) (by kernel_rfl) (fun val W=>by kernel_rfl) ?ob10 ?lz10 ?pn10 ?tl10
   case ob10 =>
    refine⟨fun x=>?_,fun x=>?_,fun x=>?_,fun x=>?_,fun x=>?_,fun x=>?_,fun x=>?_,trivial⟩
    ·exact g_row (o:=37) (cs:=vsq) (row:=bd) (HX2.out.to (inferInstance:Grows z2.w x.w)) rfl (by kernel_rfl) _ Tryz.underlying84 rfl (by rw[HBL.out];kernel_rfl) (by rw[HBL.out];exact HBD.out)
    ·exact g_row (o:=2) (cs:=vsq) (row:=[.int .i64 m0.Drift.Rate,.int .i64 m0.Drift.Offset]) (HX2.out.to (inferInstance:Grows z2.w x.w)) rfl (by kernel_rfl) _ Tryz.underlying62 rfl (by kernel_rfl) HDQ.out
    ·refine g_call (f:=20) (args:=[.agg #[.int .i64 m0.Drift.Rate,.int .i64 m0.Drift.Offset],.int .i64 60]) Tryz.func20 (by kernel_rfl) (by kernel_rfl) ((c_sBoardTime).mono ?_)
     rintro _ _ ⟨rfl,y2,rfl⟩
     rw[HBT6.out]
     exact⟨_,rfl,⟨y2,rfl⟩,rfl⟩
    ·exact g_row (o:=2) (cs:=vsq) (row:=[.int .i64 m0.Drift.Rate,.int .i64 m0.Drift.Offset]) (HX2.out.to (inferInstance:Grows z2.w x.w)) rfl (by kernel_rfl) _ Tryz.underlying62 rfl (by kernel_rfl) HDQ.out
    ·refine g_call (f:=20) (args:=[.agg #[.int .i64 m0.Drift.Rate,.int .i64 m0.Drift.Offset],.int .i64 0]) Tryz.func20 (by kernel_rfl) (by kernel_rfl) ((c_sBoardTime).mono ?_)
     rintro _ _ ⟨rfl,y2,rfl⟩
     rw[HBT0.out]
     exact⟨_,rfl,⟨y2,rfl⟩,rfl⟩
    ·refine g_call (f:=19) (args:=[.agg bd.toArray,.int .i64 (IntKind.i64.wrap (b60 - b0))]) Tryz.func19 (by kernel_rfl) (by kernel_rfl) ?_
     rw[hwr]
     refine(c_runB (N:=N) (Enc.keep HBR.out (gKeeps (inferInstance:Grows z6.w x.w))) HID.out hNb HCN.out).mono ?_
     rintro _ _ ⟨vs2,χ2,rfl,hO2,y2,rfl⟩
     exact⟨_,rfl,⟨y2,rfl⟩,vs2,χ2,rfl,OBox.map hO2 (.mono x.size_le)⟩
    ·exact g_box rfl (by kernel_rfl) LeN.out
   case lz10 =>
    exact trivial
   case pn10=>exact fun _ _ _ _ _ _ h=>h
   case tl10 =>
    intro x
    refine chain1 fun v10 q10=>chain1 fun v11 q11=>?_
    obtain⟨vsY,χY,rfl,hOY⟩:=(show isO z6.w.heap.size ({ m2.Space.Board with Clock:=m2.Space.Board.Clock+N }:TBoard) v10 x.w from q10)
    obtain⟨bz,rfl,hbz,hBz⟩:=(show ∃ b,v11=.pointer (some ⟨b,0,none⟩)∧z6.w.heap.size≤b∧Held x.w b zBoard 84 from q11)
    clear q10 q11
    refine tail1 rfl ?_
    simp only[put_nrm,put_nrm2]
    simp only[Act.put,List.setIfInBounds_toArray,List.set_cons_succ,List.set_cons_zero,if_true]
    have HLY:=lH (len_board (EncO.toRd hOY));have H1Y:=lH (one_board (EncO.toRd hOY))
    have HYC:=lH (show vsY[0]?=some (.int .i64 b60)from by obtain⟨A,h,-⟩:=EncO.toRd hOY;rw[h];exact congrArg (fun k=>some (Value.int .i64 k)) (show m2.Space.Board.Clock+(N:Int)=b60 by rw[HC2.out];have:=HN.out;omega))
    clear hOY
    go_upto_region 11 with(first|((with_reducible refine wp_region_later (by kernel_rfl) (by kernel_rfl) ?_);(repeat(first|go_big_quiet_step (first|fail)));refine wpQuiet_nil ?_;rintro _ ⟨x,rfl⟩)|(refine stepStore2 rfl _ (.tmp 7) (.tmp 44) rfl (bz) 0 rfl (us:=vsY) (cs2:=vsY) (hBz) ?a91 ?a92 ?a93 ?a94 ?a95 (w0:=z6.w) inferInstance hbz ?_;(case a91=>rfl);(case a92=>(rw[HLY.out];kernel_rfl));(case a93=>exact H1Y.out);(case a94=>(rw[HLY.out];exact Nat.le_of_ble_eq_true rfl));(case a95=>exact splice_all HLY.out);intro z9 hx kx;have HX9:=lH hx;clear hx;have KX9:=lH kx;clear kx))
    (try simp only[Act.put])
    have f0:=HX9.out.cellG 0 (.int .i64 b60) HYC.out
    go_wp2_with (first|(refine stepLoadW (by first|kernel_rfl|go_simp) _ (.tmp 6) rfl (qx) 0 (by kernel_rfl) (row:=vs6) (HXX.out.to inferInstance) _ Tryz.underlying90 rfl (by rw[HL6.out];kernel_rfl) (by rw[List.drop_zero,List.take_length]) ?_))
    refine(c_iCommandsOnce (m:=mx) (Enc.keep HR6.out (gKeeps inferInstance)) HTX.out).mono ?_
    rintro _ _ ⟨rfl,y11,rfl⟩
    rw[HLE.out.1]
    go_wp2_with (first|(refine stepLoadW (by first|kernel_rfl|go_simp) _ (.tmp 6) rfl (qx) 0 (by kernel_rfl) (row:=vs6) (HXX.out.to inferInstance) _ Tryz.underlying90 rfl (by rw[HL6.out];kernel_rfl) (by rw[List.drop_zero,List.take_length]) ?_))
    refine(c_iRecordsOnce (m:=mx) (Enc.keep HR6.out (gKeeps inferInstance)) HTX.out).mono ?_
    rintro _ _ ⟨rfl,y12,rfl⟩
    rw[HLE.out.2.1]
    go_wp2_with (first|(refine stepLoadW (by first|kernel_rfl|go_simp) _ (.tmp 6) rfl (qx) 0 (by kernel_rfl) (row:=vs6) (HXX.out.to inferInstance) _ Tryz.underlying90 rfl (by rw[HL6.out];kernel_rfl) (by rw[List.drop_zero,List.take_length]) ?_))
    refine(c_iOrdersOnce (m:=mx) (Enc.keep HR6.out (gKeeps inferInstance)) HTX.out).mono ?_
    rintro _ _ ⟨rfl,y13,rfl⟩
    rw[HLE.out.2.2.1]
    go_wp2_with (first|(refine stepLoadW (by first|kernel_rfl|go_simp) _ (.tmp 6) rfl (qx) 0 (by kernel_rfl) (row:=vs6) (HXX.out.to inferInstance) _ Tryz.underlying90 rfl (by rw[HL6.out];kernel_rfl) (by rw[List.drop_zero,List.take_length]) ?_))
    refine(c_iFilesTrue (m:=mx) (Enc.keep HR6.out (gKeeps inferInstance)) HTX.out).mono ?_
    rintro _ _ ⟨rfl,y14,rfl⟩
    rw[HLE.out.2.2.2]
    go_wp2_with fail
    go_ret
    exact Gives.mk rfl
set_option maxRecDepth 100000 in
theorem FnOutOfSight_lifted(os:Os)(started:os.Started)(H:Type)(enc:TypeId × Value→H) :
  ReturnsInHanded {} Tryz.checked os 5 .any (Rows.fnOutOfSightSpec.pre6 enc Tryz.prog Tryz.f5 Rows.fnOutOfSightRow.domain false) (Rows.fnOutOfSightSpec.post enc Tryz.prog Tryz.f5 false true false false):=by
 refine returnsInHanded_of_change (C:=Tryz.checked) own started (by kernel_rfl) Tryz.func5
  (ChangeSpec.witness6 (enc:=enc) (C:=Tryz.checked) false ⟨#[],#[.slice none 0 0],[]⟩ 8 (by kernel_rfl) (by kernel_rfl) (by kernel_rfl) (by kernel_rfl)) ?_
 intro W base args ds gs before hval0 hW hcnd _
 have hval:∀ (j:Nat) t v,Tryz.f5.params[j]?=some t→args[j]?=some v→Value.okWide Tryz.prog W .any base t v:=hval0
 have hW':=hW
 obtain⟨p,q,hA0,hV,rfl,hfz,hnd⟩:=hW
 have hA:DataW.TrodAll enc Tryz.prog W 0 (fun _=>true) true Tryz.f5.params.toList args.toList ds p:=hA0
 rw[Tryz.params5]at hA hval
 obtain⟨rfl,rfl⟩:=trodVars_none hV
 obtain⟨v0,vs0,d0,ds0,p0,q0,hargs,rfl,rfl,h0,r0⟩:=trodAll_cons hA
 obtain⟨rfl,rfl,rfl⟩:=trodAll_nil r0
 obtain rfl:args=#[v0]:=by cases args;simp_all
 obtain⟨xa0,xn0,xc0,rfl⟩:=okWide_slice Tryz.underlying96 (hval 0 96 v0 rfl rfl)
 obtain⟨f0,t0⟩:=h0
 obtain⟨-,rd0⟩:=codes_sound 4 _ _ _ _ _ (show codes Tryz.prog 4 96=some [.sl [.byte]]by kernel_rfl) t0
 obtain⟨u0,g0,rc0⟩:=rd0.at (j:=0) rfl
 obtain rfl:Value.slice xa0 xn0 xc0=u0:=by simpa[Value.cells]using g0
 obtain⟨a0,n0,k0,l0,e0,hn0,hc0,hm0,ok0,sl0⟩:=open_sl (fun cs=>flatByte) rc0
 cases e0
 have hz0:xn0≤9223372036854775807:=by unfold maxLen at hm0;omega
 clear hA0 hval0
 refine(Gives.below (c_lFnOutOfSight sl0 hn0 hz0 ok0)).mono fun e W' ⟨he,hb⟩=>?_
 subst he
 exact⟨_,rfl,law_post laidOut (by kernel_rfl) rfl rfl rfl Tryz.underlying4 hW' hb⟩
end Go.Proofs.YtdinhfeflobafaaGreat
