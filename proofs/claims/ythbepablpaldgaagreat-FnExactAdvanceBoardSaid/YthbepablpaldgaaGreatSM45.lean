/- PerformOrder of the program. No condition but on sizes. -/
import Derived.Test.YthbepablpaldgaaGreatSPrmI
import Derived.Test.YthbepablpaldgaaGreatSM20
import Derived.Test.YthbepablpaldgaaGreatSM28
import Derived.Test.YthbepablpaldgaaGreatSM38
import Derived.Deep.CutRange
import Derived.Deep.CutBlock
import Derived.Test.YthbepablpaldgaaGreatSM43
import Derived.Test.YthbepablpaldgaaGreatSOkBs
import Derived.Test.YthbepablpaldgaaGreatSCopyS
namespace Go.Proofs.YthbepablpaldgaaGreat
set_option maxRecDepth 100000
set_option maxHeartbeats 4000000
set_option linter.unusedVariables false
open Go.ChangeShapes Go.WideShapes Go.ChangeAt Go.RowKit
private abbrev uu3:=Tryz.underlying3
private abbrev uu79:=Tryz.underlying79
private abbrev uu84:=Tryz.underlying84
theorem len_board{B:Nat}{w:World}{vs:List Value}{r:TBoard}(h:Enc.Rd B w vs r):vs.length=12:=Enc.len h
theorem one_board{B:Nat}{w:World}{vs:List Value}{r:TBoard}(h:Enc.Rd B w vs r):vs.all (·.oneCell')=true:=by
 obtain⟨A,rfl,-⟩:=h;rfl
theorem board_lens(b:TBoard):(b.Params.length:Int)≤Enc.tot b∧(b.Limits.length:Int)≤Enc.tot b∧(b.Orders.length:Int)≤Enc.tot b∧(b.Done.length:Int)≤Enc.tot b∧(b.Recorder.Records.length:Int)≤Enc.tot b∧(b.Recorder.Dropped.length:Int)≤Enc.tot b∧(b.Asked.length:Int)≤Enc.tot b:=by
 have hbt:=board_tot b
 have hrt:=totL_len b.Recorder.Records
 omega
theorem c_iBoardOkE{B:Nat}{vs:List Value}{b:TBoard}{w:World}(h:Enc.Rd B w vs b)(ht:Enc.tot b≤100000000):Calls Tryz.prog 128 #[.agg vs.toArray] w (Gives w (.bool (boardOk b))):=by
 obtain⟨A,rfl,F⟩:=h
 obtain⟨h0,h1,h2,h3,h4,h5,h6⟩:=board_lens b
 exact k_iBoardOk (bd:=b) F.q0 F.q1 F.q2 F.q3 F.q4 F.q5 F.q6 (g:=.same _ _) F.ok rfl rfl rfl rfl rfl rfl rfl (by omega) (by omega) (by omega) (by omega) (by omega) (by omega) (by omega)
theorem board_parts{b:TBoard}(h:boardOk b=true):b.Params.length=8∧allB 0 65535 b.Params=true∧b.Limits.length≤8∧(0≤b.Made∧b.Made≤65535)∧(0≤b.Taken∧b.Taken≤65535)∧(0≤b.Clock∧b.Clock≤1000000)∧recorderOk b.Recorder=true∧b.Orders.length≤40∧b.Done.length≤5000∧b.Asked.length≤5000:=by
 have h':=h
 simp only[boardOk,Bool.and_eq_true,decide_eq_true_eq,beq_iff_eq]at h
 obtain⟨g0,g1,g2,g3,g4,g5,g6,g7,g8,g9,g10,g11,g12,g13⟩:=h
 have e1:=inB_iff.1 g0
 rw[ordersOk,Bool.and_eq_true,decide_eq_true_eq]at g7
 refine⟨by omega,g2,by omega,inB_iff.1 g5,inB_iff.1 g6,e1,g10,by omega,by omega,by omega⟩
theorem order_parts{x:TOrder}(h:orderOk x=true):0≤x.Kind∧x.Kind≤4∧0≤x.A∧x.A≤255∧0≤x.B∧x.B≤65535∧(x.Kind=0∨x.Kind=3→x.A≤7)∧(x.Kind=1→x.A≤3):=by
 simp only[orderOk,Bool.and_eq_true]at h
 obtain⟨h1,-,h3⟩:=h
 have hk:=inB_iff.1 h1
 have key:∀ {lo hi:Int},(inB x.A lo hi && (x.B == 0))=true→lo≤x.A∧x.A≤hi∧x.B=0:=fun h=>by
  rw[Bool.and_eq_true,beq_iff_eq]at h
  have:=inB_iff.1 h.1
  exact⟨this.1,this.2,h.2⟩
 split at h3
 ·rw[Bool.and_eq_true]at h3;have h4:=inB_iff.1 h3.1;have h5:=inB_iff.1 h3.2;omega
 ·split at h3
  ·have:=key h3;omega
  ·split at h3
   ·have:=key h3;omega
   ·split at h3
    ·have:=key h3;omega
    ·have:=key h3;omega
theorem firstAt_le(q:Int):∀ (k:Nat) (l:List TWaiting),-1≤firstAt q k l∧firstAt q k l<k+l.length
 | k,[]=>by simp only[firstAt,List.length_nil];omega
 | k,s::r=>by
  have h:=firstAt_le q (k+1) r
  simp only[firstAt,List.length_cons]
  split<;>omega
theorem keepRecord_tot(r:TRecorder)(x:TRecord):Enc.tot (keepRecord r x)≤Enc.tot r∨Enc.tot (keepRecord r x)≤70000:=by
 unfold keepRecord
 split
 ·split
  ·rename_i h;exact .inr (recorderOk_tot h)
  ·exact .inl (Int.le_refl _)
 ·exact .inl (Int.le_refl _)
theorem doOrder_more(b:TBoard)(x:TOrder):(doOrder b x).1.Done.length≤b.Done.length+1∧Enc.tot (doOrder b x).1≤Enc.tot b+70003∧((doOrder b x).2=0∨(doOrder b x).2=1):=by
 have hr:=keepRecord_tot b.Recorder ⟨b.Made,x.A,b.Clock,paramText b.Params⟩
 rw[recorder_tot,recorder_tot]at hr
 have hn:=totL_nonneg b.Recorder.Records
 have he:=List.length_eraseIdx_le b.Orders (firstAt x.A 0 b.Orders).toNat
 have key:∀ (c:TBoard) (k:Int),c.Done.length≤b.Done.length+1→Enc.tot c≤Enc.tot b+70003→(k=0∨k=1)→(c,k).1.Done.length≤b.Done.length+1∧Enc.tot (c,k).1≤Enc.tot b+70003∧((c,k).2=0∨(c,k).2=1):=fun c k h1 h2 h3=>⟨h1,h2,h3⟩
 unfold doOrder
 split
 ·exact key _ _ (Nat.le_succ _) (by rw[board_tot,board_tot];simp only[setParam,List.length_set];omega) (.inr rfl)
 split
 ·split
  ·exact key _ _ (Nat.le_succ _) (by omega) (.inl rfl)
  ·exact key _ _ (Nat.le_succ _) (by rw[board_tot,board_tot];simp only[makeRec];omega) (.inr rfl)
 split
 ·exact key _ _ (Nat.le_succ _) (by rw[board_tot,board_tot];simp only;omega) (.inr rfl)
 split
 ·split
  ·exact key _ _ (Nat.le_succ _) (by omega) (.inl rfl)
  ·exact key _ _ (Nat.le_succ _) (by rw[board_tot,board_tot];simp only[List.length_append,List.length_singleton];omega) (.inr rfl)
 split
 ·exact key _ _ (Nat.le_succ _) (by omega) (.inl rfl)
 ·exact key _ _ (by simp) (by rw[board_tot,board_tot];simp only[List.length_append,List.length_singleton];omega) (.inr rfl)
theorem order_cases(b:TBoard)(x:TOrder)(h:0≤x.Kind∧x.Kind≤4) :
  ((x.Kind == 0)=true∧doOrder b x=(setParam b x.A x.B,1))∨((x.Kind == 0)=false∧(x.Kind == 1)=true∧b.Safe=true∧doOrder b x=(b,0))∨((x.Kind == 0)=false∧(x.Kind == 1)=true∧b.Safe=false∧doOrder b x=(makeRec b x.A,1)) ∨
  ((x.Kind == 0)=false∧(x.Kind == 1)=false∧(x.Kind == 2)=true∧doOrder b x=({ b with Safe:=(x.A == 1) },1))∨((x.Kind == 0)=false∧(x.Kind == 1)=false∧(x.Kind == 2)=false∧(x.Kind == 3)=true∧b.Safe=true∧doOrder b x=(b,0)) ∨
  ((x.Kind == 0)=false∧(x.Kind == 1)=false∧(x.Kind == 2)=false∧(x.Kind == 3)=true∧b.Safe=false∧doOrder b x=({ b with Asked:=b.Asked++[x.A] },1)) ∨
  ((x.Kind == 0)=false∧(x.Kind == 1)=false∧(x.Kind == 2)=false∧(x.Kind == 3)=false∧(x.Kind == 4)=true∧doOrder b x=if firstAt x.A 0 b.Orders<0 then(b,0)else({ b with Orders:=b.Orders.eraseIdx (firstAt x.A 0 b.Orders).toNat,Done:=b.Done++[⟨x.A,b.Clock,0⟩] },1)):=by
 obtain⟨K,At,A,B⟩:=x
 simp only at h
 have hk:K=0∨K=1∨K=2∨K=3∨K=4:=by omega
 unfold doOrder
 rcases hk with rfl|rfl|rfl|rfl|rfl<;>cases hs:b.Safe<;>simp
theorem o_iPerformOrder{B:Nat}{vs:List Value}{b:TBoard}{q:TWaiting}{w:World}(h:Enc.Rd B w vs b)(hx:okDTWaiting q)(ht:Enc.tot b≤50000000) :
  Calls Tryz.prog 130 #[.agg vs.toArray,.agg #[.int .i64 q.Number,.int .i64 q.Order.Kind,.int .i64 q.Order.At,.int .i64 q.Order.A,.int .i64 q.Order.B]] w (GivesO w (performOrder b q)):=by
 have HL:=lH (len_board h);have H1:=lH (one_board h)
 have HM:=lH h
 have HT:=lH (show Enc.tot b≤100000000 by omega);have HT5:=lH ht;clear ht
 obtain⟨A,hvs,F⟩:=h
 have HV4:=lH (show vs[4]?=some (.slice A.a2 b.Orders.length A.c2)by rw[hvs];rfl)
 have HV10:=lH (show vs[10]?=some (.int .i64 b.Taken)by rw[hvs];rfl)
 have HQ2:=lH F.q2
 have HX:=lH hx
 clear hvs F hx
 have HB:=lH ((Held.new w vs 84 w.heap.size rfl).to (ii:Grows _ (((w.alloc (.cells vs.toArray 84)).alloc (.cells #[.int .i64 q.Number,.int .i64 q.Order.Kind,.int .i64 q.Order.At,.int .i64 q.Order.A,.int .i64 q.Order.B] 169)).alloc (.cells zBoard.toArray 84))))
 have HW:=lH ((Held.new (w.alloc (.cells vs.toArray 84)) [.int .i64 q.Number,.int .i64 q.Order.Kind,.int .i64 q.Order.At,.int .i64 q.Order.A,.int .i64 q.Order.B] 169 (w.heap.size+1) (by simp)).to (ii:Grows _ (((w.alloc (.cells vs.toArray 84)).alloc (.cells #[.int .i64 q.Number,.int .i64 q.Order.Kind,.int .i64 q.Order.At,.int .i64 q.Order.A,.int .i64 q.Order.B] 169)).alloc (.cells zBoard.toArray 84))))
 have HR:=lH (Held.new ((w.alloc (.cells vs.toArray 84)).alloc (.cells #[.int .i64 q.Number,.int .i64 q.Order.Kind,.int .i64 q.Order.At,.int .i64 q.Order.A,.int .i64 q.Order.B] 169)) zBoard 84 (w.heap.size+2) (by simp))
 have gW:Grows w (((w.alloc (.cells vs.toArray 84)).alloc (.cells #[.int .i64 q.Number,.int .i64 q.Order.Kind,.int .i64 q.Order.At,.int .i64 q.Order.A,.int .i64 q.Order.B] 169)).alloc (.cells zBoard.toArray 84)):=inferInstance
 have hsz:((((w.alloc (.cells vs.toArray 84)).alloc (.cells #[.int .i64 q.Number,.int .i64 q.Order.Kind,.int .i64 q.Order.At,.int .i64 q.Order.A,.int .i64 q.Order.B] 169)).alloc (.cells zBoard.toArray 84))).heap.size=w.heap.size+3:=by simp
 go_enter Tryz.func130,Tryz.ntmps130
 go_upto_region 1 with(fail)
 generalize (((w.alloc (.cells vs.toArray 84)).alloc (.cells #[.int .i64 q.Number,.int .i64 q.Order.Kind,.int .i64 q.Order.At,.int .i64 q.Order.A,.int .i64 q.Order.B] 169)).alloc (.cells zBoard.toArray 84))=W2 at HB HW HR gW hsz ⊢
 have iB:LtN w.heap.size W2.heap.size:=⟨by omega⟩
 have iW:LtN (w.heap.size+1) W2.heap.size:=⟨by omega⟩
 have iR:LtN (w.heap.size+2) W2.heap.size:=⟨by omega⟩
 have hW2:w.heap.size≤W2.heap.size:=by omega
 have e4:=HB.out.cellG 4 _ HV4.out
 have e10:=HB.out.cellG 10 _ HV10.out
 have f0:=HW.out.cellG 0 _ rfl
 go_cut [34]from 9 (fun s wx=>s=.bool (!performNow b q)∧∃ y:Later W2,wx=y.w)
 case first =>
  go_wp2_with (first|(refine sL rfl _ (.tmp 2) rfl (w.heap.size) rfl HB ii uu84 HL ?_))
  refine gm (c_iBoardOkE (Enc.keep HM.out ii) HT.out) ?_
  intro y0
  cases c0:boardOk b
  ·have HK:=lH (show performNow b q=false by rw[performNow,c0];rfl)
   go_wp2_with (fail)
   go_meet
   case rel=>exact⟨by rw[HK.out];rfl,Later.of⟩
  have HBP:=lH (board_parts c0)
  go_wp2_with (first|(refine stepLoadW kg _ (.tmp 13) rfl (w.heap.size+1) 1 kr (row:=[.int .i64 q.Order.Kind,.int .i64 q.Order.At,.int .i64 q.Order.A,.int .i64 q.Order.B]) (HW.out.to ii) _ Tryz.underlying167 rfl kr rfl ?_))
  refine gm (k_iOrderOk (x:=q.Order)) ?_
  intro y1
  cases c1:orderOk q.Order
  ·have HK:=lH (show performNow b q=false by rw[performNow,c0,c1];rfl)
   go_wp2_with (fail)
   go_meet
   case rel=>exact⟨by rw[HK.out];rfl,Later.of⟩
  obtain⟨ht0,ht1⟩:=HBP.out.2.2.2.2.1
  have hol:=HBP.out.2.2.2.2.2.2.2.1
  go_wp2_with (fail)
  refine gm (c_ibetween) ?_
  intro y2
  cases c2:inB q.Number 0 (b.Taken - 1)
  ·have HK:=lH (show performNow b q=false by rw[performNow,c0,c1,c2];rfl)
   go_wp2_with (fail)
   go_meet
   case rel=>exact⟨by rw[HK.out];rfl,Later.of⟩
  go_wp2_with (fail)
  refine gm (k_iindexOfOrder (q:=q.Number) (l:=b.Orders) (w0:=w) HQ2.out rfl (by omega)) ?_
  intro y3
  have HFA:=firstAt_le q.Number 0 b.Orders
  cases c3:decide (firstAt q.Number 0 b.Orders<0)
  ·have HK:=lH (show performNow b q=false by rw[performNow,c0,c1,c2,c3];rfl)
   have c4:decide (0≤firstAt q.Number 0 b.Orders)=true:=by have:=of_decide_eq_false c3;exact decide_eq_true (by omega)
   go_wp2_with (fail)
   go_meet
   case rel=>exact⟨by rw[HK.out];rfl,Later.of⟩
  ·have HK:=lH (show performNow b q=true by rw[performNow,c0,c1,c2,c3];rfl)
   have c4:decide (0≤firstAt q.Number 0 b.Orders)=false:=by have:=of_decide_eq_true c3;exact decide_eq_false (by omega)
   go_wp2_with (fail)
   go_meet
   case rel=>exact⟨by rw[HK.out];rfl,Later.of⟩
 case rest =>
  obtain⟨rfl,y0,rfl⟩:=hcut
  cases hk:performNow b q
  ·have HK:=lH (show performOrder b q=b by rw[performOrder,hk];rfl)
   clear hk
   go_wp2_with (first|(refine sL rfl _ (.tmp 2) rfl (w.heap.size) rfl HB ii uu84 HL ?_))
   refine(o_cloneBoard (x:=b) (Enc.keep HM.out ii) HT.out).mono ?_
   rintro _ _ ⟨cs,χ,rfl,hO,y1,rfl⟩
   have HLC:=lH (len_board (EncO.toRd hO));have HOC:=lH (one_board (EncO.toRd hO));have HO:=lH hO;clear hO
   go_wp2_with (first|(refine sW rfl _ _ _ rfl (w.heap.size+2) rfl (us:=cs) (HR.out.to ii) HLC HOC (w0:=w) ii (by omega) ?_;intro z9 HX9 KX9))
   refine bodyPost_ret (v:=.agg cs.toArray) (results_cell (P:=Tryz.prog) rfl rfl HX9.out _ uu84 rfl (by rw[HLC.out];kernel_rfl)) rfl ?_
   rw[HK.out]
   exact⟨cs,χ,rfl,obox_fin HO.out KX9.out (LtN.out) (LeN.out),Later.of⟩
  have HK:=lH hk
  rw[performNow,Bool.and_eq_true,Bool.and_eq_true]at hk
  have HBP:=lH (board_parts hk.1);have HOP:=lH (order_parts hk.2.1)
  have HBO:=lH hk.1
  clear hk e4 e10
  go_wp2_with (first|(refine sL rfl _ (.tmp 2) rfl (w.heap.size) rfl HB ii uu84 HL ?_))
  refine(o_cloneBoard (x:=b) (Enc.keep HM.out ii) HT.out).mono ?_
  rintro _ _ ⟨cs,χ,rfl,hO,y1,rfl⟩
  have HLC:=lH (len_board (EncO.toRd hO));have HOC:=lH (one_board (EncO.toRd hO));have HO:=lH hO;clear hO
  go_upto_region 4 with(first|(refine sW rfl _ _ _ rfl _ rfl (us:=cs) (Held.new _ zBoard 84 _ rfl) HLC HOC (w0:=W2) ii LeN.out ?_;intro z1 HX1 KX1))
  (try simp only[Act.put])
  obtain⟨qb,hqb⟩:∃ qb,(y0.andThen y1).w.heap.size=qb:=⟨_,rfl⟩
  rw[hqb]
  have HG:=lH (show GB (fun _=>False) W2.heap.size qb z1.w b from hqb▸(GB.of HO.out (KX1.out.under ii nl) y1.size_le HX1.out).mono y0.size_le)
  have hqB:W2.heap.size≤qb:=HG.out.le
  have hqlt:LtN qb z1.w.heap.size:=⟨HG.out.lt⟩
  clear hqb HX1 KX1 HO HLC HOC
  go_upto_region 6 with(first|(refine stepLoad rfl _ (.tmp 39) rfl (w.heap.size+1) 1 rfl (row:=[.int .i64 q.Order.Kind,.int .i64 q.Order.At,.int .i64 q.Order.A,.int .i64 q.Order.B]) (HW.out.to ii) _ Tryz.underlying167 rfl kr rfl ?_))
  (try simp only[Act.put])
  have HX5:=lH (Held.new z1.w [.int .i64 q.Order.Kind,.int .i64 q.Order.At,.int .i64 q.Order.A,.int .i64 q.Order.B] 167 z1.w.heap.size rfl)
  obtain⟨z5,hz5⟩:∃ z5:Later z1.w,(z1.w.alloc (.cells #[.int .i64 q.Order.Kind,.int .i64 q.Order.At,.int .i64 q.Order.A,.int .i64 q.Order.B] 167))=z5.w:=Later.of
  rw[show([.int .i64 q.Order.Kind,.int .i64 q.Order.At,.int .i64 q.Order.A,.int .i64 q.Order.B]:List Value).toArray=#[.int .i64 q.Order.Kind,.int .i64 q.Order.At,.int .i64 q.Order.A,.int .i64 q.Order.B]from rfl,hz5]at HX5
  rw[hz5];clear hz5
  obtain⟨qo,hqo⟩:∃ qo,z1.w.heap.size=qo:=⟨_,rfl⟩
  rw[hqo]at HX5 ⊢
  have HP:=lH (GB.prot (P:=(·=qo)) HG.out (ii:Grows z1.w z5.w) (fun k hk=>by subst hk;exact⟨Nat.le_of_eq hqo,HX5.out.lt⟩))
  obtain⟨X,hX⟩:∃ X:Nat→Prop,(fun k=>False∨k=qo)=X:=⟨_,rfl⟩
  rw[hX]at HP
  have HXq:=lH (show X qo by rw[← hX];exact .inr rfl)
  clear hqo hX HG
  have hqlt5:LtN qb z5.w.heap.size:=⟨HP.out.lt⟩
  have hqo5:LtN qo z5.w.heap.size:=⟨HX5.out.lt⟩
  have gW5:Grows W2 z5.w:=growsTr (ii:Grows W2 z1.w) ii
  have g0:=HX5.out.cellG 0 _ rfl
  have g2:=HX5.out.cellG 2 _ rfl
  have g3:=HX5.out.cellG 3 _ rfl
  go_upto_block 0 with(fail)
  go_cut [6]from 7 (fun s wx=>s=.int .i64 (doOrder b q.Order).2∧GB X W2.heap.size qb wx (doOrder b q.Order).1∧∃ y:Later W2,wx=y.w)
  case first =>
   have es:∀ (W:World) [Grows z5.w W],W.cell? ⟨qb,2,none⟩=some (.bool b.Safe):=by
    obtain⟨vs6,hH6,-,-,⟨A6,rfl,-⟩,-⟩:=HP.out.vs
    exact hH6.cellG 2 _ rfl
   have ec:∀ (W:World) [Grows z5.w W],W.cell? ⟨qb,0,none⟩=some (.int .i64 b.Clock):=by
    obtain⟨vs6,hH6,-,-,⟨A6,rfl,-⟩,-⟩:=HP.out.vs
    exact hH6.cellG 0 _ rfl
   rcases order_cases b q.Order ⟨HOP.out.1,HOP.out.2.1⟩with⟨k0,hd⟩|⟨k0,k1,hs,hd⟩|⟨k0,k1,hs,hd⟩|⟨k0,k1,k2,hd⟩|⟨k0,k1,k2,k3,hs,hd⟩|⟨k0,k1,k2,k3,hs,hd⟩|⟨k0,k1,k2,k3,k4,hd⟩
   ·have HD:=lH hd;clear hd es ec
    have HS:=lH (show ∀ (W:World),Grows z5.w W→Grows W2 W→Calls Tryz.prog 225 #[.pointer (some ⟨qb,0,none⟩),.int .i64 q.Order.A,.int .i64 q.Order.B] W (fun e w'=>(∃ u,e=.returned u)∧GB X W2.heap.size qb w' (setParam b q.Order.A q.Order.B)∧∃ z:Later W2,w'=z.w)from fun W g gg=>by
     have hk0:q.Order.Kind=0:=by simpa using k0
     have hp:=HOP.out
     have hA:((q.Order.A.toNat:Nat):Int)=q.Order.A:=by omega
     have h1:=c_isetParam (j:=q.Order.A.toNat) (v:=q.Order.B) (w0:=W2) (HP.out.to g) (by have:=hp.2.2.2.2.2.2.1 (.inl hk0);omega) HBP.out.1 (by unfold i64;omega) HBP.out.2.2.1 gg nl
     rw[hA]at h1;exact h1)
    go_wp2_with (fail)
    refine(HS.out _ ii ii).mono ?_
    rintro _ _ ⟨⟨u,rfl⟩,hz6,z6,rfl⟩
    have HZ6:=lH hz6;clear hz6
    go_wp2_with (fail)
    go_meet
    case rel=>exact⟨by rw[HD.out],by rw[HD.out];exact HZ6.out.to ii,Later.of⟩
   ·have HD:=lH hd;clear hd ec
    simp only[hs]at es;clear hs
    go_wp2_with (fail)
    go_meet
    case rel=>exact⟨by rw[HD.out],by rw[HD.out];exact HP.out.to ii,Later.of⟩
   ·have HD:=lH hd;clear hd ec
    simp only[hs]at es;clear hs
    have HS:=lH (show ∀ (W:World),Grows z5.w W→Grows W2 W→Calls Tryz.prog 226 #[.pointer (some ⟨qb,0,none⟩),.int .i64 q.Order.A] W (fun e w'=>(∃ u,e=.returned u)∧GB X W2.heap.size qb w' (makeRec b q.Order.A)∧∃ z:Later W2,w'=z.w)from fun W g gg=>
     c_imakeRecord (w0:=W2) (HP.out.to g) HBP.out.1 HBP.out.2.1 HBP.out.2.2.2.1 HX.out.2.1.2.2.1 (by have:=HBP.out.2.2.2.2.2.1;unfold i64;omega) (by have:=recorderOk_tot HBP.out.2.2.2.2.2.2.1;omega) gg nl)
    go_wp2_with (fail)
    refine(HS.out _ ii ii).mono ?_
    rintro _ _ ⟨⟨u,rfl⟩,hz6,z6,rfl⟩
    have HZ6:=lH hz6;clear hz6
    go_wp2_with (fail)
    go_meet
    case rel=>exact⟨by rw[HD.out],by rw[HD.out];exact HZ6.out.to ii,Later.of⟩
   ·have HD:=lH hd;clear hd ec es
    go_wp2_with (first|(refine step_gbC (o:=2) (us:=[.bool (q.Order.A == 1)]) ({ b with Safe:=(q.Order.A == 1) }:TBoard) rfl _ (.tmp 62) (.tmp 61) rfl (HP.out.to ii) rfl rfl kr rfl nb (by intros;rename_i h;obtain⟨A1,rfl,p⟩:=h;exact⟨A1,rfl,{ p with ok:=p.ok }⟩) (w0:=W2) ii nl ?_;intro z6 hz6 hX6))
    go_meet
    case rel=>exact⟨by rw[HD.out],by rw[HD.out];exact hz6,Later.of⟩
   ·have HD:=lH hd;clear hd ec
    simp only[hs]at es;clear hs
    go_wp2_with (fail)
    go_meet
    case rel=>exact⟨by rw[HD.out],by rw[HD.out];exact HP.out.to ii,Later.of⟩
   ·have HD:=lH hd;clear hd ec
    simp only[hs]at es;clear hs
    obtain⟨sa,sc,ea,hown,-,-⟩:=HP.out.own fBoardAsked
    obtain⟨n1,hn1⟩:∃ n,b.Asked.length=n:=⟨_,rfl⟩
    have hnb:n1≤5000:=hn1▸HBP.out.2.2.2.2.2.2.2.2.2
    have HEA:=lH (ea z5.w);have HN1:=lH hn1
    have ea2:∀ (W:World) [Grows z5.w W],W.cell? ⟨qb,11,none⟩=some (.slice sa n1 sc):=fun W g=>HN1.out▸ea W
    clear ea hn1
    go_wp2_with (first|(at_builtin;refine wpList_app1F (enc:=encInt) (w0:=W2) (z:=.int .i64 0) (size:=1) (bytes:=8) (n:=n1) (q.Order.A) rfl (.tmp 68) (.tmp 71) rfl Tryz.underlying46 kr rfl (by decide) (by decide) rfl rfl HN1.out (hown.to ii) bk rfl (encInt_one _) (by omega) LeN.out ii nl ?_;intro sa6 sc6 xa6 hown1 hgr1 hblk1;have hp6:=(GBp.app (F:=fBoardAsked) HP.out HEA.out ii hown1 hgr1 hblk1 HX.out.2.1.2.2.1).1;clear hown1 hgr1 hblk1)|(refine step_gbN (app_len HN1.out) rfl _ _ _ rfl hp6 rfl rfl kr ii nl ?_;intro z6 hz6))
    go_meet
    case rel=>exact⟨by rw[HD.out],by rw[HD.out];exact hz6,Later.of⟩
   ·obtain⟨sa,sc,ea,hown,hgood,hrd⟩:=HP.out.own fBoardOrders
    obtain⟨n1,hn1⟩:∃ n,b.Orders.length=n:=⟨_,rfl⟩
    have hnb:n1≤40:=hn1▸HBP.out.2.2.2.2.2.2.2.1
    have HEA:=lH (ea z5.w);have HN1:=lH hn1;have HGO:=lH hgood
    have ea2:∀ (W:World) [Grows z5.w W],W.cell? ⟨qb,4,none⟩=some (.slice sa n1 sc):=fun W g=>HN1.out▸ea W
    have HRD:=lH (show RdS W2.heap.size z5.w sa sc b.Orders from hrd)
    clear ea hn1 es hgood hrd
    have HD:=lH hd;clear hd
    go_wp2_with (fail)
    refine gm (k_iindexOfOrder (q:=q.Order.A) (l:=b.Orders) (w0:=z5.w) HRD.out (g:=inferInstance) HN1.out (by omega)) ?_
    intro y6
    have HFA:=firstAt_le q.Order.A 0 b.Orders
    cases c3:decide (firstAt q.Order.A 0 b.Orders<0)
    ·have HD2:=lH (show doOrder b q.Order=({ b with Orders:=b.Orders.eraseIdx (firstAt q.Order.A 0 b.Orders).toNat,Done:=b.Done++[⟨q.Order.A,b.Clock,0⟩] },1)by rw[HD.out,if_neg (of_decide_eq_false c3)])
     obtain⟨j,hj⟩:∃ j:Nat,firstAt q.Order.A 0 b.Orders=(j:Int):=⟨(firstAt q.Order.A 0 b.Orders).toNat,by have:=of_decide_eq_false c3;omega⟩
     rw[hj]at c3 HD2 ⊢
     rw[hj,HN1.out]at HFA
     have hjl:j<n1:=by omega
     clear HFA hj
     have HDL:=lH (show ∀ (W:World),Grows z5.w W→Calls Tryz.prog 129 #[.slice sa n1 sc,.int .i64 j,.int .i64 ((j:Int)+1)] W (fun e w1=>e=.returned (.slice sa (n1 - 1) sc)∧Own encTWaiting 169 5 W2.heap.size w1 sa sc (b.Orders.eraseIdx j)∧W.grownBy w1 (blkOf sa))from fun W g=>by
      have h1:=c_DeleteWaiting (k:=j) (hown.to g) (by rw[show(fBoardOrders.get b).length=n1 from HN1.out];exact hjl) (by rw[show(fBoardOrders.get b).length=n1 from HN1.out];omega)
      rw[show(fBoardOrders.get b).length=n1 from HN1.out]at h1
      exact h1)
     have hjl2:j+1≤n1:=hjl
     have HLE:=lH (show(b.Orders.eraseIdx j).length=n1 - 1 from erase_len HN1.out hjl)
     go_upto_region 24 with(first|(go_at_call 129;refine(HDL.out _ ii).mono ?_;rintro _ w6 ⟨rfl,hown7,hgr6⟩;obtain⟨z7,rfl⟩:=grown_later (w0:=W2) ii hgr6 (fun k hk=>(hown.blk k hk).1);obtain⟨hp7,hX7⟩:=GBp.upd (F:=fBoardOrders) (n:=0) HP.out HEA.out ii hown7 ((ownBlock_eq _ _ _).symm▸hgr6) (.inl rfl) (fun p hp=>HGO.out p ((List.eraseIdx_sublist _ j).subset hp));clear hown7 hgr6)|(refine step_gbNX HLE.out rfl _ _ _ rfl hp7 rfl rfl kr (w0:=W2) ii nl ?_;intro z8 hz8 hX8))
     (try simp only[Act.put])
     have HX8:=lH (show Held z8.w qo [.int .i64 q.Order.Kind,.int .i64 q.Order.At,.int .i64 q.Order.A,.int .i64 q.Order.B] 167 by unfold Held;rw[hX8 qo HXq.out,hX7 qo HXq.out];exact HX5.out.to ii)
     have HZ8:=lH hz8
     clear hX8 hX7 hz8 ea2 ec g0 g2 g3 HX5
     have hqb8:LtN qb z8.w.heap.size:=⟨HZ8.out.lt⟩
     have hqo8:LtN qo z8.w.heap.size:=⟨HX8.out.lt⟩
     have g2:=HX8.out.cellG 2 _ rfl
     have ec:∀ (W:World) [Grows z8.w W],W.cell? ⟨qb,0,none⟩=some (.int .i64 b.Clock):=by
      obtain⟨vs6,hH6,-,-,⟨A6,rfl,-⟩,-⟩:=HZ8.out.vs
      exact hH6.cellG 0 _ rfl
     obtain⟨sb,sD,ea,hownd,-,-⟩:=HZ8.out.own fBoardDone
     obtain⟨n2,hn2⟩:∃ n,b.Done.length=n:=⟨_,rfl⟩
     have hnb2:n2≤5000:=hn2▸HBP.out.2.2.2.2.2.2.2.2.1
     have HED2:=lH (ea z8.w);have HN2:=lH hn2
     have ea2:∀ (W:World) [Grows z8.w W],W.cell? ⟨qb,5,none⟩=some (.slice sb n2 sD):=fun W g=>HN2.out▸ea W
     clear ea hn2
     have HCK:=lH (show i64 b.Clock by have:=HBP.out.2.2.2.2.2.1;unfold i64;omega)
     go_wp2_with (first|(at_builtin;refine wpList_app1F (enc:=encTDone) (w0:=W2) (z:=.agg #[.int .i64 0,.int .i64 0,.int .i64 0]) (size:=3) (bytes:=24) (n:=n2) (⟨q.Order.A,b.Clock,0⟩) rfl (.tmp 91) (.tmp 97) rfl Tryz.underlying80 kr rfl (by decide) (by decide) rfl rfl HN2.out (hownd.to ii) bk rfl (encTDone_one _) (by omega) LeN.out ii nl ?_;intro sa9 sc9 xa9 hown1 hgr1 hblk1;have hp9:=(GBp.app (F:=fBoardDone) HZ8.out HED2.out ii hown1 hgr1 hblk1 ⟨HX.out.2.1.2.2.1,HCK.out,(show i64 0 by unfold i64;omega),trivial⟩).1;clear hown1 hgr1 hblk1)|(refine step_gbN (app_len HN2.out) rfl _ _ _ rfl hp9 rfl rfl kr ii nl ?_;intro z9 hz9))
     go_meet
     case rel=>exact⟨by rw[HD2.out],by rw[HD2.out];exact hz9,Later.of⟩
    ·have HD2:=lH (show doOrder b q.Order=(b,0)by rw[HD.out,if_pos (of_decide_eq_true c3)])
     clear HFA
     go_wp2_with (fail)
     go_meet
     case rel=>exact⟨by rw[HD2.out],by rw[HD2.out];exact HP.out.to ii,Later.of⟩
  case rest =>
   obtain⟨rfl,hz6,z6,rfl⟩:=hcut
   have HMO:=lH (doOrder_more b q.Order)
   have HCK:=lH (show(doOrder b q.Order).1.Clock=b.Clock from(doOrder_orders b q.Order).2)
   have HZ6:=lH hz6;clear hz6
   obtain⟨D,hD⟩:∃ D,(doOrder b q.Order).1=D:=⟨_,rfl⟩
   obtain⟨R,hR⟩:∃ R,(doOrder b q.Order).2=R:=⟨_,rfl⟩
   have HPR:=lH (show performRes b q={ D with Done:=D.Done++[⟨q.Number,b.Clock,R⟩] } by rw[performRes,hD,hR])
   rw[hR,hD]at HMO
   rw[hD]at HZ6 HCK
   rw[hR]
   clear hD hR g0 g2 g3
   have hqb6:LtN qb z6.w.heap.size:=⟨HZ6.out.lt⟩
   have ec:∀ (W:World) [Grows z6.w W],W.cell? ⟨qb,0,none⟩=some (.int .i64 b.Clock):=by
    rw[← HCK.out]
    obtain⟨vs6,hH6,-,-,⟨A6,rfl,-⟩,-⟩:=HZ6.out.vs
    exact hH6.cellG 0 _ rfl
   obtain⟨sb,sD,ea,hownd,-,-⟩:=HZ6.out.own fBoardDone
   obtain⟨n2,hn2⟩:∃ n,D.Done.length=n:=⟨_,rfl⟩
   have hnb2:n2≤5001:=by have h1:=HMO.out.1;have h2:=HBP.out.2.2.2.2.2.2.2.2.1;omega
   have HED2:=lH (ea z6.w);have HN2:=lH hn2
   have ea2:∀ (W:World) [Grows z6.w W],W.cell? ⟨qb,5,none⟩=some (.slice sb n2 sD):=fun W g=>HN2.out▸ea W
   clear ea hn2
   have HGD:=lH (show i64 q.Number∧i64 b.Clock∧i64 R∧True from⟨HX.out.1,by have:=HBP.out.2.2.2.2.2.1;unfold i64;omega,by have:=HMO.out.2.2;unfold i64;omega,trivial⟩)
   go_upto_region 26 with(first|(at_builtin;refine wpList_app1F (enc:=encTDone) (w0:=W2) (z:=.agg #[.int .i64 0,.int .i64 0,.int .i64 0]) (size:=3) (bytes:=24) (n:=n2) (⟨q.Number,b.Clock,R⟩) rfl (.tmp 101) (.tmp 108) rfl Tryz.underlying80 kr rfl (by decide) (by decide) rfl rfl HN2.out (hownd.to ii) bk rfl (encTDone_one _) (by omega) LeN.out ii nl ?_;intro sa9 sc9 xa9 hown1 hgr1 hblk1;have hp9:=(GBp.app (F:=fBoardDone) HZ6.out HED2.out ii hown1 hgr1 hblk1 HGD.out).1;clear hown1 hgr1 hblk1)|(refine step_gbN (app_len HN2.out) rfl _ _ _ rfl hp9 rfl rfl kr ii nl ?_;intro z9 hz9))
   (try simp only[Act.put])
   have HZ9:=lH (show GB X W2.heap.size qb z9.w (performRes b q)by rw[HPR.out];exact hz9)
   have HTP:=lH (show Enc.tot (performRes b q)≤100000000 by
    have h1:=HMO.out.2.1;have h2:=HT5.out
    rw[HPR.out,board_tot];rw[board_tot]at h1;simp only[List.length_append,List.length_singleton];omega)
   clear hz9 ec ea2 hownd
   have hqb9:LtN qb z9.w.heap.size:=⟨HZ9.out.lt⟩
   obtain⟨vs9,hH9,hl9,h19,hrd9,χ9,hO9⟩:=HZ9.out.vs
   have HH9:=lH hH9;have HO9:=lH hO9;have H19:=lH h19;have HL9:=lH (show vs9.length=12 from hl9);have HRD9:=lH hrd9
   clear hO9 hH9 h19 hl9 hrd9
   go_wp2_with (first|(refine sL rfl _ (.tmp 5) rfl (qb) kr HH9 ii uu84 HL9 ?_))
   refine gm (c_iBoardOkE (Enc.keep HRD9.out ii) HTP.out) ?_
   intro y9
   cases hr:boardOk (performRes b q)
   ·have HKR:=lH (show performOrder b q=b by rw[performOrder,HK.out,if_pos rfl,hr];rfl)
    go_wp2_with (first|(refine sL rfl _ (.tmp 2) rfl (w.heap.size) rfl HB ii uu84 HL ?_))
    refine(o_cloneBoard (x:=b) (Enc.keep HM.out ii) HT.out).mono ?_
    rintro _ _ ⟨cs8,χ8,rfl,hO8,y8,rfl⟩
    have HLC:=lH (len_board (EncO.toRd hO8));have HOC:=lH (one_board (EncO.toRd hO8));have HO:=lH hO8;clear hO8
    go_wp2_with (first|(refine sW rfl _ _ _ rfl (w.heap.size+2) rfl (us:=cs8) (HR.out.to ii) HLC HOC (w0:=w) ii (by omega) ?_;intro z8 HX8 KX8))
    refine bodyPost_ret (v:=.agg cs8.toArray) (results_cell (P:=Tryz.prog) rfl rfl HX8.out _ uu84 rfl (by rw[HLC.out];kernel_rfl)) rfl ?_
    rw[HKR.out]
    exact⟨cs8,χ8,rfl,obox_fin HO.out KX8.out LtN.out LeN.out,Later.of⟩
   ·have HKR:=lH (show performOrder b q=performRes b q by rw[performOrder,HK.out,if_pos rfl,if_pos hr])
    go_wp2_with (first|(refine sL rfl _ (.tmp 5) rfl (qb) kr HH9 ii uu84 HL9 ?_)|(refine sW rfl _ _ _ rfl (w.heap.size+2) rfl (us:=vs9) (HR.out.to ii) HL9 H19 (w0:=w) ii (by omega) ?_;intro z7 HX7 KX7))
    refine bodyPost_ret (v:=.agg vs9.toArray) (results_cell (P:=Tryz.prog) rfl rfl HX7.out _ uu84 rfl (by rw[HL9.out];kernel_rfl)) rfl ?_
    rw[HKR.out]
    exact⟨vs9,χ9,rfl,obox_fin (obox_to HO9.out ii) KX7.out (show w.heap.size+2<W2.heap.size by omega) hW2,Later.of⟩
theorem step_gbEX{P:Program}{ops:Array Oper}{rest:List Oper}{op:Oper}{act:Act}{w w0:World}{Q:Exit→Act→World→Prop}{X:Nat→Prop}{B b:Nat}{α β:Type}[E:OBox α][E2:Flat β]{x:α}{q j c:Nat}{y0:β}{v0:Value}(F:FS α β)(hgd:op.guard=none)(ty:TypeId)(p v:Operand)(ho:op.op=.store ty p v)(h:GB X B b w x)(hc:w.cell? ⟨b,F.off,none⟩=some (.slice (some ⟨q,0,none⟩) (F.get x).length c))(hqb:q≠b)(hsz:E2.size=1)(hx:act.eval p=.pointer (some ⟨q,0+j*1,none⟩))(hv:(act.eval v).cells.toList=[v0])(hi:(P.info? ty).map (·.size)=some 1)(h1:v0.oneCell'=true)
  (hj:j<(F.get x).length) (hy:E2.enc y0=[v0]) (hg:E2.good y0) (g:Grows w0 w) (hb:w0.heap.size≤B) (K:∀ z:Later w0,GB X B b z.w (F.set x ((F.get x).set j y0))→(∀ k,X k→z.w.heap[k]?=w.heap[k]?)→wpList P ops Q rest (act.put op.dst undef) z.w):wpList P ops Q (op::rest) act w:=by
 rw[Nat.zero_add,Nat.mul_one]at hx
 obtain⟨a1,c1,ec,hO,hgood,-⟩:=h.own F
 have e1:=(ec w).symm.trans hc
 simp only[Option.some.injEq,Value.slice.injEq,true_and]at e1
 obtain⟨rfl,rfl⟩:=e1
 obtain⟨cs,hH,hcl⟩:=Own.heldB hO
 refine wpList_plain hgd fun _ hK=>?_
 unfold Oper.wp execOp
 simp only[ho,hx,Instr.storeAt,Instr.sureAddr,Sem.run_bind,Sem.run_pure,Result.andThen_ok,run_storeVar_held hv (hH.there (o:=j) (n:=1) (by rw[hsz]at hcl;omega)) hi (fun u hu=>by simp at hu;subst hu;exact h1)]
 have hO1:Own E2.enc E2.ty 1 B w (some ⟨q,0,none⟩) c1 (F.get x):=hsz▸hO
 obtain⟨p1,p2⟩:=hO1.put1 hj hy
 have p1':Own E2.enc E2.ty E2.size B (w.setCell ⟨q,j,none⟩ v0) (some ⟨q,0,none⟩) c1 ((F.get x).set j y0):=by rw[hsz];exact p1
 have hq:B≤q:=(hO.blk q rfl).1
 have r:=GBp.upd (n:=0) h hc ii p1' (by rw[ownBlock_eq];exact p2) (.inl rfl) (fun z hz=>by
  rcases List.mem_or_eq_of_mem_set hz with hz|rfl
  ·exact hgood z hz
  ·exact hg)
 refine hK _ _ (K ⟨_,g.out.setCell (Nat.le_trans hb hq) v0⟩ (GBp.same r.1 ?_) r.2)
 rw[World.cell?_setCell_far _ _ _ _ (by intro e;cases e;exact hqb rfl),hc,List.length_set]
theorem Held.same{w w':World}{b:Nat}{cs:List Value}{T:TypeId}(h:Held w b cs T)(e:w'.heap[b]?=w.heap[b]?):Held w' b cs T:=by unfold Held at h ⊢;rw[e];exact h
theorem c_sl05Perform{X0:Nat→Prop}{B q:Nat}{b:TBoard}{o:TOrder}{w0 w:World}(h:GB X0 B q w b)(hbo:boardOk b=true)(hoo:orderOk o=true)(hx:okDTOrder o)(g:Grows w0 w)(hb:w0.heap.size≤B) :
  Calls Tryz.prog 196 #[.pointer (some ⟨q,0,none⟩),.agg #[.int .i64 o.Kind,.int .i64 o.At,.int .i64 o.A,.int .i64 o.B]] w (fun e w'=>e=.returned (.int .i64 (doOrder b o).2)∧GB X0 B q w' (doOrder b o).1∧∃ z:Later w0,w'=z.w):=by
 have HBP:=lH (board_parts hbo);have HOP:=lH (order_parts hoo);have HXO:=lH hx
 clear hbo hoo hx
 have HG0:=lH h
 have HX0:=lH (Held.new w [.int .i64 o.Kind,.int .i64 o.At,.int .i64 o.A,.int .i64 o.B] 167 w.heap.size rfl)
 clear h
 go_enter Tryz.func196,Tryz.ntmps196
 go_upto_region 1 with(first|((with_reducible refine rl ?_);refine rq ?_;intro x))
 obtain⟨z1,hz1⟩:∃ z1:Later w,(w.alloc (.cells #[.int .i64 o.Kind,.int .i64 o.At,.int .i64 o.A,.int .i64 o.B] 167))=z1.w:=Later.of
 rw[show([.int .i64 o.Kind,.int .i64 o.At,.int .i64 o.A,.int .i64 o.B]:List Value).toArray=#[.int .i64 o.Kind,.int .i64 o.At,.int .i64 o.A,.int .i64 o.B]from rfl,hz1]at HX0
 rw[hz1];clear hz1
 obtain⟨qo,hqo⟩:∃ qo,w.heap.size=qo:=⟨_,rfl⟩
 rw[hqo]at HX0 ⊢
 have HG:=lH (GB.prot (P:=(·=qo)) HG0.out (ii:Grows w z1.w) (fun k hk=>by subst hk;exact⟨Nat.le_of_eq hqo,HX0.out.lt⟩))
 obtain⟨X,hX⟩:∃ X:Nat→Prop,(fun k=>X0 k∨k=qo)=X:=⟨_,rfl⟩
 rw[hX]at HG
 have HXq:=lH (show X qo by rw[← hX];exact .inr rfl)
 have HXL:=lH (show ∀ k,X0 k→X k from fun k hk=>by rw[← hX];exact .inl hk)
 clear hX hqo HG0
 have hqlt:LtN q z1.w.heap.size:=⟨HG.out.lt⟩
 have hqB:B≤q:=HG.out.le
 have hBz:B≤z1.w.heap.size:=by have:=hqlt.out;omega
 have hqo1:LtN qo z1.w.heap.size:=⟨HX0.out.lt⟩
 have g0:=HX0.out.cellG 0 _ rfl
 have g2:=HX0.out.cellG 2 _ rfl
 have g3:=HX0.out.cellG 3 _ rfl
 obtain⟨vs6,hH6,-,-,⟨A6,hv6,F6⟩,-⟩:=HG.out.vs
 have HV6:=lH hH6;have HVE:=lH hv6;have HF6:=lH F6
 have es:∀ (W:World) [Grows z1.w W],W.cell? ⟨q,2,none⟩=some (.bool b.Safe):=hH6.cellG 2 _ (by rw[hv6];rfl)
 have ec:∀ (W:World) [Grows z1.w W],W.cell? ⟨q,0,none⟩=some (.int .i64 b.Clock):=hH6.cellG 0 _ (by rw[hv6];rfl)
 have em:∀ (W:World) [Grows z1.w W],W.cell? ⟨q,9,none⟩=some (.int .i64 b.Made):=hH6.cellG 9 _ (by rw[hv6];rfl)
 clear hH6 hv6 F6
 rcases order_cases b o ⟨HOP.out.1,HOP.out.2.1⟩with⟨k0,hd⟩|⟨k0,k1,hs,hd⟩|⟨k0,k1,hs,hd⟩|⟨k0,k1,k2,hd⟩|⟨k0,k1,k2,k3,hs,hd⟩|⟨k0,k1,k2,k3,hs,hd⟩|⟨k0,k1,k2,k3,k4,hd⟩
 ·have HD:=lH hd;clear hd es ec em
  have HJ:=lH (show((o.A.toNat:Nat):Int)=o.A∧o.A.toNat<8 by have hk0:o.Kind=0:=(by simpa using k0);have hp:=HOP.out;have:=hp.2.2.2.2.2.2.1 (.inl hk0);omega)
  obtain⟨ja,hja⟩:∃ ja,o.A.toNat=ja:=⟨_,rfl⟩
  rw[hja]at HJ
  have hj8:ja<8:=HJ.out.2
  have HJA:=lH HJ.out.1
  simp only[← HJ.out.1]at g2
  clear hja HJ
  have HP8:=lH HBP.out.1
  obtain⟨pa,pc,ep,hop,-,-⟩:=HG.out.own fBoardParams
  obtain⟨pq,rfl⟩:∃ g,pa=some ⟨g,0,none⟩:=by
   rcases Own.at0 hop with⟨rfl,h0⟩|h
   ·have h1:=hop.cap;have h2:(fBoardParams.get b).length=8:=HP8.out;omega
   ·exact h
  have hpq:pq≠q:=by
   intro e
   obtain⟨vs,hH,-⟩:=HG.out.vs
   exact hop.notHeld (n:=8) (e▸hH) (by decide) (by rw[ownBlock_eq,e];rfl)
  have HEP:=lH (fun(W:World) (g:Grows z1.w W)=>ep W)
  have ep2:∀ (W:World) [Grows z1.w W],W.cell? ⟨q,1,none⟩=some (.slice (some ⟨pq,0,none⟩) 8 pc):=fun W g=>HP8.out▸ep W
  have hlp:ja<(fBoardParams.get b).length:=by rw[show(fBoardParams.get b).length=8 from HP8.out];exact hj8
  have HLL:=lH HBP.out.2.2.1
  obtain⟨n,hn⟩:∃ n,b.Limits.length=n:=⟨_,rfl⟩
  have hn8:n≤8:=by have:=HLL.out;omega
  have HN:=lH hn
  clear ep hop hn
  go_upto_region 3 with(first|((with_reducible refine rl ?_);(repeat(first|go_big_quiet_step (first|fail)|simp only[k0]));refine wpQuiet_nil ?_;intro x))
  refine wp_region_stabZ kr (T:=[9]) (Zs:=[]) (H:=[(3,[]),(5,[]),(7,[]),(8,[])]) (C:=[]) (Fs:=[(some 13,.v (.pointer (some ⟨q,0,none⟩))),(some 14,.v (.pointer (some ⟨q,0,none⟩))),(some 15,.v (.pointer (some ⟨q,1,none⟩))),(some 16,.v (.slice (some ⟨pq,0,none⟩) 8 pc)),(some 17,.v (.pointer (some ⟨qo,2,none⟩))),(some 18,.v (.int .i64 ja)),(some 19,.v (.pointer (some ⟨qo,3,none⟩))),(some 20,.v (.int .i64 o.B)),(some 21,.v (.pointer (some ⟨pq,0+ja*1,none⟩))),(none,.v undef)]) kr (fun val W=>by kernel_rfl) ?ob3 ?lz3 ?pn3 ?tl3
  case ob3 =>
   refine⟨fun x=>?_,fun x=>?_,fun x=>?_,fun x=>?_,trivial⟩
   ·exact g_cell (ep2 x.w) rfl kr _ Tryz.underlying46 rfl
   ·exact g_cell (g2 x.w) rfl kr _ uu3 rfl
   ·exact g_cell (g3 x.w) rfl kr _ uu3 rfl
   ·exact g_ix (size:=1) (o:=0) (j:=ja) (n:=8) (c:=pc) rfl kr Tryz.underlying46 kr hj8
  case lz3 =>
   exact trivial
  case pn3=>exact fun _ _ _ _ _ _ h=>h
  case tl3 =>
   intro x
   refine tail1 rfl ?_
   simp only[put_nrm,put_nrm2]
   simp only[nrm,if_true]
   go_upto_region 4 with(first|((with_reducible refine rl ?_);refine rq ?_;intro x)|(refine step_gbEX (v0:=.int .i64 o.B) (y0:=o.B) fBoardParams rfl _ (.tmp 21) (.tmp 20) rfl (HG.out.to ii) (HEP.out _ ii) hpq rfl rfl rfl kr rfl hlp rfl HXO.out.2.2.2.1 (w0:=w0) ii hb ?_;intro z2 hz2 hX2))
   (try simp only[Act.put])
   have HX2:=lH ((HX0.out.to (ii:Grows z1.w x.w)).same (hX2 qo HXq.out))
   have HZ2:=lH (show GB X B q z2.w { b with Params:=b.Params.set ja o.B } from hz2)
   clear hz2 hX2 ep2 g0 g2 g3 HG HX0
   go_wp2_with (first|((with_reducible refine rl ?_);refine rq ?_;intro x))
   go_loopw [5] (fun u wr=>∃ (k:Nat) (sf:Bool),u=.int .i64 k∧k≤n∧Hid ((sf || (b.Limits.drop k).any (badLim ja o.B))=(b.Safe || b.Limits.any (badLim ja o.B)))∧Hid (Held wr qo [.int .i64 o.Kind,.int .i64 o.At,.int .i64 o.A,.int .i64 o.B] 167)∧Hid (GB X B q wr { b with Params:=b.Params.set ja o.B,Safe:=sf })∧∃ y:Later w0,wr=y.w) (fun u _=>(n - intOf u).toNat)
   case atStart=>exact⟨0,b.Safe,rfl,Nat.zero_le _,rfl,HX2.out.to ii,HZ2.out.to ii,Later.of⟩
   case round =>
    obtain⟨k,sf,rfl,hk,HV,HXR,HGR,y,rfl⟩:=hrel
    have hqy:LtN q y.w.heap.size:=⟨HGR.out.lt⟩
    have hqo2:LtN qo y.w.heap.size:=⟨HXR.out.lt⟩
    have g2:=HXR.out.cellG 2 _ rfl
    have g3:=HXR.out.cellG 3 _ rfl
    simp only[← HJA.out]at g2
    obtain⟨la,lc,el,-,-,hrd⟩:=HGR.out.own fBoardLimits
    have el2:∀ (W:World) [Grows y.w W],W.cell? ⟨q,3,none⟩=some (.slice la n lc):=fun W g=>HN.out▸el W
    have hrd:RdS B y.w la lc b.Limits:=hrd
    by_cases hkn:k<n
    ·have kc:decide ((k:Int)<(n:Int))=true:=by simp;omega
     obtain⟨eb,eoff,es,rfl,ehb,ehd,eok,eh0,eh1,eh2⟩:=hrd.atTLimit (show k<b.Limits.length by rw[HN.out];exact hkn)
     have EOK:=lH eok;clear eok el hrd
     cases c1:(es.Param == (ja:Int))
     ·have HF:=lH (show(sf || (b.Limits.drop (k+1)).any (badLim ja o.B))=(b.Safe || b.Limits.any (badLim ja o.B))by have:=HV.out;rw[ehd.out,List.any_cons,badLim,c1]at this;exact this)
      go_wp2_with (first|((with_reducible refine rl ?_);(repeat(first|go_big_quiet_step (first|fail)|simp only[kc]|simp only[c1]));refine wpQuiet_nil ?_;intro x))
      go_roundw
      case rel=>exact⟨k+1,sf,by go_num,by omega,HF,HXR.out.to ii,HGR.out.to ii,Later.of⟩
      case measure=>simp[intOf];omega
     ·cases c2:decide (o.B<es.Low) || decide (es.High<o.B)
      ·obtain⟨c3,c4⟩:=Bool.or_eq_false_iff.1 c2
       have HF:=lH (show(sf || (b.Limits.drop (k+1)).any (badLim ja o.B))=(b.Safe || b.Limits.any (badLim ja o.B))by have:=HV.out;rw[ehd.out,List.any_cons,badLim,c1,c2]at this;exact this)
       clear c2
       go_wp2_with (first|((with_reducible refine rl ?_);(repeat(first|go_big_quiet_step (first|fail)|simp only[kc]|simp only[c1]|simp only[c3]|simp only[c4]));refine wpQuiet_nil ?_;intro x))
       go_roundw
       case rel=>exact⟨k+1,sf,by go_num,by omega,HF,HXR.out.to ii,HGR.out.to ii,Later.of⟩
       case measure=>simp[intOf];omega
      ·have HF:=lH (show(true || (b.Limits.drop (k+1)).any (badLim ja o.B))=(b.Safe || b.Limits.any (badLim ja o.B))by have:=HV.out;rw[ehd.out,List.any_cons,badLim,c1,c2]at this;rw[← this];simp)
       have hcc:(decide (o.B<es.Low)=true)∨(decide (o.B<es.Low)=false∧decide (es.High<o.B)=true):=by
        cases h1:decide (o.B<es.Low)
        ·rw[h1]at c2;exact .inr ⟨rfl,c2⟩
        ·exact .inl rfl
       clear c2
       have HGK:=lH (fun(W:World) (g:Grows y.w W)=>HGR.out.to g)
       rcases hcc with c3|⟨c3,c4⟩
       ·go_upto_region 6 with(first|((with_reducible refine rl ?_);(repeat(first|go_big_quiet_step (first|fail)|simp only[kc]|simp only[c1]|simp only[c3]));refine wpQuiet_nil ?_;intro x)|(refine step_gbC (o:=2) (us:=[.bool true]) ({ b with Params:=b.Params.set ja o.B,Safe:=true }:TBoard) rfl _ (.tmp 70) _ rfl (HGK.out _ ii) rfl rfl kr rfl nb (by intros;rename_i h;obtain⟨A1,rfl,q⟩:=h;exact⟨A1,rfl,{ q with ok:=q.ok }⟩) (w0:=w0) ii hb ?_;intro z9 hz9 hX9))
        (try simp only[Act.put])
        have HX9:=lH ((HXR.out.to ii).same (hX9 qo HXq.out))
        have HZ9:=lH hz9;clear hz9 hX9
        go_wp2_with (first|((with_reducible refine rl ?_);refine rq ?_;intro x))
        go_roundw
        case rel=>exact⟨k+1,true,by go_num,by omega,HF,HX9.out.to ii,HZ9.out.to ii,Later.of⟩
        case measure=>simp[intOf];omega
       ·go_upto_region 6 with(first|((with_reducible refine rl ?_);(repeat(first|go_big_quiet_step (first|fail)|simp only[kc]|simp only[c1]|simp only[c3]|simp only[c4]));refine wpQuiet_nil ?_;intro x)|(refine step_gbC (o:=2) (us:=[.bool true]) ({ b with Params:=b.Params.set ja o.B,Safe:=true }:TBoard) rfl _ (.tmp 70) _ rfl (HGK.out _ ii) rfl rfl kr rfl nb (by intros;rename_i h;obtain⟨A1,rfl,q⟩:=h;exact⟨A1,rfl,{ q with ok:=q.ok }⟩) (w0:=w0) ii hb ?_;intro z9 hz9 hX9))
        (try simp only[Act.put])
        have HX9:=lH ((HXR.out.to ii).same (hX9 qo HXq.out))
        have HZ9:=lH hz9;clear hz9 hX9
        go_wp2_with (first|((with_reducible refine rl ?_);refine rq ?_;intro x))
        go_roundw
        case rel=>exact⟨k+1,true,by go_num,by omega,HF,HX9.out.to ii,HZ9.out.to ii,Later.of⟩
        case measure=>simp[intOf];omega
    ·have kc:decide ((k:Int)<(n:Int))=false:=by simp;omega
     have HF:=lH (show sf=(b.Safe || b.Limits.any (badLim ja o.B))by have:=HV.out;rw[List.drop_of_length_le (by rw[HN.out];omega)]at this;simpa using this)
     have HDD:=lH (show doOrder b o=(({ b with Params:=b.Params.set ja o.B,Safe:=sf }:TBoard),1)by rw[HD.out,HF.out,← HJA.out];rfl)
     go_wp2_with (first|((with_reducible refine rl ?_);(repeat(first|go_big_quiet_step (first|fail)|simp only[kc]));refine wpQuiet_nil ?_;intro x))
     go_ret
     exact⟨by rw[HDD.out];rfl,by rw[HDD.out];exact(HGR.out.to ii).less HXL.out,Later.of⟩
 ·have HD:=lH hd;clear hd ec em
  simp only[hs]at es;clear hs
  go_wp2_with (first|((with_reducible refine rl ?_);(repeat(first|go_big_quiet_step (first|fail)|simp only[k0]|simp only[k1]));refine wpQuiet_nil ?_;intro x))
  go_ret
  exact⟨by rw[HD.out];rfl,by rw[HD.out];exact(HG.out.to ii).less HXL.out,Later.of⟩
 ·have HD:=lH hd;clear hd
  simp only[hs]at es;clear hs
  have HRR:=lH (show ∃ rc,(vs6.drop 6).take 3=rc∧Enc.Rd B z1.w rc b.Recorder from⟨_,rfl,by rw[HVE.out];exact⟨A6.a4,A6.c4,A6.a5,A6.c5,rfl,HF6.out.q4,HF6.out.q5,HF6.out.ok.2.1⟩⟩)
  have HP8:=lH HBP.out.1;have HALL:=lH HBP.out.2.1;have HMD:=lH HBP.out.2.2.2.1
  obtain⟨pa,pc,ep,-,-,hrd⟩:=HG.out.own fBoardParams
  have ep2:∀ (W:World) [Grows z1.w W],W.cell? ⟨q,1,none⟩=some (.slice pa 8 pc):=fun W g=>HP8.out▸ep W
  have hrd:RdS B z1.w pa pc b.Params:=hrd
  clear ep
  go_wp2_with (first|((with_reducible refine rl ?_);(repeat(first|go_big_quiet_step (first|fail)|simp only[k0]|simp only[k1]));refine wpQuiet_nil ?_;intro x))
  go_loopw [6,7] (fun u v wr=>∃ (k:Nat) (s:ByteArray),v=.int .i64 k∧u=.string s∧k≤8∧s.size=2*k∧Hid (s=paramText (b.Params.take k))∧∃ y:Later z1.w,wr=y.w) (fun _ v _=>(8 - intOf v).toNat)
  case atStart=>exact⟨0,⟨#[]⟩,rfl,rfl,by omega,rfl,rfl,Later.of⟩
  case round =>
   obtain⟨k,s,rfl,rfl,hk,hsz,HV,y,rfl⟩:=hrel
   by_cases hk8:k<8
   ·obtain⟨eb,eoff,e9,rfl,ehb,ehd,h0⟩:=(RdS.toSlInt hrd).int (show k<b.Params.length by rw[HP8.out];exact hk8)
    have hin:=inB_iff.1 (allB_drop HALL.out ehd.out)
    have HF:=lH (show s++word2 e9=paramText (b.Params.take (k+1))by rw[take_snoc ehd.out,paramText_snoc,← HV.out])
    have kc:decide ((k:Int)<8)=true:=by simp;omega
    go_wp2_with (first|((with_reducible refine rl ?_);(repeat(first|go_big_quiet_step (first|(go_at_call 165;exact Gives.quiet (c_sPutWord2 (by omega) (by omega))))|simp only[kc]));refine wpQuiet_nil ?_;intro x)|(go_at_call 165;refine gm (c_sPutWord2 (by omega) (by omega)) ?_;intro x))
    go_roundw
    case rel=>exact⟨k+1,s++word2 e9,by go_num,rfl,by omega,by rw[ByteArray.size_append,hsz,word2_size];omega,HF,Later.of⟩
    case measure=>simp[intOf];omega
   ·obtain rfl:k=8:=by omega
    have hs:s=paramText b.Params:=by rw[HV.out,List.take_of_length_le (by rw[HP8.out];exact Nat.le_refl _)]
    have HS:=lH hs;clear hs HV
    have kc:decide (((8:Nat):Int)<8)=false:=rfl
    obtain⟨rc,hrc,hrr⟩:=HRR.out
    have HRC:=lH hrc;have HRQ:=lH hrr
    have HRL:=lH (or_len hrr)
    have hkd:okDTRecord ⟨b.Made,o.A,b.Clock,s⟩:=⟨(show i64 b.Made by have:=HMD.out;unfold i64;omega),HXO.out.2.2.1,(by have:=HBP.out.2.2.2.2.2.1;show i64 b.Clock;unfold i64;omega),by show s.size≤_;omega,trivial⟩
    have HKD:=lH hkd
    have HTR:=lH (show Enc.tot b.Recorder≤50000000 by have:=recorderOk_tot HBP.out.2.2.2.2.2.2.1;omega)
    clear hrc hrr hkd hrd
    go_upto_region 17 with(first|((with_reducible refine rl ?_);(repeat(first|go_big_quiet_step (first|fail)|simp only[kc]));refine wpQuiet_nil ?_;intro x))
    refine wp_region_stabZ kr (T:=[20]) (Zs:=[]) (H:=[(4,[]),(8,[]),(10,[]),(14,[]),(17,[])]) (C:=[17]) (Fs:=[(some 96,.v (.pointer (some ⟨q,0,none⟩))),(some 97,.v (.pointer (some ⟨q,0,none⟩))),(some 98,.v (.pointer (some ⟨q,0,none⟩))),(some 99,.v (.pointer (some ⟨q,6,none⟩))),(some 100,.v (.agg rc.toArray)),(some 101,.v (.pointer (some ⟨q,0,none⟩))),(some 102,.v (.pointer (some ⟨q,0,none⟩))),(some 103,.v (.pointer (some ⟨q,9,none⟩))),(some 104,.v (.int .i64 b.Made)),(some 105,.v (.pointer (some ⟨qo,2,none⟩))),(some 106,.v (.int .i64 o.A)),(some 107,.v (.pointer (some ⟨q,0,none⟩))),(some 108,.v (.pointer (some ⟨q,0,none⟩))),(some 109,.v (.pointer (some ⟨q,0,none⟩))),(some 110,.v (.int .i64 b.Clock)),(some 111,.v (.string s)),(some 112,.v (.agg #[.int .i64 b.Made,.int .i64 o.A,.int .i64 b.Clock,.string s])),(some 113,entO y.w.heap.size (keepRecord b.Recorder ⟨b.Made,o.A,b.Clock,s⟩)),(some 114,.v (.pointer (some ⟨q,0,none⟩))),(some 115,.v (.pointer (some ⟨q,6,none⟩))),(none,.v undef)]) kr (fun val W=>by kernel_rfl) ?ob6 ?lz6 ?pn6 ?tl6
    case ob6 =>
     refine⟨fun x=>?_,fun x=>?_,fun x=>?_,fun x=>?_,fun x=>?_,trivial⟩
     ·exact g_row (o:=6) (cs:=vs6) (row:=rc) (HV6.out.to (growsTr (ii:Grows z1.w y.w) (ii:Grows y.w x.w))) rfl kr _ Tryz.underlying82 rfl (by rw[HRL.out];kernel_rfl) (by rw[HRL.out];exact HRC.out)
     ·exact g_cell (em x.w) rfl kr _ uu3 rfl
     ·exact g_cell (g2 x.w) rfl kr _ uu3 rfl
     ·exact g_cell (ec x.w) rfl kr _ uu3 rfl
     ·refine g_call (f:=262) (args:=[.agg rc.toArray,.agg #[.int .i64 b.Made,.int .i64 o.A,.int .i64 b.Clock,.string s]]) Tryz.func262 kr kr ((o_sKeepRecord (rx:=⟨b.Made,o.A,b.Clock,s⟩) (Enc.keep HRQ.out (Keeps.trans (ii:Keeps B z1.w y.w) (ii:Keeps B y.w x.w))) HKD.out HTR.out).mono ?_)
      rintro _ _ ⟨vs2,χ2,rfl,hO2,y2,rfl⟩
      exact⟨_,rfl,⟨y2,rfl⟩,vs2,χ2,rfl,OBox.map hO2 (.mono x.size_le)⟩
    case lz6 =>
     exact trivial
    case pn6=>exact fun _ _ _ _ _ _ h=>h
    case tl6 =>
     intro x
     refine chain1 fun v16 q16=>?_
     obtain⟨vs2,χ2,rfl,hO2⟩:=(show isO y.w.heap.size (keepRecord b.Recorder ⟨b.Made,o.A,b.Clock,s⟩) v16 x.w from q16)
     clear q16
     refine tail1 rfl ?_
     simp only[put_nrm,put_nrm2]
     simp only[nrm,if_true]
     have HL2:=lH (or_len (EncO.toRd hO2))
     have HPP:=lH (GBq.new (D:=fBoardRecorder) HG.out (growsTr (ii:Grows z1.w y.w) (ii:Grows y.w x.w)) (OBox.map hO2 (.mono y.size_le)))
     clear hO2
     go_upto_region 18 with(first|((with_reducible refine rl ?_);refine rq ?_;intro x)|(refine step_gbD rfl _ (.tmp 115) (.tmp 113) rfl HPP.out rfl rfl (by rw[HL2.out];kernel_rfl) (w0:=w0) ii hb ?_;intro z4 hz4 hX4))
     (try simp only[Act.put])
     have HZ4:=lH hz4;clear hz4
     obtain⟨vs7,hH7,-,-,⟨A7,hv7,-⟩,-⟩:=HZ4.out.vs
     have e9:=hH7.cellG 9 (.int .i64 b.Made) (by rw[hv7];rfl)
     have hqz4:LtN q z4.w.heap.size:=⟨HZ4.out.lt⟩
     obtain⟨hm0,hm1⟩:=HMD.out
     clear hH7 hv7 ec em g2 ep2
     have HDD:=lH (show doOrder b o=(makeRec b o.A,1)from HD.out)
     have HMK:=lH (show(fBoardRecorder.set b (keepRecord b.Recorder ⟨b.Made,o.A,b.Clock,s⟩))={ b with Recorder:=keepRecord b.Recorder ⟨b.Made,o.A,b.Clock,paramText b.Params⟩ } by rw[HS.out];rfl)
     go_wp2_with (first|((with_reducible refine rl ?_);refine rq ?_;intro x)|(refine step_gbC (o:=9) (us:=[.int .i64 (b.Made+1)]) (makeRec b o.A) rfl _ (.tmp 122) (.tmp 120) rfl (HMK.out▸HZ4.out) rfl rfl kr rfl nb (by intros;rename_i h;obtain⟨A1,rfl,k1⟩:=h;exact⟨A1,rfl,{ k1 with ok:=⟨k1.ok.1,k1.ok.2.1,(show i64 (b.Made+1)by unfold i64;omega),k1.ok.2.2.2⟩ }⟩) (w0:=w0) ii hb ?_;intro z6 hz6 hX6))
     go_ret
     exact⟨by rw[HDD.out];rfl,by rw[HDD.out];exact(hz6.to ii).less HXL.out,Later.of⟩
 ·have HD:=lH hd;clear hd ec es em
  go_wp2_with (first|((with_reducible refine rl ?_);(repeat(first|go_big_quiet_step (first|fail)|simp only[k0]|simp only[k1]|simp only[k2]));refine wpQuiet_nil ?_;intro x)|(refine step_gbC (o:=2) (us:=[.bool (o.A == 1)]) ({ b with Safe:=(o.A == 1) }:TBoard) rfl _ (.tmp 130) (.tmp 128) rfl (HG.out.to ii) rfl rfl kr rfl nb (by intros;rename_i h;obtain⟨A1,rfl,p⟩:=h;exact⟨A1,rfl,{ p with ok:=p.ok }⟩) (w0:=w0) ii hb ?_;intro z6 hz6 hX6))
  go_ret
  exact⟨by rw[HD.out];rfl,by rw[HD.out];exact(hz6.to ii).less HXL.out,Later.of⟩
 ·have HD:=lH hd;clear hd ec em
  simp only[hs]at es;clear hs
  go_wp2_with (first|((with_reducible refine rl ?_);(repeat(first|go_big_quiet_step (first|fail)|simp only[k0]|simp only[k1]|simp only[k2]|simp only[k3]));refine wpQuiet_nil ?_;intro x))
  go_ret
  exact⟨by rw[HD.out];rfl,by rw[HD.out];exact(HG.out.to ii).less HXL.out,Later.of⟩
 ·have HD:=lH hd;clear hd ec em
  simp only[hs]at es;clear hs
  obtain⟨sa,sc,ea,hown,-,-⟩:=HG.out.own fBoardAsked
  have HOW:=lH (show Own encInt 3 1 B z1.w sa sc b.Asked from hown);clear hown
  obtain⟨n1,hn1⟩:∃ n,b.Asked.length=n:=⟨_,rfl⟩
  have hnb:n1≤5000:=hn1▸HBP.out.2.2.2.2.2.2.2.2.2
  have HEA:=lH (ea z1.w);have HN1:=lH hn1
  have ea2:∀ (W:World) [Grows z1.w W],W.cell? ⟨q,11,none⟩=some (.slice sa n1 sc):=fun W g=>HN1.out▸ea W
  clear ea hn1
  go_upto_region 24 with(first|((with_reducible refine rl ?_);(repeat(first|go_big_quiet_step (first|fail)|simp only[k0]|simp only[k1]|simp only[k2]|simp only[k3]));refine wpQuiet_nil ?_;intro x))
  refine wp_region_stabZ kr (T:=[8,9,10,11]) (Zs:=[(0,[])]) (H:=[(4,[]),(6,[]),(7,[])]) (C:=[7]) (Fs:=[(some 137,.v (.pointer (some ⟨q,0,none⟩))),(some 138,.v (.pointer (some ⟨q,0,none⟩))),(some 139,.v (.pointer (some ⟨q,0,none⟩))),(some 140,.v (.pointer (some ⟨q,11,none⟩))),(some 141,.v (.slice sa n1 sc)),(some 142,.v (.pointer (some ⟨qo,2,none⟩))),(some 143,.v (.int .i64 o.A)),(some 144,.sl z1.w.heap.size 1 [.int .i64 o.A] 3),(none,.v undef),(none,.v undef),(none,.v undef),(none,.v undef)]) kr (fun val W=>by kernel_rfl) ?ob4 ?lz4 ?pn4 ?tl4
  case ob4 =>
   refine⟨fun x=>?_,fun x=>?_,fun x=>?_,trivial⟩
   ·exact g_cell (ea2 x.w) rfl kr _ Tryz.underlying46 rfl
   ·exact g_cell (g2 x.w) rfl kr _ uu3 rfl
   ·exact g_sl rfl kr LeN.out
  case lz4 =>
   refine⟨fun W hW=>chain0 ?_,trivial⟩
   intro W3
   kernel_rfl
  case pn4=>exact fun _ _ _ _ _ _ h=>h
  case tl4 =>
   intro x
   refine chain1 fun v8 q8=>?_
   obtain⟨bs,rfl,hbs,hH⟩:=(show ∃ bb,v8=.slice (some ⟨bb,0,none⟩) 1 1∧z1.w.heap.size≤bb∧Held x.w bb [.int .i64 o.A] 3 from q8)
   clear q8
   refine tail4 rfl rfl rfl rfl ?_
   simp only[put_nrm,put_nrm2]
   simp only[nrm,if_true]
   have gx:Grows z1.w x.w:=by have:=x.h;exact ii
   refine wpList_app1F (enc:=encInt) (w0:=w0) (z:=.int .i64 0) (size:=1) (bytes:=8) (n:=n1) o.A rfl (.tmp 141) (.tmp 144) rfl Tryz.underlying46 kr rfl (by decide) (by decide) kr kr HN1.out (HOW.out.to gx) hH rfl (encInt_one _) (by omega) (Nat.le_trans hBz gx.out.size) (growsTr (ii:Grows w0 z1.w) gx) hb ?_
   intro sa3 sc3 xw hown1 hgr1 hblk1
   have hp4:=(GBp.app (F:=fBoardAsked) HG.out HEA.out gx hown1 hgr1 hblk1 HXO.out.2.2.1).1
   clear hown1 hgr1 hblk1 gx hH
   (try simp only[nrm])
   go_upto_region 31 with(first|((with_reducible refine rl ?_);refine rq ?_;intro x)|(refine step_gbN (app_len HN1.out) rfl _ _ _ rfl hp4 rfl rfl kr (w0:=w0) ii hb ?_;intro z6 hz6))
   (try simp only[Act.put])
   go_wp2_with (first|((with_reducible refine rl ?_);refine rq ?_;intro x))
   go_ret
   exact⟨by rw[HD.out];rfl,by rw[HD.out];exact(hz6.to ii).less HXL.out,Later.of⟩
 ·obtain⟨sa,sc,ea,hown,hgood,hrd⟩:=HG.out.own fBoardOrders
  obtain⟨n1,hn1⟩:∃ n,b.Orders.length=n:=⟨_,rfl⟩
  have hnb:n1≤40:=hn1▸HBP.out.2.2.2.2.2.2.2.1
  have HEA:=lH (ea z1.w);have HN1:=lH hn1;have HGO:=lH (show ∀ s∈b.Orders,okDTWaiting s from hgood)
  have ea2:∀ (W:World) [Grows z1.w W],W.cell? ⟨q,4,none⟩=some (.slice sa n1 sc):=fun W g=>HN1.out▸ea W
  have HRD:=lH (show RdS B z1.w sa sc b.Orders from hrd)
  have HOW:=lH (show Own encTWaiting 169 5 B z1.w sa sc b.Orders from hown)
  clear ea hn1 es em hgood hrd hown
  have HD:=lH hd;clear hd
  have HIX:=lH (fun(W:World) (g:Grows z1.w W)=>c_sl05Index (q:=o.A) (b:=q) (l:=b.Orders) (n:=n1) (w0:=z1.w) (w:=W) hqlt.out (ea2 z1.w) HRD.out g HN1.out (by omega))
  go_wp2_with (first|((with_reducible refine rl ?_);(repeat(first|go_big_quiet_step (first|fail)|simp only[k0]|simp only[k1]|simp only[k2]|simp only[k3]|simp only[k4]));refine wpQuiet_nil ?_;intro x))
  refine gm (HIX.out _ ii) ?_
  intro y6
  have HFA:=firstAt_le o.A 0 b.Orders
  cases c3:decide (firstAt o.A 0 b.Orders<0)
  ·have HD2:=lH (show doOrder b o=({ b with Orders:=b.Orders.eraseIdx (firstAt o.A 0 b.Orders).toNat,Done:=b.Done++[⟨o.A,b.Clock,0⟩] },1)by rw[HD.out,if_neg (of_decide_eq_false c3)])
   obtain⟨j,hj⟩:∃ j:Nat,firstAt o.A 0 b.Orders=(j:Int):=⟨(firstAt o.A 0 b.Orders).toNat,by have:=of_decide_eq_false c3;omega⟩
   rw[hj]at c3 HD2 ⊢
   rw[hj,HN1.out]at HFA
   have hjl:j<n1:=by omega
   clear HFA hj
   obtain⟨g5,rfl⟩:∃ g,sa=some ⟨g,0,none⟩:=by
    rcases Own.at0 HOW.out with⟨rfl,h0⟩|h
    ·have:=HOW.out.cap;rw[HN1.out]at this;omega
    ·exact h
   have hlc5:n1≤sc:=by have:=HOW.out.cap;rw[HN1.out]at this;exact this
   have HSL:=lH (HOW.out.sl)
   have HER:=lH (List.eraseIdx_eq_take_drop_succ b.Orders j)
   have HLT:=lH (show(b.Orders.take j).length=j by rw[List.length_take,HN1.out];omega)
   have HLD:=lH (show(b.Orders.drop (j+1)).length=n1 - (j+1)by rw[List.length_drop,HN1.out])
   have HLE:=lH (show(b.Orders.eraseIdx j).length=j+(n1 - (j+1))by rw[erase_len HN1.out hjl];omega)
   have HGE:=lH (show ∀ s∈b.Orders.eraseIdx j,okDTWaiting s from fun s hs=>HGO.out s ((List.eraseIdx_sublist _ j).subset hs))
   obtain⟨o5,ho5⟩:∃ o5,(if sc=j+1 then 0 else 0+(j+1)*5)=o5:=⟨_,rfl⟩
   have HO5E:=lH ho5;clear ho5
   have HCK:=lH (show i64 b.Clock by have:=HBP.out.2.2.2.2.2.1;unfold i64;omega)
   go_upto_region 29 with(first|((with_reducible refine rl ?_);(repeat(first|go_big_quiet_step (first|fail)|simp only[c3]));refine wpQuiet_nil ?_;intro x))
   refine wp_region_stabZ kr (T:=[16,17,18,19]) (Zs:=[(0,[])]) (H:=[(1,[]),(5,[]),(7,[]),(8,[1]),(12,[]),(14,[]),(15,[])]) (C:=[1,8]) (Fs:=[(some 156,.v (.pointer (some ⟨q,0,none⟩))),(some 157,.sl y6.w.heap.size 0 [] 169),(some 158,.v (.pointer (some ⟨q,0,none⟩))),(some 159,.v (.pointer (some ⟨q,0,none⟩))),(some 160,.v (.pointer (some ⟨q,4,none⟩))),(some 161,.v (.slice (some ⟨g5,0,none⟩) n1 sc)),(some 162,.v (.int .i64 j)),(some 163,.v (.slice (some ⟨g5,0,none⟩) j sc)),(some 164,entOw encTWaiting 169 5 y6.w.heap.size j (b.Orders.take j)),(some 165,.v (.pointer (some ⟨q,0,none⟩))),(some 166,.v (.pointer (some ⟨q,0,none⟩))),(some 167,.v (.pointer (some ⟨q,4,none⟩))),(some 168,.v (.slice (some ⟨g5,0,none⟩) n1 sc)),(some 169,.v (.int .i64 j)),(some 170,.v (.int .i64 ((j:Int)+1))),(some 171,.v (.slice (some ⟨g5,o5,none⟩) (n1 - (j+1)) (sc - (j+1)))),(none,.v undef),(none,.v undef),(none,.v undef),(none,.v undef)]) kr (fun val W=>by kernel_rfl) ?ob5 ?lz5 ?pn5 ?tl5
   case ob5 =>
    refine⟨fun x=>?_,fun x=>?_,fun x=>?_,fun x=>?_,fun x=>?_,fun x=>?_,fun x=>?_,trivial⟩
    ·exact g_sl rfl kr LeN.out
    ·exact g_cell (ea2 x.w) rfl kr _ uu79 rfl
    ·exact g_upto (size:=5) (n:=n1) rfl kr uu79 kr (by omega)
    ·refine chain1 fun v0 q0=>chain0 ?_
     obtain⟨b0,rfl,h1,h2⟩:=(show ∃ b,v0=.slice (some ⟨b,0,none⟩) 0 0∧y6.w.heap.size≤b∧Held x.w b [] 169 from q0)
     exact g_appE (c:=sc) (bytes:=40) (z:=.agg #[.int .i64 0,.int .i64 0,.int .i64 0,.int .i64 0,.int .i64 0]) kr uu79 kr rfl (by decide) (by decide) HLT.out encTWaiting_len ((HSL.out.to (growsTr (ii:Grows z1.w y6.w) (ii:Grows y6.w x.w))).take j) (fun h=>by cases h) encTWaiting_one (by omega) h2 h1 LeN.out (fun a9 c9 y9 ho=>⟨⟨y9,rfl⟩,a9,c9,rfl,ho⟩)
    ·exact g_cell (ea2 x.w) rfl kr _ uu79 rfl
    ·exact g_addI (s:=(j:Int)) (t:=1) rfl kr (by omega) (by omega)
    ·exact g_from2 (size:=5) (o:=0) (c:=sc) (j:=j+1) (n:=n1) (by rw[HO5E.out];rfl) kr uu79 kr (by omega) hlc5
   case lz5 =>
    refine⟨fun W hW=>chain0 ?_,trivial⟩
    intro W3
    kernel_rfl
   case pn5=>exact fun _ _ _ _ _ _ h=>h
   case tl5 =>
    intro x
    refine chain1 fun v0 q0=>chain1 fun v5 q5=>?_
    obtain⟨b0,rfl,h01,h02⟩:=(show ∃ b,v0=.slice (some ⟨b,0,none⟩) 0 0∧y6.w.heap.size≤b∧Held x.w b [] 169 from q0)
    obtain⟨ab,cb,rfl,hOb⟩:=(show isOw encTWaiting 169 5 y6.w.heap.size j (b.Orders.take j) v5 x.w from q5)
    clear q0 q5 h01 h02
    refine tail4 rfl rfl rfl rfl ?_
    simp only[put_nrm,put_nrm2]
    simp only[nrm,if_true]
    refine wpList_appS (enc:=encTWaiting) (w0:=y6.w) (z:=.agg #[.int .i64 0,.int .i64 0,.int .i64 0,.int .i64 0,.int .i64 0]) (size:=5) (bytes:=40) (n:=j) (m:=n1 - (j+1)) (c:=sc - (j+1)) (l:=b.Orders.take j) (r:=b.Orders.drop (j+1)) rfl (.tmp 164) (.tmp 171) rfl uu79 kr rfl (by decide) (by decide) kr kr (fun h=>by cases h) HLT.out HLD.out hOb (HO5E.out▸(HSL.out.to (growsTr (ii:Grows z1.w y6.w) (ii:Grows y6.w x.w))).from2 (by rw[HN1.out];exact hlc5) encTWaiting_len) encTWaiting_one (by omega) ?_
    intro sa9 sc9 x9 ho9 hg9
    rw[← HER.out]at ho9
    have hp9:=GBp.new (F:=fBoardOrders) HG.out (growsTr (ii:Grows z1.w y6.w) (ii:Grows y6.w x9.w)) (OwnC.of (ho9.mono (Later.size_le y6)) HGE.out (0,0))
    clear ho9 hg9 hOb
    (try simp only[nrm])
    go_upto_region 30 with(first|((with_reducible refine rl ?_);refine rq ?_;intro x)|(refine step_gbNX HLE.out rfl _ _ _ rfl hp9 rfl rfl kr (w0:=w0) ii hb ?_;intro z8 hz8 hX8))
    (try simp only[Act.put])
    have HX8:=lH ((HX0.out.to (ii:Grows z1.w x9.w)).same (hX8 qo HXq.out))
    have HZ8:=lH (show GB X B q z8.w { b with Orders:=b.Orders.eraseIdx j } from hz8)
    clear hz8 hX8 ea2 ec g0 g2 g3
    have hqz8:LtN q z8.w.heap.size:=⟨HZ8.out.lt⟩
    have hqo8:LtN qo z8.w.heap.size:=⟨HX8.out.lt⟩
    have hBz8:B≤z8.w.heap.size:=by have:=hqz8.out;omega
    have g2:=HX8.out.cellG 2 _ rfl
    obtain⟨vs7,hH7,-,-,⟨A7,hv7,-⟩,-⟩:=HZ8.out.vs
    have ec:∀ (W:World) [Grows z8.w W],W.cell? ⟨q,0,none⟩=some (.int .i64 b.Clock):=hH7.cellG 0 _ (by rw[hv7];rfl)
    obtain⟨sb,sD,ea,hownd,-,-⟩:=HZ8.out.own fBoardDone
    obtain⟨n2,hn2⟩:∃ n,b.Done.length=n:=⟨_,rfl⟩
    have hnb2:n2≤5000:=hn2▸HBP.out.2.2.2.2.2.2.2.2.1
    have HED:=lH (ea z8.w);have HN2:=lH hn2
    have HOD:=lH (show Own encTDone 252 3 B z8.w sb sD b.Done from hownd)
    have ea2:∀ (W:World) [Grows z8.w W],W.cell? ⟨q,5,none⟩=some (.slice sb n2 sD):=fun W g=>HN2.out▸ea W
    clear ea hn2 hownd hH7 hv7
    go_upto_region 30 with(first|((with_reducible refine rl ?_);refine rq ?_;intro x))
    refine wp_region_stabZ kr (T:=[13,14,15,16]) (Zs:=[(0,[])]) (H:=[(4,[]),(6,[]),(10,[]),(12,[])]) (C:=[12]) (Fs:=[(some 175,.v (.pointer (some ⟨q,0,none⟩))),(some 176,.v (.pointer (some ⟨q,0,none⟩))),(some 177,.v (.pointer (some ⟨q,0,none⟩))),(some 178,.v (.pointer (some ⟨q,5,none⟩))),(some 179,.v (.slice sb n2 sD)),(some 180,.v (.pointer (some ⟨qo,2,none⟩))),(some 181,.v (.int .i64 o.A)),(some 182,.v (.pointer (some ⟨q,0,none⟩))),(some 183,.v (.pointer (some ⟨q,0,none⟩))),(some 184,.v (.pointer (some ⟨q,0,none⟩))),(some 185,.v (.int .i64 b.Clock)),(some 186,.v (.agg #[.int .i64 o.A,.int .i64 b.Clock,.int .i64 0])),(some 187,.sl z8.w.heap.size 1 [.int .i64 o.A,.int .i64 b.Clock,.int .i64 0] 252),(none,.v undef),(none,.v undef),(none,.v undef),(none,.v undef)]) kr (fun val W=>by kernel_rfl) ?ob7 ?lz7 ?pn7 ?tl7
    case ob7 =>
     refine⟨fun x=>?_,fun x=>?_,fun x=>?_,fun x=>?_,trivial⟩
     ·exact g_cell (ea2 x.w) rfl kr _ Tryz.underlying80 rfl
     ·exact g_cell (g2 x.w) rfl kr _ uu3 rfl
     ·exact g_cell (ec x.w) rfl kr _ uu3 rfl
     ·exact g_sl rfl kr LeN.out
    case lz7 =>
     refine⟨fun W hW=>chain0 ?_,trivial⟩
     intro W3
     kernel_rfl
    case pn7=>exact fun _ _ _ _ _ _ h=>h
    case tl7 =>
     intro x
     refine chain1 fun v8 q8=>?_
     obtain⟨bs,rfl,hbs,hH⟩:=(show ∃ bb,v8=.slice (some ⟨bb,0,none⟩) 1 1∧z8.w.heap.size≤bb∧Held x.w bb [.int .i64 o.A,.int .i64 b.Clock,.int .i64 0] 252 from q8)
     clear q8
     refine tail4 rfl rfl rfl rfl ?_
     simp only[put_nrm,put_nrm2]
     simp only[nrm,if_true]
     have gx:Grows z8.w x.w:=by have:=x.h;exact ii
     refine wpList_app1F (enc:=encTDone) (w0:=w0) (z:=.agg #[.int .i64 0,.int .i64 0,.int .i64 0]) (size:=3) (bytes:=24) (n:=n2) ⟨o.A,b.Clock,0⟩ rfl (.tmp 179) (.tmp 187) rfl Tryz.underlying80 kr rfl (by decide) (by decide) kr kr HN2.out (HOD.out.to gx) hH rfl (encTDone_one _) (by omega) (Nat.le_trans hBz8 gx.out.size) (growsTr (ii:Grows w0 z8.w) gx) hb ?_
     intro sa3 sc3 xw hown1 hgr1 hblk1
     have hp4:=(GBp.app (F:=fBoardDone) HZ8.out HED.out gx hown1 hgr1 hblk1 ⟨HXO.out.2.2.1,HCK.out,(show i64 0 by unfold i64;omega),trivial⟩).1
     clear hown1 hgr1 hblk1 gx hH
     (try simp only[nrm])
     go_upto_region 31 with(first|((with_reducible refine rl ?_);refine rq ?_;intro x)|(refine step_gbN (app_len HN2.out) rfl _ _ _ rfl hp4 rfl rfl kr (w0:=w0) ii hb ?_;intro z6 hz6))
     (try simp only[Act.put])
     go_wp2_with (first|((with_reducible refine rl ?_);refine rq ?_;intro x))
     go_ret
     exact⟨by rw[HD2.out];rfl,by rw[HD2.out];exact(hz6.to ii).less HXL.out,Later.of⟩
  ·have HD2:=lH (show doOrder b o=(b,0)by rw[HD.out,if_pos (of_decide_eq_true c3)])
   clear HFA
   go_wp2_with (first|((with_reducible refine rl ?_);(repeat(first|go_big_quiet_step (first|fail)|simp only[c3]));refine wpQuiet_nil ?_;intro x))
   go_ret
   exact⟨by rw[HD2.out];rfl,by rw[HD2.out];exact(HG.out.to ii).less HXL.out,Later.of⟩
theorem c_sBoardOkE{B:Nat}{vs:List Value}{b:TBoard}{w:World}(h:Enc.Rd B w vs b)(ht:Enc.tot b≤100000000):Calls Tryz.prog 90 #[.agg vs.toArray] w (Gives w (.bool (boardOk b))):=by
 obtain⟨A,rfl,F⟩:=h
 obtain⟨h0,h1,h2,h3,h4,h5,h6⟩:=board_lens b
 exact k_sBoardOk (bd:=b) F.q0 F.q1 F.q2 F.q3 F.q4 F.q5 F.q6 (g:=.same _ _) F.ok rfl rfl rfl rfl rfl rfl rfl (by omega) (by omega) (by omega) (by omega) (by omega) (by omega) (by omega)
theorem o_sPerformOrder{B:Nat}{vs:List Value}{b:TBoard}{q:TWaiting}{w:World}(h:Enc.Rd B w vs b)(hx:okDTWaiting q)(ht:Enc.tot b≤50000000) :
  Calls Tryz.prog 91 #[.agg vs.toArray,.agg #[.int .i64 q.Number,.int .i64 q.Order.Kind,.int .i64 q.Order.At,.int .i64 q.Order.A,.int .i64 q.Order.B]] w (GivesO w (performOrder b q)):=by
 have HL:=lH (len_board h);have H1:=lH (one_board h)
 have HM:=lH h
 have HT:=lH (show Enc.tot b≤100000000 by omega);have HT5:=lH ht;clear ht
 obtain⟨A,hvs,F⟩:=h
 have HV10:=lH (show vs[10]?=some (.int .i64 b.Taken)by rw[hvs];rfl)
 have HV0:=lH (show vs[0]?=some (.int .i64 b.Clock)by rw[hvs];rfl)
 have HX:=lH hx
 clear hvs F hx
 have HB:=lH ((Held.new w vs 84 w.heap.size rfl).to (ii:Grows _ (((w.alloc (.cells vs.toArray 84)).alloc (.cells #[.int .i64 q.Number,.int .i64 q.Order.Kind,.int .i64 q.Order.At,.int .i64 q.Order.A,.int .i64 q.Order.B] 169)).alloc (.cells zBoard.toArray 84))))
 have HW:=lH ((Held.new (w.alloc (.cells vs.toArray 84)) [.int .i64 q.Number,.int .i64 q.Order.Kind,.int .i64 q.Order.At,.int .i64 q.Order.A,.int .i64 q.Order.B] 169 (w.heap.size+1) (by simp)).to (ii:Grows _ (((w.alloc (.cells vs.toArray 84)).alloc (.cells #[.int .i64 q.Number,.int .i64 q.Order.Kind,.int .i64 q.Order.At,.int .i64 q.Order.A,.int .i64 q.Order.B] 169)).alloc (.cells zBoard.toArray 84))))
 have HR:=lH (Held.new ((w.alloc (.cells vs.toArray 84)).alloc (.cells #[.int .i64 q.Number,.int .i64 q.Order.Kind,.int .i64 q.Order.At,.int .i64 q.Order.A,.int .i64 q.Order.B] 169)) zBoard 84 (w.heap.size+2) (by simp))
 have gW:Grows w (((w.alloc (.cells vs.toArray 84)).alloc (.cells #[.int .i64 q.Number,.int .i64 q.Order.Kind,.int .i64 q.Order.At,.int .i64 q.Order.A,.int .i64 q.Order.B] 169)).alloc (.cells zBoard.toArray 84)):=inferInstance
 have hsz:((((w.alloc (.cells vs.toArray 84)).alloc (.cells #[.int .i64 q.Number,.int .i64 q.Order.Kind,.int .i64 q.Order.At,.int .i64 q.Order.A,.int .i64 q.Order.B] 169)).alloc (.cells zBoard.toArray 84))).heap.size=w.heap.size+3:=by simp
 go_enter Tryz.func91,Tryz.ntmps91
 go_upto_region 1 with(fail)
 generalize (((w.alloc (.cells vs.toArray 84)).alloc (.cells #[.int .i64 q.Number,.int .i64 q.Order.Kind,.int .i64 q.Order.At,.int .i64 q.Order.A,.int .i64 q.Order.B] 169)).alloc (.cells zBoard.toArray 84))=W2 at HB HW HR gW hsz ⊢
 have iB:LtN w.heap.size W2.heap.size:=⟨by omega⟩
 have iW:LtN (w.heap.size+1) W2.heap.size:=⟨by omega⟩
 have iR:LtN (w.heap.size+2) W2.heap.size:=⟨by omega⟩
 have hW2:w.heap.size≤W2.heap.size:=by omega
 go_wp2_with (first|(refine sL rfl _ (.tmp 2) rfl (w.heap.size) rfl HB ii uu84 HL ?_))
 refine(o_copyBoard (x:=b) (Enc.keep HM.out ii) HT.out).mono ?_
 rintro _ _ ⟨cs,χ,rfl,hO,y1,rfl⟩
 have HLC:=lH (len_board (EncO.toRd hO));have HOC:=lH (one_board (EncO.toRd hO));have HO:=lH hO;clear hO
 go_upto_region 2 with(first|(refine sW rfl _ _ _ rfl _ rfl (us:=cs) (Held.new _ zBoard 84 _ rfl) HLC HOC (w0:=W2) ii LeN.out ?_;intro z1 HX1 KX1))
 (try simp only[Act.put])
 obtain⟨qb,hqb⟩:∃ qb,y1.w.heap.size=qb:=⟨_,rfl⟩
 rw[hqb]
 have HG:=lH (show GB (fun _=>False) W2.heap.size qb z1.w b from hqb▸GB.of HO.out (KX1.out.under ii nl) y1.size_le HX1.out)
 have hqB:W2.heap.size≤qb:=HG.out.le
 have hqlt:LtN qb z1.w.heap.size:=⟨HG.out.lt⟩
 clear hqb HX1 KX1 HO HLC HOC
 have e10:=HB.out.cellG 10 _ HV10.out
 have f0:=HW.out.cellG 0 _ rfl
 go_cut [32]from 7 (fun s wx=>s=.bool (!performNow b q)∧∃ y:Later z1.w,wx=y.w)
 case first =>
  go_wp2_with (first|(refine sL rfl _ (.tmp 2) rfl (w.heap.size) rfl HB ii uu84 HL ?_))
  refine gm (c_sBoardOkE (Enc.keep HM.out ii) HT.out) ?_
  intro y0
  cases c0:boardOk b
  ·have HK:=lH (show performNow b q=false by rw[performNow,c0];rfl)
   go_wp2_with (fail)
   go_meet
   case rel=>exact⟨by rw[HK.out];rfl,Later.of⟩
  have HBP:=lH (board_parts c0)
  go_wp2_with (first|(refine stepLoadW kg _ (.tmp 13) rfl (w.heap.size+1) 1 kr (row:=[.int .i64 q.Order.Kind,.int .i64 q.Order.At,.int .i64 q.Order.A,.int .i64 q.Order.B]) (HW.out.to ii) _ Tryz.underlying167 rfl kr rfl ?_))
  refine gm (k_sOrderOk (x:=q.Order)) ?_
  intro y2
  cases c1:orderOk q.Order
  ·have HK:=lH (show performNow b q=false by rw[performNow,c0,c1];rfl)
   go_wp2_with (fail)
   go_meet
   case rel=>exact⟨by rw[HK.out];rfl,Later.of⟩
  obtain⟨ht0,ht1⟩:=HBP.out.2.2.2.2.1
  have hol:=HBP.out.2.2.2.2.2.2.2.1
  go_wp2_with (fail)
  refine gm (c_sl01In) ?_
  intro y3
  cases c2:inB q.Number 0 (b.Taken - 1)
  ·have HK:=lH (show performNow b q=false by rw[performNow,c0,c1,c2];rfl)
   go_wp2_with (fail)
   go_meet
   case rel=>exact⟨by rw[HK.out];rfl,Later.of⟩
  obtain⟨sa,sc,ea,-,-,hrd⟩:=HG.out.own fBoardOrders
  have HIX:=lH (fun(W:World) (g:Grows z1.w W)=>c_sl05Index (q:=q.Number) (b:=qb) (l:=b.Orders) (n:=b.Orders.length) (w0:=z1.w) (w:=W) hqlt.out (ea z1.w) hrd g rfl (by omega))
  clear ea hrd
  go_wp2_with (fail)
  refine gm (HIX.out _ ii) ?_
  intro y4
  have HFA:=firstAt_le q.Number 0 b.Orders
  cases c3:decide (firstAt q.Number 0 b.Orders<0)
  ·have HK:=lH (show performNow b q=false by rw[performNow,c0,c1,c2,c3];rfl)
   have c4:decide (0≤firstAt q.Number 0 b.Orders)=true:=by have:=of_decide_eq_false c3;exact decide_eq_true (by omega)
   go_wp2_with (fail)
   go_meet
   case rel=>exact⟨by rw[HK.out];rfl,Later.of⟩
  ·have HK:=lH (show performNow b q=true by rw[performNow,c0,c1,c2,c3];rfl)
   have c4:decide (0≤firstAt q.Number 0 b.Orders)=false:=by have:=of_decide_eq_true c3;exact decide_eq_false (by omega)
   go_wp2_with (fail)
   go_meet
   case rel=>exact⟨by rw[HK.out];rfl,Later.of⟩
 case rest =>
  obtain⟨rfl,y0,rfl⟩:=hcut
  cases hk:performNow b q
  ·have HK:=lH (show performOrder b q=b by rw[performOrder,hk];rfl)
   clear hk
   obtain⟨vs9,hH9,hl9,h19,-,χ9,hO9⟩:=HG.out.vs
   have HH9:=lH hH9;have HO9:=lH hO9;have H19:=lH h19;have HL9:=lH (show vs9.length=12 from hl9)
   clear hO9 hH9 h19 hl9
   go_wp2_with (first|(refine sL rfl _ (.tmp 5) rfl (qb) kr HH9 ii uu84 HL9 ?_)|(refine sW rfl _ _ _ rfl (w.heap.size+2) rfl (us:=vs9) (HR.out.to ii) HL9 H19 (w0:=w) ii (by omega) ?_;intro z7 HX7 KX7))
   refine bodyPost_ret (v:=.agg vs9.toArray) (results_cell (P:=Tryz.prog) rfl rfl HX7.out _ uu84 rfl (by rw[HL9.out];kernel_rfl)) rfl ?_
   rw[HK.out]
   exact⟨vs9,χ9,rfl,obox_fin (obox_to HO9.out ii) KX7.out (show w.heap.size+2<W2.heap.size by omega) hW2,Later.of⟩
  have HK:=lH hk
  rw[performNow,Bool.and_eq_true,Bool.and_eq_true]at hk
  have HBP:=lH (board_parts hk.1)
  have HPF:=lH (fun(W:World) (g:Grows z1.w W) (g2:Grows W2 W)=>c_sl05Perform (o:=q.Order) (w0:=W2) (HG.out.to g) hk.1 hk.2.1 HX.out.2.1 g2 nl)
  clear hk e10
  have e0:=HB.out.cellG 0 _ HV0.out
  go_wp2_with (first|(refine stepLoadW kg _ (.tmp 34) rfl (w.heap.size+1) 1 kr (row:=[.int .i64 q.Order.Kind,.int .i64 q.Order.At,.int .i64 q.Order.A,.int .i64 q.Order.B]) (HW.out.to ii) _ Tryz.underlying167 rfl kr rfl ?_))
  refine(HPF.out _ ii ii).mono ?_
  rintro _ _ ⟨rfl,hz6,z6,rfl⟩
  have HMO:=lH (doOrder_more b q.Order)
  have HCK:=lH (show(doOrder b q.Order).1.Clock=b.Clock from(doOrder_orders b q.Order).2)
  have HZ6:=lH hz6;clear hz6
  obtain⟨D,hD⟩:∃ D,(doOrder b q.Order).1=D:=⟨_,rfl⟩
  obtain⟨R,hR⟩:∃ R,(doOrder b q.Order).2=R:=⟨_,rfl⟩
  have HPR:=lH (show performRes b q={ D with Done:=D.Done++[⟨q.Number,b.Clock,R⟩] } by rw[performRes,hD,hR])
  rw[hR,hD]at HMO
  rw[hD]at HZ6 HCK
  rw[hR]
  clear hD hR
  have hqb6:LtN qb z6.w.heap.size:=⟨HZ6.out.lt⟩
  obtain⟨sb,sD,ea,hownd,-,-⟩:=HZ6.out.own fBoardDone
  obtain⟨n2,hn2⟩:∃ n,D.Done.length=n:=⟨_,rfl⟩
  have hnb2:n2≤5001:=by have h1:=HMO.out.1;have h2:=HBP.out.2.2.2.2.2.2.2.2.1;omega
  have HED2:=lH (ea z6.w);have HN2:=lH hn2
  have ea2:∀ (W:World) [Grows z6.w W],W.cell? ⟨qb,5,none⟩=some (.slice sb n2 sD):=fun W g=>HN2.out▸ea W
  clear ea hn2
  have HGD:=lH (show i64 q.Number∧i64 b.Clock∧i64 R∧True from⟨HX.out.1,by have:=HBP.out.2.2.2.2.2.1;unfold i64;omega,by have:=HMO.out.2.2;unfold i64;omega,trivial⟩)
  go_upto_region 6 with(first|(at_builtin;refine wpList_app1F (enc:=encTDone) (w0:=W2) (z:=.agg #[.int .i64 0,.int .i64 0,.int .i64 0]) (size:=3) (bytes:=24) (n:=n2) (⟨q.Number,b.Clock,R⟩) rfl (.tmp 38) (.tmp 45) rfl Tryz.underlying80 kr rfl (by decide) (by decide) rfl rfl HN2.out (hownd.to ii) bk rfl (encTDone_one _) (by omega) LeN.out ii nl ?_;intro sa9 sc9 xa9 hown1 hgr1 hblk1;have hp9:=(GBp.app (F:=fBoardDone) HZ6.out HED2.out ii hown1 hgr1 hblk1 HGD.out).1;clear hown1 hgr1 hblk1)|(refine step_gbN (app_len HN2.out) rfl _ _ _ rfl hp9 rfl rfl kr ii nl ?_;intro z9 hz9))
  (try simp only[Act.put])
  have HZ9:=lH (show GB (fun _=>False) W2.heap.size qb z9.w (performRes b q)by rw[HPR.out];exact hz9)
  have HTP:=lH (show Enc.tot (performRes b q)≤100000000 by
   have h1:=HMO.out.2.1;have h2:=HT5.out
   rw[HPR.out,board_tot];rw[board_tot]at h1;simp only[List.length_append,List.length_singleton];omega)
  clear hz9 e0 ea2 hownd
  have hqb9:LtN qb z9.w.heap.size:=⟨HZ9.out.lt⟩
  obtain⟨vs9,hH9,hl9,h19,hrd9,χ9,hO9⟩:=HZ9.out.vs
  have HH9:=lH hH9;have HO9:=lH hO9;have H19:=lH h19;have HL9:=lH (show vs9.length=12 from hl9);have HRD9:=lH hrd9
  clear hO9 hH9 h19 hl9 hrd9
  go_wp2_with (first|(refine sL rfl _ (.tmp 5) rfl (qb) kr HH9 ii uu84 HL9 ?_))
  refine gm (c_sBoardOkE (Enc.keep HRD9.out ii) HTP.out) ?_
  intro y9
  cases hr:boardOk (performRes b q)
  ·have HKR:=lH (show performOrder b q=b by rw[performOrder,HK.out,if_pos rfl,hr];rfl)
   go_wp2_with (first|(refine sL rfl _ (.tmp 2) rfl (w.heap.size) rfl HB ii uu84 HL ?_))
   refine(o_copyBoard (x:=b) (Enc.keep HM.out ii) HT.out).mono ?_
   rintro _ _ ⟨cs8,χ8,rfl,hO8,y8,rfl⟩
   have HLC:=lH (len_board (EncO.toRd hO8));have HOC:=lH (one_board (EncO.toRd hO8));have HO:=lH hO8;clear hO8
   go_wp2_with (first|(refine sW rfl _ _ _ rfl (w.heap.size+2) rfl (us:=cs8) (HR.out.to ii) HLC HOC (w0:=w) ii (by omega) ?_;intro z8 HX8 KX8))
   refine bodyPost_ret (v:=.agg cs8.toArray) (results_cell (P:=Tryz.prog) rfl rfl HX8.out _ uu84 rfl (by rw[HLC.out];kernel_rfl)) rfl ?_
   rw[HKR.out]
   exact⟨cs8,χ8,rfl,obox_fin HO.out KX8.out LtN.out LeN.out,Later.of⟩
  ·have HKR:=lH (show performOrder b q=performRes b q by rw[performOrder,HK.out,if_pos rfl,if_pos hr])
   go_wp2_with (first|(refine sL rfl _ (.tmp 5) rfl (qb) kr HH9 ii uu84 HL9 ?_)|(refine sW rfl _ _ _ rfl (w.heap.size+2) rfl (us:=vs9) (HR.out.to ii) HL9 H19 (w0:=w) ii (by omega) ?_;intro z7 HX7 KX7))
   refine bodyPost_ret (v:=.agg vs9.toArray) (results_cell (P:=Tryz.prog) rfl rfl HX7.out _ uu84 rfl (by rw[HL9.out];kernel_rfl)) rfl ?_
   rw[HKR.out]
   exact⟨vs9,χ9,rfl,obox_fin (obox_to HO9.out ii) KX7.out (show w.heap.size+2<W2.heap.size by omega) hW2,Later.of⟩
