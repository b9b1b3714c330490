/- setParam, makeRecord of the program, on a board in a box. No condition but on sizes. -/
import Derived.Test.YthbepablpaldgaaGreatSM43
import Derived.Test.YthbepablpaldgaaGreatSM38
import Derived.Deep.CutRange
namespace Go.Proofs.YthbepablpaldgaaGreat
set_option maxRecDepth 100000
set_option maxHeartbeats 4000000
set_option linter.unusedVariables false
open Go.ChangeShapes Go.WideShapes Go.ChangeAt Go.RowKit
def badLim(p v:Int)(l:TLimit):Bool:=(l.Param == p) && (decide (v<l.Low) || decide (l.High<v))
theorem setParam_is(b:TBoard)(j:Nat)(v:Int):setParam b j v={ b with Params:=b.Params.set j v,Safe:=b.Safe || b.Limits.any (badLim j v) }:=rfl
theorem c_isetParam{X:Nat→Prop}{B q j:Nat}{v:Int}{b:TBoard}{w0 w:World}(h:GB X B q w b)(hj:j<8)(hp:b.Params.length=8)(hv:i64 v)(hl:b.Limits.length≤8)(g:Grows w0 w)(hb:w0.heap.size≤B) :
  Calls Tryz.prog 225 #[.pointer (some ⟨q,0,none⟩),.int .i64 j,.int .i64 v] w (fun e w'=>(∃ u,e=.returned u)∧GB X B q w' (setParam b j v)∧∃ z:Later w0,w'=z.w):=by
 obtain⟨n,hn⟩:∃ n,b.Limits.length=n:=⟨_,rfl⟩
 rw[hn]at hl
 have HN:=lH hn;have HP:=lH hp
 have HG:=lH h
 have hqlt:LtN q w.heap.size:=⟨h.lt⟩
 have hqB:B≤q:=h.le
 obtain⟨pa,pc,ep,hop,-,-⟩:=h.own fBoardParams
 obtain⟨qp,rfl⟩:∃ g,pa=some ⟨g,0,none⟩:=by
  obtain⟨-,-,⟨h1,h2⟩|⟨g,cap,cur,h1,-⟩⟩:=hop
  ·rw[show(fBoardParams.get b).length=8 from hp]at h2;omega
  ·simp only[Value.slice.injEq]at h1;exact⟨g,h1.1⟩
 have hqq:qp≠q:=by
  intro e
  obtain⟨vs,hH,-⟩:=h.vs
  exact hop.notHeld (n:=8) (e▸hH) (by decide) (by rw[ownBlock_eq,e];rfl)
 have HEP:=lH (ep w)
 have ep2:∀ (W:World) [Grows w W],W.cell? ⟨q,1,none⟩=some (.slice (some ⟨qp,0,none⟩) 8 pc):=fun W g=>HP.out▸ep W
 have HEPG:∀ (W:World),Grows w W→W.cell? ⟨q,fBoardParams.off,none⟩=some (.slice (some ⟨qp,0,none⟩) (fBoardParams.get b).length pc):=fun W g=>ep W
 have hjl:j<(fBoardParams.get b).length:=by rw[show(fBoardParams.get b).length=8 from hp];exact hj
 clear ep hop hn hp h
 go_enter Tryz.func225,Tryz.ntmps225
 go_upto_region 1 with(first|(refine step_gbE (v0:=.int .i64 v) (y0:=v) fBoardParams rfl _ (.tmp 14) (.tmp 13) rfl (HG.out.to ii) (HEPG _ ii) hqq rfl kr rfl kr rfl hjl rfl hv ii hb ?_;intro z1 hz1))
 (try simp only[Act.put])
 have HZ1:=lH hz1;clear hz1 ep2
 obtain⟨la,lc,el,-,-,-⟩:=HZ1.out.own fBoardLimits
 have el2:∀ (W:World) [Grows z1.w W],W.cell? ⟨q,3,none⟩=some (.slice la n lc):=fun W g=>HN.out▸el W
 have HEL:=lH (el2 z1.w)
 clear el
 go_wp2_with (fail)
 go_loopw [20] (fun u wr=>∃ (k:Nat) (sf:Bool),u=.int .i64 k∧k≤n∧Hid ((sf || (b.Limits.drop k).any (badLim j v))=(b.Safe || b.Limits.any (badLim j v)))∧Hid (wr.cell? ⟨q,3,none⟩=some (.slice la n lc))∧Hid (GB X B q wr { b with Params:=b.Params.set j v,Safe:=sf })∧∃ y:Later w0,wr=y.w) (fun u _=>(n - intOf u).toNat)
 case atStart=>exact⟨0,b.Safe,rfl,Nat.zero_le _,rfl,el2 _,HZ1.out.to ii,Later.of⟩
 case round =>
  obtain⟨k,sf,rfl,hk,HV,HC,HGR,y,rfl⟩:=hrel
  by_cases hkn:k<n
  ·have kc:decide ((k:Int)<(n:Int))=true:=by simp;omega
   obtain⟨la1,lc1,el1,-,-,hrd⟩:=HGR.out.own fBoardLimits
   have e1:=(el1 y.w).symm.trans HC.out
   simp only[Option.some.injEq,Value.slice.injEq]at e1
   obtain⟨rfl,-,rfl⟩:=e1
   have hrd:RdS B y.w la1 lc1 b.Limits:=hrd
   obtain⟨eb,eoff,es,rfl,ehb,ehd,eok,eh0,eh1,eh2⟩:=hrd.atTLimit (show k<b.Limits.length by rw[HN.out];exact hkn)
   have EOK:=lH eok;clear eok el1 hrd
   have hqy:LtN q y.w.heap.size:=⟨HGR.out.lt⟩
   cases c1:(es.Param == (j:Int))
   ·have HF:=lH (show(sf || (b.Limits.drop (k+1)).any (badLim j v))=(b.Safe || b.Limits.any (badLim j v))by have:=HV.out;rw[ehd.out,List.any_cons,badLim,c1]at this;exact this)
    go_wp2_with (fail)
    go_roundw
    case rel=>exact⟨k+1,sf,by go_num,by omega,HF,cell_grown HGR.out.lt HC.out _,HGR.out.to ii,Later.of⟩
    case measure=>simp[intOf];omega
   ·cases c2:decide (v<es.Low) || decide (es.High<v)
    ·obtain⟨c3,c4⟩:=Bool.or_eq_false_iff.1 c2
     have HF:=lH (show(sf || (b.Limits.drop (k+1)).any (badLim j v))=(b.Safe || b.Limits.any (badLim j v))by have:=HV.out;rw[ehd.out,List.any_cons,badLim,c1,c2]at this;exact this)
     clear c2
     go_wp2_with (fail)
     go_roundw
     case rel=>exact⟨k+1,sf,by go_num,by omega,HF,cell_grown HGR.out.lt HC.out _,HGR.out.to ii,Later.of⟩
     case measure=>simp[intOf];omega
    ·have HF:=lH (show(true || (b.Limits.drop (k+1)).any (badLim j v))=(b.Safe || b.Limits.any (badLim j v))by have:=HV.out;rw[ehd.out,List.any_cons,badLim,c1,c2]at this;rw[← this];simp)
     have hcc:(decide (v<es.Low)=true)∨(decide (v<es.Low)=false∧decide (es.High<v)=true):=by
      cases h1:decide (v<es.Low)
      ·rw[h1]at c2;exact .inr ⟨rfl,c2⟩
      ·exact .inl rfl
     clear c2
     have HGK:=lH (fun(W:World) (g:Grows y.w W)=>HGR.out.to g)
     rcases hcc with c3|⟨c3,c4⟩
     ·go_upto_region 6 with(first|(refine step_gbK (o:=2) (us:=[.bool true]) ({ b with Params:=b.Params.set j v,Safe:=true }:TBoard) rfl _ (.tmp 42) _ rfl (HGK.out _ ii) rfl rfl kr rfl nb (by intros;rename_i h;obtain⟨A1,rfl,q⟩:=h;exact⟨A1,rfl,{ q with ok:=q.ok }⟩) ii hb ?_;intro z2 hz2 hc2))
      (try simp only[Act.put])
      have HZ2:=lH hz2;have HC2:=lH ((hc2 3 (.inr (by decide))).trans (cell_grown HGR.out.lt HC.out _));clear hz2 hc2
      go_wp2_with (fail)
      go_roundw
      case rel=>exact⟨k+1,true,by go_num,by omega,HF,cell_grown HZ2.out.lt HC2.out _,HZ2.out.to ii,Later.of⟩
      case measure=>simp[intOf];omega
     ·go_upto_region 6 with(first|(refine step_gbK (o:=2) (us:=[.bool true]) ({ b with Params:=b.Params.set j v,Safe:=true }:TBoard) rfl _ (.tmp 42) _ rfl (HGK.out _ ii) rfl rfl kr rfl nb (by intros;rename_i h;obtain⟨A1,rfl,q⟩:=h;exact⟨A1,rfl,{ q with ok:=q.ok }⟩) ii hb ?_;intro z2 hz2 hc2))
      (try simp only[Act.put])
      have HZ2:=lH hz2;have HC2:=lH ((hc2 3 (.inr (by decide))).trans (cell_grown HGR.out.lt HC.out _));clear hz2 hc2
      go_wp2_with (fail)
      go_roundw
      case rel=>exact⟨k+1,true,by go_num,by omega,HF,cell_grown HZ2.out.lt HC2.out _,HZ2.out.to ii,Later.of⟩
      case measure=>simp[intOf];omega
  ·have kc:decide ((k:Int)<(n:Int))=false:=by simp;omega
   have HF:=lH (show sf=(b.Safe || b.Limits.any (badLim j v))by have:=HV.out;rw[List.drop_of_length_le (by rw[HN.out];omega)]at this;simpa using this)
   go_wp2_with (fail)
   refine bodyPost_end (v:=.tuple #[]) (by simp[results,Tryz.results225,go_sem]) rfl ?_
   exact⟨⟨_,rfl⟩,(by rw[setParam_is,← HF.out];exact HGR.out.to ii),Later.of⟩
theorem c_imakeRecord{X:Nat→Prop}{B q:Nat}{p:Int}{b:TBoard}{w0 w:World}(h:GB X B q w b)(hp:b.Params.length=8)(hall:allB 0 65535 b.Params=true)(hm:0≤b.Made∧b.Made≤65535)(hip:i64 p)(hic:i64 b.Clock)(ht:Enc.tot b.Recorder≤50000000)(g:Grows w0 w)(hb:w0.heap.size≤B) :
  Calls Tryz.prog 226 #[.pointer (some ⟨q,0,none⟩),.int .i64 p] w (fun e w'=>(∃ u,e=.returned u)∧GB X B q w' (makeRec b p)∧∃ z:Later w0,w'=z.w):=by
 have HG:=lH h
 have HP:=lH hp;have HA:=lH hall;clear hp hall
 have hqlt:LtN q w.heap.size:=⟨h.lt⟩
 obtain⟨pa,pc,ep,-,-,hrd⟩:=h.own fBoardParams
 have ep2:∀ (W:World) [Grows w W],W.cell? ⟨q,1,none⟩=some (.slice pa 8 pc):=fun W g=>HP.out▸ep W
 have hrd:RdS B w pa pc b.Params:=hrd
 clear ep h
 go_enter Tryz.func226,Tryz.ntmps226
 go_wp2_with (first|((with_reducible refine rl ?_);refine rq ?_;intro x))
 go_loopw [4,12] (fun u v wr=>∃ (k:Nat) (s:ByteArray),v=.int .i64 k∧u=.string s∧k≤8∧s.size=2*k∧Hid (s=paramText (b.Params.take k))∧∃ y:Later w,wr=y.w) (fun _ v _=>(8 - intOf v).toNat)
 case atStart=>exact⟨0,⟨#[]⟩,rfl,rfl,by omega,rfl,rfl,Later.of⟩
 case round =>
  obtain⟨k,s,rfl,rfl,hk,hsz,HV,y,rfl⟩:=hrel
  by_cases hk8:k<8
  ·obtain⟨eb,eoff,es,rfl,ehb,ehd,h0⟩:=(RdS.toSlInt hrd).int (show k<b.Params.length by rw[HP.out];exact hk8)
   have hin:=inB_iff.1 (allB_drop HA.out ehd.out)
   have HF:=lH (show s++word2 es=paramText (b.Params.take (k+1))by rw[take_snoc ehd.out,paramText_snoc,← HV.out])
   have kc:decide ((k:Int)<8)=true:=by simp;omega
   go_wp2_with (first|((with_reducible refine rl ?_);(repeat(first|go_big_quiet_step (first|(go_at_call 172;exact Gives.quiet (c_iPutWord2 (by omega) (by omega))))|simp only[kc]));refine wpQuiet_nil ?_;intro x)|(go_at_call 172;refine gm (c_iPutWord2 (by omega) (by omega)) ?_;intro x))
   go_roundw
   case rel=>exact⟨k+1,s++word2 es,by go_num,rfl,by omega,by rw[ByteArray.size_append,hsz,word2_size];omega,HF,Later.of⟩
   case measure=>simp[intOf];omega
  ·obtain rfl:k=8:=by omega
   have kc:decide (((8:Nat):Int)<8)=false:=rfl
   have hs:s=paramText b.Params:=by rw[HV.out,List.take_of_length_le (by rw[HP.out];exact Nat.le_refl _)]
   obtain⟨vs5,hV5,-,-,⟨A,hvs5,F⟩,-⟩:=HG.out.vs
   have HV5:=lH hV5
   obtain⟨rc,hrc⟩:∃ rc,(vs5.drop 6).take 3=rc:=⟨_,rfl⟩
   have HRC:=lH hrc
   have HRR:=lH (show Enc.Rd B w rc b.Recorder from by rw[← hrc,hvs5];exact⟨A.a4,A.c4,A.a5,A.c5,rfl,F.q4,F.q5,F.ok.2.1⟩)
   have HM9:=lH (show vs5[9]?=some (.int .i64 b.Made)by rw[hvs5];rfl)
   have HC0:=lH (show vs5[0]?=some (.int .i64 b.Clock)by rw[hvs5];rfl)
   have HRL:=lH (or_len HRR.out)
   have hkd:okDTRecord ⟨b.Made,p,b.Clock,s⟩:=⟨(show i64 b.Made by unfold i64;omega),hip,hic,by show s.size≤_;omega,trivial⟩
   clear hV5 hvs5 F hrc HV
   go_upto_region 6 with(first|((with_reducible refine rl ?_);(repeat(first|go_big_quiet_step (first|fail)|simp only[kc]));refine wpQuiet_nil ?_;intro x))
   refine wp_region_stabZ kr (T:=[19]) (Zs:=[]) (H:=[(4,[]),(8,[]),(13,[]),(16,[])]) (C:=[16]) (Fs:=[(some 21,.v (.pointer (some ⟨q,0,none⟩))),(some 22,.v (.pointer (some ⟨q,0,none⟩))),(some 23,.v (.pointer (some ⟨q,0,none⟩))),(some 24,.v (.pointer (some ⟨q,6,none⟩))),(some 25,.v (.agg rc.toArray)),(some 26,.v (.pointer (some ⟨q,0,none⟩))),(some 27,.v (.pointer (some ⟨q,0,none⟩))),(some 28,.v (.pointer (some ⟨q,9,none⟩))),(some 29,.v (.int .i64 b.Made)),(some 30,.v (.int .i64 p)),(some 31,.v (.pointer (some ⟨q,0,none⟩))),(some 32,.v (.pointer (some ⟨q,0,none⟩))),(some 33,.v (.pointer (some ⟨q,0,none⟩))),(some 34,.v (.int .i64 b.Clock)),(some 35,.v (.string s)),(some 36,.v (.agg #[.int .i64 b.Made,.int .i64 p,.int .i64 b.Clock,.string s])),(some 37,entO y.w.heap.size (keepRecord b.Recorder ⟨b.Made,p,b.Clock,s⟩)),(some 38,.v (.pointer (some ⟨q,0,none⟩))),(some 39,.v (.pointer (some ⟨q,6,none⟩))),(none,.v undef)]) kr (fun val W=>by kernel_rfl) ?ob6 ?lz6 ?pn6 ?tl6
   case ob6 =>
    refine⟨fun x=>?_,fun x=>?_,fun x=>?_,fun x=>?_,trivial⟩
    ·exact g_row (o:=6) (cs:=vs5) (row:=rc) (HV5.out.to (growsTr (ii:Grows w y.w) (ii:Grows y.w x.w))) rfl kr _ Tryz.underlying82 rfl (by rw[HRL.out];kernel_rfl) (by rw[HRL.out];exact HRC.out)
    ·exact g_one (o:=9) (v:=.int .i64 b.Made) (HV5.out.to (growsTr (ii:Grows w y.w) (ii:Grows y.w x.w))) rfl kr HM9.out _ Tryz.underlying3 rfl
    ·exact g_one (o:=0) (v:=.int .i64 b.Clock) (HV5.out.to (growsTr (ii:Grows w y.w) (ii:Grows y.w x.w))) rfl kr HC0.out _ Tryz.underlying3 rfl
    ·refine g_call (f:=269) (args:=[.agg rc.toArray,.agg #[.int .i64 b.Made,.int .i64 p,.int .i64 b.Clock,.string s]]) Tryz.func269 kr kr ((o_iKeepRecord (rx:=⟨b.Made,p,b.Clock,s⟩) (Enc.keep HRR.out (Keeps.trans (ii:Keeps B w y.w) (ii:Keeps B y.w x.w))) hkd ht).mono ?_)
     rintro _ _ ⟨vs2,χ2,rfl,hO2,y2,rfl⟩
     exact⟨_,rfl,⟨y2,rfl⟩,vs2,χ2,rfl,OBox.map hO2 (.mono x.size_le)⟩
   case lz6 =>
    exact trivial
   case pn6=>exact fun _ _ _ _ _ _ h=>h
   case tl6 =>
    intro x
    refine chain1 fun v16 q16=>?_
    obtain⟨vs2,χ2,rfl,hO2⟩:=(show isO y.w.heap.size (keepRecord b.Recorder ⟨b.Made,p,b.Clock,s⟩) v16 x.w from q16)
    clear q16
    refine tail1 rfl ?_
    simp only[put_nrm]
    simp only[Act.put,List.setIfInBounds_toArray,List.set_cons_succ,List.set_cons_zero]
    have gx:Grows w x.w:=growsTr (ii:Grows w y.w) (ii:Grows y.w x.w)
    have gx0:Grows w0 x.w:=growsTr g gx
    have HL2:=lH (or_len (EncO.toRd hO2))
    have HPP:=lH (GBq.new (D:=fBoardRecorder) HG.out gx (OBox.map hO2 (.mono y.size_le)))
    clear hO2
    go_upto_region 7 with(first|((with_reducible refine rl ?_);refine rq ?_;intro x)|(refine step_gbD rfl _ (.tmp 39) (.tmp 37) rfl HPP.out rfl rfl (by rw[HL2.out];kernel_rfl) (w0:=w0) gx0 hb ?_;intro z1 hz1 hX1))
    (try simp only[Act.put])
    obtain⟨vs7,hH7,-,-,⟨A7,hv7,-⟩,-⟩:=hz1.vs
    have e9:=hH7.cellG 9 (.int .i64 b.Made) (by rw[hv7];rfl)
    have HZ1:=lH hz1;clear hz1 hX1 hH7 hv7
    go_wp2_with (first|((with_reducible refine rl ?_);refine rq ?_;intro x)|(refine step_gbC (o:=9) (us:=[.int .i64 (b.Made+1)]) (makeRec b p) rfl _ (.tmp 46) (.tmp 44) rfl HZ1.out rfl rfl kr rfl nb (by intros;rename_i h;obtain⟨A1,rfl,k1⟩:=h;rw[hs]at k1 ⊢;exact⟨A1,rfl,{ k1 with ok:=⟨k1.ok.1,k1.ok.2.1,(show i64 (b.Made+1)by unfold i64;omega),k1.ok.2.2.2⟩ }⟩) ii hb ?_;intro z2 hz2 hX2))
    refine bodyPost_end (v:=.tuple #[]) (by simp[results,Tryz.results226,go_sem]) rfl ?_
    exact⟨⟨_,rfl⟩,hz2,Later.of⟩
