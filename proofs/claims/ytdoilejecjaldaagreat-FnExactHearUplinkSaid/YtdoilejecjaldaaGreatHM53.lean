/- What a command that was taken does, of the reference, on a mission in a box. No condition but on sizes. -/
import Derived.Test.YtdoilejecjaldaaGreatHM50
import Derived.Test.YtdoilejecjaldaaGreatHAccS
import Derived.Test.YtdoilejecjaldaaGreatHM15
import Derived.Deep.CutRange
import Derived.Test.YtdoilejecjaldaaGreatHRcvS4
import Derived.Test.YtdoilejecjaldaaGreatHRcvS2
import Derived.Test.YtdoilejecjaldaaGreatHM38
import Derived.Test.YtdoilejecjaldaaGreatHCopyMS
import Derived.Test.YtdoilejecjaldaaGreatHM44
import Derived.Test.YtdoilejecjaldaaGreatHDOf
import Derived.Test.YtdoilejecjaldaaGreatHM0
namespace Go.Proofs.YtdoilejecjaldaaGreat
set_option maxRecDepth 100000
set_option maxHeartbeats 4000000
set_option linter.unusedVariables false
open Go.ChangeShapes Go.WideShapes Go.ChangeAt Go.RowKit
private abbrev bF6:=Tryz.underlying60
private abbrev aq8:=Tryz.underlying90
theorem bd1{B:Nat}{vs:List Value}{o:j7}{f:Int}{l:List Int}{a:Option Addr}{n c:Nat}{w:World}(h:Enc.Rd B w vs o)(ho:R4 o=true)(hl:Sl K0 w a l)(hn:l.length=n)(hm:n≤1000) :
  Calls Tryz.prog 87 #[.agg vs.toArray,.int .i64 f,.slice a n c] w (U0 w (ab1 o f l)):=by
 obtain⟨a0,c0,rfl,h1,-⟩:=h
 have hb:=av6 ho
 have hg:=bk1 f l ho
 refine(aZ7 (RdS.toSlInt h1) hl h1.nilcap rfl hn (by omega) (by omega) (by omega)).mono ?_
 rintro _ _ ⟨a1,c1,rfl,o1,y1,rfl⟩
 exact⟨_,fun _=>(0,0),rfl,⟨a1,c1,rfl,⟨D0.of o1 hg.2 (0,0),hg.1⟩⟩,b5.of⟩
theorem ar8{X:Nat→Prop}{B q:Nat}{m:f5}{w0 w:World}(h:GB X B q w m)(h0:0≤m.Bad)(h1:m.Bad≤1000000)(g:d5 w0 w)(hb:w0.heap.size≤B):Calls Tryz.prog 21 #[.pointer (some ⟨q,0,none⟩)] w (bl6 X B q w0 w (aq6 m)):=by
 have HG:=lH h
 have hqlt:LtN q w.heap.size:=⟨h.lt⟩
 have hqB:B≤q:=h.le
 obtain⟨vs,A,hV,hvs,-⟩:=aq2 h
 have eb:∀ (W:World) [d5 w W],W.cell? ⟨q,60,none⟩=some (.int .i64 m.Bad):=fun W g=>(hV.to g).cell 60 |>.trans (by rw[hvs];rfl)
 clear hV hvs h
 go_enter Tryz.func21,Tryz.ntmps21
 have HBV:=lH (show min (m.Bad+1) 1000000=if m.Bad<1000000 then m.Bad+1 else m.Bad by split<;>omega)
 go_wp2_with (first|(refine ax1 (o:=60) (us:=[.int .i64 (min (m.Bad+1) 1000000)]) ({ m with Bad:=min (m.Bad+1) 1000000 }:f5) rfl _ (.tmp 10) (.tmp 8) rfl (HG.out.to ii) rfl rfl kr rfl nb (by intros;rename_i h;obtain⟨A1,rfl,p⟩:=h;exact⟨A1,rfl,{ p with ok:=by rw[aJ7 HBV.out];exact bN8 p.ok h0 h1 }⟩) (w0:=w0) ii hb ?_;intro z6 hz6 hX6))
 (first|(refine bodyPost_end (v:=.tuple #[]) (by simp[results,Tryz.results21,go_sem]) rfl ?_)|(refine bodyPost_ret (v:=.tuple #[]) (by simp[results,Tryz.results21,go_sem]) rfl ?_))
 rw[aJ7 HBV.out]at hz6
 exact⟨⟨_,rfl⟩,hz6,fun k hk=>(hX6 k hk).trans ((ii:d5 w _).out.block k (HG.out.xs hk).2),b5.of⟩
theorem bA6{X:Nat→Prop}{B q k:Nat}{m:f5}{d:ByteArray}{w0 w:World}(h:GB X B q w m)(hi:X5 k m)(hk:k≤1000000)(hd:d.size≤100)(g:d5 w0 w)(hb:w0.heap.size≤B):Calls Tryz.prog 23 #[.pointer (some ⟨q,0,none⟩),.string d] w (bl6 X B q w0 w (pay (aI6 m d) d)):=by
 have HG:=lH h;have HI:=lH hi;clear h hi
 have hqlt:LtN q w.heap.size:=⟨HG.out.lt⟩
 have hqB:B≤q:=HG.out.le
 obtain⟨ta,tc,te,town,tgood,-⟩:=HG.out.own bH5
 have HTE:=lH (te w)
 have HTO:=lH (show Own R3 9 1 B w ta tc m.Took from town)
 obtain⟨tn,htn⟩:∃ n,m.Took.length=n:=⟨_,rfl⟩
 have HTN:=lH htn
 have htb:tn≤1000000000:=by have:=HI.out.took;omega
 have te2:∀ (W:World) [d5 w W],W.cell? ⟨q,59,none⟩=some (.slice ta tn tc):=fun W g=>htn▸te W
 clear te town htn tgood
 have hBw:B≤w.heap.size:=by have:=HG.out.le;have:=HG.out.lt;omega
 go_enter Tryz.func23,Tryz.ntmps23
 go_upto_region 1 with(first|((with_reducible refine rl ?_);refine rq ?_;intro x)|(at_builtin;refine X9 (enc:=R3) (w0:=w0) (z:=.string ⟨#[]⟩) (size:=1) (bytes:=16) (n:=tn) d rfl (.tmp 13) (.tmp 15) rfl Tryz.underlying30 kr rfl (by decide) (by decide) rfl rfl HTN.out (HTO.out.to ii) bk rfl (as6 _) htb (Nat.le_trans hBw (ii:d5 w _).out.size) ii hb ?_;intro sa3 sc3 x3 hown1 hgr1 hblk1;have hp3:=GBp.app (F:=bH5) HG.out HTE.out (ii:d5 w _) hown1 hgr1 hblk1 (show d.size≤9223372036854775807 by omega);have HP3:=lH hp3.1;have HX3:=lH (show ∀ k,X k→x3.w.heap[k]?=w.heap[k]? from fun k hk=>(hp3.2 k hk).trans ((ii:d5 w _).out.block k (HG.out.xs hk).2));clear hown1 hgr1 hblk1 hp3)|(refine ax2 (aX4 HTN.out) rfl _ _ _ rfl HP3.out rfl rfl kr (w0:=w0) ii hb ?_;intro z1 hz1 hX1))
 (try simp only[Act.put])
 have HX1:=lH (show ∀ k,X k→z1.w.heap[k]?=w.heap[k]? from fun k hk=>(hX1 k hk).trans (HX3.out k hk))
 obtain⟨mt,hmt⟩:∃ mt,aI6 m d=mt:=⟨_,rfl⟩
 have HG1:=lH (show GB X B q z1.w mt from hmt▸hz1)
 have HI1:=lH (show X5 (k+1) mt from hmt▸HI.out.took1 d)
 have HMT:=lH hmt
 clear hz1 hX1 HP3 HX3 hmt HI te2 HTE HTO HTN htb
 have hqlt1:LtN q z1.w.heap.size:=⟨HG1.out.lt⟩
 by_cases hz:d.size=0
 ·have HV:=lH (show pay mt d=aq6 mt from av1 (by rw[an7,if_neg (by omega)]) (by rw[an6,if_neg (by omega)]))
  have he:d.toList.isEmpty=true:=by rw[aw9 hz,ByteArray.toList_eq];rfl
  have HBD:=lH (fun(W:World) (g1:d5 z1.w W) (g2:d5 w0 W)=>ar8 (w0:=w0) (HG1.out.to g1) HI1.out.bad0 HI1.out.bad1 g2 hb)
  go_wp2_with (first|((with_reducible refine rl ?_);(repeat(first|go_big_quiet_step (first|fail)|simp only[he]));refine wpQuiet_nil ?_;intro x))
  refine(HBD.out _ ii ii).mono ?_
  rintro _ w9 ⟨⟨u,rfl⟩,hz9,hx9,z9,rfl⟩
  have HX9:=lH (show ∀ k,X k→z9.w.heap[k]?=z1.w.heap[k]? from fun k hk=>(hx9 k hk).trans ((ii:d5 z1.w _).out.block k (HG1.out.xs hk).2))
  have HZ9:=lH hz9
  clear hx9 hz9
  go_wp2_with (first|((with_reducible refine rl ?_);refine rq ?_;intro x))
  (first|(refine bodyPost_end (v:=.tuple #[]) (by simp[results,Tryz.results23,go_sem]) rfl ?_)|(refine bodyPost_ret (v:=.tuple #[]) (by simp[results,Tryz.results23,go_sem]) rfl ?_))
  exact⟨⟨_,rfl⟩,(by rw[HMT.out,HV.out];exact HZ9.out.to ii),fun k hk=>(HX9.out k hk).trans (HX1.out k hk),b5.of⟩
 have he:d.toList.isEmpty=false:=al4 hz
 have h0s:0<d.size:=by omega
 have e0:bAt d 0=((d[0]'h0s).toNat:Int):=ak7 h0s
 obtain⟨b,hb9⟩:∃ b:Int,((d[0]'h0s).toNat:Int)=b:=⟨_,rfl⟩
 rw[hb9]at e0
 have hb09:=W7 d 0
 rw[e0]at hb09
 obtain⟨r,hr⟩:∃ r,d.extract 1 d.size=r:=⟨_,rfl⟩
 have hrz:r.size≤100000000:=by rw[← hr];simp only[ByteArray.size_extract];omega
 have h1s:(1:Int)≤d.size:=by omega
 have hj0:(0:Int)<d.size:=by omega
 have HE0:=lH e0
 have HRR:=lH (show bI4 d=r from hr)
 clear e0
 cases c1:(b == 0)
 ·have hb1:¬ b=0:=by simpa using c1
  have HPO:=lH (show an7 d=none by rw[an7,if_neg (by rw[HE0.out];omega)])
  cases c3:(b == 1)
  ·have hb2:¬ b=1:=by simpa using c3
   have HV:=lH (show pay mt d=aq6 mt from av1 HPO.out (by rw[an6,if_neg (by rw[HE0.out];omega)]))
   have HBD:=lH (fun(W:World) (g1:d5 z1.w W) (g2:d5 w0 W)=>ar8 (w0:=w0) (HG1.out.to g1) HI1.out.bad0 HI1.out.bad1 g2 hb)
   go_wp2_with (first|((with_reducible refine rl ?_);(repeat(first|go_big_quiet_step (first|fail)|simp only[he]|simp only[hb9]|simp only[c1]|simp only[c3]));refine wpQuiet_nil ?_;intro x))
   refine(HBD.out _ ii ii).mono ?_
   rintro _ w9 ⟨⟨u,rfl⟩,hz9,hx9,z9,rfl⟩
   have HX9:=lH (show ∀ k,X k→z9.w.heap[k]?=z1.w.heap[k]? from fun k hk=>(hx9 k hk).trans ((ii:d5 z1.w _).out.block k (HG1.out.xs hk).2))
   have HZ9:=lH hz9
   clear hx9 hz9
   go_wp2_with (first|((with_reducible refine rl ?_);refine rq ?_;intro x))
   (first|(refine bodyPost_end (v:=.tuple #[]) (by simp[results,Tryz.results23,go_sem]) rfl ?_)|(refine bodyPost_ret (v:=.tuple #[]) (by simp[results,Tryz.results23,go_sem]) rfl ?_))
   exact⟨⟨_,rfl⟩,(by rw[HMT.out,HV.out];exact HZ9.out.to ii),fun k hk=>(HX9.out k hk).trans (HX1.out k hk),b5.of⟩
  ·have hb2:b=1:=by simpa using c3
   have HPM:=lH (show an6 d=V4 r by rw[an6,if_pos ⟨h0s,by rw[HE0.out];exact hb2⟩,HRR.out])
   have HDM:=lH (fun(W:World)=>aP9 (s:=r) (w:=W) hrz)
   cases hm:V4 r with
   | none =>
    have HV:=lH (show pay mt d=aq6 mt from av1 HPO.out (HPM.out.trans hm))
    rw[hm]at HDM
    have HBD:=lH (fun(W:World) (g1:d5 z1.w W) (g2:d5 w0 W)=>ar8 (w0:=w0) (HG1.out.to g1) HI1.out.bad0 HI1.out.bad1 g2 hb)
    go_wp2_with (first|((with_reducible refine rl ?_);(repeat(first|go_big_quiet_step (first|fail)|simp only[he]|simp only[hb9]|simp only[c1]|simp only[c3]|simp only[hr]));refine wpQuiet_nil ?_;intro x))
    refine(HDM.out _).mono ?_
    rintro _ _ ⟨v9,rfl,y1,rfl⟩
    go_wp2_with (first|((with_reducible refine rl ?_);(repeat(first|go_big_quiet_step (first|fail)|simp only[he]|simp only[hb9]|simp only[c1]|simp only[c3]|simp only[hr]));refine wpQuiet_nil ?_;intro x))
    refine(HBD.out _ ii ii).mono ?_
    rintro _ w9 ⟨⟨u,rfl⟩,hz9,hx9,z9,rfl⟩
    have HX9:=lH (show ∀ k,X k→z9.w.heap[k]?=z1.w.heap[k]? from fun k hk=>(hx9 k hk).trans ((ii:d5 z1.w _).out.block k (HG1.out.xs hk).2))
    have HZ9:=lH hz9
    clear hx9 hz9
    go_wp2_with (first|((with_reducible refine rl ?_);refine rq ?_;intro x))
    (first|(refine bodyPost_end (v:=.tuple #[]) (by simp[results,Tryz.results23,go_sem]) rfl ?_)|(refine bodyPost_ret (v:=.tuple #[]) (by simp[results,Tryz.results23,go_sem]) rfl ?_))
    exact⟨⟨_,rfl⟩,(by rw[HMT.out,HV.out];exact HZ9.out.to ii),fun k hk=>(HX9.out k hk).trans (HX1.out k hk),b5.of⟩
   | some fl =>
    obtain⟨f,l⟩:=fl
    have hfb:=aJ0 hm
    simp only at hfb
    have HV:=lH (show pay mt d=br2 mt f (ab1 (aI2 mt f) f l)from bx9 HPO.out (HPM.out.trans hm))
    rw[hm]at HDM
    obtain⟨fj,rfl⟩:∃ fj:Nat,f=(fj:Int):=⟨f.toNat,by omega⟩
    obtain⟨n,hn⟩:∃ n,l.length=n:=⟨_,rfl⟩
    have hf8:fj<8:=by omega
    have hn20:n≤20:=by omega
    have HN:=lH hn
    clear hfb hm hn
    obtain⟨oa,oc,eo1,hoa⟩:=GB.ownN aT0 HG1.out
    have HLO:=lH (show(aT0.get mt).length=8 from HI1.out.outs)
    obtain⟨ob,rfl⟩:=hoa (by rw[HLO.out];decide)
    have HEO:=lH (eo1 z1.w)
    obtain⟨vs5,A,hV5,hvs5,F⟩:=aq2 HG1.out
    have e1:=(eo1 z1.w).symm.trans (hV5.cell 55 |>.trans (by rw[hvs5]))
    simp only[List.getElem?_cons_succ,List.getElem?_cons_zero,Option.some.injEq,Value.slice.injEq]at e1
    obtain⟨e2,-,e3⟩:=e1
    have hrd:=F.q18
    rw[← e2,← e3]at hrd
    clear hV5 hvs5 F e2 e3
    obtain⟨eb,eoff,ex,ea0,ec0,heq,ehb,ehd,eq0,eok,eh0,eh1,eh2,eh3⟩:=hrd.atTFileOut (show fj<mt.Space.Outs.length by rw[HI1.out.outs];exact hf8)
    cases heq
    have hxo:mt.Space.Outs[fj]?=some ex:=by have:=congrArg (fun l=>l[0]?) ehd.out;simpa only[List.getElem?_drop,Nat.add_zero,List.getElem?_cons_zero]using this
    have HXO:=lH (show aI2 mt fj=ex by rw[aI2,List.getD_eq_getElem?_getD,show((fj:Int)).toNat=fj from rfl,hxo];rfl)
    have HOK:=lH (HI1.out.out ex (List.mem_of_getElem? hxo))
    have HRD:=lH (show Enc.Rd B z1.w [.int .i64 ex.File,.string ex.Data,.slice ea0 ex.Queue.length ec0,.bool ex.Done] ex from⟨ea0,ec0,rfl,eq0,eok⟩)
    have HROW:=lH (fun(W:World) (g:d5 z1.w W)=>show W.rangeAt ob (0+fj*4) [.int .i64 ex.File,.string ex.Data,.slice ea0 ex.Queue.length ec0,.bool ex.Done]from fun j v hj=>by
     match j,hj with
     | 0,hj=>simp only[List.getElem?_cons_zero,Option.some.injEq]at hj;rw[← hj];exact eh0 W
     | 1,hj=>simp only[List.getElem?_cons_succ,List.getElem?_cons_zero,Option.some.injEq]at hj;rw[← hj];exact eh1 W
     | 2,hj=>simp only[List.getElem?_cons_succ,List.getElem?_cons_zero,Option.some.injEq]at hj;rw[← hj];exact eh2 W
     | 3,hj=>simp only[List.getElem?_cons_succ,List.getElem?_cons_zero,Option.some.injEq]at hj;rw[← hj];exact eh3 W
     | j+4,hj=>simp at hj)
    have eo:∀ (W:World) [d5 z1.w W],W.cell? ⟨q,55,none⟩=some (.slice (some ⟨ob,0,none⟩) 8 oc):=fun W g=>HLO.out▸eo1 W
    clear eo1 hrd ehd hxo eq0 eok eh0 eh1 eh2 eh3
    go_wp2_with (first|((with_reducible refine rl ?_);(repeat(first|go_big_quiet_step (first|fail)|simp only[he]|simp only[hb9]|simp only[c1]|simp only[c3]|simp only[hr]));refine wpQuiet_nil ?_;intro x))
    refine(HDM.out _).mono ?_
    rintro _ _ ⟨la,lc,rfl,ol,y,rfl⟩
    have OL:=lH ol;clear ol
    (try simp only[HN.out])
    go_upto_region 8 with(first|((with_reducible refine rl ?_);(repeat(first|go_big_quiet_step (first|fail)|simp only[he]|simp only[hb9]|simp only[c1]|simp only[c3]|simp only[hr]));refine wpQuiet_nil ?_;intro x))
    refine X3 kr (T:=[18]) (Zs:=[]) (H:=[(4,[]),(10,[]),(12,[]),(13,[]),(16,[]),(17,[16])]) (C:=[16]) (Fs:=[(some 62,.v (.pointer (some ⟨q,0,none⟩))),(some 63,.v (.pointer (some ⟨q,0,none⟩))),(some 64,.v (.pointer (some ⟨q,33,none⟩))),(some 65,.v (.pointer (some ⟨q,55,none⟩))),(some 66,.v (.slice (some ⟨ob,0,none⟩) 8 oc)),(some 67,.v (.int .i64 fj)),(some 68,.v (.pointer (some ⟨q,0,none⟩))),(some 69,.v (.pointer (some ⟨q,0,none⟩))),(some 70,.v (.pointer (some ⟨q,33,none⟩))),(some 71,.v (.pointer (some ⟨q,55,none⟩))),(some 72,.v (.slice (some ⟨ob,0,none⟩) 8 oc)),(some 73,.v (.int .i64 fj)),(some 74,.v (.pointer (some ⟨ob,0+fj*4,none⟩))),(some 75,.v (.agg #[.int .i64 ex.File,.string ex.Data,.slice ea0 ex.Queue.length ec0,.bool ex.Done])),(some 76,.v (.int .i64 fj)),(some 77,.v (.slice la n lc)),(some 78,bU5 y.w.heap.size (ab1 ex (fj:Int) l)),(some 79,.v (.pointer (some ⟨ob,0+fj*4,none⟩))),(none,.v undef)]) kr (fun val W=>by kernel_rfl) ?ob3 ?lz3 ?pn3 ?tl3
    case ob3 =>
     refine⟨fun x=>?_,fun x=>?_,fun x=>?_,fun x=>?_,fun x=>?_,fun x=>?_,trivial⟩
     ·exact aQ3 (@eo x.w (S9 (ii:d5 z1.w y.w) (ii:d5 y.w x.w))) rfl kr _ Tryz.underlying86 rfl
     ·exact aQ3 (@eo x.w (S9 (ii:d5 z1.w y.w) (ii:d5 y.w x.w))) rfl kr _ Tryz.underlying86 rfl
     ·exact bv6 (size:=4) (o:=0) (j:=fj) (n:=8) (c:=oc) rfl kr Tryz.underlying86 kr hf8
     ·exact bN1 (HROW.out x.w (S9 (ii:d5 z1.w y.w) (ii:d5 y.w x.w))) rfl kr _ Tryz.underlying155 rfl kr
     ·refine bo1 (f:=87) (args:=[.agg #[.int .i64 ex.File,.string ex.Data,.slice ea0 ex.Queue.length ec0,.bool ex.Done],.int .i64 fj,.slice la n lc]) Tryz.func87 kr kr ((bd1 (f:=(fj:Int)) (Enc.keep HRD.out (ay3 (S9 (ii:d5 z1.w y.w) (ii:d5 y.w x.w)))) HOK.out ((Own.sl OL.out).to ii) HN.out (by omega)).mono ?_)
      rintro _ _ ⟨vs2,χ2,rfl,hO2,y2,rfl⟩
      exact⟨_,rfl,⟨y2,rfl⟩,vs2,χ2,rfl,S7.map hO2 (.mono x.size_le)⟩
     ·refine ak8 fun v13 q13=>av4 ?_
      exact bv6 (size:=4) (o:=0) (j:=fj) (n:=8) (c:=oc) rfl kr Tryz.underlying86 kr hf8
    case lz3 =>
     exact trivial
    case pn3=>exact fun _ _ _ _ _ _ h=>h
    case tl3 =>
     intro x
     refine ak8 fun v13 q13=>?_
     obtain⟨vs2,χ2,rfl,hO2⟩:=(show isO y.w.heap.size (ab1 ex (fj:Int) l) v13 x.w from q13)
     clear q13
     obtain⟨ra,rc,rfl,kO⟩:=hO2
     have HKO:=lH kO;clear kO
     refine be3 rfl ?_
     simp only[az6,au1]
     simp only[nrm,if_true]
     go_wp2_with (first|((with_reducible refine rl ?_);refine rq ?_;intro x)|(refine bz0 aT0 rfl _ (.tmp 79) (.tmp 78) rfl (HG1.out.to (ii:d5 z1.w y.w)) (ii:d5 y.w x.w) (j5 HG1.out.lt HEO.out y.w) (by rw[HLO.out];exact hf8) HKO.out.o0 HKO.out.ok rfl rfl (by omega) rfl rfl kr (w0:=w0) ii hb ?_;intro z6 hz6 hbq hh6))
     have HZ6:=lH (show GB X B q z6.w (pay mt d)by rw[HV.out,HXO.out];exact hz6)
     have HX6:=lH (show ∀ k,X k→z6.w.heap[k]?=z1.w.heap[k]? from fun k hk=>(hh6 k (Nat.lt_of_lt_of_le (HG1.out.xs hk).2 (ii:d5 z1.w x.w).out.size) (GB.xneN aT0 HG1.out HEO.out hk)).trans ((ii:d5 z1.w x.w).out.block k (HG1.out.xs hk).2))
     clear hz6 hh6
     (first|(refine bodyPost_end (v:=.tuple #[]) (by simp[results,Tryz.results23,go_sem]) rfl ?_)|(refine bodyPost_ret (v:=.tuple #[]) (by simp[results,Tryz.results23,go_sem]) rfl ?_))
     exact⟨⟨_,rfl⟩,(by rw[HMT.out];exact HZ6.out.to ii),fun k hk=>(HX6.out k hk).trans (HX1.out k hk),b5.of⟩
 ·have hb1:b=0:=by simpa using c1
  have c3:(b == 1)=false:=by rw[hb1];rfl
  have HPO:=lH (show an7 d=ac7 r by rw[an7,if_pos ⟨h0s,by rw[HE0.out];exact hb1⟩,HRR.out])
  have HDO:=lH (fun(W:World)=>aZ6 (s:=r) (w:=W) hrz)
  cases ho:ac7 r with
  | none =>
   have HV:=lH (show pay mt d=aq6 mt from av1 (HPO.out.trans ho) (by rw[an6,if_neg (by rw[HE0.out];omega)]))
   rw[ho]at HDO
   have HDO:=lH (show ∀ W,Calls Tryz.prog 84 #[.string r] W (b4 W (.tuple #[.agg #[.int .i64 0,.int .i64 0,.int .i64 0,.int .i64 0],.bool false]))from HDO.out)
   have HBD:=lH (fun(W:World) (g1:d5 z1.w W) (g2:d5 w0 W)=>ar8 (w0:=w0) (HG1.out.to g1) HI1.out.bad0 HI1.out.bad1 g2 hb)
   go_wp2_with (first|((with_reducible refine rl ?_);(repeat(first|go_big_quiet_step (first|fail)|simp only[he]|simp only[hb9]|simp only[c1]|simp only[c3]|simp only[hr]));refine wpQuiet_nil ?_;intro x))
   refine gm (HDO.out _) ?_
   intro y1
   go_wp2_with (first|((with_reducible refine rl ?_);(repeat(first|go_big_quiet_step (first|fail)|simp only[he]|simp only[hb9]|simp only[c1]|simp only[c3]|simp only[hr]));refine wpQuiet_nil ?_;intro x))
   refine(HBD.out _ ii ii).mono ?_
   rintro _ w9 ⟨⟨u,rfl⟩,hz9,hx9,z9,rfl⟩
   have HX9:=lH (show ∀ k,X k→z9.w.heap[k]?=z1.w.heap[k]? from fun k hk=>(hx9 k hk).trans ((ii:d5 z1.w _).out.block k (HG1.out.xs hk).2))
   have HZ9:=lH hz9
   clear hx9 hz9
   go_wp2_with (first|((with_reducible refine rl ?_);refine rq ?_;intro x))
   (first|(refine bodyPost_end (v:=.tuple #[]) (by simp[results,Tryz.results23,go_sem]) rfl ?_)|(refine bodyPost_ret (v:=.tuple #[]) (by simp[results,Tryz.results23,go_sem]) rfl ?_))
   exact⟨⟨_,rfl⟩,(by rw[HMT.out,HV.out];exact HZ9.out.to ii),fun k hk=>(HX9.out k hk).trans (HX1.out k hk),b5.of⟩
  | some xo =>
   have HXK:=lH (bd3 (bj9 ho))
   have HV:=lH (show pay mt d=bQ8 mt (A7 mt.Space.Board xo).1 from bI2 (HPO.out.trans ho))
   rw[ho]at HDO
   have HDO:=lH (show ∀ W,Calls Tryz.prog 84 #[.string r] W (b4 W (.tuple #[.agg #[.int .i64 xo.Kind,.int .i64 xo.At,.int .i64 xo.A,.int .i64 xo.B],.bool true]))from HDO.out)
   clear ho
   have HTB:=lH (show Enc.tot mt.Space.Board≤50000000 by have:=aB0 HI1.out.board;omega)
   obtain⟨vs5,A,hV5,hvs5,F⟩:=aq2 HG1.out
   have HV5:=lH hV5
   obtain⟨bd,hbd⟩:∃ bd,(vs5.drop 37).take 12=bd:=⟨_,rfl⟩
   have HRB:=lH hbd
   have HBR:=lH (show Enc.Rd B z1.w bd mt.Space.Board from by rw[← hbd,hvs5];exact⟨⟨A.a9,A.c9,A.a10,A.c10,A.a11,A.c11,A.a12,A.c12,A.a13,A.c13,A.a14,A.c14,A.a15,A.c15⟩,rfl,⟨F.q9,F.q10,F.q11,F.q12,F.q13,F.q14,F.q15,F.ok.2.2.2.2.2.2.2.1.2.1⟩⟩)
   clear hV5 hvs5 hbd F
   have HBL:=lH (Y3 HBR.out)
   go_wp2_with (first|((with_reducible refine rl ?_);(repeat(first|go_big_quiet_step (first|fail)|simp only[he]|simp only[hb9]|simp only[c1]|simp only[c3]|simp only[hr]));refine wpQuiet_nil ?_;intro x))
   refine gm (HDO.out _) ?_
   intro y1
   go_upto_region 4 with(first|((with_reducible refine rl ?_);(repeat(first|go_big_quiet_step (first|fail)|simp only[he]|simp only[hb9]|simp only[c1]|simp only[c3]|simp only[hr]));refine wpQuiet_nil ?_;intro x))
   (try simp only[Act.put])
   have HX5:=lH (i9.new (z1.andThen y1).w [.int .i64 xo.Kind,.int .i64 xo.At,.int .i64 xo.A,.int .i64 xo.B] 169 (z1.andThen y1).w.heap.size rfl)
   obtain⟨y,hy⟩:∃ y:b5 z1.w,((z1.andThen y1).w.alloc (.cells #[.int .i64 xo.Kind,.int .i64 xo.At,.int .i64 xo.A,.int .i64 xo.B] 169))=y.w:=b5.of
   rw[show([.int .i64 xo.Kind,.int .i64 xo.At,.int .i64 xo.A,.int .i64 xo.B]:List Value).toArray=#[.int .i64 xo.Kind,.int .i64 xo.At,.int .i64 xo.A,.int .i64 xo.B]from rfl,hy]at HX5
   rw[hy];clear hy
   obtain⟨qo,hqo⟩:∃ qo,(z1.andThen y1).w.heap.size=qo:=⟨_,rfl⟩
   rw[hqo]at HX5 ⊢
   clear hqo
   refine X3 kr (T:=[14]) (Zs:=[(10,[7])]) (H:=[(5,[]),(6,[]),(7,[]),(8,[7]),(9,[7]),(10,[7])]) (C:=[7]) (Fs:=[(some 34,.v (.pointer (some ⟨q,0,none⟩))),(some 35,.v (.pointer (some ⟨q,0,none⟩))),(some 36,.v (.pointer (some ⟨q,0,none⟩))),(some 37,.v (.pointer (some ⟨q,33,none⟩))),(some 38,.v (.pointer (some ⟨q,37,none⟩))),(some 39,.v (.agg bd.toArray)),(some 40,.v (.agg #[.int .i64 xo.Kind,.int .i64 xo.At,.int .i64 xo.A,.int .i64 xo.B])),(some 41,bR4 y.w.heap.size (A7 mt.Space.Board xo).1 (A7 mt.Space.Board xo).2),(some 33,.fn [7] bP7),(some 42,.fn [7] bP6),(some 43,.fn [7] bP8),(some 44,.v (.pointer (some ⟨q,0,none⟩))),(some 45,.v (.pointer (some ⟨q,33,none⟩))),(some 46,.v (.pointer (some ⟨q,37,none⟩))),(none,.v undef)]) kr (fun val W=>by kernel_rfl) ?ob4 ?lz4 ?pn4 ?tl4
   case ob4 =>
    refine⟨fun x=>?_,fun x=>?_,fun x=>?_,fun x=>?_,fun x=>?_,fun x=>?_,trivial⟩
    ·exact bG9 (o:=37) (cs:=vs5) (row:=bd) (HV5.out.to (S9 (ii:d5 z1.w y.w) (ii:d5 y.w x.w))) rfl kr _ Tryz.underlying84 rfl (by rw[HBL.out];kernel_rfl) (by rw[HBL.out];exact HRB.out)
    ·exact bG9 (o:=0) (cs:=[.int .i64 xo.Kind,.int .i64 xo.At,.int .i64 xo.A,.int .i64 xo.B]) (row:=[.int .i64 xo.Kind,.int .i64 xo.At,.int .i64 xo.A,.int .i64 xo.B]) (HX5.out.to (ii:d5 y.w x.w)) rfl kr _ Tryz.underlying169 rfl kr rfl
    ·refine bo1 (f:=85) (args:=[.agg bd.toArray,.agg #[.int .i64 xo.Kind,.int .i64 xo.At,.int .i64 xo.A,.int .i64 xo.B]]) Tryz.func85 kr kr ((bd0 (B:=B) (Enc.keep HBR.out (ay3 (S9 (ii:d5 z1.w y.w) (ii:d5 y.w x.w)))) HXK.out HTB.out).mono ?_)
     rintro _ _ ⟨vs2,χ2,rfl,hO2,y2,rfl⟩
     exact⟨_,rfl,⟨y2,rfl⟩,vs2,χ2,rfl,S7.map hO2 (.mono x.size_le)⟩
    ·refine ak8 fun v13 q13=>av4 ?_
     obtain⟨vs2,χ2,rfl,q⟩:=(show bb6 y.w.heap.size (A7 mt.Space.Board xo).1 (A7 mt.Space.Board xo).2 v13 x.w from q13)
     exact bK9 (k:=8) kr kr
    ·refine ak8 fun v13 q13=>av4 ?_
     obtain⟨vs2,χ2,rfl,q⟩:=(show bb6 y.w.heap.size (A7 mt.Space.Board xo).1 (A7 mt.Space.Board xo).2 v13 x.w from q13)
     exact bK9 (k:=9) kr kr
    ·refine ak8 fun v13 q13=>av4 ?_
     obtain⟨vs2,χ2,rfl,q⟩:=(show bb6 y.w.heap.size (A7 mt.Space.Board xo).1 (A7 mt.Space.Board xo).2 v13 x.w from q13)
     exact bK9 (k:=10) kr kr
   case lz4 =>
    refine⟨fun W hW=>?_,trivial⟩
    refine ak8 fun v13 q13=>av4 ?_
    obtain⟨vs2,χ2,rfl,q⟩:=(show bb6 y.w.heap.size (A7 mt.Space.Board xo).1 (A7 mt.Space.Board xo).2 v13 W from q13)
    intro W3
    kernel_rfl
   case pn4=>exact fun _ _ _ _ _ _ h=>h
   case tl4 =>
    intro x
    refine ak8 fun v13 q13=>?_
    obtain⟨vs2,χ2,rfl,hO2⟩:=(show bb6 y.w.heap.size (A7 mt.Space.Board xo).1 (A7 mt.Space.Board xo).2 v13 x.w from q13)
    clear q13
    refine be3 rfl ?_
    simp only[az6,au1,List.map,bP7,bP6,bP8]
    simp only[nrm,if_true]
    have HL2:=lH (Y3 (R8.toRd hO2))
    have HPP:=lH (GBq.new (D:=bN5) (HG1.out.to (ii:d5 z1.w y.w)) (ii:d5 y.w x.w) hO2)
    clear hO2
    go_wp2_with (first|((with_reducible refine rl ?_);refine rq ?_;intro x)|(refine by8 rfl _ (.tmp 46) (.tmp 42) rfl HPP.out rfl rfl (by rw[HL2.out];kernel_rfl) (w0:=w0) ii hb ?_;intro z6 hz6 hX6))
    have HZ6:=lH (show GB X B q z6.w (pay mt d)by rw[HV.out];exact hz6)
    have HX6:=lH (show ∀ k,X k→z6.w.heap[k]?=z1.w.heap[k]? from fun k hk=>(hX6 k hk).trans ((ii:d5 z1.w x.w).out.block k (HG1.out.xs hk).2))
    clear hz6 hX6
    (first|(refine bodyPost_end (v:=.tuple #[]) (by simp[results,Tryz.results23,go_sem]) rfl ?_)|(refine bodyPost_ret (v:=.tuple #[]) (by simp[results,Tryz.results23,go_sem]) rfl ?_))
    exact⟨⟨_,rfl⟩,(by rw[HMT.out];exact HZ6.out.to ii),fun k hk=>(HX6.out k hk).trans (HX1.out k hk),b5.of⟩
theorem bi8{B:Nat}{vs:List Value}{m:f5}{w:World}(h:Enc.Rd B w vs m)(ht:Enc.tot m≤100000000) :
  Calls Tryz.prog 5 #[.agg vs.toArray] w (U0 w (L4 m)):=by
 have HL:=lH (ab7 h)
 have HM:=lH h;clear h
 have HT:=lH ht;clear ht
 have HB:=lH ((i9.new w vs 90 w.heap.size rfl).to (ii:d5 _ ((w.alloc (.cells vs.toArray 90)).alloc (.cells A8.toArray 90))))
 have HR:=lH (i9.new (w.alloc (.cells vs.toArray 90)) A8 90 (w.heap.size+1) (by simp))
 have gW:d5 w ((w.alloc (.cells vs.toArray 90)).alloc (.cells A8.toArray 90)):=inferInstance
 have hsz:((w.alloc (.cells vs.toArray 90)).alloc (.cells A8.toArray 90)).heap.size=w.heap.size+2:=by simp
 go_enter Tryz.func5,Tryz.ntmps5
 go_upto_region 1 with(fail)
 generalize ((w.alloc (.cells vs.toArray 90)).alloc (.cells A8.toArray 90))=W2 at HB HR gW hsz ⊢
 have iB:LtN w.heap.size W2.heap.size:=⟨by omega⟩
 have iR:LtN (w.heap.size+1) W2.heap.size:=⟨by omega⟩
 have hW2:w.heap.size≤W2.heap.size:=by omega
 go_wp2_with (first|(refine sL rfl _ (.tmp 1) rfl (w.heap.size) kr HB ii aq8 HL ?_))
 refine(bh6 (x:=m) (Enc.keep HM.out ii) HT.out).mono ?_
 rintro _ _ ⟨cs,χ,rfl,hO,y1,rfl⟩
 have HLC:=lH (ab7 (R8.toRd hO));have HOC:=lH (al8 (R8.toRd hO));have HO:=lH hO;clear hO
 go_upto_region 2 with(first|(refine sW rfl _ _ _ rfl _ rfl (us:=cs) (i9.new _ A8 90 _ rfl) HLC HOC (w0:=W2) ii LeN.out ?_;intro z1 HX1 KX1))
 (try simp only[Act.put])
 obtain⟨qb,hqb⟩:∃ qb,y1.w.heap.size=qb:=⟨_,rfl⟩
 rw[hqb]
 have HG:=lH (show GB (fun _=>False) W2.heap.size qb z1.w m from hqb▸GB.of HO.out (KX1.out.under ii nl) y1.size_le HX1.out)
 have hqB:W2.heap.size≤qb:=HG.out.le
 have hqlt:LtN qb z1.w.heap.size:=⟨HG.out.lt⟩
 clear hqb HX1 KX1 HO HLC HOC
 go_wp2_with (first|(refine sL rfl _ (.tmp 1) rfl (w.heap.size) kr HB ii aq8 HL ?_))
 refine gm (bm8 (m:=m) (Enc.keep HM.out ii) HT.out) ?_
 intro y2
 cases hv:j9 m
 ·obtain⟨vs9,hH9,hl9,h19,-,χ9,hO9⟩:=HG.out.vs
  have HH9:=lH hH9;have HO9:=lH hO9;have H19:=lH h19;have HL9:=lH (show vs9.length=61 from hl9)
  clear hO9 hH9 h19 hl9
  go_wp2_with (first|(refine sL rfl _ (.tmp 3) rfl (qb) kr HH9 ii aq8 HL9 ?_)|(refine sW rfl _ _ _ rfl (w.heap.size+1) rfl (us:=vs9) (HR.out.to ii) HL9 H19 (w0:=w) ii (by omega) ?_;intro z9 HX9 KX9))
  refine bodyPost_ret (v:=.agg vs9.toArray) (F7 (P:=Tryz.prog) rfl rfl HX9.out _ aq8 rfl (by rw[HL9.out];kernel_rfl)) rfl ?_
  rw[show L4 m=m by rw[L4,if_neg (by rw[hv];decide)]]
  exact⟨vs9,χ9,rfl,ac0 (ar4 HO9.out ii) KX9.out (show w.heap.size+1<W2.heap.size by omega) hW2,b5.of⟩
 ·have HUS:=lH (be4 hv)
  have HHU:=lH (show L4 m=(ag1 m.Time m.Ups).foldl ay5 (ah2 m)by rw[L4,if_pos hv])
  clear hv
  have hul:m.Ups.length≤100000000:=by have:=HUS.out.2.1;omega
  obtain⟨ua,uc,ue,-,hgood,hrd⟩:=HG.out.own bL4
  have HGD:=lH (show ∀ p∈m.Ups,ai0 p from hgood)
  clear hgood
  clear ue hrd
  obtain⟨A,hvs,F⟩:=HM.out
  have HR14:=lH (show vs[14]?=some (.slice A.a1 m.Ups.length A.c1)by rw[hvs];rfl)
  have HR0:=lH (show vs[0]?=some (.int .i64 m.Time)by rw[hvs];rfl)
  have HRD:=lH F.q1
  clear hvs F
  go_upto_region 5 with(first|(refine f8 rfl _ (.tmp 23) rfl (w.heap.size) 14 kr (HB.out.to ii) (.slice A.a1 m.Ups.length A.c1) HR14.out _ Tryz.underlying66 rfl ?_)|(refine f8 rfl _ (.tmp 25) rfl (w.heap.size) 0 kr (HB.out.to ii) (.int .i64 m.Time) HR0.out _ Tryz.underlying3 rfl ?_)|(go_at_call 18;refine(bf5 (l:=m.Ups) (t:=m.Time) (HRD.out.keep (ay3 ii)) hul).mono ?_;rintro _ _ ⟨da,la,dc,lc,rfl,od,ol,hne,y3,rfl⟩))
  obtain⟨F,hF⟩:∃ F,ag1 m.Time m.Ups=F:=⟨_,rfl⟩
  have HFM:=lH (show ∀ f∈F,f∈m.Ups from fun f hf=>(List.mem_filter.1 (show f∈ag1 m.Time m.Ups by rw[hF];exact hf)).1)
  obtain⟨LA,hLA⟩:∃ LA,W5 m.Time m.Ups=LA:=⟨_,rfl⟩
  have HLM:=lH (show ∀ f∈LA,f∈m.Ups from fun f hf=>(List.mem_filter.1 (show f∈W5 m.Time m.Ups by rw[hLA];exact hf)).1)
  have HLA:=lH hLA
  rw[hF]at HHU
  rw[hF]at od
  rw[hLA]at ol
  have HNL:=lH (show F.length≤1000 by rw[← hF];exact Nat.le_trans (List.length_filter_le _ _) HUS.out.2.1)
  rw[hF,hLA]
  clear hF hLA
  obtain⟨n,hn⟩:∃ n,F.length=n:=⟨_,rfl⟩
  have HN:=lH hn
  rw[hn]at HNL
  rw[hn]
  obtain⟨ln,hln⟩:∃ n,LA.length=n:=⟨_,rfl⟩
  have HLN:=lH hln
  rw[hln]
  clear hn hln
  obtain⟨BL,hBL⟩:∃ BL,(z1.andThen y2).w.heap.size=BL:=⟨_,rfl⟩
  have OD:=lH (show Own R3 9 1 BL ((z1.andThen y2).andThen y3).w da dc (F.map s6.Data)from hBL▸od)
  have HP5:=lH (GBp.newX (F:=bL4) (P:=fun j=>I5 da=some j) (u:=(z1.andThen y2).w) (w:=((z1.andThen y2).andThen y3).w) (HG.out.to ii) ii ol (fun p hp=>HGD.out p (HLM.out p hp)) (fun j hj=>⟨(od.blk j hj).1,(od.blk j hj).2,hne j hj⟩))
  clear od ol hne hBL
  go_upto_region 6 with(first|(refine ax2 HLN.out rfl _ _ _ rfl HP5.out rfl rfl kr (w0:=W2) ii nl ?_;intro z5 hz5 hX5))
  (try simp only[Act.put])
  have HGL:=lH (show GB (fun k=>False∨I5 da=some k) W2.heap.size qb z5.w (ah2 m)from(show bL4.set m LA=ah2 m by rw[← HLA.out];rfl)▸hz5)
  have OD5:=lH (show Own R3 9 1 BL z5.w da dc (F.map s6.Data)from OD.out.same fun k hk _ _=>hX5 k (.inr hk))
  have HGF:=lH (show ∀ f∈F,ai0 f from fun f hf=>HGD.out f (HFM.out f hf))
  have HSZ:=lH (show ∀ d∈F.map s6.Data,d.size≤404 from fun d hd=>by obtain⟨f,hf,rfl⟩:=List.mem_map.1 hd;exact(HUS.out.2.2.1 f (HFM.out f hf)).2)
  have HU0:=lH HUS.out.1
  have HF0:=lH (show(F.map s6.Data).foldl X6 (ah2 m)=L4 m by rw[bb2];exact HHU.out.symm)
  have hn3:n≤1000:=HNL.out
  clear HRD HP5 OD hz5 hX5 HLA HGD HFM HLM HUS HHU HLN hul HR14 HR0
  go_wp2_with (fail)
  go_loopw [6] (fun v wr=>∃ (k:Nat) (x:f5),v=.int .i64 k∧k≤n∧Hid (((F.map s6.Data).drop k).foldl X6 x=L4 m)∧Hid (X5 (2*k) x)∧Hid (GB (fun k=>False∨I5 da=some k) W2.heap.size qb wr x)∧Hid (Own R3 9 1 BL wr da dc (F.map s6.Data))∧∃ y:b5 W2,wr=y.w) (fun v _=>(n - intOf v).toNat)
  case atStart=>exact⟨0,ah2 m,rfl,Nat.zero_le _,HF0,HU0,HGL.out.to ii,OD5.out.to ii,b5.of⟩
  case round =>
   obtain⟨k,x,rfl,hk,HF,HI,HGR,HOL,y,rfl⟩:=hrel
   by_cases hkn:k<n
   ·have hkm:k<(F.map s6.Data).length:=by rw[List.length_map,HN.out];exact hkn
    obtain⟨eb,eoff,s0,rfl,hob,hod,eh0⟩:=(Own.sl HOL.out).str hkm
    have HDR:=lH hod.out
    clear hod
    have hs0:s0.size≤404:=HSZ.out s0 (List.mem_of_mem_drop (show s0∈(F.map s6.Data).drop k by rw[HDR.out];simp))
    obtain⟨tx,htx⟩:∃ tx,an9 (U9 s0)=tx:=⟨_,rfl⟩
    have htz:tx.size≤400:=htx▸bd8 s0
    have HTX:=lH htx
    have hqy:LtN qb y.w.heap.size:=⟨HGR.out.lt⟩
    have HF2:=lH (show((F.map s6.Data).drop (k+1)).foldl X6 (X6 x s0)=L4 m by have:=HF.out;rw[HDR.out,List.foldl_cons]at this;exact this)
    have HI2:=lH (show X5 (2*(k+1)) (X6 x s0)from HI.out.heard (an9 (U9 s0)))
    obtain⟨vs5,A5,hV5,hvs5,F5⟩:=aq2 HGR.out
    have HV:=lH hV5
    obtain⟨rc,hrc⟩:∃ rc,x.Space.Receiver=rc:=⟨_,rfl⟩
    have HRC:=lH hrc
    have HR33:=lH (show(vs5.drop 33).take 4=[.int .i64 rc.Expect,.bool rc.Locked,.bool rc.Again,.int .i64 rc.Taken]by rw[hvs5,← hrc];rfl)
    clear hV5 hvs5 F5 hrc
    go_wp2_with (fail)
    refine gm (bA5 hs0) ?_
    intro y4
    rw[htx]
    cases c1:(U9 s0).isSome
    ·have hd:N8 tx=none:=htx▸ba7 c1
     clear htx
     go_wp2_with (fail)
     refine gm (ao4 (s:=tx) (by omega)) ?_
     intro y6
     rw[hd,bA7]
     have HSB:=lH (show X6 x s0=aq6 x from aF5 (ba7 c1))
     go_wp2_with (fail)
     refine(ar8 (w0:=W2) (HGR.out.to ii) HI.out.bad0 HI.out.bad1 ii nl).mono ?_
     rintro _ w9 ⟨⟨u,rfl⟩,hz9,hx9,z9,rfl⟩
     have HO9:=lH (show Own R3 9 1 BL z9.w (some ⟨eb,eoff,none⟩) dc (F.map s6.Data)from HOL.out.same fun k hk _ _=>(hx9 k (.inr hk)).trans ((ii:d5 y.w _).out.block k (HGR.out.xs (.inr hk)).2))
     have HZ9:=lH hz9
     clear hx9 hz9
     go_wp2_with (fail)
     go_roundw
     case rel=>exact⟨k+1,X6 x s0,by go_num,by omega,HF2,HI2,(by rw[HSB.out];exact HZ9.out.to ii),(HO9.out.to ii),b5.of⟩
     case measure=>simp[intOf];omega
    ·go_wp2_with (fail)
     refine gm (ao4 (s:=tx) (by omega)) ?_
     intro y6
     cases hd:N8 tx with
     | none =>
      rw[bA7]
      have HSB:=lH (show X6 x s0=aq6 x from aF5 (htx.symm▸hd))
      go_wp2_with (fail)
      refine(ar8 (w0:=W2) (HGR.out.to ii) HI.out.bad0 HI.out.bad1 ii nl).mono ?_
      rintro _ w9 ⟨⟨u,rfl⟩,hz9,hx9,z9,rfl⟩
      have HO9:=lH (show Own R3 9 1 BL z9.w (some ⟨eb,eoff,none⟩) dc (F.map s6.Data)from HOL.out.same fun k hk _ _=>(hx9 k (.inr hk)).trans ((ii:d5 y.w _).out.block k (HGR.out.xs (.inr hk)).2))
      have HZ9:=lH hz9
      clear hx9 hz9
      go_wp2_with (fail)
      go_roundw
      case rel=>exact⟨k+1,X6 x s0,by go_num,by omega,HF2,HI2,(by rw[HSB.out];exact HZ9.out.to ii),(HO9.out.to ii),b5.of⟩
      case measure=>simp[intOf];omega
     | some q =>
      rw[bA7]
      obtain⟨q1,q2,q3⟩:=q
      have HD:=lH (show N8 (an9 (U9 s0))=some (q1,q2,q3)from htx.symm▸hd)
      have HTC:=lH (show F9 x.Space.Receiver (an9 (U9 s0))=F9 rc tx by rw[HRC.out,HTX.out])
      have HFT:=lH (av3 tx (HRC.out▸HI.out.rcv:A9 rc=true))
      have HTK:=lH (fun(W:World)=>aZ8 (r:=rc) (s:=tx) (w:=W) (by omega))
      obtain⟨tq,htq⟩:∃ tq,F9 rc tx=tq:=⟨_,rfl⟩
      rw[htq]at HTC HFT HTK
      obtain⟨⟨e2,lk2,ag2,tk2⟩,pd,ok2⟩:=tq
      have hpd:pd.size≤40:=HFT.out.2
      have HTK:=lH (show ∀ W,Calls Tryz.prog 22 #[.agg #[.int .i64 rc.Expect,.bool rc.Locked,.bool rc.Again,.int .i64 rc.Taken],.string tx] W (b4 W (.tuple #[.agg #[.int .i64 e2,.bool lk2,.bool ag2,.int .i64 tk2],.string pd,.bool ok2]))from HTK.out)
      clear htq htx hd
      go_wp2_with (first|(refine f7 rfl _ (.tmp 62) rfl (qb) 33 kr (row:=[.int .i64 rc.Expect,.bool rc.Locked,.bool rc.Again,.int .i64 rc.Taken]) (HV.out.to ii) _ Tryz.underlying77 rfl kr HR33.out ?_))
      refine gm (HTK.out _) ?_
      intro y7
      go_upto_region 15 with(first|(refine ax1 (o:=33) (us:=[.int .i64 e2,.bool lk2,.bool ag2,.int .i64 tk2]) (aO7 x ⟨e2,lk2,ag2,tk2⟩:f5) rfl _ (.tmp 71) (.tmp 69) rfl (HGR.out.to ii) kr kr kr rfl nb (by intros;rename_i h;obtain⟨A1,rfl,p⟩:=h;exact⟨A1,rfl,{ p with ok:=bN9 p.ok HFT.out.1 }⟩) (w0:=W2) ii nl ?_;intro z6 hz6 hX6))
      (try simp only[Act.put])
      have HO6:=lH (show Own R3 9 1 BL z6.w (some ⟨eb,eoff,none⟩) dc (F.map s6.Data)from HOL.out.same fun k hk _ _=>(hX6 k (.inr hk)).trans ((ii:d5 y.w _).out.block k (HGR.out.xs (.inr hk)).2))
      have HZ6:=lH hz6
      clear hX6 hz6
      have HI6:=lH (show X5 (2*k) (aO7 x ⟨e2,lk2,ag2,tk2⟩)from HI.out.setR1 HFT.out.1)
      cases ok2
      ·have HSB:=lH (show X6 x s0=aO7 x ⟨e2,lk2,ag2,tk2⟩from by6 HD.out HTC.out)
       go_wp2_with (fail)
       go_roundw
       case rel=>exact⟨k+1,X6 x s0,by go_num,by omega,HF2,HI2,(by rw[HSB.out];exact HZ6.out.to ii),(HO6.out.to ii),b5.of⟩
       case measure=>simp[intOf];omega
      ·obtain⟨x6,hx6⟩:∃ x6,aO7 x ⟨e2,lk2,ag2,tk2⟩=x6:=⟨_,rfl⟩
       have HSB:=lH (show X6 x s0=pay (aI6 x6 pd) pd from hx6▸bl1 HD.out HTC.out)
       rw[hx6]at HZ6 HI6
       clear hx6
       go_wp2_with (fail)
       refine(bA6 (w0:=W2) (HZ6.out.to ii) HI6.out (by omega) (by omega) ii nl).mono ?_
       rintro _ w9 ⟨⟨u,rfl⟩,hz9,hx9,z9,rfl⟩
       have HO9:=lH (show Own R3 9 1 BL z9.w (some ⟨eb,eoff,none⟩) dc (F.map s6.Data)from HO6.out.same fun k hk _ _=>(hx9 k (.inr hk)).trans ((ii:d5 z6.w _).out.block k (HZ6.out.xs (.inr hk)).2))
       have HZ9:=lH hz9
       clear hx9 hz9
       go_wp2_with (fail)
       go_roundw
       case rel=>exact⟨k+1,X6 x s0,by go_num,by omega,HF2,HI2,(by rw[HSB.out];exact HZ9.out.to ii),(HO9.out.to ii),b5.of⟩
       case measure=>simp[intOf];omega
   ·obtain rfl:k=n:=by omega
    obtain⟨vs8,hH8,hl8,h18,-,χ8,hO8⟩:=HGR.out.vs
    have HH8:=lH hH8;have HO8:=lH hO8;have H18:=lH h18;have HL8:=lH (show vs8.length=61 from hl8)
    clear hO8 hH8 h18 hl8
    go_wp2_with (first|(refine sL rfl _ (.tmp 3) rfl (qb) kr HH8 ii aq8 HL8 ?_)|(refine sW rfl _ _ _ rfl (w.heap.size+1) rfl (us:=vs8) (HR.out.to ii) HL8 H18 (w0:=w) ii (by omega) ?_;intro z8 HX8 KX8))
    refine bodyPost_ret (v:=.agg vs8.toArray) (F7 (P:=Tryz.prog) rfl rfl HX8.out _ aq8 rfl (by rw[HL8.out];kernel_rfl)) rfl ?_
    rw[show L4 m=x by have:=HF.out;rw[List.drop_of_length_le (by rw[List.length_map,HN.out];exact Nat.le_refl _)]at this;exact this.symm]
    exact⟨vs8,χ8,rfl,ac0 (ar4 HO8.out ii) KX8.out (show w.heap.size+1<W2.heap.size by omega) hW2,b5.of⟩
theorem c_lFnExactHearUplink{vs:List Value}{m:f5}{w:World}(hm:Enc.Rd 0 w vs m) :
  Calls Tryz.prog 3 #[.agg vs.toArray] w (b4 w (.bool true)):=by
 have HL:=lH (ab7 hm)
 have HM:=lH hm;clear hm
 have HB:=lH (i9.new w vs 60 w.heap.size rfl)
 by_cases ht:(1048576:Int) - Enc.tot m<0
 ·have HSZ:=lH (j8 ht);clear ht
  go_enter Tryz.func3,Tryz.ntmps3
  go_wp2_with (first|((with_reducible refine rl ?_);refine rq ?_;intro x)|(refine sL rfl _ _ rfl w.heap.size rfl HB ii bF6 HL ?_))
  refine gm (aK9 (x:=m) (Enc.keep HM.out ii) (by omega) (by omega)) ?_
  intro y0
  rw[HSZ.out]
  go_wp2_with (first|((with_reducible refine rl ?_);refine rq ?_;intro x))
  go_ret
  exact b4.mk rfl
 have HSZ:=lH (B7 ht)
 have hle:0≤(1048576:Int) - Enc.tot m:=by omega
 have HT:=lH (show Enc.tot m≤1048576 by omega)
 have HT8:=lH (show Enc.tot m≤100000000 by omega)
 clear ht
 have HTF:=lH (show Enc.tot (L4 m)≤100000000 from by have h1:=bb4 m;have h2:=HT.out;omega)
 obtain⟨fm,hfm⟩:∃ fm,L4 m=fm:=⟨_,rfl⟩
 have HF:=lH hfm;clear hfm
 rw[HF.out]at HTF
 obtain⟨K,hK⟩:∃ K,af8 fm 1=K:=⟨_,rfl⟩
 have hKb:=aH9 fm 1
 rw[hK]at hKb
 have hK1:1≤K:=hKb.1
 have hK2:¬ K<0:=by omega
 have HK:=lH hK;clear hK hKb
 obtain⟨J,hJ⟩:∃ J,af8 m 1=J:=⟨_,rfl⟩
 have hJb:=aH9 m 1
 rw[hJ]at hJb
 have hJ1:1≤J:=hJb.1
 have hJ2:¬ J<0:=by omega
 have HJ:=lH hJ;clear hJ hJb
 have kb:(K != K)=false:=by simp
 go_enter Tryz.func3,Tryz.ntmps3
 go_wp2_with (first|((with_reducible refine rl ?_);refine rq ?_;intro x)|(refine sL rfl _ _ rfl w.heap.size rfl HB ii bF6 HL ?_))
 refine gm (aK9 (x:=m) (Enc.keep HM.out ii) (by omega) (by omega)) ?_
 intro y0
 rw[HSZ.out]
 go_wp2_with (first|((with_reducible refine rl ?_);refine rq ?_;intro x)|(refine sL rfl _ _ rfl w.heap.size rfl HB ii bF6 HL ?_))
 refine(ax9 (x:=m) (Enc.keep HM.out ii) HT.out).mono ?_
 rintro _ _ ⟨os,rfl,hR1,y1,rfl⟩
 have HR1:=lH hR1;clear hR1
 go_wp2_with (first|((with_reducible refine rl ?_);refine rq ?_;intro x))
 refine(bi8 (m:=m) HR1.out HT8.out).mono ?_
 rintro _ _ ⟨ws,χw,rfl,hW,y2,rfl⟩
 rw[HF.out]at hW
 have HLW:=lH (ab7 (R8.toRd hW))
 have HOW:=lH (al8 (R8.toRd hW))
 have HW0:=lH (Enc.mono (R8.toRd hW) (Nat.zero_le _));clear hW HR1
 go_wp2_with (first|((with_reducible refine rl ?_);refine rq ?_;intro x)|(refine sW rfl _ _ _ rfl _ rfl (us:=ws) (i9.new _ A8 90 _ rfl) HLW HOW (w0:=(w.alloc (.cells vs.toArray 60))) ii LeN.out ?_;intro z1 HX1 KX1)|(refine sL rfl _ _ rfl w.heap.size rfl HB ii bF6 HL ?_))
 have HW1:=lH (Enc.keep HW0.out (KX1.out.under ii nl));clear HW0 KX1
 have HWb1:=lH HX1.out;clear HX1
 have HB1:=lH (HB.out.to (ii:d5 _ z1.w))
 have HM1:=lH (Enc.keep HM.out (ii:b8 _ _ z1.w));clear HB HM
 refine(aN6 (x:=m) (Enc.keep HM1.out ii) HT.out).mono ?_
 rintro _ _ ⟨xs,χx,rfl,hX,y3,rfl⟩
 have HLX:=lH (ab7 (R8.toRd hX))
 have HOX:=lH (al8 (R8.toRd hX))
 have HX0:=lH (bO0 hX nl);clear hX
 go_wp2_with (first|((with_reducible refine rl ?_);refine rq ?_;intro x)|(refine sW rfl _ _ _ rfl _ rfl (us:=xs) (i9.new _ A8 90 _ rfl) HLX HOX (w0:=(w.alloc (.cells vs.toArray 60))) ii LeN.out ?_;intro z2 HX2 KX2)|(refine sL rfl _ _ rfl _ rfl HX2 ii aq8 HLX ?_))
 have HG12:=lH (bH1 z1 z2 (KX2.out.under ii y3.size_le))
 have HXO2:=lH (bq9 HX0.out (KX2.out.under ii nl));clear HX0 KX2
 have HWb2:=lH (HWb1.out.to HG12.out)
 have HU2:=lH (show y3.w.heap.size≤z2.w.heap.size from Nat.le_of_lt HX2.out.lt)
 refine(aI1 (m:=m) (R8.toRd HXO2.out) HT8.out).mono ?_
 rintro _ _ ⟨gs,χg,rfl,hG,y4,rfl⟩
 rw[HF.out]at hG
 have HLG:=lH (ab7 (R8.toRd hG))
 have HOG:=lH (al8 (R8.toRd hG))
 have HG0:=lH (bO0 hG nl);clear hG
 go_wp2_with (first|((with_reducible refine rl ?_);refine rq ?_;intro x)|(refine sW rfl _ _ _ rfl _ rfl (us:=gs) (i9.new _ A8 90 _ rfl) HLG HOG (w0:=(w.alloc (.cells vs.toArray 60))) ii LeN.out ?_;intro z3 HX3 KX3)|(refine sL rfl _ _ rfl _ rfl HX3 ii aq8 HLG ?_)|(refine f7 rfl _ _ rfl _ 0 rfl (row:=ws) ((HWb2.out.past ii KX3.out y4.size_le).to ii) _ aq8 rfl (by rw[HLW.out];kernel_rfl) dt ?_))
 have HG23:=lH (bH1 z2 z3 (KX3.out.under ii y4.size_le))
 have HGO3:=lH (bq9 HG0.out (KX3.out.under ii nl));clear HG0 KX3
 have HG13:=lH (S9 HG12.out HG23.out)
 have HW3:=lH (Enc.keep HW1.out (@b8.grows 0 _ _ HG13.out))
 have HUg:=lH (show y4.w.heap.size≤z3.w.heap.size from Nat.le_of_lt HX3.out.lt)
 refine gm (ar2 (x:=fm) (R8.toRd HGO3.out) HW3.out) ?_
 intro y5
 go_wp2_with (first|((with_reducible refine rl ?_);refine rq ?_;intro x))
 have HGV:=lH (ii:d5 z3.w (z3.andThen y5).w)
 obtain⟨V,hV⟩:∃ V:b5 (w.alloc (.cells vs.toArray 60)),(z3.andThen y5).w=V.w:=⟨_,rfl⟩
 rw[hV]at HGV ⊢
 clear hV
 have HG1V:=lH (S9 HG13.out HGV.out);have HG2V:=lH (S9 HG23.out HGV.out)
 have HBV:=lH (HB1.out.to HG1V.out);have HMV:=lH (Enc.keep HM1.out (@b8.grows 0 _ _ HG1V.out))
 have HXV:=lH (HX2.out.to HG2V.out);have HXOV:=lH (bx8 HXO2.out HG2V.out)
 have HGbV:=lH (HX3.out.to HGV.out);have HGOV:=lH (bx8 HGO3.out HGV.out)
 refine wp_region_held_drew (S:=fun W=>Below V.w.heap.size V.w W) kr (Below.refl _ _).drew (fun hH=>?_)
 refine wpAnyH_take (i:=0) (v:=_) rfl kr kr kr (fun _ _ _ h=>h) (yieldsIf_load_mid (by rfl) _ _ rfl _ _ rfl xs _ (fun W hW=>(HXV.out.to ⟨hW⟩).range (n:=xs.length) dt) aq8 rfl (by rw[HLX.out];kernel_rfl)) (by assumption) ?_
 (try simp only[nrm])
 refine wpAnyH_take (i:=1) (v:=_) rfl kr kr kr (fun _ _ _ h=>h) (yieldsIf_load_mid (by rfl) _ _ rfl _ _ rfl vs _ (fun W hW=>(HBV.out.to ⟨hW⟩).range (n:=vs.length) dt) bF6 rfl (by rw[HL.out];kernel_rfl)) (by assumption) ?_
 (try simp only[nrm])
 refine wpAnyH_ready (rs:=[2]) kr (by simp) ?_
 refine AllReadyH.cons rfl (fun K2 hQ=>?_) AllReadyH.nil
 refine aF6 rfl (f:=6) rfl Tryz.func6 kr kr [.agg vs.toArray] rfl ((ax9 (x:=m) (Enc.keep HMV.out ⟨hH.size,fun b _ h2=>hH.block b h2⟩) HT.out).mono ?_)
 rintro _ _ ⟨qs,rfl,hR3,y6,rfl⟩
 refine⟨_,rfl,hQ.out _ _ (hH.trans (y6.h.mono hH.size)) (fun hH2=>?_)⟩
 (try simp only[nrm])
 clear hQ K2
 refine wpAnyH_ready (rs:=[3]) kr (by simp) ?_
 refine AllReadyH.cons rfl (fun K2 hQ=>?_) AllReadyH.nil
 refine aF6 rfl (f:=8) rfl Tryz.func8 kr kr [.agg xs.toArray,.agg qs.toArray] rfl ((ar2 (x:=m) (Enc.keep (R8.toRd HXOV.out) ⟨hH2.size,fun b _ h2=>hH2.block b h2⟩) hR3).mono ?_)
 rintro _ _ ⟨rfl,y7,rfl⟩
 refine⟨_,rfl,hQ.out _ _ (hH2.trans (y7.h.mono hH2.size)) (fun hH3=>?_)⟩
 (try simp only[nrm])
 clear hQ K2
 have HGZ:=lH (show d5 V.w y7.w from⟨hH3⟩)
 obtain⟨Z,hZ⟩:∃ Z:b5 (w.alloc (.cells vs.toArray 60)),y7.w=Z.w:=b5.ofG (S9 (ii:d5 _ V.w) HGZ.out)
 rw[hZ]at hH3 HGZ ⊢
 refine wpAnyH_ready (rs:=[4]) kr (by simp) ?_
 refine AllReadyH.cons rfl (fun K2 hQ=>?_) AllReadyH.nil
 go_simp
 refine hQ.out _ _ hH3 (fun hH4=>?_)
 clear hQ K2
 refine wpAnyH_done kr ?_ _
 clear hH hH2 hH3 hH4 hR3 hZ
 have HG1Z:=lH (S9 HG1V.out HGZ.out);have HG2Z:=lH (S9 HG2V.out HGZ.out)
 have HXZ:=lH (HXV.out.to HGZ.out);have HXOZ:=lH (bx8 HXOV.out HGZ.out)
 have HGbZ:=lH (HGbV.out.to HGZ.out);have HGOZ:=lH (bx8 HGOV.out HGZ.out)
 clear HGV HG1V HG2V HBV HMV HXV HXOV HGbV HGOV
 go_wp2_with (first|((with_reducible refine rl ?_);refine rq ?_;intro x)|(refine sL rfl _ _ rfl _ rfl HXZ ii aq8 HLX ?_))
 refine(bH7 (k:=1) HXOZ.out (ay2 (Nat.le_of_lt HXZ.out.lt)) HG1Z.out.out.size HT8.out (by omega) (by omega)).mono ?_
 intro e5 Z5 hq5
 obtain⟨he,-,hF⟩:=hq5
 obtain rfl:e5=.returned (.int .i64 J):=he.trans (by rw[HJ.out])
 have HG5:=lH (hF.below HG1Z.out nl)
 have HK5:=lH (hF.keepsU (Rng.out (.inr (by decide))));clear he hF
 obtain⟨V5,rfl⟩:∃ x:b5 (w.alloc (.cells vs.toArray 60)),Z5=x.w:=b5.ofG (S9 (ii:d5 _ z1.w) HG5.out)
 have HW5:=lH (Enc.keep HW1.out (@b8.grows 0 _ _ HG5.out));have HWb5:=lH (HWb1.out.to HG5.out)
 have HUb:=lH (show y3.w.heap.size≤(z2.andThen y4).w.heap.size from Nat.le_trans HU2.out y4.size_le)
 have HGb5:=lH (HK5.out.ofU _ _ _ HUb.out HGbZ.out);have HGO5:=lH (bq9 HGOZ.out (HK5.out.more HU2.out))
 go_wp2_with (first|((with_reducible refine rl ?_);refine rq ?_;intro x)|(refine bl2 (by go_simp) _ _ rfl _ 0 rfl (row:=gs) (HGb5.out.to ii) _ aq8 rfl (by rw[HLG.out];kernel_rfl) dt ?_)|(refine bl2 (by go_simp) _ _ rfl _ 0 rfl (row:=ws) (HWb5.out.to ii) _ aq8 rfl (by rw[HLW.out];kernel_rfl) dt ?_))
 refine gm (ar2 (x:=fm) (R8.toRd HGO5.out) HW5.out) ?_
 intro y8
 go_wp2_with (first|((with_reducible refine rl ?_);refine rq ?_;intro x)|(refine sL rfl _ _ rfl _ rfl HGb5 ii aq8 HLG ?_))
 have HGb7:=lH (HGb5.out.to (ii:d5 _ (V5.andThen y8).w))
 refine(bH7 (k:=1) (bx8 HGO5.out ii) (ay2 (Nat.le_of_lt HGb7.out.lt)) (Nat.le_trans y4.size_le (Nat.le_of_lt HGb7.out.lt)) HTF.out (by omega) (by omega)).mono ?_
 intro e6 Z6 hq6
 obtain⟨he,hO6,hF⟩:=hq6
 obtain rfl:e6=.returned (.int .i64 K):=he.trans (by rw[HK.out])
 have HG6:=lH (hF.below (S9 HG5.out (ii:d5 _ (V5.andThen y8).w)) HG12.out.out.size)
 have HK6:=lH (hF.keepsU (Rng.out (.inr (by decide))));have HGO6:=lH hO6;clear he hF hO6
 obtain⟨V6,rfl⟩:∃ x:b5 (w.alloc (.cells vs.toArray 60)),Z6=x.w:=b5.ofG (S9 (ii:d5 _ z1.w) HG6.out)
 have HB6:=lH (HB1.out.to HG6.out);have HM6:=lH (Enc.keep HM1.out (@b8.grows 0 _ _ HG6.out))
 have HW6:=lH (Enc.keep HW1.out (@b8.grows 0 _ _ HG6.out));have HWb6:=lH (HWb1.out.to HG6.out)
 have HGb6:=lH (HK6.out.ofU _ _ _ nl HGb7.out)
 go_wp2_with (first|((with_reducible refine rl ?_);refine rq ?_;intro x)|(refine sL rfl _ _ rfl _ rfl HGb6 ii aq8 HLG ?_))
 refine(bH6 (k:=1) (R8.toRd HGO6.out) HTF.out (by omega) (by omega)).mono ?_
 intro e7 Z7 hq7
 obtain⟨he,y9,hw⟩:=hq7
 obtain rfl:e7=.returned (.int .i64 K):=he.trans (by rw[HK.out])
 clear he;subst hw
 go_wp2_with (first|((with_reducible refine rl ?_);(repeat(first|go_big_quiet_step (first|fail)|simp only[kb]));refine wpQuiet_nil ?_;intro x)|(refine sL rfl _ _ rfl w.heap.size rfl HB6 ii bF6 HL ?_))
 refine(ax9 (x:=m) (Enc.keep HM6.out ii) HT.out).mono ?_
 rintro _ _ ⟨os2,rfl,hR4,y10,rfl⟩
 have HR4:=lH hR4;clear hR4
 go_wp2_with (first|((with_reducible refine rl ?_);refine rq ?_;intro x))
 refine(aI1 (m:=m) HR4.out HT8.out).mono ?_
 rintro _ _ ⟨hs,χh,rfl,hH,y11,rfl⟩
 rw[HF.out]at hH
 have HLH:=lH (ab7 (R8.toRd hH))
 have HOH:=lH (al8 (R8.toRd hH))
 have HH0:=lH (Enc.mono (R8.toRd hH) (Nat.zero_le _));clear hH HR4
 go_wp2_with (first|((with_reducible refine rl ?_);refine rq ?_;intro x)|(refine sW rfl _ _ _ rfl _ rfl (us:=hs) (i9.new _ A8 90 _ rfl) HLH HOH (w0:=(w.alloc (.cells vs.toArray 60))) ii LeN.out ?_;intro z4 HX4 KX4)|(refine sL rfl _ _ rfl _ rfl HX4 ii aq8 HLH ?_)|(refine f7 rfl _ _ rfl _ 0 rfl (row:=ws) ((HWb6.out.past ii KX4.out LeN.out).to ii) _ aq8 rfl (by rw[HLW.out];kernel_rfl) dt ?_))
 have HH4:=lH (Enc.keep HH0.out (KX4.out.under ii nl));clear HH0
 have HW4:=lH (Enc.keep HW6.out (KX4.out.under (ii:b8 0 V6.w _) LeN.out))
 have HGb4:=lH (HGb6.out.past (ii:b8 0 V6.w _) KX4.out LeN.out)
 have HGR4:=lH (Enc.keep (Enc.mono (R8.toRd HGO6.out) (Nat.zero_le _)) (KX4.out.under (ii:b8 0 V6.w _) LeN.out))
 refine gm (ar2 (x:=fm) HH4.out HW4.out) ?_
 intro y12
 go_wp2_with (first|((with_reducible refine rl ?_);refine rq ?_;intro x)|(refine sL rfl _ _ rfl _ rfl HGb4 ii aq8 HLG ?_))
 refine(bH6 (k:=1) (Enc.keep HGR4.out ii) HTF.out (by omega) (by omega)).mono ?_
 intro e8 Z8 hq8
 obtain⟨he,y13,hw⟩:=hq8
 obtain rfl:e8=.returned (.int .i64 K):=he.trans (by rw[HK.out])
 clear he;subst hw
 go_wp2_with (first|((with_reducible refine rl ?_);(repeat(first|go_big_quiet_step (first|fail)|simp only[kb]));refine wpQuiet_nil ?_;intro x))
 go_ret
 exact b4.mk rfl
theorem FnExactHearUplink_lifted(os:Os)(started:os.Started)(H:Type)(enc:TypeId × Value→H) :
  ReturnsInHanded {} Tryz.checked os 3 .any (Rows.fnExactHearUplinkSpec.pre6 enc Tryz.prog Tryz.f3 Rows.fnExactHearUplinkRow.domain false) (Rows.fnExactHearUplinkSpec.post enc Tryz.prog Tryz.f3 false true false false):=by
 refine returnsInHanded_of_change (C:=Tryz.checked) own started kr Tryz.func3
  (ChangeSpec.witness6 (enc:=enc) (C:=Tryz.checked) false ⟨#[],#[.agg A8.toArray],[]⟩ 8 kr kr kr kr) ?_
 intro W base args ds gs before hval0 hW hcnd _
 have hval:∀ (j:Nat) t v,Tryz.f3.params[j]?=some t→args[j]?=some v→Value.okWide Tryz.prog W .any base t v:=hval0
 have hW':=hW
 obtain⟨p,q,hA0,hV,rfl,hfz,hnd⟩:=hW
 have hA:DataW.TrodAll enc Tryz.prog W 0 (fun _=>true) true Tryz.f3.params.toList args.toList ds p:=hA0
 rw[Tryz.params3]at hA hval
 obtain⟨rfl,rfl⟩:=trodVars_none hV
 obtain⟨v0,vs0,d0,ds0,p0,q0,hargs,rfl,rfl,h0,r0⟩:=trodAll_cons hA
 obtain⟨rfl,rfl,rfl⟩:=trodAll_nil r0
 obtain rfl:args=#[v0]:=by cases args;simp_all
 obtain⟨cb0,rfl,hcz0⟩:=bi9 bF6 (hval 0 60 v0 rfl rfl)
 obtain⟨ca0,rfl⟩:∃ ca:List Value,cb0=ca.toArray:=⟨cb0.toList,by simp⟩
 obtain⟨f0,t0⟩:=h0
 obtain⟨hl0,rd0⟩:=aB4 10 _ _ _ _ _ (show ba1 Tryz.prog 10 60=some [.int,.int,.int,.int,.int,.int,.int,.sl [.int,.int],.int,.int,.int,.int,.int,.int,.sl [.int,.str],.sl [.int,.str],.sl [.str],.int,.int,.sl [.int,.str],.int,.int,.bool,.bool,.int,.int,.bool,.str,.int,.sl [.int,.int],.sl [.int,.int,.int,.str],.sl [.int,.int,.int,.sl [.str]],.sl [.bool],.int,.bool,.bool,.int,.int,.sl [.int],.bool,.sl [.int,.int,.int],.sl [.int,.int,.int,.int,.int],.sl [.int,.int,.int],.int,.sl [.int,.int,.int,.str],.sl [.int],.int,.int,.sl [.int],.int,.int,.str,.sl [.int],.int,.sl [.str],.sl [.int,.str,.sl [.int],.bool],.int,.sl [.int,.int,.int,.str],.sl [.str],.sl [.str],.int]by kernel_rfl) t0
 obtain⟨x0,hx0⟩:=bE9 _ hl0 rd0
 clear hA0 hval0
 refine(b4.below (c_lFnExactHearUplink hx0)).mono fun e W' ⟨he,hb⟩=>?_
 subst he
 exact⟨_,rfl,bN3 bH3 kr rfl rfl rfl Tryz.underlying4 hW' hb⟩
