/- A box with data of the call's own: a slice to which a call has appended stands ready, and cells that are no slice's are written ahead of it. -/
import Derived.Test.YtdoilejecjaldaaGreatHM44
import Derived.Test.YtdoilejecjaldaaGreatHStab5
import Derived.Test.YtdoilejecjaldaaGreatHIns
import Derived.Deep.CutRange
import Derived.Deep.CutBlock
import Derived.Test.YtdoilejecjaldaaGreatHM31
import Derived.Test.YtdoilejecjaldaaGreatHRcvI5
import Derived.Test.YtdoilejecjaldaaGreatHM38
import Derived.Test.YtdoilejecjaldaaGreatHM26
import Derived.Test.YtdoilejecjaldaaGreatHCopyMI
import Derived.Test.YtdoilejecjaldaaGreatHM41
import Derived.Test.YtdoilejecjaldaaGreatHOutL
namespace Go.Proofs.YtdoilejecjaldaaGreat
set_option maxRecDepth 100000
set_option maxHeartbeats 4000000
set_option linter.unusedVariables false
open Go.ChangeShapes Go.WideShapes Go.ChangeAt Go.RowKit
private abbrev aU8:=Tryz.underlying169
private abbrev am0:=Tryz.underlying84
private abbrev aq8:=Tryz.underlying90
theorem D0.appK{α:Type}[E:D9 α]{B:Nat}{χ:Nat→Col}{i:Col}{w w':World}{a a':Option Addr}{c c':Nat}{l l':List α}(h:D0 B χ i w a c l)(ho:Own E.enc E.ty E.size B w' a' c' l')(hb:∀ k,I5 a'=some k→I5 a=some k∨w.heap.size≤k)(hg:∀ x∈l',E.good x) :
  D0 B (E9 w.heap.size χ (fun _=>i) id) i w' a' c' l':=by
 refine⟨ho,fun k hk=>?_,hg⟩
 rcases hb k hk with hb|hb
 ·rw[E9,if_pos (h.own.blk k hb).2];exact h.col k hb
 ·rw[E9,if_neg (by omega)];rfl
section
variable {P:Program} {ops:Array Oper} {rest:List Oper} {op:Oper} {act:Act} {w w0:World} {Q:Exit→Act→World→Prop} {α β:Type} [E:S7 α] [E2:D9 β] {X:Nat→Prop} {B b:Nat} {x:α} {F:FS α β} {l:List β} {a:Option Addr} {c:Nat} {us:List Value}
theorem GBp.updK{n sc0:Nat}{u W W2:World}{l':List β}{sa0 sa:Option Addr}{sc:Nat}(h:GB X B b u x)(hc0:u.cell? ⟨b,F.off,none⟩=some (.slice sa0 (F.get x).length sc0))(g:d5 u W)(hown:Own E2.enc E2.ty E2.size B W2 sa sc l')(hgr:W.grownBy W2 (Value.ownBlock (.slice sa0 n sc0)))
  (hblk:∀ k,I5 sa=some k→I5 sa0=some k∨W.heap.size≤k) (hg:∀ p∈l',E2.good p):GBp F X B b W2 x l' sa sc∧∀ k,X k→W2.heap[k]?=W.heap[k]?:=by
 obtain⟨χ,vs,h1,h2,h3,h4,h5,h6⟩:=h
 obtain⟨a0,c0,hv,hO⟩:=F.own h2
 rw[h1.cell,hv]at hc0
 simp only[Option.some.injEq,Value.slice.injEq,true_and]at hc0
 obtain⟨rfl,rfl⟩:=hc0
 have hlu:=h1.lt
 have hF:=(hO.to g).wrote hgr
 have hc:=F.c1000
 have hsu:=g.out.size
 have hs:=hF.size
 have hlen:=aq4 h2
 have hX:∀ k,1000≤(χ k).1→k<u.heap.size→W2.heap[k]?=W.heap[k]?:=fun k hk hl=>bS0 hF (fun i e=>by rw[e];exact hc) hk (by omega)
 have hp:∀ k,k<W.heap.size→E9 W2.heap.size (E9 W.heap.size χ (fun _=>(F.col,0)) id) (fun _=>(0,0)) (fun _=>(1000,0)) k=χ k:=fun k hk=>by rw[E9,if_pos (by omega),E9,if_pos hk]
 refine⟨⟨E9 W2.heap.size (E9 W.heap.size χ (fun _=>(F.col,0)) id) (fun _=>(0,0)) (fun _=>(1000,0)),vs,?_,hlen,?_,?_,ay2 nl,h5,fun k hk=>⟨?_,(h6 k hk).2.1,by have:=(h6 k hk).2.2;omega⟩⟩,fun k hk=>hX k (h6 k hk).1 (h6 k hk).2.2⟩
 ·have h1':=h1.to g
  unfold i9 at h1' ⊢
  rw[hX b h3 hlu];exact h1'
 ·exact E.map (F.put (E.map (E.map h2 (.to g)) (.old nl)) (hF.old nl) ((hO.to g).appK hown hblk hg)) (.old nl)
 ·rw[hp b (by omega)];exact h3
 ·rw[hp k (by have:=(h6 k hk).2.2;omega)];exact(h6 k hk).1
end
theorem bc3{B:Nat}{vs:List Value}{b:D5}{x:Z3}{w:World}(h:Enc.Rd B w vs b)(hx:aw6 x)(ht:Enc.tot b≤50000000) :
  Calls Tryz.prog 126 #[.agg vs.toArray,.agg #[.int .i64 x.Kind,.int .i64 x.At,.int .i64 x.A,.int .i64 x.B]] w (bG2 w (A7 b x).1 (A7 b x).2):=by
 have HL:=lH (Y3 h);have H1:=lH (aj0 h)
 have HM:=lH h
 have HT:=lH (show Enc.tot b≤100000000 by omega);have HT5:=lH ht;clear ht
 obtain⟨A,hvs,F⟩:=h
 have HV4:=lH (show vs[4]?=some (.slice A.a2 b.Orders.length A.c2)by rw[hvs];rfl)
 have HV10:=lH (show vs[10]?=some (.int .i64 b.Taken)by rw[hvs];rfl)
 have HV0:=lH (show vs[0]?=some (.int .i64 b.Clock)by rw[hvs];rfl)
 have HQ2:=lH F.q2
 have HXO:=lH hx
 clear hvs F hx
 have HB:=lH ((i9.new w vs 84 w.heap.size rfl).to (ii:d5 _ (((w.alloc (.cells vs.toArray 84)).alloc (.cells #[.int .i64 x.Kind,.int .i64 x.At,.int .i64 x.A,.int .i64 x.B] 169)).alloc (.cells L6.toArray 84))))
 have HW:=lH ((i9.new (w.alloc (.cells vs.toArray 84)) [.int .i64 x.Kind,.int .i64 x.At,.int .i64 x.A,.int .i64 x.B] 169 (w.heap.size+1) (by simp)).to (ii:d5 _ (((w.alloc (.cells vs.toArray 84)).alloc (.cells #[.int .i64 x.Kind,.int .i64 x.At,.int .i64 x.A,.int .i64 x.B] 169)).alloc (.cells L6.toArray 84))))
 have HR:=lH (i9.new ((w.alloc (.cells vs.toArray 84)).alloc (.cells #[.int .i64 x.Kind,.int .i64 x.At,.int .i64 x.A,.int .i64 x.B] 169)) L6 84 (w.heap.size+2) (by simp))
 have gW:d5 w (((w.alloc (.cells vs.toArray 84)).alloc (.cells #[.int .i64 x.Kind,.int .i64 x.At,.int .i64 x.A,.int .i64 x.B] 169)).alloc (.cells L6.toArray 84)):=inferInstance
 have hsz:((((w.alloc (.cells vs.toArray 84)).alloc (.cells #[.int .i64 x.Kind,.int .i64 x.At,.int .i64 x.A,.int .i64 x.B] 169)).alloc (.cells L6.toArray 84))).heap.size=w.heap.size+3:=by simp
 go_enter Tryz.func126,Tryz.ntmps126
 go_upto_region 1 with(first|((with_reducible refine rl ?_);refine rq ?_;intro x))
 generalize (((w.alloc (.cells vs.toArray 84)).alloc (.cells #[.int .i64 x.Kind,.int .i64 x.At,.int .i64 x.A,.int .i64 x.B] 169)).alloc (.cells L6.toArray 84))=W2 at HB HW HR gW hsz ⊢
 have iB:LtN w.heap.size W2.heap.size:=⟨by omega⟩
 have iW:LtN (w.heap.size+1) W2.heap.size:=⟨by omega⟩
 have iR:LtN (w.heap.size+2) W2.heap.size:=⟨by omega⟩
 have hW2:w.heap.size≤W2.heap.size:=by omega
 have f1:=HW.out.cellG 1 _ rfl
 go_cut [17]from 10 (fun s wx=>s=.bool (!V8 b x)∧∃ y:b5 W2,wx=y.w)
 case first =>
  go_wp2_with (first|((with_reducible refine rl ?_);refine rq ?_;intro x)|(refine sL rfl _ (.tmp 2) rfl (w.heap.size) rfl HB ii am0 HL ?_))
  refine gm (aB1 (Enc.keep HM.out ii) HT.out) ?_
  intro y5
  cases c0:s9 b
  ·have HK:=lH (show V8 b x=false by rw[V8,c0];rfl)
   go_wp2_with (first|((with_reducible refine rl ?_);(repeat(first|go_big_quiet_step (first|fail)|simp only[c0]));refine wpQuiet_nil ?_;intro x))
   go_meet
   case rel=>exact⟨by rw[HK.out];rfl,b5.of⟩
  go_wp2_with (first|((with_reducible refine rl ?_);(repeat(first|go_big_quiet_step (first|fail)|simp only[c0]));refine wpQuiet_nil ?_;intro x)|(refine X1 kg _ _ rfl (w.heap.size+1) 0 kr (row:=[.int .i64 x.Kind,.int .i64 x.At,.int .i64 x.A,.int .i64 x.B]) (HW.out.to ii) _ aU8 rfl kr rfl ?_))
  refine gm (ad0 (x:=x)) ?_
  intro y6
  have HK:=lH (show V8 b x=w8 x by rw[V8,c0];rfl)
  cases c1:w8 x
  ·go_wp2_with (first|((with_reducible refine rl ?_);(repeat(first|go_big_quiet_step (first|fail)|simp only[c0]|simp only[c1]));refine wpQuiet_nil ?_;intro x))
   go_meet
   case rel=>exact⟨by rw[HK.out,c1];rfl,b5.of⟩
  ·go_wp2_with (first|((with_reducible refine rl ?_);(repeat(first|go_big_quiet_step (first|fail)|simp only[c0]|simp only[c1]));refine wpQuiet_nil ?_;intro x))
   go_meet
   case rel=>exact⟨by rw[HK.out,c1];rfl,b5.of⟩
 case rest =>
  obtain⟨rfl,y0,rfl⟩:=hcut
  cases hk:V8 b x
  ·have HK:=lH (show A7 b x=(b,false)by rw[A7,hk];rfl)
   clear hk
   go_wp2_with (first|((with_reducible refine rl ?_);refine rq ?_;intro x)|(refine sL rfl _ (.tmp 2) rfl (w.heap.size) rfl HB ii am0 HL ?_))
   refine(an2 (x:=b) (Enc.keep HM.out ii) HT.out).mono ?_
   rintro _ _ ⟨cs,χ,rfl,hO,y1,rfl⟩
   have HLC:=lH (Y3 (R8.toRd hO));have HOC:=lH (aj0 (R8.toRd hO));have HO:=lH hO;clear hO
   go_wp2_with (first|((with_reducible refine rl ?_);refine rq ?_;intro x)|(refine sW rfl _ _ _ rfl (w.heap.size+2) rfl (us:=cs) (HR.out.to ii) HLC HOC (w0:=w) ii (by omega) ?_;intro z9 HX9 KX9))
   refine bodyPost_ret (v:=.tuple #[.agg cs.toArray,.bool false]) (L0 (P:=Tryz.prog) (u:=.bool false) rfl rfl HX9.out _ am0 rfl (by rw[HLC.out];kernel_rfl) rfl) rfl ?_
   rw[HK.out]
   exact⟨cs,χ,rfl,ac0 HO.out KX9.out LtN.out LeN.out,b5.of⟩
  ·have HK:=lH hk
   rw[V8,Bool.and_eq_true]at hk
   have HBP:=lH (aR7 hk.1)
   clear hk
   go_wp2_with (first|((with_reducible refine rl ?_);refine rq ?_;intro x)|(refine sL rfl _ (.tmp 2) rfl (w.heap.size) rfl HB ii am0 HL ?_))
   refine(an2 (x:=b) (Enc.keep HM.out ii) HT.out).mono ?_
   rintro _ _ ⟨cs,χ,rfl,hO,y1,rfl⟩
   have HLC:=lH (Y3 (R8.toRd hO));have HOC:=lH (aj0 (R8.toRd hO));have HO:=lH hO;clear hO
   go_upto_region 4 with(first|((with_reducible refine rl ?_);refine rq ?_;intro x)|(refine sW rfl _ _ _ rfl _ rfl (us:=cs) (i9.new _ L6 84 _ rfl) HLC HOC (w0:=W2) ii LeN.out ?_;intro z1 HX1 KX1))
   (try simp only[Act.put])
   obtain⟨qb,hqb⟩:∃ qb,(y0.andThen y1).w.heap.size=qb:=⟨_,rfl⟩
   rw[hqb]
   have HG:=lH (show GB (fun _=>False) W2.heap.size qb z1.w b from hqb▸(GB.of HO.out (KX1.out.under ii nl) y1.size_le HX1.out).mono y0.size_le)
   have hqB:W2.heap.size≤qb:=HG.out.le
   have hqlt:LtN qb z1.w.heap.size:=⟨HG.out.lt⟩
   clear hqb HX1 KX1 HO HLC HOC
   have e10:∀ (W:World) [d5 z1.w W],W.cell? ⟨qb,10,none⟩=some (.int .i64 b.Taken):=by
    obtain⟨vs6,hH6,-,-,⟨A6,rfl,-⟩,-⟩:=HG.out.vs
    exact hH6.cellG 10 _ rfl
   go_upto_region 5 with(first|((with_reducible refine rl ?_);refine rq ?_;intro x)|(refine f7 rfl _ _ rfl (w.heap.size+1) 0 rfl (row:=[.int .i64 x.Kind,.int .i64 x.At,.int .i64 x.A,.int .i64 x.B]) (HW.out.to ii) _ aU8 rfl kr rfl ?_))
   (try simp only[Act.put])
   have HX5:=lH (i9.new z1.w [.int .i64 b.Taken,.int .i64 x.Kind,.int .i64 x.At,.int .i64 x.A,.int .i64 x.B] 254 z1.w.heap.size rfl)
   obtain⟨z5,hz5⟩:∃ z5:b5 z1.w,(z1.w.alloc (.cells #[.int .i64 b.Taken,.int .i64 x.Kind,.int .i64 x.At,.int .i64 x.A,.int .i64 x.B] 254))=z5.w:=b5.of
   rw[show([.int .i64 b.Taken,.int .i64 x.Kind,.int .i64 x.At,.int .i64 x.A,.int .i64 x.B]:List Value).toArray=#[.int .i64 b.Taken,.int .i64 x.Kind,.int .i64 x.At,.int .i64 x.A,.int .i64 x.B]from rfl,hz5]at HX5
   rw[hz5];clear hz5
   obtain⟨qo,hqo⟩:∃ qo,z1.w.heap.size=qo:=⟨_,rfl⟩
   rw[hqo]at HX5 ⊢
   have HP:=lH (GB.prot (P:=(·=qo)) HG.out (ii:d5 z1.w z5.w) (fun k hk=>by subst hk;exact⟨Nat.le_of_eq hqo,HX5.out.lt⟩))
   obtain⟨X,hX⟩:∃ X:Nat→Prop,(fun k=>False∨k=qo)=X:=⟨_,rfl⟩
   rw[hX]at HP
   have HXq:=lH (show X qo by rw[← hX];exact .inr rfl)
   clear hqo hX HG
   have hqlt5:LtN qb z5.w.heap.size:=⟨HP.out.lt⟩
   have hqo5:LtN qo z5.w.heap.size:=⟨HX5.out.lt⟩
   have gW5:d5 W2 z5.w:=S9 (ii:d5 W2 z1.w) ii
   have hW5:=gW5.out.size
   clear e10
   have HTB:=lH (show 0≤b.Taken∧b.Taken≤65535 from HBP.out.2.2.2.2.1)
   have htb0:=HTB.out.1;have htb1:=HTB.out.2
   have e10:∀ (W:World) [d5 z5.w W],W.cell? ⟨qb,10,none⟩=some (.int .i64 b.Taken):=by
    obtain⟨vs6,hH6,-,-,⟨A6,rfl,-⟩,-⟩:=HP.out.vs
    exact hH6.cellG 10 _ rfl
   go_upto_region 6 with(first|((with_reducible refine rl ?_);refine rq ?_;intro x)|(refine ax1 (o:=10) (us:=[.int .i64 (b.Taken+1)]) ({ b with Taken:=b.Taken+1 }:D5) rfl _ (.tmp 29) (.tmp 28) rfl (HP.out.to ii) rfl rfl kr rfl nb (by intros;rename_i h;obtain⟨A1,rfl,p⟩:=h;exact⟨A1,rfl,{ p with ok:=⟨p.ok.1,p.ok.2.1,p.ok.2.2.1,(show i64 (b.Taken+1)by unfold i64;omega),trivial⟩ }⟩) (w0:=W2) ii nl ?_;intro z6 hz6 hX6))
   (try simp only[Act.put])
   have HX6:=lH (show i9 z6.w qo [.int .i64 b.Taken,.int .i64 x.Kind,.int .i64 x.At,.int .i64 x.A,.int .i64 x.B] 254 by unfold i9;rw[hX6 qo HXq.out];exact HX5.out.to ii)
   have HZ6:=lH hz6
   clear hz6 hX6 HX5 HP e10 gW5 hqlt5 hqo5
   have hqb6:LtN qb z6.w.heap.size:=⟨HZ6.out.lt⟩
   have hqo6:LtN qo z6.w.heap.size:=⟨HX6.out.lt⟩
   obtain⟨n,hn⟩:∃ n,b.Orders.length=n:=⟨_,rfl⟩
   have HN:=lH hn
   have hn40:n≤40:=hn▸HBP.out.2.2.2.2.2.2.2.1
   obtain⟨sa,sc,ea,hown,hgood,hrd⟩:=HZ6.out.own ai9
   have HEA:=lH (ea z6.w);have HGO:=lH hgood
   have ea2:∀ (W:World) [d5 z6.w W],W.cell? ⟨qb,4,none⟩=some (.slice sa n sc):=fun W g=>HN.out▸ea W
   have HRD:=lH (show RdS W2.heap.size z6.w sa sc b.Orders from hrd)
   have HOW:=lH (show Own j6 254 5 W2.heap.size z6.w sa sc b.Orders from hown)
   clear ea hgood hrd hown hn
   cases c4:decide ((n:Int)<40)
   ·have HAR:=lH (show J1 b x={ b with Taken:=b.Taken+1,Done:=b.Done++[⟨b.Taken,b.Clock,0⟩] } by rw[J1,if_neg (by have:=of_decide_eq_false c4;have:=HN.out;omega)])
    have HRM:=lH (show decide (b.Orders.length<40)=false by have:=of_decide_eq_false c4;have:=HN.out;exact decide_eq_false (by omega))
    have g0:=HX6.out.cellG 0 _ rfl
    have ec:∀ (W:World) [d5 z6.w W],W.cell? ⟨qb,0,none⟩=some (.int .i64 b.Clock):=by
     obtain⟨vs6,hH6,-,-,⟨A6,rfl,-⟩,-⟩:=HZ6.out.vs
     exact hH6.cellG 0 _ rfl
    obtain⟨sb,sD,eb,hownd,-,-⟩:=HZ6.out.own ay0
    obtain⟨n2,hn2⟩:∃ n,b.Done.length=n:=⟨_,rfl⟩
    have hnb2:n2≤5000:=hn2▸HBP.out.2.2.2.2.2.2.2.2.1
    have HED2:=lH (eb z6.w);have HN2:=lH hn2
    have eb2:∀ (W:World) [d5 z6.w W],W.cell? ⟨qb,5,none⟩=some (.slice sb n2 sD):=fun W g=>HN2.out▸eb W
    clear eb hn2
    have HGD:=lH (show i64 b.Taken∧i64 b.Clock∧i64 0∧True from⟨by unfold i64;omega,by have:=HBP.out.2.2.2.2.2.1;unfold i64;omega,by unfold i64;omega,trivial⟩)
    go_upto_region 13 with(first|((with_reducible refine rl ?_);(repeat(first|go_big_quiet_step (first|fail)|simp only[c4]));refine wpQuiet_nil ?_;intro x)|(at_builtin;refine X9 (enc:=ab0) (w0:=W2) (z:=.agg #[.int .i64 0,.int .i64 0,.int .i64 0]) (size:=3) (bytes:=24) (n:=n2) (⟨b.Taken,b.Clock,0⟩) rfl (.tmp 63) (.tmp 69) rfl Tryz.underlying80 kr rfl (by decide) (by decide) rfl rfl HN2.out (hownd.to ii) bk rfl (ar3 _) (by omega) LeN.out ii nl ?_;intro sa9 sc9 xa9 hown1 hgr1 hblk1;have hp9:=(GBp.app (F:=ay0) HZ6.out HED2.out ii hown1 hgr1 hblk1 HGD.out).1;clear hown1 hgr1 hblk1)|(refine by9 (aX4 HN2.out) rfl _ _ _ rfl hp9 rfl rfl kr ii nl ?_;intro z9 hz9))
    (try simp only[Act.put])
    have HZ9:=lH (show GB X W2.heap.size qb z9.w (J1 b x)by rw[HAR.out];exact hz9)
    have HTP:=lH (show Enc.tot (J1 b x)≤100000000 by rw[ap1];have:=HT5.out;omega)
    clear hz9 ec eb2 hownd g0 ea2
    have hqb9:LtN qb z9.w.heap.size:=⟨HZ9.out.lt⟩
    obtain⟨vs9,hH9,hl9,h19,hrd9,χ9,hO9⟩:=HZ9.out.vs
    have HH9:=lH hH9;have HO9:=lH hO9;have H19:=lH h19;have HL9:=lH (show vs9.length=12 from hl9);have HRD9:=lH hrd9
    clear hO9 hH9 h19 hl9 hrd9
    go_wp2_with (first|((with_reducible refine rl ?_);refine rq ?_;intro x)|(refine sL rfl _ _ rfl (qb) kr HH9 ii am0 HL9 ?_))
    refine gm (aB1 (Enc.keep HRD9.out ii) HTP.out) ?_
    intro y9
    cases hr:s9 (J1 b x)
    ·have HKR:=lH (show A7 b x=(b,false)by rw[A7,HK.out,if_pos rfl,hr];rfl)
     go_wp2_with (first|((with_reducible refine rl ?_);(repeat(first|go_big_quiet_step (first|fail)|simp only[hr]));refine wpQuiet_nil ?_;intro x)|(refine sL rfl _ (.tmp 2) rfl (w.heap.size) rfl HB ii am0 HL ?_))
     refine(an2 (x:=b) (Enc.keep HM.out ii) HT.out).mono ?_
     rintro _ _ ⟨cs8,χ8,rfl,hO8,y8,rfl⟩
     have HLC:=lH (Y3 (R8.toRd hO8));have HOC:=lH (aj0 (R8.toRd hO8));have HO:=lH hO8;clear hO8
     go_wp2_with (first|((with_reducible refine rl ?_);refine rq ?_;intro x)|(refine sW rfl _ _ _ rfl (w.heap.size+2) rfl (us:=cs8) (HR.out.to ii) HLC HOC (w0:=w) ii (by omega) ?_;intro z8 HX8 KX8))
     refine bodyPost_ret (v:=.tuple #[.agg cs8.toArray,.bool false]) (L0 (P:=Tryz.prog) (u:=.bool false) rfl rfl HX8.out _ am0 rfl (by rw[HLC.out];kernel_rfl) rfl) rfl ?_
     rw[HKR.out]
     exact⟨cs8,χ8,rfl,ac0 HO.out KX8.out LtN.out LeN.out,b5.of⟩
    ·have HKR:=lH (show A7 b x=(J1 b x,false)by rw[A7,HK.out,if_pos rfl,if_pos hr,HRM.out])
     go_wp2_with (first|((with_reducible refine rl ?_);(repeat(first|go_big_quiet_step (first|fail)|simp only[hr]));refine wpQuiet_nil ?_;intro x)|(refine sL rfl _ _ rfl (qb) kr HH9 ii am0 HL9 ?_)|(refine sW rfl _ _ _ rfl (w.heap.size+2) rfl (us:=vs9) (HR.out.to ii) HL9 H19 (w0:=w) ii (by omega) ?_;intro z7 HX7 KX7))
     refine bodyPost_ret (v:=.tuple #[.agg vs9.toArray,.bool false]) (L0 (P:=Tryz.prog) (u:=.bool false) rfl rfl HX7.out _ am0 rfl (by rw[HL9.out];kernel_rfl) rfl) rfl ?_
     rw[HKR.out]
     exact⟨vs9,χ9,rfl,ac0 (ar4 HO9.out ii) KX7.out (show w.heap.size+2<W2.heap.size by omega) hW2,b5.of⟩
   ·have HAR:=lH (show J1 b x={ b with Taken:=b.Taken+1,Orders:=ag4 b.Orders (X7 x.At b.Orders n) ⟨b.Taken,x⟩ } by rw[J1,if_pos (by have:=of_decide_eq_true c4;have:=HN.out;omega),HN.out])
    have HRM:=lH (show decide (b.Orders.length<40)=true by have:=of_decide_eq_true c4;have:=HN.out;exact decide_eq_true (by omega))
    go_upto_block 0 with(first|((with_reducible refine rl ?_);(repeat(first|go_big_quiet_step (first|fail)|simp only[c4]));refine wpQuiet_nil ?_;intro x))
    go_cut [9]from 10 (fun s wx=>s=.int .i64 ((X7 x.At b.Orders n:Nat):Int)∧∃ y:b5 z6.w,wx=y.w)
    case first =>
     go_wp2_with (first|((with_reducible refine rl ?_);refine rq ?_;intro x))
     go_loopw [9] (fun v wr=>∃ k:Nat,v=.int .i64 k∧k≤n∧Hid (X7 x.At b.Orders k=X7 x.At b.Orders n)∧∃ y:b5 z6.w,wr=y.w) (fun v _=>(intOf v).toNat)
     case atStart=>exact⟨n,rfl,Nat.le_refl _,rfl,b5.of⟩
     case round =>
      obtain⟨k,rfl,hk,HF,y,rfl⟩:=hrel
      cases k with
      | zero =>
       have kc:decide ((0:Int)<((0:Nat):Int))=false:=rfl
       go_wp2_with (first|((with_reducible refine rl ?_);(repeat(first|go_big_quiet_step (first|fail)|simp only[kc]));refine wpQuiet_nil ?_;intro x))
       go_meet
       case rel=>exact⟨by rw[← HF.out];rfl,b5.of⟩
      | succ j =>
       have kc:decide ((0:Int)<((j+1:Nat):Int))=true:=decide_eq_true (by omega)
       have kj:((j+1:Nat):Int) - 1=(j:Int):=by omega
       have hjn:j<n:=hk
       obtain⟨eb,eoff,es,heq,ehb,ehd,eok,eh0,eh1,eh2,eh3,eh4⟩:=(HRD.out.keep (ay3 (ii:d5 z6.w y.w))).atTWaiting (show j<b.Orders.length by rw[HN.out];exact hjn)
       have HAT:=lH (show bM5 b.Orders j=es.Order.At by have:=congrArg (fun l=>l[0]?) ehd.out;simp only[List.getElem?_drop,Nat.add_zero,List.getElem?_cons_zero]at this;rw[bM5,this])
       have HEQ:=lH heq
       clear ehd eok
       cases c5:decide (x.At<es.Order.At)
       ·have HB5:=lH (show X7 x.At b.Orders (j+1)=j+1 by rw[X7,HAT.out,if_neg (of_decide_eq_false c5)])
        go_wp2_with (first|((with_reducible refine rl ?_);(repeat(first|go_big_quiet_step (first|fail)|simp only[kc]|simp only[kj]|simp only[c5]));refine wpQuiet_nil ?_;intro x))
        go_meet
        case rel=>exact⟨by rw[← HF.out,HB5.out],b5.of⟩
       ·have HB5:=lH (show X7 x.At b.Orders (j+1)=X7 x.At b.Orders j by rw[X7,HAT.out,if_pos (of_decide_eq_true c5)])
        go_wp2_with (first|((with_reducible refine rl ?_);(repeat(first|go_big_quiet_step (first|fail)|simp only[kc]|simp only[kj]|simp only[c5]));refine wpQuiet_nil ?_;intro x))
        go_roundw
        case rel=>exact⟨j,by go_num,by omega,lH (by have:=HF.out;rw[HB5.out]at this;exact this),b5.of⟩
        case measure=>first|(simp[intOf];done)|(simp[intOf];omega)
    case rest =>
     obtain⟨rfl,y7,rfl⟩:=hcut
     have hkb:=aP3 x.At b.Orders n
     obtain⟨k,hk⟩:∃ k,X7 x.At b.Orders n=k:=⟨_,rfl⟩
     rw[hk]at hkb HAR ⊢
     clear hk
     have HLE:=lH (show(ag4 b.Orders k (⟨b.Taken,x⟩:A4)).length=n+1 by rw[aw4,HN.out])
     have HGI:=lH (show ∀ p∈ag4 b.Orders k (⟨b.Taken,x⟩:A4),al7 p from fun p hp=>by
      rcases List.mem_append.1 hp with hp|hp
      ·exact HGO.out p (List.mem_of_mem_take hp)
      ·rcases List.mem_cons.1 hp with rfl|hp
       ·exact⟨show i64 b.Taken by unfold i64;omega,HXO.out,trivial⟩
       ·exact HGO.out p (List.mem_of_mem_drop hp))
     go_upto_region 13 with(first|((with_reducible refine rl ?_);refine rq ?_;intro x)|(refine f7 rfl _ _ rfl (qo) 0 rfl (row:=[.int .i64 b.Taken,.int .i64 x.Kind,.int .i64 x.At,.int .i64 x.A,.int .i64 x.B]) (HX6.out.to ii) _ Tryz.underlying254 rfl kr rfl ?_)|(go_at_call 217;refine(aV0 (x:=(⟨b.Taken,x⟩:A4)) (w0:=W2) (HOW.out.to ii) HN.out hkb (by omega) (i9.new y7.w [.int .i64 b.Taken,.int .i64 x.Kind,.int .i64 x.At,.int .i64 x.A,.int .i64 x.B] 254 y7.w.heap.size rfl) (fun j hj=>Nat.lt_of_lt_of_le (HOW.out.blk j hj).2 (ii:d5 z6.w y7.w).out.size) ii nl LeN.out).mono ?_;rintro _ w6 ⟨a6,c6,rfl,ho6,hg6,hb6,z7,rfl⟩;obtain⟨hp7,hX7⟩:=GBp.updK (F:=ai9) (n:=n) HZ6.out HEA.out ii ho6 ((E8 _ _ _).symm▸hg6) hb6 HGI.out;clear ho6 hg6 hb6)|(refine ax2 HLE.out rfl _ _ _ rfl hp7 rfl rfl kr (w0:=W2) ii nl ?_;intro z9 hz9 hX9))
     (try simp only[Act.put])
     have HZ9:=lH (show GB X W2.heap.size qb z9.w (J1 b x)by rw[HAR.out];exact hz9)
     have HTP:=lH (show Enc.tot (J1 b x)≤100000000 by rw[ap1];have:=HT5.out;omega)
     clear hz9 ea2 hX7 hX9
     have hqb9:LtN qb z9.w.heap.size:=⟨HZ9.out.lt⟩
     obtain⟨vs9,hH9,hl9,h19,hrd9,χ9,hO9⟩:=HZ9.out.vs
     have HH9:=lH hH9;have HO9:=lH hO9;have H19:=lH h19;have HL9:=lH (show vs9.length=12 from hl9);have HRD9:=lH hrd9
     clear hO9 hH9 h19 hl9 hrd9
     go_wp2_with (first|((with_reducible refine rl ?_);refine rq ?_;intro x)|(refine sL rfl _ _ rfl (qb) kr HH9 ii am0 HL9 ?_))
     refine gm (aB1 (Enc.keep HRD9.out ii) HTP.out) ?_
     intro y9
     cases hr:s9 (J1 b x)
     ·have HKR:=lH (show A7 b x=(b,false)by rw[A7,HK.out,if_pos rfl,hr];rfl)
      go_wp2_with (first|((with_reducible refine rl ?_);(repeat(first|go_big_quiet_step (first|fail)|simp only[hr]));refine wpQuiet_nil ?_;intro x)|(refine sL rfl _ (.tmp 2) rfl (w.heap.size) rfl HB ii am0 HL ?_))
      refine(an2 (x:=b) (Enc.keep HM.out ii) HT.out).mono ?_
      rintro _ _ ⟨cs8,χ8,rfl,hO8,y8,rfl⟩
      have HLC:=lH (Y3 (R8.toRd hO8));have HOC:=lH (aj0 (R8.toRd hO8));have HO:=lH hO8;clear hO8
      go_wp2_with (first|((with_reducible refine rl ?_);refine rq ?_;intro x)|(refine sW rfl _ _ _ rfl (w.heap.size+2) rfl (us:=cs8) (HR.out.to ii) HLC HOC (w0:=w) ii (by omega) ?_;intro z8 HX8 KX8))
      refine bodyPost_ret (v:=.tuple #[.agg cs8.toArray,.bool false]) (L0 (P:=Tryz.prog) (u:=.bool false) rfl rfl HX8.out _ am0 rfl (by rw[HLC.out];kernel_rfl) rfl) rfl ?_
      rw[HKR.out]
      exact⟨cs8,χ8,rfl,ac0 HO.out KX8.out LtN.out LeN.out,b5.of⟩
     ·have HKR:=lH (show A7 b x=(J1 b x,true)by rw[A7,HK.out,if_pos rfl,if_pos hr,HRM.out])
      go_wp2_with (first|((with_reducible refine rl ?_);(repeat(first|go_big_quiet_step (first|fail)|simp only[hr]));refine wpQuiet_nil ?_;intro x)|(refine sL rfl _ _ rfl (qb) kr HH9 ii am0 HL9 ?_)|(refine sW rfl _ _ _ rfl (w.heap.size+2) rfl (us:=vs9) (HR.out.to ii) HL9 H19 (w0:=w) ii (by omega) ?_;intro z7 HX7 KX7))
      refine bodyPost_ret (v:=.tuple #[.agg vs9.toArray,.bool true]) (L0 (P:=Tryz.prog) (u:=.bool true) rfl rfl HX7.out _ am0 rfl (by rw[HL9.out];kernel_rfl) rfl) rfl ?_
      rw[HKR.out]
      exact⟨vs9,χ9,rfl,ac0 (ar4 HO9.out ii) KX7.out (show w.heap.size+2<W2.heap.size by omega) hW2,b5.of⟩
theorem GBp.newX{α β:Type}[E:S7 α][E2:D9 β]{X P:Nat→Prop}{B b:Nat}{u w:World}{x:α}{F:FS α β}{l:List β}{a:Option Addr}{c:Nat}(h:GB X B b u x)(g:d5 u w)(k:Own E2.enc E2.ty E2.size u.heap.size w a c l)(hg:∀ x∈l,E2.good x)
  (hP:∀ j,P j→u.heap.size≤j∧j<w.heap.size∧I5 a≠some j):GBp F (fun k=>X k∨P k) B b w x l a c:=by
 have hlu:=h.lt
 obtain⟨χ,vs,h1,h2,h3,h4,h5,h6⟩:=h
 have hs:=g.out.size
 obtain⟨χ2,hχ⟩:∃ χ2:Nat→Col,χ2=fun j=>if I5 a=some j then(F.col,0)else(1000,0):=⟨_,rfl⟩
 have kC:D0 u.heap.size χ2 (F.col,0) w a c l:=⟨k,fun j hj=>by rw[hχ];exact if_pos hj,hg⟩
 have hp:∀ k,k<u.heap.size→E9 w.heap.size (E9 u.heap.size χ χ2 id) (fun _=>(0,0)) (fun _=>(1000,0)) k=χ k:=fun k hk=>by rw[E9,if_pos (by omega),E9,if_pos hk]
 refine⟨_,vs,h1.to g,aq4 h2,E.map (F.put (E.map (E.map h2 (.old (χ2:=χ2) (f:=id) nl)) (.to g)) (Fr.refl _ _ _ _) ((kC.new (f:=id) nl).mono (by omega))) (.old nl),?_,ay2 nl,h5,fun k hk=>?_⟩
 ·rw[hp b hlu];exact h3
 ·rcases hk with hk|hk
  ·exact⟨by rw[hp k (h6 k hk).2.2];exact(h6 k hk).1,(h6 k hk).2.1,Nat.lt_of_lt_of_le (h6 k hk).2.2 hs⟩
  ·obtain⟨p1,p2,p3⟩:=hP k hk
   refine⟨?_,by omega,p2⟩
   rw[E9,if_pos p2,E9,if_neg (by omega),hχ]
   show 1000≤(if I5 a=some k then(F.col,0)else(1000,0):Col).1
   rw[if_neg p3]
   exact Nat.le_refl _
def bl6{α:Type}[E:S7 α](X:Nat→Prop)(B q:Nat)(w0 w:World)(x:α):Ending→World→Prop:=fun e w'=>(∃ u,e=.returned u)∧GB X B q w' x∧(∀ k,X k→w'.heap[k]?=w.heap[k]?)∧∃ z:b5 w0,w'=z.w
theorem bN8{m:f5}(h:al6 m)(h0:0≤m.Bad)(h1:m.Bad≤1000000):al6 (aq6 m):=by
 obtain⟨g1,g2,g3,g4,g5,g6,g7,g8,g9,-⟩:=h
 exact⟨g1,g2,g3,g4,g5,g6,g7,g8,by unfold i64;simp only[aq6];split<;>omega,trivial⟩
theorem bN9{m:f5}{r:M4}(h:al6 m)(hr:A9 r=true):al6 (aO7 m r):=by
 simp only[A9,Bool.and_eq_true]at hr
 have h1:=D6.1 hr.1;have h2:=D6.1 hr.2
 obtain⟨g1,g2,g3,g4,g5,g6,g7,g8,g9⟩:=h
 obtain⟨k1,k2⟩:=g8
 exact⟨g1,g2,g3,g4,g5,g6,g7,⟨⟨show i64 r.Expect by unfold i64;omega,show i64 r.Taken by unfold i64;omega,trivial⟩,k2⟩,g9⟩
theorem aJ7{m:f5}{v:Int}(h:v=if m.Bad<1000000 then m.Bad+1 else m.Bad):({ m with Bad:=v }:f5)=aq6 m:=by rw[h];rfl
section
variable {P:Program} {ops:Array Oper} {op:Oper} {a:Act} {w w0:World} {Q:Exit→Act→World→Prop} {S:World→Prop} {md:Region.Mode} {fuel:Nat} {listed:Array Bool}
theorem aU9(hw:Region.wanted op (yielded ops a.tmps)=true)(ty:TypeId)(x:Operand)(ho:op.op=.load ty x)(b o:Nat)(hx:a.eval x=.pointer (some ⟨b,o,none⟩))(v:Value)(hS:∀ w,S w→w.cell? ⟨b,o,none⟩=some v)(d:TypeDesc)(hu:P.underlying ty=some d)(hd:d.isRow=false):YieldsIf P ops S op v a :=
 Or.inl ⟨hw,fun w h=>by
  have hagg:(isAgg ty).run P w=.ok false w:=by
   unfold isAgg
   rw[Sem.run_bind,run_underlying hu w]
   cases d<;>simp_all [TypeDesc.isRow]
  have hr:(Instr.loadAt ty (.pointer (some ⟨b,o,none⟩))).run P w=.ok v w:=by simp[Instr.loadAt,Instr.sureAddr,Sem.run_bind,loadVar,hagg,go_sem,hS w h]
  unfold execOp
  simp only[ho,hx,Sem.run_bind,hr,Result.andThen_ok,Sem.run_pure]⟩
end
section
variable {P:Program} {ops:Array Oper} {op:Oper} {act:Act} {w w0:World} {Q:Exit→Act→World→Prop} {S:World→Prop} {md:Region.Mode} {fuel:Nat} {listed:Array Bool} {α β:Type} [E:S7 α] [E2:D9 β] {X:Nat→Prop} {B b:Nat} {x:α} {F:FS α β} {l:List β} {a:Option Addr} {c:Nat} {us:List Value}
end
theorem bN1{P:Program}{ops:Array Oper}{b:Act}{w:World}{i:Nat}{bb o:Nat}{row:List Value}{ty:TypeId}{Fs:ak6 Gr}{val:Nat→Value}{k:Nat}(hR:w.rangeAt bb o row)(he:(U5 Fs k).fix=some fun _=>.agg row.toArray)(hk:loadAt ops b i=some (ty,.pointer (some ⟨bb,o,none⟩)))(d:TypeDesc)(hu:P.underlying ty=some d)(hd:d.isRow=true)
  (hi:(P.info? ty).map (·.size)=some row.length):V1 P ops (aj1 ops i) b w (fun v w'=>(∃ y:b5 w,w'=y.w)∧aj4 Fs k val v w') :=
 bD1 hk (v:=.agg row.toArray) (by simp only[Instr.loadAt,Instr.sureAddr,Sem.run_bind,Sem.run_pure,Result.andThen_ok,run_loadVar_mid w bb o ty row d hR hu hd hi]) ⟨b5.of,by unfold aj4;rw[he]⟩
theorem GB.xneN{α β γ:Type}[E:S7 α][N:ao2 β γ][E2:D9 γ]{X:Nat→Prop}{B b q c k:Nat}{w:World}{x:α}(F:FN α β)(h:GB X B b w x)(hc:w.cell? ⟨b,F.off,none⟩=some (.slice (some ⟨q,0,none⟩) (F.get x).length c))(hk:X k):k≠q:=by
 obtain⟨χ,vs,h1,h2,-,-,-,h6⟩:=h
 obtain⟨a1,c1,rows,hv,hx,kN⟩:=F.own h2
 rw[h1.cell,hv]at hc
 simp only[Option.some.injEq,Value.slice.injEq,true_and]at hc
 obtain⟨rfl,rfl⟩:=hc
 intro e
 have e1:=kN.col q rfl
 have e2:=(h6 k hk).1
 rw[e,e1]at e2
 have:=F.clt;have:=E.nle
 simp only at e2
 omega
theorem bk1{o:j7}(f:Int)(l:List Int)(h:R4 o=true):ac2 (ab1 o f l)∧∀ q∈(ab1 o f l).Queue,i64 q:=by
 have h2:=aS9 f l h
 simp only[R4,L8,Bool.and_eq_true,decide_eq_true_eq]at h2
 have h3:=D6.1 h2.1
 have h4:=ap9 (ab1 o f l).Data.size
 refine⟨⟨by unfold i64;omega,by omega,trivial⟩,fun q hq=>?_⟩
 have h5:=br8.1 h2.2.2.2 q hq
 unfold i64;omega
theorem bd3{x:Z3}(h:w8 x=true):aw6 x:=by
 have h0:=h
 simp only[w8,Bool.and_eq_true]at h
 have h1:=D6.1 h.1;have h2:=D6.1 h.2.1
 have hz:∀ {lo hi:Int},(inB x.A lo hi && (x.B == 0))=true→lo≤x.A∧x.A≤hi∧x.B=0:=fun h=>by
  rw[Bool.and_eq_true,beq_iff_eq]at h
  have:=D6.1 h.1
  exact⟨this.1,this.2,h.2⟩
 have h3:=h.2.2
 have hAB:-1000000≤x.A∧x.A≤1000000∧-1000000≤x.B∧x.B≤1000000:=by
  split at h3
  ·rw[Bool.and_eq_true]at h3;have h4:=D6.1 h3.1;have h5:=D6.1 h3.2;omega
  ·split at h3
   ·have:=hz h3;omega
   ·split at h3
    ·have:=hz h3;omega
    ·split at h3
     ·have:=hz h3;omega
     ·have:=hz h3;omega
 exact⟨by unfold i64;omega,by unfold i64;omega,by unfold i64;omega,by unfold i64;omega,trivial⟩
theorem av1{m:f5}{d:ByteArray}(h1:an7 d=none)(h2:an6 d=none):pay m d=aq6 m:=by rw[pay,h1];simp only;rw[h2]
theorem bI2{m:f5}{d:ByteArray}{x:Z3}(h:an7 d=some x):pay m d=bQ8 m (A7 m.Space.Board x).1:=by rw[pay,h]
theorem bx9{m:f5}{d:ByteArray}{f:Int}{l:List Int}(h1:an7 d=none)(h2:an6 d=some (f,l)):pay m d=br2 m f (ab1 (aI2 m f) f l):=by rw[pay,h1];simp only;rw[h2]
theorem bc4{B:Nat}{vs:List Value}{o:j7}{f:Int}{l:List Int}{a:Option Addr}{n c:Nat}{w:World}(h:Enc.Rd B w vs o)(ho:R4 o=true)(hl:Sl K0 w a l)(hn:l.length=n)(hm:n≤1000) :
  Calls Tryz.prog 128 #[.agg vs.toArray,.int .i64 f,.slice a n c] w (U0 w (ab1 o f l)):=by
 obtain⟨a0,c0,rfl,h1,-⟩:=h
 have hb:=av6 ho
 have hg:=bk1 f l ho
 refine(aY8 (RdS.toSlInt h1) hl rfl hn (by omega) (by omega) (by omega)).mono ?_
 rintro _ _ ⟨a1,c1,rfl,o1,y1,rfl⟩
 exact⟨_,fun _=>(0,0),rfl,⟨a1,c1,rfl,⟨D0.of o1 hg.2 (0,0),hg.1⟩⟩,b5.of⟩
theorem ar7{X:Nat→Prop}{B q:Nat}{m:f5}{w0 w:World}(h:GB X B q w m)(h0:0≤m.Bad)(h1:m.Bad≤1000000)(g:d5 w0 w)(hb:w0.heap.size≤B):Calls Tryz.prog 37 #[.pointer (some ⟨q,0,none⟩)] w (bl6 X B q w0 w (aq6 m)):=by
 have HG:=lH h
 have hqlt:LtN q w.heap.size:=⟨h.lt⟩
 have hqB:B≤q:=h.le
 obtain⟨vs,A,hV,hvs,-⟩:=aq2 h
 have eb:∀ (W:World) [d5 w W],W.cell? ⟨q,60,none⟩=some (.int .i64 m.Bad):=fun W g=>(hV.to g).cell 60 |>.trans (by rw[hvs];rfl)
 clear hV hvs h
 cases c:decide (m.Bad<1000000)
 ·have HBM:=lH (show aq6 m=m by rw[aq6,if_neg (of_decide_eq_false c)])
  go_enter Tryz.func37,Tryz.ntmps37
  go_wp2_with (fail)
  refine bodyPost_end (v:=.tuple #[]) (by simp[results,Tryz.results37,go_sem]) rfl ?_
  rw[HBM.out]
  exact⟨⟨_,rfl⟩,HG.out.to ii,fun k hk=>(ii:d5 w _).out.block k (HG.out.xs hk).2,b5.of⟩
 ·go_enter Tryz.func37,Tryz.ntmps37
  have HBV:=lH (show m.Bad+1=if m.Bad<1000000 then m.Bad+1 else m.Bad by rw[if_pos (of_decide_eq_true c)])
  go_wp2_with (first|(refine ax1 (o:=60) (us:=[.int .i64 (m.Bad+1)]) ({ m with Bad:=m.Bad+1 }:f5) rfl _ (.tmp 13) (.tmp 11) rfl (HG.out.to ii) rfl rfl kr rfl nb (by intros;rename_i h;obtain⟨A1,rfl,p⟩:=h;exact⟨A1,rfl,{ p with ok:=by rw[aJ7 HBV.out];exact bN8 p.ok h0 h1 }⟩) (w0:=w0) ii hb ?_;intro z6 hz6 hX6))
  (first|(refine bodyPost_end (v:=.tuple #[]) (by simp[results,Tryz.results37,go_sem]) rfl ?_)|(refine bodyPost_ret (v:=.tuple #[]) (by simp[results,Tryz.results37,go_sem]) rfl ?_))
  rw[aJ7 HBV.out]at hz6
  exact⟨⟨_,rfl⟩,hz6,fun k hk=>(hX6 k hk).trans ((ii:d5 w _).out.block k (HG.out.xs hk).2),b5.of⟩
theorem aZ0{X:Nat→Prop}{B q k:Nat}{m:f5}{d:ByteArray}{w0 w:World}(h:GB X B q w m)(hi:X5 k m)(hd:d.size≤100)(g:d5 w0 w)(hb:w0.heap.size≤B):Calls Tryz.prog 39 #[.pointer (some ⟨q,0,none⟩),.string d] w (bl6 X B q w0 w (pay m d)):=by
 have HG:=lH h;have HI:=lH hi;clear h hi
 have hqlt:LtN q w.heap.size:=⟨HG.out.lt⟩
 have hqB:B≤q:=HG.out.le
 by_cases hz:d.size=0
 ·have HV:=lH (show pay m d=aq6 m from av1 (by rw[an7,if_neg (by omega)]) (by rw[an6,if_neg (by omega)]))
  have he:d.toList.isEmpty=true:=by rw[aw9 hz,ByteArray.toList_eq];rfl
  have HBD:=lH (fun(W:World) (g1:d5 w W) (g2:d5 w0 W)=>ar7 (w0:=w0) (HG.out.to g1) HI.out.bad0 HI.out.bad1 g2 hb)
  go_enter Tryz.func39,Tryz.ntmps39
  go_wp2_with (first|((with_reducible refine rl ?_);(repeat(first|go_big_quiet_step (first|fail)|simp only[he]));refine wpQuiet_nil ?_;intro x))
  refine(HBD.out _ ii ii).mono ?_
  rintro _ w9 ⟨⟨u,rfl⟩,hz9,hx9,z9,rfl⟩
  have HX9:=lH (show ∀ k,X k→z9.w.heap[k]?=w.heap[k]? from fun k hk=>(hx9 k hk).trans ((ii:d5 w _).out.block k (HG.out.xs hk).2))
  have HZ9:=lH hz9
  clear hx9 hz9
  go_wp2_with (first|((with_reducible refine rl ?_);refine rq ?_;intro x))
  (first|(refine bodyPost_end (v:=.tuple #[]) (by simp[results,Tryz.results39,go_sem]) rfl ?_)|(refine bodyPost_ret (v:=.tuple #[]) (by simp[results,Tryz.results39,go_sem]) rfl ?_))
  exact⟨⟨_,rfl⟩,(by rw[HV.out];exact HZ9.out.to ii),HX9.out,b5.of⟩
 have he:d.toList.isEmpty=false:=al4 hz
 have h0s:0<d.size:=by omega
 have e0:bAt d 0=((d[0]'h0s).toNat:Int):=ak7 h0s
 obtain⟨b,hb9⟩:∃ b:Int,((d[0]'h0s).toNat:Int)=b:=⟨_,rfl⟩
 rw[hb9]at e0
 have hb09:=W7 d 0
 rw[e0]at hb09
 obtain⟨r,hr⟩:∃ r,d.extract 1 d.size=r:=⟨_,rfl⟩
 have hrz:r.size≤100000000:=by rw[← hr];simp only[ByteArray.size_extract];omega
 have h1s:(1:Int)≤d.size:=by omega
 have hj0:(0:Int)<d.size:=by omega
 have HE0:=lH e0
 have HRR:=lH (show bI4 d=r from hr)
 clear e0
 cases c1:(b == 0)
 ·have hb1:¬ b=0:=by simpa using c1
  have HPO:=lH (show an7 d=none by rw[an7,if_neg (by rw[HE0.out];omega)])
  cases c3:(b == 1)
  ·have hb2:¬ b=1:=by simpa using c3
   have HV:=lH (show pay m d=aq6 m from av1 HPO.out (by rw[an6,if_neg (by rw[HE0.out];omega)]))
   have HBD:=lH (fun(W:World) (g1:d5 w W) (g2:d5 w0 W)=>ar7 (w0:=w0) (HG.out.to g1) HI.out.bad0 HI.out.bad1 g2 hb)
   go_enter Tryz.func39,Tryz.ntmps39
   go_wp2_with (first|((with_reducible refine rl ?_);(repeat(first|go_big_quiet_step (first|fail)|simp only[he]|simp only[hb9]|simp only[c1]|simp only[c3]));refine wpQuiet_nil ?_;intro x))
   refine(HBD.out _ ii ii).mono ?_
   rintro _ w9 ⟨⟨u,rfl⟩,hz9,hx9,z9,rfl⟩
   have HX9:=lH (show ∀ k,X k→z9.w.heap[k]?=w.heap[k]? from fun k hk=>(hx9 k hk).trans ((ii:d5 w _).out.block k (HG.out.xs hk).2))
   have HZ9:=lH hz9
   clear hx9 hz9
   go_wp2_with (first|((with_reducible refine rl ?_);refine rq ?_;intro x))
   (first|(refine bodyPost_end (v:=.tuple #[]) (by simp[results,Tryz.results39,go_sem]) rfl ?_)|(refine bodyPost_ret (v:=.tuple #[]) (by simp[results,Tryz.results39,go_sem]) rfl ?_))
   exact⟨⟨_,rfl⟩,(by rw[HV.out];exact HZ9.out.to ii),HX9.out,b5.of⟩
  ·have hb2:b=1:=by simpa using c3
   have HPM:=lH (show an6 d=V4 r by rw[an6,if_pos ⟨h0s,by rw[HE0.out];exact hb2⟩,HRR.out])
   have HDM:=lH (fun(W:World)=>aP6 (s:=r) (w:=W) hrz)
   cases hm:V4 r with
   | none =>
    have HV:=lH (show pay m d=aq6 m from av1 HPO.out (HPM.out.trans hm))
    rw[hm]at HDM
    have HBD:=lH (fun(W:World) (g1:d5 w W) (g2:d5 w0 W)=>ar7 (w0:=w0) (HG.out.to g1) HI.out.bad0 HI.out.bad1 g2 hb)
    go_enter Tryz.func39,Tryz.ntmps39
    go_wp2_with (first|((with_reducible refine rl ?_);(repeat(first|go_big_quiet_step (first|fail)|simp only[he]|simp only[hb9]|simp only[c1]|simp only[c3]|simp only[hr]));refine wpQuiet_nil ?_;intro x))
    refine(HDM.out _).mono ?_
    rintro _ _ ⟨v9,rfl,y1,rfl⟩
    go_wp2_with (first|((with_reducible refine rl ?_);(repeat(first|go_big_quiet_step (first|fail)|simp only[he]|simp only[hb9]|simp only[c1]|simp only[c3]|simp only[hr]));refine wpQuiet_nil ?_;intro x))
    refine(HBD.out _ ii ii).mono ?_
    rintro _ w9 ⟨⟨u,rfl⟩,hz9,hx9,z9,rfl⟩
    have HX9:=lH (show ∀ k,X k→z9.w.heap[k]?=w.heap[k]? from fun k hk=>(hx9 k hk).trans ((ii:d5 w _).out.block k (HG.out.xs hk).2))
    have HZ9:=lH hz9
    clear hx9 hz9
    go_wp2_with (first|((with_reducible refine rl ?_);refine rq ?_;intro x))
    (first|(refine bodyPost_end (v:=.tuple #[]) (by simp[results,Tryz.results39,go_sem]) rfl ?_)|(refine bodyPost_ret (v:=.tuple #[]) (by simp[results,Tryz.results39,go_sem]) rfl ?_))
    exact⟨⟨_,rfl⟩,(by rw[HV.out];exact HZ9.out.to ii),HX9.out,b5.of⟩
   | some fl =>
    obtain⟨f,l⟩:=fl
    have hfb:=aJ0 hm
    simp only at hfb
    have HV:=lH (show pay m d=br2 m f (ab1 (aI2 m f) f l)from bx9 HPO.out (HPM.out.trans hm))
    rw[hm]at HDM
    obtain⟨fj,rfl⟩:∃ fj:Nat,f=(fj:Int):=⟨f.toNat,by omega⟩
    obtain⟨n,hn⟩:∃ n,l.length=n:=⟨_,rfl⟩
    have hf8:fj<8:=by omega
    have hn20:n≤20:=by omega
    have HN:=lH hn
    clear hfb hm hn
    obtain⟨oa,oc,eo1,hoa⟩:=GB.ownN aT0 HG.out
    have HLO:=lH (show(aT0.get m).length=8 from HI.out.outs)
    obtain⟨ob,rfl⟩:=hoa (by rw[HLO.out];decide)
    have HEO:=lH (eo1 w)
    obtain⟨vs5,A,hV5,hvs5,F⟩:=aq2 HG.out
    have e1:=(eo1 w).symm.trans (hV5.cell 55 |>.trans (by rw[hvs5]))
    simp only[List.getElem?_cons_succ,List.getElem?_cons_zero,Option.some.injEq,Value.slice.injEq]at e1
    obtain⟨e2,-,e3⟩:=e1
    have hrd:=F.q18
    rw[← e2,← e3]at hrd
    clear hV5 hvs5 F e2 e3
    obtain⟨eb,eoff,ex,ea0,ec0,heq,ehb,ehd,eq0,eok,eh0,eh1,eh2,eh3⟩:=hrd.atTFileOut (show fj<m.Space.Outs.length by rw[HI.out.outs];exact hf8)
    cases heq
    have hxo:m.Space.Outs[fj]?=some ex:=by have:=congrArg (fun l=>l[0]?) ehd.out;simpa only[List.getElem?_drop,Nat.add_zero,List.getElem?_cons_zero]using this
    have HXO:=lH (show aI2 m fj=ex by rw[aI2,List.getD_eq_getElem?_getD,show((fj:Int)).toNat=fj from rfl,hxo];rfl)
    have HOK:=lH (HI.out.out ex (List.mem_of_getElem? hxo))
    have HRD:=lH (show Enc.Rd B w [.int .i64 ex.File,.string ex.Data,.slice ea0 ex.Queue.length ec0,.bool ex.Done] ex from⟨ea0,ec0,rfl,eq0,eok⟩)
    have HROW:=lH (fun(W:World) (g:d5 w W)=>show W.rangeAt ob (0+fj*4) [.int .i64 ex.File,.string ex.Data,.slice ea0 ex.Queue.length ec0,.bool ex.Done]from fun j v hj=>by
     match j,hj with
     | 0,hj=>simp only[List.getElem?_cons_zero,Option.some.injEq]at hj;rw[← hj];exact eh0 W
     | 1,hj=>simp only[List.getElem?_cons_succ,List.getElem?_cons_zero,Option.some.injEq]at hj;rw[← hj];exact eh1 W
     | 2,hj=>simp only[List.getElem?_cons_succ,List.getElem?_cons_zero,Option.some.injEq]at hj;rw[← hj];exact eh2 W
     | 3,hj=>simp only[List.getElem?_cons_succ,List.getElem?_cons_zero,Option.some.injEq]at hj;rw[← hj];exact eh3 W
     | j+4,hj=>simp at hj)
    have eo:∀ (W:World) [d5 w W],W.cell? ⟨q,55,none⟩=some (.slice (some ⟨ob,0,none⟩) 8 oc):=fun W g=>HLO.out▸eo1 W
    clear eo1 hrd ehd hxo eq0 eok eh0 eh1 eh2 eh3
    go_enter Tryz.func39,Tryz.ntmps39
    go_wp2_with (first|((with_reducible refine rl ?_);(repeat(first|go_big_quiet_step (first|fail)|simp only[he]|simp only[hb9]|simp only[c1]|simp only[c3]|simp only[hr]));refine wpQuiet_nil ?_;intro x))
    refine(HDM.out _).mono ?_
    rintro _ _ ⟨la,lc,rfl,ol,y,rfl⟩
    have OL:=lH ol;clear ol
    (try simp only[HN.out])
    go_upto_region 8 with(first|((with_reducible refine rl ?_);(repeat(first|go_big_quiet_step (first|fail)|simp only[he]|simp only[hb9]|simp only[c1]|simp only[c3]|simp only[hr]));refine wpQuiet_nil ?_;intro x))
    refine X3 kr (T:=[16]) (Zs:=[]) (H:=[(3,[]),(8,[]),(10,[]),(11,[]),(14,[]),(15,[14])]) (C:=[14]) (Fs:=[(some 54,.v (.pointer (some ⟨q,33,none⟩))),(some 55,.v (.pointer (some ⟨q,33,none⟩))),(some 56,.v (.pointer (some ⟨q,55,none⟩))),(some 57,.v (.slice (some ⟨ob,0,none⟩) 8 oc)),(some 58,.v (.int .i64 fj)),(some 59,.v (.pointer (some ⟨q,33,none⟩))),(some 60,.v (.pointer (some ⟨q,33,none⟩))),(some 61,.v (.pointer (some ⟨q,55,none⟩))),(some 62,.v (.slice (some ⟨ob,0,none⟩) 8 oc)),(some 63,.v (.int .i64 fj)),(some 64,.v (.pointer (some ⟨ob,0+fj*4,none⟩))),(some 65,.v (.agg #[.int .i64 ex.File,.string ex.Data,.slice ea0 ex.Queue.length ec0,.bool ex.Done])),(some 66,.v (.int .i64 fj)),(some 67,.v (.slice la n lc)),(some 68,bU5 y.w.heap.size (ab1 ex (fj:Int) l)),(some 69,.v (.pointer (some ⟨ob,0+fj*4,none⟩))),(none,.v undef)]) kr (fun val W=>by kernel_rfl) ?ob3 ?lz3 ?pn3 ?tl3
    case ob3 =>
     refine⟨fun x=>?_,fun x=>?_,fun x=>?_,fun x=>?_,fun x=>?_,fun x=>?_,trivial⟩
     ·exact aQ3 (@eo x.w (S9 (ii:d5 w y.w) (ii:d5 y.w x.w))) rfl kr _ Tryz.underlying86 rfl
     ·exact aQ3 (@eo x.w (S9 (ii:d5 w y.w) (ii:d5 y.w x.w))) rfl kr _ Tryz.underlying86 rfl
     ·exact bv6 (size:=4) (o:=0) (j:=fj) (n:=8) (c:=oc) rfl kr Tryz.underlying86 kr hf8
     ·exact bN1 (HROW.out x.w (S9 (ii:d5 w y.w) (ii:d5 y.w x.w))) rfl kr _ Tryz.underlying155 rfl kr
     ·refine bo1 (f:=128) (args:=[.agg #[.int .i64 ex.File,.string ex.Data,.slice ea0 ex.Queue.length ec0,.bool ex.Done],.int .i64 fj,.slice la n lc]) Tryz.func128 kr kr ((bc4 (f:=(fj:Int)) (Enc.keep HRD.out (ay3 (S9 (ii:d5 w y.w) (ii:d5 y.w x.w)))) HOK.out ((Own.sl OL.out).to ii) HN.out (by omega)).mono ?_)
      rintro _ _ ⟨vs2,χ2,rfl,hO2,y2,rfl⟩
      exact⟨_,rfl,⟨y2,rfl⟩,vs2,χ2,rfl,S7.map hO2 (.mono x.size_le)⟩
     ·refine ak8 fun v13 q13=>av4 ?_
      exact bv6 (size:=4) (o:=0) (j:=fj) (n:=8) (c:=oc) rfl kr Tryz.underlying86 kr hf8
    case lz3 =>
     exact trivial
    case pn3=>exact fun _ _ _ _ _ _ h=>h
    case tl3 =>
     intro x
     refine ak8 fun v13 q13=>?_
     obtain⟨vs2,χ2,rfl,hO2⟩:=(show isO y.w.heap.size (ab1 ex (fj:Int) l) v13 x.w from q13)
     clear q13
     obtain⟨ra,rc,rfl,kO⟩:=hO2
     have HKO:=lH kO;clear kO
     refine be3 rfl ?_
     simp only[az6,au1]
     simp only[nrm,if_true]
     go_wp2_with (first|((with_reducible refine rl ?_);refine rq ?_;intro x)|(refine bz0 aT0 rfl _ (.tmp 69) (.tmp 68) rfl (HG.out.to (ii:d5 w y.w)) (ii:d5 y.w x.w) (j5 HG.out.lt HEO.out y.w) (by rw[HLO.out];exact hf8) HKO.out.o0 HKO.out.ok rfl rfl (by omega) rfl rfl kr (w0:=w0) ii hb ?_;intro z6 hz6 hbq hh6))
     have HZ6:=lH (show GB X B q z6.w (pay m d)by rw[HV.out,HXO.out];exact hz6)
     have HX6:=lH (show ∀ k,X k→z6.w.heap[k]?=w.heap[k]? from fun k hk=>(hh6 k (Nat.lt_of_lt_of_le (HG.out.xs hk).2 (ii:d5 w x.w).out.size) (GB.xneN aT0 HG.out HEO.out hk)).trans ((ii:d5 w x.w).out.block k (HG.out.xs hk).2))
     clear hz6 hh6
     (first|(refine bodyPost_end (v:=.tuple #[]) (by simp[results,Tryz.results39,go_sem]) rfl ?_)|(refine bodyPost_ret (v:=.tuple #[]) (by simp[results,Tryz.results39,go_sem]) rfl ?_))
     exact⟨⟨_,rfl⟩,HZ6.out.to ii,HX6.out,b5.of⟩
 ·have hb1:b=0:=by simpa using c1
  have c3:(b == 1)=false:=by rw[hb1];rfl
  have HPO:=lH (show an7 d=ac7 r by rw[an7,if_pos ⟨h0s,by rw[HE0.out];exact hb1⟩,HRR.out])
  have HDO:=lH (fun(W:World)=>aY7 (s:=r) (w:=W) hrz)
  cases ho:ac7 r with
  | none =>
   have HV:=lH (show pay m d=aq6 m from av1 (HPO.out.trans ho) (by rw[an6,if_neg (by rw[HE0.out];omega)]))
   rw[ho]at HDO
   have HDO:=lH (show ∀ W,Calls Tryz.prog 125 #[.string r] W (b4 W (.tuple #[.agg #[.int .i64 0,.int .i64 0,.int .i64 0,.int .i64 0],.bool false]))from HDO.out)
   have HBD:=lH (fun(W:World) (g1:d5 w W) (g2:d5 w0 W)=>ar7 (w0:=w0) (HG.out.to g1) HI.out.bad0 HI.out.bad1 g2 hb)
   go_enter Tryz.func39,Tryz.ntmps39
   go_wp2_with (first|((with_reducible refine rl ?_);(repeat(first|go_big_quiet_step (first|fail)|simp only[he]|simp only[hb9]|simp only[c1]|simp only[c3]|simp only[hr]));refine wpQuiet_nil ?_;intro x))
   refine gm (HDO.out _) ?_
   intro y1
   go_wp2_with (first|((with_reducible refine rl ?_);(repeat(first|go_big_quiet_step (first|fail)|simp only[he]|simp only[hb9]|simp only[c1]|simp only[c3]|simp only[hr]));refine wpQuiet_nil ?_;intro x))
   refine(HBD.out _ ii ii).mono ?_
   rintro _ w9 ⟨⟨u,rfl⟩,hz9,hx9,z9,rfl⟩
   have HX9:=lH (show ∀ k,X k→z9.w.heap[k]?=w.heap[k]? from fun k hk=>(hx9 k hk).trans ((ii:d5 w _).out.block k (HG.out.xs hk).2))
   have HZ9:=lH hz9
   clear hx9 hz9
   go_wp2_with (first|((with_reducible refine rl ?_);refine rq ?_;intro x))
   (first|(refine bodyPost_end (v:=.tuple #[]) (by simp[results,Tryz.results39,go_sem]) rfl ?_)|(refine bodyPost_ret (v:=.tuple #[]) (by simp[results,Tryz.results39,go_sem]) rfl ?_))
   exact⟨⟨_,rfl⟩,(by rw[HV.out];exact HZ9.out.to ii),HX9.out,b5.of⟩
  | some xo =>
   have HXK:=lH (bd3 (bj9 ho))
   have HV:=lH (show pay m d=bQ8 m (A7 m.Space.Board xo).1 from bI2 (HPO.out.trans ho))
   rw[ho]at HDO
   have HDO:=lH (show ∀ W,Calls Tryz.prog 125 #[.string r] W (b4 W (.tuple #[.agg #[.int .i64 xo.Kind,.int .i64 xo.At,.int .i64 xo.A,.int .i64 xo.B],.bool true]))from HDO.out)
   clear ho
   have HTB:=lH (show Enc.tot m.Space.Board≤50000000 by have:=aB0 HI.out.board;omega)
   obtain⟨vs5,A,hV5,hvs5,F⟩:=aq2 HG.out
   have HV5:=lH hV5
   obtain⟨bd,hbd⟩:∃ bd,(vs5.drop 37).take 12=bd:=⟨_,rfl⟩
   have HRB:=lH hbd
   have HBR:=lH (show Enc.Rd B w bd m.Space.Board from by rw[← hbd,hvs5];exact⟨⟨A.a9,A.c9,A.a10,A.c10,A.a11,A.c11,A.a12,A.c12,A.a13,A.c13,A.a14,A.c14,A.a15,A.c15⟩,rfl,⟨F.q9,F.q10,F.q11,F.q12,F.q13,F.q14,F.q15,F.ok.2.2.2.2.2.2.2.1.2.1⟩⟩)
   clear hV5 hvs5 hbd F
   have HBL:=lH (Y3 HBR.out)
   go_enter Tryz.func39,Tryz.ntmps39
   go_wp2_with (first|((with_reducible refine rl ?_);(repeat(first|go_big_quiet_step (first|fail)|simp only[he]|simp only[hb9]|simp only[c1]|simp only[c3]|simp only[hr]));refine wpQuiet_nil ?_;intro x))
   refine gm (HDO.out _) ?_
   intro y1
   go_upto_region 4 with(first|((with_reducible refine rl ?_);(repeat(first|go_big_quiet_step (first|fail)|simp only[he]|simp only[hb9]|simp only[c1]|simp only[c3]|simp only[hr]));refine wpQuiet_nil ?_;intro x))
   (try simp only[Act.put])
   have HX5:=lH (i9.new y1.w [.int .i64 xo.Kind,.int .i64 xo.At,.int .i64 xo.A,.int .i64 xo.B] 169 y1.w.heap.size rfl)
   obtain⟨y,hy⟩:∃ y:b5 w,(y1.w.alloc (.cells #[.int .i64 xo.Kind,.int .i64 xo.At,.int .i64 xo.A,.int .i64 xo.B] 169))=y.w:=b5.of
   rw[show([.int .i64 xo.Kind,.int .i64 xo.At,.int .i64 xo.A,.int .i64 xo.B]:List Value).toArray=#[.int .i64 xo.Kind,.int .i64 xo.At,.int .i64 xo.A,.int .i64 xo.B]from rfl,hy]at HX5
   rw[hy];clear hy
   obtain⟨qo,hqo⟩:∃ qo,y1.w.heap.size=qo:=⟨_,rfl⟩
   rw[hqo]at HX5 ⊢
   clear hqo
   refine X3 kr (T:=[12]) (Zs:=[(9,[6])]) (H:=[(4,[]),(5,[]),(6,[]),(7,[6]),(8,[6]),(9,[6])]) (C:=[6]) (Fs:=[(some 28,.v (.pointer (some ⟨q,33,none⟩))),(some 29,.v (.pointer (some ⟨q,33,none⟩))),(some 30,.v (.pointer (some ⟨q,33,none⟩))),(some 31,.v (.pointer (some ⟨q,37,none⟩))),(some 32,.v (.agg bd.toArray)),(some 33,.v (.agg #[.int .i64 xo.Kind,.int .i64 xo.At,.int .i64 xo.A,.int .i64 xo.B])),(some 34,bR4 y.w.heap.size (A7 m.Space.Board xo).1 (A7 m.Space.Board xo).2),(some 27,.fn [6] bP7),(some 35,.fn [6] bP6),(some 36,.fn [6] bP8),(some 37,.v (.pointer (some ⟨q,33,none⟩))),(some 38,.v (.pointer (some ⟨q,37,none⟩))),(none,.v undef)]) kr (fun val W=>by kernel_rfl) ?ob4 ?lz4 ?pn4 ?tl4
   case ob4 =>
    refine⟨fun x=>?_,fun x=>?_,fun x=>?_,fun x=>?_,fun x=>?_,fun x=>?_,trivial⟩
    ·exact bG9 (o:=37) (cs:=vs5) (row:=bd) (HV5.out.to (S9 (ii:d5 w y.w) (ii:d5 y.w x.w))) rfl kr _ am0 rfl (by rw[HBL.out];kernel_rfl) (by rw[HBL.out];exact HRB.out)
    ·exact bG9 (o:=0) (cs:=[.int .i64 xo.Kind,.int .i64 xo.At,.int .i64 xo.A,.int .i64 xo.B]) (row:=[.int .i64 xo.Kind,.int .i64 xo.At,.int .i64 xo.A,.int .i64 xo.B]) (HX5.out.to (ii:d5 y.w x.w)) rfl kr _ aU8 rfl kr rfl
    ·refine bo1 (f:=126) (args:=[.agg bd.toArray,.agg #[.int .i64 xo.Kind,.int .i64 xo.At,.int .i64 xo.A,.int .i64 xo.B]]) Tryz.func126 kr kr ((bc3 (B:=B) (Enc.keep HBR.out (ay3 (S9 (ii:d5 w y.w) (ii:d5 y.w x.w)))) HXK.out HTB.out).mono ?_)
     rintro _ _ ⟨vs2,χ2,rfl,hO2,y2,rfl⟩
     exact⟨_,rfl,⟨y2,rfl⟩,vs2,χ2,rfl,S7.map hO2 (.mono x.size_le)⟩
    ·refine ak8 fun v13 q13=>av4 ?_
     obtain⟨vs2,χ2,rfl,q⟩:=(show bb6 y.w.heap.size (A7 m.Space.Board xo).1 (A7 m.Space.Board xo).2 v13 x.w from q13)
     exact bK9 (k:=7) kr kr
    ·refine ak8 fun v13 q13=>av4 ?_
     obtain⟨vs2,χ2,rfl,q⟩:=(show bb6 y.w.heap.size (A7 m.Space.Board xo).1 (A7 m.Space.Board xo).2 v13 x.w from q13)
     exact bK9 (k:=8) kr kr
    ·refine ak8 fun v13 q13=>av4 ?_
     obtain⟨vs2,χ2,rfl,q⟩:=(show bb6 y.w.heap.size (A7 m.Space.Board xo).1 (A7 m.Space.Board xo).2 v13 x.w from q13)
     exact bK9 (k:=9) kr kr
   case lz4 =>
    refine⟨fun W hW=>?_,trivial⟩
    refine ak8 fun v13 q13=>av4 ?_
    obtain⟨vs2,χ2,rfl,q⟩:=(show bb6 y.w.heap.size (A7 m.Space.Board xo).1 (A7 m.Space.Board xo).2 v13 W from q13)
    intro W3
    kernel_rfl
   case pn4=>exact fun _ _ _ _ _ _ h=>h
   case tl4 =>
    intro x
    refine ak8 fun v13 q13=>?_
    obtain⟨vs2,χ2,rfl,hO2⟩:=(show bb6 y.w.heap.size (A7 m.Space.Board xo).1 (A7 m.Space.Board xo).2 v13 x.w from q13)
    clear q13
    refine be3 rfl ?_
    simp only[az6,au1,List.map,bP7,bP6,bP8]
    simp only[nrm,if_true]
    have HL2:=lH (Y3 (R8.toRd hO2))
    have HPP:=lH (GBq.new (D:=bN5) (HG.out.to (ii:d5 w y.w)) (ii:d5 y.w x.w) hO2)
    clear hO2
    go_wp2_with (first|((with_reducible refine rl ?_);refine rq ?_;intro x)|(refine by8 rfl _ (.tmp 38) (.tmp 35) rfl HPP.out rfl rfl (by rw[HL2.out];kernel_rfl) (w0:=w0) ii hb ?_;intro z6 hz6 hX6))
    have HZ6:=lH (show GB X B q z6.w (pay m d)by rw[HV.out];exact hz6)
    have HX6:=lH (show ∀ k,X k→z6.w.heap[k]?=w.heap[k]? from fun k hk=>(hX6 k hk).trans ((ii:d5 w x.w).out.block k (HG.out.xs hk).2))
    clear hz6 hX6
    (first|(refine bodyPost_end (v:=.tuple #[]) (by simp[results,Tryz.results39,go_sem]) rfl ?_)|(refine bodyPost_ret (v:=.tuple #[]) (by simp[results,Tryz.results39,go_sem]) rfl ?_))
    exact⟨⟨_,rfl⟩,HZ6.out.to ii,HX6.out,b5.of⟩
def X6(m:f5)(d:ByteArray):f5:=av7 m (an9 (U9 d))
theorem bb2(l:List s6)(x:f5):(l.map s6.Data).foldl X6 x=l.foldl ay5 x:=by rw[List.foldl_map];rfl
theorem aF5{x:f5}{d:ByteArray}(h:N8 (an9 (U9 d))=none):X6 x d=aq6 x:=by rw[X6,av7,h]
theorem by6{x:f5}{d:ByteArray}{q:Int × Int × ByteArray}{r:M4}{p:ByteArray}(h:N8 (an9 (U9 d))=some q)(hk:F9 x.Space.Receiver (an9 (U9 d))=(r,p,false)):X6 x d=aO7 x r:=by rw[X6,av7,h,hk];rfl
theorem bl1{x:f5}{d:ByteArray}{q:Int × Int × ByteArray}{r:M4}{p:ByteArray}(h:N8 (an9 (U9 d))=some q)(hk:F9 x.Space.Receiver (an9 (U9 d))=(r,p,true)):X6 x d=pay (aI6 (aO7 x r) p) p:=by rw[X6,av7,h,hk];rfl
theorem ba7{d:ByteArray}(h:(U9 d).isSome=false):N8 (an9 (U9 d))=none:=by
 cases hr:U9 d with
 | none=>rfl
 | some l=>rw[hr]at h;cases h
theorem aI1{B:Nat}{vs:List Value}{m:f5}{w:World}(h:Enc.Rd B w vs m)(ht:Enc.tot m≤100000000) :
  Calls Tryz.prog 7 #[.agg vs.toArray] w (U0 w (L4 m)):=by
 have HL:=lH (ab7 h)
 have HM:=lH h;clear h
 have HT:=lH ht;clear ht
 have HB:=lH ((i9.new w vs 90 w.heap.size rfl).to (ii:d5 _ ((w.alloc (.cells vs.toArray 90)).alloc (.cells A8.toArray 90))))
 have HR:=lH (i9.new (w.alloc (.cells vs.toArray 90)) A8 90 (w.heap.size+1) (by simp))
 have gW:d5 w ((w.alloc (.cells vs.toArray 90)).alloc (.cells A8.toArray 90)):=inferInstance
 have hsz:((w.alloc (.cells vs.toArray 90)).alloc (.cells A8.toArray 90)).heap.size=w.heap.size+2:=by simp
 go_enter Tryz.func7,Tryz.ntmps7
 go_upto_region 1 with(fail)
 generalize ((w.alloc (.cells vs.toArray 90)).alloc (.cells A8.toArray 90))=W2 at HB HR gW hsz ⊢
 have iB:LtN w.heap.size W2.heap.size:=⟨by omega⟩
 have iR:LtN (w.heap.size+1) W2.heap.size:=⟨by omega⟩
 have hW2:w.heap.size≤W2.heap.size:=by omega
 go_wp2_with (first|(refine sL rfl _ (.tmp 1) rfl (w.heap.size) kr HB ii aq8 HL ?_))
 refine(bc1 (x:=m) (Enc.keep HM.out ii) HT.out).mono ?_
 rintro _ _ ⟨cs,χ,rfl,hO,y1,rfl⟩
 have HLC:=lH (ab7 (R8.toRd hO));have HOC:=lH (al8 (R8.toRd hO));have HO:=lH hO;clear hO
 go_upto_region 2 with(first|(refine sW rfl _ _ _ rfl _ rfl (us:=cs) (i9.new _ A8 90 _ rfl) HLC HOC (w0:=W2) ii LeN.out ?_;intro z1 HX1 KX1))
 (try simp only[Act.put])
 obtain⟨qb,hqb⟩:∃ qb,y1.w.heap.size=qb:=⟨_,rfl⟩
 rw[hqb]
 have HG:=lH (show GB (fun _=>False) W2.heap.size qb z1.w m from hqb▸GB.of HO.out (KX1.out.under ii nl) y1.size_le HX1.out)
 have hqB:W2.heap.size≤qb:=HG.out.le
 have hqlt:LtN qb z1.w.heap.size:=⟨HG.out.lt⟩
 clear hqb HX1 KX1 HO HLC HOC
 go_wp2_with (first|(refine sL rfl _ (.tmp 1) rfl (w.heap.size) kr HB ii aq8 HL ?_))
 refine gm (bm2 (m:=m) (Enc.keep HM.out ii) HT.out) ?_
 intro y2
 cases hv:j9 m
 ·obtain⟨vs9,hH9,hl9,h19,-,χ9,hO9⟩:=HG.out.vs
  have HH9:=lH hH9;have HO9:=lH hO9;have H19:=lH h19;have HL9:=lH (show vs9.length=61 from hl9)
  clear hO9 hH9 h19 hl9
  go_wp2_with (first|(refine sL rfl _ (.tmp 3) rfl (qb) kr HH9 ii aq8 HL9 ?_)|(refine sW rfl _ _ _ rfl (w.heap.size+1) rfl (us:=vs9) (HR.out.to ii) HL9 H19 (w0:=w) ii (by omega) ?_;intro z9 HX9 KX9))
  refine bodyPost_ret (v:=.agg vs9.toArray) (F7 (P:=Tryz.prog) rfl rfl HX9.out _ aq8 rfl (by rw[HL9.out];kernel_rfl)) rfl ?_
  rw[show L4 m=m by rw[L4,if_neg (by rw[hv];decide)]]
  exact⟨vs9,χ9,rfl,ac0 (ar4 HO9.out ii) KX9.out (show w.heap.size+1<W2.heap.size by omega) hW2,b5.of⟩
 ·have HUS:=lH (be4 hv)
  have HHU:=lH (show L4 m=(ag1 m.Time m.Ups).foldl ay5 (ah2 m)by rw[L4,if_pos hv])
  clear hv
  have hul:m.Ups.length≤100000000:=by have:=HUS.out.2.1;omega
  obtain⟨ua,uc,ue,-,hgood,hrd⟩:=HG.out.own bL4
  have HGD:=lH (show ∀ p∈m.Ups,ai0 p from hgood)
  clear hgood
  have HRD:=lH (show RdS W2.heap.size z1.w ua uc m.Ups from hrd)
  have ue2:∀ (W:World) [d5 z1.w W],W.cell? ⟨qb,14,none⟩=some (.slice ua m.Ups.length uc):=fun W g=>ue W
  have et:=bP9 HG.out
  clear ue hrd
  go_upto_region 5 with(first|(go_at_call 34;refine(aV3 (l:=m.Ups) (t:=m.Time) (HRD.out.keep (ay3 ii)) hul).mono ?_;rintro _ _ ⟨da,la,dc,lc,rfl,od,ol,hne,y3,rfl⟩))
  obtain⟨F,hF⟩:∃ F,ag1 m.Time m.Ups=F:=⟨_,rfl⟩
  have HFM:=lH (show ∀ f∈F,f∈m.Ups from fun f hf=>(List.mem_filter.1 (show f∈ag1 m.Time m.Ups by rw[hF];exact hf)).1)
  obtain⟨LA,hLA⟩:∃ LA,W5 m.Time m.Ups=LA:=⟨_,rfl⟩
  have HLM:=lH (show ∀ f∈LA,f∈m.Ups from fun f hf=>(List.mem_filter.1 (show f∈W5 m.Time m.Ups by rw[hLA];exact hf)).1)
  have HLA:=lH hLA
  rw[hF]at HHU
  rw[hF]at od
  rw[hLA]at ol
  have HNL:=lH (show F.length≤1000 by rw[← hF];exact Nat.le_trans (List.length_filter_le _ _) HUS.out.2.1)
  rw[hF,hLA]
  clear hF hLA
  obtain⟨n,hn⟩:∃ n,F.length=n:=⟨_,rfl⟩
  have HN:=lH hn
  rw[hn]at HNL
  rw[hn]
  obtain⟨ln,hln⟩:∃ n,LA.length=n:=⟨_,rfl⟩
  have HLN:=lH hln
  rw[hln]
  clear hn hln
  obtain⟨BL,hBL⟩:∃ BL,(z1.andThen y2).w.heap.size=BL:=⟨_,rfl⟩
  have OD:=lH (show Own E0 124 2 BL ((z1.andThen y2).andThen y3).w da dc F from hBL▸(List.map_id F▸od))
  have HP5:=lH (GBp.newX (F:=bL4) (P:=fun j=>I5 da=some j) (u:=(z1.andThen y2).w) (w:=((z1.andThen y2).andThen y3).w) (HG.out.to ii) ii ol (fun p hp=>HGD.out p (HLM.out p hp)) (fun j hj=>⟨(od.blk j hj).1,(od.blk j hj).2,hne j hj⟩))
  clear od ol hne hBL
  go_upto_region 6 with(first|(refine ax2 HLN.out rfl _ _ _ rfl HP5.out rfl rfl kr (w0:=W2) ii nl ?_;intro z5 hz5 hX5))
  (try simp only[Act.put])
  have HGL:=lH (show GB (fun k=>False∨I5 da=some k) W2.heap.size qb z5.w (ah2 m)from(show bL4.set m LA=ah2 m by rw[← HLA.out];rfl)▸hz5)
  have OD5:=lH (show Own E0 124 2 BL z5.w da dc F from OD.out.same fun k hk _ _=>hX5 k (.inr hk))
  have HGF:=lH (show ∀ f∈F,ai0 f from fun f hf=>HGD.out f (HFM.out f hf))
  have HSZ:=lH (show ∀ d∈F.map s6.Data,d.size≤404 from fun d hd=>by obtain⟨f,hf,rfl⟩:=List.mem_map.1 hd;exact(HUS.out.2.2.1 f (HFM.out f hf)).2)
  have HU0:=lH HUS.out.1
  have HF0:=lH (show(F.map s6.Data).foldl X6 (ah2 m)=L4 m by rw[bb2];exact HHU.out.symm)
  have hn3:n≤1000:=HNL.out
  clear HRD HP5 OD hz5 hX5 HLA HGD HFM HLM HUS HHU HLN hul ue2 et
  go_wp2_with (fail)
  go_loopw [31] (fun v wr=>∃ (k:Nat) (x:f5),v=.int .i64 k∧k≤n∧Hid (((F.map s6.Data).drop k).foldl X6 x=L4 m)∧Hid (X5 (2*k) x)∧Hid (GB (fun k=>False∨I5 da=some k) W2.heap.size qb wr x)∧Hid (Own E0 124 2 BL wr da dc F)∧∃ y:b5 W2,wr=y.w) (fun v _=>(n - intOf v).toNat)
  case atStart=>exact⟨0,ah2 m,rfl,Nat.zero_le _,HF0,HU0,HGL.out.to ii,OD5.out.to ii,b5.of⟩
  case round =>
   obtain⟨k,x,rfl,hk,HF,HI,HGR,HOL,y,rfl⟩:=hrel
   by_cases hkn:k<n
   ·have hkm:k<(F.map s6.Data).length:=by rw[List.length_map,HN.out];exact hkn
    obtain⟨eb,eoff,f0,rfl,hob,hod,eok,eh0,eh1⟩:=(D0.of (show Own E0 124 2 BL y.w da dc F from HOL.out) HGF.out (0,0)).rd.atTFlight (show k<F.length by rw[HN.out];exact hkn)
    clear eok
    obtain⟨fa,s0⟩:=f0
    have HDR:=lH (show(F.map s6.Data).drop k=s0::(F.map s6.Data).drop (k+1)by rw[← List.map_drop,hod.out,List.map_cons,List.map_drop])
    clear hod
    simp only at eh0 eh1
    have hs0:s0.size≤404:=HSZ.out s0 (List.mem_of_mem_drop (show s0∈(F.map s6.Data).drop k by rw[HDR.out];simp))
    obtain⟨tx,htx⟩:∃ tx,an9 (U9 s0)=tx:=⟨_,rfl⟩
    have htz:tx.size≤400:=htx▸bd8 s0
    have HTX:=lH htx
    have hqy:LtN qb y.w.heap.size:=⟨HGR.out.lt⟩
    have HF2:=lH (show((F.map s6.Data).drop (k+1)).foldl X6 (X6 x s0)=L4 m by have:=HF.out;rw[HDR.out,List.foldl_cons]at this;exact this)
    have HI2:=lH (show X5 (2*(k+1)) (X6 x s0)from HI.out.heard (an9 (U9 s0)))
    obtain⟨vs5,A5,hV5,hvs5,F5⟩:=aq2 HGR.out
    have HV:=lH hV5
    obtain⟨rc,hrc⟩:∃ rc,x.Space.Receiver=rc:=⟨_,rfl⟩
    have HRC:=lH hrc
    have HR33:=lH (show(vs5.drop 33).take 4=[.int .i64 rc.Expect,.bool rc.Locked,.bool rc.Again,.int .i64 rc.Taken]by rw[hvs5,← hrc];rfl)
    clear hV5 hvs5 F5 hrc
    go_wp2_with (fail)
    refine gm (bs0 hs0) ?_
    intro y4
    rw[htx]
    cases c1:(U9 s0).isSome
    ·clear htx
     have HSB:=lH (show X6 x s0=aq6 x from aF5 (ba7 c1))
     go_wp2_with (fail)
     refine(ar7 (w0:=W2) (HGR.out.to ii) HI.out.bad0 HI.out.bad1 ii nl).mono ?_
     rintro _ w9 ⟨⟨u,rfl⟩,hz9,hx9,z9,rfl⟩
     have HO9:=lH (show Own E0 124 2 BL z9.w (some ⟨eb,eoff,none⟩) dc F from HOL.out.same fun k hk _ _=>(hx9 k (.inr hk)).trans ((ii:d5 y.w _).out.block k (HGR.out.xs (.inr hk)).2))
     have HZ9:=lH hz9
     clear hx9 hz9
     go_wp2_with (fail)
     go_roundw
     case rel=>exact⟨k+1,X6 x s0,by go_num,by omega,HF2,HI2,(by rw[HSB.out];exact HZ9.out.to ii),(HO9.out.to ii),b5.of⟩
     case measure=>simp[intOf];omega
    ·go_wp2_with (fail)
     refine gm (aw0 (s:=tx) (by omega)) ?_
     intro y6
     cases hd:N8 tx with
     | none =>
      rw[bA7]
      have HSB:=lH (show X6 x s0=aq6 x from aF5 (htx.symm▸hd))
      go_wp2_with (fail)
      refine(ar7 (w0:=W2) (HGR.out.to ii) HI.out.bad0 HI.out.bad1 ii nl).mono ?_
      rintro _ w9 ⟨⟨u,rfl⟩,hz9,hx9,z9,rfl⟩
      have HO9:=lH (show Own E0 124 2 BL z9.w (some ⟨eb,eoff,none⟩) dc F from HOL.out.same fun k hk _ _=>(hx9 k (.inr hk)).trans ((ii:d5 y.w _).out.block k (HGR.out.xs (.inr hk)).2))
      have HZ9:=lH hz9
      clear hx9 hz9
      go_wp2_with (fail)
      go_roundw
      case rel=>exact⟨k+1,X6 x s0,by go_num,by omega,HF2,HI2,(by rw[HSB.out];exact HZ9.out.to ii),(HO9.out.to ii),b5.of⟩
      case measure=>simp[intOf];omega
     | some q =>
      rw[bA7]
      obtain⟨q1,q2,q3⟩:=q
      have HD:=lH (show N8 (an9 (U9 s0))=some (q1,q2,q3)from htx.symm▸hd)
      have HTC:=lH (show F9 x.Space.Receiver (an9 (U9 s0))=F9 rc tx by rw[HRC.out,HTX.out])
      have HFT:=lH (av3 tx (HRC.out▸HI.out.rcv:A9 rc=true))
      have HTK:=lH (fun(W:World)=>aY9 (r:=rc) (s:=tx) (w:=W) (by omega))
      obtain⟨tq,htq⟩:∃ tq,F9 rc tx=tq:=⟨_,rfl⟩
      rw[htq]at HTC HFT HTK
      obtain⟨⟨e2,lk2,ag2,tk2⟩,pd,ok2⟩:=tq
      have hpd:pd.size≤40:=HFT.out.2
      have HTK:=lH (show ∀ W,Calls Tryz.prog 38 #[.agg #[.int .i64 rc.Expect,.bool rc.Locked,.bool rc.Again,.int .i64 rc.Taken],.string tx] W (b4 W (.tuple #[.agg #[.int .i64 e2,.bool lk2,.bool ag2,.int .i64 tk2],.string pd,.bool ok2]))from HTK.out)
      clear htq htx hd
      go_wp2_with (first|(refine f7 rfl _ (.tmp 54) rfl (qb) 33 kr (row:=[.int .i64 rc.Expect,.bool rc.Locked,.bool rc.Again,.int .i64 rc.Taken]) (HV.out.to ii) _ Tryz.underlying77 rfl kr HR33.out ?_))
      refine gm (HTK.out _) ?_
      intro y7
      go_upto_region 16 with(first|(refine ax1 (o:=33) (us:=[.int .i64 e2,.bool lk2,.bool ag2,.int .i64 tk2]) (aO7 x ⟨e2,lk2,ag2,tk2⟩:f5) rfl _ (.tmp 63) (.tmp 61) rfl (HGR.out.to ii) kr kr kr rfl nb (by intros;rename_i h;obtain⟨A1,rfl,p⟩:=h;exact⟨A1,rfl,{ p with ok:=bN9 p.ok HFT.out.1 }⟩) (w0:=W2) ii nl ?_;intro z6 hz6 hX6))
      (try simp only[Act.put])
      have HO6:=lH (show Own E0 124 2 BL z6.w (some ⟨eb,eoff,none⟩) dc F from HOL.out.same fun k hk _ _=>(hX6 k (.inr hk)).trans ((ii:d5 y.w _).out.block k (HGR.out.xs (.inr hk)).2))
      have HZ6:=lH hz6
      clear hX6 hz6
      have HI6:=lH (show X5 (2*k) (aO7 x ⟨e2,lk2,ag2,tk2⟩)from HI.out.setR1 HFT.out.1)
      cases ok2
      ·have HSB:=lH (show X6 x s0=aO7 x ⟨e2,lk2,ag2,tk2⟩from by6 HD.out HTC.out)
       go_wp2_with (fail)
       go_roundw
       case rel=>exact⟨k+1,X6 x s0,by go_num,by omega,HF2,HI2,(by rw[HSB.out];exact HZ6.out.to ii),(HO6.out.to ii),b5.of⟩
       case measure=>simp[intOf];omega
      ·obtain⟨x6,hx6⟩:∃ x6,aO7 x ⟨e2,lk2,ag2,tk2⟩=x6:=⟨_,rfl⟩
       have HSB:=lH (show X6 x s0=pay (aI6 x6 pd) pd from hx6▸bl1 HD.out HTC.out)
       rw[hx6]at HZ6 HI6
       clear hx6
       obtain⟨ta,tc,te,town,-,-⟩:=HZ6.out.own bH5
       have HTE:=lH (te z6.w)
       have HTO:=lH (show Own R3 9 1 W2.heap.size z6.w ta tc x6.Took from town)
       obtain⟨tn,htn⟩:∃ n,x6.Took.length=n:=⟨_,rfl⟩
       have HTN:=lH htn
       have htb:tn≤1000000000:=by have:=HI6.out.took;omega
       have te2:∀ (W:World) [d5 z6.w W],W.cell? ⟨qb,59,none⟩=some (.slice ta tn tc):=fun W g=>htn▸te W
       clear te town htn
       go_upto_region 18 with(first|(at_builtin;refine X9 (enc:=R3) (w0:=W2) (z:=.string ⟨#[]⟩) (size:=1) (bytes:=16) (n:=tn) pd rfl (.tmp 66) (.tmp 68) rfl Tryz.underlying30 kr rfl (by decide) (by decide) rfl rfl HTN.out (HTO.out.to ii) bk rfl (as6 _) htb (ii:d5 W2 _).out.size ii nl ?_;intro sa3 sc3 x3 hown1 hgr1 hblk1;have hp3:=GBp.app (F:=bH5) HZ6.out HTE.out (ii:d5 z6.w _) hown1 hgr1 hblk1 (show pd.size≤9223372036854775807 by omega);have HP3:=lH hp3.1;have HX3:=lH (show ∀ k,(False∨I5 (some ⟨eb,eoff,none⟩)=some k)→x3.w.heap[k]?=z6.w.heap[k]? from fun k hk=>(hp3.2 k hk).trans ((ii:d5 z6.w _).out.block k (HZ6.out.xs hk).2));clear hown1 hgr1 hblk1 hp3)|(refine ax2 (aX4 HTN.out) rfl _ _ _ rfl HP3.out rfl rfl kr (w0:=W2) ii nl ?_;intro z7 hz7 hX7))
       (try simp only[Act.put])
       have HZ7:=lH (show GB (fun k=>False∨I5 (some ⟨eb,eoff,none⟩)=some k) W2.heap.size qb z7.w (aI6 x6 pd)from hz7)
       have HX7:=lH (show ∀ k,(False∨I5 (some ⟨eb,eoff,none⟩)=some k)→z7.w.heap[k]?=z6.w.heap[k]? from fun k hk=>(hX7 k hk).trans (HX3.out k hk))
       have HI7:=lH (HI6.out.took1 pd)
       clear hz7 hX7 HX3 HP3 te2 HTE HTO HTN htb
       go_wp2_with (fail)
       refine(aZ0 (w0:=W2) (HZ7.out.to ii) HI7.out (by omega) ii nl).mono ?_
       rintro _ w9 ⟨⟨u,rfl⟩,hz9,hx9,z9,rfl⟩
       have HO9:=lH (show Own E0 124 2 BL z9.w (some ⟨eb,eoff,none⟩) dc F from HO6.out.same fun k hk _ _=>((hx9 k (.inr hk)).trans ((ii:d5 z7.w _).out.block k (HZ7.out.xs (.inr hk)).2)).trans (HX7.out k (.inr hk)))
       have HZ9:=lH hz9
       clear hx9 hz9
       go_wp2_with (fail)
       go_roundw
       case rel=>exact⟨k+1,X6 x s0,by go_num,by omega,HF2,HI2,(by rw[HSB.out];exact HZ9.out.to ii),(HO9.out.to ii),b5.of⟩
       case measure=>simp[intOf];omega
   ·obtain rfl:k=n:=by omega
    obtain⟨vs8,hH8,hl8,h18,-,χ8,hO8⟩:=HGR.out.vs
    have HH8:=lH hH8;have HO8:=lH hO8;have H18:=lH h18;have HL8:=lH (show vs8.length=61 from hl8)
    clear hO8 hH8 h18 hl8
    go_wp2_with (first|(refine sL rfl _ (.tmp 3) rfl (qb) kr HH8 ii aq8 HL8 ?_)|(refine sW rfl _ _ _ rfl (w.heap.size+1) rfl (us:=vs8) (HR.out.to ii) HL8 H18 (w0:=w) ii (by omega) ?_;intro z8 HX8 KX8))
    refine bodyPost_ret (v:=.agg vs8.toArray) (F7 (P:=Tryz.prog) rfl rfl HX8.out _ aq8 rfl (by rw[HL8.out];kernel_rfl)) rfl ?_
    rw[show L4 m=x by have:=HF.out;rw[List.drop_of_length_le (by rw[List.length_map,HN.out];exact Nat.le_refl _)]at this;exact this.symm]
    exact⟨vs8,χ8,rfl,ac0 (ar4 HO8.out ii) KX8.out (show w.heap.size+1<W2.heap.size by omega) hW2,b5.of⟩
theorem au6{s:ByteArray}{a k:Nat}{w:World}(h1:1≤k)(h4:k≤4)(hs:a+k≤s.size)(hm:s.size≤100000000):Calls Tryz.prog 182 #[.string s,.int .i64 a,.int .i64 k] w (b4 w (.tuple #[.int .i64 (U4 s a k),.bool true])):=by
 have HS:=lH hs
 have HM:=lH hm
 have c1:inB k 1 4=true:=D6.2 (by omega)
 have c4:decide ((k:Int)<1)=false:=by simp;omega
 have c5:decide ((4:Int)<(k:Int))=false:=by simp;omega
 have c6:decide ((a:Int)<0)=false:=by simp
 have c7:decide ((s.size:Int)<(a:Int))=false:=by simp;omega
 have c8:decide ((s.size:Int) - (a:Int)<(k:Int))=false:=by simp;omega
 go_enter Tryz.func182,Tryz.ntmps182
 go_wp2_with (first|(go_at_call 73;refine gm (d8) ?_;intro x))
 go_loopw [8,9] (fun u v wr=>∃ i:Nat,v=.int .i64 i∧u=.int .i64 (U4 s a i)∧i≤k∧∃ y:b5 w,wr=y.w) (fun _ v _=>(k - intOf v).toNat)
 case atStart=>exact⟨0,rfl,rfl,Nat.zero_le _,b5.of⟩
 case round =>
  obtain⟨i,rfl,rfl,hi,y,rfl⟩:=hrel
  by_cases h:i<k
  ·have hai:a+i<s.size:=by have:=HS.out;omega
   have e0:bAt s (a+i)=((s[a+i]'hai).toNat:Int):=ak7 hai
   have hb:=W7 s (a+i)
   have hn1:0≤U4 s a i∧U4 s a i≤16777215:=by
    have h0:=W7 s (a+0);have h1:=W7 s (a+1);have h2:=W7 s (a+2)
    have hi3:i=0∨i=1∨i=2∨i=3:=by omega
    rcases hi3 with rfl|rfl|rfl|rfl<;>simp only[U4]<;>omega
   have HW:=lH (show U4 s a (i+1)=U4 s a i*256+bAt s (a+i)from rfl)
   obtain⟨n,hn⟩:∃ n,U4 s a i=n:=⟨_,rfl⟩
   obtain⟨b,hb9⟩:∃ b:Int,((s[a+i]'hai).toNat:Int)=b:=⟨_,rfl⟩
   rw[hn]at hn1 HW
   rw[e0,hb9]at hb HW
   clear e0
   have hj0:(0:Int)≤(a:Int)+(i:Int):=by omega
   have hj2:(a:Int)+(i:Int)<(s.size:Int):=by omega
   have hj3:((a:Int)+(i:Int)).toNat=a+i:=by omega
   have hsb:=HM.out
   clear hs hm
   go_wp2_with (fail)
   (try simp only[hn,hb9])
   go_roundw
   case rel=>exact⟨i+1,by go_num,(by first|(rw[HW.out];done)|(rw[HW.out,Int.mul_comm n 256])),by omega,b5.of⟩
   case measure=>simp[intOf];omega
  ·obtain rfl:i=k:=by omega
   clear hs hm
   go_wp2_with (fail)
   refine bodyPost_ret (v:=.tuple #[.int .i64 (U4 s a i),.bool true]) ?_ rfl (b4.mk (by rfl))
   simp[results,Tryz.results182,go_sem]
theorem aZ6{s:ByteArray}{w:World}(hm:s.size≤100000000):Calls Tryz.prog 84 #[.string s] w (b4 w (bU8 (ac7 s))):=by
 have HR:=lH (i9.new w [.int .i64 0,.int .i64 0,.int .i64 0,.int .i64 0] 169 w.heap.size rfl)
 have gW:d5 w (w.alloc (.cells #[.int .i64 0,.int .i64 0,.int .i64 0,.int .i64 0] 169)):=inferInstance
 by_cases h7:s.size=7
 ·have c1:((s.size:Int) != 7)=false:=by simp;omega
  have w1:=aF7 s 1 (k:=3) (by decide)
  have w5:=aF7 s 5 (k:=2) (by decide)
  have hb0:=W7 s 0
  have hb4:=W7 s 4
  obtain⟨x0,hx⟩:∃ x0,bI0 s=x0:=⟨_,rfl⟩
  have e1:U4 s 1 3=x0.At:=by rw[← hx];rfl
  have e2:U4 s 5 2=x0.B:=by rw[← hx];rfl
  have e3:bAt s 0=x0.Kind:=by rw[← hx];rfl
  have e4:bAt s 4=x0.A:=by rw[← hx];rfl
  have HST:=lH (show ac7 s=if w8 x0=true then some x0 else none by rw[ac7,if_pos h7,hx])
  have HE1:=lH e1;have HE3:=lH (show U4 s 0 1=x0.Kind by rw[← e3];show(0:Int)*256+bAt s 0=_;omega);have HE4:=lH (show U4 s 4 1=x0.A by rw[← e4];show(0:Int)*256+bAt s 4=_;omega)
  have HE2:=lH e2
  clear hx
  clear e1 e2 e3 e4 hb0 hb4 w1 w5
  go_enter Tryz.func84,Tryz.ntmps84
  have HB0:=lH (i9.new (w.alloc (.cells #[.int .i64 0,.int .i64 0,.int .i64 0,.int .i64 0] 169)) [.int .i64 0,.int .i64 0,.int .i64 0,.int .i64 0] 169 (w.heap.size+1) (by simp))
  go_upto_region 4 with(first|(refine v8 rfl _ (.tmp 4) (.tmp 9) rfl (w.heap.size+1) 0 kr (us:=[.int .i64 0,.int .i64 0,.int .i64 0,.int .i64 0]) (cs2:=[.int .i64 0,.int .i64 0,.int .i64 0,.int .i64 0]) (HB0.out.to ii) rfl kr rfl (by simp) rfl (w0:=w) ii (by omega) ?_;intro z0 hx0 kx0;have HX0:=lH hx0;clear hx0;have KX0:=lH kx0;clear kx0))
  (try simp only[Act.put])
  have HR0:=lH ((HR.out.to (ii:d5 (w.alloc (.cells #[.int .i64 0,.int .i64 0,.int .i64 0,.int .i64 0] 169)) _)).but KX0.out (by omega))
  clear HR KX0 HB0
  go_wp2_with (fail)
  refine gm (au6 (a:=0) (k:=1) (by decide) (by decide) (by omega) (by omega)) ?_
  intro y1
  rw[HE3.out]
  go_upto_region 5 with(first|(refine v8 rfl _ (.tmp 15) (.tmp 13) rfl (w.heap.size+1) 0 kr (us:=[.int .i64 (x0.Kind)]) (cs2:=[.int .i64 x0.Kind,.int .i64 0,.int .i64 0,.int .i64 0]) (HX0.out.to ii) rfl kr rfl (by simp) rfl (w0:=w) ii (by omega) ?_;intro z1 hx1 kx1;have HX1:=lH hx1;clear hx1;have KX1:=lH kx1;clear kx1))
  (try simp only[Act.put])
  have HR1:=lH ((HR0.out.to (ii:d5 z0.w _)).but KX1.out (by omega))
  clear HX0 HR0 KX1
  go_wp2_with (fail)
  refine gm (au6 (a:=1) (k:=3) (by decide) (by decide) (by omega) (by omega)) ?_
  intro y2
  rw[HE1.out]
  go_upto_region 6 with(first|(refine v8 rfl _ (.tmp 21) (.tmp 19) rfl (w.heap.size+1) 1 kr (us:=[.int .i64 (x0.At)]) (cs2:=[.int .i64 x0.Kind,.int .i64 x0.At,.int .i64 0,.int .i64 0]) (HX1.out.to ii) rfl kr rfl (by simp) rfl (w0:=w) ii (by omega) ?_;intro z2 hx2 kx2;have HX2:=lH hx2;clear hx2;have KX2:=lH kx2;clear kx2))
  (try simp only[Act.put])
  have HR2:=lH ((HR1.out.to (ii:d5 z1.w _)).but KX2.out (by omega))
  clear HX1 HR1 KX2
  go_wp2_with (fail)
  refine gm (au6 (a:=4) (k:=1) (by decide) (by decide) (by omega) (by omega)) ?_
  intro y3
  rw[HE4.out]
  go_upto_region 7 with(first|(refine v8 rfl _ (.tmp 27) (.tmp 25) rfl (w.heap.size+1) 2 kr (us:=[.int .i64 (x0.A)]) (cs2:=[.int .i64 x0.Kind,.int .i64 x0.At,.int .i64 x0.A,.int .i64 0]) (HX2.out.to ii) rfl kr rfl (by simp) rfl (w0:=w) ii (by omega) ?_;intro z3 hx3 kx3;have HX3:=lH hx3;clear hx3;have KX3:=lH kx3;clear kx3))
  (try simp only[Act.put])
  have HR3:=lH ((HR2.out.to (ii:d5 z2.w _)).but KX3.out (by omega))
  clear HX2 HR2 KX3
  go_wp2_with (fail)
  refine gm (au6 (a:=5) (k:=2) (by decide) (by decide) (by omega) (by omega)) ?_
  intro y4
  rw[HE2.out]
  go_upto_region 8 with(first|(refine v8 rfl _ (.tmp 33) (.tmp 31) rfl (w.heap.size+1) 3 kr (us:=[.int .i64 (x0.B)]) (cs2:=[.int .i64 x0.Kind,.int .i64 x0.At,.int .i64 x0.A,.int .i64 x0.B]) (HX3.out.to ii) rfl kr rfl (by simp) rfl (w0:=w) ii (by omega) ?_;intro z4 hx4 kx4;have HX4:=lH hx4;clear hx4;have KX4:=lH kx4;clear kx4))
  (try simp only[Act.put])
  have HR4:=lH ((HR3.out.to (ii:d5 z3.w _)).but KX4.out (by omega))
  clear HX3 HR3 KX4
  go_wp2_with (first|(refine f7 rfl _ _ rfl (w.heap.size+1) 0 kr (row:=[.int .i64 x0.Kind,.int .i64 x0.At,.int .i64 x0.A,.int .i64 x0.B]) (HX4.out.to ii) _ aU8 rfl kr kr ?_))
  refine gm (as7 (x:=x0)) ?_
  intro y5
  cases c2:w8 x0
  ·have HV:=lH (show ac7 s=none by rw[HST.out,c2];rfl)
   go_wp2_with (first|(refine v8 rfl _ _ (.tmp 37) rfl (w.heap.size) 0 kr (us:=[.int .i64 0,.int .i64 0,.int .i64 0,.int .i64 0]) (cs2:=[.int .i64 0,.int .i64 0,.int .i64 0,.int .i64 0]) (HR4.out.to ii) rfl kr rfl (by simp) rfl (w0:=w) ii nl ?_;intro z9 hx9 kx9;have HX9:=lH hx9;clear hx9;have KX9:=lH kx9;clear kx9))
   refine bodyPost_ret (v:=.tuple #[.agg #[.int .i64 0,.int .i64 0,.int .i64 0,.int .i64 0],.bool false]) (L0 (P:=Tryz.prog) (u:=.bool false) rfl rfl HX9.out _ aU8 rfl kr rfl) rfl ⟨by rw[HV.out];rfl,b5.of⟩
  ·have HV:=lH (show ac7 s=some x0 by rw[HST.out,c2];rfl)
   go_wp2_with (first|(refine f7 rfl _ _ rfl (w.heap.size+1) 0 kr (row:=[.int .i64 x0.Kind,.int .i64 x0.At,.int .i64 x0.A,.int .i64 x0.B]) (HX4.out.to ii) _ aU8 rfl kr kr ?_)|(refine v8 rfl _ _ (.tmp 38) rfl (w.heap.size) 0 kr (us:=[.int .i64 x0.Kind,.int .i64 x0.At,.int .i64 x0.A,.int .i64 x0.B]) (cs2:=[.int .i64 x0.Kind,.int .i64 x0.At,.int .i64 x0.A,.int .i64 x0.B]) (HR4.out.to ii) rfl kr rfl (by simp) rfl (w0:=w) ii nl ?_;intro z9 hx9 kx9;have HX9:=lH hx9;clear hx9;have KX9:=lH kx9;clear kx9))
   refine bodyPost_ret (v:=.tuple #[.agg #[.int .i64 x0.Kind,.int .i64 x0.At,.int .i64 x0.A,.int .i64 x0.B],.bool true]) (L0 (P:=Tryz.prog) (u:=.bool true) rfl rfl HX9.out _ aU8 rfl kr rfl) rfl ⟨by rw[HV.out];rfl,b5.of⟩
 ·have HV:=lH (show ac7 s=none by rw[ac7,if_neg h7])
  have c1:((s.size:Int) != 7)=true:=by simp;omega
  go_enter Tryz.func84,Tryz.ntmps84
  go_wp2_with (first|(refine v8 rfl _ _ (.tmp 8) rfl (w.heap.size) 0 kr (us:=[.int .i64 0,.int .i64 0,.int .i64 0,.int .i64 0]) (cs2:=[.int .i64 0,.int .i64 0,.int .i64 0,.int .i64 0]) (HR.out.to ii) rfl kr rfl (by simp) rfl (w0:=w) ii nl ?_;intro z9 hx9 kx9;have HX9:=lH hx9;clear hx9;have KX9:=lH kx9;clear kx9))
  refine bodyPost_ret (v:=.tuple #[.agg #[.int .i64 0,.int .i64 0,.int .i64 0,.int .i64 0],.bool false]) (L0 (P:=Tryz.prog) (u:=.bool false) rfl rfl HX9.out _ aU8 rfl kr rfl) rfl ⟨by rw[HV.out];rfl,b5.of⟩
theorem aP9{s:ByteArray}{w:World}(hm:s.size≤100000000):Calls Tryz.prog 86 #[.string s] w (bG1 w (V4 s)):=by
 have hlen:=J6 s
 obtain⟨N,hN⟩:∃ N,s.size=N:=⟨_,rfl⟩
 rw[hN]at hlen hm
 have HN:=lH hN
 go_enter Tryz.func86,Tryz.ntmps86
 go_wp2_with (fail)
 go_loopw [5,6] (fun u v wr=>∃ (k q:Nat) (L:List Int) (sa:Option Addr) (sc:Nat),v=.int .i64 k∧u=.slice sa q sc∧1≤k∧(k≤N∨k=1)∧q+1=k∧L.length=q∧Hid (L++(j4 s).drop k=(j4 s).drop 1)∧Hid (Own K0 3 1 w.heap.size wr sa sc L)∧∃ y:b5 w,wr=y.w) (fun _ v _=>(N - intOf v).toNat)
 case atStart=>exact⟨1,0,[],_,_,rfl,rfl,by omega,.inr rfl,rfl,rfl,rfl,Own.empty0 ak9 nl,b5.of⟩
 case round =>
  obtain⟨k,q,L,sa,sc,rfl,rfl,hk1,hk,hq,hL,HL,hO,y,rfl⟩:=hrel
  by_cases h:k<N
  ·have hks:k<s.size:=by have:=HN.out;omega
   obtain⟨hb1,hd⟩:=W8 hks
   obtain⟨b,hb⟩:∃ b:Int,((s[k]'hks).toNat:Int)=b:=⟨_,rfl⟩
   have hb0:0≤b:=by omega
   rw[hb]at hb1 hd
   have HD:=lH hd
   clear hd
   have hqb:q≤100000000:=by omega
   go_wp2_with (first|((at_builtin;refine V0 (enc:=K0) (w0:=w) (B:=w.heap.size) (z:=.int .i64 0) (size:=1) (bytes:=8) (b:Int) rfl (.tmp 14) (.tmp 19) rfl Tryz.underlying46 kr rfl (by decide) (by decide) rfl rfl hL (Own.to hO.out ii) bk rfl (af5 _) (by omega) LeN.out ii LeN.out ?_;intro sa1 sc1 x1 hown1 hgr1);have HO6:=lH hown1;clear hown1 hgr1))
   go_roundw
   case rel=>exact⟨k+1,q+1,L++[b],sa1,sc1,by go_num,(by first|rfl|rw[hq]),by omega,by omega,by omega,by simp[hL],lH (by have:=HL.out;rw[HD.out]at this;rw[← this];simp),HO6,b5.of⟩
   case measure=>simp[intOf];omega
  ·have HL2:=lH (show L=(j4 s).drop 1 by have:=HL.out;rw[List.drop_of_length_le (by omega),List.append_nil]at this;exact this)
   by_cases hz:N=0
   ·have hs0:s=⟨#[]⟩:=aw9 (by rw[hN];exact hz)
    have HV:=lH (show V4 s=none by rw[hs0];rfl)
    have he:s.toList.isEmpty=true:=by rw[hs0,ByteArray.toList_eq];rfl
    go_wp2_with (fail)
    refine bodyPost_ret (v:=.tuple #[.int .i64 0,.slice (some ⟨y.w.heap.size,0,none⟩) 0 0,.bool false]) ?_ rfl (by rw[HV.out];exact⟨_,rfl,b5.of⟩)
    simp[results,Tryz.results86,go_sem]
   ·have h0s:0<s.size:=by have:=HN.out;omega
    have e0:bAt s 0=((s[0]'h0s).toNat:Int):=ak7 h0s
    have hb9:=W7 s 0
    obtain⟨f,hf⟩:∃ f:Int,((s[0]'h0s).toNat:Int)=f:=⟨_,rfl⟩
    have HE:=lH (show bAt s 0=f by rw[e0,hf])
    rw[e0,hf]at hb9
    clear e0
    have he:s.toList.isEmpty=false:=al4 (by rw[hN];omega)
    have HMA:=lH (bg8 (s:=s) (by rw[hN];omega))
    have HEM:=lH (fun(W:World) (g:d5 y.w W)=>aQ1 (f:=f) (l:=L) (w:=W) (c:=sc) ((Own.sl hO.out).to g) hL (by omega))
    obtain⟨em,hem⟩:∃ em,ai8 f L=em:=⟨_,rfl⟩
    rw[HE.out,← HL2.out,hem]at HMA
    rw[hem]at HEM
    clear hem
    cases c2:as9 s
    ·have hne:(em.toList == s.toList)=false:=by rw[HMA.out,c2]
     have HV:=lH (show V4 s=none by rw[V4,c2];rfl)
     go_wp2_with (first|(go_at_call 184;refine gm (HEM.out _ ii) ?_;intro y2))
     refine bodyPost_ret (v:=.tuple #[.int .i64 0,.slice (some ⟨(y.andThen y2).w.heap.size,0,none⟩) 0 0,.bool false]) ?_ rfl (by rw[HV.out];exact⟨_,rfl,b5.of⟩)
     simp[results,Tryz.results86,go_sem]
    ·have hne:(em.toList == s.toList)=true:=by rw[HMA.out,c2]
     have HV:=lH (show V4 s=some (f,(j4 s).drop 1)by rw[V4,c2,HE.out];rfl)
     go_wp2_with (first|(go_at_call 184;refine gm (HEM.out _ ii) ?_;intro y2))
     refine bodyPost_ret (v:=.tuple #[.int .i64 f,.slice sa q sc,.bool true]) ?_ rfl (by rw[HV.out];exact⟨sa,sc,by rw[← HL2.out,hL],by rw[← HL2.out];exact hO.out.to ii,b5.of⟩)
     simp[results,Tryz.results86,go_sem]
