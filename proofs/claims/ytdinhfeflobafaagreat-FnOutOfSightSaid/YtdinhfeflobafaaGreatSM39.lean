/- The contracts of what draws a mission that begins: l09New. No condition. The contract of DrawMission. No condition but on the code's length. OfferCommand of the program. No condition but on sizes. -/
import Derived.Test.YtdinhfeflobafaaGreatSNewS
import Derived.Test.YtdinhfeflobafaaGreatSM27
import Derived.Test.YtdinhfeflobafaaGreatSM19
import Derived.Test.YtdinhfeflobafaaGreatSOffL
import Derived.Test.YtdinhfeflobafaaGreatSM35
import Derived.Test.YtdinhfeflobafaaGreatSM29
import Derived.Test.YtdinhfeflobafaaGreatSM12
import Derived.Deep.CutRange
import Derived.Test.YtdinhfeflobafaaGreatSCopyMI
import Derived.Test.YtdinhfeflobafaaGreatSM33
import Derived.Test.YtdinhfeflobafaaGreatSCopyS
namespace Go.Proofs.YtdinhfeflobafaaGreat
set_option linter.unusedVariables false
open Go.ChangeShapes Go.WideShapes Go.ChangeAt Go.RowKit
def isNew(m:TMission):Prop:=(0≤m.Light∧m.Light≤50)∧driftOkT m.Drift=true∧orbitOkT m.Orbit=true∧channelOk m.Up=true∧channelOk m.Down=true∧m.Space.Files.length=8∧(∀ s∈m.Space.Files,s.size≤70)∧(0≤m.Space.Board.Clock∧m.Space.Board.Clock≤1000)∧∃ (pl:List Slot) (room:Int) (L:List TLimit),m=newM m.Light m.Drift m.Orbit pl m.Up m.Down room L m.Space.Files∧missionOk m=true
def CurR(p:Nat)(a:Option Addr)(n c:Nat)(l:List Int):World→World→Prop:=fun u v=>u.grownBy v (some p)∧((∃ i,IsCur u p a n c l i)→∃ i,IsCur v p a n c l i)
theorem CurR.refl{p:Nat}{a:Option Addr}{n c:Nat}{l:List Int}(w:World):CurR p a n c l w w:=⟨grownBy_refl _ _,id⟩
theorem CurR.trans{p:Nat}{a:Option Addr}{n c:Nat}{l:List Int}(u v w:World)(h:CurR p a n c l u v)(k:CurR p a n c l v w):CurR p a n c l u w:=⟨grownBy_trans h.1 k.1,fun x=>k.2 (h.2 x)⟩
theorem CurR.drew{p:Nat}{a:Option Addr}{n c:Nat}{l:List Int}(w W:World)(h:CurR p a n c l w.drew W):CurR p a n c l w W :=
 ⟨⟨h.1.os,h.1.tape,h.1.output,h.1.size,h.1.block⟩,fun⟨i,x⟩=>h.2 ⟨i,x.drew⟩⟩
theorem CurR.of{p:Nat}{a:Option Addr}{n c:Nat}{l:List Int}{u v:World}{i:Nat}(g:u.grownBy v (some p))(h:IsCur v p a n c l i):CurR p a n c l u v:=⟨g,fun _=>⟨i,h⟩⟩
theorem CurR.grow{p:Nat}{a:Option Addr}{n c:Nat}{l:List Int}{u v:World}(g:Grows u v):CurR p a n c l u v :=
 ⟨⟨g.out.os,g.out.tape,g.out.output,g.out.size,fun k hk _=>g.out.block k hk⟩,fun⟨i,h⟩=>⟨i,h.kept g.out.size (fun k hk=>g.out.block k (Nat.lt_of_le_of_lt hk h.lt.out))⟩⟩
theorem Held.cur{p b:Nat}{a:Option Addr}{n c:Nat}{l:List Int}{u v:World}{cs:List Value}{T:Nat}(h:Held u b cs T)(g:CurR p a n c l u v)(hp:p<b):Held v b cs T:=h.at g.1 (by omega)
theorem Own.cur{α:Type}{enc:α→List Value}{T size B p:Nat}{a a':Option Addr}{n c c':Nat}{l:List Int}{L:List α}{u v:World}(h:Own enc T size B u a' c' L)(g:CurR p a n c l u v)(hp:p<B):Own enc T size B v a' c' L:=h.kept g.1 (fun k hk=>by cases hk;exact .inl hp)
theorem cur_keeps{p B:Nat}{a:Option Addr}{n c:Nat}{l:List Int}{u v:World}(g:CurR p a n c l u v)(hp:p<B):Keeps B u v:=⟨g.1.size,fun k hk h2=>g.1.block k h2 (fun e=>by cases e;omega)⟩
def encReq2:List Request:=[⟨2,5,60,4⟩,⟨9,0,40,5⟩]
def fst2:List Value→Value
 | [.tuple t]=>t.getD 0 undef
 | _=>undef
def snd2:List Value→Value
 | [.tuple t]=>t.getD 1 undef
 | _=>undef
def one1:List Value→Value
 | [v]=>v
 | _=>undef
theorem newM_isNew{light:Int}{d:TDrift}{o:TOrbit}{pl:List Slot}{up down:TChannel}{room:Int}{L:List TLimit}{fs:List ByteArray}(h1:0≤light∧light≤50)(h2:driftOkT d=true)(h3:orbitOkT o=true)(h4:channelOk up=true)(h5:channelOk down=true)(h8:fs.length=8)(h9:∀ s∈fs,s.size≤70)(hok:newOk light d o pl up down room L fs=true):isNew (newM light d o pl up down room L fs):=by
 have hd:driftOk d.Rate d.Offset=true:=h2
 have hb:=bt_zero hd
 rw[driftOk,Bool.and_eq_true]at hd
 have:=inB_iff.1 hd.2
 rw[newOk,Bool.and_eq_true,Bool.and_eq_true]at hok
 refine⟨h1,h2,h3,h4,h5,h8,h9,?_,pl,room,L,rfl,hok.2.2⟩
 show 0≤boardTime d.Rate d.Offset 0∧boardTime d.Rate d.Offset 0≤1000
 rw[hb];exact this
section
variable {p B:Nat} {a:Option Addr} {n c:Nat} {l:List Int}
def entLit(k:Nat)(cs:List Value)(T:Nat):Ent (CurR p a n c l):=.of (fun v w'=>∃ b,v=.slice (some ⟨b,0,none⟩) k k∧p<b∧Held w' b cs T) (fun _ _ _ g h=>h.elim fun b q=>⟨b,q.1,q.2.1,q.2.2.cur g q.2.1⟩)
def entBoxC(hp:p<B)(cs:List Value)(T:Nat):Ent (CurR p a n c l):=.of (fun v w'=>∃ b,v=.pointer (some ⟨b,0,none⟩)∧B≤b∧Held w' b cs T) (fun _ _ _ g h=>h.elim fun b q=>⟨b,q.1,q.2.1,q.2.2.cur g (Nat.lt_of_lt_of_le hp q.2.1)⟩)
def isCh(v:Value):Prop:=∃ s b l',v=.agg #[.int .i64 s,.int .i64 b,.int .i64 l']∧(0≤s∧s≤65535)∧(0≤b∧b≤100)∧(0≤l'∧l'≤100)
def isLims(B:Nat)(v:Value)(w':World):Prop:=∃ (L:List TLimit) (la:Option Addr) (q lc:Nat),v=.slice la q lc∧L.length=q∧q≤2∧drawnLims L∧Own encTLimit 288 3 B w' la lc L
def entLims(hp:p<B):Ent (CurR p a n c l):=.of (isLims B) (fun _ _ _ g h=>by
 obtain⟨L,la,q,lc,e,h1,h2,h3,h4⟩:=h
 exact⟨L,la,q,lc,e,h1,h2,h3,h4.cur g hp⟩)
def isNewV(B:Nat)(v:Value)(w':World):Prop:=∃ (vs:List Value) (m:TMission) (χ:Nat→Col),v=.tuple #[.agg vs.toArray,.bool true]∧isNew m∧EncO.O B χ 0 w' vs m
def entNew(hp:p<B):Ent (CurR p a n c l):=.of (isNewV B) (fun _ _ _ g h=>by
 obtain⟨vs,m,χ,e,h1,h2⟩:=h
 exact⟨vs,m,χ,e,h1,om_keep h2 (cur_keeps g hp)⟩)
end
theorem drawn_ok{light:Int}{d:TDrift}{o:TOrbit}{up down:TChannel}{room:Int}{L:List TLimit}{fs:List ByteArray}(h1:0≤light∧light≤50)(h2:driftOkT d=true)(h3:orbitOkT o=true)(h4:channelOk up=true)(h5:channelOk down=true)(h6:room∈[22,66,400])(h7:L.length≤2)(h7':drawnLims L)(h8:fs.length=8)(h9:∀ s∈fs,s.size≤70) :
  newOk light d o (planAll o.Period o.Start o.Length encReq2) up down room L fs=true:=by
 have hr:inB room 0 4000=true:=by simp at h6;rcases h6 with rfl|rfl|rfl<;>rfl
 have hL:L.all limitOk=true:=List.all_eq_true.2 fun x hx=>by
  obtain⟨a,b,c⟩:=h7' x hx
  simp[limitOk,inB];omega
 have hb:=newB_ok hr (show L.length≤8 by omega) hL
 have hp:=plan2_len (p:=o.Period) (s:=o.Start) (l:=o.Length)
 rw[newOk,hb,h8,newM_ok (inB_iff.2 h1) h2 h3 h4 h5 (show(planAll o.Period o.Start o.Length encReq2).length≤1500 from Nat.le_trans hp (by omega)) hb h8 (fun s hs=>Nat.le_trans (h9 s hs) (by omega))]
 rfl
theorem lims_ok{L:List TLimit}(h:drawnLims L):∀ x∈L,okDTLimit x:=fun x hx=>by
 obtain⟨a,b,c⟩:=h x hx
 exact⟨by unfold i64;omega,by unfold i64;omega,by unfold i64;omega,trivial⟩
theorem drift_okD{r o:Int}(h:driftOk r o=true):okDTDrift ⟨r,o⟩:=by
 rw[driftOk,Bool.and_eq_true]at h
 have h1:=inB_iff.1 h.1;have h2:=inB_iff.1 h.2
 exact⟨by show i64 r;unfold i64;omega,by show i64 o;unfold i64;omega,trivial⟩
theorem orbit_okD{p s l:Int}(h:orbitOk p s l=true):okDTOrbit ⟨p,s,l⟩:=by
 have h1:=orbitOk_iff.1 h
 exact⟨by show i64 p;unfold i64;omega,by show i64 s;unfold i64;omega,by show i64 l;unfold i64;omega,trivial⟩
theorem ch_okD{s b l:Int}(h1:0≤s∧s≤65535)(h2:0≤b∧b≤100)(h3:0≤l∧l≤100):okDTChannel ⟨s,b,l⟩ :=
 ⟨by show i64 s;unfold i64;omega,by show i64 b;unfold i64;omega,by show i64 l;unfold i64;omega,trivial⟩
theorem room_i64{x:Int}(h:x∈[22,66,400]):i64 x:=by simp at h;unfold i64;omega
theorem req2_ok:∀ r∈encReq2,i64 r.Id∧i64 r.Ready∧i64 r.Deadline:=fun r hr=>by
 simp only[encReq2,List.mem_cons,List.not_mem_nil,or_false]at hr
 rcases hr with rfl|rfl<;>(unfold i64;simp only;omega)
theorem new_small{light:Int}{d:TDrift}{o:TOrbit}{up down:TChannel}{room:Int}{L:List TLimit}{fs:List ByteArray}(h8:fs.length=8)(h9:∀ s∈fs,s.size≤70)(hL:L.length≤2):Enc.tot (newM light d o (planAll o.Period o.Start o.Length encReq2) up down room L fs)≤100000000:=by
 have h1:=plan2_len (p:=o.Period) (s:=o.Start) (l:=o.Length)
 have h2:=totL_small h9
 have h3:(planAll o.Period o.Start o.Length encReq2).length≤9:=h1
 rw[newM_tot,h8]
 rw[h8]at h2
 omega
theorem OwnC.wr{α:Type}[E:Flat α]{B T':Nat}{χ:Nat→Col}{i:Col}{w w':World}{a:Option Addr}{c:Nat}{l:List α}(h:OwnC B χ i w a c l)(g:Wr T' w w')(hT:E.ty≠T'):OwnC B χ i w' a c l:=⟨h.own.wr g hT,h.col,h.good⟩
theorem om_wr{B o:Nat}{χ:Nat→Col}{w w':World}{vs:List Value}{m:TMission}(h:EncO.O B χ o w vs m)(g:Wr 90 w w'):EncO.O B χ o w' vs m:=by
 obtain⟨A,e,h⟩:=h
 refine⟨A,e,⟨h.o0.wr g (by decide),h.o1.wr g (by decide),h.o2.wr g (by decide),h.o3.wr g (by decide),h.o4.wr g (by decide),h.o5.wr g (by decide),h.o6.wr g (by decide),h.o7.elim fun r hr=>⟨r,hr.1,hr.2.wr g (by decide) (by decide)⟩,h.o8.wr g (by decide),h.o9.wr g (by decide),h.o10.wr g (by decide),h.o11.wr g (by decide),h.o12.wr g (by decide),h.o13.wr g (by decide),h.o14.wr g (by decide),h.o15.wr g (by decide),h.o16.wr g (by decide),h.o17.wr g (by decide),h.o18.elim fun r hr=>⟨r,hr.1,hr.2.wr g (by decide) (by decide)⟩,h.o19.wr g (by decide),h.o20.wr g (by decide),h.o21.wr g (by decide),h.ok⟩⟩
theorem grows_nil(w:World):Grows { w with heap:=#[] } w:=⟨⟨rfl,rfl,rfl,Nat.zero_le _,fun k hk=>absurd hk (Nat.not_lt_zero k)⟩⟩
theorem But.gb{b:Nat}{w:World}{z:Later { w with heap:=#[] }}(h:But b w z.w):w.grownBy z.w (some b):=⟨z.h.os,z.h.tape,z.h.output,h.size,fun k hk hr=>h.block k (fun e=>hr (by rw[e])) hk⟩
theorem ch_ok{s b l:Int}(h1:0≤s∧s≤65535)(h2:0≤b∧b≤100)(h3:0≤l∧l≤100):channelOk ⟨s,b,l⟩=true:=by simp[channelOk,inB];omega
theorem small_i64{x:Int}(h:-1000000≤x∧x≤1000000):i64 x:=by unfold i64;omega
set_option maxRecDepth 100000 in
set_option maxHeartbeats 1500000 in
theorem c_sl09New{w:World}{p:Nat}{a:Option Addr}{n c:Nat}{l:List Int}{i:Nat}(hc:IsCur w p a n c l i) :
  Calls Tryz.prog 79 #[.pointer (some ⟨p,0,none⟩)] w fun e w'=>∃ (vs:List Value) (m:TMission) (χ:Nat→Col),e=.returned (.agg vs.toArray)∧isNew m∧EncO.O w.heap.size χ 0 w' vs m∧w.grownBy w' (some p)∧∃ i',IsCur w' p a n c l i':=by
 have HC:=lH hc;clear hc
 have hp:=HC.out.lt.out
 go_enter Tryz.func79,Tryz.ntmps79
 go_wp2_with (first|((with_reducible refine wp_region_later (by kernel_rfl) (by kernel_rfl) ?_);(repeat(first|go_big_quiet_step (first|fail)));refine wpQuiet_nil ?_;rintro _ ⟨x,rfl⟩))
 go_loopw [3,4] (fun u v wr=>∃ (k:Nat) (fs:List ByteArray) (sa:Option Addr) (sc:Nat),u=.slice sa k sc∧v=.int .i64 k∧fs.length=k∧k≤8∧Hid (Own encStr 9 1 w.heap.size wr sa sc fs)∧Hid (∀ s∈fs,s.size≤70)∧Hid (w.grownBy wr (some p))∧Hid (Held wr w.heap.size nmZ 90)∧∃ i',Hid (IsCur wr p a n c l i')) (fun _ v _=>(8 - intOf v).toNat)
 case atStart=>exact⟨0,[],_,_,rfl,rfl,rfl,by omega,Own.emptyAt encStr_len (by simp) (by simp),(fun s hs=>by cases hs),grownBy_new (grownBy_new (grownBy_refl w (some p)) _) _,Held.to (Held.new w nmZ 90 _ rfl) inferInstance,i,(HC.out.alloc _).alloc _⟩
 case round =>
  obtain⟨k,fs,sa,sc,rfl,rfl,hk,hk8,hO,hS,hG,hR,i2,hC⟩:=hrel
  by_cases h:k<8
  ·go_wp2_with (first|((with_reducible refine wp_region_later (by kernel_rfl) (by kernel_rfl) ?_);(repeat(first|go_big_quiet_step (first|fail)));refine wpQuiet_nil ?_;rintro _ ⟨x,rfl⟩))
   refine(c_sl01PickInt (xs:=[0,5,24,40,70]) (hC.out.alloc _) (Sl.litB (by simp) encInt_len rfl) rfl (by decide) (by decide) ?_).mono ?_
   ·intro b off h;cases h;have:=hC.out.lt.out;omega
   rintro _ w2 ⟨v,rfl,hv,hg2,i3,hc2⟩
   obtain⟨m,rfl,hm⟩:∃ m:Nat,v=m∧m≤70:=⟨v.toNat,by simp at hv;omega,by simp at hv;omega⟩
   go_wp2_with (first|((with_reducible refine wp_region_later (by kernel_rfl) (by kernel_rfl) ?_);(repeat(first|go_big_quiet_step (first|fail)));refine wpQuiet_nil ?_;rintro _ ⟨x,rfl⟩))
   refine(c_sl01Bytes hc2 (by omega)).mono ?_
   rintro _ w3 ⟨s,rfl,hs,hg3,i4,hc3⟩
   have g3:=grownBy_trans hg2 hg3
   have O3:=lH (((hO.out.to inferInstance).kept g3 (fun k hk=>by cases hk;exact .inl hp)))
   have G3:=lH (grownBy_trans (grownBy_new hG.out _) g3)
   have R3:=lH ((hR.out.to inferInstance).at g3 (by omega));have C3:=lH hc3
   have hB3:w.heap.size≤w3.heap.size:=G3.out.size
   clear hO hG hR hC hg2 hg3 hc2 hc3 g3
   go_wp2_with (first|((with_reducible refine wp_region_later (by kernel_rfl) (by kernel_rfl) ?_);(repeat(first|go_big_quiet_step (first|fail)));refine wpQuiet_nil ?_;rintro _ ⟨x,rfl⟩)|(at_builtin;refine wpList_app1B (enc:=encStr) (B:=w.heap.size) (z:=.string ⟨#[]⟩) (size:=1) (bytes:=16) s rfl (.tmp 16) (.tmp 22) rfl Tryz.underlying30 (by kernel_rfl) rfl (by decide) (by decide) rfl rfl hk O3.out rfl (encStr_one _) (by omega) hB3 ?_;intro sa1 sc1 w6 O6 g6))
   have hlt:=O3.out.lt (n:=k)
   have hpl:=C3.out.lt.out
   go_roundw
   case rel =>
    refine⟨k+1,fs++[s],sa1,sc1,rfl,by go_num,by simp[hk],by omega,O6,lH (fun t ht=>?_),?_,?_,i4,?_⟩
    ·rcases List.mem_append.1 ht with ht|ht
     ·exact hS.out t ht
     ·rw[List.mem_singleton.1 ht,hs];exact hm
    ·have G:=G3.out
     exact⟨g6.os.trans G.os,g6.tape.trans G.tape,g6.output.trans G.output,Nat.le_trans G.size g6.size,fun j hj hr=>(g6.block j (by omega) (fun e=>by have:=(hlt j e.symm).1;omega)).trans (G.block j hj hr)⟩
    ·exact R3.out.wr (Wr.sl O3.out g6) (by decide)
    ·exact C3.out.kept g6.size (fun j hj=>g6.block j (by omega) (fun e=>by have:=(hlt j e.symm).1;omega))
   case measure=>simp[intOf];omega
  ·obtain rfl:k=8:=by omega
   have hBr:w.heap.size≤wr.heap.size:=hG.out.size
   go_wp2_with (first|((with_reducible refine wp_region_later (by kernel_rfl) (by kernel_rfl) ?_);(repeat(first|go_big_quiet_step (first|fail)));refine wpQuiet_nil ?_;rintro _ ⟨x,rfl⟩))
   refine(c_sl01PickInt (xs:=[0,1,3,7]) (hC.out.alloc _) (Sl.litB (by simp) encInt_len rfl) rfl (by decide) (by decide) ?_).mono ?_
   ·intro b off h;cases h;have:=hC.out.lt.out;omega
   rintro _ w4 ⟨light,rfl,hl4,hg4,i4,hc4⟩
   have hl4':0≤light∧light≤50:=by simp at hl4;omega
   have O4:=lH (((hO.out.to inferInstance).kept hg4 (fun k hk=>by cases hk;exact .inl hp)))
   have G4:=lH (grownBy_trans (grownBy_new hG.out _) hg4)
   have R4:=lH ((hR.out.to inferInstance).at hg4 (by omega));have C4:=lH hc4
   clear hO hG hR hC hg4 hc4 hl4
   go_wp2_with (first|((with_reducible refine wp_region_later (by kernel_rfl) (by kernel_rfl) ?_);(repeat(first|go_big_quiet_step (first|fail)));refine wpQuiet_nil ?_;rintro _ ⟨x,rfl⟩))
   refine(c_sl07Drift C4.out).mono ?_
   rintro _ w5 ⟨r,o,rfl,hr5,ho5,hg5,i5,hc5⟩
   have hd5:=lH (show driftOk r o=true by simp at hr5 ho5;rcases hr5 with rfl|rfl|rfl|rfl|rfl|rfl|rfl<;>rcases ho5 with rfl|rfl|rfl<;>rfl)
   have O5:=lH (O4.out.kept hg5 (fun k hk=>by cases hk;exact .inl hp))
   have G5:=lH (grownBy_trans G4.out hg5)
   have R5:=lH (R4.out.at hg5 (by omega));have C5:=lH hc5
   have hB5:w.heap.size≤w5.heap.size:=G5.out.size
   clear O4 G4 R4 C4 hg5 hc5 hr5 ho5
   have D5:=lH (Held.new w5 [.int .i64 r,.int .i64 o] 62 w5.heap.size rfl)
   go_wp2_with (first|((with_reducible refine wp_region_later (by kernel_rfl) (by kernel_rfl) ?_);(repeat(first|go_big_quiet_step (first|fail)));refine wpQuiet_nil ?_;rintro _ ⟨x,rfl⟩))
   refine(c_sl08Orbit (C5.out.alloc _)).mono ?_
   rintro _ w6 ⟨pp,ss,ll,rfl,hp6,hs6,hll6,hg6,i6,hc6⟩
   have ho6:=lH (show orbitOk pp ss ll=true from orbitOk_iff.2 (by simp at hp6;omega))
   have O6:=lH ((O5.out.to inferInstance).kept hg6 (fun k hk=>by cases hk;exact .inl hp))
   have G6:=lH (grownBy_trans (grownBy_new G5.out _) hg6)
   have R6:=lH ((R5.out.to inferInstance).at hg6 (by omega));have C6:=lH hc6
   have D6:=lH (D5.out.at hg6 (by omega))
   have hB6:w.heap.size≤w6.heap.size:=G6.out.size
   clear O5 G5 R5 C5 D5 hg6 hc6 hp6 hs6 hll6
   have E6:=lH (Held.new w6 [.int .i64 pp,.int .i64 ss,.int .i64 ll] 63 w6.heap.size rfl)
   go_wp2_with (first|((with_reducible refine wp_region_later (by kernel_rfl) (by kernel_rfl) ?_);(repeat(first|go_big_quiet_step (first|fail)));refine wpQuiet_nil ?_;rintro _ ⟨x,rfl⟩))
   obtain⟨W0,hW0⟩:∃ W0:World,((w6.alloc (.cells #[.int .i64 pp,.int .i64 ss,.int .i64 ll] 63)).alloc (.cells #[.int .i64 2,.int .i64 5,.int .i64 60,.int .i64 4,.int .i64 9,.int .i64 0,.int .i64 40,.int .i64 5] 259))=W0:=⟨_,rfl⟩
   have D7:Hid (Held W0 w5.heap.size [.int .i64 r,.int .i64 o] 62):=hW0▸D6.out.to (inferInstance:Grows _ ((w6.alloc (.cells #[.int .i64 pp,.int .i64 ss,.int .i64 ll] 63)).alloc (.cells #[.int .i64 2,.int .i64 5,.int .i64 60,.int .i64 4,.int .i64 9,.int .i64 0,.int .i64 40,.int .i64 5] 259)))
   have E7:Hid (Held W0 w6.heap.size [.int .i64 pp,.int .i64 ss,.int .i64 ll] 63):=hW0▸E6.out.to (inferInstance:Grows _ ((w6.alloc (.cells #[.int .i64 pp,.int .i64 ss,.int .i64 ll] 63)).alloc (.cells #[.int .i64 2,.int .i64 5,.int .i64 60,.int .i64 4,.int .i64 9,.int .i64 0,.int .i64 40,.int .i64 5] 259)))
   have O7:Hid (Own encStr 9 1 w.heap.size W0 sa sc fs):=hW0▸O6.out.to (inferInstance:Grows _ ((w6.alloc (.cells #[.int .i64 pp,.int .i64 ss,.int .i64 ll] 63)).alloc (.cells #[.int .i64 2,.int .i64 5,.int .i64 60,.int .i64 4,.int .i64 9,.int .i64 0,.int .i64 40,.int .i64 5] 259)))
   have R7:Hid (Held W0 w.heap.size nmZ 90):=hW0▸R6.out.to (inferInstance:Grows _ ((w6.alloc (.cells #[.int .i64 pp,.int .i64 ss,.int .i64 ll] 63)).alloc (.cells #[.int .i64 2,.int .i64 5,.int .i64 60,.int .i64 4,.int .i64 9,.int .i64 0,.int .i64 40,.int .i64 5] 259)))
   have C7:Hid (IsCur W0 p a n c l i6):=hW0▸(C6.out.alloc _).alloc _
   have G7:Hid (w.grownBy W0 (some p)):=hW0▸grownBy_new (grownBy_new G6.out _) _
   have Q7:Hid (Held W0 (w6.heap.size+1) [.int .i64 2,.int .i64 5,.int .i64 60,.int .i64 4,.int .i64 9,.int .i64 0,.int .i64 40,.int .i64 5] 259):=hW0▸Held.new _ [.int .i64 2,.int .i64 5,.int .i64 60,.int .i64 4,.int .i64 9,.int .i64 0,.int .i64 40,.int .i64 5] _ _ (by simp)
   have hp1:p<w.heap.size+1:=by omega
   have hp5:p<w5.heap.size:=Nat.lt_of_lt_of_le hp hB5
   have hp6:p<w6.heap.size:=Nat.lt_of_lt_of_le hp hB6
   have hq6:p<w6.heap.size+1:=by omega
   rw[hW0]
   clear D6 E6 O6 R6 C6 G6 hW0
   refine wp_region_stabR (R:=CurR p a n c l) (by kernel_rfl) CurR.refl CurR.trans CurR.drew (T:=[19,20]) (Zs:=[(17,[5,7,9,10,12,14])]) (H:=[(1,[]),(2,[]),(5,[]),(7,[5]),(9,[]),(10,[5,7,9]),(12,[5,7,9,10]),(14,[5,7,9,10,12]),(15,[5,7,9,10,12,14]),(16,[5,7,9,10,12,14]),(17,[5,7,9,10,12,14]),(18,[])]) (C:=[5,7,9,10,12,14,18]) (Fs:=[(some 35,.v (.int .i64 light)),(some 36,.v (.agg #[.int .i64 r,.int .i64 o])),(some 37,.v (.agg #[.int .i64 pp,.int .i64 ss,.int .i64 ll])),(some 38,.v (.slice (some ⟨w6.heap.size+1,0,none⟩) 2 2)),(some 39,.v (.pointer (some ⟨p,0,none⟩))),(some 40,(.is isCh)),(some 41,.v (.pointer (some ⟨p,0,none⟩))),(some 42,(.is isCh)),(some 43,.v (.pointer (some ⟨p,0,none⟩))),(some 44,entLit 3 [.int .i64 22,.int .i64 66,.int .i64 400] 3),(some 45,.is (fun v=>∃ x,v=.int .i64 x∧x∈[22,66,400])),(some 46,.v (.pointer (some ⟨p,0,none⟩))),(some 47,entLims hp),(some 48,.v (.slice sa 8 sc)),(some 49,entNew hp),(some 34,.fn [14] one1),(some 50,.fn [14] fst2),(some 51,.fn [14] snd2),(some 9,entBoxC hp1 nmZ 90),(none,.v undef),(none,.v undef)]) (by kernel_rfl) (fun val W=>by kernel_rfl) ?ob ?lz ?pn ?tl9
   case ob =>
    refine⟨fun W hW=>?_,fun W hW=>?_,fun W hW=>?_,fun W hW=>?_,fun W hW=>?_,fun W hW=>?_,fun W hW=>?_,fun W hW=>?_,fun W hW=>?_,fun W hW=>?_,fun W hW=>?_,fun W hW=>?_,trivial⟩
    ·exact g_load (by kernel_rfl) (run_loadHeld (o:=0) (row:=[.int .i64 r,.int .i64 o]) (D7.out.cur hW hp5) _ Tryz.underlying62 rfl (by kernel_rfl) rfl) ⟨CurR.refl _,rfl⟩
    ·exact g_load (by kernel_rfl) (run_loadHeld (o:=0) (row:=[.int .i64 pp,.int .i64 ss,.int .i64 ll]) (E7.out.cur hW hp6) _ Tryz.underlying63 rfl (by kernel_rfl) rfl) ⟨CurR.refl _,rfl⟩
    ·obtain⟨i8,c8⟩:=hW.2 ⟨i6,C7.out⟩
     refine g_call (f:=202) (args:=[.pointer (some ⟨p,0,none⟩)]) Tryz.func202 (by kernel_rfl) (by kernel_rfl) ((c_sl02Channel c8).mono ?_)
     rintro _ w' ⟨s,b,l',rfl,h1,h2,h3,hg,i9,c9⟩
     exact⟨_,rfl,CurR.of hg c9,s,b,l',rfl,h1,h2,h3⟩
    ·rintro _ -
     obtain⟨i8,c8⟩:=hW.2 ⟨i6,C7.out⟩
     refine g_call (f:=202) (args:=[.pointer (some ⟨p,0,none⟩)]) Tryz.func202 (by kernel_rfl) (by kernel_rfl) ((c_sl02Channel c8).mono ?_)
     rintro _ w' ⟨s,b,l',rfl,h1,h2,h3,hg,i9,c9⟩
     exact⟨_,rfl,CurR.of hg c9,s,b,l',rfl,h1,h2,h3⟩
    ·obtain⟨i8,c8⟩:=hW.2 ⟨i6,C7.out⟩
     exact gives_run (v:=.slice (some ⟨W.heap.size,0,none⟩) 3 3) (w':=W.alloc (.cells #[.int .i64 22,.int .i64 66,.int .i64 400] 3)) (by kernel_rfl) ⟨CurR.grow inferInstance,W.heap.size,rfl,c8.lt.out,Held.new _ [.int .i64 22,.int .i64 66,.int .i64 400] _ _ rfl⟩
    ·rintro _ - _ - _ ⟨b9,rfl,hb9,hh9⟩
     obtain⟨i8,c8⟩:=hW.2 ⟨i6,C7.out⟩
     refine g_call (f:=198) (args:=[.pointer (some ⟨p,0,none⟩),.slice (some ⟨b9,0,none⟩) 3 3]) Tryz.func198 (by kernel_rfl) (by kernel_rfl) ((c_sl01PickInt (xs:=[22,66,400]) c8 (Own.ofBlk (l:=[22,66,400]) (B:=0) encInt_len rfl (by decide) (Nat.zero_le _) (by rfl) (by kernel_rfl) hh9).sl rfl (by decide) (by decide) (fun b off e=>by cases e;omega)).mono ?_)
     rintro _ w' ⟨x,rfl,hx,hg,i9,c9⟩
     exact⟨_,rfl,CurR.of hg c9,x,rfl,hx⟩
    ·rintro _ - _ - _ - _ -
     obtain⟨i8,c8⟩:=hW.2 ⟨i6,C7.out⟩
     refine g_call (f:=203) (args:=[.pointer (some ⟨p,0,none⟩)]) Tryz.func203 (by kernel_rfl) (by kernel_rfl) ((c_sl05Limits c8).mono ?_)
     rintro _ w' ⟨L,la,q,lc,rfl,h1,h2,h3,h4,hg,i9,c9⟩
     exact⟨_,rfl,CurR.of hg c9,L,la,q,lc,rfl,h1,h2,h3,h4.mono (Nat.le_trans G7.out.size hW.1.size)⟩
    ·rintro _ ⟨s1,b1,l1,rfl,ha1,ha2,ha3⟩ _ ⟨s2,b2,l2,rfl,hb1,hb2,hb3⟩ _ - _ ⟨room,rfl,hroom⟩ _ ⟨L,la,q,lc,rfl,hL1,hL2,hL3,hL4⟩
     obtain⟨i8,c8⟩:=hW.2 ⟨i6,C7.out⟩
     have hnk:=drawn_ok (d:=⟨r,o⟩) (o:=⟨pp,ss,ll⟩) hl4' hd5.out ho6.out (ch_ok ha1 ha2 ha3) (ch_ok hb1 hb2 hb3) hroom (by omega) hL3 hk hS.out
     refine g_call (f:=201) (args:=[.int .i64 light,.agg #[.int .i64 r,.int .i64 o],.agg #[.int .i64 pp,.int .i64 ss,.int .i64 ll],.slice (some ⟨w6.heap.size+1,0,none⟩) 2 2,.agg #[.int .i64 s1,.int .i64 b1,.int .i64 l1],.agg #[.int .i64 s2,.int .i64 b2,.int .i64 l2],.int .i64 room,.slice la q lc,.slice sa 8 sc]) Tryz.func201 (by kernel_rfl) (by kernel_rfl) ((o_sNewMission (d:=⟨r,o⟩) (o:=⟨pp,ss,ll⟩) (up:=⟨s1,b1,l1⟩) (down:=⟨s2,b2,l2⟩) (Q:=encReq2) (L:=L) (fs:=fs) (qn:=2) (fn:=8) (Own.ofBlk (l:=encReq2) (B:=0) encRequest_len rfl (by decide) (Nat.zero_le _) (by rfl) (by kernel_rfl) (Q7.out.cur hW hq6)).sl rfl (Nat.le_refl _) (by decide) (rd_limits hL4 (fun x hx=>lims_ok hL3 x hx)) hL1 (by omega) ((O7.out.cur hW hp).rdS rfl (fun x hx=>⟨rfl,Nat.le_trans (hS.out x hx) (by omega)⟩)) hk (by decide) (newM_okD (small_i64 (by omega)) (drift_okD hd5.out) (orbit_okD ho6.out) (ch_okD ha1 ha2 ha3) (ch_okD hb1 hb2 hb3) (room_i64 hroom)) (plan_okD req2_ok) (Nat.le_trans plan2_len (by decide)) (new_small hk hS.out (by omega))).mono ?_)
     rintro _ _ ⟨vs,χ,rfl,hE,y,rfl⟩
     rw[newMission,if_pos hnk]at hE
     exact⟨_,rfl,CurR.grow inferInstance,vs,newM light ⟨r,o⟩ ⟨pp,ss,ll⟩ (planAll pp ss ll encReq2) ⟨s1,b1,l1⟩ ⟨s2,b2,l2⟩ room L fs,χ,by rw[hnk],newM_isNew hl4' hd5.out ho6.out (ch_ok ha1 ha2 ha3) (ch_ok hb1 hb2 hb3) hk hS.out hnk,om_mono hE (Nat.le_trans G7.out.size hW.1.size)⟩
    ·refine chain1 fun v5 q5=>chain1 fun v7 q7=>chain1 fun v9 q9=>chain1 fun v10 q10=>chain1 fun v12 q12=>chain1 fun v14 q14=>chain0 ?_
     obtain⟨vs,m,χ,rfl,q⟩:=(show isNewV w.heap.size v14 W from q14)
     clear q q5 q7 q9 q10 q12
     refine g_fnR (k:=15) CurR.refl ?_ ?_<;>kernel_rfl
    ·refine chain1 fun v5 q5=>chain1 fun v7 q7=>chain1 fun v9 q9=>chain1 fun v10 q10=>chain1 fun v12 q12=>chain1 fun v14 q14=>chain0 ?_
     obtain⟨vs,m,χ,rfl,q⟩:=(show isNewV w.heap.size v14 W from q14)
     clear q q5 q7 q9 q10 q12
     refine g_fnR (k:=16) CurR.refl ?_ ?_<;>kernel_rfl
    ·refine chain1 fun v5 q5=>chain1 fun v7 q7=>chain1 fun v9 q9=>chain1 fun v10 q10=>chain1 fun v12 q12=>chain1 fun v14 q14=>chain0 ?_
     obtain⟨vs,m,χ,rfl,q⟩:=(show isNewV w.heap.size v14 W from q14)
     clear q q5 q7 q9 q10 q12
     refine g_fnR (k:=17) CurR.refl ?_ ?_<;>kernel_rfl
    ·exact gives_run (v:=.pointer (some ⟨W.heap.size,0,none⟩)) (w':=W.alloc (.cells nmZ.toArray 90)) (by kernel_rfl) ⟨CurR.grow inferInstance,W.heap.size,rfl,Nat.le_trans (Nat.succ_le_of_lt R7.out.lt) hW.1.size,Held.new _ nmZ _ _ rfl⟩
   case pn=>exact fun _ _ _ _ _ _ h=>h
   case lz =>
    refine⟨fun W hW=>?_,trivial⟩
    refine chain1 fun v5 q5=>chain1 fun v7 q7=>chain1 fun v9 q9=>chain1 fun v10 q10=>chain1 fun v12 q12=>chain1 fun v14 q14=>chain0 ?_
    obtain⟨vs,m,χ,rfl,q⟩:=(show isNewV w.heap.size v14 W from q14)
    clear q q5 q7 q9 q10 q12
    intro W'
    kernel_rfl
   case tl9 =>
    intro W hW
    refine chain1 fun v5 q5=>chain1 fun v7 q7=>chain1 fun v9 q9=>chain1 fun v10 q10=>chain1 fun v12 q12=>chain1 fun v14 q14=>chain1 fun v18 q18=>?_
    obtain⟨vs,m,χ,rfl,hv3,hv4⟩:=(show isNewV w.heap.size v14 W from q14)
    obtain⟨bm,rfl,hbm,hBm⟩:=(show ∃ b,v18=.pointer (some ⟨b,0,none⟩)∧w.heap.size+1≤b∧Held W b nmZ 90 from q18)
    clear q5 q7 q9 q10 q12 q14 q18
    have HV1:=lH (len_mission (EncO.toRd hv4));have HV2:=lH (one_mission (EncO.toRd hv4));have HV4:=lH hv4
    have RW:=lH (R7.out.cur hW hp)
    have HBm:=lH hBm;clear hBm
    have hne:w.heap.size≠bm:=by omega
    clear hv4
    refine tail2 rfl rfl ?_
    simp only[put_nrm,put_nrm2,List.map,one1,fst2,snd2]
    simp only[Act.put,List.setIfInBounds_toArray,List.set_cons_succ,List.set_cons_zero]
    go_wp2_with (first|((with_reducible refine wp_region_later (by kernel_rfl) (by kernel_rfl) ?_);(repeat(first|go_big_quiet_step (first|fail)));refine wpQuiet_nil ?_;rintro _ ⟨x,rfl⟩)|(refine stepStore2 rfl _ _ _ rfl (bm) 0 rfl (us:=vs) (cs2:=vs) (HBm.out) ?ca1 ?ca2 ?ca3 ?ca4 ?ca5 (w0:={ W with heap:=#[] }) (grows_nil _) (Nat.zero_le _) ?_;(case ca1=>kernel_rfl);(case ca2=>(rw[HV1.out];kernel_rfl));(case ca3=>exact HV2.out);(case ca4=>(rw[HV1.out];exact Nat.le_of_ble_eq_true rfl));(case ca5=>exact splice_all HV1.out);intro z1 hx kx;have g1:=kx.gb;(have HX1:=lH hx);(have HG1:=lH g1);clear hx kx g1)|(refine stepLoad rfl _ _ rfl bm 0 rfl (row:=vs) HX1.out _ Tryz.underlying90 rfl (by rw[HV1.out];kernel_rfl) (by rw[List.drop_zero,List.take_length]) ?_)|(refine stepStore2 rfl _ _ _ rfl (w.heap.size) 0 rfl (us:=vs) (cs2:=vs) (RW.out.at HG1.out hne) ?cb1 ?cb2 ?cb3 ?cb4 ?cb5 (w0:={ z1.w with heap:=#[] }) (grows_nil _) (Nat.zero_le _) ?_;(case cb1=>rfl);(case cb2=>(rw[HV1.out];kernel_rfl));(case cb3=>exact HV2.out);(case cb4=>(rw[HV1.out];exact Nat.le_of_ble_eq_true rfl));(case cb5=>exact splice_all HV1.out);intro z2 hx kx;have g2:=kx.gb;(have HX2:=lH hx);(have HG2:=lH g2);clear hx kx g2))
    have R1:=RW.out.at HG1.out hne
    have fA:=om_wr (om_wr HV4.out (Wr.box HBm.out HG1.out)) (Wr.box R1 HG2.out)
    have fB:w.grownBy z2.w (some p):=by
     have k0:=grownBy_trans G7.out hW.1
     exact⟨HG2.out.os.trans (HG1.out.os.trans k0.os),HG2.out.tape.trans (HG1.out.tape.trans k0.tape),HG2.out.output.trans (HG1.out.output.trans k0.output),Nat.le_trans k0.size (Nat.le_trans HG1.out.size HG2.out.size),fun k hk hr =>
      (HG2.out.block k (Nat.lt_of_lt_of_le hk (Nat.le_trans k0.size HG1.out.size)) (fun e=>by cases e;omega)).trans ((HG1.out.block k (Nat.lt_of_lt_of_le hk k0.size) (fun e=>by cases e;omega)).trans (k0.block k hk hr))⟩
    have fC:∃ i',IsCur z2.w p a n c l i':=by
     obtain⟨i8,c8⟩:=hW.2 ⟨i6,C7.out⟩
     have k0:=grownBy_trans G7.out hW.1
     exact⟨i8,c8.kept (Nat.le_trans HG1.out.size HG2.out.size) (fun k hk=>(HG2.out.block k (by have:=HG1.out.size;have:=k0.size;omega) (fun e=>by cases e;omega)).trans (HG1.out.block k (by have:=k0.size;omega) (fun e=>by cases e;omega)))⟩
    refine bodyPost_ret (v:=.agg vs.toArray) (results_cell (P:=Tryz.prog) rfl rfl HX2.out _ Tryz.underlying90 rfl (by rw[HV1.out];kernel_rfl)) rfl ?_
    first|exact⟨vs,m,χ,rfl,hv3,fA,fB,fC⟩|exact⟨vs,rfl,m,χ,hv3,fA,fB,fC⟩|exact⟨vs,rfl,m,hv3,⟨χ,fA⟩,fB,fC⟩|exact⟨vs,rfl,⟨m,hv3,χ,fA⟩,fB,fC⟩
abbrev Int4:=Int × Int × Int × Int
def enc4(q:Int4):List Value:=[.int .i64 q.1,.int .i64 q.2.1,.int .i64 q.2.2.1,.int .i64 q.2.2.2]
theorem enc4_len(q:Int4):(enc4 q).length=4:=rfl
theorem enc4_one(q:Int4):∀ u∈enc4 q,u.oneCell'=true:=fun u hu=>by
 simp only[enc4,List.mem_cons,List.not_mem_nil,or_false]at hu
 rcases hu with rfl|rfl|rfl|rfl<;>rfl
theorem om_wrO{B o:Nat}{χ:Nat→Col}{w w':World}{vs:List Value}{m:TMission}(h:EncO.O B χ o w vs m)(g:Wr 104 w w'):EncO.O B χ o w' vs m:=by
 obtain⟨A,e,h⟩:=h
 refine⟨A,e,⟨h.o0.wr g (by decide),h.o1.wr g (by decide),h.o2.wr g (by decide),h.o3.wr g (by decide),h.o4.wr g (by decide),h.o5.wr g (by decide),h.o6.wr g (by decide),h.o7.elim fun r hr=>⟨r,hr.1,hr.2.wr g (by decide) (by decide)⟩,h.o8.wr g (by decide),h.o9.wr g (by decide),h.o10.wr g (by decide),h.o11.wr g (by decide),h.o12.wr g (by decide),h.o13.wr g (by decide),h.o14.wr g (by decide),h.o15.wr g (by decide),h.o16.wr g (by decide),h.o17.wr g (by decide),h.o18.elim fun r hr=>⟨r,hr.1,hr.2.wr g (by decide) (by decide)⟩,h.o19.wr g (by decide),h.o20.wr g (by decide),h.o21.wr g (by decide),h.ok⟩⟩
def isOrd4(v:Value):Prop:=∃ q:Int4,v=.agg (enc4 q).toArray
def isLow(b:Int)(v:Value):Prop:=∃ x:Int,v=.int .i64 x∧0≤x∧x<b
def addC(c:Int):List Value→Value
 | [.int .i64 x]=>.int .i64 (IntKind.i64.wrap (c+x))
 | _=>undef
section
variable {p B:Nat} {a:Option Addr} {n c:Nat} {l:List Int}
def isNew1(B:Nat)(v:Value)(w':World):Prop:=∃ (b:Nat) (q:Int4),v=.slice (some ⟨b,0,none⟩) 1 1∧B≤b∧Held w' b (enc4 q) 104
def entNew1(hp:p<B):Ent (CurR p a n c l):=.of (isNew1 B) (fun _ _ _ g h=>by
 obtain⟨b,q,e,h1,h2⟩:=h
 exact⟨b,q,e,h1,h2.cur g (by omega)⟩)
end
set_option maxRecDepth 100000 in
set_option maxHeartbeats 4000000 in
theorem c_sDrawMissionO{w:World}{a:Option Addr}{n c:Nat}{l:List Int}(hs:Sl encByte w a l)(hn:l.length=n)(hm:n≤1048576)(hby:∀ x∈l,isByte x) :
  Calls Tryz.prog 16 #[.slice a n c] w fun e w'=>∃ (vs:List Value) (m:TMission) (sa:Option Addr) (sc:Nat) (L:List Int4),e=.returned (.tuple #[.agg vs.toArray,.slice sa L.length sc])∧L.length≤100∧Sl enc4 w' sa L∧isNew m∧Enc.Rd w.heap.size w' vs m∧∃ y:Later w,w'=y.w:=by
 have HBY:=lH hby;clear hby
 go_enter Tryz.func16,Tryz.ntmps16
 go_wp2_with (first|((with_reducible refine wp_region_later (by kernel_rfl) (by kernel_rfl) ?_);(repeat(first|go_big_quiet_step (first|fail)));refine wpQuiet_nil ?_;rintro _ ⟨x,rfl⟩))
 refine(c_sl01New (hs.to inferInstance) hn hm HBY.out).mono ?_
 rintro _ _ ⟨p,rfl,hp,⟨x,rfl⟩,hc⟩
 have HC:=lH hc;clear hc
 have hp1:=HC.out.lt.out
 go_wp2_with (first|((with_reducible refine wp_region_later (by kernel_rfl) (by kernel_rfl) ?_);(repeat(first|go_big_quiet_step (first|fail)));refine wpQuiet_nil ?_;rintro _ ⟨x,rfl⟩))
 refine(c_sl09New HC.out).mono ?_
 rintro _ w2 ⟨vs,m,χ,rfl,hnew,hO,hg,i2,hc2⟩
 have hpx:w.heap.size<p:=by simp at hp;omega
 have R2:=lH ((Held.to (Held.new w nmZ 90 _ rfl) (inferInstance:Grows _ x.w)).at hg (by omega))
 have HV1:=lH (len_mission (EncO.toRd hO));have HV2:=lH (one_mission (EncO.toRd hO));have HO:=lH hO;have HG:=lH hg;have HC2:=lH hc2;have HNW:=lH hnew
 have hpB:p<x.w.heap.size:=hp1
 have gx0:w.heap.size≤x.w.heap.size:=(inferInstance:Grows w x.w).out.size
 have hw2:x.w.heap.size≤w2.heap.size:=hg.size
 clear hO hg hc2 HC hnew
 go_wp2_with (first|((with_reducible refine wp_region_later (by kernel_rfl) (by kernel_rfl) ?_);(repeat(first|go_big_quiet_step (first|fail)));refine wpQuiet_nil ?_;rintro _ ⟨x,rfl⟩)|(refine stepStore2 rfl _ _ _ rfl (_) 0 rfl (us:=vs) (cs2:=vs) (Held.new _ nmZ 90 _ rfl) ?ca1 ?ca2 ?ca3 ?ca4 ?ca5 (w0:=w2) inferInstance LeN.out ?_;(case ca1=>rfl);(case ca2=>(rw[HV1.out];kernel_rfl));(case ca3=>exact HV2.out);(case ca4=>(rw[HV1.out];exact Nat.le_of_ble_eq_true rfl));(case ca5=>exact splice_all HV1.out);intro z1 hx kx;(have HX1:=lH hx);(have KX1:=lH kx);clear hx kx))
 have g1:Grows w2 z1.w:=inferInstance
 obtain⟨i3,hc3⟩:=(CurR.grow (p:=p) (a:=a) (n:=n) (c:=c) (l:=l) g1).2 ⟨i2,HC2.out⟩
 refine(c_sl01Below (hc3.alloc _) (by omega) (by omega)).mono ?_
 rintro _ w4 ⟨k0,rfl,hk0,hg4,i4,hc4⟩
 have CR4:=CurR.of hg4 hc4
 have hcell:=lH (show vs[37]?=some (.int .i64 m.Space.Board.Clock)by obtain⟨A,h0,-⟩:=HO.out;rw[h0];rfl)
 obtain⟨ck,hck⟩:∃ ck,m.Space.Board.Clock=ck:=⟨_,rfl⟩
 have hck2:0≤ck∧ck≤1000:=hck▸HNW.out.2.2.2.2.2.2.2.1
 rw[hck]at hcell
 have X4:=lH ((Held.to HX1.out (inferInstance:Grows _ (z1.w.alloc (.cells #[] 104)))).cur CR4 (by omega))
 have R4:=lH ((Held.to R2.out (inferInstance:Grows _ (z1.w.alloc (.cells #[] 104)))).at hg4 (by omega))
 have O4:=lH (om_keep (om_to HO.out (inferInstance:Grows _ (z1.w.alloc (.cells #[] 104)))) (cur_keeps CR4 hpB))
 have L4:=lH (Own.cur (Own.emptyAt (B:=x.w.heap.size) (T:=104) (W:=z1.w) enc4_len (Nat.le_trans hw2 g1.out.size) rfl) CR4 hpB)
 have G4:=lH (grownBy_trans (grownBy_trans HG.out (CurR.grow (p:=p) (a:=a) (n:=n) (c:=c) (l:=l) (inferInstance:Grows w2 (z1.w.alloc (.cells #[] 104)))).1) hg4)
 have C4:=lH hc4
 obtain⟨bm,hbm⟩:∃ bm,w2.heap.size=bm:=⟨_,rfl⟩
 have hbp:p<bm:=by omega
 rw[hbm]at X4 ⊢
 clear HX1 R2 HO HC2 HG KX1 hc3 hg4 hc4 CR4 hck
 go_wp2_with (first|((with_reducible refine wp_region_later (by kernel_rfl) (by kernel_rfl) ?_);(repeat(first|go_big_quiet_step (first|fail)));refine wpQuiet_nil ?_;rintro _ ⟨x,rfl⟩))
 go_loopw [6,7] (fun u v wr=>∃ (k:Nat) (q:Nat) (L:List Int4) (sa:Option Addr) (sc:Nat),u=.slice sa q sc∧v=.int .i64 k∧L.length=q∧k+q≤100∧Hid (Own enc4 104 4 x.w.heap.size wr sa sc L)∧Hid (EncO.O x.w.heap.size χ 0 wr vs m)∧Hid (Held wr bm vs 90)∧Hid (Held wr w.heap.size nmZ 90)∧Hid (x.w.grownBy wr (some p))∧∃ i',Hid (IsCur wr p a n c l i')) (fun _ v _=>(intOf v).toNat)
 case atStart=>exact⟨k0.toNat,0,[],_,_,rfl,by rw[Int.toNat_of_nonneg hk0.1],rfl,by omega,L4,O4,X4,R4,G4,i4,C4⟩
 case round =>
  obtain⟨k,q,L,sa,sc,rfl,rfl,hL,hkq,hLo,hO,hX,hR,hG,i5,hC⟩:=hrel
  by_cases h:0<k
  ·go_wp2_with (first|((with_reducible refine wp_region_later (by kernel_rfl) (by kernel_rfl) ?_);(repeat(first|go_big_quiet_step (first|fail)));refine wpQuiet_nil ?_;rintro _ ⟨x,rfl⟩))
   refine wp_region_stabR (R:=CurR p a n c l) (by kernel_rfl) CurR.refl CurR.trans CurR.drew (T:=[11,12]) (Zs:=[]) (H:=[(5,[]),(7,[]),(8,[7]),(9,[7]),(10,[7,9])]) (C:=[7,9,10]) (Fs:=[(some 19,.v (.slice sa q sc)),(some 20,.v (.pointer (some ⟨p,0,none⟩))),(some 21,.v (.pointer (some ⟨bm,33,none⟩))),(some 22,.v (.pointer (some ⟨bm,37,none⟩))),(some 23,.v (.pointer (some ⟨bm,37,none⟩))),(some 24,.v (.int .i64 ck)),(some 25,.v (.pointer (some ⟨p,0,none⟩))),(some 26,.is (isLow 30)),(some 27,.fn [7] (addC ck)),(some 28,.is isOrd4),(some 29,entNew1 hpB),(none,.v undef),(none,.v undef)]) (by kernel_rfl) (fun val W=>by kernel_rfl) ?ob ?lz ?pn ?tl9
   case ob =>
    refine⟨fun W hW=>?_,fun W hW=>?_,fun W hW=>?_,fun W hW=>?_,fun W hW=>?_,trivial⟩
    ·exact g_load (by kernel_rfl) (run_loadOne (o:=37) (hX.out.cur hW hbp) hcell.out _ Tryz.underlying3 rfl) ⟨CurR.refl _,rfl⟩
    ·obtain⟨i8,c8⟩:=hW.2 ⟨i5,hC.out⟩
     refine g_call (f:=80) (args:=[.pointer (some ⟨p,0,none⟩),.int .i64 30]) Tryz.func80 (by kernel_rfl) (by kernel_rfl) ((c_sl01Below c8 (by omega) (by omega)).mono ?_)
     rintro _ w' ⟨y,rfl,hy,hg,i9,c9⟩
     exact⟨_,rfl,CurR.of hg c9,y,rfl,hy⟩
    ·refine chain1 fun v7 q7=>chain0 ?_
     obtain⟨y,rfl,h1,h2⟩:=(show isLow 30 v7 from q7)
     refine g_fnR (k:=8) CurR.refl ?_ ?_<;>kernel_rfl
    ·refine chain1 fun v7 q7=>chain0 ?_
     obtain⟨y,rfl,h1,h2⟩:=(show isLow 30 v7 from q7)
     obtain⟨i8,c8⟩:=hW.2 ⟨i5,hC.out⟩
     have hwr:IntKind.i64.wrap (ck+y)=ck+y:=by
      simp[IntKind.wrap,IntKind.bits,IntKind.signed]
      split<;>omega
     refine g_call (f:=81) (args:=[.pointer (some ⟨p,0,none⟩),.int .i64 (IntKind.i64.wrap (ck+y))]) Tryz.func81 (by kernel_rfl) (by kernel_rfl) ?_
     rw[hwr]
     refine(c_sl05Order c8 (by omega) (by omega)).mono ?_
     rintro _ w' ⟨k1,t1,x1,y1,rfl,hg,i9,c9⟩
     exact⟨_,rfl,CurR.of hg c9,⟨k1,t1,x1,y1⟩,rfl⟩
    ·refine chain1 fun v7 q7=>chain1 fun v9 q9=>chain0 ?_
     obtain⟨o9,rfl⟩:=(show isOrd4 v9 from q9)
     refine gives_run (v:=.slice (some ⟨W.heap.size,0,none⟩) 1 1) (w':=W.alloc (.cells (enc4 o9).toArray 104)) ?_ ⟨CurR.grow inferInstance,W.heap.size,o9,rfl,Nat.le_trans hG.out.size hW.1.size,Held.new _ _ _ _ rfl⟩
     kernel_rfl
   case lz=>trivial
   case pn=>exact fun h=>absurd rfl h
   case tl9 =>
    intro W hW
    refine chain1 fun v7 q7=>chain1 fun v9 q9=>chain1 fun v10 q10=>?_
    obtain⟨b1,o9,rfl,hb1,hB1⟩:=(show isNew1 x.w.heap.size v10 W from q10)
    clear q7 q9 q10
    have OW:=hLo.out.cur hW hpB
    have hBW:x.w.heap.size≤W.heap.size:=Nat.le_trans hG.out.size hW.1.size
    refine tail2 rfl rfl ?_
    simp only[put_nrm,put_nrm2]
    simp only[Act.put,List.setIfInBounds_toArray,List.set_cons_succ,List.set_cons_zero]
    refine wpList_app1F (enc:=enc4) (w0:={ W with heap:=#[] }) (B:=x.w.heap.size) (z:=.agg #[.int .i64 0,.int .i64 0,.int .i64 0,.int .i64 0]) (size:=4) (bytes:=32) o9 rfl (.tmp 19) (.tmp 29) rfl Tryz.underlying98 (by kernel_rfl) rfl (by decide) (by decide) rfl rfl hL OW hB1 rfl (enc4_one _) (by omega) hBW (grows_nil W) (Nat.zero_le _) ?_
    intro sa1 sc1 x1 O1 g1 b1
    have W1:=Wr.sl OW g1
    have HO1:=lH O1;have HOM:=lH (om_wrO (om_keep hO.out (cur_keeps hW hpB)) W1);have HX1:=lH ((hX.out.cur hW hbp).wr W1 (by decide));have HR1:=lH ((hR.out.at hW.1 (by omega)).wr W1 (by decide))
    have hlt:=OW.lt (n:=q)
    have HG1:=lH (show x.w.grownBy x1.w (some p)from by
     have k0:=grownBy_trans hG.out hW.1
     exact⟨g1.os.trans k0.os,g1.tape.trans k0.tape,g1.output.trans k0.output,Nat.le_trans k0.size g1.size,fun j hj hr=>(g1.block j (by omega) (fun e=>by have:=(hlt j e.symm).1;omega)).trans (k0.block j hj hr)⟩)
    have HC1:=lH (show ∃ i',IsCur x1.w p a n c l i' from by
     obtain⟨i8,c8⟩:=hW.2 ⟨i5,hC.out⟩
     exact⟨i8,c8.kept g1.size (fun j hj=>g1.block j (by omega) (fun e=>by have:=(hlt j e.symm).1;omega))⟩)
    clear O1 g1 b1 W1 OW hB1 hlt
    go_wp2_with (first|((with_reducible refine wp_region_later (by kernel_rfl) (by kernel_rfl) ?_);(repeat(first|go_big_quiet_step (first|fail)));refine wpQuiet_nil ?_;rintro _ ⟨x,rfl⟩))
    go_roundw
    case rel =>
     obtain⟨i9,c9⟩:=HC1.out
     exact⟨k - 1,q+1,L++[o9],sa1,sc1,rfl,by go_num,by simp[hL],by omega,HO1,HOM,HX1,HR1,HG1,i9,c9⟩
    case measure=>simp[intOf];omega
  ·obtain rfl:k=0:=by omega
   go_wp2_with (first|((with_reducible refine wp_region_later (by kernel_rfl) (by kernel_rfl) ?_);(repeat(first|go_big_quiet_step (first|fail)));refine wpQuiet_nil ?_;rintro _ ⟨x,rfl⟩)|(refine stepLoad rfl _ _ rfl bm 0 rfl (row:=vs) hX.out _ Tryz.underlying90 rfl (by rw[HV1.out];kernel_rfl) (by rw[List.drop_zero,List.take_length]) ?_)|(refine stepStore2 rfl _ _ _ rfl (w.heap.size) 0 rfl (us:=vs) (cs2:=vs) (hR.out) ?cz1 ?cz2 ?cz3 ?cz4 ?cz5 (w0:={ wr with heap:=#[] }) (grows_nil _) (Nat.zero_le _) ?_;(case cz1=>rfl);(case cz2=>(rw[HV1.out];kernel_rfl));(case cz3=>exact HV2.out);(case cz4=>(rw[HV1.out];exact Nat.le_of_ble_eq_true rfl));(case cz5=>exact splice_all HV1.out);intro z9 hx kx;(have HX9:=lH hx);(have HG9:=lH kx.gb);clear hx kx))
   have hxw:x.w.heap.size≤wr.heap.size:=hG.out.size
   have fA:=om_wr hO.out (Wr.box hR.out HG9.out)
   have fB:Grows w z9.w:=by
    have gx:Grows w x.w:=inferInstance
    refine⟨⟨HG9.out.os.trans (hG.out.os.trans gx.out.os),HG9.out.tape.trans (hG.out.tape.trans gx.out.tape),HG9.out.output.trans (hG.out.output.trans gx.out.output),Nat.le_trans gx.out.size (Nat.le_trans hG.out.size HG9.out.size),fun k hk=>?_⟩⟩
    have h1:=gx.out.size
    exact(HG9.out.block k (by omega) (fun e=>by cases e;omega)).trans ((hG.out.block k (by omega) (fun e=>by cases e;omega)).trans (gx.out.block k hk))
   refine bodyPost_ret (v:=.tuple #[.agg vs.toArray,.slice sa q sc]) (results_cell2 (P:=Tryz.prog) rfl rfl HX9.out _ Tryz.underlying90 rfl (by rw[HV1.out];kernel_rfl) rfl) rfl ?_
   have fC:=Enc.mono (EncO.toRd fA) gx0
   have fD:∃ y:Later w,z9.w=y.w:=⟨⟨z9.w,fB.out⟩,rfl⟩
   have fS:Sl enc4 z9.w sa L:=Own.sl (hLo.out.kept HG9.out (fun k hk=>by cases hk;exact .inl (by have:=x.size_le;omega)))
   exact⟨vs,m,sa,sc,L,by rw[hL],by omega,fS,HNW.out,fC,fD⟩
theorem os_len{B:Nat}{w:World}{vs:List Value}{r:TSender}(h:Enc.Rd B w vs r):vs.length=4:=Enc.len h
theorem os_one{B:Nat}{w:World}{vs:List Value}{r:TSender}(h:Enc.Rd B w vs r):vs.all (·.oneCell')=true:=by
 obtain⟨a,c,rfl,-⟩:=h;rfl
theorem senderOk_next{s:TSender}(h:senderOk s=true):0≤s.Next∧s.Next≤255∧s.Waiting.length≤20:=by
 simp only[senderOk,Bool.and_eq_true,decide_eq_true_eq]at h
 have h1:=inB_iff.1 h.1;have h2:=inB_iff.1 h.2.1
 omega
set_option maxRecDepth 100000 in
set_option maxHeartbeats 4000000 in
theorem o_iOfferCommand{B:Nat}{vs:List Value}{s:TSender}{d:ByteArray}{w:World}(h:Enc.Rd B w vs s)(hd:d.size≤9223372036854775807)(ht:Enc.tot s≤50000000) :
  Calls Tryz.prog 72 #[.agg vs.toArray,.string d] w (GivesOB w (offerCmd s d).1 (offerCmd s d).2):=by
 have HM:=lH h
 obtain⟨a,c,rfl,hs,hok⟩:=h
 have hm:s.Waiting.length≤50000000:=by have:=totL_len s.Waiting;rw[sender_tot]at ht;omega
 have HT:=lH (show Enc.tot s≤100000000 by omega)
 clear ht
 obtain⟨n,hn⟩:∃ n,s.Waiting.length=n:=⟨_,rfl⟩
 rw[hn]at HM hm ⊢
 have HN:=lH hn
 have HB:=lH ((Held.new w [.int .i64 s.Next,.int .i64 s.Window,.slice a n c,.int .i64 s.Done] 69 w.heap.size rfl).to (inferInstance:Grows _ ((w.alloc (.cells #[.int .i64 s.Next,.int .i64 s.Window,.slice a n c,.int .i64 s.Done] 69)).alloc (.cells #[.int .i64 0,.int .i64 0,.slice none 0 0,.int .i64 0] 69))))
 have HR:=lH (Held.new (w.alloc (.cells #[.int .i64 s.Next,.int .i64 s.Window,.slice a n c,.int .i64 s.Done] 69)) [.int .i64 0,.int .i64 0,.slice none 0 0,.int .i64 0] 69 (w.heap.size+1) (by simp))
 cases c0:senderOk s
 ·have HK:=lH (show offerCmd s d=(s,false)by rw[offerCmd,c0];rfl)
  go_enter Tryz.func72,Tryz.ntmps72
  go_wp2_with (first|((with_reducible refine wp_region_later (by kernel_rfl) (by kernel_rfl) ?_);(repeat(first|go_big_quiet_step (first|(go_at_call 192;exact Gives.quiet (k_iSenderOkN)))|simp only[c0]));refine wpQuiet_nil ?_;rintro _ ⟨x,rfl⟩)|(go_at_call 192;refine(k_iSenderOkN).mono ?_;rintro _ _ ⟨rfl,x,rfl⟩)|(refine stepLoad rfl _ (.tmp 2) rfl (w.heap.size) 0 rfl (row:=[.int .i64 s.Next,.int .i64 s.Window,.slice a n c,.int .i64 s.Done]) (HB.out.to inferInstance) _ Tryz.underlying69 rfl (by kernel_rfl) rfl ?_))
  refine(o_cloneSender (x:=s) (Enc.keep HM.out inferInstance) HT.out).mono ?_
  rintro _ _ ⟨cs,χ,rfl,hO,y1,rfl⟩
  have HLC:=lH (os_len (EncO.toRd hO));have HOC:=lH (os_one (EncO.toRd hO));have HO:=lH hO;clear hO
  go_wp2_with (first|(refine stepStore2 rfl _ _ _ rfl (w.heap.size+1) 0 rfl (us:=cs) (cs2:=cs) (HR.out.to inferInstance) ?a91 ?a92 ?a93 ?a94 ?a95 (w0:=(w.alloc (.cells #[.int .i64 s.Next,.int .i64 s.Window,.slice a n c,.int .i64 s.Done] 69))) inferInstance (by simp) ?_;(case a91=>rfl);(case a92=>(rw[HLC.out];kernel_rfl));(case a93=>exact HOC.out);(case a94=>(rw[HLC.out];exact Nat.le_of_ble_eq_true rfl));(case a95=>exact splice_all HLC.out);intro z9 hx kx;have HX9:=lH hx;clear hx;have KX9:=lH kx;clear kx))
  refine bodyPost_ret (v:=.tuple #[.agg cs.toArray,.bool false]) (results_cell2 (P:=Tryz.prog) (u:=.bool false) rfl rfl HX9.out _ Tryz.underlying69 rfl (by rw[HLC.out];kernel_rfl) rfl) rfl ?_
  rw[HK.out]
  exact⟨cs,χ,rfl,obox_fin HO.out KX9.out LtN.out LeN.out,Later.of⟩
 have hnx:=senderOk_next c0
 have HC0:=lH c0
 go_enter Tryz.func72,Tryz.ntmps72
 go_wp2_with (first|((with_reducible refine wp_region_later (by kernel_rfl) (by kernel_rfl) ?_);(repeat(first|go_big_quiet_step (first|fail)|simp only[c0]));refine wpQuiet_nil ?_;rintro _ ⟨x,rfl⟩)|(refine stepLoad rfl _ (.tmp 2) rfl (w.heap.size) 0 rfl (row:=[.int .i64 s.Next,.int .i64 s.Window,.slice a n c,.int .i64 s.Done]) (HB.out.to inferInstance) _ Tryz.underlying69 rfl (by kernel_rfl) rfl ?_))
 refine(k_iSenderOkN (sd:=s) hs hn (by omega) hok).mono ?_
 rintro _ _ ⟨rfl,y0,rfl⟩
 rw[c0]
 go_wp2_with (first|((with_reducible refine wp_region_later (by kernel_rfl) (by kernel_rfl) ?_);(repeat(first|go_big_quiet_step (first|fail)|simp only[c0]));refine wpQuiet_nil ?_;rintro _ ⟨x,rfl⟩)|(refine stepLoad rfl _ (.tmp 2) rfl (w.heap.size) 0 rfl (row:=[.int .i64 s.Next,.int .i64 s.Window,.slice a n c,.int .i64 s.Done]) (HB.out.to inferInstance) _ Tryz.underlying69 rfl (by kernel_rfl) rfl ?_))
 refine(o_cloneSender (x:=s) (Enc.keep HM.out inferInstance) HT.out).mono ?_
 rintro _ _ ⟨cs,χ,rfl,hO,y1,rfl⟩
 have HLC:=lH (os_len (EncO.toRd hO));have HOC:=lH (os_one (EncO.toRd hO));have HO:=lH hO;clear hO
 go_upto_region 4 with((first|((with_reducible refine wp_region_later (by kernel_rfl) (by kernel_rfl) ?_);(repeat(first|go_big_quiet_step (first|fail)));refine wpQuiet_nil ?_;rintro _ ⟨x,rfl⟩)|(refine stepStore2 rfl _ _ _ rfl _ 0 rfl (us:=cs) (cs2:=cs) (Held.new _ [.int .i64 0,.int .i64 0,.slice none 0 0,.int .i64 0] 69 _ rfl) ?a11 ?a12 ?a13 ?a14 ?a15 (w0:=y0.w) inferInstance LeN.out ?_;(case a11=>rfl);(case a12=>(rw[HLC.out];kernel_rfl));(case a13=>exact HOC.out);(case a14=>(rw[HLC.out];exact Nat.le_of_ble_eq_true rfl));(case a15=>exact splice_all HLC.out);intro z1 hx kx;have HX1:=lH hx;clear hx;have KX1:=lH kx;clear kx)))
 (try simp only[Act.put])
 obtain⟨qb,hqb⟩:∃ qb,(y0.andThen y1).w.heap.size=qb:=⟨_,rfl⟩
 rw[hqb]
 have HG:=lH (show GB (fun _=>False) y0.w.heap.size qb z1.w s from hqb▸GB.of HO.out (KX1.out.under inferInstance (Nat.le_refl _)) y1.size_le HX1.out)
 have hqB:y0.w.heap.size≤qb:=HG.out.le
 have hqlt:LtN qb z1.w.heap.size:=⟨HG.out.lt⟩
 clear hqb HX1 KX1 HO HLC HOC
 have e0:=HB.out.cellG 0 _ rfl
 obtain⟨sa,sc,ec,hown,-,-⟩:=HG.out.own fSenderWaiting
 have HEC:=lH (ec z1.w)
 have ec2:∀ (W:World) [Grows z1.w W],W.cell? ⟨qb,2,none⟩=some (.slice sa n sc):=fun W g=>HN.out▸ec W
 clear ec
 have hgood:okDTSent ⟨s.Next,d⟩:=⟨hok.1,hd,trivial⟩
 go_upto_region 5 with((first|((with_reducible refine wp_region_later (by kernel_rfl) (by kernel_rfl) ?_);(repeat(first|go_big_quiet_step (first|fail)));refine wpQuiet_nil ?_;rintro _ ⟨x,rfl⟩)|(at_builtin;refine wpList_app1F (enc:=encTSent) (w0:=y0.w) (z:=.agg #[.int .i64 0,.string ⟨#[]⟩]) (size:=2) (bytes:=24) (⟨s.Next,d⟩:TSent) rfl (.tmp 15) (.tmp 20) rfl Tryz.underlying67 (by kernel_rfl) rfl (by decide) (by decide) rfl rfl HN.out (hown.to inferInstance) (by first|(refine blk_alloc _ _ _ ?_;(first|rfl|(simp;done)))|(refine blk_past (blk_alloc _ _ _ ?_);(first|rfl|(simp;done)))|(refine blk_later _ (blk_alloc _ _ _ ?_);(first|rfl|(simp;done)))|(refine blk_later _ (blk_past (blk_alloc _ _ _ ?_));(first|rfl|(simp;done)))|(refine blk_past (blk_past (blk_alloc _ _ _ ?_));(first|rfl|(simp;done)))|assumption) rfl (encTSent_one _) (by omega) LeN.out inferInstance (Nat.le_refl _) ?_;intro sa2 sc2 xa2 hown1 hgr1 hblk1;have hp2:=(GBp.app (F:=fSenderWaiting) HG.out HEC.out inferInstance hown1 hgr1 hblk1 hgood).1;clear hown1 hgr1 hblk1)|(refine step_gbN (app_len HN.out) rfl _ _ _ rfl hp2 rfl rfl (by kernel_rfl) inferInstance (Nat.le_refl _) ?_;intro z2 hz2)))
 have hi256:i64 ((s.Next+1) % 256):=by unfold i64;omega
 go_upto_region 6 with((first|((with_reducible refine wp_region_later (by kernel_rfl) (by kernel_rfl) ?_);(repeat(first|go_big_quiet_step (first|fail)));refine wpQuiet_nil ?_;rintro _ ⟨x,rfl⟩)|(refine step_gbC (o:=0) (us:=[.int .i64 ((s.Next+1) % 256)]) (offerRes s d) rfl _ (.tmp 27) (.tmp 26) rfl hz2 rfl rfl (by kernel_rfl) rfl (Nat.le_of_ble_eq_true rfl) (by intros;rename_i h;obtain⟨a0,c0,rfl,q⟩:=h;exact⟨a0,c0,rfl,q.o0,hi256,q.ok.2⟩) inferInstance (Nat.le_refl _) ?_;intro z3 hz3 hX3)))
 (try simp only[Act.put])
 have HZ3:=lH hz3
 obtain⟨vs9,hH9,-,h19,-,χ9,hO9⟩:=hz3.vs
 have hO9':=hO9
 obtain⟨a9,c9,rfl,hO⟩:=hO9'
 have hs9:=hO.o0.rd;have hok9:=hO.ok
 have HH9:=lH hH9;have HO9:=lH hO9;have H19:=lH h19
 have hn9:(offerRes s d).Waiting.length=n+1:=app_len HN.out
 rw[hn9]at HH9 HO9 H19
 have HL9:=lH (os_len (EncO.toRd HO9.out))
 clear hz3 hO9 hH9 h19 hO hs e0 ec2 hown HEC HG
 cases c1:senderOk (offerRes s d)
 ·have HK:=lH (show offerCmd s d=(s,false)by rw[offerCmd,HC0.out,c1];rfl)
  go_wp2_with (first|((with_reducible refine wp_region_later (by kernel_rfl) (by kernel_rfl) ?_);(repeat(first|go_big_quiet_step (first|(go_at_call 192;exact Gives.quiet (k_iSenderOkN)))|simp only[c1]));refine wpQuiet_nil ?_;rintro _ ⟨x,rfl⟩)|(go_at_call 192;refine(k_iSenderOkN).mono ?_;rintro _ _ ⟨rfl,x,rfl⟩)|(refine stepLoad rfl _ (.tmp 6) rfl (qb) 0 rfl (row:=[.int .i64 (offerRes s d).Next,.int .i64 (offerRes s d).Window,.slice a9 (n+1) c9,.int .i64 (offerRes s d).Done]) (HH9.out.to inferInstance) _ Tryz.underlying69 rfl (by kernel_rfl) rfl ?_)|(refine stepLoad rfl _ (.tmp 2) rfl (w.heap.size) 0 rfl (row:=[.int .i64 s.Next,.int .i64 s.Window,.slice a n c,.int .i64 s.Done]) (HB.out.to inferInstance) _ Tryz.underlying69 rfl (by kernel_rfl) rfl ?_))
  refine(o_cloneSender (x:=s) (Enc.keep HM.out inferInstance) HT.out).mono ?_
  rintro _ _ ⟨cs8,χ8,rfl,hO8,y8,rfl⟩
  have HLC:=lH (os_len (EncO.toRd hO8));have HOC:=lH (os_one (EncO.toRd hO8));have HO:=lH hO8;clear hO8
  go_wp2_with (first|(refine stepStore2 rfl _ _ _ rfl (w.heap.size+1) 0 rfl (us:=cs8) (cs2:=cs8) (HR.out.to inferInstance) ?a81 ?a82 ?a83 ?a84 ?a85 (w0:=(w.alloc (.cells #[.int .i64 s.Next,.int .i64 s.Window,.slice a n c,.int .i64 s.Done] 69))) inferInstance (by simp) ?_;(case a81=>rfl);(case a82=>(rw[HLC.out];kernel_rfl));(case a83=>exact HOC.out);(case a84=>(rw[HLC.out];exact Nat.le_of_ble_eq_true rfl));(case a85=>exact splice_all HLC.out);intro z8 hx kx;have HX8:=lH hx;clear hx;have KX8:=lH kx;clear kx))
  refine bodyPost_ret (v:=.tuple #[.agg cs8.toArray,.bool false]) (results_cell2 (P:=Tryz.prog) (u:=.bool false) rfl rfl HX8.out _ Tryz.underlying69 rfl (by rw[HLC.out];kernel_rfl) rfl) rfl ?_
  rw[HK.out]
  exact⟨cs8,χ8,rfl,obox_fin HO.out KX8.out LtN.out LeN.out,Later.of⟩
 ·have HK:=lH (show offerCmd s d=(offerRes s d,true)by rw[offerCmd,HC0.out,c1];rfl)
  go_wp2_with (first|((with_reducible refine wp_region_later (by kernel_rfl) (by kernel_rfl) ?_);(repeat(first|go_big_quiet_step (first|(go_at_call 192;exact Gives.quiet (k_iSenderOkN)))|simp only[c1]));refine wpQuiet_nil ?_;rintro _ ⟨x,rfl⟩)|(go_at_call 192;refine(k_iSenderOkN).mono ?_;rintro _ _ ⟨rfl,x,rfl⟩)|(refine stepLoad rfl _ (.tmp 6) rfl (qb) 0 rfl (row:=[.int .i64 (offerRes s d).Next,.int .i64 (offerRes s d).Window,.slice a9 (n+1) c9,.int .i64 (offerRes s d).Done]) (HH9.out.to inferInstance) _ Tryz.underlying69 rfl (by kernel_rfl) rfl ?_)|(refine stepStore2 rfl _ _ _ rfl (w.heap.size+1) 0 rfl (us:=[.int .i64 (offerRes s d).Next,.int .i64 (offerRes s d).Window,.slice a9 (n+1) c9,.int .i64 (offerRes s d).Done]) (cs2:=[.int .i64 (offerRes s d).Next,.int .i64 (offerRes s d).Window,.slice a9 (n+1) c9,.int .i64 (offerRes s d).Done]) (HR.out.to inferInstance) ?a71 ?a72 ?a73 ?a74 ?a75 (w0:=(w.alloc (.cells #[.int .i64 s.Next,.int .i64 s.Window,.slice a n c,.int .i64 s.Done] 69))) inferInstance (by simp) ?_;(case a71=>rfl);(case a72=>(rw[HL9.out];kernel_rfl));(case a73=>exact H19.out);(case a74=>(rw[HL9.out];exact Nat.le_of_ble_eq_true rfl));(case a75=>exact splice_all HL9.out);intro z7 hx kx;have HX7:=lH hx;clear hx;have KX7:=lH kx;clear kx))
  refine bodyPost_ret (v:=.tuple #[.agg [.int .i64 (offerRes s d).Next,.int .i64 (offerRes s d).Window,.slice a9 (n+1) c9,.int .i64 (offerRes s d).Done].toArray,.bool true]) (results_cell2 (P:=Tryz.prog) (u:=.bool true) rfl rfl HX7.out _ Tryz.underlying69 rfl (by rw[HL9.out];kernel_rfl) rfl) rfl ?_
  rw[HK.out]
  exact⟨_,χ9,rfl,obox_fin (obox_to HO9.out inferInstance) KX7.out LtN.out LeN.out,Later.of⟩
def outO:TOrbit:=⟨1000,900,5⟩
def outM(m:TMission)(t c:Int)(o:TOrbit)(offs:List ByteArray)(sd:TSender)(offd:List ByteArray):TMission :=
 { m with Time:=t,Orbit:=o,Ground:={ m.Ground with Offers:=offs,Sender:=sd },Space:={ m.Space with Board:={ m.Space.Board with Clock:=c } },Offered:=offd }
theorem outM_ok{m:TMission}{t c:Int}{o:TOrbit}{offs:List ByteArray}{sd:TSender}{offd:List ByteArray}(h:missionOk m=true)(h1:inB t 0 1000000=true)(h2:inB c 0 1000000=true)(h3:orbitOkT o=true)(h4:offs.all offerOk=true)(h5:offs.length≤200)(h6:senderOk sd=true)(h7:offd.length≤5000):missionOk (outM m t c o offs sd offd)=true:=by
 simp only[missionOk,groundOk,spaceOk,boardOk,outM,Bool.and_eq_true]at h ⊢
 obtain⟨-,a1,a2,a3,-,a5,a6,a7,a8,a9,⟨-,b1,b2,b3,b4,-,b6,-,b8⟩,⟨c0,⟨-,d1⟩,c2⟩,-,e1⟩:=h
 exact⟨h1,a1,a2,a3,h3,a5,a6,a7,a8,a9,⟨h6,b1,b2,b3,b4,decide_eq_true (by omega),b6,h4,b8⟩,⟨c0,⟨h2,d1⟩,c2⟩,decide_eq_true (by omega),e1⟩
structure Begun(m:TMission):Prop where
 ok:missionOk m=true
 ups:m.Ups=[]
 downs:m.Downs=[]
 took:m.Took=[]
 bad:m.Bad=0
 sent:m.Space.Sent=[]
 ords:m.Space.Board.Orders=[]
 done:m.Space.Board.Done=[]
 asked:m.Space.Board.Asked=[]
 begun:m.Space.Begun=0
 made:m.Space.Board.Made=0
 taken:m.Space.Board.Taken=0
 took0:m.Space.Receiver.Taken=0
 time:m.Time=0
 clock:m.Space.Board.Clock=boardTime m.Drift.Rate m.Drift.Offset 0
 files:∃ fs,m.Ground.Files=insOf 0 fs∧fs.length=8
 told:m.Ground.Told=List.replicate 8 false
 led:ledgerOk m=true
 win:m.Ground.Sender=⟨0,5,[],0⟩
 offs:m.Ground.Offers=[]
 offd:m.Offered=[]
theorem begun_of{light:Int}{d:TDrift}{o:TOrbit}{pl:List Slot}{up down:TChannel}{room:Int}{L:List TLimit}{fs:List ByteArray}(h:missionOk (newM light d o pl up down room L fs)=true)(h8:fs.length=8):Begun (newM light d o pl up down room L fs) :=
 ⟨h,rfl,rfl,rfl,rfl,rfl,rfl,rfl,rfl,rfl,rfl,rfl,rfl,rfl,rfl,⟨fs,rfl,h8⟩,rfl,newM_ledger h,rfl,rfl,rfl⟩
/-! ### The clock -/
theorem bt_step{r o t:Int}(h:driftOk r o=true)(h0:0≤t)(h1:t≤999999):boardTime r o t≤boardTime r o (t+1)∧ticksDue r o t=boardTime r o (t+1) - boardTime r o t:=by
 have e0:inB t 0 1000000=true:=inB_iff.2 ⟨h0,by omega⟩
 have e1:inB (t+1) 0 1000000=true:=inB_iff.2 ⟨by omega,by omega⟩
 have e2:inB t 0 999999=true:=inB_iff.2 ⟨h0,h1⟩
 have hr:inB r (-100) 100=true:=by rw[driftOk,Bool.and_eq_true]at h;exact h.1
 have hr':=inB_iff.1 hr
 constructor
 ·rw[boardTime,boardTime,h,e0,e1]
  simp only[Bool.and_self,if_true,Int.add_mul];omega
 ·rw[ticksDue,e2,h];rfl
theorem bt_low{r o:Int}(h:driftOk r o=true):∀ n:Nat,n≤999999→0≤boardTime r o n∧boardTime r o 0≤boardTime r o n
 | 0,_=>by
  have:inB o 0 1000=true:=by rw[driftOk,Bool.and_eq_true]at h;exact h.2
  have h2:=inB_iff.1 this
  have h3:=bt_zero h
  exact⟨by show 0≤boardTime r o 0;omega,Int.le_refl _⟩
 | n+1,hn=>by
  have ih:=bt_low h n (by omega)
  have h1:=(bt_step h (t:=n) (by omega) (by omega)).1
  rw[show((n+1:Nat):Int)=(n:Int)+1 by omega]
  omega
theorem bt_high{r o t:Int}(h:driftOk r o=true)(h0:0≤t)(h1:t≤1000):boardTime r o t≤3000:=by
 have e0:inB t 0 1000000=true:=inB_iff.2 ⟨h0,by omega⟩
 have hd:=h
 rw[driftOk,Bool.and_eq_true]at hd
 have hr:=inB_iff.1 hd.1;have ho:=inB_iff.1 hd.2
 have:=bd_mul (t:=t) (r:=r) h0 (by omega) hr.1 hr.2
 have h2:t*r≤1000*100:=by
  have h3:=Int.mul_le_mul_of_nonneg_left hr.2 h0
  omega
 rw[boardTime,h,e0]
 simp only[Bool.and_self,if_true];omega
/-! ### Ticks of a board without orders -/
theorem board_clock{b:TBoard}{c:Int}(h:boardOk b=true)(hc:inB c 0 1000000=true):boardOk { b with Clock:=c }=true:=by
 rw[boardOk,Bool.and_eq_true]at h ⊢
 exact⟨hc,h.2⟩
structure Idle(b:TBoard):Prop where
 ok:boardOk b=true
 ords:b.Orders=[]
 done:b.Done=[]
 asked:b.Asked=[]
 made:b.Made=0
 taken:b.Taken=0
theorem Idle.clock{b:TBoard}{c:Int}(h:Idle b)(hc:inB c 0 1000000=true):Idle { b with Clock:=c }:=⟨board_clock h.ok hc,h.ords,h.done,h.asked,h.made,h.taken⟩
theorem idle_tick{b:TBoard}(h:Idle b)(hc:b.Clock<1000000):tickBoard b={ b with Clock:=b.Clock+1 }:=by
 have h1:tickNow b=true:=by
  have h2:¬ b.Clock=1000000:=by omega
  simp[tickNow,h.ok,h.made,h.taken,h.done,h.asked,h2]
 rw[tickBoard,if_pos h1,h.ords];rfl
theorem idle_clock{b:TBoard}(h:Idle b):0≤b.Clock:=by
 have:=h.ok
 rw[boardOk,Bool.and_eq_true]at this
 exact(inB_iff.1 this.1).1
theorem idle_ticks:∀ (n:Nat) (b:TBoard),Idle b→b.Clock+n≤1000000→tickN n b={ b with Clock:=b.Clock+n }
 | 0,b,_,_=>by simp[tickN]
 | n+1,b,h,hc=>by
  have h0:=idle_clock h
  rw[tickN,idle_tick h (by omega),idle_ticks n _ (h.clock (inB_iff.2 ⟨by omega,by omega⟩)) (by simp only;omega)]
  simp only
  rw[show b.Clock+1+(n:Int)=b.Clock+((n+1:Nat):Int)by omega]
/-! ### The steps -/
def sendUp0(m:TMission):TMission:=if missionOk m=true then offeredM m else m
def stepOut(m:TMission):TMission:=sendUp0 (askMissing (advanceBoard m))
def stepsOut:Nat→TMission→TMission
 | 0,m=>m
 | n+1,m=>stepsOut n (stepOut m)
theorem stepsOut_snoc:∀ (n:Nat) (m:TMission),stepsOut (n+1) m=stepOut (stepsOut n m)
 | 0,_=>rfl
 | n+1,m=>stepsOut_snoc n (stepOut m)
def IsOut(m0:TMission)(t:Nat)(m:TMission):Prop:=∃ offs sd offd,m=outM m0 t (boardTime m0.Drift.Rate m0.Drift.Offset t) outO offs sd offd∧senderOk sd=true∧(offd++offs).all offerOk=true∧offs.length+offd.length≤100
section
variable {m0 m:TMission} {t:Nat}
theorem begun_drift(h:Begun m0):driftOk m0.Drift.Rate m0.Drift.Offset=true:=by
 have h1:=h.ok
 simp only[missionOk,Bool.and_eq_true]at h1
 exact h1.2.2.2.1
theorem begun_idle(h:Begun m0):Idle m0.Space.Board:=by
 have h1:=h.ok
 simp only[missionOk,spaceOk,Bool.and_eq_true]at h1
 exact⟨h1.2.2.2.2.2.2.2.2.2.2.2.1.2.1,h.ords,h.done,h.asked,h.made,h.taken⟩
theorem bt_inB(h:Begun m0)(ht:t≤1000):inB (boardTime m0.Drift.Rate m0.Drift.Offset t) 0 1000000=true:=by
 have h1:=bt_low (begun_drift h) t (by omega)
 have h2:=bt_high (begun_drift h) (t:=t) (by omega) (by omega)
 exact inB_iff.2 ⟨h1.1,by omega⟩
theorem IsOut.ok(h:Begun m0)(k:IsOut m0 t m)(ht:t≤1000):missionOk m=true:=by
 obtain⟨offs,sd,offd,rfl,h1,h2,h3⟩:=k
 exact outM_ok h.ok (inB_iff.2 ⟨by omega,by omega⟩) (bt_inB h ht) rfl (by rw[List.all_append,Bool.and_eq_true]at h2;exact h2.2) (by omega) h1 (by omega)
theorem IsOut.adv(h:Begun m0)(k:IsOut m0 t m)(ht:t<1000):IsOut m0 (t+1) (advanceBoard m):=by
 have hok:=k.ok h (by omega)
 obtain⟨offs,sd,offd,rfl,h1,h2,h3⟩:=k
 have hn:advNow (outM m0 t (boardTime m0.Drift.Rate m0.Drift.Offset t) outO offs sd offd)=true:=by
  have:¬ (t:Int)=1000000:=by omega
  rw[advNow,hok];simp[outM,this]
 have hb:=bt_step (begun_drift h) (t:=t) (by omega) (by omega)
 have hB:advB (outM m0 t (boardTime m0.Drift.Rate m0.Drift.Offset t) outO offs sd offd)={ m0.Space.Board with Clock:=boardTime m0.Drift.Rate m0.Drift.Offset (t+1) }:=by
  have h4:=bt_high (begun_drift h) (t:=t+1) (by omega) (by omega)
  have h5:=idle_ticks (ticksDue m0.Drift.Rate m0.Drift.Offset t).toNat { m0.Space.Board with Clock:=boardTime m0.Drift.Rate m0.Drift.Offset t } ((begun_idle h).clock (bt_inB h (by omega))) (by simp only;omega)
  show tickN _ _=_
  refine h5.trans ?_
  simp only
  rw[show boardTime m0.Drift.Rate m0.Drift.Offset t+((ticksDue m0.Drift.Rate m0.Drift.Offset t).toNat:Int)=boardTime m0.Drift.Rate m0.Drift.Offset (t+1)by omega]
 have hO:advO (outM m0 t (boardTime m0.Drift.Rate m0.Drift.Offset t) outO offs sd offd)=m0.Space.Outs:=by
  rw[advO,hB]
  show beginFiles _ (m0.Space.Board.Asked.drop _) m0.Space.Outs=_
  rw[h.asked,List.drop_nil];rfl
 refine⟨offs,sd,offd,?_,h1,h2,h3⟩
 rw[advanceBoard,if_pos hn,hB,hO]
 have h6:(({ m0.Space.Board with Clock:=boardTime m0.Drift.Rate m0.Drift.Offset (t+1) }:TBoard).Asked.length:Int)=m0.Space.Begun:=by
  show(m0.Space.Board.Asked.length:Int)=_
  rw[h.asked,h.begun];rfl
 rw[h6]
 rfl
theorem insOf_ask(told:List Bool)(hk:∀ k,told.getD k false=false):∀ (l:List ByteArray) (k:Nat) (o:List ByteArray),askFrom k (insOf k l) (o,told)=(o,told)
 | [],_,_=>rfl
 | _::r,k,o=>by
  have h1:wholeF (fileIn0 k)=false:=by simp[wholeF,textIs,fileIn0]
  have h2:missF (fileIn0 k)=[]:=by simp[missF,missL,fileIn0]
  have h3:askStep k (fileIn0 k) (o,told)=(o,told):=by rw[askStep,h1,h2];rfl
  rw[insOf,askFrom,h3]
  exact insOf_ask told hk r (k+1) o
theorem IsOut.ask(h:Begun m0)(k:IsOut m0 t m):askMissing m=m:=by
 obtain⟨offs,sd,offd,rfl,-⟩:=k
 unfold askMissing
 split
 ·rename_i hn
  have h0:(outM m0 t (boardTime m0.Drift.Rate m0.Drift.Offset t) outO offs sd offd).Ground.Offers=[]:=by
   rw[askNow,Bool.and_eq_true,Bool.and_eq_true,Bool.and_eq_true,decide_eq_true_eq,decide_eq_true_eq]at hn
   exact List.length_eq_zero_iff.1 (by omega)
  obtain⟨fs,h1,-⟩:=h.files
  have h2:askFrom 0 (outM m0 t (boardTime m0.Drift.Rate m0.Drift.Offset t) outO offs sd offd).Ground.Files ((outM m0 t (boardTime m0.Drift.Rate m0.Drift.Offset t) outO offs sd offd).Ground.Offers,(outM m0 t (boardTime m0.Drift.Rate m0.Drift.Offset t) outO offs sd offd).Ground.Told)=((outM m0 t (boardTime m0.Drift.Rate m0.Drift.Offset t) outO offs sd offd).Ground.Offers,(outM m0 t (boardTime m0.Drift.Rate m0.Drift.Offset t) outO offs sd offd).Ground.Told):=by
   show askFrom 0 m0.Ground.Files (offs,m0.Ground.Told)=(offs,m0.Ground.Told)
   rw[h1,h.told]
   exact insOf_ask _ (fun k=>by rw[List.getD_eq_getElem?_getD,List.getElem?_replicate];split<;>rfl) fs 0 offs
  rw[h2]
  split<;>rfl
 ·rfl
theorem IsOut.up(h:Begun m0)(k:IsOut m0 t m)(ht:t≤1000):IsOut m0 t (sendUp0 m):=by
 have hok:=k.ok h ht
 rw[sendUp0,if_pos hok]
 obtain⟨offs,sd,offd,rfl,h1,h2,h3⟩:=k
 have h4:=offerGo_app offs sd offd
 refine⟨(offerGo offs sd offd).1,(offerGo offs sd offd).2.1,(offerGo offs sd offd).2.2,rfl,h4.2 h1,?_,?_⟩
 ·rw[h4.1];exact h2
 ·have:=congrArg List.length h4.1
  simp only[List.length_append]at this
  omega
theorem IsOut.step(h:Begun m0)(k:IsOut m0 t m)(ht:t<1000):IsOut m0 (t+1) (stepOut m):=by
 have h1:=k.adv h ht
 rw[stepOut,h1.ask h]
 exact h1.up h (by omega)
theorem IsOut.steps(h:Begun m0):∀ (n:Nat) {t:Nat} {m:TMission},IsOut m0 t m→t+n≤1000→IsOut m0 (t+n) (stepsOut n m)
 | 0,_,_,k,_=>k
 | n+1,t,m,k,hn=>by
  have:=IsOut.steps h n (k.step h (by omega)) (by omega)
  rwa[show t+1+n=t+(n+1)by omega]at this
theorem IsOut.ledger(h:Begun m0)(k:IsOut m0 t m):commandsOnce m=true∧recordsOnce m=true∧ordersOnce m=true∧filesTrue m=true:=by
 have hl:=h.led
 rw[ledgerOk]at hl
 simp only[Bool.and_eq_true]at hl
 obtain⟨offs,sd,offd,rfl,-⟩:=k
 refine⟨?_,hl.2.2.2.1,hl.2.2.1,hl.2.2.2.2.1⟩
 show commandsOnce _=true
 simp[commandsOnce,outM,h.took,h.took0,eqAll]
end
theorem stepLoad1W{P:Program}{ops:Array Oper}{rest:List Oper}{op:Oper}{a:Act}{w:World}{Q:Exit→Act→World→Prop}(hw:Region.wanted op (yielded ops a.tmps)=true)(ty:TypeId)(x:Operand)(ho:op.op=.load ty x)(b o:Nat)(hx:a.eval x=.pointer (some ⟨b,o,none⟩)){cs:List Value}{T:TypeId}(H:Held w b cs T)(v:Value)(hv:cs[o]?=some v)
  (d:TypeDesc) (hu:P.underlying ty=some d) (hd:d.isRow=false) (h:wpList P ops Q rest (a.put op.dst v) w):wpList P ops Q (op::rest) a w :=
 wpList_step fun K hK=>st_load1 hw ty x ho b o hx H v hv d hu hd (hK _ _ h)
theorem gb_time{X:Nat→Prop}{B b:Nat}{w:World}{m:TMission}(h:GB X B b w m):∀ (W:World) [Grows w W],W.cell? ⟨b,0,none⟩=some (.int .i64 m.Time):=by
 obtain⟨vs,hH,-,-,hR,-⟩:=h.vs
 obtain⟨A,rfl,-⟩:=hR
 exact hH.cellG 0 _ rfl
theorem c_isplitFlights0{a:Option Addr}{c:Nat}{k:Int}{w:World}:Calls Tryz.prog 297 #[.slice a 0 c,.int .i64 k] w (Gives w (.tuple #[.slice none 0 0,.slice none 0 0])):=by
 go_enter Tryz.func297,Tryz.ntmps297
 go_wp2_with fail
 go_loopw [6,7,12] (fun u u2 v wr=>u=.slice none 0 0∧u2=.slice none 0 0∧v=.int .i64 0∧∃ y:Later w,wr=y.w) (fun _ _ _ _=>0)
 case atStart=>exact⟨rfl,rfl,rfl,Later.of⟩
 case round =>
  obtain⟨rfl,rfl,rfl,y,rfl⟩:=hrel
  go_wp2_with fail
  refine bodyPost_ret (v:=.tuple #[.slice none 0 0,.slice none 0 0]) ?_ rfl ⟨rfl,Later.of⟩
  simp[results,Tryz.results297,go_sem]
set_option maxRecDepth 100000 in
set_option maxHeartbeats 4000000 in
theorem o_iHearUplink0{B:Nat}{vs:List Value}{m:TMission}{w:World}(h:Enc.Rd B w vs m)(ht:Enc.tot m≤100000000)(h0:m.Ups=[]) :
  Calls Tryz.prog 208 #[.agg vs.toArray] w (GivesO w (m)):=by
 have HL:=lH (len_mission h)
 have HM:=lH h;clear h
 have HT:=lH ht;clear ht
 have HB:=lH ((Held.new w vs 90 w.heap.size rfl).to (inferInstance:Grows _ ((w.alloc (.cells vs.toArray 90)).alloc (.cells zMission.toArray 90))))
 have HR:=lH (Held.new (w.alloc (.cells vs.toArray 90)) zMission 90 (w.heap.size+1) (by simp))
 have gW:Grows w ((w.alloc (.cells vs.toArray 90)).alloc (.cells zMission.toArray 90)):=inferInstance
 have hsz:((w.alloc (.cells vs.toArray 90)).alloc (.cells zMission.toArray 90)).heap.size=w.heap.size+2:=by simp
 go_enter Tryz.func208,Tryz.ntmps208
 go_upto_region 1 with(first|((with_reducible refine wp_region_later (by kernel_rfl) (by kernel_rfl) ?_);(repeat(first|go_big_quiet_step (first|fail)));refine wpQuiet_nil ?_;rintro _ ⟨x,rfl⟩))
 generalize ((w.alloc (.cells vs.toArray 90)).alloc (.cells zMission.toArray 90))=W2 at HB HR gW hsz ⊢
 have iB:LtN w.heap.size W2.heap.size:=⟨by omega⟩
 have iR:LtN (w.heap.size+1) W2.heap.size:=⟨by omega⟩
 have hW2:w.heap.size≤W2.heap.size:=by omega
 go_wp2_with (first|(refine stepLoad rfl _ (.tmp 1) rfl (w.heap.size) 0 (by kernel_rfl) (row:=vs) (HB.out.to inferInstance) _ Tryz.underlying90 rfl (by rw[HL.out];kernel_rfl) (by rw[List.drop_zero,List.take_length]) ?_))
 refine(o_cloneMission (x:=m) (Enc.keep HM.out inferInstance) HT.out).mono ?_
 rintro _ _ ⟨cs,χ,rfl,hO,y1,rfl⟩
 have HLC:=lH (len_mission (EncO.toRd hO));have HOC:=lH (one_mission (EncO.toRd hO));have HO:=lH hO;clear hO
 go_upto_region 2 with(first|((with_reducible refine wp_region_later (by kernel_rfl) (by kernel_rfl) ?_);(repeat(first|go_big_quiet_step (first|fail)));refine wpQuiet_nil ?_;rintro _ ⟨x,rfl⟩)|(refine stepStore2 rfl _ _ _ rfl _ 0 rfl (us:=cs) (cs2:=cs) (Held.new _ zMission 90 _ rfl) ?a11 ?a12 ?a13 ?a14 ?a15 (w0:=W2) inferInstance LeN.out ?_;(case a11=>rfl);(case a12=>(rw[HLC.out];kernel_rfl));(case a13=>exact HOC.out);(case a14=>(rw[HLC.out];exact Nat.le_of_ble_eq_true rfl));(case a15=>exact splice_all HLC.out);intro z1 hx kx;have HX1:=lH hx;clear hx;have KX1:=lH kx;clear kx))
 (try simp only[Act.put])
 obtain⟨qb,hqb⟩:∃ qb,y1.w.heap.size=qb:=⟨_,rfl⟩
 rw[hqb]
 have HG:=lH (show GB (fun _=>False) W2.heap.size qb z1.w m from hqb▸GB.of HO.out (KX1.out.under inferInstance (Nat.le_refl _)) y1.size_le HX1.out)
 have hqB:W2.heap.size≤qb:=HG.out.le
 have hqlt:LtN qb z1.w.heap.size:=⟨HG.out.lt⟩
 clear hqb HX1 KX1 HO HLC HOC
 go_wp2_with (first|(refine stepLoad rfl _ (.tmp 1) rfl (w.heap.size) 0 (by kernel_rfl) (row:=vs) (HB.out.to inferInstance) _ Tryz.underlying90 rfl (by rw[HL.out];kernel_rfl) (by rw[List.drop_zero,List.take_length]) ?_))
 refine(c_iMissionOk (m:=m) (Enc.keep HM.out inferInstance) HT.out).mono ?_
 rintro _ _ ⟨rfl,y2,rfl⟩
 cases hv:missionOk m
 ·obtain⟨vs9,hH9,hl9,h19,-,χ9,hO9⟩:=HG.out.vs
  have HH9:=lH hH9;have HO9:=lH hO9;have H19:=lH h19;have HL9:=lH (show vs9.length=61 from hl9)
  clear hO9 hH9 h19 hl9
  go_wp2_with (first|(refine stepLoad rfl _ (.tmp 3) rfl (qb) 0 (by kernel_rfl) (row:=vs9) (HH9.out.to inferInstance) _ Tryz.underlying90 rfl (by rw[HL9.out];kernel_rfl) (by rw[List.drop_zero,List.take_length]) ?_)|(refine stepStore2 rfl _ _ _ rfl (w.heap.size+1) 0 rfl (us:=vs9) (cs2:=vs9) (HR.out.to inferInstance) ?a91 ?a92 ?a93 ?a94 ?a95 (w0:=w) inferInstance (by omega) ?_;(case a91=>rfl);(case a92=>(rw[HL9.out];kernel_rfl));(case a93=>exact H19.out);(case a94=>(rw[HL9.out];exact Nat.le_of_ble_eq_true rfl));(case a95=>exact splice_all HL9.out);intro z9 hx kx;have HX9:=lH hx;clear hx;have KX9:=lH kx;clear kx))
  refine bodyPost_ret (v:=.agg vs9.toArray) (results_cell (P:=Tryz.prog) rfl rfl HX9.out _ Tryz.underlying90 rfl (by rw[HL9.out];kernel_rfl)) rfl ?_
  exact⟨vs9,χ9,rfl,obox_fin (obox_to HO9.out inferInstance) KX9.out (show w.heap.size+1<W2.heap.size by omega) hW2,Later.of⟩
 ·obtain⟨fa,fc,ec,-⟩:=HG.out.own mUps
  have ec2:∀ (W:World) [Grows z1.w W],W.cell? ⟨qb,14,none⟩=some (.slice fa 0 fc):=fun W g=>(ec W).trans (congrArg (fun k:Nat=>some (Value.slice fa k fc)) (show m.Ups.length=0 by rw[h0];rfl))
  have et:=gb_time HG.out
  clear ec
  go_upto_region 6 with(first|((with_reducible refine wp_region_later (by kernel_rfl) (by kernel_rfl) ?_);(repeat(first|go_big_quiet_step (first|(go_at_call 297;exact Gives.quiet (c_isplitFlights0)))));refine wpQuiet_nil ?_;rintro _ ⟨x,rfl⟩)|(go_at_call 297;refine(c_isplitFlights0).mono ?_;rintro _ _ ⟨rfl,x,rfl⟩)|(refine step_gbN (n:=0) rfl rfl _ _ _ rfl (GBp.new (F:=mUps) (l:=[]) (a:=none) (c:=0) HG.out inferInstance OwnC.nil) rfl rfl (by kernel_rfl) inferInstance (Nat.le_refl _) ?_;intro z2 hz2))
  (try simp only[Act.put])
  have HZ2:=lH (show GB (fun _=>False) W2.heap.size qb z2.w m from(show mUps.set m []=m by cases m;simp only at h0;subst h0;rfl)▸hz2)
  clear hz2
  obtain⟨vs8,hH8,hl8,h18,-,χ8,hO8⟩:=HZ2.out.vs
  have HH8:=lH hH8;have HO8:=lH hO8;have H18:=lH h18;have HL8:=lH (show vs8.length=61 from hl8)
  clear hO8 hH8 h18 hl8
  go_wp2_with fail
  go_loopw [31] (fun v wr=>v=.int .i64 0∧∃ y:Later z2.w,wr=y.w) (fun _ _=>0)
  case atStart=>exact⟨rfl,Later.of⟩
  case round =>
   obtain⟨rfl,y,rfl⟩:=hrel
   go_wp2_with (first|(refine stepLoad rfl _ (.tmp 3) rfl (qb) 0 (by kernel_rfl) (row:=vs8) (HH8.out.to inferInstance) _ Tryz.underlying90 rfl (by rw[HL8.out];kernel_rfl) (by rw[List.drop_zero,List.take_length]) ?_)|(refine stepStore2 rfl _ _ _ rfl (w.heap.size+1) 0 rfl (us:=vs8) (cs2:=vs8) (HR.out.to inferInstance) ?a81 ?a82 ?a83 ?a84 ?a85 (w0:=w) inferInstance (by omega) ?_;(case a81=>rfl);(case a82=>(rw[HL8.out];kernel_rfl));(case a83=>exact H18.out);(case a84=>(rw[HL8.out];exact Nat.le_of_ble_eq_true rfl));(case a85=>exact splice_all HL8.out);intro z8 hx kx;have HX8:=lH hx;clear hx;have KX8:=lH kx;clear kx))
   refine bodyPost_ret (v:=.agg vs8.toArray) (results_cell (P:=Tryz.prog) rfl rfl HX8.out _ Tryz.underlying90 rfl (by rw[HL8.out];kernel_rfl)) rfl ?_
   exact⟨vs8,χ8,rfl,obox_fin (obox_to HO8.out inferInstance) KX8.out (show w.heap.size+1<W2.heap.size by omega) hW2,Later.of⟩
set_option maxRecDepth 100000 in
set_option maxHeartbeats 4000000 in
theorem o_iHearDown0{B:Nat}{vs:List Value}{m:TMission}{w:World}(h:Enc.Rd B w vs m)(ht:Enc.tot m≤100000000)(h0:m.Downs=[]) :
  Calls Tryz.prog 206 #[.agg vs.toArray] w (GivesO w (m)):=by
 have HL:=lH (len_mission h)
 have HM:=lH h;clear h
 have HT:=lH ht;clear ht
 have HB:=lH ((Held.new w vs 90 w.heap.size rfl).to (inferInstance:Grows _ ((w.alloc (.cells vs.toArray 90)).alloc (.cells zMission.toArray 90))))
 have HR:=lH (Held.new (w.alloc (.cells vs.toArray 90)) zMission 90 (w.heap.size+1) (by simp))
 have gW:Grows w ((w.alloc (.cells vs.toArray 90)).alloc (.cells zMission.toArray 90)):=inferInstance
 have hsz:((w.alloc (.cells vs.toArray 90)).alloc (.cells zMission.toArray 90)).heap.size=w.heap.size+2:=by simp
 go_enter Tryz.func206,Tryz.ntmps206
 go_upto_region 1 with(first|((with_reducible refine wp_region_later (by kernel_rfl) (by kernel_rfl) ?_);(repeat(first|go_big_quiet_step (first|fail)));refine wpQuiet_nil ?_;rintro _ ⟨x,rfl⟩))
 generalize ((w.alloc (.cells vs.toArray 90)).alloc (.cells zMission.toArray 90))=W2 at HB HR gW hsz ⊢
 have iB:LtN w.heap.size W2.heap.size:=⟨by omega⟩
 have iR:LtN (w.heap.size+1) W2.heap.size:=⟨by omega⟩
 have hW2:w.heap.size≤W2.heap.size:=by omega
 go_wp2_with (first|(refine stepLoad rfl _ (.tmp 1) rfl (w.heap.size) 0 (by kernel_rfl) (row:=vs) (HB.out.to inferInstance) _ Tryz.underlying90 rfl (by rw[HL.out];kernel_rfl) (by rw[List.drop_zero,List.take_length]) ?_))
 refine(o_cloneMission (x:=m) (Enc.keep HM.out inferInstance) HT.out).mono ?_
 rintro _ _ ⟨cs,χ,rfl,hO,y1,rfl⟩
 have HLC:=lH (len_mission (EncO.toRd hO));have HOC:=lH (one_mission (EncO.toRd hO));have HO:=lH hO;clear hO
 go_upto_region 2 with(first|((with_reducible refine wp_region_later (by kernel_rfl) (by kernel_rfl) ?_);(repeat(first|go_big_quiet_step (first|fail)));refine wpQuiet_nil ?_;rintro _ ⟨x,rfl⟩)|(refine stepStore2 rfl _ _ _ rfl _ 0 rfl (us:=cs) (cs2:=cs) (Held.new _ zMission 90 _ rfl) ?a11 ?a12 ?a13 ?a14 ?a15 (w0:=W2) inferInstance LeN.out ?_;(case a11=>rfl);(case a12=>(rw[HLC.out];kernel_rfl));(case a13=>exact HOC.out);(case a14=>(rw[HLC.out];exact Nat.le_of_ble_eq_true rfl));(case a15=>exact splice_all HLC.out);intro z1 hx kx;have HX1:=lH hx;clear hx;have KX1:=lH kx;clear kx))
 (try simp only[Act.put])
 obtain⟨qb,hqb⟩:∃ qb,y1.w.heap.size=qb:=⟨_,rfl⟩
 rw[hqb]
 have HG:=lH (show GB (fun _=>False) W2.heap.size qb z1.w m from hqb▸GB.of HO.out (KX1.out.under inferInstance (Nat.le_refl _)) y1.size_le HX1.out)
 have hqB:W2.heap.size≤qb:=HG.out.le
 have hqlt:LtN qb z1.w.heap.size:=⟨HG.out.lt⟩
 clear hqb HX1 KX1 HO HLC HOC
 go_wp2_with (first|(refine stepLoad rfl _ (.tmp 1) rfl (w.heap.size) 0 (by kernel_rfl) (row:=vs) (HB.out.to inferInstance) _ Tryz.underlying90 rfl (by rw[HL.out];kernel_rfl) (by rw[List.drop_zero,List.take_length]) ?_))
 refine(c_iMissionOk (m:=m) (Enc.keep HM.out inferInstance) HT.out).mono ?_
 rintro _ _ ⟨rfl,y2,rfl⟩
 cases hv:missionOk m
 ·obtain⟨vs9,hH9,hl9,h19,-,χ9,hO9⟩:=HG.out.vs
  have HH9:=lH hH9;have HO9:=lH hO9;have H19:=lH h19;have HL9:=lH (show vs9.length=61 from hl9)
  clear hO9 hH9 h19 hl9
  go_wp2_with (first|(refine stepLoad rfl _ (.tmp 3) rfl (qb) 0 (by kernel_rfl) (row:=vs9) (HH9.out.to inferInstance) _ Tryz.underlying90 rfl (by rw[HL9.out];kernel_rfl) (by rw[List.drop_zero,List.take_length]) ?_)|(refine stepStore2 rfl _ _ _ rfl (w.heap.size+1) 0 rfl (us:=vs9) (cs2:=vs9) (HR.out.to inferInstance) ?a91 ?a92 ?a93 ?a94 ?a95 (w0:=w) inferInstance (by omega) ?_;(case a91=>rfl);(case a92=>(rw[HL9.out];kernel_rfl));(case a93=>exact H19.out);(case a94=>(rw[HL9.out];exact Nat.le_of_ble_eq_true rfl));(case a95=>exact splice_all HL9.out);intro z9 hx kx;have HX9:=lH hx;clear hx;have KX9:=lH kx;clear kx))
  refine bodyPost_ret (v:=.agg vs9.toArray) (results_cell (P:=Tryz.prog) rfl rfl HX9.out _ Tryz.underlying90 rfl (by rw[HL9.out];kernel_rfl)) rfl ?_
  exact⟨vs9,χ9,rfl,obox_fin (obox_to HO9.out inferInstance) KX9.out (show w.heap.size+1<W2.heap.size by omega) hW2,Later.of⟩
 ·obtain⟨fa,fc,ec,-⟩:=HG.out.own mDowns
  have ec2:∀ (W:World) [Grows z1.w W],W.cell? ⟨qb,15,none⟩=some (.slice fa 0 fc):=fun W g=>(ec W).trans (congrArg (fun k:Nat=>some (Value.slice fa k fc)) (show m.Downs.length=0 by rw[h0];rfl))
  have et:=gb_time HG.out
  clear ec
  go_upto_region 6 with(first|((with_reducible refine wp_region_later (by kernel_rfl) (by kernel_rfl) ?_);(repeat(first|go_big_quiet_step (first|(go_at_call 297;exact Gives.quiet (c_isplitFlights0)))));refine wpQuiet_nil ?_;rintro _ ⟨x,rfl⟩)|(go_at_call 297;refine(c_isplitFlights0).mono ?_;rintro _ _ ⟨rfl,x,rfl⟩)|(refine step_gbN (n:=0) rfl rfl _ _ _ rfl (GBp.new (F:=mDowns) (l:=[]) (a:=none) (c:=0) HG.out inferInstance OwnC.nil) rfl rfl (by kernel_rfl) inferInstance (Nat.le_refl _) ?_;intro z2 hz2))
  (try simp only[Act.put])
  have HZ2:=lH (show GB (fun _=>False) W2.heap.size qb z2.w m from(show mDowns.set m []=m by cases m;simp only at h0;subst h0;rfl)▸hz2)
  clear hz2
  obtain⟨vs8,hH8,hl8,h18,-,χ8,hO8⟩:=HZ2.out.vs
  have HH8:=lH hH8;have HO8:=lH hO8;have H18:=lH h18;have HL8:=lH (show vs8.length=61 from hl8)
  clear hO8 hH8 h18 hl8
  go_wp2_with fail
  go_loopw [33] (fun v wr=>v=.int .i64 0∧∃ y:Later z2.w,wr=y.w) (fun _ _=>0)
  case atStart=>exact⟨rfl,Later.of⟩
  case round =>
   obtain⟨rfl,y,rfl⟩:=hrel
   go_wp2_with (first|(refine stepLoad rfl _ (.tmp 3) rfl (qb) 0 (by kernel_rfl) (row:=vs8) (HH8.out.to inferInstance) _ Tryz.underlying90 rfl (by rw[HL8.out];kernel_rfl) (by rw[List.drop_zero,List.take_length]) ?_)|(refine stepStore2 rfl _ _ _ rfl (w.heap.size+1) 0 rfl (us:=vs8) (cs2:=vs8) (HR.out.to inferInstance) ?a81 ?a82 ?a83 ?a84 ?a85 (w0:=w) inferInstance (by omega) ?_;(case a81=>rfl);(case a82=>(rw[HL8.out];kernel_rfl));(case a83=>exact H18.out);(case a84=>(rw[HL8.out];exact Nat.le_of_ble_eq_true rfl));(case a85=>exact splice_all HL8.out);intro z8 hx kx;have HX8:=lH hx;clear hx;have KX8:=lH kx;clear kx))
   refine bodyPost_ret (v:=.agg vs8.toArray) (results_cell (P:=Tryz.prog) rfl rfl HX8.out _ Tryz.underlying90 rfl (by rw[HL8.out];kernel_rfl)) rfl ?_
   exact⟨vs8,χ8,rfl,obox_fin (obox_to HO8.out inferInstance) KX8.out (show w.heap.size+1<W2.heap.size by omega) hW2,Later.of⟩
set_option maxRecDepth 100000 in
set_option maxHeartbeats 4000000 in
theorem o_iSendDown0{B:Nat}{vs:List Value}{m:TMission}{w:World}(h:Enc.Rd B w vs m)(ht:Enc.tot m≤100000000)(h0:visible m.Orbit.Period m.Orbit.Start m.Orbit.Length m.Time=false) :
  Calls Tryz.prog 207 #[.agg vs.toArray] w (GivesO w (m)):=by
 have HL:=lH (len_mission h)
 have HM:=lH h;clear h
 have HT:=lH ht;clear ht
 have HB:=lH ((Held.new w vs 90 w.heap.size rfl).to (inferInstance:Grows _ ((w.alloc (.cells vs.toArray 90)).alloc (.cells zMission.toArray 90))))
 have HR:=lH (Held.new (w.alloc (.cells vs.toArray 90)) zMission 90 (w.heap.size+1) (by simp))
 have gW:Grows w ((w.alloc (.cells vs.toArray 90)).alloc (.cells zMission.toArray 90)):=inferInstance
 have hsz:((w.alloc (.cells vs.toArray 90)).alloc (.cells zMission.toArray 90)).heap.size=w.heap.size+2:=by simp
 go_enter Tryz.func207,Tryz.ntmps207
 go_upto_region 1 with(first|((with_reducible refine wp_region_later (by kernel_rfl) (by kernel_rfl) ?_);(repeat(first|go_big_quiet_step (first|fail)));refine wpQuiet_nil ?_;rintro _ ⟨x,rfl⟩))
 generalize ((w.alloc (.cells vs.toArray 90)).alloc (.cells zMission.toArray 90))=W2 at HB HR gW hsz ⊢
 have iB:LtN w.heap.size W2.heap.size:=⟨by omega⟩
 have iR:LtN (w.heap.size+1) W2.heap.size:=⟨by omega⟩
 have hW2:w.heap.size≤W2.heap.size:=by omega
 have HR4:=lH (show(vs.drop 4).take 3=[.int .i64 m.Orbit.Period,.int .i64 m.Orbit.Start,.int .i64 m.Orbit.Length]by obtain⟨A,h1,-⟩:=HM.out;rw[h1];rfl)
 have HR0:=lH (show vs[0]?=some (.int .i64 m.Time)by obtain⟨A,h1,-⟩:=HM.out;rw[h1];rfl)
 go_wp2_with (first|(refine stepLoad rfl _ (.tmp 1) rfl (w.heap.size) 0 (by kernel_rfl) (row:=vs) (HB.out.to inferInstance) _ Tryz.underlying90 rfl (by rw[HL.out];kernel_rfl) (by rw[List.drop_zero,List.take_length]) ?_))
 refine(o_cloneMission (x:=m) (Enc.keep HM.out inferInstance) HT.out).mono ?_
 rintro _ _ ⟨cs,χ,rfl,hO,y1,rfl⟩
 have HLC:=lH (len_mission (EncO.toRd hO));have HOC:=lH (one_mission (EncO.toRd hO));have HO:=lH hO;clear hO
 go_upto_region 2 with(first|((with_reducible refine wp_region_later (by kernel_rfl) (by kernel_rfl) ?_);(repeat(first|go_big_quiet_step (first|fail)));refine wpQuiet_nil ?_;rintro _ ⟨x,rfl⟩)|(refine stepStore2 rfl _ _ _ rfl _ 0 rfl (us:=cs) (cs2:=cs) (Held.new _ zMission 90 _ rfl) ?a11 ?a12 ?a13 ?a14 ?a15 (w0:=W2) inferInstance LeN.out ?_;(case a11=>rfl);(case a12=>(rw[HLC.out];kernel_rfl));(case a13=>exact HOC.out);(case a14=>(rw[HLC.out];exact Nat.le_of_ble_eq_true rfl));(case a15=>exact splice_all HLC.out);intro z1 hx kx;have HX1:=lH hx;clear hx;have KX1:=lH kx;clear kx))
 (try simp only[Act.put])
 obtain⟨qb,hqb⟩:∃ qb,y1.w.heap.size=qb:=⟨_,rfl⟩
 rw[hqb]
 have HG:=lH (show GB (fun _=>False) W2.heap.size qb z1.w m from hqb▸GB.of HO.out (KX1.out.under inferInstance (Nat.le_refl _)) y1.size_le HX1.out)
 have hqB:W2.heap.size≤qb:=HG.out.le
 have hqlt:LtN qb z1.w.heap.size:=⟨HG.out.lt⟩
 clear hqb HX1 KX1 HO HLC HOC
 obtain⟨vs9,hH9,hl9,h19,-,χ9,hO9⟩:=HG.out.vs
 have HH9:=lH hH9;have HO9:=lH hO9;have H19:=lH h19;have HL9:=lH (show vs9.length=61 from hl9)
 clear hO9 hH9 h19 hl9
 go_wp2_with (first|(refine stepLoad rfl _ (.tmp 1) rfl (w.heap.size) 0 (by kernel_rfl) (row:=vs) (HB.out.to inferInstance) _ Tryz.underlying90 rfl (by rw[HL.out];kernel_rfl) (by rw[List.drop_zero,List.take_length]) ?_))
 refine(c_iMissionOk (m:=m) (Enc.keep HM.out inferInstance) HT.out).mono ?_
 rintro _ _ ⟨rfl,y2,rfl⟩
 cases hv:missionOk m
 ·go_wp2_with (first|(refine stepLoad rfl _ (.tmp 3) rfl (qb) 0 (by kernel_rfl) (row:=vs9) (HH9.out.to inferInstance) _ Tryz.underlying90 rfl (by rw[HL9.out];kernel_rfl) (by rw[List.drop_zero,List.take_length]) ?_)|(refine stepStore2 rfl _ _ _ rfl (w.heap.size+1) 0 rfl (us:=vs9) (cs2:=vs9) (HR.out.to inferInstance) ?a91 ?a92 ?a93 ?a94 ?a95 (w0:=w) inferInstance (by omega) ?_;(case a91=>rfl);(case a92=>(rw[HL9.out];kernel_rfl));(case a93=>exact H19.out);(case a94=>(rw[HL9.out];exact Nat.le_of_ble_eq_true rfl));(case a95=>exact splice_all HL9.out);intro z9 hx kx;have HX9:=lH hx;clear hx;have KX9:=lH kx;clear kx))
  refine bodyPost_ret (v:=.agg vs9.toArray) (results_cell (P:=Tryz.prog) rfl rfl HX9.out _ Tryz.underlying90 rfl (by rw[HL9.out];kernel_rfl)) rfl ?_
  exact⟨vs9,χ9,rfl,obox_fin (obox_to HO9.out inferInstance) KX9.out (show w.heap.size+1<W2.heap.size by omega) hW2,Later.of⟩
 ·go_wp2_with (first|(refine stepLoadW (by first|kernel_rfl|go_simp) _ (.tmp 18) rfl (w.heap.size) 4 (by kernel_rfl) (row:=[.int .i64 m.Orbit.Period,.int .i64 m.Orbit.Start,.int .i64 m.Orbit.Length]) (HB.out.to inferInstance) _ Tryz.underlying63 rfl (by kernel_rfl) HR4.out ?_)|(refine stepLoad1W (by first|kernel_rfl|go_simp) _ (.tmp 20) rfl (w.heap.size) 0 (by kernel_rfl) (HB.out.to inferInstance) (.int .i64 m.Time) HR0.out _ Tryz.underlying3 rfl ?_))
  refine(c_iVisible).mono ?_
  rintro _ _ ⟨rfl,y3,rfl⟩
  rw[h0]
  go_wp2_with (first|(refine stepLoad rfl _ (.tmp 3) rfl (qb) 0 (by kernel_rfl) (row:=vs9) (HH9.out.to inferInstance) _ Tryz.underlying90 rfl (by rw[HL9.out];kernel_rfl) (by rw[List.drop_zero,List.take_length]) ?_)|(refine stepStore2 rfl _ _ _ rfl (w.heap.size+1) 0 rfl (us:=vs9) (cs2:=vs9) (HR.out.to inferInstance) ?a91 ?a92 ?a93 ?a94 ?a95 (w0:=w) inferInstance (by omega) ?_;(case a91=>rfl);(case a92=>(rw[HL9.out];kernel_rfl));(case a93=>exact H19.out);(case a94=>(rw[HL9.out];exact Nat.le_of_ble_eq_true rfl));(case a95=>exact splice_all HL9.out);intro z9 hx kx;have HX9:=lH hx;clear hx;have KX9:=lH kx;clear kx))
  refine bodyPost_ret (v:=.agg vs9.toArray) (results_cell (P:=Tryz.prog) rfl rfl HX9.out _ Tryz.underlying90 rfl (by rw[HL9.out];kernel_rfl)) rfl ?_
  exact⟨vs9,χ9,rfl,obox_fin (obox_to HO9.out inferInstance) KX9.out (show w.heap.size+1<W2.heap.size by omega) hW2,Later.of⟩
theorem len_board{B:Nat}{w:World}{vs:List Value}{r:TBoard}(h:Enc.Rd B w vs r):vs.length=12:=Enc.len h
theorem one_board{B:Nat}{w:World}{vs:List Value}{r:TBoard}(h:Enc.Rd B w vs r):vs.all (·.oneCell')=true:=by
 obtain⟨A,rfl,-⟩:=h;rfl
theorem tick_parts{b:TBoard}(h:Idle b)(hc:b.Clock<1000000):boardOk b=true∧(b.Clock == 1000000)=false∧decide ((60000:Int)<b.Made)=false∧decide ((60000:Int)<b.Taken)=false:=by
 refine⟨h.ok,?_,by rw[h.made];rfl,by rw[h.taken];rfl⟩
 simp;omega
set_option maxRecDepth 100000 in
set_option maxHeartbeats 4000000 in
theorem o_iTickBoard0{B:Nat}{vs:List Value}{b:TBoard}{w:World}(h:Enc.Rd B w vs b)(ht:Enc.tot b≤100000000)(hi:Idle b)(hc:b.Clock<1000000) :
  Calls Tryz.prog 46 #[.agg vs.toArray] w (GivesO w { b with Clock:=b.Clock+1 }):=by
 have HL:=lH (len_board h)
 have HM:=lH h
 have HT:=lH ht;clear ht
 obtain⟨A,rfl,F⟩:=h
 have hbt:=board_tot b
 have hrt:=totL_len b.Recorder.Records
 have hmm:b.Params.length≤100000000∧b.Limits.length≤100000000∧b.Orders.length≤100000000∧b.Done.length≤100000000∧b.Recorder.Records.length≤100000000∧b.Recorder.Dropped.length≤100000000∧b.Asked.length≤100000000:=by have:=HT.out;omega
 have HMM:=lH hmm
 clear hbt hrt hmm
 have HF:=lH F;clear F
 obtain⟨c0,c1,c2,c3⟩:=tick_parts hi hc
 have h04:=lH hi.ords;have h05:=lH hi.done;have h011:=lH hi.asked
 have hcl:=lH (idle_clock hi)
 clear hi
 have HB:=lH ((Held.new w (dBoard b A) 84 w.heap.size rfl).to (inferInstance:Grows _ ((w.alloc (.cells (dBoard b A).toArray 84)).alloc (.cells zBoard.toArray 84))))
 have HR:=lH (Held.new (w.alloc (.cells (dBoard b A).toArray 84)) zBoard 84 (w.heap.size+1) (by simp))
 have gW:Grows w ((w.alloc (.cells (dBoard b A).toArray 84)).alloc (.cells zBoard.toArray 84)):=inferInstance
 have hsz:((w.alloc (.cells (dBoard b A).toArray 84)).alloc (.cells zBoard.toArray 84)).heap.size=w.heap.size+2:=by simp
 go_enter Tryz.func46,Tryz.ntmps46
 go_upto_region 1 with(first|((with_reducible refine wp_region_later (by kernel_rfl) (by kernel_rfl) ?_);(repeat(first|go_big_quiet_step (first|fail)));refine wpQuiet_nil ?_;rintro _ ⟨x,rfl⟩))
 generalize ((w.alloc (.cells (dBoard b A).toArray 84)).alloc (.cells zBoard.toArray 84))=W2 at HB HR gW hsz ⊢
 have iB:LtN w.heap.size W2.heap.size:=⟨by omega⟩
 have iR:LtN (w.heap.size+1) W2.heap.size:=⟨by omega⟩
 have hW2:w.heap.size≤W2.heap.size:=by omega
 go_wp2_with (first|((with_reducible refine wp_region_later (by kernel_rfl) (by kernel_rfl) ?_);(repeat(first|go_big_quiet_step (first|fail)));refine wpQuiet_nil ?_;rintro _ ⟨x,rfl⟩)|(refine stepLoad rfl _ (.tmp 1) rfl (w.heap.size) 0 rfl (row:=(dBoard b A)) (HB.out.to inferInstance) _ Tryz.underlying84 rfl (by kernel_rfl) rfl ?_))
 refine(o_cloneBoard (x:=b) (Enc.keep HM.out inferInstance) HT.out).mono ?_
 rintro _ _ ⟨cs,χ,rfl,hO,y1,rfl⟩
 have HLC:=lH (len_board (EncO.toRd hO));have HOC:=lH (one_board (EncO.toRd hO));have HO:=lH hO;clear hO
 go_upto_region 2 with(first|((with_reducible refine wp_region_later (by kernel_rfl) (by kernel_rfl) ?_);(repeat(first|go_big_quiet_step (first|fail)));refine wpQuiet_nil ?_;rintro _ ⟨x,rfl⟩)|(refine stepStore2 rfl _ _ _ rfl _ 0 rfl (us:=cs) (cs2:=cs) (Held.new _ zBoard 84 _ rfl) ?a11 ?a12 ?a13 ?a14 ?a15 (w0:=W2) inferInstance LeN.out ?_;(case a11=>rfl);(case a12=>(rw[HLC.out];kernel_rfl));(case a13=>exact HOC.out);(case a14=>(rw[HLC.out];exact Nat.le_of_ble_eq_true rfl));(case a15=>exact splice_all HLC.out);intro z1 hx kx;have HX1:=lH hx;clear hx;have KX1:=lH kx;clear kx))
 (try simp only[Act.put])
 obtain⟨qb,hqb⟩:∃ qb,y1.w.heap.size=qb:=⟨_,rfl⟩
 rw[hqb]
 have HG:=lH (show GB (fun _=>False) W2.heap.size qb z1.w b from hqb▸GB.of HO.out (KX1.out.under inferInstance (Nat.le_refl _)) y1.size_le HX1.out)
 have hqB:W2.heap.size≤qb:=HG.out.le
 have hqlt:LtN qb z1.w.heap.size:=⟨HG.out.lt⟩
 clear hqb HX1 KX1 HO HLC HOC
 go_wp2_with (first|((with_reducible refine wp_region_later (by kernel_rfl) (by kernel_rfl) ?_);(repeat(first|go_big_quiet_step (first|fail)));refine wpQuiet_nil ?_;rintro _ ⟨x,rfl⟩)|(refine stepLoad rfl _ (.tmp 1) rfl (w.heap.size) 0 rfl (row:=(dBoard b A)) (HB.out.to inferInstance) _ Tryz.underlying84 rfl (by kernel_rfl) rfl ?_))
 obtain⟨m0,m1,m2,m3,m4,m5,m6⟩:=HMM.out
 refine(k_iBoardOk (bd:=b) HF.out.q0 HF.out.q1 HF.out.q2 HF.out.q3 HF.out.q4 HF.out.q5 HF.out.q6 (g:=inferInstance) HF.out.ok rfl rfl rfl rfl rfl rfl rfl m0 m1 m2 m3 m4 m5 m6).mono ?_
 rintro _ _ ⟨rfl,y2,rfl⟩
 rw[c0]
 clear m0 m1 m2 m3 m4 m5 m6
 have e0:=HB.out.cellG 0 _ rfl
 have e9:=HB.out.cellG 9 _ rfl
 have e10:=HB.out.cellG 10 _ rfl
 have e5:∀ (W:World) [Grows W2 W],W.cell? ⟨w.heap.size,5,none⟩=some (.slice A.a3 0 A.c3):=fun W g=>(HB.out.cellG 5 _ rfl W).trans (congrArg (fun k:Nat=>some (Value.slice A.a3 k A.c3)) (show b.Done.length=0 by rw[h05.out];rfl))
 have e11:∀ (W:World) [Grows W2 W],W.cell? ⟨w.heap.size,11,none⟩=some (.slice A.a6 0 A.c6):=fun W g=>(HB.out.cellG 11 _ rfl W).trans (congrArg (fun k:Nat=>some (Value.slice A.a6 k A.c6)) (show b.Asked.length=0 by rw[h011.out];rfl))
 go_upto_region 4 with(first|((with_reducible refine wp_region_later (by kernel_rfl) (by kernel_rfl) ?_);(repeat(first|go_big_quiet_step (first|fail)|simp only[c1]|simp only[c2]|simp only[c3]));refine wpQuiet_nil ?_;rintro _ ⟨x,rfl⟩))
 have et:∀ (W:World) [Grows z1.w W],W.cell? ⟨qb,0,none⟩=some (.int .i64 b.Clock):=by
  obtain⟨vs6,hH6,-,-,⟨A6,rfl,-⟩,-⟩:=HG.out.vs
  exact hH6.cellG 0 _ rfl
 have hcl0:=hcl.out
 go_upto_region 5 with(first|((with_reducible refine wp_region_later (by kernel_rfl) (by kernel_rfl) ?_);(repeat(first|go_big_quiet_step (first|fail)));refine wpQuiet_nil ?_;rintro _ ⟨x,rfl⟩)|(refine step_gbC (o:=0) (us:=[.int .i64 (b.Clock+1)]) ({ b with Clock:=b.Clock+1 }:TBoard) rfl _ (.tmp 41) (.tmp 40) rfl (HG.out.to inferInstance) rfl rfl (by kernel_rfl) rfl (Nat.le_of_ble_eq_true rfl) (by intros;rename_i h;obtain⟨A1,rfl,q⟩:=h;exact⟨A1,rfl,{ q with ok:=⟨(by show i64 (b.Clock+1);have:=hcl.out;unfold i64;omega),q.ok.2⟩ }⟩) inferInstance (Nat.le_refl _) ?_;intro z2 hz2 hX2))
 (try simp only[Act.put])
 have HZ2:=lH hz2;clear hz2 et hX2
 obtain⟨oa,oc,eo,-,-,-⟩:=HZ2.out.own fBoardOrders
 have eo2:∀ (W:World) [Grows z2.w W],W.cell? ⟨qb,4,none⟩=some (.slice oa 0 oc):=fun W g=>(eo W).trans (congrArg (fun k:Nat=>some (Value.slice oa k oc)) (show b.Orders.length=0 by rw[h04.out];rfl))
 clear eo e0 e9 e10 e5 e11
 obtain⟨vs9,hH9,hl9,h19,-,χ9,hO9⟩:=HZ2.out.vs
 have HH9:=lH hH9;have HO9:=lH hO9;have H19:=lH h19;have HL9:=lH (show vs9.length=12 from hl9)
 clear hO9 hH9 h19 hl9
 go_loopw [] (fun wr=>∃ y:Later z2.w,wr=y.w) (fun _=>0)
 case atStart=>exact Later.of
 case round =>
  obtain⟨y,rfl⟩:=hrel
  go_wp2_with (first|((with_reducible refine wp_region_later (by kernel_rfl) (by kernel_rfl) ?_);(repeat(first|go_big_quiet_step (first|fail)));refine wpQuiet_nil ?_;rintro _ ⟨x,rfl⟩)|(refine stepLoad rfl _ (.tmp 3) rfl (qb) 0 (by kernel_rfl) (row:=vs9) (HH9.out.to inferInstance) _ Tryz.underlying84 rfl (by rw[HL9.out];kernel_rfl) (by rw[List.drop_zero,List.take_length]) ?_)|(refine stepStore2 rfl _ _ _ rfl (w.heap.size+1) 0 rfl (us:=vs9) (cs2:=vs9) (HR.out.to inferInstance) ?a91 ?a92 ?a93 ?a94 ?a95 (w0:=w) inferInstance (by omega) ?_;(case a91=>rfl);(case a92=>(rw[HL9.out];kernel_rfl));(case a93=>exact H19.out);(case a94=>(rw[HL9.out];exact Nat.le_of_ble_eq_true rfl));(case a95=>exact splice_all HL9.out);intro z9 hx kx;have HX9:=lH hx;clear hx;have KX9:=lH kx;clear kx))
  refine bodyPost_ret (v:=.agg vs9.toArray) (results_cell (P:=Tryz.prog) rfl rfl HX9.out _ Tryz.underlying84 rfl (by rw[HL9.out];kernel_rfl)) rfl ?_
  exact⟨vs9,χ9,rfl,obox_fin (obox_to HO9.out inferInstance) KX9.out (show w.heap.size+1<W2.heap.size by omega) hW2,Later.of⟩
set_option maxRecDepth 100000 in
set_option maxHeartbeats 4000000 in
theorem o_sTickBoard0{B:Nat}{vs:List Value}{b:TBoard}{w:World}(h:Enc.Rd B w vs b)(ht:Enc.tot b≤100000000)(hi:Idle b)(hc:b.Clock<1000000) :
  Calls Tryz.prog 33 #[.agg vs.toArray] w (GivesO w { b with Clock:=b.Clock+1 }):=by
 have HL:=lH (len_board h)
 have HM:=lH h
 have HT:=lH ht;clear ht
 obtain⟨A,rfl,F⟩:=h
 have hbt:=board_tot b
 have hrt:=totL_len b.Recorder.Records
 have hmm:b.Params.length≤100000000∧b.Limits.length≤100000000∧b.Orders.length≤100000000∧b.Done.length≤100000000∧b.Recorder.Records.length≤100000000∧b.Recorder.Dropped.length≤100000000∧b.Asked.length≤100000000:=by have:=HT.out;omega
 have HMM:=lH hmm
 clear hbt hrt hmm
 have HF:=lH F;clear F
 obtain⟨c0,c1,c2,c3⟩:=tick_parts hi hc
 have h04:=lH hi.ords;have h05:=lH hi.done;have h011:=lH hi.asked
 have hcl:=lH (idle_clock hi)
 clear hi
 have HB:=lH ((Held.new w (dBoard b A) 84 w.heap.size rfl).to (inferInstance:Grows _ ((w.alloc (.cells (dBoard b A).toArray 84)).alloc (.cells zBoard.toArray 84))))
 have HR:=lH (Held.new (w.alloc (.cells (dBoard b A).toArray 84)) zBoard 84 (w.heap.size+1) (by simp))
 have gW:Grows w ((w.alloc (.cells (dBoard b A).toArray 84)).alloc (.cells zBoard.toArray 84)):=inferInstance
 have hsz:((w.alloc (.cells (dBoard b A).toArray 84)).alloc (.cells zBoard.toArray 84)).heap.size=w.heap.size+2:=by simp
 go_enter Tryz.func33,Tryz.ntmps33
 go_upto_region 1 with(first|((with_reducible refine wp_region_later (by kernel_rfl) (by kernel_rfl) ?_);(repeat(first|go_big_quiet_step (first|fail)));refine wpQuiet_nil ?_;rintro _ ⟨x,rfl⟩))
 generalize ((w.alloc (.cells (dBoard b A).toArray 84)).alloc (.cells zBoard.toArray 84))=W2 at HB HR gW hsz ⊢
 have iB:LtN w.heap.size W2.heap.size:=⟨by omega⟩
 have iR:LtN (w.heap.size+1) W2.heap.size:=⟨by omega⟩
 have hW2:w.heap.size≤W2.heap.size:=by omega
 go_wp2_with (first|((with_reducible refine wp_region_later (by kernel_rfl) (by kernel_rfl) ?_);(repeat(first|go_big_quiet_step (first|fail)));refine wpQuiet_nil ?_;rintro _ ⟨x,rfl⟩)|(refine stepLoad rfl _ (.tmp 1) rfl (w.heap.size) 0 rfl (row:=(dBoard b A)) (HB.out.to inferInstance) _ Tryz.underlying84 rfl (by kernel_rfl) rfl ?_))
 refine(o_copyBoard (x:=b) (Enc.keep HM.out inferInstance) HT.out).mono ?_
 rintro _ _ ⟨cs,χ,rfl,hO,y1,rfl⟩
 have HLC:=lH (len_board (EncO.toRd hO));have HOC:=lH (one_board (EncO.toRd hO));have HO:=lH hO;clear hO
 go_upto_region 2 with(first|((with_reducible refine wp_region_later (by kernel_rfl) (by kernel_rfl) ?_);(repeat(first|go_big_quiet_step (first|fail)));refine wpQuiet_nil ?_;rintro _ ⟨x,rfl⟩)|(refine stepStore2 rfl _ _ _ rfl _ 0 rfl (us:=cs) (cs2:=cs) (Held.new _ zBoard 84 _ rfl) ?a11 ?a12 ?a13 ?a14 ?a15 (w0:=W2) inferInstance LeN.out ?_;(case a11=>rfl);(case a12=>(rw[HLC.out];kernel_rfl));(case a13=>exact HOC.out);(case a14=>(rw[HLC.out];exact Nat.le_of_ble_eq_true rfl));(case a15=>exact splice_all HLC.out);intro z1 hx kx;have HX1:=lH hx;clear hx;have KX1:=lH kx;clear kx))
 (try simp only[Act.put])
 obtain⟨qb,hqb⟩:∃ qb,y1.w.heap.size=qb:=⟨_,rfl⟩
 rw[hqb]
 have HG:=lH (show GB (fun _=>False) W2.heap.size qb z1.w b from hqb▸GB.of HO.out (KX1.out.under inferInstance (Nat.le_refl _)) y1.size_le HX1.out)
 have hqB:W2.heap.size≤qb:=HG.out.le
 have hqlt:LtN qb z1.w.heap.size:=⟨HG.out.lt⟩
 clear hqb HX1 KX1 HO HLC HOC
 go_wp2_with (first|((with_reducible refine wp_region_later (by kernel_rfl) (by kernel_rfl) ?_);(repeat(first|go_big_quiet_step (first|fail)));refine wpQuiet_nil ?_;rintro _ ⟨x,rfl⟩)|(refine stepLoad rfl _ (.tmp 1) rfl (w.heap.size) 0 rfl (row:=(dBoard b A)) (HB.out.to inferInstance) _ Tryz.underlying84 rfl (by kernel_rfl) rfl ?_))
 obtain⟨m0,m1,m2,m3,m4,m5,m6⟩:=HMM.out
 refine(k_sBoardOk (bd:=b) HF.out.q0 HF.out.q1 HF.out.q2 HF.out.q3 HF.out.q4 HF.out.q5 HF.out.q6 (g:=inferInstance) HF.out.ok rfl rfl rfl rfl rfl rfl rfl m0 m1 m2 m3 m4 m5 m6).mono ?_
 rintro _ _ ⟨rfl,y2,rfl⟩
 rw[c0]
 clear m0 m1 m2 m3 m4 m5 m6
 have e0:=HB.out.cellG 0 _ rfl
 have e9:=HB.out.cellG 9 _ rfl
 have e10:=HB.out.cellG 10 _ rfl
 have e5:∀ (W:World) [Grows W2 W],W.cell? ⟨w.heap.size,5,none⟩=some (.slice A.a3 0 A.c3):=fun W g=>(HB.out.cellG 5 _ rfl W).trans (congrArg (fun k:Nat=>some (Value.slice A.a3 k A.c3)) (show b.Done.length=0 by rw[h05.out];rfl))
 have e11:∀ (W:World) [Grows W2 W],W.cell? ⟨w.heap.size,11,none⟩=some (.slice A.a6 0 A.c6):=fun W g=>(HB.out.cellG 11 _ rfl W).trans (congrArg (fun k:Nat=>some (Value.slice A.a6 k A.c6)) (show b.Asked.length=0 by rw[h011.out];rfl))
 go_upto_region 4 with(first|((with_reducible refine wp_region_later (by kernel_rfl) (by kernel_rfl) ?_);(repeat(first|go_big_quiet_step (first|fail)|simp only[c1]|simp only[c2]|simp only[c3]));refine wpQuiet_nil ?_;rintro _ ⟨x,rfl⟩))
 have et:∀ (W:World) [Grows z1.w W],W.cell? ⟨qb,0,none⟩=some (.int .i64 b.Clock):=by
  obtain⟨vs6,hH6,-,-,⟨A6,rfl,-⟩,-⟩:=HG.out.vs
  exact hH6.cellG 0 _ rfl
 have hcl0:=hcl.out
 go_upto_region 5 with(first|((with_reducible refine wp_region_later (by kernel_rfl) (by kernel_rfl) ?_);(repeat(first|go_big_quiet_step (first|fail)));refine wpQuiet_nil ?_;rintro _ ⟨x,rfl⟩)|(refine step_gbC (o:=0) (us:=[.int .i64 (b.Clock+1)]) ({ b with Clock:=b.Clock+1 }:TBoard) rfl _ (.tmp 41) (.tmp 40) rfl (HG.out.to inferInstance) rfl rfl (by kernel_rfl) rfl (Nat.le_of_ble_eq_true rfl) (by intros;rename_i h;obtain⟨A1,rfl,q⟩:=h;exact⟨A1,rfl,{ q with ok:=⟨(by show i64 (b.Clock+1);have:=hcl.out;unfold i64;omega),q.ok.2⟩ }⟩) inferInstance (Nat.le_refl _) ?_;intro z2 hz2 hX2))
 (try simp only[Act.put])
 have HZ2:=lH hz2;clear hz2 et hX2
 obtain⟨oa,oc,eo,-,-,-⟩:=HZ2.out.own fBoardOrders
 have eo2:∀ (W:World) [Grows z2.w W],W.cell? ⟨qb,4,none⟩=some (.slice oa 0 oc):=fun W g=>(eo W).trans (congrArg (fun k:Nat=>some (Value.slice oa k oc)) (show b.Orders.length=0 by rw[h04.out];rfl))
 clear eo e0 e9 e10 e5 e11
 obtain⟨vs9,hH9,hl9,h19,-,χ9,hO9⟩:=HZ2.out.vs
 have HH9:=lH hH9;have HO9:=lH hO9;have H19:=lH h19;have HL9:=lH (show vs9.length=12 from hl9)
 clear hO9 hH9 h19 hl9
 go_loopw [] (fun wr=>∃ y:Later z2.w,wr=y.w) (fun _=>0)
 case atStart=>exact Later.of
 case round =>
  obtain⟨y,rfl⟩:=hrel
  go_wp2_with (first|((with_reducible refine wp_region_later (by kernel_rfl) (by kernel_rfl) ?_);(repeat(first|go_big_quiet_step (first|fail)));refine wpQuiet_nil ?_;rintro _ ⟨x,rfl⟩)|(refine stepLoad rfl _ (.tmp 3) rfl (qb) 0 (by kernel_rfl) (row:=vs9) (HH9.out.to inferInstance) _ Tryz.underlying84 rfl (by rw[HL9.out];kernel_rfl) (by rw[List.drop_zero,List.take_length]) ?_)|(refine stepStore2 rfl _ _ _ rfl (w.heap.size+1) 0 rfl (us:=vs9) (cs2:=vs9) (HR.out.to inferInstance) ?a91 ?a92 ?a93 ?a94 ?a95 (w0:=w) inferInstance (by omega) ?_;(case a91=>rfl);(case a92=>(rw[HL9.out];kernel_rfl));(case a93=>exact H19.out);(case a94=>(rw[HL9.out];exact Nat.le_of_ble_eq_true rfl));(case a95=>exact splice_all HL9.out);intro z9 hx kx;have HX9:=lH hx;clear hx;have KX9:=lH kx;clear kx))
  refine bodyPost_ret (v:=.agg vs9.toArray) (results_cell (P:=Tryz.prog) rfl rfl HX9.out _ Tryz.underlying84 rfl (by rw[HL9.out];kernel_rfl)) rfl ?_
  exact⟨vs9,χ9,rfl,obox_fin (obox_to HO9.out inferInstance) KX9.out (show w.heap.size+1<W2.heap.size by omega) hW2,Later.of⟩
end Go.Proofs.YtdinhfeflobafaaGreat
