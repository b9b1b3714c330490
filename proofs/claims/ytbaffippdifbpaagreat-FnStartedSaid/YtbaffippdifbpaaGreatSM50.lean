/- The contracts of what draws a mission that begins: l09New. No condition. The contract of DrawMission. No condition but on the code's length. The contract of sameTexts, of two slices that read alike. No condition. -/
import Derived.Test.YtbaffippdifbpaaGreatSNewS
import Derived.Test.YtbaffippdifbpaaGreatSNewD
import Derived.Test.YtbaffippdifbpaaGreatSNewL
namespace Go.Proofs.YtbaffippdifbpaaGreat
set_option linter.unusedVariables false
open Go.ChangeShapes Go.WideShapes Go.ChangeAt Go.RowKit
def isNew(m:TMission):Prop:=(0≤m.Light∧m.Light≤50)∧driftOkT m.Drift=true∧orbitOkT m.Orbit=true∧channelOk m.Up=true∧channelOk m.Down=true∧m.Space.Files.length=8∧(∀ s∈m.Space.Files,s.size≤70)∧(0≤m.Space.Board.Clock∧m.Space.Board.Clock≤1000)
def CurR(p:Nat)(a:Option Addr)(n c:Nat)(l:List Int):World→World→Prop:=fun u v=>u.grownBy v (some p)∧((∃ i,IsCur u p a n c l i)→∃ i,IsCur v p a n c l i)
theorem CurR.refl{p:Nat}{a:Option Addr}{n c:Nat}{l:List Int}(w:World):CurR p a n c l w w:=⟨grownBy_refl _ _,id⟩
theorem CurR.trans{p:Nat}{a:Option Addr}{n c:Nat}{l:List Int}(u v w:World)(h:CurR p a n c l u v)(k:CurR p a n c l v w):CurR p a n c l u w:=⟨grownBy_trans h.1 k.1,fun x=>k.2 (h.2 x)⟩
theorem CurR.drew{p:Nat}{a:Option Addr}{n c:Nat}{l:List Int}(w W:World)(h:CurR p a n c l w.drew W):CurR p a n c l w W :=
 ⟨⟨h.1.os,h.1.tape,h.1.output,h.1.size,h.1.block⟩,fun⟨i,x⟩=>h.2 ⟨i,x.drew⟩⟩
theorem CurR.of{p:Nat}{a:Option Addr}{n c:Nat}{l:List Int}{u v:World}{i:Nat}(g:u.grownBy v (some p))(h:IsCur v p a n c l i):CurR p a n c l u v:=⟨g,fun _=>⟨i,h⟩⟩
theorem CurR.grow{p:Nat}{a:Option Addr}{n c:Nat}{l:List Int}{u v:World}(g:Grows u v):CurR p a n c l u v :=
 ⟨⟨g.out.os,g.out.tape,g.out.output,g.out.size,fun k hk _=>g.out.block k hk⟩,fun⟨i,h⟩=>⟨i,h.kept g.out.size (fun k hk=>g.out.block k (Nat.lt_of_le_of_lt hk h.lt.out))⟩⟩
theorem Held.cur{p b:Nat}{a:Option Addr}{n c:Nat}{l:List Int}{u v:World}{cs:List Value}{T:Nat}(h:Held u b cs T)(g:CurR p a n c l u v)(hp:p<b):Held v b cs T:=h.at g.1 (by omega)
theorem Own.cur{α:Type}{enc:α→List Value}{T size B p:Nat}{a a':Option Addr}{n c c':Nat}{l:List Int}{L:List α}{u v:World}(h:Own enc T size B u a' c' L)(g:CurR p a n c l u v)(hp:p<B):Own enc T size B v a' c' L:=h.kept g.1 (fun k hk=>by cases hk;exact .inl hp)
theorem cur_keeps{p B:Nat}{a:Option Addr}{n c:Nat}{l:List Int}{u v:World}(g:CurR p a n c l u v)(hp:p<B):Keeps B u v:=⟨g.1.size,fun k hk h2=>g.1.block k h2 (fun e=>by cases e;omega)⟩
def encReq2:List Request:=[⟨2,5,60,4⟩,⟨9,0,40,5⟩]
def fst2:List Value→Value
 | [.tuple t]=>t.getD 0 undef
 | _=>undef
def snd2:List Value→Value
 | [.tuple t]=>t.getD 1 undef
 | _=>undef
def one1:List Value→Value
 | [v]=>v
 | _=>undef
theorem newM_isNew{light:Int}{d:TDrift}{o:TOrbit}{pl:List Slot}{up down:TChannel}{room:Int}{L:List TLimit}{fs:List ByteArray}(h1:0≤light∧light≤50)(h2:driftOkT d=true)(h3:orbitOkT o=true)(h4:channelOk up=true)(h5:channelOk down=true)(h8:fs.length=8)(h9:∀ s∈fs,s.size≤70):isNew (newM light d o pl up down room L fs):=by
 have hd:driftOk d.Rate d.Offset=true:=h2
 have hb:=bt_zero hd
 rw[driftOk,Bool.and_eq_true]at hd
 have:=inB_iff.1 hd.2
 refine⟨h1,h2,h3,h4,h5,h8,h9,?_⟩
 show 0≤boardTime d.Rate d.Offset 0∧boardTime d.Rate d.Offset 0≤1000
 rw[hb];exact this
section
variable {p B:Nat} {a:Option Addr} {n c:Nat} {l:List Int}
def entLit(k:Nat)(cs:List Value)(T:Nat):Ent (CurR p a n c l):=.of (fun v w'=>∃ b,v=.slice (some ⟨b,0,none⟩) k k∧p<b∧Held w' b cs T) (fun _ _ _ g h=>h.elim fun b q=>⟨b,q.1,q.2.1,q.2.2.cur g q.2.1⟩)
def entBoxC(hp:p<B)(cs:List Value)(T:Nat):Ent (CurR p a n c l):=.of (fun v w'=>∃ b,v=.pointer (some ⟨b,0,none⟩)∧B≤b∧Held w' b cs T) (fun _ _ _ g h=>h.elim fun b q=>⟨b,q.1,q.2.1,q.2.2.cur g (Nat.lt_of_lt_of_le hp q.2.1)⟩)
def isCh(v:Value):Prop:=∃ s b l',v=.agg #[.int .i64 s,.int .i64 b,.int .i64 l']∧(0≤s∧s≤65535)∧(0≤b∧b≤100)∧(0≤l'∧l'≤100)
def isLims(B:Nat)(v:Value)(w':World):Prop:=∃ (L:List TLimit) (la:Option Addr) (q lc:Nat),v=.slice la q lc∧L.length=q∧q≤2∧drawnLims L∧Own encTLimit 149 3 B w' la lc L
def entLims(hp:p<B):Ent (CurR p a n c l):=.of (isLims B) (fun _ _ _ g h=>by
 obtain⟨L,la,q,lc,e,h1,h2,h3,h4⟩:=h
 exact⟨L,la,q,lc,e,h1,h2,h3,h4.cur g hp⟩)
def isNewV(B:Nat)(v:Value)(w':World):Prop:=∃ (vs:List Value) (m:TMission) (χ:Nat→Col),v=.tuple #[.agg vs.toArray,.bool true]∧isNew m∧EncO.O B χ 0 w' vs m
def entNew(hp:p<B):Ent (CurR p a n c l):=.of (isNewV B) (fun _ _ _ g h=>by
 obtain⟨vs,m,χ,e,h1,h2⟩:=h
 exact⟨vs,m,χ,e,h1,om_keep h2 (cur_keeps g hp)⟩)
end
theorem chain0{R:World→World→Prop}{Fs:EntL R}{w:World}{G:(Nat→Value)→Prop}{val:Nat→Value}(h:G val):chain Fs w G [] val:=h
theorem chain1{R:World→World→Prop}{Fs:EntL R}{w:World}{G:(Nat→Value)→Prop}{val:Nat→Value}{i:Nat}{r:List Nat}(h:∀ v,(entAt Fs i).p v w→chain Fs w G r (upd i v val)):chain Fs w G (i::r) val:=h
theorem drawn_ok{light:Int}{d:TDrift}{o:TOrbit}{up down:TChannel}{room:Int}{L:List TLimit}{fs:List ByteArray}(h1:0≤light∧light≤50)(h2:driftOkT d=true)(h3:orbitOkT o=true)(h4:channelOk up=true)(h5:channelOk down=true)(h6:room∈[22,66,400])(h7:L.length≤2)(h7':drawnLims L)(h8:fs.length=8)(h9:∀ s∈fs,s.size≤70) :
  newOk light d o (planAll o.Period o.Start o.Length encReq2) up down room L fs=true:=by
 have hr:inB room 0 4000=true:=by simp at h6;rcases h6 with rfl|rfl|rfl<;>rfl
 have hL:L.all limitOk=true:=List.all_eq_true.2 fun x hx=>by
  obtain⟨a,b,c⟩:=h7' x hx
  simp[limitOk,inB];omega
 have hb:=newB_ok hr (show L.length≤8 by omega) hL
 have hp:=plan2_len (p:=o.Period) (s:=o.Start) (l:=o.Length)
 rw[newOk,hb,h8,newM_ok (inB_iff.2 h1) h2 h3 h4 h5 (show(planAll o.Period o.Start o.Length encReq2).length≤1500 from Nat.le_trans hp (by omega)) hb h8 (fun s hs=>Nat.le_trans (h9 s hs) (by omega))]
 rfl
theorem lims_ok{L:List TLimit}(h:drawnLims L):∀ x∈L,okDTLimit x:=fun x hx=>by
 obtain⟨a,b,c⟩:=h x hx
 exact⟨by unfold i64;omega,by unfold i64;omega,by unfold i64;omega,trivial⟩
theorem drift_okD{r o:Int}(h:driftOk r o=true):okDTDrift ⟨r,o⟩:=by
 rw[driftOk,Bool.and_eq_true]at h
 have h1:=inB_iff.1 h.1;have h2:=inB_iff.1 h.2
 exact⟨by show i64 r;unfold i64;omega,by show i64 o;unfold i64;omega,trivial⟩
theorem orbit_okD{p s l:Int}(h:orbitOk p s l=true):okDTOrbit ⟨p,s,l⟩:=by
 have h1:=orbitOk_iff.1 h
 exact⟨by show i64 p;unfold i64;omega,by show i64 s;unfold i64;omega,by show i64 l;unfold i64;omega,trivial⟩
theorem ch_okD{s b l:Int}(h1:0≤s∧s≤65535)(h2:0≤b∧b≤100)(h3:0≤l∧l≤100):okDTChannel ⟨s,b,l⟩ :=
 ⟨by show i64 s;unfold i64;omega,by show i64 b;unfold i64;omega,by show i64 l;unfold i64;omega,trivial⟩
theorem room_i64{x:Int}(h:x∈[22,66,400]):i64 x:=by simp at h;unfold i64;omega
theorem req2_ok:∀ r∈encReq2,i64 r.Id∧i64 r.Ready∧i64 r.Deadline:=fun r hr=>by
 simp only[encReq2,List.mem_cons,List.not_mem_nil,or_false]at hr
 rcases hr with rfl|rfl<;>(unfold i64;simp only;omega)
theorem new_small{light:Int}{d:TDrift}{o:TOrbit}{up down:TChannel}{room:Int}{L:List TLimit}{fs:List ByteArray}(h8:fs.length=8)(h9:∀ s∈fs,s.size≤70)(hL:L.length≤2):Enc.tot (newM light d o (planAll o.Period o.Start o.Length encReq2) up down room L fs)≤100000000:=by
 have h1:=plan2_len (p:=o.Period) (s:=o.Start) (l:=o.Length)
 have h2:=totL_small h9
 have h3:(planAll o.Period o.Start o.Length encReq2).length≤9:=h1
 rw[newM_tot,h8]
 rw[h8]at h2
 omega
theorem OwnC.wr{α:Type}[E:Flat α]{B T':Nat}{χ:Nat→Col}{i:Col}{w w':World}{a:Option Addr}{c:Nat}{l:List α}(h:OwnC B χ i w a c l)(g:Wr T' w w')(hT:E.ty≠T'):OwnC B χ i w' a c l:=⟨h.own.wr g hT,h.col,h.good⟩
theorem om_wr{B o:Nat}{χ:Nat→Col}{w w':World}{vs:List Value}{m:TMission}(h:EncO.O B χ o w vs m)(g:Wr 62 w w'):EncO.O B χ o w' vs m:=by
 obtain⟨A,e,h⟩:=h
 refine⟨A,e,⟨h.o0.wr g (by decide),h.o1.wr g (by decide),h.o2.wr g (by decide),h.o3.wr g (by decide),h.o4.wr g (by decide),h.o5.wr g (by decide),h.o6.wr g (by decide),h.o7.elim fun r hr=>⟨r,hr.1,hr.2.wr g (by decide) (by decide)⟩,h.o8.wr g (by decide),h.o9.wr g (by decide),h.o10.wr g (by decide),h.o11.wr g (by decide),h.o12.wr g (by decide),h.o13.wr g (by decide),h.o14.wr g (by decide),h.o15.wr g (by decide),h.o16.wr g (by decide),h.o17.wr g (by decide),h.o18.elim fun r hr=>⟨r,hr.1,hr.2.wr g (by decide) (by decide)⟩,h.o19.wr g (by decide),h.o20.wr g (by decide),h.o21.wr g (by decide),h.ok⟩⟩
theorem grows_nil(w:World):Grows { w with heap:=#[] } w:=⟨⟨rfl,rfl,rfl,Nat.zero_le _,fun k hk=>absurd hk (Nat.not_lt_zero k)⟩⟩
theorem But.gb{b:Nat}{w:World}{z:Later { w with heap:=#[] }}(h:But b w z.w):w.grownBy z.w (some b):=⟨z.h.os,z.h.tape,z.h.output,h.size,fun k hk hr=>h.block k (fun e=>hr (by rw[e])) hk⟩
theorem ch_ok{s b l:Int}(h1:0≤s∧s≤65535)(h2:0≤b∧b≤100)(h3:0≤l∧l≤100):channelOk ⟨s,b,l⟩=true:=by simp[channelOk,inB];omega
theorem small_i64{x:Int}(h:-1000000≤x∧x≤1000000):i64 x:=by unfold i64;omega
set_option maxRecDepth 100000 in
set_option maxHeartbeats 1500000 in
theorem c_sl09New{w:World}{p:Nat}{a:Option Addr}{n c:Nat}{l:List Int}{i:Nat}(hc:IsCur w p a n c l i) :
  Calls Tryz.prog 45 #[.pointer (some ⟨p,0,none⟩)] w fun e w'=>∃ (vs:List Value) (m:TMission) (χ:Nat→Col),e=.returned (.agg vs.toArray)∧isNew m∧EncO.O w.heap.size χ 0 w' vs m∧w.grownBy w' (some p)∧∃ i',IsCur w' p a n c l i':=by
 have HC:=lH hc;clear hc
 have hp:=HC.out.lt.out
 go_enter Tryz.func45,Tryz.ntmps45
 go_wp2_with (first|((with_reducible refine wp_region_later (by kernel_rfl) (by kernel_rfl) ?_);(repeat(first|go_big_quiet_step (first|fail)));refine wpQuiet_nil ?_;rintro _ ⟨x,rfl⟩))
 go_loopw [3,4] (fun u v wr=>∃ (k:Nat) (fs:List ByteArray) (sa:Option Addr) (sc:Nat),u=.slice sa k sc∧v=.int .i64 k∧fs.length=k∧k≤8∧Hid (Own encStr 9 1 w.heap.size wr sa sc fs)∧Hid (∀ s∈fs,s.size≤70)∧Hid (w.grownBy wr (some p))∧Hid (Held wr w.heap.size nmZ 62)∧∃ i',Hid (IsCur wr p a n c l i')) (fun _ v _=>(8 - intOf v).toNat)
 case atStart=>exact⟨0,[],_,_,rfl,rfl,rfl,by omega,Own.emptyAt encStr_len (by simp) (by simp),(fun s hs=>by cases hs),grownBy_new (grownBy_new (grownBy_refl w (some p)) _) _,Held.to (Held.new w nmZ 62 _ rfl) inferInstance,i,(HC.out.alloc _).alloc _⟩
 case round =>
  obtain⟨k,fs,sa,sc,rfl,rfl,hk,hk8,hO,hS,hG,hR,i2,hC⟩:=hrel
  by_cases h:k<8
  ·go_wp2_with (first|((with_reducible refine wp_region_later (by kernel_rfl) (by kernel_rfl) ?_);(repeat(first|go_big_quiet_step (first|fail)));refine wpQuiet_nil ?_;rintro _ ⟨x,rfl⟩))
   refine(c_sl01PickInt (xs:=[0,5,24,40,70]) (hC.out.alloc _) (Sl.litB (by simp) encInt_len rfl) rfl (by decide) (by decide) ?_).mono ?_
   ·intro b off h;cases h;have:=hC.out.lt.out;omega
   rintro _ w2 ⟨v,rfl,hv,hg2,i3,hc2⟩
   obtain⟨m,rfl,hm⟩:∃ m:Nat,v=m∧m≤70:=⟨v.toNat,by simp at hv;omega,by simp at hv;omega⟩
   go_wp2_with (first|((with_reducible refine wp_region_later (by kernel_rfl) (by kernel_rfl) ?_);(repeat(first|go_big_quiet_step (first|fail)));refine wpQuiet_nil ?_;rintro _ ⟨x,rfl⟩))
   refine(c_sl01Bytes hc2 (by omega)).mono ?_
   rintro _ w3 ⟨s,rfl,hs,hg3,i4,hc3⟩
   have g3:=grownBy_trans hg2 hg3
   have O3:=lH (((hO.out.to inferInstance).kept g3 (fun k hk=>by cases hk;exact .inl hp)))
   have G3:=lH (grownBy_trans (grownBy_new hG.out _) g3)
   have R3:=lH ((hR.out.to inferInstance).at g3 (by omega));have C3:=lH hc3
   have hB3:w.heap.size≤w3.heap.size:=G3.out.size
   clear hO hG hR hC hg2 hg3 hc2 hc3 g3
   go_wp2_with (first|((with_reducible refine wp_region_later (by kernel_rfl) (by kernel_rfl) ?_);(repeat(first|go_big_quiet_step (first|fail)));refine wpQuiet_nil ?_;rintro _ ⟨x,rfl⟩)|(at_builtin;refine wpList_app1B (enc:=encStr) (B:=w.heap.size) (z:=.string ⟨#[]⟩) (size:=1) (bytes:=16) s rfl (.tmp 16) (.tmp 22) rfl Tryz.underlying32 (by kernel_rfl) rfl (by decide) (by decide) rfl rfl hk O3.out rfl (encStr_one _) (by omega) hB3 ?_;intro sa1 sc1 w6 O6 g6))
   have hlt:=O3.out.lt (n:=k)
   have hpl:=C3.out.lt.out
   go_roundw
   case rel =>
    refine⟨k+1,fs++[s],sa1,sc1,rfl,by go_num,by simp[hk],by omega,O6,lH (fun t ht=>?_),?_,?_,i4,?_⟩
    ·rcases List.mem_append.1 ht with ht|ht
     ·exact hS.out t ht
     ·rw[List.mem_singleton.1 ht,hs];exact hm
    ·have G:=G3.out
     exact⟨g6.os.trans G.os,g6.tape.trans G.tape,g6.output.trans G.output,Nat.le_trans G.size g6.size,fun j hj hr=>(g6.block j (by omega) (fun e=>by have:=(hlt j e.symm).1;omega)).trans (G.block j hj hr)⟩
    ·exact R3.out.wr (Wr.sl O3.out g6) (by decide)
    ·exact C3.out.kept g6.size (fun j hj=>g6.block j (by omega) (fun e=>by have:=(hlt j e.symm).1;omega))
   case measure=>simp[intOf];omega
  ·obtain rfl:k=8:=by omega
   have hBr:w.heap.size≤wr.heap.size:=hG.out.size
   go_wp2_with (first|((with_reducible refine wp_region_later (by kernel_rfl) (by kernel_rfl) ?_);(repeat(first|go_big_quiet_step (first|fail)));refine wpQuiet_nil ?_;rintro _ ⟨x,rfl⟩))
   refine(c_sl01PickInt (xs:=[0,1,3,7]) (hC.out.alloc _) (Sl.litB (by simp) encInt_len rfl) rfl (by decide) (by decide) ?_).mono ?_
   ·intro b off h;cases h;have:=hC.out.lt.out;omega
   rintro _ w4 ⟨light,rfl,hl4,hg4,i4,hc4⟩
   have hl4':0≤light∧light≤50:=by simp at hl4;omega
   have O4:=lH (((hO.out.to inferInstance).kept hg4 (fun k hk=>by cases hk;exact .inl hp)))
   have G4:=lH (grownBy_trans (grownBy_new hG.out _) hg4)
   have R4:=lH ((hR.out.to inferInstance).at hg4 (by omega));have C4:=lH hc4
   clear hO hG hR hC hg4 hc4 hl4
   go_wp2_with (first|((with_reducible refine wp_region_later (by kernel_rfl) (by kernel_rfl) ?_);(repeat(first|go_big_quiet_step (first|fail)));refine wpQuiet_nil ?_;rintro _ ⟨x,rfl⟩))
   refine(c_sl07Drift C4.out).mono ?_
   rintro _ w5 ⟨r,o,rfl,hr5,ho5,hg5,i5,hc5⟩
   have hd5:=lH (show driftOk r o=true by simp at hr5 ho5;rcases hr5 with rfl|rfl|rfl|rfl|rfl|rfl|rfl<;>rcases ho5 with rfl|rfl|rfl<;>rfl)
   have O5:=lH (O4.out.kept hg5 (fun k hk=>by cases hk;exact .inl hp))
   have G5:=lH (grownBy_trans G4.out hg5)
   have R5:=lH (R4.out.at hg5 (by omega));have C5:=lH hc5
   have hB5:w.heap.size≤w5.heap.size:=G5.out.size
   clear O4 G4 R4 C4 hg5 hc5 hr5 ho5
   have D5:=lH (Held.new w5 [.int .i64 r,.int .i64 o] 25 w5.heap.size rfl)
   go_wp2_with (first|((with_reducible refine wp_region_later (by kernel_rfl) (by kernel_rfl) ?_);(repeat(first|go_big_quiet_step (first|fail)));refine wpQuiet_nil ?_;rintro _ ⟨x,rfl⟩))
   refine(c_sl08Orbit (C5.out.alloc _)).mono ?_
   rintro _ w6 ⟨pp,ss,ll,rfl,hp6,hs6,hll6,hg6,i6,hc6⟩
   have ho6:=lH (show orbitOk pp ss ll=true from orbitOk_iff.2 (by simp at hp6;omega))
   have O6:=lH ((O5.out.to inferInstance).kept hg6 (fun k hk=>by cases hk;exact .inl hp))
   have G6:=lH (grownBy_trans (grownBy_new G5.out _) hg6)
   have R6:=lH ((R5.out.to inferInstance).at hg6 (by omega));have C6:=lH hc6
   have D6:=lH (D5.out.at hg6 (by omega))
   have hB6:w.heap.size≤w6.heap.size:=G6.out.size
   clear O5 G5 R5 C5 D5 hg6 hc6 hp6 hs6 hll6
   have E6:=lH (Held.new w6 [.int .i64 pp,.int .i64 ss,.int .i64 ll] 27 w6.heap.size rfl)
   go_wp2_with (first|((with_reducible refine wp_region_later (by kernel_rfl) (by kernel_rfl) ?_);(repeat(first|go_big_quiet_step (first|fail)));refine wpQuiet_nil ?_;rintro _ ⟨x,rfl⟩))
   obtain⟨W0,hW0⟩:∃ W0:World,((w6.alloc (.cells #[.int .i64 pp,.int .i64 ss,.int .i64 ll] 27)).alloc (.cells #[.int .i64 2,.int .i64 5,.int .i64 60,.int .i64 4,.int .i64 9,.int .i64 0,.int .i64 40,.int .i64 5] 145))=W0:=⟨_,rfl⟩
   have D7:Hid (Held W0 w5.heap.size [.int .i64 r,.int .i64 o] 25):=hW0▸D6.out.to (inferInstance:Grows _ ((w6.alloc (.cells #[.int .i64 pp,.int .i64 ss,.int .i64 ll] 27)).alloc (.cells #[.int .i64 2,.int .i64 5,.int .i64 60,.int .i64 4,.int .i64 9,.int .i64 0,.int .i64 40,.int .i64 5] 145)))
   have E7:Hid (Held W0 w6.heap.size [.int .i64 pp,.int .i64 ss,.int .i64 ll] 27):=hW0▸E6.out.to (inferInstance:Grows _ ((w6.alloc (.cells #[.int .i64 pp,.int .i64 ss,.int .i64 ll] 27)).alloc (.cells #[.int .i64 2,.int .i64 5,.int .i64 60,.int .i64 4,.int .i64 9,.int .i64 0,.int .i64 40,.int .i64 5] 145)))
   have O7:Hid (Own encStr 9 1 w.heap.size W0 sa sc fs):=hW0▸O6.out.to (inferInstance:Grows _ ((w6.alloc (.cells #[.int .i64 pp,.int .i64 ss,.int .i64 ll] 27)).alloc (.cells #[.int .i64 2,.int .i64 5,.int .i64 60,.int .i64 4,.int .i64 9,.int .i64 0,.int .i64 40,.int .i64 5] 145)))
   have R7:Hid (Held W0 w.heap.size nmZ 62):=hW0▸R6.out.to (inferInstance:Grows _ ((w6.alloc (.cells #[.int .i64 pp,.int .i64 ss,.int .i64 ll] 27)).alloc (.cells #[.int .i64 2,.int .i64 5,.int .i64 60,.int .i64 4,.int .i64 9,.int .i64 0,.int .i64 40,.int .i64 5] 145)))
   have C7:Hid (IsCur W0 p a n c l i6):=hW0▸(C6.out.alloc _).alloc _
   have G7:Hid (w.grownBy W0 (some p)):=hW0▸grownBy_new (grownBy_new G6.out _) _
   have Q7:Hid (Held W0 (w6.heap.size+1) [.int .i64 2,.int .i64 5,.int .i64 60,.int .i64 4,.int .i64 9,.int .i64 0,.int .i64 40,.int .i64 5] 145):=hW0▸Held.new _ [.int .i64 2,.int .i64 5,.int .i64 60,.int .i64 4,.int .i64 9,.int .i64 0,.int .i64 40,.int .i64 5] _ _ (by simp)
   have hp1:p<w.heap.size+1:=by omega
   have hp5:p<w5.heap.size:=Nat.lt_of_lt_of_le hp hB5
   have hp6:p<w6.heap.size:=Nat.lt_of_lt_of_le hp hB6
   have hq6:p<w6.heap.size+1:=by omega
   rw[hW0]
   clear D6 E6 O6 R6 C6 G6 hW0
   refine wp_region_stabR (R:=CurR p a n c l) (by kernel_rfl) CurR.refl CurR.trans CurR.drew (T:=[19,20]) (Zs:=[(17,[5,7,9,10,12,14])]) (H:=[(1,[]),(2,[]),(5,[]),(7,[5]),(9,[]),(10,[5,7,9]),(12,[5,7,9,10]),(14,[5,7,9,10,12]),(15,[5,7,9,10,12,14]),(16,[5,7,9,10,12,14]),(17,[5,7,9,10,12,14]),(18,[])]) (C:=[5,7,9,10,12,14,18]) (Fs:=[(some 35,.v (.int .i64 light)),(some 36,.v (.agg #[.int .i64 r,.int .i64 o])),(some 37,.v (.agg #[.int .i64 pp,.int .i64 ss,.int .i64 ll])),(some 38,.v (.slice (some ⟨w6.heap.size+1,0,none⟩) 2 2)),(some 39,.v (.pointer (some ⟨p,0,none⟩))),(some 40,(.is isCh)),(some 41,.v (.pointer (some ⟨p,0,none⟩))),(some 42,(.is isCh)),(some 43,.v (.pointer (some ⟨p,0,none⟩))),(some 44,entLit 3 [.int .i64 22,.int .i64 66,.int .i64 400] 3),(some 45,.is (fun v=>∃ x,v=.int .i64 x∧x∈[22,66,400])),(some 46,.v (.pointer (some ⟨p,0,none⟩))),(some 47,entLims hp),(some 48,.v (.slice sa 8 sc)),(some 49,entNew hp),(some 34,.fn [14] one1),(some 50,.fn [14] fst2),(some 51,.fn [14] snd2),(some 9,entBoxC hp1 nmZ 62),(none,.v undef),(none,.v undef)]) (by kernel_rfl) (fun val W=>by kernel_rfl) ?ob ?lz ?pn ?tl9
   case ob =>
    refine⟨fun W hW=>?_,fun W hW=>?_,fun W hW=>?_,fun W hW=>?_,fun W hW=>?_,fun W hW=>?_,fun W hW=>?_,fun W hW=>?_,fun W hW=>?_,fun W hW=>?_,fun W hW=>?_,fun W hW=>?_,trivial⟩
    ·exact g_load (by kernel_rfl) (run_loadHeld (o:=0) (row:=[.int .i64 r,.int .i64 o]) (D7.out.cur hW hp5) _ Tryz.underlying25 rfl (by kernel_rfl) rfl) ⟨CurR.refl _,rfl⟩
    ·exact g_load (by kernel_rfl) (run_loadHeld (o:=0) (row:=[.int .i64 pp,.int .i64 ss,.int .i64 ll]) (E7.out.cur hW hp6) _ Tryz.underlying27 rfl (by kernel_rfl) rfl) ⟨CurR.refl _,rfl⟩
    ·obtain⟨i8,c8⟩:=hW.2 ⟨i6,C7.out⟩
     refine g_call (f:=121) (args:=[.pointer (some ⟨p,0,none⟩)]) Tryz.func121 (by kernel_rfl) (by kernel_rfl) ((c_sl02Channel c8).mono ?_)
     rintro _ w' ⟨s,b,l',rfl,h1,h2,h3,hg,i9,c9⟩
     exact⟨_,rfl,CurR.of hg c9,s,b,l',rfl,h1,h2,h3⟩
    ·rintro _ -
     obtain⟨i8,c8⟩:=hW.2 ⟨i6,C7.out⟩
     refine g_call (f:=121) (args:=[.pointer (some ⟨p,0,none⟩)]) Tryz.func121 (by kernel_rfl) (by kernel_rfl) ((c_sl02Channel c8).mono ?_)
     rintro _ w' ⟨s,b,l',rfl,h1,h2,h3,hg,i9,c9⟩
     exact⟨_,rfl,CurR.of hg c9,s,b,l',rfl,h1,h2,h3⟩
    ·obtain⟨i8,c8⟩:=hW.2 ⟨i6,C7.out⟩
     exact gives_run (v:=.slice (some ⟨W.heap.size,0,none⟩) 3 3) (w':=W.alloc (.cells #[.int .i64 22,.int .i64 66,.int .i64 400] 3)) (by kernel_rfl) ⟨CurR.grow inferInstance,W.heap.size,rfl,c8.lt.out,Held.new _ [.int .i64 22,.int .i64 66,.int .i64 400] _ _ rfl⟩
    ·rintro _ - _ - _ ⟨b9,rfl,hb9,hh9⟩
     obtain⟨i8,c8⟩:=hW.2 ⟨i6,C7.out⟩
     refine g_call (f:=118) (args:=[.pointer (some ⟨p,0,none⟩),.slice (some ⟨b9,0,none⟩) 3 3]) Tryz.func118 (by kernel_rfl) (by kernel_rfl) ((c_sl01PickInt (xs:=[22,66,400]) c8 (Own.ofBlk (l:=[22,66,400]) (B:=0) encInt_len rfl (by decide) (Nat.zero_le _) (by rfl) (by kernel_rfl) hh9).sl rfl (by decide) (by decide) (fun b off e=>by cases e;omega)).mono ?_)
     rintro _ w' ⟨x,rfl,hx,hg,i9,c9⟩
     exact⟨_,rfl,CurR.of hg c9,x,rfl,hx⟩
    ·rintro _ - _ - _ - _ -
     obtain⟨i8,c8⟩:=hW.2 ⟨i6,C7.out⟩
     refine g_call (f:=122) (args:=[.pointer (some ⟨p,0,none⟩)]) Tryz.func122 (by kernel_rfl) (by kernel_rfl) ((c_sl05Limits c8).mono ?_)
     rintro _ w' ⟨L,la,q,lc,rfl,h1,h2,h3,h4,hg,i9,c9⟩
     exact⟨_,rfl,CurR.of hg c9,L,la,q,lc,rfl,h1,h2,h3,h4.mono (Nat.le_trans G7.out.size hW.1.size)⟩
    ·rintro _ ⟨s1,b1,l1,rfl,ha1,ha2,ha3⟩ _ ⟨s2,b2,l2,rfl,hb1,hb2,hb3⟩ _ - _ ⟨room,rfl,hroom⟩ _ ⟨L,la,q,lc,rfl,hL1,hL2,hL3,hL4⟩
     obtain⟨i8,c8⟩:=hW.2 ⟨i6,C7.out⟩
     have hnk:=drawn_ok (d:=⟨r,o⟩) (o:=⟨pp,ss,ll⟩) hl4' hd5.out ho6.out (ch_ok ha1 ha2 ha3) (ch_ok hb1 hb2 hb3) hroom (by omega) hL3 hk hS.out
     refine g_call (f:=17) (args:=[.int .i64 light,.agg #[.int .i64 r,.int .i64 o],.agg #[.int .i64 pp,.int .i64 ss,.int .i64 ll],.slice (some ⟨w6.heap.size+1,0,none⟩) 2 2,.agg #[.int .i64 s1,.int .i64 b1,.int .i64 l1],.agg #[.int .i64 s2,.int .i64 b2,.int .i64 l2],.int .i64 room,.slice la q lc,.slice sa 8 sc]) Tryz.func17 (by kernel_rfl) (by kernel_rfl) ((o_sNewMission (d:=⟨r,o⟩) (o:=⟨pp,ss,ll⟩) (up:=⟨s1,b1,l1⟩) (down:=⟨s2,b2,l2⟩) (Q:=encReq2) (L:=L) (fs:=fs) (qn:=2) (fn:=8) (Own.ofBlk (l:=encReq2) (B:=0) encRequest_len rfl (by decide) (Nat.zero_le _) (by rfl) (by kernel_rfl) (Q7.out.cur hW hq6)).sl rfl (Nat.le_refl _) (by decide) (rd_limits hL4 (fun x hx=>lims_ok hL3 x hx)) hL1 (by omega) ((O7.out.cur hW hp).rdS rfl (fun x hx=>⟨rfl,Nat.le_trans (hS.out x hx) (by omega)⟩)) hk (by decide) (newM_okD (small_i64 (by omega)) (drift_okD hd5.out) (orbit_okD ho6.out) (ch_okD ha1 ha2 ha3) (ch_okD hb1 hb2 hb3) (room_i64 hroom)) (plan_okD req2_ok) (Nat.le_trans plan2_len (by decide)) (new_small hk hS.out (by omega))).mono ?_)
     rintro _ _ ⟨vs,χ,rfl,hE,y,rfl⟩
     rw[newMission,if_pos hnk]at hE
     exact⟨_,rfl,CurR.grow inferInstance,vs,newM light ⟨r,o⟩ ⟨pp,ss,ll⟩ (planAll pp ss ll encReq2) ⟨s1,b1,l1⟩ ⟨s2,b2,l2⟩ room L fs,χ,by rw[hnk],newM_isNew hl4' hd5.out ho6.out (ch_ok ha1 ha2 ha3) (ch_ok hb1 hb2 hb3) hk hS.out,om_mono hE (Nat.le_trans G7.out.size hW.1.size)⟩
    ·refine chain1 fun v5 q5=>chain1 fun v7 q7=>chain1 fun v9 q9=>chain1 fun v10 q10=>chain1 fun v12 q12=>chain1 fun v14 q14=>chain0 ?_
     obtain⟨vs,m,χ,rfl,q⟩:=(show isNewV w.heap.size v14 W from q14)
     clear q q5 q7 q9 q10 q12
     refine g_fnR (k:=15) CurR.refl ?_ ?_<;>kernel_rfl
    ·refine chain1 fun v5 q5=>chain1 fun v7 q7=>chain1 fun v9 q9=>chain1 fun v10 q10=>chain1 fun v12 q12=>chain1 fun v14 q14=>chain0 ?_
     obtain⟨vs,m,χ,rfl,q⟩:=(show isNewV w.heap.size v14 W from q14)
     clear q q5 q7 q9 q10 q12
     refine g_fnR (k:=16) CurR.refl ?_ ?_<;>kernel_rfl
    ·refine chain1 fun v5 q5=>chain1 fun v7 q7=>chain1 fun v9 q9=>chain1 fun v10 q10=>chain1 fun v12 q12=>chain1 fun v14 q14=>chain0 ?_
     obtain⟨vs,m,χ,rfl,q⟩:=(show isNewV w.heap.size v14 W from q14)
     clear q q5 q7 q9 q10 q12
     refine g_fnR (k:=17) CurR.refl ?_ ?_<;>kernel_rfl
    ·exact gives_run (v:=.pointer (some ⟨W.heap.size,0,none⟩)) (w':=W.alloc (.cells nmZ.toArray 62)) (by kernel_rfl) ⟨CurR.grow inferInstance,W.heap.size,rfl,Nat.le_trans (Nat.succ_le_of_lt R7.out.lt) hW.1.size,Held.new _ nmZ _ _ rfl⟩
   case pn=>exact fun _ _ _ _ _ _ h=>h
   case lz =>
    refine⟨fun W hW=>?_,trivial⟩
    refine chain1 fun v5 q5=>chain1 fun v7 q7=>chain1 fun v9 q9=>chain1 fun v10 q10=>chain1 fun v12 q12=>chain1 fun v14 q14=>chain0 ?_
    obtain⟨vs,m,χ,rfl,q⟩:=(show isNewV w.heap.size v14 W from q14)
    clear q q5 q7 q9 q10 q12
    intro W'
    kernel_rfl
   case tl9 =>
    intro W hW
    refine chain1 fun v5 q5=>chain1 fun v7 q7=>chain1 fun v9 q9=>chain1 fun v10 q10=>chain1 fun v12 q12=>chain1 fun v14 q14=>chain1 fun v18 q18=>?_
    obtain⟨vs,m,χ,rfl,hv3,hv4⟩:=(show isNewV w.heap.size v14 W from q14)
    obtain⟨bm,rfl,hbm,hBm⟩:=(show ∃ b,v18=.pointer (some ⟨b,0,none⟩)∧w.heap.size+1≤b∧Held W b nmZ 62 from q18)
    clear q5 q7 q9 q10 q12 q14 q18
    have HV1:=lH (len_mission (EncO.toRd hv4));have HV2:=lH (one_mission (EncO.toRd hv4));have HV4:=lH hv4
    have RW:=lH (R7.out.cur hW hp)
    have HBm:=lH hBm;clear hBm
    have hne:w.heap.size≠bm:=by omega
    clear hv4
    refine tail2 rfl rfl ?_
    simp only[put_nrm,put_nrm2,List.map,one1,fst2,snd2]
    simp only[Act.put,List.setIfInBounds_toArray,List.set_cons_succ,List.set_cons_zero]
    go_wp2_with (first|((with_reducible refine wp_region_later (by kernel_rfl) (by kernel_rfl) ?_);(repeat(first|go_big_quiet_step (first|fail)));refine wpQuiet_nil ?_;rintro _ ⟨x,rfl⟩)|(refine stepStore2 rfl _ _ _ rfl (bm) 0 rfl (us:=vs) (cs2:=vs) (HBm.out) ?ca1 ?ca2 ?ca3 ?ca4 ?ca5 (w0:={ W with heap:=#[] }) (grows_nil _) (Nat.zero_le _) ?_;(case ca1=>kernel_rfl);(case ca2=>(rw[HV1.out];kernel_rfl));(case ca3=>exact HV2.out);(case ca4=>(rw[HV1.out];exact Nat.le_of_ble_eq_true rfl));(case ca5=>exact splice_all HV1.out);intro z1 hx kx;have g1:=kx.gb;(have HX1:=lH hx);(have HG1:=lH g1);clear hx kx g1)|(refine stepLoad rfl _ _ rfl bm 0 rfl (row:=vs) HX1.out _ Tryz.underlying62 rfl (by rw[HV1.out];kernel_rfl) (by rw[List.drop_zero,List.take_length]) ?_)|(refine stepStore2 rfl _ _ _ rfl (w.heap.size) 0 rfl (us:=vs) (cs2:=vs) (RW.out.at HG1.out hne) ?cb1 ?cb2 ?cb3 ?cb4 ?cb5 (w0:={ z1.w with heap:=#[] }) (grows_nil _) (Nat.zero_le _) ?_;(case cb1=>rfl);(case cb2=>(rw[HV1.out];kernel_rfl));(case cb3=>exact HV2.out);(case cb4=>(rw[HV1.out];exact Nat.le_of_ble_eq_true rfl));(case cb5=>exact splice_all HV1.out);intro z2 hx kx;have g2:=kx.gb;(have HX2:=lH hx);(have HG2:=lH g2);clear hx kx g2))
    have R1:=RW.out.at HG1.out hne
    have fA:=om_wr (om_wr HV4.out (Wr.box HBm.out HG1.out)) (Wr.box R1 HG2.out)
    have fB:w.grownBy z2.w (some p):=by
     have k0:=grownBy_trans G7.out hW.1
     exact⟨HG2.out.os.trans (HG1.out.os.trans k0.os),HG2.out.tape.trans (HG1.out.tape.trans k0.tape),HG2.out.output.trans (HG1.out.output.trans k0.output),Nat.le_trans k0.size (Nat.le_trans HG1.out.size HG2.out.size),fun k hk hr =>
      (HG2.out.block k (Nat.lt_of_lt_of_le hk (Nat.le_trans k0.size HG1.out.size)) (fun e=>by cases e;omega)).trans ((HG1.out.block k (Nat.lt_of_lt_of_le hk k0.size) (fun e=>by cases e;omega)).trans (k0.block k hk hr))⟩
    have fC:∃ i',IsCur z2.w p a n c l i':=by
     obtain⟨i8,c8⟩:=hW.2 ⟨i6,C7.out⟩
     have k0:=grownBy_trans G7.out hW.1
     exact⟨i8,c8.kept (Nat.le_trans HG1.out.size HG2.out.size) (fun k hk=>(HG2.out.block k (by have:=HG1.out.size;have:=k0.size;omega) (fun e=>by cases e;omega)).trans (HG1.out.block k (by have:=k0.size;omega) (fun e=>by cases e;omega)))⟩
    refine bodyPost_ret (v:=.agg vs.toArray) (results_cell (P:=Tryz.prog) rfl rfl HX2.out _ Tryz.underlying62 rfl (by rw[HV1.out];kernel_rfl)) rfl ?_
    first|exact⟨vs,m,χ,rfl,hv3,fA,fB,fC⟩|exact⟨vs,rfl,m,χ,hv3,fA,fB,fC⟩|exact⟨vs,rfl,m,hv3,⟨χ,fA⟩,fB,fC⟩|exact⟨vs,rfl,⟨m,hv3,χ,fA⟩,fB,fC⟩
end Go.Proofs.YtbaffippdifbpaaGreat
namespace Go.Proofs.YtbaffippdifbpaaGreat
set_option linter.unusedVariables false
open Go.ChangeShapes Go.WideShapes Go.ChangeAt Go.RowKit
abbrev Int4:=Int × Int × Int × Int
def enc4(q:Int4):List Value:=[.int .i64 q.1,.int .i64 q.2.1,.int .i64 q.2.2.1,.int .i64 q.2.2.2]
theorem enc4_len(q:Int4):(enc4 q).length=4:=rfl
theorem enc4_one(q:Int4):∀ u∈enc4 q,u.oneCell'=true:=fun u hu=>by
 simp only[enc4,List.mem_cons,List.not_mem_nil,or_false]at hu
 rcases hu with rfl|rfl|rfl|rfl<;>rfl
theorem om_wrO{B o:Nat}{χ:Nat→Col}{w w':World}{vs:List Value}{m:TMission}(h:EncO.O B χ o w vs m)(g:Wr 124 w w'):EncO.O B χ o w' vs m:=by
 obtain⟨A,e,h⟩:=h
 refine⟨A,e,⟨h.o0.wr g (by decide),h.o1.wr g (by decide),h.o2.wr g (by decide),h.o3.wr g (by decide),h.o4.wr g (by decide),h.o5.wr g (by decide),h.o6.wr g (by decide),h.o7.elim fun r hr=>⟨r,hr.1,hr.2.wr g (by decide) (by decide)⟩,h.o8.wr g (by decide),h.o9.wr g (by decide),h.o10.wr g (by decide),h.o11.wr g (by decide),h.o12.wr g (by decide),h.o13.wr g (by decide),h.o14.wr g (by decide),h.o15.wr g (by decide),h.o16.wr g (by decide),h.o17.wr g (by decide),h.o18.elim fun r hr=>⟨r,hr.1,hr.2.wr g (by decide) (by decide)⟩,h.o19.wr g (by decide),h.o20.wr g (by decide),h.o21.wr g (by decide),h.ok⟩⟩
def isOrd4(v:Value):Prop:=∃ q:Int4,v=.agg (enc4 q).toArray
def isLow(b:Int)(v:Value):Prop:=∃ x:Int,v=.int .i64 x∧0≤x∧x<b
def addC(c:Int):List Value→Value
 | [.int .i64 x]=>.int .i64 (IntKind.i64.wrap (c+x))
 | _=>undef
section
variable {p B:Nat} {a:Option Addr} {n c:Nat} {l:List Int}
def isNew1(B:Nat)(v:Value)(w':World):Prop:=∃ (b:Nat) (q:Int4),v=.slice (some ⟨b,0,none⟩) 1 1∧B≤b∧Held w' b (enc4 q) 124
def entNew1(hp:p<B):Ent (CurR p a n c l):=.of (isNew1 B) (fun _ _ _ g h=>by
 obtain⟨b,q,e,h1,h2⟩:=h
 exact⟨b,q,e,h1,h2.cur g (by omega)⟩)
end
set_option maxRecDepth 100000 in
set_option maxHeartbeats 4000000 in
theorem c_sDrawMission{w:World}{a:Option Addr}{n c:Nat}{l:List Int}(hs:Sl encByte w a l)(hn:l.length=n)(hm:n≤1048576)(hby:∀ x∈l,isByte x) :
  Calls Tryz.prog 10 #[.slice a n c] w fun e w'=>∃ (vs:List Value) (m:TMission) (u:Value),e=.returned (.tuple #[.agg vs.toArray,u])∧isNew m∧Enc.Rd w.heap.size w' vs m∧∃ y:Later w,w'=y.w:=by
 have HBY:=lH hby;clear hby
 go_enter Tryz.func10,Tryz.ntmps10
 go_wp2_with (first|((with_reducible refine wp_region_later (by kernel_rfl) (by kernel_rfl) ?_);(repeat(first|go_big_quiet_step (first|fail)));refine wpQuiet_nil ?_;rintro _ ⟨x,rfl⟩))
 refine(c_sl01New (hs.to inferInstance) hn hm HBY.out).mono ?_
 rintro _ _ ⟨p,rfl,hp,⟨x,rfl⟩,hc⟩
 have HC:=lH hc;clear hc
 have hp1:=HC.out.lt.out
 go_wp2_with (first|((with_reducible refine wp_region_later (by kernel_rfl) (by kernel_rfl) ?_);(repeat(first|go_big_quiet_step (first|fail)));refine wpQuiet_nil ?_;rintro _ ⟨x,rfl⟩))
 refine(c_sl09New HC.out).mono ?_
 rintro _ w2 ⟨vs,m,χ,rfl,hnew,hO,hg,i2,hc2⟩
 have hpx:w.heap.size<p:=by simp at hp;omega
 have R2:=lH ((Held.to (Held.new w nmZ 62 _ rfl) (inferInstance:Grows _ x.w)).at hg (by omega))
 have HV1:=lH (len_mission (EncO.toRd hO));have HV2:=lH (one_mission (EncO.toRd hO));have HO:=lH hO;have HG:=lH hg;have HC2:=lH hc2;have HNW:=lH hnew
 have hpB:p<x.w.heap.size:=hp1
 have gx0:w.heap.size≤x.w.heap.size:=(inferInstance:Grows w x.w).out.size
 have hw2:x.w.heap.size≤w2.heap.size:=hg.size
 clear hO hg hc2 HC hnew
 go_wp2_with (first|((with_reducible refine wp_region_later (by kernel_rfl) (by kernel_rfl) ?_);(repeat(first|go_big_quiet_step (first|fail)));refine wpQuiet_nil ?_;rintro _ ⟨x,rfl⟩)|(refine stepStore2 rfl _ _ _ rfl (_) 0 rfl (us:=vs) (cs2:=vs) (Held.new _ nmZ 62 _ rfl) ?ca1 ?ca2 ?ca3 ?ca4 ?ca5 (w0:=w2) inferInstance LeN.out ?_;(case ca1=>rfl);(case ca2=>(rw[HV1.out];kernel_rfl));(case ca3=>exact HV2.out);(case ca4=>(rw[HV1.out];exact Nat.le_of_ble_eq_true rfl));(case ca5=>exact splice_all HV1.out);intro z1 hx kx;(have HX1:=lH hx);(have KX1:=lH kx);clear hx kx))
 have g1:Grows w2 z1.w:=inferInstance
 obtain⟨i3,hc3⟩:=(CurR.grow (p:=p) (a:=a) (n:=n) (c:=c) (l:=l) g1).2 ⟨i2,HC2.out⟩
 refine(c_sl01Below (hc3.alloc _) (by omega) (by omega)).mono ?_
 rintro _ w4 ⟨k0,rfl,hk0,hg4,i4,hc4⟩
 have CR4:=CurR.of hg4 hc4
 have hcell:=lH (show vs[37]?=some (.int .i64 m.Space.Board.Clock)by obtain⟨A,h0,-⟩:=HO.out;rw[h0];rfl)
 obtain⟨ck,hck⟩:∃ ck,m.Space.Board.Clock=ck:=⟨_,rfl⟩
 have hck2:0≤ck∧ck≤1000:=hck▸HNW.out.2.2.2.2.2.2.2
 rw[hck]at hcell
 have X4:=lH ((Held.to HX1.out (inferInstance:Grows _ (z1.w.alloc (.cells #[] 124)))).cur CR4 (by omega))
 have R4:=lH ((Held.to R2.out (inferInstance:Grows _ (z1.w.alloc (.cells #[] 124)))).at hg4 (by omega))
 have O4:=lH (om_keep (om_to HO.out (inferInstance:Grows _ (z1.w.alloc (.cells #[] 124)))) (cur_keeps CR4 hpB))
 have L4:=lH (Own.cur (Own.emptyAt (B:=x.w.heap.size) (T:=124) (W:=z1.w) enc4_len (Nat.le_trans hw2 g1.out.size) rfl) CR4 hpB)
 have G4:=lH (grownBy_trans (grownBy_trans HG.out (CurR.grow (p:=p) (a:=a) (n:=n) (c:=c) (l:=l) (inferInstance:Grows w2 (z1.w.alloc (.cells #[] 124)))).1) hg4)
 have C4:=lH hc4
 obtain⟨bm,hbm⟩:∃ bm,w2.heap.size=bm:=⟨_,rfl⟩
 have hbp:p<bm:=by omega
 rw[hbm]at X4 ⊢
 clear HX1 R2 HO HC2 HG KX1 hc3 hg4 hc4 CR4 hck
 go_wp2_with (first|((with_reducible refine wp_region_later (by kernel_rfl) (by kernel_rfl) ?_);(repeat(first|go_big_quiet_step (first|fail)));refine wpQuiet_nil ?_;rintro _ ⟨x,rfl⟩))
 go_loopw [6,7] (fun u v wr=>∃ (k:Nat) (q:Nat) (L:List Int4) (sa:Option Addr) (sc:Nat),u=.slice sa q sc∧v=.int .i64 k∧L.length=q∧k+q≤100∧Hid (Own enc4 124 4 x.w.heap.size wr sa sc L)∧Hid (EncO.O x.w.heap.size χ 0 wr vs m)∧Hid (Held wr bm vs 62)∧Hid (Held wr w.heap.size nmZ 62)∧Hid (x.w.grownBy wr (some p))∧∃ i',Hid (IsCur wr p a n c l i')) (fun _ v _=>(intOf v).toNat)
 case atStart=>exact⟨k0.toNat,0,[],_,_,rfl,by rw[Int.toNat_of_nonneg hk0.1],rfl,by omega,L4,O4,X4,R4,G4,i4,C4⟩
 case round =>
  obtain⟨k,q,L,sa,sc,rfl,rfl,hL,hkq,hLo,hO,hX,hR,hG,i5,hC⟩:=hrel
  by_cases h:0<k
  ·go_wp2_with (first|((with_reducible refine wp_region_later (by kernel_rfl) (by kernel_rfl) ?_);(repeat(first|go_big_quiet_step (first|fail)));refine wpQuiet_nil ?_;rintro _ ⟨x,rfl⟩))
   refine wp_region_stabR (R:=CurR p a n c l) (by kernel_rfl) CurR.refl CurR.trans CurR.drew (T:=[11,12]) (Zs:=[]) (H:=[(5,[]),(7,[]),(8,[7]),(9,[7]),(10,[7,9])]) (C:=[7,9,10]) (Fs:=[(some 19,.v (.slice sa q sc)),(some 20,.v (.pointer (some ⟨p,0,none⟩))),(some 21,.v (.pointer (some ⟨bm,33,none⟩))),(some 22,.v (.pointer (some ⟨bm,37,none⟩))),(some 23,.v (.pointer (some ⟨bm,37,none⟩))),(some 24,.v (.int .i64 ck)),(some 25,.v (.pointer (some ⟨p,0,none⟩))),(some 26,.is (isLow 30)),(some 27,.fn [7] (addC ck)),(some 28,.is isOrd4),(some 29,entNew1 hpB),(none,.v undef),(none,.v undef)]) (by kernel_rfl) (fun val W=>by kernel_rfl) ?ob ?lz ?pn ?tl9
   case ob =>
    refine⟨fun W hW=>?_,fun W hW=>?_,fun W hW=>?_,fun W hW=>?_,fun W hW=>?_,trivial⟩
    ·exact g_load (by kernel_rfl) (run_loadOne (o:=37) (hX.out.cur hW hbp) hcell.out _ Tryz.underlying3 rfl) ⟨CurR.refl _,rfl⟩
    ·obtain⟨i8,c8⟩:=hW.2 ⟨i5,hC.out⟩
     refine g_call (f:=46) (args:=[.pointer (some ⟨p,0,none⟩),.int .i64 30]) Tryz.func46 (by kernel_rfl) (by kernel_rfl) ((c_sl01Below c8 (by omega) (by omega)).mono ?_)
     rintro _ w' ⟨y,rfl,hy,hg,i9,c9⟩
     exact⟨_,rfl,CurR.of hg c9,y,rfl,hy⟩
    ·refine chain1 fun v7 q7=>chain0 ?_
     obtain⟨y,rfl,h1,h2⟩:=(show isLow 30 v7 from q7)
     refine g_fnR (k:=8) CurR.refl ?_ ?_<;>kernel_rfl
    ·refine chain1 fun v7 q7=>chain0 ?_
     obtain⟨y,rfl,h1,h2⟩:=(show isLow 30 v7 from q7)
     obtain⟨i8,c8⟩:=hW.2 ⟨i5,hC.out⟩
     have hwr:IntKind.i64.wrap (ck+y)=ck+y:=by
      simp[IntKind.wrap,IntKind.bits,IntKind.signed]
      split<;>omega
     refine g_call (f:=47) (args:=[.pointer (some ⟨p,0,none⟩),.int .i64 (IntKind.i64.wrap (ck+y))]) Tryz.func47 (by kernel_rfl) (by kernel_rfl) ?_
     rw[hwr]
     refine(c_sl05Order c8 (by omega) (by omega)).mono ?_
     rintro _ w' ⟨k1,t1,x1,y1,rfl,hg,i9,c9⟩
     exact⟨_,rfl,CurR.of hg c9,⟨k1,t1,x1,y1⟩,rfl⟩
    ·refine chain1 fun v7 q7=>chain1 fun v9 q9=>chain0 ?_
     obtain⟨o9,rfl⟩:=(show isOrd4 v9 from q9)
     refine gives_run (v:=.slice (some ⟨W.heap.size,0,none⟩) 1 1) (w':=W.alloc (.cells (enc4 o9).toArray 124)) ?_ ⟨CurR.grow inferInstance,W.heap.size,o9,rfl,Nat.le_trans hG.out.size hW.1.size,Held.new _ _ _ _ rfl⟩
     kernel_rfl
   case lz=>trivial
   case pn=>exact fun h=>absurd rfl h
   case tl9 =>
    intro W hW
    refine chain1 fun v7 q7=>chain1 fun v9 q9=>chain1 fun v10 q10=>?_
    obtain⟨b1,o9,rfl,hb1,hB1⟩:=(show isNew1 x.w.heap.size v10 W from q10)
    clear q7 q9 q10
    have OW:=hLo.out.cur hW hpB
    have hBW:x.w.heap.size≤W.heap.size:=Nat.le_trans hG.out.size hW.1.size
    refine tail2 rfl rfl ?_
    simp only[put_nrm,put_nrm2]
    simp only[Act.put,List.setIfInBounds_toArray,List.set_cons_succ,List.set_cons_zero]
    refine wpList_app1F (enc:=enc4) (w0:={ W with heap:=#[] }) (B:=x.w.heap.size) (z:=.agg #[.int .i64 0,.int .i64 0,.int .i64 0,.int .i64 0]) (size:=4) (bytes:=32) o9 rfl (.tmp 19) (.tmp 29) rfl Tryz.underlying63 (by kernel_rfl) rfl (by decide) (by decide) rfl rfl hL OW hB1 rfl (enc4_one _) (by omega) hBW (grows_nil W) (Nat.zero_le _) ?_
    intro sa1 sc1 x1 O1 g1 b1
    have W1:=Wr.sl OW g1
    have HO1:=lH O1;have HOM:=lH (om_wrO (om_keep hO.out (cur_keeps hW hpB)) W1);have HX1:=lH ((hX.out.cur hW hbp).wr W1 (by decide));have HR1:=lH ((hR.out.at hW.1 (by omega)).wr W1 (by decide))
    have hlt:=OW.lt (n:=q)
    have HG1:=lH (show x.w.grownBy x1.w (some p)from by
     have k0:=grownBy_trans hG.out hW.1
     exact⟨g1.os.trans k0.os,g1.tape.trans k0.tape,g1.output.trans k0.output,Nat.le_trans k0.size g1.size,fun j hj hr=>(g1.block j (by omega) (fun e=>by have:=(hlt j e.symm).1;omega)).trans (k0.block j hj hr)⟩)
    have HC1:=lH (show ∃ i',IsCur x1.w p a n c l i' from by
     obtain⟨i8,c8⟩:=hW.2 ⟨i5,hC.out⟩
     exact⟨i8,c8.kept g1.size (fun j hj=>g1.block j (by omega) (fun e=>by have:=(hlt j e.symm).1;omega))⟩)
    clear O1 g1 b1 W1 OW hB1 hlt
    go_wp2_with (first|((with_reducible refine wp_region_later (by kernel_rfl) (by kernel_rfl) ?_);(repeat(first|go_big_quiet_step (first|fail)));refine wpQuiet_nil ?_;rintro _ ⟨x,rfl⟩))
    go_roundw
    case rel =>
     obtain⟨i9,c9⟩:=HC1.out
     exact⟨k - 1,q+1,L++[o9],sa1,sc1,rfl,by go_num,by simp[hL],by omega,HO1,HOM,HX1,HR1,HG1,i9,c9⟩
    case measure=>simp[intOf];omega
  ·obtain rfl:k=0:=by omega
   go_wp2_with (first|((with_reducible refine wp_region_later (by kernel_rfl) (by kernel_rfl) ?_);(repeat(first|go_big_quiet_step (first|fail)));refine wpQuiet_nil ?_;rintro _ ⟨x,rfl⟩)|(refine stepLoad rfl _ _ rfl bm 0 rfl (row:=vs) hX.out _ Tryz.underlying62 rfl (by rw[HV1.out];kernel_rfl) (by rw[List.drop_zero,List.take_length]) ?_)|(refine stepStore2 rfl _ _ _ rfl (w.heap.size) 0 rfl (us:=vs) (cs2:=vs) (hR.out) ?cz1 ?cz2 ?cz3 ?cz4 ?cz5 (w0:={ wr with heap:=#[] }) (grows_nil _) (Nat.zero_le _) ?_;(case cz1=>rfl);(case cz2=>(rw[HV1.out];kernel_rfl));(case cz3=>exact HV2.out);(case cz4=>(rw[HV1.out];exact Nat.le_of_ble_eq_true rfl));(case cz5=>exact splice_all HV1.out);intro z9 hx kx;(have HX9:=lH hx);(have HG9:=lH kx.gb);clear hx kx))
   have hxw:x.w.heap.size≤wr.heap.size:=hG.out.size
   have fA:=om_wr hO.out (Wr.box hR.out HG9.out)
   have fB:Grows w z9.w:=by
    have gx:Grows w x.w:=inferInstance
    refine⟨⟨HG9.out.os.trans (hG.out.os.trans gx.out.os),HG9.out.tape.trans (hG.out.tape.trans gx.out.tape),HG9.out.output.trans (hG.out.output.trans gx.out.output),Nat.le_trans gx.out.size (Nat.le_trans hG.out.size HG9.out.size),fun k hk=>?_⟩⟩
    have h1:=gx.out.size
    exact(HG9.out.block k (by omega) (fun e=>by cases e;omega)).trans ((hG.out.block k (by omega) (fun e=>by cases e;omega)).trans (gx.out.block k hk))
   refine bodyPost_ret (v:=.tuple #[.agg vs.toArray,.slice sa q sc]) (results_cell2 (P:=Tryz.prog) rfl rfl HX9.out _ Tryz.underlying62 rfl (by rw[HV1.out];kernel_rfl) rfl) rfl ?_
   have fC:=Enc.mono (EncO.toRd fA) gx0
   have fD:∃ y:Later w,z9.w=y.w:=⟨⟨z9.w,fB.out⟩,rfl⟩
   first|exact⟨vs,m,_,rfl,HNW.out,fC,fD⟩|exact⟨vs,_,rfl,m,HNW.out,fC,fD⟩|exact⟨vs,rfl,m,HNW.out,fC,fD⟩|exact⟨vs,m,rfl,HNW.out,fC,fD⟩
end Go.Proofs.YtbaffippdifbpaaGreat
namespace Go.Proofs.YtbaffippdifbpaaGreat
set_option linter.unusedVariables false
open Go.ChangeShapes Go.WideShapes Go.ChangeAt Go.RowKit
set_option maxHeartbeats 2000000 in
theorem c_lsameTexts{a b:Option Addr}{n c d:Nat}{l:List ByteArray}{w:World}(h1:Sl encStr w a l)(h2:Sl encStr w b l)(hn:l.length=n)(hm:n≤1048576) :
  Calls Tryz.prog 13 #[.slice a n c,.slice b n d] w (Gives w (.bool true)):=by
 go_enter Tryz.func13,Tryz.ntmps13
 go_wp2_with (first|((with_reducible refine wp_region_later (by kernel_rfl) (by kernel_rfl) ?_);(repeat(first|go_big_quiet_step (first|fail)));refine wpQuiet_nil ?_;rintro _ ⟨x,rfl⟩))
 go_loopw [5] (fun v wr=>∃ k:Nat,v=.int .i64 k∧k≤n∧∃ x:Later w,wr=x.w) (fun v _=>(n - intOf v).toNat)
 case atStart=>exact⟨0,rfl,by omega,Later.here w,rfl⟩
 case round =>
  obtain⟨k,rfl,hk,x,rfl⟩:=hrel
  by_cases h:k<n
  ·obtain⟨b1,o1,s,rfl,hb1,hd1,g1⟩:=h1.str (show k<l.length by omega)
   obtain⟨b2,o2,s2,rfl,hb2,hd2,g2⟩:=h2.str (show k<l.length by omega)
   obtain rfl:s=s2:=by
    have:=hd1.out.symm.trans hd2.out
    simpa using this
   have hse:(s.toList != s.toList)=false:=by simp
   go_wp2_with (first|((with_reducible refine wp_region_later (by kernel_rfl) (by kernel_rfl) ?_);(repeat(first|go_big_quiet_step (first|fail)|simp only[hse]));refine wpQuiet_nil ?_;rintro _ ⟨x,rfl⟩))
   go_roundw
   case rel=>exact⟨k+1,by go_num,by omega,_,rfl⟩
   case measure=>simp[intOf];omega
  ·go_wp2_with (first|((with_reducible refine wp_region_later (by kernel_rfl) (by kernel_rfl) ?_);(repeat(first|go_big_quiet_step (first|fail)));refine wpQuiet_nil ?_;rintro _ ⟨x,rfl⟩))
   go_ret
   exact Gives.mk rfl
end Go.Proofs.YtbaffippdifbpaaGreat
