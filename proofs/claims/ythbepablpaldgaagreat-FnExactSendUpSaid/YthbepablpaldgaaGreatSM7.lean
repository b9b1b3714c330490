/- The contracts of AddPair. No condition but on sizes. -/
import Derived.Test.YthbepablpaldgaaGreatSSlots2
import Derived.Test.YthbepablpaldgaaGreatSM0
import Derived.Test.YthbepablpaldgaaGreatSWord
import Derived.Test.YthbepablpaldgaaGreatSFar
import Derived.Deep.MidRow
import Derived.Deep.RegionHeld3
import Derived.Test.YthbepablpaldgaaGreatSFileO
import Derived.Shelf.Abstract
namespace Go.Proofs.YthbepablpaldgaaGreat
set_option maxRecDepth 100000
set_option maxHeartbeats 2000000
set_option linter.unusedVariables false
open Go.ChangeShapes Go.WideShapes Go.ChangeAt Go.RowKit
theorem encPair_one(x:Pair):∀ u∈encPair x,u.oneCell'=true:=by
 intro u hu
 simp only[encPair,List.mem_cons,List.not_mem_nil,or_false]at hu
 rcases hu with rfl|rfl<;>rfl
theorem c_clonePair{a:Option Addr}{n c:Nat}{l:List Pair}{w:World}(hs:Sl encPair w a l)(hn:l.length=n)(hm:n≤100000000) :
  Calls Tryz.prog 111 #[.slice a n c] w (GivesSl encPair 194 2 w l):=by
 cases a with
 | none =>
  have hl:l=[]:=by
   cases l with
   | nil=>rfl
   | cons y r=>obtain⟨b,off,h0,-⟩:=hs 0 y rfl;cases h0
  have hq:=fun(w:World)=>run_eql_slice_nil (P:=Tryz.prog) w 72 194 none n c Tryz.underlying72
  simp only[Option.isNone]at hq
  have HL:=lH hl;clear hl
  go_enter Tryz.func111,Tryz.ntmps111
  go_wp2_with (fail)
  go_ret
  exact GivesSl.nilOf encPair_len HL.out
 | some ad =>
  have hq:=fun(w:World)=>run_eql_slice_nil (P:=Tryz.prog) w 72 194 (some ad) n c Tryz.underlying72
  simp only[Option.isNone]at hq
  go_enter Tryz.func111,Tryz.ntmps111
  go_wp2_with (first|(at_builtin;refine wpList_appS (enc:=encPair) (w0:=w) (z:=.agg #[.int .i64 0,.int .i64 0]) (size:=2) (bytes:=16) (n:=0) (l:=[]) rfl (.tmp 5) (.tmp 6) rfl Tryz.underlying72 kr rfl (by decide) (by decide) rfl rfl (fun h=>by cases h) rfl hn (Own.emptyAt encPair_len nl rfl) (hs.to ii) encPair_one (by omega) ?_;intro sa1 sc1 x1 hown1 hgr1))
  go_ret
  rw[List.nil_append]at hown1
  exact⟨sa1,sc1,by rw[hn];first|rfl|simp,hown1,Later.of⟩
def byteList(s:ByteArray):List Int:=s.data.toList.map (fun b=>(b.toNat:Int))
@[irreducible] def checkOf(s:ByteArray):Int:=crc 65535 (byteList s)
theorem checkOf_eq(s:ByteArray):checkOf s=crc 65535 (byteList s):=by unfold checkOf;rfl
theorem crc_cons(n b:Int)(l:List Int):crc n (b::l)=crc (crcBits 8 (bits .xor .i64 n (256*b))) l:=by with_unfolding_all rfl
theorem crc_nil(n:Int):crc n []=n:=by with_unfolding_all rfl
theorem byteList_len(s:ByteArray):(byteList s).length=s.size:=by simp[byteList]
theorem byteList_at{s:ByteArray}{k:Nat}(h:k<s.size):((s[k]'h).toNat:Int)≤255∧(byteList s).drop k=((s[k]'h).toNat:Int)::(byteList s).drop (k+1):=by
 refine⟨?_,?_⟩
 ·have:=(s[k]'h).toNat_lt;omega
 ·have hk:k<(byteList s).length:=by rw[byteList_len];exact h
  rw[List.drop_eq_getElem_cons hk]
  congr 1
  simp[byteList];rfl
theorem c_iCheckOf{s:ByteArray}{w:World}(hm:s.size≤4611686018427387904) :
  Calls Tryz.prog 253 #[.string s] w (Gives w (.int .i64 (checkOf s))):=by
 have hlen:=byteList_len s
 have HC:=lH (show checkOf s=crc 65535 (byteList s)from checkOf_eq s)
 go_enter Tryz.func253,Tryz.ntmps253
 go_wp2_with (fail)
 go_loopw [3,4] (fun u v wr=>∃ (k:Nat) (m:Int),v=.int .i64 k∧u=.int .i64 m∧k≤s.size∧0≤m∧m≤65535∧Hid (crc m ((byteList s).drop k)=checkOf s)∧∃ x:Later w,wr=x.w) (fun _ v _=>(s.size - intOf v).toNat)
 case atStart=>exact⟨0,65535,rfl,rfl,by omega,by omega,by omega,by rw[HC.out];rfl,Later.of⟩
 case round =>
  obtain⟨k,m,rfl,rfl,hk,hm0,hm1,hf,x0,rfl⟩:=hrel
  by_cases h:k<s.size
  ·obtain⟨hb1,hd⟩:=byteList_at h
   have⟨hx0,hx1⟩:=xor_bd hm0 hm1 (show 0≤256*((s[k]'h).toNat:Int)by omega) (show 256*((s[k]'h).toNat:Int)≤65535 by omega)
   go_wp2_with (fail)
   go_loopw [3,5] (fun u v wr=>∃ (j:Nat) (m1:Int),v=.int .i64 j∧u=.int .i64 m1∧j≤8∧0≤m1∧m1≤65535∧Hid (crcBits (8 - j) m1=crcBits 8 (bits .xor .i64 m (256*((s[k]'h).toNat:Int))))∧∃ y:Later x0.w,wr=y.w) (fun _ v _=>(8 - intOf v).toNat)
   case atStart=>exact⟨0,_,rfl,rfl,by omega,hx0,hx1,by simp[Hid],Later.of⟩
   case round =>
    obtain⟨j,m1,rfl,rfl,hj,hn0,hn1,hg,y,rfl⟩:=hrel
    by_cases h2:j<8
    ·have ht:=and_top hn0 hn1
     have⟨hc0,hc1⟩:=crcBit_bd hn0 hn1
     cases c1:decide (32768≤m1)
     ·go_wp2_with (fail)
      go_roundw
      case rel=>exact⟨j+1,crcBit m1,by go_num,by simp only[crcBit,if_neg (show ¬ 32768≤m1 by simpa using c1),Int.mul_comm m1 2],by omega,hc0,hc1,by have:=hg.out;rw[show 8 - j=(8 - (j+1))+1 by omega,crcBits]at this;exact this,Later.of⟩
      case measure=>simp[intOf];omega
     ·go_wp2_with (fail)
      go_roundw
      case rel=>exact⟨j+1,crcBit m1,by go_num,by simp only[crcBit,if_pos (show 32768≤m1 by simpa using c1)],by omega,hc0,hc1,by have:=hg.out;rw[show 8 - j=(8 - (j+1))+1 by omega,crcBits]at this;exact this,Later.of⟩
      case measure=>simp[intOf];omega
    ·have:j=8:=by omega
     subst this
     have hm1:=lH (show crcBits 8 (bits .xor .i64 m (256*((s[k]'h).toNat:Int)))=m1 by rw[← hg.out];rfl)
     go_wp2_with (fail)
     go_roundw
     case rel=>exact⟨k+1,m1,by go_num,rfl,by omega,hn0,hn1,by have:=hf.out;rw[hd,crc_cons,hm1.out]at this;exact lH this,Later.of⟩
     case measure=>simp[intOf];omega
  ·go_wp2_with (fail)
   go_ret
   exact Gives.mk (by have:=hf.out;rw[List.drop_of_length_le (by omega),crc_nil]at this;rw[← this];rfl)
theorem c_sCheckOf{s:ByteArray}{w:World}(hm:s.size≤4611686018427387904) :
  Calls Tryz.prog 249 #[.string s] w (Gives w (.int .i64 (checkOf s))):=by
 have hlen:=byteList_len s
 have HC:=lH (show checkOf s=crc 65535 (byteList s)from checkOf_eq s)
 go_enter Tryz.func249,Tryz.ntmps249
 go_wp2_with (fail)
 go_loopw [3,4] (fun u v wr=>∃ (k:Nat) (m:Int),v=.int .i64 k∧u=.int .i64 m∧k≤s.size∧0≤m∧m≤65535∧Hid (crc m ((byteList s).drop k)=checkOf s)∧∃ x:Later w,wr=x.w) (fun _ v _=>(s.size - intOf v).toNat)
 case atStart=>exact⟨0,65535,rfl,rfl,by omega,by omega,by omega,by rw[HC.out];rfl,Later.of⟩
 case round =>
  obtain⟨k,m,rfl,rfl,hk,hm0,hm1,hf,x0,rfl⟩:=hrel
  by_cases h:k<s.size
  ·obtain⟨hb1,hd⟩:=byteList_at h
   have⟨hx0,hx1⟩:=xor_bd hm0 hm1 (show 0≤((s[k]'h).toNat:Int)*256 by omega) (show((s[k]'h).toNat:Int)*256≤65535 by omega)
   go_wp2_with (fail)
   go_loopw [3,5] (fun u v wr=>∃ (j:Nat) (m1:Int),v=.int .i64 j∧u=.int .i64 m1∧j≤8∧0≤m1∧m1≤65535∧Hid (crcBits (8 - j) m1=crcBits 8 (bits .xor .i64 m (((s[k]'h).toNat:Int)*256)))∧∃ y:Later x0.w,wr=y.w) (fun _ v _=>(8 - intOf v).toNat)
   case atStart=>exact⟨0,_,rfl,rfl,by omega,hx0,hx1,by simp[Hid],Later.of⟩
   case round =>
    obtain⟨j,m1,rfl,rfl,hj,hn0,hn1,hg,y,rfl⟩:=hrel
    by_cases h2:j<8
    ·have ht:=and_top hn0 hn1
     have⟨hc0,hc1⟩:=crcBit_bd hn0 hn1
     cases c1:decide (32768≤m1)
     ·go_wp2_with (fail)
      go_roundw
      case rel=>exact⟨j+1,crcBit m1,by go_num,by simp only[crcBit,if_neg (show ¬ 32768≤m1 by simpa using c1),Int.mul_comm m1 2],by omega,hc0,hc1,by have:=hg.out;rw[show 8 - j=(8 - (j+1))+1 by omega,crcBits]at this;exact this,Later.of⟩
      case measure=>simp[intOf];omega
     ·go_wp2_with (fail)
      go_roundw
      case rel=>exact⟨j+1,crcBit m1,by go_num,by simp only[crcBit,if_pos (show 32768≤m1 by simpa using c1),Int.mul_comm m1 2],by omega,hc0,hc1,by have:=hg.out;rw[show 8 - j=(8 - (j+1))+1 by omega,crcBits]at this;exact this,Later.of⟩
      case measure=>simp[intOf];omega
    ·have:j=8:=by omega
     subst this
     have hm1:=lH (show crcBits 8 (bits .xor .i64 m (((s[k]'h).toNat:Int)*256))=m1 by rw[← hg.out];rfl)
     go_wp2_with (fail)
     go_roundw
     case rel=>exact⟨k+1,m1,by go_num,rfl,by omega,hn0,hn1,by have:=hf.out;rw[hd,crc_cons,← Int.mul_comm _ 256,hm1.out]at this;exact lH this,Later.of⟩
     case measure=>simp[intOf];omega
  ·go_wp2_with (fail)
   go_ret
   exact Gives.mk (by have:=hf.out;rw[List.drop_of_length_le (by omega),crc_nil]at this;rw[← this];rfl)
class Keeps(B:Nat)(w w':World):Prop where
 size:w.heap.size≤w'.heap.size
 block:∀ b,B≤b→b<w.heap.size→w'.heap[b]?=w.heap[b]?
instance(priority:=2000) Keeps.same (B:Nat)(w:World):Keeps B w w:=⟨Nat.le_refl _,fun _ _ _=>rfl⟩
theorem Keeps.trans{B:Nat}{a b c:World}(h:Keeps B a b)(k:Keeps B b c):Keeps B a c:=⟨Nat.le_trans h.size k.size,fun i h1 h2=>(k.block i h1 (Nat.lt_of_lt_of_le h2 h.size)).trans (h.block i h1 h2)⟩
theorem Keeps.later'{B:Nat}{w W:World}(h:Keeps B w W)(x:Later W):Keeps B w x.w:=h.trans ⟨x.h.size,fun b _ h2=>x.h.block b h2⟩
instance(priority:=1500) Keeps.andThenSelf (B:Nat){W:World}(x:Later W)(y:Later x.w):Keeps B y.w (x.andThen y).w:=⟨Nat.le_refl _,fun _ _ _=>rfl⟩
instance(priority:=1400) Keeps.andThenMid (B:Nat){W:World}(x:Later W)(y:Later x.w):Keeps B x.w (x.andThen y).w:=⟨y.h.size,fun b _ h2=>y.h.block b h2⟩
instance(priority:=1300) Keeps.andThen (B:Nat)(a:World){W:World}(x:Later W)(y:Later x.w)[h:Keeps B a x.w]:Keeps B a (x.andThen y).w:=h.later' y
instance(priority:=1200) Keeps.drawn (B:Nat)(a:World){W:World}(x:Later W)[h:Keeps B a x.w]:Keeps B a x.draw.w:=⟨h.size,h.block⟩
instance(priority:=1200) Keeps.drew (B:Nat)(a w:World)[h:Keeps B a w]:Keeps B a w.drew:=⟨h.size,h.block⟩
theorem Keeps.set'{B:Nat}{a w:World}(h:Keeps B a w)(b i:Nat)(v:Value)(k:b<B):Keeps B a (w.setCell ⟨b,i,none⟩ v):=⟨by simpa using h.size,fun c h1 h2=>by
 rw[Below.heap_setCell _ _ _ _ (fun e=>by simp only at e;omega)];exact h.block c h1 h2⟩
instance(priority:=1200) Keeps.setCell (B:Nat)(a w:World)(b i:Nat)(v:Value)[h:Keeps B a w][k:LtN b B]:Keeps B a (w.setCell ⟨b,i,none⟩ v):=h.set' b i v k.out
instance(priority:=1200) Keeps.setL (B:Nat)(a:World){W:World}(x:Later W)(b i:Nat)(v:Value)[h:Keeps B a x.w][k:LtN b B]:Keeps B a (x.set ⟨b,i,none⟩ v).w:=h.set' b i v k.out
instance(priority:=1250) Keeps.setL8 (B:Nat)(a:World){W:World}(x:Later W)(b i0 i1 i2 i3 i4 i5 i6 i7:Nat)(v0 v1 v2 v3 v4 v5 v6 v7:Value)[h:Keeps B a x.w][k:LtN b B]:Keeps B a ((((((((x.set ⟨b,i0,none⟩ v0).set ⟨b,i1,none⟩ v1).set ⟨b,i2,none⟩ v2).set ⟨b,i3,none⟩ v3).set ⟨b,i4,none⟩ v4).set ⟨b,i5,none⟩ v5).set ⟨b,i6,none⟩ v6).set ⟨b,i7,none⟩ v7).w :=
 (((((((h.set' b i0 v0 k.out).set' b i1 v1 k.out).set' b i2 v2 k.out).set' b i3 v3 k.out).set' b i4 v4 k.out).set' b i5 v5 k.out).set' b i6 v6 k.out).set' b i7 v7 k.out
instance(priority:=1200) Keeps.alloc (B:Nat)(a w:World)(o:Obj)[h:Keeps B a w]:Keeps B a (w.alloc o):=⟨by have:=h.size;simp;omega,fun b h1 h2=>by rw[Below.heap_alloc _ _ _ (Nat.lt_of_lt_of_le h2 h.size)];exact h.block b h1 h2⟩
instance(priority:=1000) Keeps.later (B:Nat)(a:World){W:World}(x:Later W)[h:Keeps B a W]:Keeps B a x.w:=h.later' x
instance(priority:=100) Keeps.grows (B:Nat)(w W:World)[h:Grows w W]:Keeps B w W:=⟨h.out.size,fun b _ h2=>h.out.block b h2⟩
class Enc(α:Type) where
 size:Nat
 Rd:Nat→World→List Value→α→Prop
 len:∀ {B w vs x},Rd B w vs x→vs.length=size
 keep:∀ {B w w' vs x},Rd B w vs x→Keeps B w w'→Rd B w' vs x
 mono:∀ {B B' w vs x},Rd B w vs x→B'≤B→Rd B' w vs x
 tot:α→Int
 tot_nonneg:∀ x,0≤tot x
def totL{α:Type}[Enc α]:List α→Int
 | []=>0
 | x::r=>1+Enc.tot x+totL r
theorem totL_len{α:Type}[Enc α](l:List α):(l.length:Int)≤totL l:=by
 induction l with
 | nil=>simp[totL]
 | cons x r ih=>have:=Enc.tot_nonneg x;simp only[totL,List.length_cons];omega
theorem totL_nonneg{α:Type}[Enc α](l:List α):0≤totL l:=by have:=totL_len l;omega
theorem totL_mem{α:Type}[Enc α]{l:List α}{x:α}(h:x∈l):Enc.tot x≤totL l:=by
 induction l with
 | nil=>cases h
 | cons y r ih =>
  have h1:=totL_nonneg r;have h2:=Enc.tot_nonneg y
  simp only[totL]
  rcases List.mem_cons.1 h with rfl|h
  ·omega
  ·have:=ih h;omega
def RdS{α:Type}[E:Enc α](B:Nat)(w:World)(a:Option Addr)(c:Nat)(l:List α):Prop :=
 l.length≤c∧c≤maxLen∧(a=none→c=0)∧∀ (i:Nat) (x:α),l[i]?=some x→∃ b off vs,a=some ⟨b,off,none⟩∧B≤b∧b<w.heap.size∧E.Rd B w vs x∧∀ (j:Nat) (u:Value),vs[j]?=some u→w.cell? ⟨b,off+i*E.size+j,none⟩=some u
section
variable {α:Type} [E:Enc α] {B:Nat} {w:World} {a:Option Addr} {c:Nat} {l:List α}
theorem RdS.max(h:RdS B w a c l):l.length≤9223372036854775807:=by have h1:=h.1;have h2:=h.2.1;unfold maxLen at h2;omega
theorem RdS.nilcap(h:RdS B w a c l):a=none→c=0:=h.2.2.1
theorem RdS.keep{w':World}(h:RdS B w a c l)(k:Keeps B w w'):RdS B w' a c l:=by
 refine⟨h.1,h.2.1,h.2.2.1,fun i x hx=>?_⟩
 obtain⟨b,off,vs,rfl,h1,h2,h3,h4⟩:=h.2.2.2 i x hx
 exact⟨b,off,vs,rfl,h1,Nat.lt_of_lt_of_le h2 k.size,E.keep h3 k,fun j u hu=>by rw[World.cell?_of_block (w:=w) (k.block b h1 h2)];exact h4 j u hu⟩
theorem RdS.mono{B':Nat}(h:RdS B w a c l)(k:B'≤B):RdS B' w a c l:=by
 refine⟨h.1,h.2.1,h.2.2.1,fun i x hx=>?_⟩
 obtain⟨b,off,vs,rfl,h1,h2,h3,h4⟩:=h.2.2.2 i x hx
 exact⟨b,off,vs,rfl,by omega,h2,E.mono h3 k,h4⟩
theorem RdS.to{w':World}(h:RdS B w a c l)(g:Keeps B w w'):RdS B w' a c l:=h.keep g
theorem RdS.nil:RdS B w none 0 ([]:List α):=⟨Nat.le_refl _,by unfold maxLen;omega,fun _=>rfl,fun i x h=>by simp at h⟩
theorem RdS.at(h:RdS B w a c l){k:Nat}(hk:k<l.length):∃ b off x vs,a=some ⟨b,off,none⟩∧LtN b w.heap.size∧Hid (l.drop k=x::l.drop (k+1))∧E.Rd B w vs x∧∀ (j:Nat) (u:Value),vs[j]?=some u→w.cell? ⟨b,off+k*E.size+j,none⟩=some u:=by
 obtain⟨x,hx,hd⟩:=drop_at hk
 obtain⟨b,off,vs,h0,-,h2,h3,h4⟩:=h.2.2.2 k x hx
 exact⟨b,off,x,vs,h0,⟨h2⟩,hd,h3,h4⟩
end
def GivesD{α:Type}[E:Enc α](w:World)(x:α):Ending→World→Prop:=fun e w'=>∃ vs:List Value,e=.returned (.agg vs.toArray)∧E.Rd w.heap.size w' vs x∧∃ y:Later w,w'=y.w
instance Enc.int:Enc Int where
 size:=1
 Rd _ _ vs n:=vs=[.int .i64 n]∧i64 n
 len h:=by rw[h.1];rfl
 keep h _:=h
 mono h _:=h
 tot _:=0
 tot_nonneg _:=Int.le_refl _
instance Enc.bool:Enc Bool where
 size:=1
 Rd _ _ vs b:=vs=[.bool b]
 len h:=by rw[h];rfl
 keep h _:=h
 mono h _:=h
 tot _:=0
 tot_nonneg _:=Int.le_refl _
instance Enc.str:Enc ByteArray where
 size:=1
 Rd _ _ vs s:=vs=[.string s]∧s.size≤9223372036854775807
 len h:=by rw[h.1];rfl
 keep h _:=h
 mono h _:=h
 tot s:=s.size
 tot_nonneg _:=by omega
/-! ### A block that is filled row by row -/
def RowsIn{α:Type}[E:Enc α](B:Nat)(w:World)(D:Array Value)(l:List α):Prop:=∀ (i:Nat) (x:α),l[i]?=some x→∃ vs,E.Rd B w vs x∧∀ (j:Nat) (u:Value),vs[j]?=some u→D[i*E.size+j]?=some u
def putAt(D:Array Value)(p j:Nat):List Value→Array Value
 | []=>D
 | v::r=>putAt (D.setIfInBounds (p+j) v) p (j+1) r
theorem putAt_low:∀ (vs:List Value) (D:Array Value) (p j i:Nat),i<p+j→(putAt D p j vs)[i]?=D[i]?
 | [],D,p,j,i,h=>rfl
 | v::r,D,p,j,i,h=>by
  rw[putAt,putAt_low r _ _ _ _ (by omega),Array.getElem?_setIfInBounds_ne (by omega)]
theorem putAt_new:∀ (vs:List Value) (D:Array Value) (p j:Nat),p+j+vs.length≤D.size→∀ (i:Nat) (u:Value),vs[i]?=some u→(putAt D p j vs)[p+j+i]?=some u
 | [],D,p,j,h,i,u,hu=>by simp at hu
 | v::r,D,p,j,h,0,u,hu=>by
  simp only[List.getElem?_cons_zero,Option.some.injEq]at hu
  subst hu
  simp only[List.length_cons]at h
  show(putAt (D.setIfInBounds (p+j) v) p (j+1) r)[p+j]?=some v
  rw[putAt_low r _ _ _ _ (by omega),Array.getElem?_setIfInBounds_self_of_lt (by omega)]
 | v::r,D,p,j,h,i+1,u,hu=>by
  simp only[List.length_cons]at h
  have:=putAt_new r (D.setIfInBounds (p+j) v) p (j+1) (by simp;omega) i u (by simpa using hu)
  rw[putAt,← this];congr 1;omega
theorem RowsIn.nil{α:Type}[E:Enc α]{B:Nat}{w:World}{D:Array Value}:RowsIn B w D ([]:List α):=fun i x h=>by simp at h
theorem RowsIn.put{α:Type}[E:Enc α]{B n k:Nat}{W W':World}{D:Array Value}{l r:List α}{x:α}{vs:List Value}(h:RowsIn B W D (l.take k))(hd:l.drop k=x::r)(hk:k<n)(hl:l.length=n)(hD:D.size=n*E.size)(hR:E.Rd B W' vs x)(g:Keeps B W W') :
  RowsIn B W' (putAt D (k*E.size) 0 vs) (l.take (k+1)):=by
 have hkx:l[k]?=some x:=by
  have:=congrArg (fun m=>m[0]?) hd
  simpa using this
 have hle:k*E.size+E.size≤n*E.size:=by rw[← Nat.succ_mul];exact Nat.mul_le_mul_right _ hk
 intro i y hy
 by_cases hi:i<k
 ·obtain⟨us,h1,h2⟩:=h i y (by rw[List.getElem?_take_of_lt (by omega)]at hy;rw[List.getElem?_take_of_lt hi];exact hy)
  refine⟨us,E.keep h1 g,fun j u hu=>?_⟩
  have hj:j<E.size:=by rw[← E.len h1];exact(List.getElem?_eq_some_iff.1 hu).1
  have:(i+1)*E.size≤k*E.size:=Nat.mul_le_mul_right _ hi
  rw[Nat.succ_mul]at this
  rw[putAt_low _ _ _ _ _ (by omega)];exact h2 j u hu
 ·have hik:i=k:=by
   have:=(List.getElem?_eq_some_iff.1 hy).1
   simp at this;omega
  subst hik
  rw[List.getElem?_take_of_lt (by omega),hkx]at hy
  cases hy
  refine⟨vs,hR,fun j u hu=>?_⟩
  exact putAt_new vs D _ 0 (by rw[E.len hR];omega) j u hu
theorem Later.set5_at{W:World}{C:Array Value}{T:TypeId}(x:Later (W.alloc (.cells C T)))(i i' i2 i3 i4:Nat)(v v' v2 v3 v4:Value) :
  ∃ y:Later (W.alloc (.cells (((((C.setIfInBounds i v).setIfInBounds i' v').setIfInBounds i2 v2).setIfInBounds i3 v3).setIfInBounds i4 v4) T)),(((((x.set ⟨W.heap.size,i,none⟩ v).set ⟨W.heap.size,i',none⟩ v').set ⟨W.heap.size,i2,none⟩ v2).set ⟨W.heap.size,i3,none⟩ v3).set ⟨W.heap.size,i4,none⟩ v4).w=y.w :=
 Later.cast (by rw[World.setCell_alloc_at C T _ i v rfl,World.setCell_alloc_at _ T _ i' v' rfl,World.setCell_alloc_at _ T _ i2 v2 rfl,World.setCell_alloc_at _ T _ i3 v3 rfl,World.setCell_alloc_at _ T _ i4 v4 rfl]) _
theorem openS{α:Type}[E:Enc α]{w:World}{es:List Cd}{v:Value}(hs:E.size=es.length)(hf:∀ vs,vs.length=es.length→RdL w es vs→∃ x:α,E.Rd 0 w vs x)(h:RdC w (.sl es) v) :
  ∃ a c l,v=.slice a l.length c∧RdS (α:=α) 0 w a c l:=by
 cases h with
 | nil=>exact⟨none,0,[],rfl,RdS.nil⟩
 | @sl _ a n c U h0 h1 h2 h3 h4 =>
  have:∀ i,i<n→∃ x:α,∃ vs,E.Rd 0 w vs x∧vs=(List.range es.length).map (U i):=fun i hi=>by
   obtain⟨x,hx⟩:=hf ((List.range es.length).map (U i)) (by simp) (fun j e hj=>by
    have hj':j<es.length:=(List.getElem?_eq_some_iff.1 hj).1
    exact⟨U i j,by simp[hj'],h4 i hi j e hj⟩)
   exact⟨x,_,hx,rfl⟩
  obtain⟨l,hl,hp⟩:=choose_list n this
  refine⟨some a,c,l,by rw[hl],by rw[hl];exact h1,h2,(by intro e;cases e),fun i x hx=>?_⟩
  obtain⟨vs,hR,rfl⟩:=hp i x hx
  have hi:i<n:=by rw[← hl];exact(List.getElem?_eq_some_iff.1 hx).1
  obtain⟨b,off,rfl,hb,-⟩:=h3 i hi 0 h0
  refine⟨b,off,_,rfl,Nat.zero_le _,hb,hR,fun j u hu=>?_⟩
  have hj:j<es.length:=by have:=(List.getElem?_eq_some_iff.1 hu).1;simpa using this
  simp[hj]at hu
  subst hu
  obtain⟨b',off',hbo,-,h6⟩:=h3 i hi j hj
  simp only[Addr.mk.injEq,and_true]at hbo
  obtain⟨rfl,rfl⟩:=hbo
  rw[hs,Nat.add_assoc];exact h6
theorem openInt{w:World}(vs:List Value)(hl:vs.length=1)(h:RdL w [.int] vs):∃ x:Int,Enc.Rd 0 w vs x:=by
 obtain⟨u0,g0,r0⟩:=h.at (j:=0) rfl
 obtain⟨x0,rfl,p0⟩:=r0.int_inv
 refine⟨x0,list_all hl ?_,p0⟩
 intro j y hy
 match j,hy with
 | 0,hy=>cases hy;exact g0
theorem openBool{w:World}(vs:List Value)(hl:vs.length=1)(h:RdL w [.bool] vs):∃ x:Bool,Enc.Rd 0 w vs x:=by
 obtain⟨u0,g0,r0⟩:=h.at (j:=0) rfl
 obtain⟨x0,rfl⟩:=r0.bool_inv
 refine⟨x0,list_all hl ?_⟩
 intro j y hy
 match j,hy with
 | 0,hy=>cases hy;exact g0
theorem openStr{w:World}(vs:List Value)(hl:vs.length=1)(h:RdL w [.str] vs):∃ x:ByteArray,Enc.Rd 0 w vs x:=by
 obtain⟨u0,g0,r0⟩:=h.at (j:=0) rfl
 obtain⟨x0,rfl,p0⟩:=r0.str_inv
 refine⟨x0,list_all hl ?_,by unfold maxLen at p0;omega⟩
 intro j y hy
 match j,hy with
 | 0,hy=>cases hy;exact g0
def szD(left:Int)(t:Int):Int:=if left - t<0 then -1 else left - t
theorem szD_neg{l t:Int}(h:l - t<0):szD l t=-1:=if_pos h
theorem szD_pos{l t:Int}(h:¬ l - t<0):szD l t=l - t:=if_neg h
theorem tm{α:Type}[Enc α]{l:List α}{b:Int}(h:totL l≤b):∀ x∈l,Enc.tot x≤b:=fun _ hx=>Int.le_trans (totL_mem hx) h
def splice:List Value→Nat→List Value→List Value
 | cs,_,[]=>cs
 | cs,o,v::r=>splice (cs.set o v) (o+1) r
theorem Held.setCells{b:Nat}{T:TypeId}:∀ (us:List Value) {w:World} {cs:List Value} (o:Nat),Held w b cs T→Held (w.setCells b o us) b (splice cs o us) T
 | [],_,_,_,h=>h
 | v::r,_,_,o,h=>(h.set o v).setCells r (o+1)
theorem Keeps.setCells{B b:Nat}(hb:b<B):∀ (us:List Value) {a w:World} (o:Nat),Keeps B a w→Keeps B a (w.setCells b o us)
 | [],_,_,_,h=>h
 | v::r,_,_,o,h=>Keeps.setCells hb r (o+1) (h.set' b o v hb)
theorem below_setCells{B b:Nat}(hb:B≤b):∀ (us:List Value) {a w:World} (o:Nat),Below B a w→Below B a (w.setCells b o us)
 | [],_,_,_,h=>h
 | v::r,_,_,o,h=>below_setCells hb r (o+1) (h.setCell hb v)
theorem Held.range{w:World}{b:Nat}{cs row:List Value}{T:TypeId}(h:Held w b cs T){o n:Nat}(hr:(cs.drop o).take n=row):w.rangeAt b o row:=fun j v hv=>by
 rw[h.cell,← hv,← hr]
 have hj:j<n:=by
  have:=(List.getElem?_eq_some_iff.1 hv).1
  rw[← hr]at this
  simp at this;omega
 rw[List.getElem?_take_of_lt hj,List.getElem?_drop]
theorem Held.there{w:World}{b:Nat}{cs:List Value}{T:TypeId}(h:Held w b cs T){o n:Nat}(hn:o+n≤cs.length):w.there b o n:=fun j hj=>by
 rw[h.cell,h.free,List.getElem?_eq_getElem (by omega)]
 exact⟨rfl,rfl⟩
section
variable {P:Program} {ops:Array Oper} {rest:List Oper} {op:Oper} {a:Act} {w:World} {Q:Exit→Act→World→Prop}
theorem run_storeVar_held{b o ty:Nat}{v:Value}{us:List Value}(hv:v.cells.toList=us)(ht:w.there b o us.length)(hi:(P.info? ty).map (·.size)=some us.length)(h1:∀ u∈us,u.oneCell'=true) :
  (storeVar ty ⟨b,o,none⟩ v).run P w=.ok () (w.setCells b o us):=by
 have:=run_storeCells_cells (P:=P) b o us 0 w (fun j hj=>by simpa using(ht j hj).1) (fun j hj=>by simpa using(ht j hj).2) h1
 have hvs:v.cells.size=us.length:=by rw[← hv,Array.length_toList]
 cases hq:P.info? ty with
 | none=>simp[hq]at hi
 | some i =>
  have hs:us.length=i.size:=by simp[hq]at hi;omega
  simp only[Nat.add_zero]at this
  simp[storeVar,sizeOf,typeInfo,hq,hvs,hs,hv,this]
theorem stepStore(hgd:op.guard=none)(ty:TypeId)(x y:Operand)(ho:op.op=.store ty x y)(b o:Nat)(hx:a.eval x=.pointer (some ⟨b,o,none⟩)){cs us cs2:List Value}{T:TypeId}(H:Held w b cs T)
  (hv:(a.eval y).cells.toList=us) (hi:(P.info? ty).map (·.size)=some us.length) (h1:us.all (·.oneCell')=true) (hl:o+us.length≤cs.length) (hcs:splice cs o us=cs2) {w0:World} (g:Grows w0 w) (hb:w0.heap.size≤b)
  (h:∀ z:Later w0,Held z.w b cs2 T→Keeps (b+1) w z.w→wpList P ops Q rest (a.put op.dst undef) z.w):wpList P ops Q (op::rest) a w:=by
 subst hcs
 refine wpList_plain hgd fun _ hK=>?_
 unfold Oper.wp execOp
 simp only[ho,hx,Instr.storeAt,Instr.sureAddr,Sem.run_bind,Sem.run_pure,Result.andThen_ok,run_storeVar_held hv (H.there hl) hi (fun u hu=>List.all_eq_true.1 h1 u hu)]
 exact hK _ _ (h ⟨_,below_setCells hb us o g.out⟩ (H.setCells us o) (Keeps.setCells (by omega) us o (Keeps.same _ _)))
theorem stepLoad(hgd:op.guard=none)(ty:TypeId)(x:Operand)(ho:op.op=.load ty x)(b o:Nat)(hx:a.eval x=.pointer (some ⟨b,o,none⟩)){cs row:List Value}{T:TypeId}(H:Held w b cs T)
  (d:TypeDesc) (hu:P.underlying ty=some d) (hd:d.isRow=true) (hi:(P.info? ty).map (·.size)=some row.length) (hr:(cs.drop o).take row.length=row)
  (h:wpList P ops Q rest (a.put op.dst (.agg row.toArray)) w):wpList P ops Q (op::rest) a w :=
 wpList_load_mid hgd ty x ho b o hx row d (H.range hr) hu hd hi h
theorem results_cell{fn:Func}{p t:Nat}(hf:fn.results=#[.cell p t]){tmps:Array Value}{b:Nat}(hp:tmps.getD p undef=.pointer (some ⟨b,0,none⟩)){cs:List Value}{T:TypeId}(H:Held w b cs T)
  (d:TypeDesc) (hu:P.underlying t=some d) (hd:d.isRow=true) (hi:(P.info? t).map (·.size)=some cs.length):(results fn tmps).run P w=.ok (.agg cs.toArray) w:=by
 have:=run_loadVar_mid w b 0 t cs d (H.range (o:=0) (n:=cs.length) (by simp)) hu hd hi
 have hp2:tmps[p]?.getD undef=.pointer (some ⟨b,0,none⟩):=by rw[← hp];simp[Array.getD_eq_getD_getElem?]
 simp[results,hf,hp2,asAddr,this]
end
structure But(b:Nat)(w w':World):Prop where
 size:w.heap.size≤w'.heap.size
 block:∀ k,k≠b→k<w.heap.size→w'.heap[k]?=w.heap[k]?
theorem But.setCells{b:Nat}:∀ (us:List Value) {a w:World} (o:Nat),But b a w→But b a (w.setCells b o us)
 | [],_,_,_,h=>h
 | v::r,_,w,o,h=>But.setCells r (o+1) ⟨by simpa using h.size,fun k h1 h2=>by
  rw[Below.heap_setCell _ _ _ _ (fun e=>h1 (by simpa using e))];exact h.block k h1 h2⟩
theorem But.under{B b:Nat}{u w w':World}(h:But b w w')(g:Keeps B u w)(hb:u.heap.size≤b):Keeps B u w':=⟨Nat.le_trans g.size h.size,fun k h1 h2=>by
 rw[h.block k (by omega) (Nat.lt_of_lt_of_le h2 g.size)];exact g.block k h1 h2⟩
theorem Held.but{b c:Nat}{w w':World}{cs:List Value}{T:TypeId}(h:Held w c cs T)(g:But b w w')(hne:c≠b):Held w' c cs T:=by
 unfold Held
 rw[g.block c hne h.lt];exact h
section
variable {P:Program} {ops:Array Oper} {rest:List Oper} {op:Oper} {a:Act} {w:World} {Q:Exit→Act→World→Prop}
theorem stepStore2(hgd:op.guard=none)(ty:TypeId)(x y:Operand)(ho:op.op=.store ty x y)(b o:Nat)(hx:a.eval x=.pointer (some ⟨b,o,none⟩)){cs us cs2:List Value}{T:TypeId}(H:Held w b cs T)
  (hv:(a.eval y).cells.toList=us) (hi:(P.info? ty).map (·.size)=some us.length) (h1:us.all (·.oneCell')=true) (hl:o+us.length≤cs.length) (hcs:splice cs o us=cs2) {w0:World} (g:Grows w0 w) (hb:w0.heap.size≤b)
  (h:∀ z:Later w0,Held z.w b cs2 T→But b w z.w→wpList P ops Q rest (a.put op.dst undef) z.w):wpList P ops Q (op::rest) a w:=by
 subst hcs
 refine wpList_plain hgd fun _ hK=>?_
 unfold Oper.wp execOp
 simp only[ho,hx,Instr.storeAt,Instr.sureAddr,Sem.run_bind,Sem.run_pure,Result.andThen_ok,run_storeVar_held hv (H.there hl) hi (fun u hu=>List.all_eq_true.1 h1 u hu)]
 exact hK _ _ (h ⟨_,below_setCells hb us o g.out⟩ (H.setCells us o) (But.setCells us o ⟨Nat.le_refl _,fun _ _ _=>rfl⟩))
end
theorem splice_pre:∀ (us pre post:List Value),us.length=post.length→splice (pre++post) pre.length us=pre++us
 | [],pre,post,h=>by
  have:post=[]:=List.length_eq_zero_iff.1 h.symm
  subst this;rfl
 | v::r,pre,[],h=>by simp at h
 | v::r,pre,u::post,h=>by
  have:=splice_pre r (pre++[v]) post (by simpa using h)
  rw[splice]
  rw[List.set_append_right _ _ nl,Nat.sub_self,List.set_cons_zero]
  simpa using this
theorem splice_all{cs us:List Value}(h:us.length=cs.length):splice cs 0 us=us:=splice_pre us [] cs h
theorem sS{P:Program}{ops:Array Oper}{rest:List Oper}{op:Oper}{a:Act}{w:World}{Q:Exit→Act→World→Prop}(hgd:op.guard=none)(ty:TypeId)(x y:Operand)(ho:op.op=.store ty x y)(b o:Nat)(hx:a.eval x=.pointer (some ⟨b,o,none⟩)){cs us cs2:List Value}{T:TypeId}(H:Held w b cs T)(hv:(a.eval y).cells.toList=us)(hi:(P.info? ty).map (·.size)=some us.length)(h1:us.all (·.oneCell')=true)(hl:o+us.length≤cs.length)(hcs:splice cs o us=cs2){w0:World}(g:Grows w0 w)(hb:w0.heap.size≤b)
 (h:∀ z:Later w0,Hid (Held z.w b cs2 T)→Hid (But b w z.w)→wpList P ops Q rest (a.put op.dst undef) z.w):wpList P ops Q (op::rest) a w:=stepStore2 hgd ty x y ho b o hx H hv hi h1 hl hcs g hb fun z p q=>h z p q
theorem sL{P:Program}{ops:Array Oper}{rest:List Oper}{op:Oper}{a:Act}{w w1:World}{Q:Exit→Act→World→Prop}(hgd:op.guard=none)(ty:TypeId)(x:Operand)(ho:op.op=.load ty x)(b:Nat)(hx:a.eval x=.pointer (some ⟨b,0,none⟩)){cs:List Value}{T:TypeId}{k:Nat}{d:TypeDesc}(H:Hid (Held w1 b cs T))(g:Grows w1 w)(hu:P.underlying ty=some d)(HL:Hid (cs.length=k))
 (h:wpList P ops Q rest (a.put op.dst (.agg cs.toArray)) w)(hd:d.isRow=true:=by rfl)(hi:(P.info? ty).map (·.size)=some k:=by kernel_rfl):wpList P ops Q (op::rest) a w:=stepLoad hgd ty x ho b 0 hx (H.out.to g) d hu hd (by rw[HL.out];exact hi) (by rw[List.drop_zero,List.take_length]) h
theorem sW{P:Program}{ops:Array Oper}{rest:List Oper}{op:Oper}{a:Act}{w:World}{Q:Exit→Act→World→Prop}(hgd:op.guard=none)(ty:TypeId)(x y:Operand)(ho:op.op=.store ty x y)(b:Nat)(hx:a.eval x=.pointer (some ⟨b,0,none⟩)){cs us:List Value}{T:TypeId}{k:Nat}(H:Held w b cs T)(HL:Hid (us.length=k))(HO:Hid (us.all (·.oneCell')=true)){w0:World}(g:Grows w0 w)(hb:w0.heap.size≤b)
 (h:∀ z:Later w0,Hid (Held z.w b us T)→Hid (But b w z.w)→wpList P ops Q rest (a.put op.dst undef) z.w)(hv:(a.eval y).cells.toList=us:=by rfl)(hi:(P.info? ty).map (·.size)=some k:=by kernel_rfl)(hk:cs.length=k:=by rfl):wpList P ops Q (op::rest) a w:=
 stepStore2 hgd ty x y ho b 0 hx H (us:=us) (cs2:=us) hv (by rw[HL.out];exact hi) HO.out (by rw[HL.out,hk];omega) (splice_all (HL.out.trans hk.symm)) g hb fun z h1 h2=>h z h1 h2
theorem RdS.atInt{B:Nat}{w:World}{a:Option Addr}{c:Nat}{l:List Int}(h:RdS B w a c l){k:Nat}(hk:k<l.length) :
  ∃ b off x,a=some ⟨b,off,none⟩∧LtN b w.heap.size∧Hid (l.drop k=x::l.drop (k+1))∧i64 x∧(∀ (W:World) [Grows w W],W.cell? ⟨b,off+k,none⟩=some (.int .i64 x)):=by
 obtain⟨b,off,x,vs,h0,h1,h2,⟨rfl,q⟩,hc⟩:=h.at hk
 have:=hc 0 _ rfl
 rw[show off+k*Enc.size Int+0=off+k from by rw[show Enc.size Int=1 from rfl];omega]at this
 exact⟨b,off,x,h0,h1,h2,q,cell_grown h1.out this⟩
theorem RdS.atBool{B:Nat}{w:World}{a:Option Addr}{c:Nat}{l:List Bool}(h:RdS B w a c l){k:Nat}(hk:k<l.length) :
  ∃ b off x,a=some ⟨b,off,none⟩∧LtN b w.heap.size∧Hid (l.drop k=x::l.drop (k+1))∧(∀ (W:World) [Grows w W],W.cell? ⟨b,off+k,none⟩=some (.bool x)):=by
 obtain⟨b,off,x,vs,h0,h1,h2,rfl,hc⟩:=h.at hk
 have:=hc 0 _ rfl
 rw[show off+k*Enc.size Bool+0=off+k from by rw[show Enc.size Bool=1 from rfl];omega]at this
 exact⟨b,off,x,h0,h1,h2,cell_grown h1.out this⟩
theorem RdS.atStr{B:Nat}{w:World}{a:Option Addr}{c:Nat}{l:List ByteArray}(h:RdS B w a c l){k:Nat}(hk:k<l.length) :
  ∃ b off x,a=some ⟨b,off,none⟩∧LtN b w.heap.size∧Hid (l.drop k=x::l.drop (k+1))∧x.size≤9223372036854775807∧(∀ (W:World) [Grows w W],W.cell? ⟨b,off+k,none⟩=some (.string x)):=by
 obtain⟨b,off,x,vs,h0,h1,h2,⟨rfl,q⟩,hc⟩:=h.at hk
 have:=hc 0 _ rfl
 rw[show off+k*Enc.size ByteArray+0=off+k from by rw[show Enc.size ByteArray=1 from rfl];omega]at this
 exact⟨b,off,x,h0,h1,h2,q,cell_grown h1.out this⟩
structure TChannel where
 Seed:Int
 Burst:Int
 Loss:Int
def okDTChannel(x:TChannel):Prop:=i64 x.Seed∧i64 x.Burst∧i64 x.Loss∧True
instance:Enc TChannel where
 size:=3
 Rd B w vs x:=vs=[.int .i64 x.Seed,.int .i64 x.Burst,.int .i64 x.Loss]∧okDTChannel x
 len:=by rintro _ _ _ _ ⟨rfl,hok⟩;rfl
 keep:=by rintro _ _ _ _ _ ⟨rfl,hok⟩ g;exact⟨rfl,hok⟩
 mono:=by rintro _ _ _ _ _ ⟨rfl,hok⟩ g;exact⟨rfl,hok⟩
 tot x:=0
 tot_nonneg x:=by exact Int.le_refl _
structure TPacker where
 Channel:Int
 Count:Int
 Rest:ByteArray
 Starts:List Int
def okDTPacker(x:TPacker):Prop:=i64 x.Channel∧i64 x.Count∧x.Rest.size≤9223372036854775807∧True
instance:Enc TPacker where
 size:=4
 Rd B w vs x:=∃ (a0:Option Addr) (c0:Nat),vs=[.int .i64 x.Channel,.int .i64 x.Count,.string x.Rest,.slice a0 x.Starts.length c0]∧RdS B w a0 c0 x.Starts∧okDTPacker x
 len:=by rintro _ _ _ _ ⟨a0,c0,rfl,q0,hok⟩;rfl
 keep:=by rintro _ _ _ _ _ ⟨a0,c0,rfl,q0,hok⟩ g;exact⟨a0,c0,rfl,q0.keep g,hok⟩
 mono:=by rintro _ _ _ _ _ ⟨a0,c0,rfl,q0,hok⟩ g;exact⟨a0,c0,rfl,q0.mono g,hok⟩
 tot x:=(x.Rest.size:Int)+totL x.Starts
 tot_nonneg x:=by have h0:=totL_nonneg x.Starts;omega
structure TUnpacker where
 Channel:Int
 Next:Int
 Synced:Bool
 Rest:ByteArray
 Lost:Int
def okDTUnpacker(x:TUnpacker):Prop:=i64 x.Channel∧i64 x.Next∧x.Rest.size≤9223372036854775807∧i64 x.Lost∧True
instance:Enc TUnpacker where
 size:=5
 Rd B w vs x:=vs=[.int .i64 x.Channel,.int .i64 x.Next,.bool x.Synced,.string x.Rest,.int .i64 x.Lost]∧okDTUnpacker x
 len:=by rintro _ _ _ _ ⟨rfl,hok⟩;rfl
 keep:=by rintro _ _ _ _ _ ⟨rfl,hok⟩ g;exact⟨rfl,hok⟩
 mono:=by rintro _ _ _ _ _ ⟨rfl,hok⟩ g;exact⟨rfl,hok⟩
 tot x:=(x.Rest.size:Int)
 tot_nonneg x:=by omega
structure TSent where
 Seq:Int
 Data:ByteArray
def okDTSent(x:TSent):Prop:=i64 x.Seq∧x.Data.size≤9223372036854775807∧True
instance:Enc TSent where
 size:=2
 Rd B w vs x:=vs=[.int .i64 x.Seq,.string x.Data]∧okDTSent x
 len:=by rintro _ _ _ _ ⟨rfl,hok⟩;rfl
 keep:=by rintro _ _ _ _ _ ⟨rfl,hok⟩ g;exact⟨rfl,hok⟩
 mono:=by rintro _ _ _ _ _ ⟨rfl,hok⟩ g;exact⟨rfl,hok⟩
 tot x:=(x.Data.size:Int)
 tot_nonneg x:=by omega
theorem RdS.atTSent{B:Nat}{w:World}{a:Option Addr}{c:Nat}{l:List TSent}(h:RdS B w a c l){k:Nat}(hk:k<l.length) :
  ∃ b off x,a=some ⟨b,off,none⟩∧LtN b w.heap.size∧Hid (l.drop k=x::l.drop (k+1))∧okDTSent x∧(∀ (W:World) [Grows w W],W.cell? ⟨b,off+k*2,none⟩=some (.int .i64 x.Seq))∧(∀ (W:World) [Grows w W],W.cell? ⟨b,off+k*2+1,none⟩=some (.string x.Data)):=by
 obtain⟨b,off,x,vs,h0,h1,h2,⟨rfl,hok⟩,hc⟩:=h.at hk
 exact⟨b,off,x,h0,h1,h2,hok,cell_grown h1.out (hc 0 _ rfl),cell_grown h1.out (hc 1 _ rfl)⟩
structure TSender where
 Next:Int
 Window:Int
 Waiting:List TSent
 Done:Int
def okDTSender(x:TSender):Prop:=i64 x.Next∧i64 x.Window∧i64 x.Done∧True
instance:Enc TSender where
 size:=4
 Rd B w vs x:=∃ (a0:Option Addr) (c0:Nat),vs=[.int .i64 x.Next,.int .i64 x.Window,.slice a0 x.Waiting.length c0,.int .i64 x.Done]∧RdS B w a0 c0 x.Waiting∧okDTSender x
 len:=by rintro _ _ _ _ ⟨a0,c0,rfl,q0,hok⟩;rfl
 keep:=by rintro _ _ _ _ _ ⟨a0,c0,rfl,q0,hok⟩ g;exact⟨a0,c0,rfl,q0.keep g,hok⟩
 mono:=by rintro _ _ _ _ _ ⟨a0,c0,rfl,q0,hok⟩ g;exact⟨a0,c0,rfl,q0.mono g,hok⟩
 tot x:=totL x.Waiting
 tot_nonneg x:=by have h0:=totL_nonneg x.Waiting;omega
structure TReceiver where
 Expect:Int
 Locked:Bool
 Again:Bool
 Taken:Int
def okDTReceiver(x:TReceiver):Prop:=i64 x.Expect∧i64 x.Taken∧True
instance:Enc TReceiver where
 size:=4
 Rd B w vs x:=vs=[.int .i64 x.Expect,.bool x.Locked,.bool x.Again,.int .i64 x.Taken]∧okDTReceiver x
 len:=by rintro _ _ _ _ ⟨rfl,hok⟩;rfl
 keep:=by rintro _ _ _ _ _ ⟨rfl,hok⟩ g;exact⟨rfl,hok⟩
 mono:=by rintro _ _ _ _ _ ⟨rfl,hok⟩ g;exact⟨rfl,hok⟩
 tot x:=0
 tot_nonneg x:=by exact Int.le_refl _
structure TNotice where
 Expect:Int
 Locked:Bool
 Again:Bool
def okDTNotice(x:TNotice):Prop:=i64 x.Expect∧True
instance:Enc TNotice where
 size:=3
 Rd B w vs x:=vs=[.int .i64 x.Expect,.bool x.Locked,.bool x.Again]∧okDTNotice x
 len:=by rintro _ _ _ _ ⟨rfl,hok⟩;rfl
 keep:=by rintro _ _ _ _ _ ⟨rfl,hok⟩ g;exact⟨rfl,hok⟩
 mono:=by rintro _ _ _ _ _ ⟨rfl,hok⟩ g;exact⟨rfl,hok⟩
 tot x:=0
 tot_nonneg x:=by exact Int.le_refl _
structure TOrder where
 Kind:Int
 At:Int
 A:Int
 B:Int
def okDTOrder(x:TOrder):Prop:=i64 x.Kind∧i64 x.At∧i64 x.A∧i64 x.B∧True
instance:Enc TOrder where
 size:=4
 Rd B w vs x:=vs=[.int .i64 x.Kind,.int .i64 x.At,.int .i64 x.A,.int .i64 x.B]∧okDTOrder x
 len:=by rintro _ _ _ _ ⟨rfl,hok⟩;rfl
 keep:=by rintro _ _ _ _ _ ⟨rfl,hok⟩ g;exact⟨rfl,hok⟩
 mono:=by rintro _ _ _ _ _ ⟨rfl,hok⟩ g;exact⟨rfl,hok⟩
 tot x:=0
 tot_nonneg x:=by exact Int.le_refl _
structure TRecord where
 Id:Int
 Priority:Int
 Time:Int
 Data:ByteArray
def okDTRecord(x:TRecord):Prop:=i64 x.Id∧i64 x.Priority∧i64 x.Time∧x.Data.size≤9223372036854775807∧True
instance:Enc TRecord where
 size:=4
 Rd B w vs x:=vs=[.int .i64 x.Id,.int .i64 x.Priority,.int .i64 x.Time,.string x.Data]∧okDTRecord x
 len:=by rintro _ _ _ _ ⟨rfl,hok⟩;rfl
 keep:=by rintro _ _ _ _ _ ⟨rfl,hok⟩ g;exact⟨rfl,hok⟩
 mono:=by rintro _ _ _ _ _ ⟨rfl,hok⟩ g;exact⟨rfl,hok⟩
 tot x:=(x.Data.size:Int)
 tot_nonneg x:=by omega
theorem RdS.atTRecord{B:Nat}{w:World}{a:Option Addr}{c:Nat}{l:List TRecord}(h:RdS B w a c l){k:Nat}(hk:k<l.length) :
  ∃ b off x,a=some ⟨b,off,none⟩∧LtN b w.heap.size∧Hid (l.drop k=x::l.drop (k+1))∧okDTRecord x∧(∀ (W:World) [Grows w W],W.cell? ⟨b,off+k*4,none⟩=some (.int .i64 x.Id))∧(∀ (W:World) [Grows w W],W.cell? ⟨b,off+k*4+1,none⟩=some (.int .i64 x.Priority))∧(∀ (W:World) [Grows w W],W.cell? ⟨b,off+k*4+2,none⟩=some (.int .i64 x.Time))∧(∀ (W:World) [Grows w W],W.cell? ⟨b,off+k*4+3,none⟩=some (.string x.Data)):=by
 obtain⟨b,off,x,vs,h0,h1,h2,⟨rfl,hok⟩,hc⟩:=h.at hk
 exact⟨b,off,x,h0,h1,h2,hok,cell_grown h1.out (hc 0 _ rfl),cell_grown h1.out (hc 1 _ rfl),cell_grown h1.out (hc 2 _ rfl),cell_grown h1.out (hc 3 _ rfl)⟩
structure TRecorder where
 Room:Int
 Records:List TRecord
 Dropped:List Int
def okDTRecorder(x:TRecorder):Prop:=i64 x.Room∧True
instance:Enc TRecorder where
 size:=3
 Rd B w vs x:=∃ (a0:Option Addr) (c0:Nat),∃ (a1:Option Addr) (c1:Nat),vs=[.int .i64 x.Room,.slice a0 x.Records.length c0,.slice a1 x.Dropped.length c1]∧RdS B w a0 c0 x.Records∧RdS B w a1 c1 x.Dropped∧okDTRecorder x
 len:=by rintro _ _ _ _ ⟨a0,c0,a1,c1,rfl,q0,q1,hok⟩;rfl
 keep:=by rintro _ _ _ _ _ ⟨a0,c0,a1,c1,rfl,q0,q1,hok⟩ g;exact⟨a0,c0,a1,c1,rfl,q0.keep g,q1.keep g,hok⟩
 mono:=by rintro _ _ _ _ _ ⟨a0,c0,a1,c1,rfl,q0,q1,hok⟩ g;exact⟨a0,c0,a1,c1,rfl,q0.mono g,q1.mono g,hok⟩
 tot x:=totL x.Records+totL x.Dropped
 tot_nonneg x:=by have h0:=totL_nonneg x.Records;have h1:=totL_nonneg x.Dropped;omega
structure TLimit where
 Param:Int
 Low:Int
 High:Int
def okDTLimit(x:TLimit):Prop:=i64 x.Param∧i64 x.Low∧i64 x.High∧True
instance:Enc TLimit where
 size:=3
 Rd B w vs x:=vs=[.int .i64 x.Param,.int .i64 x.Low,.int .i64 x.High]∧okDTLimit x
 len:=by rintro _ _ _ _ ⟨rfl,hok⟩;rfl
 keep:=by rintro _ _ _ _ _ ⟨rfl,hok⟩ g;exact⟨rfl,hok⟩
 mono:=by rintro _ _ _ _ _ ⟨rfl,hok⟩ g;exact⟨rfl,hok⟩
 tot x:=0
 tot_nonneg x:=by exact Int.le_refl _
theorem RdS.atTLimit{B:Nat}{w:World}{a:Option Addr}{c:Nat}{l:List TLimit}(h:RdS B w a c l){k:Nat}(hk:k<l.length) :
  ∃ b off x,a=some ⟨b,off,none⟩∧LtN b w.heap.size∧Hid (l.drop k=x::l.drop (k+1))∧okDTLimit x∧(∀ (W:World) [Grows w W],W.cell? ⟨b,off+k*3,none⟩=some (.int .i64 x.Param))∧(∀ (W:World) [Grows w W],W.cell? ⟨b,off+k*3+1,none⟩=some (.int .i64 x.Low))∧(∀ (W:World) [Grows w W],W.cell? ⟨b,off+k*3+2,none⟩=some (.int .i64 x.High)):=by
 obtain⟨b,off,x,vs,h0,h1,h2,⟨rfl,hok⟩,hc⟩:=h.at hk
 exact⟨b,off,x,h0,h1,h2,hok,cell_grown h1.out (hc 0 _ rfl),cell_grown h1.out (hc 1 _ rfl),cell_grown h1.out (hc 2 _ rfl)⟩
structure TWaiting where
 Number:Int
 Order:TOrder
def okDTWaiting(x:TWaiting):Prop:=i64 x.Number∧okDTOrder x.Order∧True
instance:Enc TWaiting where
 size:=5
 Rd B w vs x:=vs=[.int .i64 x.Number,.int .i64 x.Order.Kind,.int .i64 x.Order.At,.int .i64 x.Order.A,.int .i64 x.Order.B]∧okDTWaiting x
 len:=by rintro _ _ _ _ ⟨rfl,hok⟩;rfl
 keep:=by rintro _ _ _ _ _ ⟨rfl,hok⟩ g;exact⟨rfl,hok⟩
 mono:=by rintro _ _ _ _ _ ⟨rfl,hok⟩ g;exact⟨rfl,hok⟩
 tot x:=0
 tot_nonneg x:=by exact Int.le_refl _
theorem RdS.atTWaiting{B:Nat}{w:World}{a:Option Addr}{c:Nat}{l:List TWaiting}(h:RdS B w a c l){k:Nat}(hk:k<l.length) :
  ∃ b off x,a=some ⟨b,off,none⟩∧LtN b w.heap.size∧Hid (l.drop k=x::l.drop (k+1))∧okDTWaiting x∧(∀ (W:World) [Grows w W],W.cell? ⟨b,off+k*5,none⟩=some (.int .i64 x.Number))∧(∀ (W:World) [Grows w W],W.cell? ⟨b,off+k*5+1,none⟩=some (.int .i64 x.Order.Kind))∧(∀ (W:World) [Grows w W],W.cell? ⟨b,off+k*5+2,none⟩=some (.int .i64 x.Order.At))∧(∀ (W:World) [Grows w W],W.cell? ⟨b,off+k*5+3,none⟩=some (.int .i64 x.Order.A))∧(∀ (W:World) [Grows w W],W.cell? ⟨b,off+k*5+4,none⟩=some (.int .i64 x.Order.B)):=by
 obtain⟨b,off,x,vs,h0,h1,h2,⟨rfl,hok⟩,hc⟩:=h.at hk
 exact⟨b,off,x,h0,h1,h2,hok,cell_grown h1.out (hc 0 _ rfl),cell_grown h1.out (hc 1 _ rfl),cell_grown h1.out (hc 2 _ rfl),cell_grown h1.out (hc 3 _ rfl),cell_grown h1.out (hc 4 _ rfl)⟩
structure TDone where
 Number:Int
 Time:Int
 Result:Int
def okDTDone(x:TDone):Prop:=i64 x.Number∧i64 x.Time∧i64 x.Result∧True
instance:Enc TDone where
 size:=3
 Rd B w vs x:=vs=[.int .i64 x.Number,.int .i64 x.Time,.int .i64 x.Result]∧okDTDone x
 len:=by rintro _ _ _ _ ⟨rfl,hok⟩;rfl
 keep:=by rintro _ _ _ _ _ ⟨rfl,hok⟩ g;exact⟨rfl,hok⟩
 mono:=by rintro _ _ _ _ _ ⟨rfl,hok⟩ g;exact⟨rfl,hok⟩
 tot x:=0
 tot_nonneg x:=by exact Int.le_refl _
theorem RdS.atTDone{B:Nat}{w:World}{a:Option Addr}{c:Nat}{l:List TDone}(h:RdS B w a c l){k:Nat}(hk:k<l.length) :
  ∃ b off x,a=some ⟨b,off,none⟩∧LtN b w.heap.size∧Hid (l.drop k=x::l.drop (k+1))∧okDTDone x∧(∀ (W:World) [Grows w W],W.cell? ⟨b,off+k*3,none⟩=some (.int .i64 x.Number))∧(∀ (W:World) [Grows w W],W.cell? ⟨b,off+k*3+1,none⟩=some (.int .i64 x.Time))∧(∀ (W:World) [Grows w W],W.cell? ⟨b,off+k*3+2,none⟩=some (.int .i64 x.Result)):=by
 obtain⟨b,off,x,vs,h0,h1,h2,⟨rfl,hok⟩,hc⟩:=h.at hk
 exact⟨b,off,x,h0,h1,h2,hok,cell_grown h1.out (hc 0 _ rfl),cell_grown h1.out (hc 1 _ rfl),cell_grown h1.out (hc 2 _ rfl)⟩
structure TBoard where
 Clock:Int
 Params:List Int
 Safe:Bool
 Limits:List TLimit
 Orders:List TWaiting
 Done:List TDone
 Recorder:TRecorder
 Made:Int
 Taken:Int
 Asked:List Int
abbrev cBoard(x:TBoard)(a0:Option Addr)(c0:Nat)(a1:Option Addr)(c1:Nat)(a2:Option Addr)(c2:Nat)(a3:Option Addr)(c3:Nat)(a4:Option Addr)(c4:Nat)(a5:Option Addr)(c5:Nat)(a6:Option Addr)(c6:Nat):List Value:=[.int .i64 x.Clock,.slice a0 x.Params.length c0,.bool x.Safe,.slice a1 x.Limits.length c1,.slice a2 x.Orders.length c2,.slice a3 x.Done.length c3,.int .i64 x.Recorder.Room,.slice a4 x.Recorder.Records.length c4,.slice a5 x.Recorder.Dropped.length c5,.int .i64 x.Made,.int .i64 x.Taken,.slice a6 x.Asked.length c6]
abbrev zBoard:List Value:=[.int .i64 0,.slice none 0 0,.bool false,.slice none 0 0,.slice none 0 0,.slice none 0 0,.int .i64 0,.slice none 0 0,.slice none 0 0,.int .i64 0,.int .i64 0,.slice none 0 0]
def okDTBoard(x:TBoard):Prop:=i64 x.Clock∧okDTRecorder x.Recorder∧i64 x.Made∧i64 x.Taken∧True
structure TBoardA where
 a0:Option Addr
 c0:Nat
 a1:Option Addr
 c1:Nat
 a2:Option Addr
 c2:Nat
 a3:Option Addr
 c3:Nat
 a4:Option Addr
 c4:Nat
 a5:Option Addr
 c5:Nat
 a6:Option Addr
 c6:Nat
abbrev dBoard(x:TBoard)(A:TBoardA):List Value:=cBoard x A.a0 A.c0 A.a1 A.c1 A.a2 A.c2 A.a3 A.c3 A.a4 A.c4 A.a5 A.c5 A.a6 A.c6
structure TBoardF(B:Nat)(w:World)(A:TBoardA)(x:TBoard):Prop where
 q0:RdS B w A.a0 A.c0 x.Params
 q1:RdS B w A.a1 A.c1 x.Limits
 q2:RdS B w A.a2 A.c2 x.Orders
 q3:RdS B w A.a3 A.c3 x.Done
 q4:RdS B w A.a4 A.c4 x.Recorder.Records
 q5:RdS B w A.a5 A.c5 x.Recorder.Dropped
 q6:RdS B w A.a6 A.c6 x.Asked
 ok:okDTBoard x
theorem TBoardF.keep{B:Nat}{w w2:World}{A:TBoardA}{x:TBoard}(h:TBoardF B w A x)(g:Keeps B w w2):TBoardF B w2 A x:=⟨h.q0.keep g,h.q1.keep g,h.q2.keep g,h.q3.keep g,h.q4.keep g,h.q5.keep g,h.q6.keep g,h.ok⟩
theorem TBoardF.mono{B B2:Nat}{w:World}{A:TBoardA}{x:TBoard}(h:TBoardF B w A x)(g:B2≤B):TBoardF B2 w A x:=⟨h.q0.mono g,h.q1.mono g,h.q2.mono g,h.q3.mono g,h.q4.mono g,h.q5.mono g,h.q6.mono g,h.ok⟩
instance:Enc TBoard where
 size:=12
 Rd B w vs x:=∃ A:TBoardA,vs=[.int .i64 x.Clock,.slice A.a0 x.Params.length A.c0,.bool x.Safe,.slice A.a1 x.Limits.length A.c1,.slice A.a2 x.Orders.length A.c2,.slice A.a3 x.Done.length A.c3,.int .i64 x.Recorder.Room,.slice A.a4 x.Recorder.Records.length A.c4,.slice A.a5 x.Recorder.Dropped.length A.c5,.int .i64 x.Made,.int .i64 x.Taken,.slice A.a6 x.Asked.length A.c6]∧TBoardF B w A x
 len:=by rintro _ _ _ _ ⟨A,h,F⟩;rw[h];rfl
 keep:=by rintro _ _ _ _ _ ⟨A,h,F⟩ g;exact⟨A,h,F.keep g⟩
 mono:=by rintro _ _ _ _ _ ⟨A,h,F⟩ g;exact⟨A,h,F.mono g⟩
 tot x:=totL x.Params+totL x.Limits+totL x.Orders+totL x.Done+Enc.tot x.Recorder+totL x.Asked
 tot_nonneg x:=by have h0:=totL_nonneg x.Params;have h1:=totL_nonneg x.Limits;have h2:=totL_nonneg x.Orders;have h3:=totL_nonneg x.Done;have h4:=Enc.tot_nonneg x.Recorder;have h5:=totL_nonneg x.Asked;omega
structure TFileIn where
 File:Int
 Size:Int
 Check:Int
 Parts:List ByteArray
def okDTFileIn(x:TFileIn):Prop:=i64 x.File∧i64 x.Size∧i64 x.Check∧True
instance:Enc TFileIn where
 size:=4
 Rd B w vs x:=∃ (a0:Option Addr) (c0:Nat),vs=[.int .i64 x.File,.int .i64 x.Size,.int .i64 x.Check,.slice a0 x.Parts.length c0]∧RdS B w a0 c0 x.Parts∧okDTFileIn x
 len:=by rintro _ _ _ _ ⟨a0,c0,rfl,q0,hok⟩;rfl
 keep:=by rintro _ _ _ _ _ ⟨a0,c0,rfl,q0,hok⟩ g;exact⟨a0,c0,rfl,q0.keep g,hok⟩
 mono:=by rintro _ _ _ _ _ ⟨a0,c0,rfl,q0,hok⟩ g;exact⟨a0,c0,rfl,q0.mono g,hok⟩
 tot x:=totL x.Parts
 tot_nonneg x:=by have h0:=totL_nonneg x.Parts;omega
theorem RdS.atTFileIn{B:Nat}{w:World}{a:Option Addr}{c:Nat}{l:List TFileIn}(h:RdS B w a c l){k:Nat}(hk:k<l.length) :
  ∃ b off x,∃ (a0:Option Addr) (c0:Nat),a=some ⟨b,off,none⟩∧LtN b w.heap.size∧Hid (l.drop k=x::l.drop (k+1))∧RdS B w a0 c0 x.Parts∧okDTFileIn x∧(∀ (W:World) [Grows w W],W.cell? ⟨b,off+k*4,none⟩=some (.int .i64 x.File))∧(∀ (W:World) [Grows w W],W.cell? ⟨b,off+k*4+1,none⟩=some (.int .i64 x.Size))∧(∀ (W:World) [Grows w W],W.cell? ⟨b,off+k*4+2,none⟩=some (.int .i64 x.Check))∧(∀ (W:World) [Grows w W],W.cell? ⟨b,off+k*4+3,none⟩=some (.slice a0 x.Parts.length c0)):=by
 obtain⟨b,off,x,vs,h0,h1,h2,⟨a0,c0,rfl,q0,hok⟩,hc⟩:=h.at hk
 exact⟨b,off,x,a0,c0,h0,h1,h2,q0,hok,cell_grown h1.out (hc 0 _ rfl),cell_grown h1.out (hc 1 _ rfl),cell_grown h1.out (hc 2 _ rfl),cell_grown h1.out (hc 3 _ rfl)⟩
structure TFileOut where
 File:Int
 Data:ByteArray
 Queue:List Int
 Done:Bool
def okDTFileOut(x:TFileOut):Prop:=i64 x.File∧x.Data.size≤9223372036854775807∧True
instance:Enc TFileOut where
 size:=4
 Rd B w vs x:=∃ (a0:Option Addr) (c0:Nat),vs=[.int .i64 x.File,.string x.Data,.slice a0 x.Queue.length c0,.bool x.Done]∧RdS B w a0 c0 x.Queue∧okDTFileOut x
 len:=by rintro _ _ _ _ ⟨a0,c0,rfl,q0,hok⟩;rfl
 keep:=by rintro _ _ _ _ _ ⟨a0,c0,rfl,q0,hok⟩ g;exact⟨a0,c0,rfl,q0.keep g,hok⟩
 mono:=by rintro _ _ _ _ _ ⟨a0,c0,rfl,q0,hok⟩ g;exact⟨a0,c0,rfl,q0.mono g,hok⟩
 tot x:=(x.Data.size:Int)+totL x.Queue
 tot_nonneg x:=by have h0:=totL_nonneg x.Queue;omega
theorem RdS.atTFileOut{B:Nat}{w:World}{a:Option Addr}{c:Nat}{l:List TFileOut}(h:RdS B w a c l){k:Nat}(hk:k<l.length) :
  ∃ b off x,∃ (a0:Option Addr) (c0:Nat),a=some ⟨b,off,none⟩∧LtN b w.heap.size∧Hid (l.drop k=x::l.drop (k+1))∧RdS B w a0 c0 x.Queue∧okDTFileOut x∧(∀ (W:World) [Grows w W],W.cell? ⟨b,off+k*4,none⟩=some (.int .i64 x.File))∧(∀ (W:World) [Grows w W],W.cell? ⟨b,off+k*4+1,none⟩=some (.string x.Data))∧(∀ (W:World) [Grows w W],W.cell? ⟨b,off+k*4+2,none⟩=some (.slice a0 x.Queue.length c0))∧(∀ (W:World) [Grows w W],W.cell? ⟨b,off+k*4+3,none⟩=some (.bool x.Done)):=by
 obtain⟨b,off,x,vs,h0,h1,h2,⟨a0,c0,rfl,q0,hok⟩,hc⟩:=h.at hk
 exact⟨b,off,x,a0,c0,h0,h1,h2,q0,hok,cell_grown h1.out (hc 0 _ rfl),cell_grown h1.out (hc 1 _ rfl),cell_grown h1.out (hc 2 _ rfl),cell_grown h1.out (hc 3 _ rfl)⟩
structure TDrift where
 Rate:Int
 Offset:Int
def okDTDrift(x:TDrift):Prop:=i64 x.Rate∧i64 x.Offset∧True
instance:Enc TDrift where
 size:=2
 Rd B w vs x:=vs=[.int .i64 x.Rate,.int .i64 x.Offset]∧okDTDrift x
 len:=by rintro _ _ _ _ ⟨rfl,hok⟩;rfl
 keep:=by rintro _ _ _ _ _ ⟨rfl,hok⟩ g;exact⟨rfl,hok⟩
 mono:=by rintro _ _ _ _ _ ⟨rfl,hok⟩ g;exact⟨rfl,hok⟩
 tot x:=0
 tot_nonneg x:=by exact Int.le_refl _
def okDPair(x:Pair):Prop:=i64 x.Board∧i64 x.True∧True
instance:Enc Pair where
 size:=2
 Rd B w vs x:=vs=[.int .i64 x.Board,.int .i64 x.True]∧okDPair x
 len:=by rintro _ _ _ _ ⟨rfl,hok⟩;rfl
 keep:=by rintro _ _ _ _ _ ⟨rfl,hok⟩ g;exact⟨rfl,hok⟩
 mono:=by rintro _ _ _ _ _ ⟨rfl,hok⟩ g;exact⟨rfl,hok⟩
 tot x:=0
 tot_nonneg x:=by exact Int.le_refl _
theorem RdS.atPair{B:Nat}{w:World}{a:Option Addr}{c:Nat}{l:List Pair}(h:RdS B w a c l){k:Nat}(hk:k<l.length) :
  ∃ b off x,a=some ⟨b,off,none⟩∧LtN b w.heap.size∧Hid (l.drop k=x::l.drop (k+1))∧okDPair x∧(∀ (W:World) [Grows w W],W.cell? ⟨b,off+k*2,none⟩=some (.int .i64 x.Board))∧(∀ (W:World) [Grows w W],W.cell? ⟨b,off+k*2+1,none⟩=some (.int .i64 x.True)):=by
 obtain⟨b,off,x,vs,h0,h1,h2,⟨rfl,hok⟩,hc⟩:=h.at hk
 exact⟨b,off,x,h0,h1,h2,hok,cell_grown h1.out (hc 0 _ rfl),cell_grown h1.out (hc 1 _ rfl)⟩
structure TOrbit where
 Period:Int
 Start:Int
 Length:Int
def okDTOrbit(x:TOrbit):Prop:=i64 x.Period∧i64 x.Start∧i64 x.Length∧True
instance:Enc TOrbit where
 size:=3
 Rd B w vs x:=vs=[.int .i64 x.Period,.int .i64 x.Start,.int .i64 x.Length]∧okDTOrbit x
 len:=by rintro _ _ _ _ ⟨rfl,hok⟩;rfl
 keep:=by rintro _ _ _ _ _ ⟨rfl,hok⟩ g;exact⟨rfl,hok⟩
 mono:=by rintro _ _ _ _ _ ⟨rfl,hok⟩ g;exact⟨rfl,hok⟩
 tot x:=0
 tot_nonneg x:=by exact Int.le_refl _
def okDSlot(x:Slot):Prop:=i64 x.Time∧i64 x.Id∧True
instance:Enc Slot where
 size:=2
 Rd B w vs x:=vs=[.int .i64 x.Time,.int .i64 x.Id]∧okDSlot x
 len:=by rintro _ _ _ _ ⟨rfl,hok⟩;rfl
 keep:=by rintro _ _ _ _ _ ⟨rfl,hok⟩ g;exact⟨rfl,hok⟩
 mono:=by rintro _ _ _ _ _ ⟨rfl,hok⟩ g;exact⟨rfl,hok⟩
 tot x:=0
 tot_nonneg x:=by exact Int.le_refl _
theorem RdS.atSlot{B:Nat}{w:World}{a:Option Addr}{c:Nat}{l:List Slot}(h:RdS B w a c l){k:Nat}(hk:k<l.length) :
  ∃ b off x,a=some ⟨b,off,none⟩∧LtN b w.heap.size∧Hid (l.drop k=x::l.drop (k+1))∧okDSlot x∧(∀ (W:World) [Grows w W],W.cell? ⟨b,off+k*2,none⟩=some (.int .i64 x.Time))∧(∀ (W:World) [Grows w W],W.cell? ⟨b,off+k*2+1,none⟩=some (.int .i64 x.Id)):=by
 obtain⟨b,off,x,vs,h0,h1,h2,⟨rfl,hok⟩,hc⟩:=h.at hk
 exact⟨b,off,x,h0,h1,h2,hok,cell_grown h1.out (hc 0 _ rfl),cell_grown h1.out (hc 1 _ rfl)⟩
structure TFlight where
 At:Int
 Data:ByteArray
def okDTFlight(x:TFlight):Prop:=i64 x.At∧x.Data.size≤9223372036854775807∧True
instance:Enc TFlight where
 size:=2
 Rd B w vs x:=vs=[.int .i64 x.At,.string x.Data]∧okDTFlight x
 len:=by rintro _ _ _ _ ⟨rfl,hok⟩;rfl
 keep:=by rintro _ _ _ _ _ ⟨rfl,hok⟩ g;exact⟨rfl,hok⟩
 mono:=by rintro _ _ _ _ _ ⟨rfl,hok⟩ g;exact⟨rfl,hok⟩
 tot x:=(x.Data.size:Int)
 tot_nonneg x:=by omega
theorem RdS.atTFlight{B:Nat}{w:World}{a:Option Addr}{c:Nat}{l:List TFlight}(h:RdS B w a c l){k:Nat}(hk:k<l.length) :
  ∃ b off x,a=some ⟨b,off,none⟩∧LtN b w.heap.size∧Hid (l.drop k=x::l.drop (k+1))∧okDTFlight x∧(∀ (W:World) [Grows w W],W.cell? ⟨b,off+k*2,none⟩=some (.int .i64 x.At))∧(∀ (W:World) [Grows w W],W.cell? ⟨b,off+k*2+1,none⟩=some (.string x.Data)):=by
 obtain⟨b,off,x,vs,h0,h1,h2,⟨rfl,hok⟩,hc⟩:=h.at hk
 exact⟨b,off,x,h0,h1,h2,hok,cell_grown h1.out (hc 0 _ rfl),cell_grown h1.out (hc 1 _ rfl)⟩
structure TGround where
 Offers:List ByteArray
 Sender:TSender
 Notice:TNotice
 Unpacker:TUnpacker
 Pairs:List Pair
 Records:List TRecord
 Files:List TFileIn
 Told:List Bool
abbrev cGround(x:TGround)(a0:Option Addr)(c0:Nat)(a1:Option Addr)(c1:Nat)(a2:Option Addr)(c2:Nat)(a3:Option Addr)(c3:Nat)(a4:Option Addr)(c4:Nat)(a5:Option Addr)(c5:Nat):List Value:=[.slice a0 x.Offers.length c0,.int .i64 x.Sender.Next,.int .i64 x.Sender.Window,.slice a1 x.Sender.Waiting.length c1,.int .i64 x.Sender.Done,.int .i64 x.Notice.Expect,.bool x.Notice.Locked,.bool x.Notice.Again,.int .i64 x.Unpacker.Channel,.int .i64 x.Unpacker.Next,.bool x.Unpacker.Synced,.string x.Unpacker.Rest,.int .i64 x.Unpacker.Lost,.slice a2 x.Pairs.length c2,.slice a3 x.Records.length c3,.slice a4 x.Files.length c4,.slice a5 x.Told.length c5]
abbrev zGround:List Value:=[.slice none 0 0,.int .i64 0,.int .i64 0,.slice none 0 0,.int .i64 0,.int .i64 0,.bool false,.bool false,.int .i64 0,.int .i64 0,.bool false,.string ⟨#[]⟩,.int .i64 0,.slice none 0 0,.slice none 0 0,.slice none 0 0,.slice none 0 0]
def okDTGround(x:TGround):Prop:=okDTSender x.Sender∧okDTNotice x.Notice∧okDTUnpacker x.Unpacker∧True
structure TGroundA where
 a0:Option Addr
 c0:Nat
 a1:Option Addr
 c1:Nat
 a2:Option Addr
 c2:Nat
 a3:Option Addr
 c3:Nat
 a4:Option Addr
 c4:Nat
 a5:Option Addr
 c5:Nat
abbrev dGround(x:TGround)(A:TGroundA):List Value:=cGround x A.a0 A.c0 A.a1 A.c1 A.a2 A.c2 A.a3 A.c3 A.a4 A.c4 A.a5 A.c5
structure TGroundF(B:Nat)(w:World)(A:TGroundA)(x:TGround):Prop where
 q0:RdS B w A.a0 A.c0 x.Offers
 q1:RdS B w A.a1 A.c1 x.Sender.Waiting
 q2:RdS B w A.a2 A.c2 x.Pairs
 q3:RdS B w A.a3 A.c3 x.Records
 q4:RdS B w A.a4 A.c4 x.Files
 q5:RdS B w A.a5 A.c5 x.Told
 ok:okDTGround x
theorem TGroundF.keep{B:Nat}{w w2:World}{A:TGroundA}{x:TGround}(h:TGroundF B w A x)(g:Keeps B w w2):TGroundF B w2 A x:=⟨h.q0.keep g,h.q1.keep g,h.q2.keep g,h.q3.keep g,h.q4.keep g,h.q5.keep g,h.ok⟩
theorem TGroundF.mono{B B2:Nat}{w:World}{A:TGroundA}{x:TGround}(h:TGroundF B w A x)(g:B2≤B):TGroundF B2 w A x:=⟨h.q0.mono g,h.q1.mono g,h.q2.mono g,h.q3.mono g,h.q4.mono g,h.q5.mono g,h.ok⟩
instance:Enc TGround where
 size:=17
 Rd B w vs x:=∃ A:TGroundA,vs=[.slice A.a0 x.Offers.length A.c0,.int .i64 x.Sender.Next,.int .i64 x.Sender.Window,.slice A.a1 x.Sender.Waiting.length A.c1,.int .i64 x.Sender.Done,.int .i64 x.Notice.Expect,.bool x.Notice.Locked,.bool x.Notice.Again,.int .i64 x.Unpacker.Channel,.int .i64 x.Unpacker.Next,.bool x.Unpacker.Synced,.string x.Unpacker.Rest,.int .i64 x.Unpacker.Lost,.slice A.a2 x.Pairs.length A.c2,.slice A.a3 x.Records.length A.c3,.slice A.a4 x.Files.length A.c4,.slice A.a5 x.Told.length A.c5]∧TGroundF B w A x
 len:=by rintro _ _ _ _ ⟨A,h,F⟩;rw[h];rfl
 keep:=by rintro _ _ _ _ _ ⟨A,h,F⟩ g;exact⟨A,h,F.keep g⟩
 mono:=by rintro _ _ _ _ _ ⟨A,h,F⟩ g;exact⟨A,h,F.mono g⟩
 tot x:=totL x.Offers+Enc.tot x.Sender+Enc.tot x.Unpacker+totL x.Pairs+totL x.Records+totL x.Files+totL x.Told
 tot_nonneg x:=by have h0:=totL_nonneg x.Offers;have h1:=Enc.tot_nonneg x.Sender;have h2:=Enc.tot_nonneg x.Unpacker;have h3:=totL_nonneg x.Pairs;have h4:=totL_nonneg x.Records;have h5:=totL_nonneg x.Files;have h6:=totL_nonneg x.Told;omega
structure TSpace where
 Receiver:TReceiver
 Board:TBoard
 Packer:TPacker
 Seq:Int
 Files:List ByteArray
 Outs:List TFileOut
 Begun:Int
 Sent:List TRecord
abbrev cSpace(x:TSpace)(a0:Option Addr)(c0:Nat)(a1:Option Addr)(c1:Nat)(a2:Option Addr)(c2:Nat)(a3:Option Addr)(c3:Nat)(a4:Option Addr)(c4:Nat)(a5:Option Addr)(c5:Nat)(a6:Option Addr)(c6:Nat)(a7:Option Addr)(c7:Nat)(a8:Option Addr)(c8:Nat)(a9:Option Addr)(c9:Nat)(a10:Option Addr)(c10:Nat):List Value:=[.int .i64 x.Receiver.Expect,.bool x.Receiver.Locked,.bool x.Receiver.Again,.int .i64 x.Receiver.Taken,.int .i64 x.Board.Clock,.slice a0 x.Board.Params.length c0,.bool x.Board.Safe,.slice a1 x.Board.Limits.length c1,.slice a2 x.Board.Orders.length c2,.slice a3 x.Board.Done.length c3,.int .i64 x.Board.Recorder.Room,.slice a4 x.Board.Recorder.Records.length c4,.slice a5 x.Board.Recorder.Dropped.length c5,.int .i64 x.Board.Made,.int .i64 x.Board.Taken,.slice a6 x.Board.Asked.length c6,.int .i64 x.Packer.Channel,.int .i64 x.Packer.Count,.string x.Packer.Rest,.slice a7 x.Packer.Starts.length c7,.int .i64 x.Seq,.slice a8 x.Files.length c8,.slice a9 x.Outs.length c9,.int .i64 x.Begun,.slice a10 x.Sent.length c10]
abbrev zSpace:List Value:=[.int .i64 0,.bool false,.bool false,.int .i64 0,.int .i64 0,.slice none 0 0,.bool false,.slice none 0 0,.slice none 0 0,.slice none 0 0,.int .i64 0,.slice none 0 0,.slice none 0 0,.int .i64 0,.int .i64 0,.slice none 0 0,.int .i64 0,.int .i64 0,.string ⟨#[]⟩,.slice none 0 0,.int .i64 0,.slice none 0 0,.slice none 0 0,.int .i64 0,.slice none 0 0]
def okDTSpace(x:TSpace):Prop:=okDTReceiver x.Receiver∧okDTBoard x.Board∧okDTPacker x.Packer∧i64 x.Seq∧i64 x.Begun∧True
structure TSpaceA where
 a0:Option Addr
 c0:Nat
 a1:Option Addr
 c1:Nat
 a2:Option Addr
 c2:Nat
 a3:Option Addr
 c3:Nat
 a4:Option Addr
 c4:Nat
 a5:Option Addr
 c5:Nat
 a6:Option Addr
 c6:Nat
 a7:Option Addr
 c7:Nat
 a8:Option Addr
 c8:Nat
 a9:Option Addr
 c9:Nat
 a10:Option Addr
 c10:Nat
abbrev dSpace(x:TSpace)(A:TSpaceA):List Value:=cSpace x A.a0 A.c0 A.a1 A.c1 A.a2 A.c2 A.a3 A.c3 A.a4 A.c4 A.a5 A.c5 A.a6 A.c6 A.a7 A.c7 A.a8 A.c8 A.a9 A.c9 A.a10 A.c10
structure TSpaceF(B:Nat)(w:World)(A:TSpaceA)(x:TSpace):Prop where
 q0:RdS B w A.a0 A.c0 x.Board.Params
 q1:RdS B w A.a1 A.c1 x.Board.Limits
 q2:RdS B w A.a2 A.c2 x.Board.Orders
 q3:RdS B w A.a3 A.c3 x.Board.Done
 q4:RdS B w A.a4 A.c4 x.Board.Recorder.Records
 q5:RdS B w A.a5 A.c5 x.Board.Recorder.Dropped
 q6:RdS B w A.a6 A.c6 x.Board.Asked
 q7:RdS B w A.a7 A.c7 x.Packer.Starts
 q8:RdS B w A.a8 A.c8 x.Files
 q9:RdS B w A.a9 A.c9 x.Outs
 q10:RdS B w A.a10 A.c10 x.Sent
 ok:okDTSpace x
theorem TSpaceF.keep{B:Nat}{w w2:World}{A:TSpaceA}{x:TSpace}(h:TSpaceF B w A x)(g:Keeps B w w2):TSpaceF B w2 A x:=⟨h.q0.keep g,h.q1.keep g,h.q2.keep g,h.q3.keep g,h.q4.keep g,h.q5.keep g,h.q6.keep g,h.q7.keep g,h.q8.keep g,h.q9.keep g,h.q10.keep g,h.ok⟩
theorem TSpaceF.mono{B B2:Nat}{w:World}{A:TSpaceA}{x:TSpace}(h:TSpaceF B w A x)(g:B2≤B):TSpaceF B2 w A x:=⟨h.q0.mono g,h.q1.mono g,h.q2.mono g,h.q3.mono g,h.q4.mono g,h.q5.mono g,h.q6.mono g,h.q7.mono g,h.q8.mono g,h.q9.mono g,h.q10.mono g,h.ok⟩
instance:Enc TSpace where
 size:=25
 Rd B w vs x:=∃ A:TSpaceA,vs=[.int .i64 x.Receiver.Expect,.bool x.Receiver.Locked,.bool x.Receiver.Again,.int .i64 x.Receiver.Taken,.int .i64 x.Board.Clock,.slice A.a0 x.Board.Params.length A.c0,.bool x.Board.Safe,.slice A.a1 x.Board.Limits.length A.c1,.slice A.a2 x.Board.Orders.length A.c2,.slice A.a3 x.Board.Done.length A.c3,.int .i64 x.Board.Recorder.Room,.slice A.a4 x.Board.Recorder.Records.length A.c4,.slice A.a5 x.Board.Recorder.Dropped.length A.c5,.int .i64 x.Board.Made,.int .i64 x.Board.Taken,.slice A.a6 x.Board.Asked.length A.c6,.int .i64 x.Packer.Channel,.int .i64 x.Packer.Count,.string x.Packer.Rest,.slice A.a7 x.Packer.Starts.length A.c7,.int .i64 x.Seq,.slice A.a8 x.Files.length A.c8,.slice A.a9 x.Outs.length A.c9,.int .i64 x.Begun,.slice A.a10 x.Sent.length A.c10]∧TSpaceF B w A x
 len:=by rintro _ _ _ _ ⟨A,h,F⟩;rw[h];rfl
 keep:=by rintro _ _ _ _ _ ⟨A,h,F⟩ g;exact⟨A,h,F.keep g⟩
 mono:=by rintro _ _ _ _ _ ⟨A,h,F⟩ g;exact⟨A,h,F.mono g⟩
 tot x:=Enc.tot x.Board+Enc.tot x.Packer+totL x.Files+totL x.Outs+totL x.Sent
 tot_nonneg x:=by have h0:=Enc.tot_nonneg x.Board;have h1:=Enc.tot_nonneg x.Packer;have h2:=totL_nonneg x.Files;have h3:=totL_nonneg x.Outs;have h4:=totL_nonneg x.Sent;omega
structure TMission where
 Time:Int
 Light:Int
 Drift:TDrift
 Orbit:TOrbit
 Plan:List Slot
 Up:TChannel
 Down:TChannel
 Ups:List TFlight
 Downs:List TFlight
 Ground:TGround
 Space:TSpace
 Offered:List ByteArray
 Took:List ByteArray
 Bad:Int
abbrev cMission(x:TMission)(a0:Option Addr)(c0:Nat)(a1:Option Addr)(c1:Nat)(a2:Option Addr)(c2:Nat)(a3:Option Addr)(c3:Nat)(a4:Option Addr)(c4:Nat)(a5:Option Addr)(c5:Nat)(a6:Option Addr)(c6:Nat)(a7:Option Addr)(c7:Nat)(a8:Option Addr)(c8:Nat)(a9:Option Addr)(c9:Nat)(a10:Option Addr)(c10:Nat)(a11:Option Addr)(c11:Nat)(a12:Option Addr)(c12:Nat)(a13:Option Addr)(c13:Nat)(a14:Option Addr)(c14:Nat)(a15:Option Addr)(c15:Nat)(a16:Option Addr)(c16:Nat)(a17:Option Addr)(c17:Nat)(a18:Option Addr)(c18:Nat)(a19:Option Addr)(c19:Nat)(a20:Option Addr)(c20:Nat)(a21:Option Addr)(c21:Nat):List Value:=[.int .i64 x.Time,.int .i64 x.Light,.int .i64 x.Drift.Rate,.int .i64 x.Drift.Offset,.int .i64 x.Orbit.Period,.int .i64 x.Orbit.Start,.int .i64 x.Orbit.Length,.slice a0 x.Plan.length c0,.int .i64 x.Up.Seed,.int .i64 x.Up.Burst,.int .i64 x.Up.Loss,.int .i64 x.Down.Seed,.int .i64 x.Down.Burst,.int .i64 x.Down.Loss,.slice a1 x.Ups.length c1,.slice a2 x.Downs.length c2,.slice a3 x.Ground.Offers.length c3,.int .i64 x.Ground.Sender.Next,.int .i64 x.Ground.Sender.Window,.slice a4 x.Ground.Sender.Waiting.length c4,.int .i64 x.Ground.Sender.Done,.int .i64 x.Ground.Notice.Expect,.bool x.Ground.Notice.Locked,.bool x.Ground.Notice.Again,.int .i64 x.Ground.Unpacker.Channel,.int .i64 x.Ground.Unpacker.Next,.bool x.Ground.Unpacker.Synced,.string x.Ground.Unpacker.Rest,.int .i64 x.Ground.Unpacker.Lost,.slice a5 x.Ground.Pairs.length c5,.slice a6 x.Ground.Records.length c6,.slice a7 x.Ground.Files.length c7,.slice a8 x.Ground.Told.length c8,.int .i64 x.Space.Receiver.Expect,.bool x.Space.Receiver.Locked,.bool x.Space.Receiver.Again,.int .i64 x.Space.Receiver.Taken,.int .i64 x.Space.Board.Clock,.slice a9 x.Space.Board.Params.length c9,.bool x.Space.Board.Safe,.slice a10 x.Space.Board.Limits.length c10,.slice a11 x.Space.Board.Orders.length c11,.slice a12 x.Space.Board.Done.length c12,.int .i64 x.Space.Board.Recorder.Room,.slice a13 x.Space.Board.Recorder.Records.length c13,.slice a14 x.Space.Board.Recorder.Dropped.length c14,.int .i64 x.Space.Board.Made,.int .i64 x.Space.Board.Taken,.slice a15 x.Space.Board.Asked.length c15,.int .i64 x.Space.Packer.Channel,.int .i64 x.Space.Packer.Count,.string x.Space.Packer.Rest,.slice a16 x.Space.Packer.Starts.length c16,.int .i64 x.Space.Seq,.slice a17 x.Space.Files.length c17,.slice a18 x.Space.Outs.length c18,.int .i64 x.Space.Begun,.slice a19 x.Space.Sent.length c19,.slice a20 x.Offered.length c20,.slice a21 x.Took.length c21,.int .i64 x.Bad]
abbrev zMission:List Value:=[.int .i64 0,.int .i64 0,.int .i64 0,.int .i64 0,.int .i64 0,.int .i64 0,.int .i64 0,.slice none 0 0,.int .i64 0,.int .i64 0,.int .i64 0,.int .i64 0,.int .i64 0,.int .i64 0,.slice none 0 0,.slice none 0 0,.slice none 0 0,.int .i64 0,.int .i64 0,.slice none 0 0,.int .i64 0,.int .i64 0,.bool false,.bool false,.int .i64 0,.int .i64 0,.bool false,.string ⟨#[]⟩,.int .i64 0,.slice none 0 0,.slice none 0 0,.slice none 0 0,.slice none 0 0,.int .i64 0,.bool false,.bool false,.int .i64 0,.int .i64 0,.slice none 0 0,.bool false,.slice none 0 0,.slice none 0 0,.slice none 0 0,.int .i64 0,.slice none 0 0,.slice none 0 0,.int .i64 0,.int .i64 0,.slice none 0 0,.int .i64 0,.int .i64 0,.string ⟨#[]⟩,.slice none 0 0,.int .i64 0,.slice none 0 0,.slice none 0 0,.int .i64 0,.slice none 0 0,.slice none 0 0,.slice none 0 0,.int .i64 0]
abbrev eMission(x:TMission)(a0:Option Addr)(n0 c0:Nat)(a1:Option Addr)(n1 c1:Nat)(a2:Option Addr)(n2 c2:Nat)(a3:Option Addr)(n3 c3:Nat)(a4:Option Addr)(n4 c4:Nat)(a5:Option Addr)(n5 c5:Nat)(a6:Option Addr)(n6 c6:Nat)(a7:Option Addr)(n7 c7:Nat)(a8:Option Addr)(n8 c8:Nat)(a9:Option Addr)(n9 c9:Nat)(a10:Option Addr)(n10 c10:Nat)(a11:Option Addr)(n11 c11:Nat)(a12:Option Addr)(n12 c12:Nat)(a13:Option Addr)(n13 c13:Nat)(a14:Option Addr)(n14 c14:Nat)(a15:Option Addr)(n15 c15:Nat)(a16:Option Addr)(n16 c16:Nat)(a17:Option Addr)(n17 c17:Nat)(a18:Option Addr)(n18 c18:Nat)(a19:Option Addr)(n19 c19:Nat)(a20:Option Addr)(n20 c20:Nat)(a21:Option Addr)(n21 c21:Nat):List Value:=[.int .i64 x.Time,.int .i64 x.Light,.int .i64 x.Drift.Rate,.int .i64 x.Drift.Offset,.int .i64 x.Orbit.Period,.int .i64 x.Orbit.Start,.int .i64 x.Orbit.Length,.slice a0 n0 c0,.int .i64 x.Up.Seed,.int .i64 x.Up.Burst,.int .i64 x.Up.Loss,.int .i64 x.Down.Seed,.int .i64 x.Down.Burst,.int .i64 x.Down.Loss,.slice a1 n1 c1,.slice a2 n2 c2,.slice a3 n3 c3,.int .i64 x.Ground.Sender.Next,.int .i64 x.Ground.Sender.Window,.slice a4 n4 c4,.int .i64 x.Ground.Sender.Done,.int .i64 x.Ground.Notice.Expect,.bool x.Ground.Notice.Locked,.bool x.Ground.Notice.Again,.int .i64 x.Ground.Unpacker.Channel,.int .i64 x.Ground.Unpacker.Next,.bool x.Ground.Unpacker.Synced,.string x.Ground.Unpacker.Rest,.int .i64 x.Ground.Unpacker.Lost,.slice a5 n5 c5,.slice a6 n6 c6,.slice a7 n7 c7,.slice a8 n8 c8,.int .i64 x.Space.Receiver.Expect,.bool x.Space.Receiver.Locked,.bool x.Space.Receiver.Again,.int .i64 x.Space.Receiver.Taken,.int .i64 x.Space.Board.Clock,.slice a9 n9 c9,.bool x.Space.Board.Safe,.slice a10 n10 c10,.slice a11 n11 c11,.slice a12 n12 c12,.int .i64 x.Space.Board.Recorder.Room,.slice a13 n13 c13,.slice a14 n14 c14,.int .i64 x.Space.Board.Made,.int .i64 x.Space.Board.Taken,.slice a15 n15 c15,.int .i64 x.Space.Packer.Channel,.int .i64 x.Space.Packer.Count,.string x.Space.Packer.Rest,.slice a16 n16 c16,.int .i64 x.Space.Seq,.slice a17 n17 c17,.slice a18 n18 c18,.int .i64 x.Space.Begun,.slice a19 n19 c19,.slice a20 n20 c20,.slice a21 n21 c21,.int .i64 x.Bad]
abbrev tMission(k:Nat)(x:TMission)(a0:Option Addr:=none)(c0:Nat:=0)(a1:Option Addr:=none)(c1:Nat:=0)(a2:Option Addr:=none)(c2:Nat:=0)(a3:Option Addr:=none)(c3:Nat:=0)(a4:Option Addr:=none)(c4:Nat:=0)(a5:Option Addr:=none)(c5:Nat:=0)(a6:Option Addr:=none)(c6:Nat:=0)(a7:Option Addr:=none)(c7:Nat:=0)(a8:Option Addr:=none)(c8:Nat:=0)(a9:Option Addr:=none)(c9:Nat:=0)(a10:Option Addr:=none)(c10:Nat:=0)(a11:Option Addr:=none)(c11:Nat:=0)(a12:Option Addr:=none)(c12:Nat:=0)(a13:Option Addr:=none)(c13:Nat:=0)(a14:Option Addr:=none)(c14:Nat:=0)(a15:Option Addr:=none)(c15:Nat:=0)(a16:Option Addr:=none)(c16:Nat:=0)(a17:Option Addr:=none)(c17:Nat:=0)(a18:Option Addr:=none)(c18:Nat:=0)(a19:Option Addr:=none)(c19:Nat:=0)(a20:Option Addr:=none)(c20:Nat:=0)(a21:Option Addr:=none)(c21:Nat:=0):List Value:=(cMission x a0 c0 a1 c1 a2 c2 a3 c3 a4 c4 a5 c5 a6 c6 a7 c7 a8 c8 a9 c9 a10 c10 a11 c11 a12 c12 a13 c13 a14 c14 a15 c15 a16 c16 a17 c17 a18 c18 a19 c19 a20 c20 a21 c21).take k++zMission.drop k
abbrev tSpace(k:Nat)(x:TSpace)(a0:Option Addr:=none)(c0:Nat:=0)(a1:Option Addr:=none)(c1:Nat:=0)(a2:Option Addr:=none)(c2:Nat:=0)(a3:Option Addr:=none)(c3:Nat:=0)(a4:Option Addr:=none)(c4:Nat:=0)(a5:Option Addr:=none)(c5:Nat:=0)(a6:Option Addr:=none)(c6:Nat:=0)(a7:Option Addr:=none)(c7:Nat:=0)(a8:Option Addr:=none)(c8:Nat:=0)(a9:Option Addr:=none)(c9:Nat:=0)(a10:Option Addr:=none)(c10:Nat:=0):List Value:=(cSpace x a0 c0 a1 c1 a2 c2 a3 c3 a4 c4 a5 c5 a6 c6 a7 c7 a8 c8 a9 c9 a10 c10).take k++zSpace.drop k
abbrev tGround(k:Nat)(x:TGround)(a0:Option Addr:=none)(c0:Nat:=0)(a1:Option Addr:=none)(c1:Nat:=0)(a2:Option Addr:=none)(c2:Nat:=0)(a3:Option Addr:=none)(c3:Nat:=0)(a4:Option Addr:=none)(c4:Nat:=0)(a5:Option Addr:=none)(c5:Nat:=0):List Value:=(cGround x a0 c0 a1 c1 a2 c2 a3 c3 a4 c4 a5 c5).take k++zGround.drop k
abbrev tBoard(k:Nat)(x:TBoard)(a0:Option Addr:=none)(c0:Nat:=0)(a1:Option Addr:=none)(c1:Nat:=0)(a2:Option Addr:=none)(c2:Nat:=0)(a3:Option Addr:=none)(c3:Nat:=0)(a4:Option Addr:=none)(c4:Nat:=0)(a5:Option Addr:=none)(c5:Nat:=0)(a6:Option Addr:=none)(c6:Nat:=0):List Value:=(cBoard x a0 c0 a1 c1 a2 c2 a3 c3 a4 c4 a5 c5 a6 c6).take k++zBoard.drop k
def okDTMission(x:TMission):Prop:=i64 x.Time∧i64 x.Light∧okDTDrift x.Drift∧okDTOrbit x.Orbit∧okDTChannel x.Up∧okDTChannel x.Down∧okDTGround x.Ground∧okDTSpace x.Space∧i64 x.Bad∧True
structure TMissionA where
 a0:Option Addr
 c0:Nat
 a1:Option Addr
 c1:Nat
 a2:Option Addr
 c2:Nat
 a3:Option Addr
 c3:Nat
 a4:Option Addr
 c4:Nat
 a5:Option Addr
 c5:Nat
 a6:Option Addr
 c6:Nat
 a7:Option Addr
 c7:Nat
 a8:Option Addr
 c8:Nat
 a9:Option Addr
 c9:Nat
 a10:Option Addr
 c10:Nat
 a11:Option Addr
 c11:Nat
 a12:Option Addr
 c12:Nat
 a13:Option Addr
 c13:Nat
 a14:Option Addr
 c14:Nat
 a15:Option Addr
 c15:Nat
 a16:Option Addr
 c16:Nat
 a17:Option Addr
 c17:Nat
 a18:Option Addr
 c18:Nat
 a19:Option Addr
 c19:Nat
 a20:Option Addr
 c20:Nat
 a21:Option Addr
 c21:Nat
abbrev dMission(x:TMission)(A:TMissionA):List Value:=cMission x A.a0 A.c0 A.a1 A.c1 A.a2 A.c2 A.a3 A.c3 A.a4 A.c4 A.a5 A.c5 A.a6 A.c6 A.a7 A.c7 A.a8 A.c8 A.a9 A.c9 A.a10 A.c10 A.a11 A.c11 A.a12 A.c12 A.a13 A.c13 A.a14 A.c14 A.a15 A.c15 A.a16 A.c16 A.a17 A.c17 A.a18 A.c18 A.a19 A.c19 A.a20 A.c20 A.a21 A.c21
structure TMissionF(B:Nat)(w:World)(A:TMissionA)(x:TMission):Prop where
 q0:RdS B w A.a0 A.c0 x.Plan
 q1:RdS B w A.a1 A.c1 x.Ups
 q2:RdS B w A.a2 A.c2 x.Downs
 q3:RdS B w A.a3 A.c3 x.Ground.Offers
 q4:RdS B w A.a4 A.c4 x.Ground.Sender.Waiting
 q5:RdS B w A.a5 A.c5 x.Ground.Pairs
 q6:RdS B w A.a6 A.c6 x.Ground.Records
 q7:RdS B w A.a7 A.c7 x.Ground.Files
 q8:RdS B w A.a8 A.c8 x.Ground.Told
 q9:RdS B w A.a9 A.c9 x.Space.Board.Params
 q10:RdS B w A.a10 A.c10 x.Space.Board.Limits
 q11:RdS B w A.a11 A.c11 x.Space.Board.Orders
 q12:RdS B w A.a12 A.c12 x.Space.Board.Done
 q13:RdS B w A.a13 A.c13 x.Space.Board.Recorder.Records
 q14:RdS B w A.a14 A.c14 x.Space.Board.Recorder.Dropped
 q15:RdS B w A.a15 A.c15 x.Space.Board.Asked
 q16:RdS B w A.a16 A.c16 x.Space.Packer.Starts
 q17:RdS B w A.a17 A.c17 x.Space.Files
 q18:RdS B w A.a18 A.c18 x.Space.Outs
 q19:RdS B w A.a19 A.c19 x.Space.Sent
 q20:RdS B w A.a20 A.c20 x.Offered
 q21:RdS B w A.a21 A.c21 x.Took
 ok:okDTMission x
theorem TMissionF.keep{B:Nat}{w w2:World}{A:TMissionA}{x:TMission}(h:TMissionF B w A x)(g:Keeps B w w2):TMissionF B w2 A x:=⟨h.q0.keep g,h.q1.keep g,h.q2.keep g,h.q3.keep g,h.q4.keep g,h.q5.keep g,h.q6.keep g,h.q7.keep g,h.q8.keep g,h.q9.keep g,h.q10.keep g,h.q11.keep g,h.q12.keep g,h.q13.keep g,h.q14.keep g,h.q15.keep g,h.q16.keep g,h.q17.keep g,h.q18.keep g,h.q19.keep g,h.q20.keep g,h.q21.keep g,h.ok⟩
theorem TMissionF.mono{B B2:Nat}{w:World}{A:TMissionA}{x:TMission}(h:TMissionF B w A x)(g:B2≤B):TMissionF B2 w A x:=⟨h.q0.mono g,h.q1.mono g,h.q2.mono g,h.q3.mono g,h.q4.mono g,h.q5.mono g,h.q6.mono g,h.q7.mono g,h.q8.mono g,h.q9.mono g,h.q10.mono g,h.q11.mono g,h.q12.mono g,h.q13.mono g,h.q14.mono g,h.q15.mono g,h.q16.mono g,h.q17.mono g,h.q18.mono g,h.q19.mono g,h.q20.mono g,h.q21.mono g,h.ok⟩
instance:Enc TMission where
 size:=61
 Rd B w vs x:=∃ A:TMissionA,vs=[.int .i64 x.Time,.int .i64 x.Light,.int .i64 x.Drift.Rate,.int .i64 x.Drift.Offset,.int .i64 x.Orbit.Period,.int .i64 x.Orbit.Start,.int .i64 x.Orbit.Length,.slice A.a0 x.Plan.length A.c0,.int .i64 x.Up.Seed,.int .i64 x.Up.Burst,.int .i64 x.Up.Loss,.int .i64 x.Down.Seed,.int .i64 x.Down.Burst,.int .i64 x.Down.Loss,.slice A.a1 x.Ups.length A.c1,.slice A.a2 x.Downs.length A.c2,.slice A.a3 x.Ground.Offers.length A.c3,.int .i64 x.Ground.Sender.Next,.int .i64 x.Ground.Sender.Window,.slice A.a4 x.Ground.Sender.Waiting.length A.c4,.int .i64 x.Ground.Sender.Done,.int .i64 x.Ground.Notice.Expect,.bool x.Ground.Notice.Locked,.bool x.Ground.Notice.Again,.int .i64 x.Ground.Unpacker.Channel,.int .i64 x.Ground.Unpacker.Next,.bool x.Ground.Unpacker.Synced,.string x.Ground.Unpacker.Rest,.int .i64 x.Ground.Unpacker.Lost,.slice A.a5 x.Ground.Pairs.length A.c5,.slice A.a6 x.Ground.Records.length A.c6,.slice A.a7 x.Ground.Files.length A.c7,.slice A.a8 x.Ground.Told.length A.c8,.int .i64 x.Space.Receiver.Expect,.bool x.Space.Receiver.Locked,.bool x.Space.Receiver.Again,.int .i64 x.Space.Receiver.Taken,.int .i64 x.Space.Board.Clock,.slice A.a9 x.Space.Board.Params.length A.c9,.bool x.Space.Board.Safe,.slice A.a10 x.Space.Board.Limits.length A.c10,.slice A.a11 x.Space.Board.Orders.length A.c11,.slice A.a12 x.Space.Board.Done.length A.c12,.int .i64 x.Space.Board.Recorder.Room,.slice A.a13 x.Space.Board.Recorder.Records.length A.c13,.slice A.a14 x.Space.Board.Recorder.Dropped.length A.c14,.int .i64 x.Space.Board.Made,.int .i64 x.Space.Board.Taken,.slice A.a15 x.Space.Board.Asked.length A.c15,.int .i64 x.Space.Packer.Channel,.int .i64 x.Space.Packer.Count,.string x.Space.Packer.Rest,.slice A.a16 x.Space.Packer.Starts.length A.c16,.int .i64 x.Space.Seq,.slice A.a17 x.Space.Files.length A.c17,.slice A.a18 x.Space.Outs.length A.c18,.int .i64 x.Space.Begun,.slice A.a19 x.Space.Sent.length A.c19,.slice A.a20 x.Offered.length A.c20,.slice A.a21 x.Took.length A.c21,.int .i64 x.Bad]∧TMissionF B w A x
 len:=by rintro _ _ _ _ ⟨A,h,F⟩;rw[h];rfl
 keep:=by rintro _ _ _ _ _ ⟨A,h,F⟩ g;exact⟨A,h,F.keep g⟩
 mono:=by rintro _ _ _ _ _ ⟨A,h,F⟩ g;exact⟨A,h,F.mono g⟩
 tot x:=totL x.Plan+totL x.Ups+totL x.Downs+Enc.tot x.Ground+Enc.tot x.Space+totL x.Offered+totL x.Took
 tot_nonneg x:=by have h0:=totL_nonneg x.Plan;have h1:=totL_nonneg x.Ups;have h2:=totL_nonneg x.Downs;have h3:=Enc.tot_nonneg x.Ground;have h4:=Enc.tot_nonneg x.Space;have h5:=totL_nonneg x.Offered;have h6:=totL_nonneg x.Took;omega
theorem mTot(x:TMission):Enc.tot x=totL x.Plan+totL x.Ups+totL x.Downs+Enc.tot x.Ground+Enc.tot x.Space+totL x.Offered+totL x.Took∧0≤totL x.Plan∧(x.Plan.length:Int)≤totL x.Plan∧0≤totL x.Ups∧(x.Ups.length:Int)≤totL x.Ups∧0≤totL x.Downs∧(x.Downs.length:Int)≤totL x.Downs∧0≤Enc.tot x.Ground∧Enc.tot x.Ground=totL x.Ground.Offers+Enc.tot x.Ground.Sender+Enc.tot x.Ground.Unpacker+totL x.Ground.Pairs+totL x.Ground.Records+totL x.Ground.Files+totL x.Ground.Told∧0≤totL x.Ground.Offers∧(x.Ground.Offers.length:Int)≤totL x.Ground.Offers∧0≤Enc.tot x.Ground.Sender∧Enc.tot x.Ground.Sender=totL x.Ground.Sender.Waiting∧0≤totL x.Ground.Sender.Waiting∧(x.Ground.Sender.Waiting.length:Int)≤totL x.Ground.Sender.Waiting∧0≤Enc.tot x.Ground.Unpacker∧Enc.tot x.Ground.Unpacker=(x.Ground.Unpacker.Rest.size:Int)∧0≤totL x.Ground.Pairs∧(x.Ground.Pairs.length:Int)≤totL x.Ground.Pairs∧0≤totL x.Ground.Records∧(x.Ground.Records.length:Int)≤totL x.Ground.Records∧0≤totL x.Ground.Files∧(x.Ground.Files.length:Int)≤totL x.Ground.Files∧0≤totL x.Ground.Told∧(x.Ground.Told.length:Int)≤totL x.Ground.Told∧0≤Enc.tot x.Space∧Enc.tot x.Space=Enc.tot x.Space.Board+Enc.tot x.Space.Packer+totL x.Space.Files+totL x.Space.Outs+totL x.Space.Sent∧0≤Enc.tot x.Space.Board∧Enc.tot x.Space.Board=totL x.Space.Board.Params+totL x.Space.Board.Limits+totL x.Space.Board.Orders+totL x.Space.Board.Done+Enc.tot x.Space.Board.Recorder+totL x.Space.Board.Asked∧0≤totL x.Space.Board.Params∧(x.Space.Board.Params.length:Int)≤totL x.Space.Board.Params∧0≤totL x.Space.Board.Limits∧(x.Space.Board.Limits.length:Int)≤totL x.Space.Board.Limits∧0≤totL x.Space.Board.Orders∧(x.Space.Board.Orders.length:Int)≤totL x.Space.Board.Orders∧0≤totL x.Space.Board.Done∧(x.Space.Board.Done.length:Int)≤totL x.Space.Board.Done∧0≤Enc.tot x.Space.Board.Recorder∧Enc.tot x.Space.Board.Recorder=totL x.Space.Board.Recorder.Records+totL x.Space.Board.Recorder.Dropped∧0≤totL x.Space.Board.Recorder.Records∧(x.Space.Board.Recorder.Records.length:Int)≤totL x.Space.Board.Recorder.Records∧0≤totL x.Space.Board.Recorder.Dropped∧(x.Space.Board.Recorder.Dropped.length:Int)≤totL x.Space.Board.Recorder.Dropped∧0≤totL x.Space.Board.Asked∧(x.Space.Board.Asked.length:Int)≤totL x.Space.Board.Asked∧0≤Enc.tot x.Space.Packer∧Enc.tot x.Space.Packer=(x.Space.Packer.Rest.size:Int)+totL x.Space.Packer.Starts∧0≤totL x.Space.Packer.Starts∧(x.Space.Packer.Starts.length:Int)≤totL x.Space.Packer.Starts∧0≤totL x.Space.Files∧(x.Space.Files.length:Int)≤totL x.Space.Files∧0≤totL x.Space.Outs∧(x.Space.Outs.length:Int)≤totL x.Space.Outs∧0≤totL x.Space.Sent∧(x.Space.Sent.length:Int)≤totL x.Space.Sent∧0≤totL x.Offered∧(x.Offered.length:Int)≤totL x.Offered∧0≤totL x.Took∧(x.Took.length:Int)≤totL x.Took :=
 ⟨rfl,totL_nonneg _,totL_len _,totL_nonneg _,totL_len _,totL_nonneg _,totL_len _,Enc.tot_nonneg _,rfl,totL_nonneg _,totL_len _,Enc.tot_nonneg _,rfl,totL_nonneg _,totL_len _,Enc.tot_nonneg _,rfl,totL_nonneg _,totL_len _,totL_nonneg _,totL_len _,totL_nonneg _,totL_len _,totL_nonneg _,totL_len _,Enc.tot_nonneg _,rfl,Enc.tot_nonneg _,rfl,totL_nonneg _,totL_len _,totL_nonneg _,totL_len _,totL_nonneg _,totL_len _,totL_nonneg _,totL_len _,Enc.tot_nonneg _,rfl,totL_nonneg _,totL_len _,totL_nonneg _,totL_len _,totL_nonneg _,totL_len _,Enc.tot_nonneg _,rfl,totL_nonneg _,totL_len _,totL_nonneg _,totL_len _,totL_nonneg _,totL_len _,totL_nonneg _,totL_len _,totL_nonneg _,totL_len _,totL_nonneg _,totL_len _⟩

@[go_sem] theorem word1_size(n:Int):(word1 n).size=1:=rfl
@[go_sem] theorem word2_size(n:Int):(word2 n).size=2:=rfl
def wordM(m n:Int):ByteArray:=if m=1 then word1 n else word2 n
@[go_sem] theorem wordM_one(n:Int):wordM 1 n=word1 n:=rfl
@[go_sem] theorem wordM_two(n:Int):wordM 2 n=word2 n:=rfl
theorem crcBits_bd:∀ (k:Nat) {n:Int},0≤n→n≤65535→0≤crcBits k n∧crcBits k n≤65535
 | 0,n,h0,h1=>⟨h0,h1⟩
 | k+1,n,h0,h1=>crcBits_bd k (crcBit_bd h0 h1).1 (crcBit_bd h0 h1).2
theorem crc_bd:∀ (l:List Int) {n:Int},(∀ b∈l,0≤b∧b≤255)→0≤n→n≤65535→0≤crc n l∧crc n l≤65535
 | [],n,_,h0,h1=>by rw[crc_nil];exact⟨h0,h1⟩
 | b::l,n,h,h0,h1=>by
  rw[crc_cons]
  have hb:=h b (by simp)
  have hx:=xor_bd h0 h1 (show 0≤256*b by omega) (show 256*b≤65535 by omega)
  have hc:=crcBits_bd 8 hx.1 hx.2
  exact crc_bd l (fun c hc=>h c (by simp[hc])) hc.1 hc.2
theorem checkOf_bd(s:ByteArray):0≤checkOf s∧checkOf s≤65535:=by
 rw[checkOf_eq]
 refine crc_bd _ (fun b hb=>?_) (by omega) (by omega)
 obtain⟨u,-,rfl⟩:=List.mem_map.1 hb
 have:=u.toNat_lt
 omega
def segOf(s:ByteArray)(k:Int):ByteArray:=if inB k 0 (countSeg s.size - 1)=true then s.extract (24*k).toNat (min (24*k+24) s.size).toNat else⟨#[]⟩
/-! ### One time: who gets it, and when is the next one wanted -/
/-! ### One step -/
section
variable {P:Program} {ops:Array Oper} {C:World→Prop} {Q:Act→Prop} {o:Oper} {rest:List Oper} {a:Act}
end
