/- The contracts of AddPair. No condition but on lengths. Blocks known whole, and what is kept while they are written. No condition. A store into one block and the cells of another, by instances. -/
import Derived.Test.YtgmikiidcpbjbaaGreatSM0
import Derived.Test.YtgmikiidcpbjbaaGreatSMark
import Derived.Deep.RegionHeld3
import Derived.Deep.MidRow
import Derived.Test.YtgmikiidcpbjbaaGreatSStab
namespace Go.Proofs.YtgmikiidcpbjbaaGreat
set_option linter.unusedVariables false
open Go.ChangeShapes Go.WideShapes Go.ChangeAt Go.RowKit
theorem encPair_one(x:Pair):∀ u∈encPair x,u.oneCell'=true:=by
 intro u hu
 simp only[encPair,List.mem_cons,List.not_mem_nil,or_false]at hu
 rcases hu with rfl|rfl<;>rfl
theorem c_clonePair{a:Option Addr}{n c:Nat}{l:List Pair}{w:World}(hs:Sl encPair w a l)(hn:l.length=n)(hm:n≤100000000) :
  Calls Tryz.prog 221 #[.slice a n c] w (GivesSl encPair 112 2 w l):=by
 cases a with
 | none =>
  have hl:l=[]:=by
   cases l with
   | nil=>rfl
   | cons y r=>obtain⟨b,off,h0,-⟩:=hs 0 y rfl;cases h0
  have hq:=fun(w:World)=>run_eql_slice_nil (P:=Tryz.prog) w 72 112 none n c Tryz.underlying72
  simp only[Option.isNone]at hq
  have HL:=lH hl;clear hl
  go_enter Tryz.func221,Tryz.ntmps221
  go_wp2_with (first|((with_reducible refine wp_region_later (by kernel_rfl) (by kernel_rfl) ?_);(repeat(first|go_big_quiet_step (first|fail)));refine wpQuiet_nil ?_;rintro _ ⟨x,rfl⟩))
  go_ret
  exact GivesSl.nilOf encPair_len HL.out
 | some ad =>
  have hq:=fun(w:World)=>run_eql_slice_nil (P:=Tryz.prog) w 72 112 (some ad) n c Tryz.underlying72
  simp only[Option.isNone]at hq
  go_enter Tryz.func221,Tryz.ntmps221
  go_wp2_with (first|((with_reducible refine wp_region_later (by kernel_rfl) (by kernel_rfl) ?_);(repeat(first|go_big_quiet_step (first|fail)));refine wpQuiet_nil ?_;rintro _ ⟨x,rfl⟩)|(at_builtin;refine wpList_appS (enc:=encPair) (w0:=w) (z:=.agg #[.int .i64 0,.int .i64 0]) (size:=2) (bytes:=16) (n:=0) (l:=[]) rfl (.tmp 5) (.tmp 6) rfl Tryz.underlying72 (by kernel_rfl) rfl (by decide) (by decide) rfl rfl (fun h=>by cases h) rfl hn (Own.emptyAt encPair_len (Nat.le_refl _) rfl) (hs.to inferInstance) encPair_one (by omega) ?_;intro sa1 sc1 x1 hown1 hgr1))
  go_ret
  rw[List.nil_append]at hown1
  exact⟨sa1,sc1,by rw[hn];first|rfl|simp,hown1,Later.of⟩
def Held(w:World)(b:Nat)(cs:List Value)(T:TypeId):Prop:=w.heap[b]?=some (.cells cs.toArray T (0,0))
theorem Held.new(W:World)(cs:List Value)(T g:Nat)(hg:W.heap.size=g):Held (W.alloc (.cells cs.toArray T)) g cs T:=blk_alloc W _ g hg
theorem Held.to{w W:World}{b:Nat}{cs:List Value}{T:TypeId}(h:Held w b cs T)(g:Grows w W):Held W b cs T:=blk_grows (gr:=g) h
theorem Held.lt{w:World}{b:Nat}{cs:List Value}{T:TypeId}(h:Held w b cs T):b<w.heap.size:=(Array.getElem?_eq_some_iff.1 h).1
theorem Held.cell{w:World}{b:Nat}{cs:List Value}{T:TypeId}(h:Held w b cs T)(i:Nat):w.cell? ⟨b,i,none⟩=cs[i]?:=by simp[World.cell?,show w.heap[b]?=_ from h]
theorem Held.free{w:World}{b:Nat}{cs:List Value}{T:TypeId}(h:Held w b cs T)(i:Nat):w.frozen? ⟨b,i,none⟩=false:=by simp[World.frozen?,show w.heap[b]?=_ from h]
theorem Held.set{w:World}{b:Nat}{cs:List Value}{T:TypeId}(h:Held w b cs T)(i:Nat)(v:Value):Held (w.setCell ⟨b,i,none⟩ v) b (cs.set i v) T:=by
 have h':w.heap[b]?=some (.cells cs.toArray T (0,0)):=h
 unfold Held World.setCell
 simp[Array.getElem?_modify,h']
theorem Own.notHeld{α:Type}{enc:α→List Value}{T T' size B n:Nat}{w:World}{a:Option Addr}{c b:Nat}{l:List α}{cs:List Value}(h:Own enc T size B w a c l)(hb:Held w b cs T')(hT:T≠T'):some b≠Value.ownBlock (.slice a n c):=by
 obtain⟨-,-,⟨h1,-⟩|⟨g,cap,cur,hv,-,hh,-⟩⟩:=h
 ·simp only[Value.slice.injEq]at h1;obtain⟨rfl,-⟩:=h1;simp[Value.ownBlock]
 ·simp only[Value.slice.injEq]at hv;obtain⟨rfl,-⟩:=hv
  simp only[Value.ownBlock,ne_eq,Option.some.injEq]
  rintro rfl
  have hb':w.heap[b]?=some (.cells cs.toArray T' (0,0)):=hb
  rw[hb']at hh
  simp only[Option.some.injEq,Obj.cells.injEq]at hh
  exact hT hh.2.1.symm
theorem Held.kept{α:Type}{enc:α→List Value}{T T' size B n:Nat}{w w':World}{a:Option Addr}{c b:Nat}{l:List α}{cs:List Value}(hb:Held w b cs T')(h:Own enc T size B w a c l)(hT:T≠T')(hg:w.grownBy w' (Value.ownBlock (.slice a n c))):Held w' b cs T' :=
 blk_grown hg hb (h.notHeld hb hT)
theorem Own.set{α:Type}{enc:α→List Value}{T T' size B:Nat}{w:World}{a:Option Addr}{c b:Nat}{l:List α}{cs:List Value}(h:Own enc T size B w a c l)(hb:Held w b cs T')(hT:T≠T')(i:Nat)(v:Value):Own enc T size B (w.setCell ⟨b,i,none⟩ v) a c l:=by
 refine⟨h.1,h.2.kept (row:=some b) ⟨rfl,rfl,rfl,by simp,fun k hk hr=>?_⟩ (.inr (fun e=>h.notHeld (n:=l.length) hb hT e.symm))⟩
 rw[Below.heap_setCell _ _ _ _ (fun e=>hr (by simp only at e;rw[e]))]
theorem Held.cellG{w:World}{b:Nat}{cs:List Value}{T:TypeId}(h:Held w b cs T)(i:Nat)(v:Value)(hv:cs[i]?=some v):∀ (W:World) [Grows w W],W.cell? ⟨b,i,none⟩=some v:=fun W g=>by rw[(h.to g).cell i];exact hv
theorem okWide_struct{P:Program}{w:World}{r:Reach}{base:Nat}{t:TypeId}{v:Value}{fs:Array Field}(ht:P.underlying t=some (.struct fs))(h:Value.okWide P w r base t v):∃ cs,v=.agg cs∧cs.size=P.cellsOf t:=by
 simp only[Value.okWide,ht]at h
 obtain⟨cs,h1,h2,-⟩:=h
 exact⟨cs,h1,h2⟩
/-! ### Slices of numbers -/
theorem c_cloneInt{a:Option Addr}{n c:Nat}{l:List Int}{w:World}(hs:Sl encInt w a l)(hn:l.length=n)(hm:n≤100000000) :
  Calls Tryz.prog 162 #[.slice a n c] w (GivesSl encInt 3 1 w l):=by
 cases a with
 | none =>
  have hl:l=[]:=by
   cases l with
   | nil=>rfl
   | cons y r=>obtain⟨b,off,h0,-⟩:=hs 0 y rfl;cases h0
  have hq:=fun(w:World)=>run_eql_slice_nil (P:=Tryz.prog) w 46 3 none n c Tryz.underlying46
  simp only[Option.isNone]at hq
  have HL:=lH hl;clear hl
  go_enter Tryz.func162,Tryz.ntmps162
  go_wp2_with (first|((with_reducible refine wp_region_later (by kernel_rfl) (by kernel_rfl) ?_);(repeat(first|go_big_quiet_step (first|fail)));refine wpQuiet_nil ?_;rintro _ ⟨x,rfl⟩))
  go_ret
  exact GivesSl.nilOf encInt_len HL.out
 | some ad =>
  have hq:=fun(w:World)=>run_eql_slice_nil (P:=Tryz.prog) w 46 3 (some ad) n c Tryz.underlying46
  simp only[Option.isNone]at hq
  go_enter Tryz.func162,Tryz.ntmps162
  go_wp2_with (first|((with_reducible refine wp_region_later (by kernel_rfl) (by kernel_rfl) ?_);(repeat(first|go_big_quiet_step (first|fail)));refine wpQuiet_nil ?_;rintro _ ⟨x,rfl⟩)|(at_builtin;refine wpList_appS (enc:=encInt) (w0:=w) (z:=.int .i64 0) (size:=1) (bytes:=8) (n:=0) (l:=[]) rfl (.tmp 5) (.tmp 6) rfl Tryz.underlying46 (by kernel_rfl) rfl (by decide) (by decide) rfl rfl (fun h=>by cases h) rfl hn (Own.emptyAt encInt_len (Nat.le_refl _) rfl) (hs.to inferInstance) encInt_one (by omega) ?_;intro sa1 sc1 x1 hown1 hgr1))
  go_ret
  rw[List.nil_append]at hown1
  exact⟨sa1,sc1,by rw[hn];first|rfl|simp,hown1,Later.of⟩
class NeN(a b:Nat):Prop where
 out:a≠b
instance(priority:=60) NeN.ofLt (a b:Nat)[h:LtN a b]:NeN a b:=⟨Nat.ne_of_lt h.out⟩
instance(priority:=55) NeN.ofGt (a b:Nat)[h:LtN b a]:NeN a b:=⟨Nat.ne_of_gt h.out⟩
theorem cell_farH(W:World)(b i b' j:Nat)(v:Value)(h:b≠b'):(W.setCell ⟨b,i,none⟩ v).cell? ⟨b',j,none⟩=W.cell? ⟨b',j,none⟩:=World.cell?_setCell_far W ⟨b,i,none⟩ ⟨b',j,none⟩ v h
@[go_sem] theorem cell_farN(W:World)(b i b' j:Nat)(v:Value)[h:NeN b b']:(W.setCell ⟨b,i,none⟩ v).cell? ⟨b',j,none⟩=W.cell? ⟨b',j,none⟩:=cell_farH W b i b' j v h.out
namespace Later
variable {W:World}
@[go_sem] theorem set_cell_far(x:Later W)(b i b' j:Nat)(v:Value)[h:NeN b b']:(x.set ⟨b,i,none⟩ v).w.cell? ⟨b',j,none⟩=x.w.cell? ⟨b',j,none⟩:=cell_farH x.w b i b' j v h.out
@[go_sem] theorem set_frozen(x:Later W)(b i:Nat)(v:Value)(p:Addr):(x.set ⟨b,i,none⟩ v).w.frozen? p=x.w.frozen? p:=by simp[Later.set]
end Later
instance Grows.setL(a:World){W:World}(x:Later W)(b i:Nat)(v:Value)[h:Grows a x.w][k:LeN a.heap.size b]:Grows a (x.set ⟨b,i,none⟩ v).w:=⟨h.out.setCell k.out v⟩
class SzN(g:Nat)(W:World):Prop where
 out:W.heap.size=g
instance SzN.same(W:World):SzN W.heap.size W:=⟨rfl⟩
instance SzN.set(g:Nat){W:World}(x:Later W)(p:Addr)(v:Value)[h:SzN g x.w]:SzN g (x.set p v).w:=⟨by have:=h.out;simpa[Later.set]using this⟩
instance SzN.setCell(g:Nat)(W:World)(p:Addr)(v:Value)[h:SzN g W]:SzN g (W.setCell p v):=⟨by have:=h.out;simpa using this⟩
instance SzN.drew(g:Nat)(W:World)[h:SzN g W]:SzN g W.drew:=⟨h.out⟩
@[go_sem] theorem cell_newN(W:World)(C:Array Value)(T:TypeId)(g i:Nat)[h:SzN g W]:(W.alloc (.cells C T)).cell? ⟨g,i,none⟩=C[i]?:=by
 have:=blk_alloc W (.cells C T) g h.out
 simp[World.cell?,this]
@[go_sem] theorem frozen_newN(W:World)(C:Array Value)(T:TypeId)(g i:Nat)[h:SzN g W]:(W.alloc (.cells C T)).frozen? ⟨g,i,none⟩=false:=by
 have:=blk_alloc W (.cells C T) g h.out
 simp[World.frozen?,this]
class Keeps(B:Nat)(w w':World):Prop where
 size:w.heap.size≤w'.heap.size
 block:∀ b,B≤b→b<w.heap.size→w'.heap[b]?=w.heap[b]?
instance(priority:=2000) Keeps.same (B:Nat)(w:World):Keeps B w w:=⟨Nat.le_refl _,fun _ _ _=>rfl⟩
theorem Keeps.trans{B:Nat}{a b c:World}(h:Keeps B a b)(k:Keeps B b c):Keeps B a c:=⟨Nat.le_trans h.size k.size,fun i h1 h2=>(k.block i h1 (Nat.lt_of_lt_of_le h2 h.size)).trans (h.block i h1 h2)⟩
theorem Keeps.later'{B:Nat}{w W:World}(h:Keeps B w W)(x:Later W):Keeps B w x.w:=h.trans ⟨x.h.size,fun b _ h2=>x.h.block b h2⟩
instance(priority:=1500) Keeps.andThenSelf (B:Nat){W:World}(x:Later W)(y:Later x.w):Keeps B y.w (x.andThen y).w:=⟨Nat.le_refl _,fun _ _ _=>rfl⟩
instance(priority:=1400) Keeps.andThenMid (B:Nat){W:World}(x:Later W)(y:Later x.w):Keeps B x.w (x.andThen y).w:=⟨y.h.size,fun b _ h2=>y.h.block b h2⟩
instance(priority:=1300) Keeps.andThen (B:Nat)(a:World){W:World}(x:Later W)(y:Later x.w)[h:Keeps B a x.w]:Keeps B a (x.andThen y).w:=h.later' y
instance(priority:=1200) Keeps.drawn (B:Nat)(a:World){W:World}(x:Later W)[h:Keeps B a x.w]:Keeps B a x.draw.w:=⟨h.size,h.block⟩
instance(priority:=1200) Keeps.drew (B:Nat)(a w:World)[h:Keeps B a w]:Keeps B a w.drew:=⟨h.size,h.block⟩
theorem Keeps.set'{B:Nat}{a w:World}(h:Keeps B a w)(b i:Nat)(v:Value)(k:b<B):Keeps B a (w.setCell ⟨b,i,none⟩ v):=⟨by simpa using h.size,fun c h1 h2=>by
 rw[Below.heap_setCell _ _ _ _ (fun e=>by simp only at e;omega)];exact h.block c h1 h2⟩
instance(priority:=1200) Keeps.setCell (B:Nat)(a w:World)(b i:Nat)(v:Value)[h:Keeps B a w][k:LtN b B]:Keeps B a (w.setCell ⟨b,i,none⟩ v):=h.set' b i v k.out
instance(priority:=1200) Keeps.setL (B:Nat)(a:World){W:World}(x:Later W)(b i:Nat)(v:Value)[h:Keeps B a x.w][k:LtN b B]:Keeps B a (x.set ⟨b,i,none⟩ v).w:=h.set' b i v k.out
instance(priority:=1250) Keeps.setL8 (B:Nat)(a:World){W:World}(x:Later W)(b i0 i1 i2 i3 i4 i5 i6 i7:Nat)(v0 v1 v2 v3 v4 v5 v6 v7:Value)[h:Keeps B a x.w][k:LtN b B]:Keeps B a ((((((((x.set ⟨b,i0,none⟩ v0).set ⟨b,i1,none⟩ v1).set ⟨b,i2,none⟩ v2).set ⟨b,i3,none⟩ v3).set ⟨b,i4,none⟩ v4).set ⟨b,i5,none⟩ v5).set ⟨b,i6,none⟩ v6).set ⟨b,i7,none⟩ v7).w :=
 (((((((h.set' b i0 v0 k.out).set' b i1 v1 k.out).set' b i2 v2 k.out).set' b i3 v3 k.out).set' b i4 v4 k.out).set' b i5 v5 k.out).set' b i6 v6 k.out).set' b i7 v7 k.out
instance(priority:=1200) Keeps.alloc (B:Nat)(a w:World)(o:Obj)[h:Keeps B a w]:Keeps B a (w.alloc o):=⟨by have:=h.size;simp;omega,fun b h1 h2=>by rw[Below.heap_alloc _ _ _ (Nat.lt_of_lt_of_le h2 h.size)];exact h.block b h1 h2⟩
instance(priority:=1000) Keeps.later (B:Nat)(a:World){W:World}(x:Later W)[h:Keeps B a W]:Keeps B a x.w:=h.later' x
instance(priority:=100) Keeps.grows (B:Nat)(w W:World)[h:Grows w W]:Keeps B w W:=⟨h.out.size,fun b _ h2=>h.out.block b h2⟩
class Enc(α:Type) where
 size:Nat
 Rd:Nat→World→List Value→α→Prop
 len:∀ {B w vs x},Rd B w vs x→vs.length=size
 keep:∀ {B w w' vs x},Rd B w vs x→Keeps B w w'→Rd B w' vs x
 mono:∀ {B B' w vs x},Rd B w vs x→B'≤B→Rd B' w vs x
 tot:α→Int
 tot_nonneg:∀ x,0≤tot x
def totL{α:Type}[Enc α]:List α→Int
 | []=>0
 | x::r=>1+Enc.tot x+totL r
theorem totL_len{α:Type}[Enc α](l:List α):(l.length:Int)≤totL l:=by
 induction l with
 | nil=>simp[totL]
 | cons x r ih=>have:=Enc.tot_nonneg x;simp only[totL,List.length_cons];omega
theorem totL_nonneg{α:Type}[Enc α](l:List α):0≤totL l:=by have:=totL_len l;omega
theorem totL_mem{α:Type}[Enc α]{l:List α}{x:α}(h:x∈l):Enc.tot x≤totL l:=by
 induction l with
 | nil=>cases h
 | cons y r ih =>
  have h1:=totL_nonneg r;have h2:=Enc.tot_nonneg y
  simp only[totL]
  rcases List.mem_cons.1 h with rfl|h
  ·omega
  ·have:=ih h;omega
def RdS{α:Type}[E:Enc α](B:Nat)(w:World)(a:Option Addr)(c:Nat)(l:List α):Prop :=
 l.length≤c∧c≤maxLen∧(a=none→c=0)∧∀ (i:Nat) (x:α),l[i]?=some x→∃ b off vs,a=some ⟨b,off,none⟩∧B≤b∧b<w.heap.size∧E.Rd B w vs x∧∀ (j:Nat) (u:Value),vs[j]?=some u→w.cell? ⟨b,off+i*E.size+j,none⟩=some u
section
variable {α:Type} [E:Enc α] {B:Nat} {w:World} {a:Option Addr} {c:Nat} {l:List α}
theorem RdS.max(h:RdS B w a c l):l.length≤9223372036854775807:=by have h1:=h.1;have h2:=h.2.1;unfold maxLen at h2;omega
theorem RdS.nilcap(h:RdS B w a c l):a=none→c=0:=h.2.2.1
theorem RdS.keep{w':World}(h:RdS B w a c l)(k:Keeps B w w'):RdS B w' a c l:=by
 refine⟨h.1,h.2.1,h.2.2.1,fun i x hx=>?_⟩
 obtain⟨b,off,vs,rfl,h1,h2,h3,h4⟩:=h.2.2.2 i x hx
 exact⟨b,off,vs,rfl,h1,Nat.lt_of_lt_of_le h2 k.size,E.keep h3 k,fun j u hu=>by rw[World.cell?_of_block (w:=w) (k.block b h1 h2)];exact h4 j u hu⟩
theorem RdS.mono{B':Nat}(h:RdS B w a c l)(k:B'≤B):RdS B' w a c l:=by
 refine⟨h.1,h.2.1,h.2.2.1,fun i x hx=>?_⟩
 obtain⟨b,off,vs,rfl,h1,h2,h3,h4⟩:=h.2.2.2 i x hx
 exact⟨b,off,vs,rfl,by omega,h2,E.mono h3 k,h4⟩
theorem RdS.to{w':World}(h:RdS B w a c l)(g:Keeps B w w'):RdS B w' a c l:=h.keep g
theorem RdS.nil:RdS B w none 0 ([]:List α):=⟨Nat.le_refl _,by unfold maxLen;omega,fun _=>rfl,fun i x h=>by simp at h⟩
theorem RdS.at(h:RdS B w a c l){k:Nat}(hk:k<l.length):∃ b off x vs,a=some ⟨b,off,none⟩∧LtN b w.heap.size∧Hid (l.drop k=x::l.drop (k+1))∧E.Rd B w vs x∧∀ (j:Nat) (u:Value),vs[j]?=some u→w.cell? ⟨b,off+k*E.size+j,none⟩=some u:=by
 obtain⟨x,hx,hd⟩:=drop_at hk
 obtain⟨b,off,vs,h0,-,h2,h3,h4⟩:=h.2.2.2 k x hx
 exact⟨b,off,x,vs,h0,⟨h2⟩,hd,h3,h4⟩
end
def GivesD{α:Type}[E:Enc α](w:World)(x:α):Ending→World→Prop:=fun e w'=>∃ vs:List Value,e=.returned (.agg vs.toArray)∧E.Rd w.heap.size w' vs x∧∃ y:Later w,w'=y.w
instance Enc.int:Enc Int where
 size:=1
 Rd _ _ vs n:=vs=[.int .i64 n]∧i64 n
 len h:=by rw[h.1];rfl
 keep h _:=h
 mono h _:=h
 tot _:=0
 tot_nonneg _:=Int.le_refl _
instance Enc.bool:Enc Bool where
 size:=1
 Rd _ _ vs b:=vs=[.bool b]
 len h:=by rw[h];rfl
 keep h _:=h
 mono h _:=h
 tot _:=0
 tot_nonneg _:=Int.le_refl _
instance Enc.str:Enc ByteArray where
 size:=1
 Rd _ _ vs s:=vs=[.string s]∧s.size≤9223372036854775807
 len h:=by rw[h.1];rfl
 keep h _:=h
 mono h _:=h
 tot s:=s.size
 tot_nonneg _:=by omega
/-! ### A block that is filled row by row -/
def RowsIn{α:Type}[E:Enc α](B:Nat)(w:World)(D:Array Value)(l:List α):Prop:=∀ (i:Nat) (x:α),l[i]?=some x→∃ vs,E.Rd B w vs x∧∀ (j:Nat) (u:Value),vs[j]?=some u→D[i*E.size+j]?=some u
def putAt(D:Array Value)(p j:Nat):List Value→Array Value
 | []=>D
 | v::r=>putAt (D.setIfInBounds (p+j) v) p (j+1) r
theorem putAt_low:∀ (vs:List Value) (D:Array Value) (p j i:Nat),i<p+j→(putAt D p j vs)[i]?=D[i]?
 | [],D,p,j,i,h=>rfl
 | v::r,D,p,j,i,h=>by
  rw[putAt,putAt_low r _ _ _ _ (by omega),Array.getElem?_setIfInBounds_ne (by omega)]
theorem putAt_new:∀ (vs:List Value) (D:Array Value) (p j:Nat),p+j+vs.length≤D.size→∀ (i:Nat) (u:Value),vs[i]?=some u→(putAt D p j vs)[p+j+i]?=some u
 | [],D,p,j,h,i,u,hu=>by simp at hu
 | v::r,D,p,j,h,0,u,hu=>by
  simp only[List.getElem?_cons_zero,Option.some.injEq]at hu
  subst hu
  simp only[List.length_cons]at h
  show(putAt (D.setIfInBounds (p+j) v) p (j+1) r)[p+j]?=some v
  rw[putAt_low r _ _ _ _ (by omega),Array.getElem?_setIfInBounds_self_of_lt (by omega)]
 | v::r,D,p,j,h,i+1,u,hu=>by
  simp only[List.length_cons]at h
  have:=putAt_new r (D.setIfInBounds (p+j) v) p (j+1) (by simp;omega) i u (by simpa using hu)
  rw[putAt,← this];congr 1;omega
theorem RowsIn.nil{α:Type}[E:Enc α]{B:Nat}{w:World}{D:Array Value}:RowsIn B w D ([]:List α):=fun i x h=>by simp at h
theorem RowsIn.put{α:Type}[E:Enc α]{B n k:Nat}{W W':World}{D:Array Value}{l r:List α}{x:α}{vs:List Value}(h:RowsIn B W D (l.take k))(hd:l.drop k=x::r)(hk:k<n)(hl:l.length=n)(hD:D.size=n*E.size)(hR:E.Rd B W' vs x)(g:Keeps B W W') :
  RowsIn B W' (putAt D (k*E.size) 0 vs) (l.take (k+1)):=by
 have hkx:l[k]?=some x:=by
  have:=congrArg (fun m=>m[0]?) hd
  simpa using this
 have hle:k*E.size+E.size≤n*E.size:=by rw[← Nat.succ_mul];exact Nat.mul_le_mul_right _ hk
 intro i y hy
 by_cases hi:i<k
 ·obtain⟨us,h1,h2⟩:=h i y (by rw[List.getElem?_take_of_lt (by omega)]at hy;rw[List.getElem?_take_of_lt hi];exact hy)
  refine⟨us,E.keep h1 g,fun j u hu=>?_⟩
  have hj:j<E.size:=by rw[← E.len h1];exact(List.getElem?_eq_some_iff.1 hu).1
  have:(i+1)*E.size≤k*E.size:=Nat.mul_le_mul_right _ hi
  rw[Nat.succ_mul]at this
  rw[putAt_low _ _ _ _ _ (by omega)];exact h2 j u hu
 ·have hik:i=k:=by
   have:=(List.getElem?_eq_some_iff.1 hy).1
   simp at this;omega
  subst hik
  rw[List.getElem?_take_of_lt (by omega),hkx]at hy
  cases hy
  refine⟨vs,hR,fun j u hu=>?_⟩
  exact putAt_new vs D _ 0 (by rw[E.len hR];omega) j u hu
theorem Later.set5_at{W:World}{C:Array Value}{T:TypeId}(x:Later (W.alloc (.cells C T)))(i i' i2 i3 i4:Nat)(v v' v2 v3 v4:Value) :
  ∃ y:Later (W.alloc (.cells (((((C.setIfInBounds i v).setIfInBounds i' v').setIfInBounds i2 v2).setIfInBounds i3 v3).setIfInBounds i4 v4) T)),(((((x.set ⟨W.heap.size,i,none⟩ v).set ⟨W.heap.size,i',none⟩ v').set ⟨W.heap.size,i2,none⟩ v2).set ⟨W.heap.size,i3,none⟩ v3).set ⟨W.heap.size,i4,none⟩ v4).w=y.w :=
 Later.cast (by rw[World.setCell_alloc_at C T _ i v rfl,World.setCell_alloc_at _ T _ i' v' rfl,World.setCell_alloc_at _ T _ i2 v2 rfl,World.setCell_alloc_at _ T _ i3 v3 rfl,World.setCell_alloc_at _ T _ i4 v4 rfl]) _
theorem openS{α:Type}[E:Enc α]{w:World}{es:List Cd}{v:Value}(hs:E.size=es.length)(hf:∀ vs,vs.length=es.length→RdL w es vs→∃ x:α,E.Rd 0 w vs x)(h:RdC w (.sl es) v) :
  ∃ a c l,v=.slice a l.length c∧RdS (α:=α) 0 w a c l:=by
 cases h with
 | nil=>exact⟨none,0,[],rfl,RdS.nil⟩
 | @sl _ a n c U h0 h1 h2 h3 h4 =>
  have:∀ i,i<n→∃ x:α,∃ vs,E.Rd 0 w vs x∧vs=(List.range es.length).map (U i):=fun i hi=>by
   obtain⟨x,hx⟩:=hf ((List.range es.length).map (U i)) (by simp) (fun j e hj=>by
    have hj':j<es.length:=(List.getElem?_eq_some_iff.1 hj).1
    exact⟨U i j,by simp[hj'],h4 i hi j e hj⟩)
   exact⟨x,_,hx,rfl⟩
  obtain⟨l,hl,hp⟩:=choose_list n this
  refine⟨some a,c,l,by rw[hl],by rw[hl];exact h1,h2,(by intro e;cases e),fun i x hx=>?_⟩
  obtain⟨vs,hR,rfl⟩:=hp i x hx
  have hi:i<n:=by rw[← hl];exact(List.getElem?_eq_some_iff.1 hx).1
  obtain⟨b,off,rfl,hb,-⟩:=h3 i hi 0 h0
  refine⟨b,off,_,rfl,Nat.zero_le _,hb,hR,fun j u hu=>?_⟩
  have hj:j<es.length:=by have:=(List.getElem?_eq_some_iff.1 hu).1;simpa using this
  simp[hj]at hu
  subst hu
  obtain⟨b',off',hbo,-,h6⟩:=h3 i hi j hj
  simp only[Addr.mk.injEq,and_true]at hbo
  obtain⟨rfl,rfl⟩:=hbo
  rw[hs,Nat.add_assoc];exact h6
theorem openInt{w:World}(vs:List Value)(hl:vs.length=1)(h:RdL w [.int] vs):∃ x:Int,Enc.Rd 0 w vs x:=by
 obtain⟨u0,g0,r0⟩:=h.at (j:=0) rfl
 obtain⟨x0,rfl,p0⟩:=r0.int_inv
 refine⟨x0,list_all hl ?_,p0⟩
 intro j y hy
 match j,hy with
 | 0,hy=>cases hy;exact g0
theorem openBool{w:World}(vs:List Value)(hl:vs.length=1)(h:RdL w [.bool] vs):∃ x:Bool,Enc.Rd 0 w vs x:=by
 obtain⟨u0,g0,r0⟩:=h.at (j:=0) rfl
 obtain⟨x0,rfl⟩:=r0.bool_inv
 refine⟨x0,list_all hl ?_⟩
 intro j y hy
 match j,hy with
 | 0,hy=>cases hy;exact g0
theorem openStr{w:World}(vs:List Value)(hl:vs.length=1)(h:RdL w [.str] vs):∃ x:ByteArray,Enc.Rd 0 w vs x:=by
 obtain⟨u0,g0,r0⟩:=h.at (j:=0) rfl
 obtain⟨x0,rfl,p0⟩:=r0.str_inv
 refine⟨x0,list_all hl ?_,by unfold maxLen at p0;omega⟩
 intro j y hy
 match j,hy with
 | 0,hy=>cases hy;exact g0
def szD(left:Int)(t:Int):Int:=if left - t<0 then -1 else left - t
theorem szD_neg{l t:Int}(h:l - t<0):szD l t=-1:=if_pos h
theorem szD_pos{l t:Int}(h:¬ l - t<0):szD l t=l - t:=if_neg h
def splice:List Value→Nat→List Value→List Value
 | cs,_,[]=>cs
 | cs,o,v::r=>splice (cs.set o v) (o+1) r
theorem Held.setCells{b:Nat}{T:TypeId}:∀ (us:List Value) {w:World} {cs:List Value} (o:Nat),Held w b cs T→Held (w.setCells b o us) b (splice cs o us) T
 | [],_,_,_,h=>h
 | v::r,_,_,o,h=>(h.set o v).setCells r (o+1)
theorem Keeps.setCells{B b:Nat}(hb:b<B):∀ (us:List Value) {a w:World} (o:Nat),Keeps B a w→Keeps B a (w.setCells b o us)
 | [],_,_,_,h=>h
 | v::r,_,_,o,h=>Keeps.setCells hb r (o+1) (h.set' b o v hb)
theorem below_setCells{B b:Nat}(hb:B≤b):∀ (us:List Value) {a w:World} (o:Nat),Below B a w→Below B a (w.setCells b o us)
 | [],_,_,_,h=>h
 | v::r,_,_,o,h=>below_setCells hb r (o+1) (h.setCell hb v)
theorem Held.range{w:World}{b:Nat}{cs row:List Value}{T:TypeId}(h:Held w b cs T){o n:Nat}(hr:(cs.drop o).take n=row):w.rangeAt b o row:=fun j v hv=>by
 rw[h.cell,← hv,← hr]
 have hj:j<n:=by
  have:=(List.getElem?_eq_some_iff.1 hv).1
  rw[← hr]at this
  simp at this;omega
 rw[List.getElem?_take_of_lt hj,List.getElem?_drop]
theorem Held.there{w:World}{b:Nat}{cs:List Value}{T:TypeId}(h:Held w b cs T){o n:Nat}(hn:o+n≤cs.length):w.there b o n:=fun j hj=>by
 rw[h.cell,h.free,List.getElem?_eq_getElem (by omega)]
 exact⟨rfl,rfl⟩
section
variable {P:Program} {ops:Array Oper} {rest:List Oper} {op:Oper} {a:Act} {w:World} {Q:Exit→Act→World→Prop}
theorem run_storeVar_held{b o ty:Nat}{v:Value}{us:List Value}(hv:v.cells.toList=us)(ht:w.there b o us.length)(hi:(P.info? ty).map (·.size)=some us.length)(h1:∀ u∈us,u.oneCell'=true) :
  (storeVar ty ⟨b,o,none⟩ v).run P w=.ok () (w.setCells b o us):=by
 have:=run_storeCells_cells (P:=P) b o us 0 w (fun j hj=>by simpa using(ht j hj).1) (fun j hj=>by simpa using(ht j hj).2) h1
 have hvs:v.cells.size=us.length:=by rw[← hv,Array.length_toList]
 cases hq:P.info? ty with
 | none=>simp[hq]at hi
 | some i =>
  have hs:us.length=i.size:=by simp[hq]at hi;omega
  simp only[Nat.add_zero]at this
  simp[storeVar,sizeOf,typeInfo,hq,hvs,hs,hv,this]
theorem stepStore(hgd:op.guard=none)(ty:TypeId)(x y:Operand)(ho:op.op=.store ty x y)(b o:Nat)(hx:a.eval x=.pointer (some ⟨b,o,none⟩)){cs us cs2:List Value}{T:TypeId}(H:Held w b cs T)
  (hv:(a.eval y).cells.toList=us) (hi:(P.info? ty).map (·.size)=some us.length) (h1:us.all (·.oneCell')=true) (hl:o+us.length≤cs.length) (hcs:splice cs o us=cs2) {w0:World} (g:Grows w0 w) (hb:w0.heap.size≤b)
  (h:∀ z:Later w0,Held z.w b cs2 T→Keeps (b+1) w z.w→wpList P ops Q rest (a.put op.dst undef) z.w):wpList P ops Q (op::rest) a w:=by
 subst hcs
 refine wpList_plain hgd fun _ hK=>?_
 unfold Oper.wp execOp
 simp only[ho,hx,Instr.storeAt,Instr.sureAddr,Sem.run_bind,Sem.run_pure,Result.andThen_ok,run_storeVar_held hv (H.there hl) hi (fun u hu=>List.all_eq_true.1 h1 u hu)]
 exact hK _ _ (h ⟨_,below_setCells hb us o g.out⟩ (H.setCells us o) (Keeps.setCells (by omega) us o (Keeps.same _ _)))
theorem stepLoad(hgd:op.guard=none)(ty:TypeId)(x:Operand)(ho:op.op=.load ty x)(b o:Nat)(hx:a.eval x=.pointer (some ⟨b,o,none⟩)){cs row:List Value}{T:TypeId}(H:Held w b cs T)
  (d:TypeDesc) (hu:P.underlying ty=some d) (hd:d.isRow=true) (hi:(P.info? ty).map (·.size)=some row.length) (hr:(cs.drop o).take row.length=row)
  (h:wpList P ops Q rest (a.put op.dst (.agg row.toArray)) w):wpList P ops Q (op::rest) a w :=
 wpList_load_mid hgd ty x ho b o hx row d (H.range hr) hu hd hi h
theorem results_cell{fn:Func}{p t:Nat}(hf:fn.results=#[.cell p t]){tmps:Array Value}{b:Nat}(hp:tmps.getD p undef=.pointer (some ⟨b,0,none⟩)){cs:List Value}{T:TypeId}(H:Held w b cs T)
  (d:TypeDesc) (hu:P.underlying t=some d) (hd:d.isRow=true) (hi:(P.info? t).map (·.size)=some cs.length):(results fn tmps).run P w=.ok (.agg cs.toArray) w:=by
 have:=run_loadVar_mid w b 0 t cs d (H.range (o:=0) (n:=cs.length) (by simp)) hu hd hi
 have hp2:tmps[p]?.getD undef=.pointer (some ⟨b,0,none⟩):=by rw[← hp];simp[Array.getD_eq_getD_getElem?]
 simp[results,hf,hp2,asAddr,this]
end
structure But(b:Nat)(w w':World):Prop where
 size:w.heap.size≤w'.heap.size
 block:∀ k,k≠b→k<w.heap.size→w'.heap[k]?=w.heap[k]?
theorem But.setCells{b:Nat}:∀ (us:List Value) {a w:World} (o:Nat),But b a w→But b a (w.setCells b o us)
 | [],_,_,_,h=>h
 | v::r,_,w,o,h=>But.setCells r (o+1) ⟨by simpa using h.size,fun k h1 h2=>by
  rw[Below.heap_setCell _ _ _ _ (fun e=>h1 (by simpa using e))];exact h.block k h1 h2⟩
theorem But.under{B b:Nat}{u w w':World}(h:But b w w')(g:Keeps B u w)(hb:u.heap.size≤b):Keeps B u w':=⟨Nat.le_trans g.size h.size,fun k h1 h2=>by
 rw[h.block k (by omega) (Nat.lt_of_lt_of_le h2 g.size)];exact g.block k h1 h2⟩
theorem But.above{b:Nat}{w w':World}(h:But b w w'):Keeps (b+1) w w':=⟨h.size,fun k h1 h2=>h.block k (by omega) h2⟩
theorem Held.but{b c:Nat}{w w':World}{cs:List Value}{T:TypeId}(h:Held w c cs T)(g:But b w w')(hne:c≠b):Held w' c cs T:=by
 unfold Held
 rw[g.block c hne h.lt];exact h
section
variable {P:Program} {ops:Array Oper} {rest:List Oper} {op:Oper} {a:Act} {w:World} {Q:Exit→Act→World→Prop}
theorem stepStore2(hgd:op.guard=none)(ty:TypeId)(x y:Operand)(ho:op.op=.store ty x y)(b o:Nat)(hx:a.eval x=.pointer (some ⟨b,o,none⟩)){cs us cs2:List Value}{T:TypeId}(H:Held w b cs T)
  (hv:(a.eval y).cells.toList=us) (hi:(P.info? ty).map (·.size)=some us.length) (h1:us.all (·.oneCell')=true) (hl:o+us.length≤cs.length) (hcs:splice cs o us=cs2) {w0:World} (g:Grows w0 w) (hb:w0.heap.size≤b)
  (h:∀ z:Later w0,Held z.w b cs2 T→But b w z.w→wpList P ops Q rest (a.put op.dst undef) z.w):wpList P ops Q (op::rest) a w:=by
 subst hcs
 refine wpList_plain hgd fun _ hK=>?_
 unfold Oper.wp execOp
 simp only[ho,hx,Instr.storeAt,Instr.sureAddr,Sem.run_bind,Sem.run_pure,Result.andThen_ok,run_storeVar_held hv (H.there hl) hi (fun u hu=>List.all_eq_true.1 h1 u hu)]
 exact hK _ _ (h ⟨_,below_setCells hb us o g.out⟩ (H.setCells us o) (But.setCells us o ⟨Nat.le_refl _,fun _ _ _=>rfl⟩))
end
theorem splice_pre:∀ (us pre post:List Value),us.length=post.length→splice (pre++post) pre.length us=pre++us
 | [],pre,post,h=>by
  have:post=[]:=List.length_eq_zero_iff.1 h.symm
  subst this;rfl
 | v::r,pre,[],h=>by simp at h
 | v::r,pre,u::post,h=>by
  have:=splice_pre r (pre++[v]) post (by simpa using h)
  rw[splice]
  rw[List.set_append_right _ _ (Nat.le_refl _),Nat.sub_self,List.set_cons_zero]
  simpa using this
theorem splice_all{cs us:List Value}(h:us.length=cs.length):splice cs 0 us=us:=splice_pre us [] cs h
def countSeg(n:Int):Int:=if inB n 0 600=true then(n+23) / 24 else 0
theorem countSeg_bd(n:Int):0≤countSeg n∧countSeg n≤25:=by
  unfold countSeg
  split
  · rename_i h;have:=inB_iff.1 h;omega
  · omega
def allB(lo hi:Int):List Int→Bool
  | []=>true
  | x::r=>inB x lo hi && allB lo hi r
def fileOutOk(f:Int)(size:Int)(q:List Int):Bool:=inB f 0 7 && (decide (size≤600) && (decide ((q.length:Int)≤1000) && allB (-1) (countSeg size - 1) q))
theorem c_iCountSegments{n:Int}{w:World}:Calls Tryz.prog 231 #[.int .i64 n] w (Gives w (.int .i64 (countSeg n))):=by
  cases h:inB n 0 600
  · go_enter Tryz.func231,Tryz.ntmps231
    go_wp2_with (first|((with_reducible refine wp_region_later (by kernel_rfl) (by kernel_rfl) ?_);(repeat(first|go_big_quiet_step (first|(go_at_call 156;exact Gives.quiet (c_ibetween)))|simp only[h]));refine wpQuiet_nil ?_;rintro _ ⟨x,rfl⟩)|(go_at_call 156;refine(c_ibetween).mono ?_;rintro _ _ ⟨rfl,x,rfl⟩))
    go_ret
    exact Gives.mk (by simp[countSeg,h])
  · have⟨h1,h2⟩:=inB_iff.1 h
    go_enter Tryz.func231,Tryz.ntmps231
    go_wp2_with (first|((with_reducible refine wp_region_later (by kernel_rfl) (by kernel_rfl) ?_);(repeat(first|go_big_quiet_step (first|(go_at_call 156;exact Gives.quiet (c_ibetween)))|simp only[h]));refine wpQuiet_nil ?_;rintro _ ⟨x,rfl⟩)|(go_at_call 156;refine(c_ibetween).mono ?_;rintro _ _ ⟨rfl,x,rfl⟩))
    go_ret
    exact Gives.mk (by simp[countSeg,h];omega)
theorem c_sCountSegments{n:Int}{w:World}:Calls Tryz.prog 202 #[.int .i64 n] w (Gives w (.int .i64 (countSeg n))):=by
  cases h:inB n 0 600
  · go_enter Tryz.func202,Tryz.ntmps202
    go_wp2_with (first|((with_reducible refine wp_region_later (by kernel_rfl) (by kernel_rfl) ?_);(repeat(first|go_big_quiet_step (first|(go_at_call 158;exact Gives.quiet (c_sl01In)))|simp only[h]));refine wpQuiet_nil ?_;rintro _ ⟨x,rfl⟩)|(go_at_call 158;refine(c_sl01In).mono ?_;rintro _ _ ⟨rfl,x,rfl⟩))
    go_ret
    exact Gives.mk (by simp[countSeg,h])
  · have⟨h1,h2⟩:=inB_iff.1 h
    go_enter Tryz.func202,Tryz.ntmps202
    go_wp2_with (first|((with_reducible refine wp_region_later (by kernel_rfl) (by kernel_rfl) ?_);(repeat(first|go_big_quiet_step (first|(go_at_call 158;exact Gives.quiet (c_sl01In)))|simp only[h]));refine wpQuiet_nil ?_;rintro _ ⟨x,rfl⟩)|(go_at_call 158;refine(c_sl01In).mono ?_;rintro _ _ ⟨rfl,x,rfl⟩))
    go_ret
    exact Gives.mk (by simp[countSeg,h];omega)
theorem c_iallBetween{a:Option Addr}{n c:Nat}{lo hi:Int}{l:List Int}{w:World}(hs:Sl encInt w a l:=by first|assumption|(apply Sl.to<;>first|assumption|infer_instance)|omega)(hn:l.length=n:=by first|assumption|(apply Sl.to<;>first|assumption|infer_instance)|omega)(hm:n≤4611686018427387904:=by first|assumption|(apply Sl.to<;>first|assumption|infer_instance)|omega) :
    Calls Tryz.prog 233 #[.slice a n c,.int .i64 lo,.int .i64 hi] w (Gives w (.bool (allB lo hi l))):=by
  go_enter Tryz.func233,Tryz.ntmps233
  go_wp2_with (first|((with_reducible refine wp_region_later (by kernel_rfl) (by kernel_rfl) ?_);(repeat(first|go_big_quiet_step (first|fail)));refine wpQuiet_nil ?_;rintro _ ⟨x,rfl⟩))
  go_loopw [11] (fun v wr=>∃ k:Nat,v=.int .i64 k∧k≤n∧Hid (allB lo hi (l.drop k)=allB lo hi l)∧∃ x:Later w,wr=x.w) (fun v _=>(n - intOf v).toNat)
  case atStart=>exact⟨0,rfl,by omega,rfl,Later.of⟩
  case round =>
    obtain⟨k,rfl,hk,hf,x,rfl⟩:=hrel
    by_cases h:k<n
    · obtain⟨b,off,s,rfl,hb,hd,h0⟩:=hs.int (show k<l.length by omega)
      cases c1:inB s lo hi
      · go_wp2_with (first|((with_reducible refine wp_region_later (by kernel_rfl) (by kernel_rfl) ?_);(repeat(first|go_big_quiet_step (first|(go_at_call 156;exact Gives.quiet (c_ibetween)))|simp only[c1]));refine wpQuiet_nil ?_;rintro _ ⟨x,rfl⟩)|(go_at_call 156;refine(c_ibetween).mono ?_;rintro _ _ ⟨rfl,x,rfl⟩))
        go_ret
        exact Gives.mk (by have:=hf.out;rw[hd.out,allB,c1]at this;rw[← this];rfl)
      · go_wp2_with (first|((with_reducible refine wp_region_later (by kernel_rfl) (by kernel_rfl) ?_);(repeat(first|go_big_quiet_step (first|(go_at_call 156;exact Gives.quiet (c_ibetween)))|simp only[c1]));refine wpQuiet_nil ?_;rintro _ ⟨x,rfl⟩)|(go_at_call 156;refine(c_ibetween).mono ?_;rintro _ _ ⟨rfl,x,rfl⟩))
        go_roundw
        case rel=>exact⟨k+1,by go_num,by omega,by have:=hf.out;rw[hd.out,allB,c1]at this;exact this,Later.of⟩
        case measure=>simp[intOf];omega
    · go_wp2_with (first|((with_reducible refine wp_region_later (by kernel_rfl) (by kernel_rfl) ?_);(repeat(first|go_big_quiet_step (first|fail)));refine wpQuiet_nil ?_;rintro _ ⟨x,rfl⟩))
      go_ret
      exact Gives.mk (by have:=hf.out;rw[List.drop_of_length_le (by omega),allB]at this;rw[← this];rfl)
set_option maxRecDepth 100000 in
set_option maxHeartbeats 2000000 in
theorem c_iFileOutOk{a:Option Addr}{n c:Nat}{f:Int}{s:ByteArray}{d:Bool}{q:List Int}{w:World}(hs:Sl encInt w a q)(hn:q.length=n)(hm:n≤4611686018427387904)(hsz:s.size≤100000000) :
    Calls Tryz.prog 270 #[.agg #[.int .i64 f,.string s,.slice a n c,.bool d]] w (Gives w (.bool (fileOutOk f s.size q))):=by
  have HF:=lH (show fileOutOk f s.size q=(inB f 0 7 && (decide ((s.size:Int)≤600) && (decide ((n:Int)≤1000) && allB (-1) (countSeg s.size - 1) q)))by rw[fileOutOk,hn])
  have hc:=countSeg_bd s.size
  cases c1:inB f 0 7
  · go_enter Tryz.func270,Tryz.ntmps270
    go_wp2_with (first|((with_reducible refine wp_region_later (by kernel_rfl) (by kernel_rfl) ?_);(repeat(first|go_big_quiet_step (first|(go_at_call 156;exact Gives.quiet (c_ibetween)))|simp only[c1]));refine wpQuiet_nil ?_;rintro _ ⟨x,rfl⟩)|(go_at_call 156;refine(c_ibetween).mono ?_;rintro _ _ ⟨rfl,x,rfl⟩))
    go_ret
    exact Gives.mk (by rw[HF.out,c1];rfl)
  by_cases h2:600<s.size
  · go_enter Tryz.func270,Tryz.ntmps270
    go_wp2_with (first|((with_reducible refine wp_region_later (by kernel_rfl) (by kernel_rfl) ?_);(repeat(first|go_big_quiet_step (first|(go_at_call 156;exact Gives.quiet (c_ibetween)))|simp only[c1]));refine wpQuiet_nil ?_;rintro _ ⟨x,rfl⟩)|(go_at_call 156;refine(c_ibetween).mono ?_;rintro _ _ ⟨rfl,x,rfl⟩))
    go_ret
    exact Gives.mk (by rw[HF.out];have:decide ((s.size:Int)≤600)=false:=by simp;omega
                       simp[this])
  by_cases h3:1000<n
  · go_enter Tryz.func270,Tryz.ntmps270
    go_wp2_with (first|((with_reducible refine wp_region_later (by kernel_rfl) (by kernel_rfl) ?_);(repeat(first|go_big_quiet_step (first|(go_at_call 156;exact Gives.quiet (c_ibetween)))|simp only[c1]));refine wpQuiet_nil ?_;rintro _ ⟨x,rfl⟩)|(go_at_call 156;refine(c_ibetween).mono ?_;rintro _ _ ⟨rfl,x,rfl⟩))
    go_ret
    exact Gives.mk (by rw[HF.out];have:decide ((n:Int)≤1000)=false:=by simp;omega
                       simp[this])
  · have d2:decide ((s.size:Int)≤600)=true:=by simp;omega
    have d3:decide ((n:Int)≤1000)=true:=by simp;omega
    have HD:=lH (And.intro d2 d3);clear d2 d3
    go_enter Tryz.func270,Tryz.ntmps270
    go_wp2_with (first|((with_reducible refine wp_region_later (by kernel_rfl) (by kernel_rfl) ?_);(repeat(first|go_big_quiet_step (first|(go_at_call 156;exact Gives.quiet (c_ibetween))|(go_at_call 231;exact Gives.quiet (c_iCountSegments))|(go_at_call 233;exact Gives.quiet (c_iallBetween)))|simp only[c1]));refine wpQuiet_nil ?_;rintro _ ⟨x,rfl⟩)|(go_at_call 156;refine(c_ibetween).mono ?_;rintro _ _ ⟨rfl,x,rfl⟩)|(go_at_call 231;refine(c_iCountSegments).mono ?_;rintro _ _ ⟨rfl,x,rfl⟩)|(go_at_call 233;refine(c_iallBetween).mono ?_;rintro _ _ ⟨rfl,x,rfl⟩))
    go_ret
    exact Gives.mk (by rw[HF.out,c1,HD.out.1,HD.out.2];rfl)
set_option maxRecDepth 100000 in
set_option maxHeartbeats 2000000 in
theorem c_sFileOutOk{a:Option Addr}{n c:Nat}{f:Int}{s:ByteArray}{d:Bool}{q:List Int}{w:World}(hs:Sl encInt w a q)(hn:q.length=n)(hm:n≤4611686018427387904)(hsz:s.size≤100000000) :
    Calls Tryz.prog 266 #[.agg #[.int .i64 f,.string s,.slice a n c,.bool d]] w (Gives w (.bool (fileOutOk f s.size q))):=by
  have HF:=lH (show fileOutOk f s.size q=(inB f 0 7 && (decide ((s.size:Int)≤600) && (decide ((n:Int)≤1000) && allB (-1) (countSeg s.size - 1) q)))by rw[fileOutOk,hn])
  have hc:=countSeg_bd s.size
  go_enter Tryz.func266,Tryz.ntmps266
  go_wp2_with (first|((with_reducible refine wp_region_later (by kernel_rfl) (by kernel_rfl) ?_);(repeat(first|go_big_quiet_step (first|fail)));refine wpQuiet_nil ?_;rintro _ ⟨x,rfl⟩))
  go_loopw [3] (fun v wr=>∃ k:Nat,v=.int .i64 k∧k≤n∧Hid (allB (-1) (countSeg s.size - 1) (q.drop k)=allB (-1) (countSeg s.size - 1) q)∧∃ x:Later (w.alloc (.cells #[.int .i64 f,.string s,.slice a n c,.bool d] 152)),wr=x.w) (fun v _=>(n - intOf v).toNat)
  case atStart=>exact⟨0,rfl,by omega,rfl,Later.of⟩
  case round =>
    obtain⟨k,rfl,hk,hf,x,rfl⟩:=hrel
    by_cases h:k<n
    · obtain⟨b,off,y,rfl,hb,hd,h0⟩:=hs.int (show k<q.length by omega)
      cases c1:inB y (-1) (countSeg s.size - 1)
      · go_wp2_with (first|((with_reducible refine wp_region_later (by kernel_rfl) (by kernel_rfl) ?_);(repeat(first|go_big_quiet_step (first|(go_at_call 202;exact Gives.quiet (c_sCountSegments))|(go_at_call 158;exact Gives.quiet (c_sl01In)))|simp only[c1]));refine wpQuiet_nil ?_;rintro _ ⟨x,rfl⟩)|(go_at_call 202;refine(c_sCountSegments).mono ?_;rintro _ _ ⟨rfl,x,rfl⟩)|(go_at_call 158;refine(c_sl01In).mono ?_;rintro _ _ ⟨rfl,x,rfl⟩))
        go_ret
        exact Gives.mk (by have:=hf.out;rw[hd.out,allB,c1]at this;rw[HF.out,← this];simp)
      · go_wp2_with (first|((with_reducible refine wp_region_later (by kernel_rfl) (by kernel_rfl) ?_);(repeat(first|go_big_quiet_step (first|(go_at_call 202;exact Gives.quiet (c_sCountSegments))|(go_at_call 158;exact Gives.quiet (c_sl01In)))|simp only[c1]));refine wpQuiet_nil ?_;rintro _ ⟨x,rfl⟩)|(go_at_call 202;refine(c_sCountSegments).mono ?_;rintro _ _ ⟨rfl,x,rfl⟩)|(go_at_call 158;refine(c_sl01In).mono ?_;rintro _ _ ⟨rfl,x,rfl⟩))
        go_roundw
        case rel=>exact⟨k+1,by go_num,by omega,by have:=hf.out;rw[hd.out,allB,c1]at this;exact this,Later.of⟩
        case measure=>simp[intOf];omega
    · have hf':=hf.out
      rw[List.drop_of_length_le (by omega),allB]at hf'
      have HA:=lH hf';clear hf hf'
      cases c1:inB f 0 7
      · go_wp2_with (first|((with_reducible refine wp_region_later (by kernel_rfl) (by kernel_rfl) ?_);(repeat(first|go_big_quiet_step (first|(go_at_call 158;exact Gives.quiet (c_sl01In)))|simp only[c1]));refine wpQuiet_nil ?_;rintro _ ⟨x,rfl⟩)|(go_at_call 158;refine(c_sl01In).mono ?_;rintro _ _ ⟨rfl,x,rfl⟩))
        go_ret
        exact Gives.mk (by rw[HF.out,c1];rfl)
      by_cases h2:600<s.size
      · go_wp2_with (first|((with_reducible refine wp_region_later (by kernel_rfl) (by kernel_rfl) ?_);(repeat(first|go_big_quiet_step (first|(go_at_call 158;exact Gives.quiet (c_sl01In)))|simp only[c1]));refine wpQuiet_nil ?_;rintro _ ⟨x,rfl⟩)|(go_at_call 158;refine(c_sl01In).mono ?_;rintro _ _ ⟨rfl,x,rfl⟩))
        go_ret
        exact Gives.mk (by rw[HF.out];have:decide ((s.size:Int)≤600)=false:=by simp;omega
                           simp[this])
      by_cases h3:1000<n
      · go_wp2_with (first|((with_reducible refine wp_region_later (by kernel_rfl) (by kernel_rfl) ?_);(repeat(first|go_big_quiet_step (first|(go_at_call 158;exact Gives.quiet (c_sl01In)))|simp only[c1]));refine wpQuiet_nil ?_;rintro _ ⟨x,rfl⟩)|(go_at_call 158;refine(c_sl01In).mono ?_;rintro _ _ ⟨rfl,x,rfl⟩))
        go_ret
        exact Gives.mk (by rw[HF.out];have:decide ((n:Int)≤1000)=false:=by simp;omega
                           simp[this])
      · go_wp2_with (first|((with_reducible refine wp_region_later (by kernel_rfl) (by kernel_rfl) ?_);(repeat(first|go_big_quiet_step (first|(go_at_call 158;exact Gives.quiet (c_sl01In)))|simp only[c1]));refine wpQuiet_nil ?_;rintro _ ⟨x,rfl⟩)|(go_at_call 158;refine(c_sl01In).mono ?_;rintro _ _ ⟨rfl,x,rfl⟩))
        go_ret
        exact Gives.mk (by rw[HF.out,c1,← HA.out];simp;omega)
abbrev Gr:World→World→Prop:=fun w w'=>Below w.heap.size w w'
structure Ent(R:World→World→Prop) where
 js:List Nat
 fix:Option (List Value→Value)
 p:Value→World→Prop
 st:∀ v w w',R w w'→p v w→p v w'
section
variable {R:World→World→Prop}
def Ent.v(v:Value):Ent R:=⟨[],some fun _=>v,fun _ _=>True,fun _ _ _ _ h=>h⟩
def Ent.fn(js:List Nat)(g:List Value→Value):Ent R:=⟨js,some g,fun _ _=>True,fun _ _ _ _ h=>h⟩
def Ent.of(p:Value→World→Prop)(st:∀ v w w',R w w'→p v w→p v w'):Ent R:=⟨[],none,p,st⟩
def Ent.is(p:Value→Prop):Ent R:=⟨[],none,fun v _=>p v,fun _ _ _ _ h=>h⟩
def Ent.box(B:Nat)(cs:List Value)(T:TypeId):Ent Gr :=
 .of (fun v w=>∃ b,v=.pointer (some ⟨b,0,none⟩)∧B≤b∧Held w b cs T) (fun _ _ _ g ⟨b,e,h1,h2⟩=>⟨b,e,h1,h2.to ⟨g⟩⟩)
def Ent.sl(B n:Nat)(cs:List Value)(T:TypeId):Ent Gr :=
 .of (fun v w=>∃ b,v=.slice (some ⟨b,0,none⟩) n n∧B≤b∧Held w b cs T) (fun _ _ _ g ⟨b,e,h1,h2⟩=>⟨b,e,h1,h2.to ⟨g⟩⟩)
abbrev EntL(R:World→World→Prop):=List (Option Tmp × Ent R)
def entAt(Fs:EntL R)(i:Nat):Ent R:=match Fs[i]? with|some (_,e)=>e|none=>.of (fun _ _=>True) (fun _ _ _ _ _=>trivial)
def Ent.out(e:Ent R)(val:Nat→Value)(k:Nat):Value:=match e.fix with|some g=>g (e.js.map val)|none=>val k
def valAt(Fs:EntL R)(val:Nat→Value)(i:Nat):Value:=(entAt Fs i).out val i
def entP(Fs:EntL R)(i:Nat)(val:Nat→Value)(v:Value)(w:World):Prop:=match (entAt Fs i).fix with|some g=>v=g ((entAt Fs i).js.map val)|none=>(entAt Fs i).p v w
def chain(Fs:EntL R)(w:World)(G:(Nat→Value)→Prop):List Nat→(Nat→Value)→Prop
 | [],val=>G val
 | i::r,val=>∀ v,(entAt Fs i).p v w→chain Fs w G r (upd i v val)
def putE:EntL R→Nat→(Nat→Value)→Act→Act
 | [],_,_,a=>a
 | (d,e)::r,k,val,a=>putE r (k+1) val (a.put d (e.out val k))
def opAt(ops:Array Oper)(i:Nat):Oper:=(ops[i]?).getD default
def runAt(P:Program)(ops:Array Oper)(b:Act)(w:World)(i:Nat):Option (Value × World) :=
 if Region.wanted (opAt ops i) (yielded ops b.tmps)then(match (execOp b.eval (opAt ops i)).run P w with|.ok (.value v) w'=>some (v,w')|.ok .skip w'=>some (undef,w')|_=>none)else some (undef,w)
def stabAll(ops:Array Oper)(l0:Array Bool)(T:List Nat)(Zs:List (Nat × List Nat))(fuel:Nat)(Fs:EntL R)(H:List (Nat × List Nat))(C:List Nat):Bool :=
 stabChk ops l0 T (Zs.map (·.1)) fuel &&
 ((List.range ops.size).all fun i=>((Fs[i]?).bind (·.1)) == (if (preL ops l0 T).contains i then dstOf ops i else none)) && decide (Fs.length=ops.size) &&
 ((preL ops l0 T).filter fun i=>(entAt Fs i).fix.isNone) == C &&
 (H.all fun x=>((depsL ops l0 x.1).filter fun i=>(entAt Fs i).fix.isNone) == x.2) &&
 (C.all fun i=>(H.map (·.1)).contains i) &&
 ((preL ops l0 T).all fun i=>(entAt Fs i).fix.isNone || (entAt Fs i).js.all fun k=>(depsL ops l0 i).contains k && (entAt Fs k).fix.isNone) &&
 ((List.range ops.size).all fun i=>(depsL ops l0 i).all fun k=>decide (k<i) && (depsL ops l0 k).all fun q=>(depsL ops l0 i).contains q) &&
 (Zs.all fun x=>(((depsL ops l0 x.1).filter fun i=>(entAt Fs i).fix.isNone) == x.2) && (entAt Fs x.1).fix.isSome)
end
section
variable {P:Program} {ops:Array Oper} {Q:Exit→Act→World→Prop} {R:World→World→Prop}
def obsR(P:Program)(ops:Array Oper)(l0:Array Bool)(Fs:EntL R)(a:Act)(w:World):List (Nat × List Nat)→Prop
 | []=>True
 | (i,js)::r=>(∀ W,R w W→chain Fs W (fun val=>gives P ops (opAt ops i) (putAll ops (valAt Fs val) (depsL ops l0 i) a) W (fun v w'=>R W w'∧entP Fs i val v w')) js (fun _=>undef))∧obsR P ops l0 Fs a w r
def obs(P:Program)(ops:Array Oper)(l0:Array Bool)(Fs:EntL Gr)(a:Act)(w:World):List (Nat × List Nat)→Prop
 | []=>True
 | (i,js)::r=>(∀ x:Later w,chain Fs x.w (fun val=>gives P ops (opAt ops i) (putAll ops (valAt Fs val) (depsL ops l0 i) a) x.w (fun v w'=>(∃ y:Later x.w,w'=y.w)∧entP Fs i val v w')) js (fun _=>undef))∧obs P ops l0 Fs a w r
def obsZ(P:Program)(ops:Array Oper)(l0:Array Bool)(Fs:EntL R)(a:Act)(w:World):List (Nat × List Nat)→Prop
 | []=>True
 | (i,js)::r=>(∀ W,R w W→chain Fs W (fun val=>∀ W',runAt P ops (putAll ops (valAt Fs val) (depsL ops l0 i) a) W' i=some (valAt Fs val i,W')) js (fun _=>undef))∧obsZ P ops l0 Fs a w r
theorem gives_mono{o:Oper}{b:Act}{w:World}{G G':Value→World→Prop}(h:∀ v w',G v w'→G' v w')(hg:gives P ops o b w G):gives P ops o b w G':=by
 unfold gives at hg ⊢
 split
 ·rename_i hw
  rw[if_pos hw]at hg
  generalize (execOp b.eval o).run P w=r at hg ⊢
  cases r with
  | ok n w' =>
   cases n<;>simp only[givesUpon]at hg ⊢
   case value v=>exact h _ _ hg
   case skip=>exact h _ _ hg
   case enter f args=>exact hg.mono fun e w'' ⟨v,he,hk⟩=>⟨v,he,h _ _ hk⟩
  | halt x w'=>simp only[givesUpon]at hg
 ·rename_i hw
  rw[if_neg hw]at hg
  exact h _ _ hg
theorem gives_run{i:Nat}{b:Act}{w w':World}{v:Value}{G:Value→World→Prop}(h:runAt P ops b w i=some (v,w'))(hg:G v w'):gives P ops (opAt ops i) b w G:=by
 unfold runAt at h
 unfold gives
 split at h
 ·rename_i hw
  rw[if_pos hw]
  generalize (execOp b.eval (opAt ops i)).run P w=r at h ⊢
  cases r with
  | ok n w' =>
   cases n<;>simp only[givesUpon,Option.some.injEq,Prod.mk.injEq,reduceCtorEq]at h ⊢
   case value v=>obtain⟨rfl,rfl⟩:=h;exact hg
   case skip=>obtain⟨rfl,rfl⟩:=h;exact hg
  | halt x w'=>simp at h
 ·rename_i hw
  rw[if_neg hw]
  simp only[Option.some.injEq,Prod.mk.injEq]at h
  obtain⟨rfl,rfl⟩:=h;exact hg
theorem chain_use{Fs:EntL R}{w:World}{G:(Nat→Value)→Prop}:∀ (js:List Nat) (val0 val:Nat→Value),chain Fs w G js val0→(∀ j∈js,(entAt Fs j).p (val j) w)→∃ val',G val'∧(∀ j∈js,val' j=val j)∧∀ j,j ∉ js→val' j=val0 j
 | [],val0,val,h,_=>⟨val0,h,(by intro j hj;cases hj),fun _ _=>rfl⟩
 | i::r,val0,val,h,hp=>by
  obtain⟨val',h1,h2,h3⟩:=chain_use r _ val (h (val i) (hp i (by simp))) (fun j hj=>hp j (by simp[hj]))
  refine⟨val',h1,fun j hj=>?_,fun j hj=>?_⟩
  ·by_cases hr:j∈r
   ·exact h2 j hr
   ·rcases List.mem_cons.1 hj with rfl|h
    ·rw[h3 j hr];simp[upd]
    ·exact absurd h hr
  ·rw[h3 j (fun h=>hj (by simp[h]))]
   simp[upd,show j≠i from fun e=>hj (by simp[e])]
theorem putAll_congr{val val':Nat→Value}:∀ (L:List Nat) (a:Act),(∀ j∈L,val j=val' j)→putAll ops val L a=putAll ops val' L a
 | [],_,_=>rfl
 | i::L,a,h=>by unfold putAll;rw[h i (by simp)];exact putAll_congr L _ (fun j hj=>h j (by simp[hj]))
theorem chain_mono{Fs:EntL R}{w:World}{G G':(Nat→Value)→Prop}(h:∀ val,G val→G' val):∀ (js:List Nat) (val:Nat→Value),chain Fs w G js val→chain Fs w G' js val
 | [],_,k=>h _ k
 | _::r,_,k=>fun v hv=>chain_mono h r _ (k v hv)
theorem obs_gen{l0:Array Bool}{Fs:EntL Gr}{a:Act}{w:World}:∀ {H:List (Nat × List Nat)},obs P ops l0 Fs a w H→obsR P ops l0 Fs a w H
 | [],_=>trivial
 | (_,_)::_,h=>⟨fun W g=>chain_mono (fun _ k=>gives_mono (fun _ _ ⟨⟨y,e⟩,p⟩=>⟨by rw[e];exact y.h,p⟩) k) _ _ (h.1 ⟨W,g⟩),obs_gen h.2⟩
theorem obs_at{l0:Array Bool}{Fs:EntL R}{a:Act}{w:World}{i:Nat}{js:List Nat}:∀ {H:List (Nat × List Nat)},obsR P ops l0 Fs a w H→(i,js)∈H →
  ∀ W,R w W→chain Fs W (fun val=>gives P ops (opAt ops i) (putAll ops (valAt Fs val) (depsL ops l0 i) a) W (fun v w'=>R W w'∧entP Fs i val v w')) js (fun _=>undef)
 | (i',js')::H,h,hm=>by
  rcases List.mem_cons.1 hm with e|hm
  ·cases e;exact h.1
  ·exact obs_at h.2 hm
theorem obsZ_at{l0:Array Bool}{Fs:EntL R}{a:Act}{w:World}{i:Nat}{js:List Nat}:∀ {H:List (Nat × List Nat)},obsZ P ops l0 Fs a w H→(i,js)∈H →
  ∀ W,R w W→chain Fs W (fun val=>∀ W',runAt P ops (putAll ops (valAt Fs val) (depsL ops l0 i) a) W' i=some (valAt Fs val i,W')) js (fun _=>undef)
 | (i',js')::H,h,hm=>by
  rcases List.mem_cons.1 hm with e|hm
  ·cases e;exact h.1
  ·exact obsZ_at h.2 hm
theorem putE_eq{Fs0:EntL R}{val:Nat→Value}:∀ (Fs:EntL R) (k:Nat) (L:List Nat) (a:Act),(∀ j,Fs[j]?=Fs0[k+j]?)→(∀ j,(Fs0[j]?).bind (·.1)=if L.contains j then dstOf ops j else none)→k+Fs.length=Fs0.length →
  putE Fs k val a=putAll ops (valAt Fs0 val) ((List.range' k Fs.length).filter fun j=>L.contains j) a
 | [],k,L,a,_,_,_=>rfl
 | (d,e)::r,k,L,a,h,hd,hl=>by
  have h0:Fs0[k]?=some (d,e):=by simpa using(h 0).symm
  have hdk:d=if L.contains k then dstOf ops k else none:=by simpa[h0]using hd k
  have hv:valAt Fs0 val k=e.out val k:=by simp[valAt,entAt,h0]
  have ih:=putE_eq (Fs0:=Fs0) (val:=val) r (k+1) L (a.put d (e.out val k))
   (fun j=>by have:=h (j+1);simpa[Nat.add_assoc,Nat.add_comm 1 j]using this) hd (by simp only[List.length_cons]at hl;omega)
  unfold putE
  rw[ih,List.length_cons,List.range'_succ]
  cases hk:L.contains k with
  | false =>
   rw[hk]at hdk
   simp only[Bool.false_eq_true,if_false]at hdk
   subst hdk
   simp only[List.filter_cons,hk,Bool.false_eq_true,if_false]
   rfl
  | true =>
   rw[hk]at hdk
   simp only[if_true]at hdk
   simp only[List.filter_cons,hk,if_true]
   rw[putAll]
   show _=putAll ops (valAt Fs0 val) _ (a.put (dstOf ops k) (valAt Fs0 val k))
   rw[← hdk,hv]
theorem wp_region_stabR{id:Nat}{a:Act}{w:World}(hm:P.follows .mixedOrders=true)(rr:∀ w,R w w)(rt:∀ u v w,R u v→R v w→R u w)(rd:∀ w W,R w.drew W→R w W){T:List Nat}{Zs:List (Nat × List Nat)}{Fs:EntL R}{H:List (Nat × List Nat)}{C:List Nat}
  (hchk:stabAll ops (Array.replicate ops.size false) T Zs ops.size Fs H C=true)
  (hpure:∀ (val:Nat→Value) (W:World),(((preL ops (Array.replicate ops.size false) T).filter fun i=>!(H.map (·.1)).contains i).map fun i=>runAt P ops (putAll ops (valAt Fs val) (depsL ops (Array.replicate ops.size false) i) a) W i) =
   ((preL ops (Array.replicate ops.size false) T).filter fun i=>!(H.map (·.1)).contains i).map fun i=>some (valAt Fs val i,W))
  (hob:obsR P ops (Array.replicate ops.size false) Fs a w H)
  (hZ:obsZ P ops (Array.replicate ops.size false) Fs a w Zs) (hp:Zs≠[]→∀ c a d v w,Q (.panic c) (a.put (some d) v) w→Q (.panic c) a w)
  (htail:∀ W,R w W→chain Fs W (fun val=>wpOps P ops Q T (putE Fs 0 val a) W) C (fun _=>undef)):(Code.region id ops true).wp P Q a w:=by
 simp only[stabAll,Bool.and_eq_true,List.all_eq_true,List.mem_range,beq_iff_eq,decide_eq_true_eq,Bool.or_eq_true]at hchk
 obtain⟨⟨⟨⟨⟨⟨⟨⟨c1,c2⟩,c3⟩,c4⟩,c5⟩,c6⟩,c7⟩,c8⟩,c9⟩:=hchk
 have c2':∀ j,(Fs[j]?).bind (·.1)=if (preL ops (Array.replicate ops.size false) T).contains j then dstOf ops j else none:=fun j=>by
  by_cases hj:j<ops.size
  ·exact c2 j hj
  ·have:Fs[j]?=none:=List.getElem?_eq_none (by omega)
   rw[this,if_neg]
   ·rfl
   ·rw[List.contains_iff_mem];exact fun h=>hj (mem_preL.1 h).1
 have c7':∀ i∈preL ops (Array.replicate ops.size false) T,∀ g,(entAt Fs i).fix=some g→∀ k∈(entAt Fs i).js,k∈depsL ops (Array.replicate ops.size false) i∧(entAt Fs k).fix=none:=fun i hi g hg k hk=>by
  rcases c7 i hi with h|h
  ·rw[hg]at h;cases h
  ·have:=h k hk
   rw[List.contains_iff_mem,Option.isNone_iff_eq_none]at this
   exact this
 have same:∀ i∈preL ops (Array.replicate ops.size false) T,∀ val val':Nat→Value,(∀ k∈depsL ops (Array.replicate ops.size false) i,(entAt Fs k).fix=none→val k=val' k)→∀ v w,entP Fs i val v w→entP Fs i val' v w:=fun i hi val val' h v w hp=>by
  unfold entP at hp ⊢
  cases hf:(entAt Fs i).fix with
  | none=>rw[hf]at hp;exact hp
  | some g =>
   rw[hf]at hp
   simp only at hp ⊢
   rw[hp,List.map_congr_left fun k hk=>h k (c7' i hi g hf k hk).1 (c7' i hi g hf k hk).2]
 have outs:∀ (L:List Nat),(∀ j∈L,j∈preL ops (Array.replicate ops.size false) T)→∀ (val val':Nat→Value) (w:World),(∀ j∈L,entP Fs j val (val j) w) →
   (∀ j∈L,∀ k,k=j∨k∈depsL ops (Array.replicate ops.size false) j→(entAt Fs k).fix=none→val' k=val k)→∀ j∈L,valAt Fs val' j=val j:=fun L hL val val' w hF h j hj=>by
  have:=hF j hj
  unfold entP at this
  unfold valAt Ent.out
  cases hf:(entAt Fs j).fix with
  | none=>exact h j hj j (.inl rfl) hf
  | some g =>
   rw[hf]at this
   simp only at this ⊢
   rw[this,List.map_congr_left fun k hk=>h j hj k (.inr (c7' j (hL j hj) g hf k hk).1) (c7' j (hL j hj) g hf k hk).2]
 refine wp_region_any hm (wpAny_stab (w1:={ w with drawn:=w.drawn+1 }) c1 (R:=R) rr rt (fun i val w=>entP Fs i val (val i) w) (fun j v w w' h hp=>?_)
  (fun j hj val val' W he hk hp=>?_) (fun i o ho hi val W hW hF=>?_) (fun z hz o ho val W hW hF=>?_) (fun h=>hp (fun e=>h (by rw[e];rfl))) (fun val W hW hF=>?_))
 ·unfold entP at hp ⊢
  cases hf:(entAt Fs j).fix with
  | none=>rw[hf]at hp;exact(entAt Fs j).st _ _ _ h hp
  | some g=>rw[hf]at hp;exact hp
 ·rw[← he]
  exact same j hj val val' (fun k h _=>hk k h) _ _ hp
 ·have x:R w W:=rd _ _ hW
  have hop:opAt ops i=o:=by simp[opAt,ho]
  have hilt:=(mem_preL.1 hi).1
  have tr:∀ k∈depsL ops (Array.replicate ops.size false) i,k∈preL ops (Array.replicate ops.size false) T∧∀ q∈depsL ops (Array.replicate ops.size false) k,q∈depsL ops (Array.replicate ops.size false) i:=fun k hk =>
   ⟨mem_preL.2 ⟨(mem_depsL hk).1,(mem_depsL hk).2,(stabOk_of c1).pre i hilt (mem_preL.1 hi).2.1 (mem_preL.1 hi).2.2 k hk⟩,fun q hq=>List.contains_iff_mem.1 ((c8 i hilt k hk).2 q hq)⟩
  have ne:∀ k∈depsL ops (Array.replicate ops.size false) i,k≠i:=fun k hk=>Nat.ne_of_lt (c8 i hilt k hk).1
  cases hH:(H.map (·.1)).contains i with
  | true =>
   rw[List.contains_iff_mem,List.mem_map]at hH
   obtain⟨⟨i',js⟩,hmem,rfl⟩:=hH
   have hjs:=c5 _ hmem
   simp only at hjs ho hi hF hop tr ne
   obtain⟨val',h1,h2,h3⟩:=chain_use js _ val (obs_at hob hmem W x) (fun j hj=>by
    rw[← hjs]at hj
    obtain⟨hj1,hj2⟩:=List.mem_filter.1 hj
    have:=hF j hj1
    unfold entP at this
    rw[Option.isNone_iff_eq_none]at hj2
    rw[hj2]at this
    exact this)
   have ag:∀ k∈depsL ops (Array.replicate ops.size false) i',(entAt Fs k).fix=none→val' k=val k:=fun k hk hn=>h2 k (by rw[← hjs];exact List.mem_filter.2 ⟨hk,by rw[hn];rfl⟩)
   rw[hop,putAll_congr (val':=val) (depsL ops (Array.replicate ops.size false) i') a (outs _ (fun j hj=>(tr j hj).1) val val' W hF (fun j hj k hk hn=>by
    rcases hk with rfl|hk
    ·exact ag k hj hn
    ·exact ag k ((tr j hj).2 k hk) hn))]at h1
   refine gives_mono (fun v w' ⟨hy,hp⟩=>⟨hy,?_⟩) h1
   have e:upd i' v val i'=v:=by simp[upd]
   rw[e]
   refine same i' hi val' _ (fun k hk hn=>?_) _ _ hp
   rw[ag k hk hn]
   have:=ne k hk
   simp[upd,this]
  | false =>
   have hmem:i∈(preL ops (Array.replicate ops.size false) T).filter fun i=>!(H.map (·.1)).contains i:=List.mem_filter.2 ⟨hi,by rw[hH];rfl⟩
   have hr:runAt P ops (putAll ops (valAt Fs val) (depsL ops (Array.replicate ops.size false) i) a) W i=some (valAt Fs val i,W) :=
    List.map_inj_left.1 (hpure val W) i hmem
   rw[← hop]
   rw[putAll_congr (val':=val) (depsL ops (Array.replicate ops.size false) i) a (outs _ (fun j hj=>(tr j hj).1) val val W hF (fun _ _ _ _ _=>rfl))]at hr
   refine gives_run hr ⟨rr _,?_⟩
   have e:upd i (valAt Fs val i) val i=valAt Fs val i:=by simp[upd]
   rw[e]
   cases hq:(entAt Fs i).fix with
   | none =>
    have:=c6 i (by rw[← c4];exact List.mem_filter.2 ⟨hi,by rw[hq];rfl⟩)
    rw[hH]at this;cases this
   | some g =>
    unfold entP
    rw[hq]
    simp only
    unfold valAt Ent.out
    rw[hq]
    simp only
    exact congrArg g (List.map_congr_left fun k hk=>by simp[upd,ne k (c7' i hi g hq k hk).1])
 ·have x:R w W:=rd _ _ hW
  obtain⟨⟨z',js⟩,hmem,rfl⟩:=List.mem_map.1 hz
  have hpz:=(stabOk_of c1).lazy z' hz
  have hzp:=hpz.1
  obtain⟨hjs,hfs⟩:=c9 _ hmem
  have hop:opAt ops z'=o:=by simp[opAt,ho]
  have hilt:=(mem_preL.1 hzp).1
  have tr:∀ k∈depsL ops (Array.replicate ops.size false) z',k∈preL ops (Array.replicate ops.size false) T∧∀ q∈depsL ops (Array.replicate ops.size false) k,q∈depsL ops (Array.replicate ops.size false) z':=fun k hk =>
   ⟨mem_preL.2 ⟨(mem_depsL hk).1,(mem_depsL hk).2,(stabOk_of c1).pre z' hilt (mem_preL.1 hzp).2.1 (mem_preL.1 hzp).2.2 k hk⟩,fun q hq=>List.contains_iff_mem.1 ((c8 z' hilt k hk).2 q hq)⟩
  have ne:∀ k∈depsL ops (Array.replicate ops.size false) z',k≠z':=fun k hk=>Nat.ne_of_lt (c8 z' hilt k hk).1
  simp only at hjs hfs hF
  obtain⟨val',h1,h2,h3⟩:=chain_use js _ val (obsZ_at hZ hmem W x) (fun j hj=>by
   rw[← hjs]at hj
   obtain⟨hj1,hj2⟩:=List.mem_filter.1 hj
   have:=hF j hj1
   unfold entP at this
   rw[Option.isNone_iff_eq_none]at hj2
   rw[hj2]at this
   exact this)
  have ag:∀ k∈depsL ops (Array.replicate ops.size false) z',(entAt Fs k).fix=none→val' k=val k:=fun k hk hn=>h2 k (by rw[← hjs];exact List.mem_filter.2 ⟨hk,by rw[hn];rfl⟩)
  rw[putAll_congr (val':=val) (depsL ops (Array.replicate ops.size false) z') a (outs _ (fun j hj=>(tr j hj).1) val val' W hF (fun j hj k hk hn=>by
   rcases hk with rfl|hk
   ·exact ag k hj hn
   ·exact ag k ((tr j hj).2 k hk) hn))]at h1
  refine⟨valAt Fs val' z',fun W'=>?_,?_⟩
  ·rw[← hop]
   exact gives_run (h1 W') ⟨rfl,rfl⟩
  ·have e:upd z' (valAt Fs val' z') val z'=valAt Fs val' z':=by simp[upd]
   rw[e]
   cases hq:(entAt Fs z').fix with
   | none=>rw[hq]at hfs;cases hfs
   | some g =>
    unfold entP
    rw[hq]
    simp only
    unfold valAt Ent.out
    rw[hq]
    simp only
    refine congrArg g (List.map_congr_left fun k hk=>?_)
    have hk2:=c7' z' hzp g hq k hk
    rw[ag k hk2.1 hk2.2]
    simp[upd,ne k hk2.1]
 ·have x:R w W:=rd _ _ hW
  obtain⟨val',h1,h2,h3⟩:=chain_use C _ val (htail W x) (fun j hj=>by
   rw[← c4]at hj
   obtain⟨hj1,hj2⟩:=List.mem_filter.1 hj
   have:=hF j hj1
   unfold entP at this
   rw[Option.isNone_iff_eq_none]at hj2
   rw[hj2]at this
   exact this)
  rw[putE_eq (Fs0:=Fs) Fs 0 (preL ops (Array.replicate ops.size false) T) a (fun j=>by simp) c2' (by simp)]at h1
  have e:((List.range' 0 Fs.length).filter fun j=>(preL ops (Array.replicate ops.size false) T).contains j)=preL ops (Array.replicate ops.size false) T:=by
   rw[c3,← List.range_eq_range']
   refine(List.filter_congr fun j hj=>?_:_=(List.range ops.size).filter fun k=>!(Array.replicate ops.size false).getD k true && !T.contains k)
   rw[Bool.eq_iff_iff,List.contains_iff_mem,mem_preL]
   simp only[List.mem_range]at hj
   simp only[hj,true_and,Bool.and_eq_true,Bool.not_eq_true',List.contains_eq_mem,decide_eq_false_iff_not]
  have ag:∀ k∈preL ops (Array.replicate ops.size false) T,(entAt Fs k).fix=none→val' k=val k:=fun k hk hn=>h2 k (by rw[← c4];exact List.mem_filter.2 ⟨hk,by rw[hn];rfl⟩)
  rw[e,putAll_congr (val':=val) _ a (outs _ (fun j hj=>hj) val val' W hF (fun j hj k hk hn=>?_))]at h1
  ·exact h1
  ·rcases hk with rfl|hk
   ·exact ag k hj hn
   ·exact ag k (mem_preL.2 ⟨(mem_depsL hk).1,(mem_depsL hk).2,(stabOk_of c1).pre j (mem_preL.1 hj).1 (mem_preL.1 hj).2.1 (mem_preL.1 hj).2.2 k hk⟩) hn
theorem wp_region_stabZ{id:Nat}{a:Act}{w:World}(hm:P.follows .mixedOrders=true){T:List Nat}{Zs:List (Nat × List Nat)}{Fs:EntL Gr}{H:List (Nat × List Nat)}{C:List Nat}
  (hchk:stabAll ops (Array.replicate ops.size false) T Zs ops.size Fs H C=true)
  (hpure:∀ (val:Nat→Value) (W:World),(((preL ops (Array.replicate ops.size false) T).filter fun i=>!(H.map (·.1)).contains i).map fun i=>runAt P ops (putAll ops (valAt Fs val) (depsL ops (Array.replicate ops.size false) i) a) W i) =
   ((preL ops (Array.replicate ops.size false) T).filter fun i=>!(H.map (·.1)).contains i).map fun i=>some (valAt Fs val i,W))
  (hob:obs P ops (Array.replicate ops.size false) Fs a w H) (hZ:obsZ P ops (Array.replicate ops.size false) Fs a w Zs) (hp:Zs≠[]→∀ c a d v w,Q (.panic c) (a.put (some d) v) w→Q (.panic c) a w)
  (htail:∀ x:Later w,chain Fs x.w (fun val=>wpOps P ops Q T (putE Fs 0 val a) x.w) C (fun _=>undef)):(Code.region id ops true).wp P Q a w :=
 wp_region_stabR hm (fun w=>Below.refl _ _) (fun u v w h k=>h.trans (k.mono h.size)) (fun w W h=>(Below.refl w.heap.size w).drew.trans (h.mono (Nat.le_refl _))) hchk hpure (obs_gen hob) hZ hp (fun W g=>htail ⟨W,g⟩)
end
section
variable {P:Program} {ops:Array Oper} {Q:Exit→Act→World→Prop} {b:Act} {w:World} {i:Nat} {G:Value→World→Prop}
def callAt(ops:Array Oper)(b:Act)(i:Nat):Option (FuncId × List Value) :=
 if Region.wanted (opAt ops i) (yielded ops b.tmps)then(match (opAt ops i).op with|.call { callee:=.value (.func f),args:=xs,argTypes:=_ }=>some (f,xs.toList.map b.eval)|_=>none)else none
def loadAt(ops:Array Oper)(b:Act)(i:Nat):Option (TypeId × Value) :=
 if Region.wanted (opAt ops i) (yielded ops b.tmps)then(match (opAt ops i).op with|.load t x=>some (t,b.eval x)|_=>none)else none
theorem g_call{f:FuncId}{fn:Func}{args:List Value}(hf:P.funcs[f]?=some fn)(hk:callAt ops b i=some (f,args))(hn:(fn.name == "runtime.NumGoroutine" || fn.body.isNone)=false)
  (hc:Calls P f args.toArray w fun e w'=>∃ v,e=.returned v∧G v w'):gives P ops (opAt ops i) b w G:=by
 rw[Bool.or_eq_false_iff]at hn
 unfold callAt at hk
 unfold gives
 split at hk
 case isFalse=>cases hk
 rename_i hw
 rw[if_pos hw]
 split at hk
 case h_2=>cases hk
 rename_i f' xs ts hop
 simp only[Option.some.injEq,Prod.mk.injEq]at hk
 obtain⟨rfl,rfl⟩:=hk
 rw[run_call hop hf hn.1 hn.2]
 have:xs.map b.eval=(xs.toList.map b.eval).toArray:=by apply Array.ext';simp
 rw[this]
 exact hc
theorem g_sl{B n:Nat}{cs:List Value}{T:TypeId}{Fs:EntL Gr}{val:Nat→Value}{k:Nat}(he:entAt Fs k=Ent.sl B n cs T)(hr:runAt P ops b w i=some (.slice (some ⟨w.heap.size,0,none⟩) n n,w.alloc (.cells cs.toArray T)))(hB:B≤w.heap.size) :
  gives P ops (opAt ops i) b w (fun v w'=>(∃ y:Later w,w'=y.w)∧entP Fs k val v w') :=
 gives_run hr ⟨Later.of,by unfold entP;rw[he];exact⟨_,rfl,hB,Held.new w cs T _ rfl⟩⟩
theorem run_loadOne{bb o:Nat}{cs:List Value}{v:Value}{T ty:TypeId}(H:Held w bb cs T)(hv:cs[o]?=some v)(d:TypeDesc)(hu:P.underlying ty=some d)(hd:d.isRow=false) :
  (Instr.loadAt ty (.pointer (some ⟨bb,o,none⟩))).run P w=.ok v w:=by
 have hagg:(isAgg ty).run P w=.ok false w:=by
  unfold isAgg
  rw[Sem.run_bind,run_underlying hu w]
  cases d<;>simp_all [TypeDesc.isRow]
 have hc:=H.cell o
 rw[hv]at hc
 simp[Instr.loadAt,Instr.sureAddr,Sem.run_bind,loadVar,hagg,go_sem,hc]
theorem g_load{x v:Value}{ty:TypeId}(hk:loadAt ops b i=some (ty,x))(hr:(Instr.loadAt ty x).run P w=.ok v w)(hG:G v w):gives P ops (opAt ops i) b w G:=by
 unfold loadAt at hk
 unfold gives
 split at hk
 case isFalse=>cases hk
 rename_i hw
 rw[if_pos hw]
 split at hk
 case h_2=>cases hk
 rename_i t y hop
 simp only[Option.some.injEq,Prod.mk.injEq]at hk
 obtain⟨rfl,rfl⟩:=hk
 unfold execOp
 simp only[hop,Sem.run_bind,hr,Result.andThen_ok,Sem.run_pure,givesUpon]
 exact hG
theorem g_one{bb o:Nat}{cs:List Value}{v:Value}{T ty:TypeId}{Fs:EntL Gr}{val:Nat→Value}{k:Nat}(H:Held w bb cs T)(he:(entAt Fs k).fix=some fun _=>v)(hk:loadAt ops b i=some (ty,.pointer (some ⟨bb,o,none⟩)))(hv:cs[o]?=some v)(d:TypeDesc)(hu:P.underlying ty=some d)(hd:d.isRow=false) :
  gives P ops (opAt ops i) b w (fun v w'=>(∃ y:Later w,w'=y.w)∧entP Fs k val v w') :=
 g_load hk (run_loadOne H hv d hu hd) ⟨Later.of,by unfold entP;rw[he]⟩
theorem g_fn{Fs:EntL Gr}{val:Nat→Value}{k:Nat}(he:(entAt Fs k).fix.isSome=true)(hr:runAt P ops b w i=some ((entAt Fs k).out val k,w)):gives P ops (opAt ops i) b w (fun v w'=>(∃ y:Later w,w'=y.w)∧entP Fs k val v w') :=
 gives_run hr ⟨Later.of,by
  unfold entP Ent.out
  cases hf:(entAt Fs k).fix with
  | none=>rw[hf]at he;cases he
  | some g=>rfl⟩
theorem tail4{R:World→World→Prop}{Fs:EntL R}{val:Nat→Value}{a:Act}{j k l:Nat}{o o' o2 o3:Oper}(ho:ops[i]?=some o)(ho':ops[j]?=some o')(h2:ops[k]?=some o2)(h3:ops[l]?=some o3)(h:wpList P ops Q [o,o',o2,o3] (putE Fs 0 val a) w):chain Fs w (fun val=>wpOps P ops Q [i,j,k,l] (putE Fs 0 val a) w) [] val:=by
 simpa only[chain,wpOps,wpList,ho,ho',h2,h3]using h
end
theorem put_nrm{R:World→World→Prop}:(∀ (k:Nat) (val:Nat→Value) (a:Act),putE (R:=R) [] k val a=a)∧(∀ (d:Option Tmp) (e:Ent R) (r:EntL R) (k:Nat) (val:Nat→Value) (a:Act),putE ((d,e)::r) k val a=putE r (k+1) val (a.put d (e.out val k))) ∧
  (∀ (v:Value) (val:Nat→Value) (k:Nat),(Ent.v (R:=R) v).out val k=v)∧(∀ (js:List Nat) (g:List Value→Value) (val:Nat→Value) (k:Nat),(Ent.fn (R:=R) js g).out val k=g (js.map val)) ∧
  (∀ p h (val:Nat→Value) (k:Nat),(Ent.of (R:=R) p h).out val k=val k)∧(∀ (p:Value→Prop) (val:Nat→Value) (k:Nat),(Ent.is (R:=R) p).out val k=val k) :=
 ⟨fun _ _ _=>rfl,fun _ _ _ _ _ _=>rfl,fun _ _ _=>rfl,fun _ _ _ _=>rfl,fun _ _ _ _=>rfl,fun _ _ _=>rfl⟩
theorem put_nrm2:(∀ B cs T (val:Nat→Value) (k:Nat),(Ent.box B cs T).out val k=val k)∧(∀ B n cs T (val:Nat→Value) (k:Nat),(Ent.sl B n cs T).out val k=val k) ∧
  (∀ (i:Nat) (v:Value) (val:Nat→Value) (k:Nat),upd i v val k=if k=i then v else val k) :=
 ⟨fun _ _ _ _ _=>rfl,fun _ _ _ _ _ _=>rfl,fun _ _ _ _=>rfl⟩
def addAt(ops:Array Oper)(b:Act)(i:Nat):Option (ByteArray × ByteArray) :=
 if Region.wanted (opAt ops i) (yielded ops b.tmps)then(match (opAt ops i).op with
  | .binOp .add _ x y _=>(match b.eval x,b.eval y with|.string s,.string t=>some (s,t)|_,_=>none)
  | _=>none)else none
theorem run_add{P:Program}{ops:Array Oper}{b:Act}{w:World}{i:Nat}{s t:ByteArray}(hk:addAt ops b i=some (s,t))(hs:s.size+t.size≤9223372036854775807):runAt P ops b w i=some (.string (s++t),w):=by
 unfold addAt at hk
 split at hk
 case isFalse=>cases hk
 rename_i hw
 split at hk
 case h_2=>cases hk
 rename_i ty x y ty2 hop
 split at hk
 case h_2=>cases hk
 rename_i s' t' hx hy
 simp only[Option.some.injEq,Prod.mk.injEq]at hk
 obtain⟨rfl,rfl⟩:=hk
 have hn:¬ ((s'.size+t'.size:Nat):Int) > IntKind.i64.max:=by
  have:IntKind.i64.max=9223372036854775807:=by decide
  omega
 unfold runAt
 rw[if_pos hw]
 unfold execOp
 simp only[hop,hx,hy,binOp_string_add]
 unfold Op.stringOp
 have he:eqGuard BinOp.add ty x y (Value.string s') (Value.string t')=pure ():=rfl
 simp only[if_neg hn,he,Sem.run_bind,Sem.run_pure,Result.andThen_ok]
def encStr(s:ByteArray):List Value:=[.string s]
theorem encStr_len(n:ByteArray):(encStr n).length=1:=rfl
theorem encStr_one(n:ByteArray):∀ u∈encStr n,u.oneCell'=true:=by intro u hu;simp[encStr]at hu;subst hu;rfl
theorem Sl.str{w:World}{a:Option Addr}{l:List ByteArray}(h:Sl encStr w a l){k:Nat}(hk:k<l.length) :
  ∃ b off s,a=some ⟨b,off,none⟩∧LtN b w.heap.size∧Hid (l.drop k=s::l.drop (k+1))∧(∀ (W:World) [Grows w W],W.cell? ⟨b,off+k,none⟩=some (.string s)):=by
 obtain⟨s,hs,hd⟩:=drop_at hk
 obtain⟨b,off,ha,hb,hc⟩:=h k s hs
 exact⟨b,off,s,ha,⟨hb⟩,hd,cell_grown hb (by simpa[encStr]using hc 0 _ rfl)⟩
theorem c_cloneStr{a:Option Addr}{n c:Nat}{l:List ByteArray}{w:World}(hs:Sl encStr w a l)(hn:l.length=n)(hm:n≤100000000) :
  Calls Tryz.prog 219 #[.slice a n c] w (GivesSl encStr 9 1 w l):=by
 cases a with
 | none =>
  have hl:l=[]:=by
   cases l with
   | nil=>rfl
   | cons y r=>obtain⟨b,off,h0,-⟩:=hs 0 y rfl;cases h0
  have hq:=fun(w:World)=>run_eql_slice_nil (P:=Tryz.prog) w 30 9 none n c Tryz.underlying30
  simp only[Option.isNone]at hq
  have HL:=lH hl;clear hl
  go_enter Tryz.func219,Tryz.ntmps219
  go_wp2_with (first|((with_reducible refine wp_region_later (by kernel_rfl) (by kernel_rfl) ?_);(repeat(first|go_big_quiet_step (first|fail)));refine wpQuiet_nil ?_;rintro _ ⟨x,rfl⟩))
  go_ret
  exact GivesSl.nilOf encStr_len HL.out
 | some ad =>
  have hq:=fun(w:World)=>run_eql_slice_nil (P:=Tryz.prog) w 30 9 (some ad) n c Tryz.underlying30
  simp only[Option.isNone]at hq
  go_enter Tryz.func219,Tryz.ntmps219
  go_wp2_with (first|((with_reducible refine wp_region_later (by kernel_rfl) (by kernel_rfl) ?_);(repeat(first|go_big_quiet_step (first|fail)));refine wpQuiet_nil ?_;rintro _ ⟨x,rfl⟩)|(at_builtin;refine wpList_appS (enc:=encStr) (w0:=w) (z:=.string ByteArray.empty) (size:=1) (bytes:=16) (n:=0) (l:=[]) rfl (.tmp 5) (.tmp 6) rfl Tryz.underlying30 (by kernel_rfl) rfl (by decide) (by decide) rfl rfl (fun h=>by cases h) rfl hn (Own.emptyAt encStr_len (Nat.le_refl _) rfl) (hs.to inferInstance) encStr_one (by omega) ?_;intro sa1 sc1 x1 hown1 hgr1))
  go_ret
  rw[List.nil_append]at hown1
  exact⟨sa1,sc1,by rw[hn];first|rfl|simp,hown1,Later.of⟩
end Go.Proofs.YtgmikiidcpbjbaaGreat
