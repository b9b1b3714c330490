/- The contracts of AddPair. No condition but on lengths. Blocks known whole, and what is kept while they are written. No condition. A store into one block and the cells of another, by instances. No condition. Data with depth: what a value's cells read as, through slices, in blocks from a bound on. No condition. Boxes known whole: loads and stores of many cells, by one step each. No condition. Boxes known whole: a store, and all other blocks as they were. No condition. The contracts on senders of files: their mirrors, their equality, their marks. No condition but on lengths. -/
import Derived.Test.YtbaffippdifbpaaGreatSSlots2
import Derived.Test.YtbaffippdifbpaaGreatSReg
import Derived.Test.YtbaffippdifbpaaGreatSM5
import Derived.Test.YtbaffippdifbpaaGreatSM0
import Derived.Deep.RegionHeld3
import Derived.Deep.MidRow
import Derived.Laws.BytesArg
namespace Go.Proofs.YtbaffippdifbpaaGreat
set_option linter.unusedVariables false
open Go.ChangeShapes Go.WideShapes Go.ChangeAt Go.RowKit
end Go.Proofs.YtbaffippdifbpaaGreat
namespace Go.Proofs.YtbaffippdifbpaaGreat
set_option linter.unusedVariables false
open Go.ChangeShapes Go.WideShapes Go.ChangeAt Go.RowKit
def Held(w:World)(b:Nat)(cs:List Value)(T:TypeId):Prop:=w.heap[b]?=some (.cells cs.toArray T (0,0))
theorem Held.new(W:World)(cs:List Value)(T g:Nat)(hg:W.heap.size=g):Held (W.alloc (.cells cs.toArray T)) g cs T:=blk_alloc W _ g hg
theorem Held.to{w W:World}{b:Nat}{cs:List Value}{T:TypeId}(h:Held w b cs T)(g:Grows w W):Held W b cs T:=blk_grows (gr:=g) h
theorem Held.lt{w:World}{b:Nat}{cs:List Value}{T:TypeId}(h:Held w b cs T):b<w.heap.size:=(Array.getElem?_eq_some_iff.1 h).1
theorem Held.cell{w:World}{b:Nat}{cs:List Value}{T:TypeId}(h:Held w b cs T)(i:Nat):w.cell? ⟨b,i,none⟩=cs[i]?:=by simp[World.cell?,show w.heap[b]?=_ from h]
theorem Held.free{w:World}{b:Nat}{cs:List Value}{T:TypeId}(h:Held w b cs T)(i:Nat):w.frozen? ⟨b,i,none⟩=false:=by simp[World.frozen?,show w.heap[b]?=_ from h]
theorem Held.set{w:World}{b:Nat}{cs:List Value}{T:TypeId}(h:Held w b cs T)(i:Nat)(v:Value):Held (w.setCell ⟨b,i,none⟩ v) b (cs.set i v) T:=by
 have h':w.heap[b]?=some (.cells cs.toArray T (0,0)):=h
 unfold Held World.setCell
 simp[Array.getElem?_modify,h']
theorem Own.notHeld{α:Type}{enc:α→List Value}{T T' size B n:Nat}{w:World}{a:Option Addr}{c b:Nat}{l:List α}{cs:List Value}(h:Own enc T size B w a c l)(hb:Held w b cs T')(hT:T≠T'):some b≠Value.ownBlock (.slice a n c):=by
 obtain⟨-,-,⟨h1,-⟩|⟨g,cap,cur,hv,-,hh,-⟩⟩:=h
 ·simp only[Value.slice.injEq]at h1;obtain⟨rfl,-⟩:=h1;simp[Value.ownBlock]
 ·simp only[Value.slice.injEq]at hv;obtain⟨rfl,-⟩:=hv
  simp only[Value.ownBlock,ne_eq,Option.some.injEq]
  rintro rfl
  have hb':w.heap[b]?=some (.cells cs.toArray T' (0,0)):=hb
  rw[hb']at hh
  simp only[Option.some.injEq,Obj.cells.injEq]at hh
  exact hT hh.2.1.symm
theorem Held.kept{α:Type}{enc:α→List Value}{T T' size B n:Nat}{w w':World}{a:Option Addr}{c b:Nat}{l:List α}{cs:List Value}(hb:Held w b cs T')(h:Own enc T size B w a c l)(hT:T≠T')(hg:w.grownBy w' (Value.ownBlock (.slice a n c))):Held w' b cs T' :=
 blk_grown hg hb (h.notHeld hb hT)
theorem Own.set{α:Type}{enc:α→List Value}{T T' size B:Nat}{w:World}{a:Option Addr}{c b:Nat}{l:List α}{cs:List Value}(h:Own enc T size B w a c l)(hb:Held w b cs T')(hT:T≠T')(i:Nat)(v:Value):Own enc T size B (w.setCell ⟨b,i,none⟩ v) a c l:=by
 refine⟨h.1,h.2.kept (row:=some b) ⟨rfl,rfl,rfl,by simp,fun k hk hr=>?_⟩ (.inr (fun e=>h.notHeld (n:=l.length) hb hT e.symm))⟩
 rw[Below.heap_setCell _ _ _ _ (fun e=>hr (by simp only at e;rw[e]))]
theorem Held.cellG{w:World}{b:Nat}{cs:List Value}{T:TypeId}(h:Held w b cs T)(i:Nat)(v:Value)(hv:cs[i]?=some v):∀ (W:World) [Grows w W],W.cell? ⟨b,i,none⟩=some v:=fun W g=>by rw[(h.to g).cell i];exact hv
theorem c_cloneInt{a:Option Addr}{n c:Nat}{l:List Int}{w:World}(hs:Sl encInt w a l)(hn:l.length=n)(hm:n≤100000000) :
  Calls Tryz.prog 141 #[.slice a n c] w (GivesSl encInt 3 1 w l):=by
 cases a with
 | none =>
  have hl:l=[]:=by
   cases l with
   | nil=>rfl
   | cons y r=>obtain⟨b,off,h0,-⟩:=hs 0 y rfl;cases h0
  have hq:=fun(w:World)=>run_eql_slice_nil (P:=Tryz.prog) w 48 3 none n c Tryz.underlying48
  simp only[Option.isNone]at hq
  have HL:=lH hl;clear hl
  go_enter Tryz.func141,Tryz.ntmps141
  go_wp2_with (first|((with_reducible refine wp_region_later (by kernel_rfl) (by kernel_rfl) ?_);(repeat(first|go_big_quiet_step (first|fail)));refine wpQuiet_nil ?_;rintro _ ⟨x,rfl⟩))
  go_ret
  exact GivesSl.nilOf encInt_len HL.out
 | some ad =>
  have hq:=fun(w:World)=>run_eql_slice_nil (P:=Tryz.prog) w 48 3 (some ad) n c Tryz.underlying48
  simp only[Option.isNone]at hq
  go_enter Tryz.func141,Tryz.ntmps141
  go_wp2_with (first|((with_reducible refine wp_region_later (by kernel_rfl) (by kernel_rfl) ?_);(repeat(first|go_big_quiet_step (first|fail)));refine wpQuiet_nil ?_;rintro _ ⟨x,rfl⟩)|(at_builtin;refine wpList_appS (enc:=encInt) (w0:=w) (z:=.int .i64 0) (size:=1) (bytes:=8) (n:=0) (l:=[]) rfl (.tmp 5) (.tmp 6) rfl Tryz.underlying48 (by kernel_rfl) rfl (by decide) (by decide) rfl rfl (fun h=>by cases h) rfl hn (Own.emptyAt encInt_len (Nat.le_refl _) rfl) (hs.to inferInstance) encInt_one (by omega) ?_;intro sa1 sc1 x1 hown1 hgr1))
  go_ret
  rw[List.nil_append]at hown1
  exact⟨sa1,sc1,by rw[hn];first|rfl|simp,hown1,Later.of⟩
end Go.Proofs.YtbaffippdifbpaaGreat
namespace Go.Proofs.YtbaffippdifbpaaGreat
set_option linter.unusedVariables false
open Go.ChangeShapes Go.WideShapes Go.ChangeAt Go.RowKit
class NeN(a b:Nat):Prop where
 out:a≠b
instance(priority:=60) NeN.ofLt (a b:Nat)[h:LtN a b]:NeN a b:=⟨Nat.ne_of_lt h.out⟩
instance(priority:=55) NeN.ofGt (a b:Nat)[h:LtN b a]:NeN a b:=⟨Nat.ne_of_gt h.out⟩
theorem cell_farH(W:World)(b i b' j:Nat)(v:Value)(h:b≠b'):(W.setCell ⟨b,i,none⟩ v).cell? ⟨b',j,none⟩=W.cell? ⟨b',j,none⟩:=World.cell?_setCell_far W ⟨b,i,none⟩ ⟨b',j,none⟩ v h
@[go_sem] theorem cell_farN(W:World)(b i b' j:Nat)(v:Value)[h:NeN b b']:(W.setCell ⟨b,i,none⟩ v).cell? ⟨b',j,none⟩=W.cell? ⟨b',j,none⟩:=cell_farH W b i b' j v h.out
namespace Later
variable {W:World}
@[go_sem] theorem set_cell_far(x:Later W)(b i b' j:Nat)(v:Value)[h:NeN b b']:(x.set ⟨b,i,none⟩ v).w.cell? ⟨b',j,none⟩=x.w.cell? ⟨b',j,none⟩:=cell_farH x.w b i b' j v h.out
@[go_sem] theorem set_frozen(x:Later W)(b i:Nat)(v:Value)(p:Addr):(x.set ⟨b,i,none⟩ v).w.frozen? p=x.w.frozen? p:=by simp[Later.set]
end Later
instance Grows.setL(a:World){W:World}(x:Later W)(b i:Nat)(v:Value)[h:Grows a x.w][k:LeN a.heap.size b]:Grows a (x.set ⟨b,i,none⟩ v).w:=⟨h.out.setCell k.out v⟩
class SzN(g:Nat)(W:World):Prop where
 out:W.heap.size=g
instance SzN.same(W:World):SzN W.heap.size W:=⟨rfl⟩
instance SzN.set(g:Nat){W:World}(x:Later W)(p:Addr)(v:Value)[h:SzN g x.w]:SzN g (x.set p v).w:=⟨by have:=h.out;simpa[Later.set]using this⟩
instance SzN.setCell(g:Nat)(W:World)(p:Addr)(v:Value)[h:SzN g W]:SzN g (W.setCell p v):=⟨by have:=h.out;simpa using this⟩
instance SzN.drew(g:Nat)(W:World)[h:SzN g W]:SzN g W.drew:=⟨h.out⟩
@[go_sem] theorem cell_newN(W:World)(C:Array Value)(T:TypeId)(g i:Nat)[h:SzN g W]:(W.alloc (.cells C T)).cell? ⟨g,i,none⟩=C[i]?:=by
 have:=blk_alloc W (.cells C T) g h.out
 simp[World.cell?,this]
@[go_sem] theorem frozen_newN(W:World)(C:Array Value)(T:TypeId)(g i:Nat)[h:SzN g W]:(W.alloc (.cells C T)).frozen? ⟨g,i,none⟩=false:=by
 have:=blk_alloc W (.cells C T) g h.out
 simp[World.frozen?,this]
end Go.Proofs.YtbaffippdifbpaaGreat
namespace Go.Proofs.YtbaffippdifbpaaGreat
set_option linter.unusedVariables false
open Go.ChangeShapes Go.WideShapes Go.ChangeAt Go.RowKit
class Keeps(B:Nat)(w w':World):Prop where
 size:w.heap.size≤w'.heap.size
 block:∀ b,B≤b→b<w.heap.size→w'.heap[b]?=w.heap[b]?
instance(priority:=2000) Keeps.same (B:Nat)(w:World):Keeps B w w:=⟨Nat.le_refl _,fun _ _ _=>rfl⟩
theorem Keeps.trans{B:Nat}{a b c:World}(h:Keeps B a b)(k:Keeps B b c):Keeps B a c:=⟨Nat.le_trans h.size k.size,fun i h1 h2=>(k.block i h1 (Nat.lt_of_lt_of_le h2 h.size)).trans (h.block i h1 h2)⟩
theorem Keeps.later'{B:Nat}{w W:World}(h:Keeps B w W)(x:Later W):Keeps B w x.w:=h.trans ⟨x.h.size,fun b _ h2=>x.h.block b h2⟩
instance(priority:=1500) Keeps.andThenSelf (B:Nat){W:World}(x:Later W)(y:Later x.w):Keeps B y.w (x.andThen y).w:=⟨Nat.le_refl _,fun _ _ _=>rfl⟩
instance(priority:=1400) Keeps.andThenMid (B:Nat){W:World}(x:Later W)(y:Later x.w):Keeps B x.w (x.andThen y).w:=⟨y.h.size,fun b _ h2=>y.h.block b h2⟩
instance(priority:=1300) Keeps.andThen (B:Nat)(a:World){W:World}(x:Later W)(y:Later x.w)[h:Keeps B a x.w]:Keeps B a (x.andThen y).w:=h.later' y
instance(priority:=1200) Keeps.drawn (B:Nat)(a:World){W:World}(x:Later W)[h:Keeps B a x.w]:Keeps B a x.draw.w:=⟨h.size,h.block⟩
instance(priority:=1200) Keeps.drew (B:Nat)(a w:World)[h:Keeps B a w]:Keeps B a w.drew:=⟨h.size,h.block⟩
theorem Keeps.set'{B:Nat}{a w:World}(h:Keeps B a w)(b i:Nat)(v:Value)(k:b<B):Keeps B a (w.setCell ⟨b,i,none⟩ v):=⟨by simpa using h.size,fun c h1 h2=>by
 rw[Below.heap_setCell _ _ _ _ (fun e=>by simp only at e;omega)];exact h.block c h1 h2⟩
instance(priority:=1200) Keeps.setCell (B:Nat)(a w:World)(b i:Nat)(v:Value)[h:Keeps B a w][k:LtN b B]:Keeps B a (w.setCell ⟨b,i,none⟩ v):=h.set' b i v k.out
instance(priority:=1200) Keeps.setL (B:Nat)(a:World){W:World}(x:Later W)(b i:Nat)(v:Value)[h:Keeps B a x.w][k:LtN b B]:Keeps B a (x.set ⟨b,i,none⟩ v).w:=h.set' b i v k.out
instance(priority:=1250) Keeps.setL8 (B:Nat)(a:World){W:World}(x:Later W)(b i0 i1 i2 i3 i4 i5 i6 i7:Nat)(v0 v1 v2 v3 v4 v5 v6 v7:Value)[h:Keeps B a x.w][k:LtN b B]:Keeps B a ((((((((x.set ⟨b,i0,none⟩ v0).set ⟨b,i1,none⟩ v1).set ⟨b,i2,none⟩ v2).set ⟨b,i3,none⟩ v3).set ⟨b,i4,none⟩ v4).set ⟨b,i5,none⟩ v5).set ⟨b,i6,none⟩ v6).set ⟨b,i7,none⟩ v7).w :=
 (((((((h.set' b i0 v0 k.out).set' b i1 v1 k.out).set' b i2 v2 k.out).set' b i3 v3 k.out).set' b i4 v4 k.out).set' b i5 v5 k.out).set' b i6 v6 k.out).set' b i7 v7 k.out
instance(priority:=1200) Keeps.alloc (B:Nat)(a w:World)(o:Obj)[h:Keeps B a w]:Keeps B a (w.alloc o):=⟨by have:=h.size;simp;omega,fun b h1 h2=>by rw[Below.heap_alloc _ _ _ (Nat.lt_of_lt_of_le h2 h.size)];exact h.block b h1 h2⟩
instance(priority:=1000) Keeps.later (B:Nat)(a:World){W:World}(x:Later W)[h:Keeps B a W]:Keeps B a x.w:=h.later' x
instance(priority:=100) Keeps.grows (B:Nat)(w W:World)[h:Grows w W]:Keeps B w W:=⟨h.out.size,fun b _ h2=>h.out.block b h2⟩
class Enc(α:Type) where
 size:Nat
 Rd:Nat→World→List Value→α→Prop
 len:∀ {B w vs x},Rd B w vs x→vs.length=size
 keep:∀ {B w w' vs x},Rd B w vs x→Keeps B w w'→Rd B w' vs x
 mono:∀ {B B' w vs x},Rd B w vs x→B'≤B→Rd B' w vs x
 tot:α→Int
 tot_nonneg:∀ x,0≤tot x
def totL{α:Type}[Enc α]:List α→Int
 | []=>0
 | x::r=>1+Enc.tot x+totL r
theorem totL_len{α:Type}[Enc α](l:List α):(l.length:Int)≤totL l:=by
 induction l with
 | nil=>simp[totL]
 | cons x r ih=>have:=Enc.tot_nonneg x;simp only[totL,List.length_cons];omega
theorem totL_nonneg{α:Type}[Enc α](l:List α):0≤totL l:=by have:=totL_len l;omega
theorem totL_mem{α:Type}[Enc α]{l:List α}{x:α}(h:x∈l):Enc.tot x≤totL l:=by
 induction l with
 | nil=>cases h
 | cons y r ih =>
  have h1:=totL_nonneg r;have h2:=Enc.tot_nonneg y
  simp only[totL]
  rcases List.mem_cons.1 h with rfl|h
  ·omega
  ·have:=ih h;omega
def RdS{α:Type}[E:Enc α](B:Nat)(w:World)(a:Option Addr)(c:Nat)(l:List α):Prop :=
 l.length≤c∧c≤maxLen∧(a=none→c=0)∧∀ (i:Nat) (x:α),l[i]?=some x→∃ b off vs,a=some ⟨b,off,none⟩∧B≤b∧b<w.heap.size∧E.Rd B w vs x∧∀ (j:Nat) (u:Value),vs[j]?=some u→w.cell? ⟨b,off+i*E.size+j,none⟩=some u
section
variable {α:Type} [E:Enc α] {B:Nat} {w:World} {a:Option Addr} {c:Nat} {l:List α}
theorem RdS.cap(h:RdS B w a c l):l.length≤c:=h.1
theorem RdS.nilcap(h:RdS B w a c l):a=none→c=0:=h.2.2.1
theorem RdS.keep{w':World}(h:RdS B w a c l)(k:Keeps B w w'):RdS B w' a c l:=by
 refine⟨h.1,h.2.1,h.2.2.1,fun i x hx=>?_⟩
 obtain⟨b,off,vs,rfl,h1,h2,h3,h4⟩:=h.2.2.2 i x hx
 exact⟨b,off,vs,rfl,h1,Nat.lt_of_lt_of_le h2 k.size,E.keep h3 k,fun j u hu=>by rw[World.cell?_of_block (w:=w) (k.block b h1 h2)];exact h4 j u hu⟩
theorem RdS.mono{B':Nat}(h:RdS B w a c l)(k:B'≤B):RdS B' w a c l:=by
 refine⟨h.1,h.2.1,h.2.2.1,fun i x hx=>?_⟩
 obtain⟨b,off,vs,rfl,h1,h2,h3,h4⟩:=h.2.2.2 i x hx
 exact⟨b,off,vs,rfl,by omega,h2,E.mono h3 k,h4⟩
theorem RdS.to{w':World}(h:RdS B w a c l)(g:Keeps B w w'):RdS B w' a c l:=h.keep g
theorem RdS.nil:RdS B w none 0 ([]:List α):=⟨Nat.le_refl _,by unfold maxLen;omega,fun _=>rfl,fun i x h=>by simp at h⟩
theorem RdS.at(h:RdS B w a c l){k:Nat}(hk:k<l.length):∃ b off x vs,a=some ⟨b,off,none⟩∧LtN b w.heap.size∧Hid (l.drop k=x::l.drop (k+1))∧E.Rd B w vs x∧∀ (j:Nat) (u:Value),vs[j]?=some u→w.cell? ⟨b,off+k*E.size+j,none⟩=some u:=by
 obtain⟨x,hx,hd⟩:=drop_at hk
 obtain⟨b,off,vs,h0,-,h2,h3,h4⟩:=h.2.2.2 k x hx
 exact⟨b,off,x,vs,h0,⟨h2⟩,hd,h3,h4⟩
end
instance Enc.int:Enc Int where
 size:=1
 Rd _ _ vs n:=vs=[.int .i64 n]∧i64 n
 len h:=by rw[h.1];rfl
 keep h _:=h
 mono h _:=h
 tot _:=0
 tot_nonneg _:=Int.le_refl _
instance Enc.bool:Enc Bool where
 size:=1
 Rd _ _ vs b:=vs=[.bool b]
 len h:=by rw[h];rfl
 keep h _:=h
 mono h _:=h
 tot _:=0
 tot_nonneg _:=Int.le_refl _
instance Enc.str:Enc ByteArray where
 size:=1
 Rd _ _ vs s:=vs=[.string s]∧s.size≤9223372036854775807
 len h:=by rw[h.1];rfl
 keep h _:=h
 mono h _:=h
 tot s:=s.size
 tot_nonneg _:=by omega
/-! ### A block that is filled row by row -/
def RowsIn{α:Type}[E:Enc α](B:Nat)(w:World)(D:Array Value)(l:List α):Prop:=∀ (i:Nat) (x:α),l[i]?=some x→∃ vs,E.Rd B w vs x∧∀ (j:Nat) (u:Value),vs[j]?=some u→D[i*E.size+j]?=some u
end Go.Proofs.YtbaffippdifbpaaGreat
namespace Go.Proofs.YtbaffippdifbpaaGreat
set_option linter.unusedVariables false
open Go.ChangeShapes Go.WideShapes Go.ChangeAt Go.RowKit
def splice:List Value→Nat→List Value→List Value
 | cs,_,[]=>cs
 | cs,o,v::r=>splice (cs.set o v) (o+1) r
theorem Held.setCells{b:Nat}{T:TypeId}:∀ (us:List Value) {w:World} {cs:List Value} (o:Nat),Held w b cs T→Held (w.setCells b o us) b (splice cs o us) T
 | [],_,_,_,h=>h
 | v::r,_,_,o,h=>(h.set o v).setCells r (o+1)
theorem below_setCells{B b:Nat}(hb:B≤b):∀ (us:List Value) {a w:World} (o:Nat),Below B a w→Below B a (w.setCells b o us)
 | [],_,_,_,h=>h
 | v::r,_,_,o,h=>below_setCells hb r (o+1) (h.setCell hb v)
theorem Held.range{w:World}{b:Nat}{cs row:List Value}{T:TypeId}(h:Held w b cs T){o n:Nat}(hr:(cs.drop o).take n=row):w.rangeAt b o row:=fun j v hv=>by
 rw[h.cell,← hv,← hr]
 have hj:j<n:=by
  have:=(List.getElem?_eq_some_iff.1 hv).1
  rw[← hr]at this
  simp at this;omega
 rw[List.getElem?_take_of_lt hj,List.getElem?_drop]
theorem Held.there{w:World}{b:Nat}{cs:List Value}{T:TypeId}(h:Held w b cs T){o n:Nat}(hn:o+n≤cs.length):w.there b o n:=fun j hj=>by
 rw[h.cell,h.free,List.getElem?_eq_getElem (by omega)]
 exact⟨rfl,rfl⟩
section
variable {P:Program} {ops:Array Oper} {rest:List Oper} {op:Oper} {a:Act} {w:World} {Q:Exit→Act→World→Prop}
theorem run_storeVar_held{b o ty:Nat}{v:Value}{us:List Value}(hv:v.cells.toList=us)(ht:w.there b o us.length)(hi:(P.info? ty).map (·.size)=some us.length)(h1:∀ u∈us,u.oneCell'=true) :
  (storeVar ty ⟨b,o,none⟩ v).run P w=.ok () (w.setCells b o us):=by
 have:=run_storeCells_cells (P:=P) b o us 0 w (fun j hj=>by simpa using(ht j hj).1) (fun j hj=>by simpa using(ht j hj).2) h1
 have hvs:v.cells.size=us.length:=by rw[← hv,Array.length_toList]
 cases hq:P.info? ty with
 | none=>simp[hq]at hi
 | some i =>
  have hs:us.length=i.size:=by simp[hq]at hi;omega
  simp only[Nat.add_zero]at this
  simp[storeVar,sizeOf,typeInfo,hq,hvs,hs,hv,this]
theorem stepLoad(hgd:op.guard=none)(ty:TypeId)(x:Operand)(ho:op.op=.load ty x)(b o:Nat)(hx:a.eval x=.pointer (some ⟨b,o,none⟩)){cs row:List Value}{T:TypeId}(H:Held w b cs T)
  (d:TypeDesc) (hu:P.underlying ty=some d) (hd:d.isRow=true) (hi:(P.info? ty).map (·.size)=some row.length) (hr:(cs.drop o).take row.length=row)
  (h:wpList P ops Q rest (a.put op.dst (.agg row.toArray)) w):wpList P ops Q (op::rest) a w :=
 wpList_load_mid hgd ty x ho b o hx row d (H.range hr) hu hd hi h
theorem results_cell{fn:Func}{p t:Nat}(hf:fn.results=#[.cell p t]){tmps:Array Value}{b:Nat}(hp:tmps.getD p undef=.pointer (some ⟨b,0,none⟩)){cs:List Value}{T:TypeId}(H:Held w b cs T)
  (d:TypeDesc) (hu:P.underlying t=some d) (hd:d.isRow=true) (hi:(P.info? t).map (·.size)=some cs.length):(results fn tmps).run P w=.ok (.agg cs.toArray) w:=by
 have:=run_loadVar_mid w b 0 t cs d (H.range (o:=0) (n:=cs.length) (by simp)) hu hd hi
 have hp2:tmps[p]?.getD undef=.pointer (some ⟨b,0,none⟩):=by rw[← hp];simp[Array.getD_eq_getD_getElem?]
 simp[results,hf,hp2,asAddr,this]
end
end Go.Proofs.YtbaffippdifbpaaGreat
namespace Go.Proofs.YtbaffippdifbpaaGreat
set_option linter.unusedVariables false
open Go.ChangeShapes Go.WideShapes Go.ChangeAt Go.RowKit
structure But(b:Nat)(w w':World):Prop where
 size:w.heap.size≤w'.heap.size
 block:∀ k,k≠b→k<w.heap.size→w'.heap[k]?=w.heap[k]?
theorem But.setCells{b:Nat}:∀ (us:List Value) {a w:World} (o:Nat),But b a w→But b a (w.setCells b o us)
 | [],_,_,_,h=>h
 | v::r,_,w,o,h=>But.setCells r (o+1) ⟨by simpa using h.size,fun k h1 h2=>by
  rw[Below.heap_setCell _ _ _ _ (fun e=>h1 (by simpa using e))];exact h.block k h1 h2⟩
theorem But.above{b:Nat}{w w':World}(h:But b w w'):Keeps (b+1) w w':=⟨h.size,fun k h1 h2=>h.block k (by omega) h2⟩
section
variable {P:Program} {ops:Array Oper} {rest:List Oper} {op:Oper} {a:Act} {w:World} {Q:Exit→Act→World→Prop}
theorem stepStore2(hgd:op.guard=none)(ty:TypeId)(x y:Operand)(ho:op.op=.store ty x y)(b o:Nat)(hx:a.eval x=.pointer (some ⟨b,o,none⟩)){cs us cs2:List Value}{T:TypeId}(H:Held w b cs T)
  (hv:(a.eval y).cells.toList=us) (hi:(P.info? ty).map (·.size)=some us.length) (h1:us.all (·.oneCell')=true) (hl:o+us.length≤cs.length) (hcs:splice cs o us=cs2) {w0:World} (g:Grows w0 w) (hb:w0.heap.size≤b)
  (h:∀ z:Later w0,Held z.w b cs2 T→But b w z.w→wpList P ops Q rest (a.put op.dst undef) z.w):wpList P ops Q (op::rest) a w:=by
 subst hcs
 refine wpList_plain hgd fun _ hK=>?_
 unfold Oper.wp execOp
 simp only[ho,hx,Instr.storeAt,Instr.sureAddr,Sem.run_bind,Sem.run_pure,Result.andThen_ok,run_storeVar_held hv (H.there hl) hi (fun u hu=>List.all_eq_true.1 h1 u hu)]
 exact hK _ _ (h ⟨_,below_setCells hb us o g.out⟩ (H.setCells us o) (But.setCells us o ⟨Nat.le_refl _,fun _ _ _=>rfl⟩))
end
theorem splice_pre:∀ (us pre post:List Value),us.length=post.length→splice (pre++post) pre.length us=pre++us
 | [],pre,post,h=>by
  have:post=[]:=List.length_eq_zero_iff.1 h.symm
  subst this;rfl
 | v::r,pre,[],h=>by simp at h
 | v::r,pre,u::post,h=>by
  have:=splice_pre r (pre++[v]) post (by simpa using h)
  rw[splice]
  rw[List.set_append_right _ _ (Nat.le_refl _),Nat.sub_self,List.set_cons_zero]
  simpa using this
theorem splice_all{cs us:List Value}(h:us.length=cs.length):splice cs 0 us=us:=splice_pre us [] cs h
end Go.Proofs.YtbaffippdifbpaaGreat
namespace Go.Proofs.YtbaffippdifbpaaGreat
set_option linter.unusedVariables false
open Go.ChangeShapes Go.WideShapes Go.ChangeAt Go.RowKit
def countSeg(n:Int):Int:=if inB n 0 600=true then(n+23) / 24 else 0
theorem countSeg_bd(n:Int):0≤countSeg n∧countSeg n≤25:=by
  unfold countSeg
  split
  · rename_i h;have:=inB_iff.1 h;omega
  · omega
def allB(lo hi:Int):List Int→Bool
  | []=>true
  | x::r=>inB x lo hi && allB lo hi r
def fileOutOk(f:Int)(size:Int)(q:List Int):Bool:=inB f 0 7 && (decide (size≤600) && (decide ((q.length:Int)≤1000) && allB (-1) (countSeg size - 1) q))
theorem c_iCountSegments{n:Int}{w:World}:Calls Tryz.prog 231 #[.int .i64 n] w (Gives w (.int .i64 (countSeg n))):=by
  cases h:inB n 0 600
  · go_enter Tryz.func231,Tryz.ntmps231
    go_wp2_with (first|(go_at_call 127;refine(c_ibetween).mono ?_;rintro _ _ ⟨rfl,x,rfl⟩))
    go_ret
    exact Gives.mk (by simp[countSeg,h])
  · have⟨h1,h2⟩:=inB_iff.1 h
    go_enter Tryz.func231,Tryz.ntmps231
    go_wp2_with (first|(go_at_call 127;refine(c_ibetween).mono ?_;rintro _ _ ⟨rfl,x,rfl⟩))
    go_ret
    exact Gives.mk (by simp[countSeg,h];omega)
theorem c_sCountSegments{n:Int}{w:World}:Calls Tryz.prog 228 #[.int .i64 n] w (Gives w (.int .i64 (countSeg n))):=by
  cases h:inB n 0 600
  · go_enter Tryz.func228,Tryz.ntmps228
    go_wp2_with (first|(go_at_call 151;refine(c_sl01In).mono ?_;rintro _ _ ⟨rfl,x,rfl⟩))
    go_ret
    exact Gives.mk (by simp[countSeg,h])
  · have⟨h1,h2⟩:=inB_iff.1 h
    go_enter Tryz.func228,Tryz.ntmps228
    go_wp2_with (first|(go_at_call 151;refine(c_sl01In).mono ?_;rintro _ _ ⟨rfl,x,rfl⟩))
    go_ret
    exact Gives.mk (by simp[countSeg,h];omega)
theorem c_iallBetween{a:Option Addr}{n c:Nat}{lo hi:Int}{l:List Int}{w:World}(hs:Sl encInt w a l:=by first|assumption|(apply Sl.to<;>first|assumption|infer_instance)|omega)(hn:l.length=n:=by first|assumption|(apply Sl.to<;>first|assumption|infer_instance)|omega)(hm:n≤4611686018427387904:=by first|assumption|(apply Sl.to<;>first|assumption|infer_instance)|omega) :
    Calls Tryz.prog 233 #[.slice a n c,.int .i64 lo,.int .i64 hi] w (Gives w (.bool (allB lo hi l))):=by
  go_enter Tryz.func233,Tryz.ntmps233
  go_wp2_with fail
  go_loopw [11] (fun v wr=>∃ k:Nat,v=.int .i64 k∧k≤n∧Hid (allB lo hi (l.drop k)=allB lo hi l)∧∃ x:Later w,wr=x.w) (fun v _=>(n - intOf v).toNat)
  case atStart=>exact⟨0,rfl,by omega,rfl,Later.of⟩
  case round =>
    obtain⟨k,rfl,hk,hf,x,rfl⟩:=hrel
    by_cases h:k<n
    · obtain⟨b,off,s,rfl,hb,hd,h0⟩:=hs.int (show k<l.length by omega)
      cases c1:inB s lo hi
      · go_wp2_with (first|(go_at_call 127;refine(c_ibetween).mono ?_;rintro _ _ ⟨rfl,x,rfl⟩))
        go_ret
        exact Gives.mk (by have:=hf.out;rw[hd.out,allB,c1]at this;rw[← this];rfl)
      · go_wp2_with (first|(go_at_call 127;refine(c_ibetween).mono ?_;rintro _ _ ⟨rfl,x,rfl⟩))
        go_roundw
        case rel=>exact⟨k+1,by go_num,by omega,by have:=hf.out;rw[hd.out,allB,c1]at this;exact this,Later.of⟩
        case measure=>simp[intOf];omega
    · go_wp2_with fail
      go_ret
      exact Gives.mk (by have:=hf.out;rw[List.drop_of_length_le (by omega),allB]at this;rw[← this];rfl)
set_option maxRecDepth 100000 in
set_option maxHeartbeats 2000000 in
theorem c_iFileOutOk{a:Option Addr}{n c:Nat}{f:Int}{s:ByteArray}{d:Bool}{q:List Int}{w:World}(hs:Sl encInt w a q)(hn:q.length=n)(hm:n≤4611686018427387904)(hsz:s.size≤100000000) :
    Calls Tryz.prog 238 #[.agg #[.int .i64 f,.string s,.slice a n c,.bool d]] w (Gives w (.bool (fileOutOk f s.size q))):=by
  have HF:=lH (show fileOutOk f s.size q=(inB f 0 7 && (decide ((s.size:Int)≤600) && (decide ((n:Int)≤1000) && allB (-1) (countSeg s.size - 1) q)))by rw[fileOutOk,hn])
  have hc:=countSeg_bd s.size
  cases c1:inB f 0 7
  · go_enter Tryz.func238,Tryz.ntmps238
    go_wp2_with (first|(go_at_call 127;refine(c_ibetween).mono ?_;rintro _ _ ⟨rfl,x,rfl⟩))
    go_ret
    exact Gives.mk (by rw[HF.out,c1];rfl)
  by_cases h2:600<s.size
  · go_enter Tryz.func238,Tryz.ntmps238
    go_wp2_with (first|(go_at_call 127;refine(c_ibetween).mono ?_;rintro _ _ ⟨rfl,x,rfl⟩))
    go_ret
    exact Gives.mk (by rw[HF.out];have:decide ((s.size:Int)≤600)=false:=by simp;omega
                       simp[this])
  by_cases h3:1000<n
  · go_enter Tryz.func238,Tryz.ntmps238
    go_wp2_with (first|(go_at_call 127;refine(c_ibetween).mono ?_;rintro _ _ ⟨rfl,x,rfl⟩))
    go_ret
    exact Gives.mk (by rw[HF.out];have:decide ((n:Int)≤1000)=false:=by simp;omega
                       simp[this])
  · have d2:decide ((s.size:Int)≤600)=true:=by simp;omega
    have d3:decide ((n:Int)≤1000)=true:=by simp;omega
    have HD:=lH (And.intro d2 d3);clear d2 d3
    go_enter Tryz.func238,Tryz.ntmps238
    go_wp2_with (first|((with_reducible refine wp_region_later (by kernel_rfl) (by kernel_rfl) ?_);(repeat(first|go_big_quiet_step (first|(go_at_call 127;exact Gives.quiet (c_ibetween))|(go_at_call 231;exact Gives.quiet (c_iCountSegments))|(go_at_call 233;exact Gives.quiet (c_iallBetween)))|simp only[c1]));refine wpQuiet_nil ?_;rintro _ ⟨x,rfl⟩)|(go_at_call 127;refine(c_ibetween).mono ?_;rintro _ _ ⟨rfl,x,rfl⟩)|(go_at_call 231;refine(c_iCountSegments).mono ?_;rintro _ _ ⟨rfl,x,rfl⟩)|(go_at_call 233;refine(c_iallBetween).mono ?_;rintro _ _ ⟨rfl,x,rfl⟩))
    go_ret
    exact Gives.mk (by rw[HF.out,c1,HD.out.1,HD.out.2];rfl)
set_option maxRecDepth 100000 in
set_option maxHeartbeats 2000000 in
theorem c_sFileOutOk{a:Option Addr}{n c:Nat}{f:Int}{s:ByteArray}{d:Bool}{q:List Int}{w:World}(hs:Sl encInt w a q)(hn:q.length=n)(hm:n≤4611686018427387904)(hsz:s.size≤100000000) :
    Calls Tryz.prog 235 #[.agg #[.int .i64 f,.string s,.slice a n c,.bool d]] w (Gives w (.bool (fileOutOk f s.size q))):=by
  have HF:=lH (show fileOutOk f s.size q=(inB f 0 7 && (decide ((s.size:Int)≤600) && (decide ((n:Int)≤1000) && allB (-1) (countSeg s.size - 1) q)))by rw[fileOutOk,hn])
  have hc:=countSeg_bd s.size
  go_enter Tryz.func235,Tryz.ntmps235
  go_wp2_with fail
  go_loopw [3] (fun v wr=>∃ k:Nat,v=.int .i64 k∧k≤n∧Hid (allB (-1) (countSeg s.size - 1) (q.drop k)=allB (-1) (countSeg s.size - 1) q)∧∃ x:Later (w.alloc (.cells #[.int .i64 f,.string s,.slice a n c,.bool d] 143)),wr=x.w) (fun v _=>(n - intOf v).toNat)
  case atStart=>exact⟨0,rfl,by omega,rfl,Later.of⟩
  case round =>
    obtain⟨k,rfl,hk,hf,x,rfl⟩:=hrel
    by_cases h:k<n
    · obtain⟨b,off,y,rfl,hb,hd,h0⟩:=hs.int (show k<q.length by omega)
      cases c1:inB y (-1) (countSeg s.size - 1)
      · go_wp2_with (first|((with_reducible refine wp_region_later (by kernel_rfl) (by kernel_rfl) ?_);(repeat(first|go_big_quiet_step (first|(go_at_call 228;exact Gives.quiet (c_sCountSegments))|(go_at_call 151;exact Gives.quiet (c_sl01In)))|simp only[c1]));refine wpQuiet_nil ?_;rintro _ ⟨x,rfl⟩)|(go_at_call 228;refine(c_sCountSegments).mono ?_;rintro _ _ ⟨rfl,x,rfl⟩)|(go_at_call 151;refine(c_sl01In).mono ?_;rintro _ _ ⟨rfl,x,rfl⟩))
        go_ret
        exact Gives.mk (by have:=hf.out;rw[hd.out,allB,c1]at this;rw[HF.out,← this];simp)
      · go_wp2_with (first|((with_reducible refine wp_region_later (by kernel_rfl) (by kernel_rfl) ?_);(repeat(first|go_big_quiet_step (first|(go_at_call 228;exact Gives.quiet (c_sCountSegments))|(go_at_call 151;exact Gives.quiet (c_sl01In)))|simp only[c1]));refine wpQuiet_nil ?_;rintro _ ⟨x,rfl⟩)|(go_at_call 228;refine(c_sCountSegments).mono ?_;rintro _ _ ⟨rfl,x,rfl⟩)|(go_at_call 151;refine(c_sl01In).mono ?_;rintro _ _ ⟨rfl,x,rfl⟩))
        go_roundw
        case rel=>exact⟨k+1,by go_num,by omega,by have:=hf.out;rw[hd.out,allB,c1]at this;exact this,Later.of⟩
        case measure=>simp[intOf];omega
    · have hf':=hf.out
      rw[List.drop_of_length_le (by omega),allB]at hf'
      have HA:=lH hf';clear hf hf'
      cases c1:inB f 0 7
      · go_wp2_with (first|(go_at_call 151;refine(c_sl01In).mono ?_;rintro _ _ ⟨rfl,x,rfl⟩))
        go_ret
        exact Gives.mk (by rw[HF.out,c1];rfl)
      by_cases h2:600<s.size
      · go_wp2_with (first|(go_at_call 151;refine(c_sl01In).mono ?_;rintro _ _ ⟨rfl,x,rfl⟩))
        go_ret
        exact Gives.mk (by rw[HF.out];have:decide ((s.size:Int)≤600)=false:=by simp;omega
                           simp[this])
      by_cases h3:1000<n
      · go_wp2_with (first|(go_at_call 151;refine(c_sl01In).mono ?_;rintro _ _ ⟨rfl,x,rfl⟩))
        go_ret
        exact Gives.mk (by rw[HF.out];have:decide ((n:Int)≤1000)=false:=by simp;omega
                           simp[this])
      · go_wp2_with (first|(go_at_call 151;refine(c_sl01In).mono ?_;rintro _ _ ⟨rfl,x,rfl⟩))
        go_ret
        exact Gives.mk (by rw[HF.out,c1,← HA.out];simp;omega)
end Go.Proofs.YtbaffippdifbpaaGreat
namespace Go.Proofs.YtbaffippdifbpaaGreat
set_option linter.unusedVariables false
open Go.ChangeShapes Go.WideShapes Go.ChangeAt Go.RowKit
theorem count_snoc{l:List Int}{k:Nat}{s:Int}{r:List Int}(h:l.drop k=s::r)(i:Int):(l.take (k+1)).count i=(l.take k).count i+(if s=i then 1 else 0):=by
 rw[take_snoc' h,List.count_append]
 simp[List.count_cons]
theorem allB_one{l:List Int}:∀ N:Nat,allB 1 1 ((List.range N).map (fun i:Nat=>(l.count (i:Int):Int)))=countsOne l N:=by
 have key:∀ (p:List Nat),allB 1 1 (p.map (fun i:Nat=>(l.count (i:Int):Int)))=p.all (fun i:Nat=>decide (l.count (i:Int)=1)):=by
  intro p
  induction p with
  | nil=>rfl
  | cons x r ih =>
   rw[List.map_cons,allB,ih,List.all_cons]
   congr 1
   rw[Bool.eq_iff_iff,inB_iff,decide_eq_true_eq]
   omega
 intro N
 rw[key]
 induction N with
 | zero=>rfl
 | succ N ih=>rw[List.range_succ,List.all_append,ih,countsOne];simp
theorem made_zero{n i:Nat}{v:Value}(hv:v.cells=#[v])(hi:i<n):(madeCells v.cells (n*1))[i]?=some v:=by
 have h1:i % 1=0:=Nat.mod_one i
 rw[hv]
 simp[madeCells,hi,h1]
set_option maxRecDepth 100000 in
set_option maxHeartbeats 2000000 in
theorem c_ieachOnceN{a:Option Addr}{n c:Nat}{l:List Int}{w:World}(hs:Sl encInt w a l)(hn:l.length=n)(hm:n≤4194304) :
  Calls Tryz.prog 140 #[.slice a n c,.int .i64 n] w (Gives w (.bool (countsOne l n))):=by
 have hmx:max (n:Int) 0=(n:Int):=by omega
 have k1:((n:Int) != (n:Int))=false:=by simp
 obtain⟨C,hC,hmk⟩:=run_mk (P:=Tryz.prog) Tryz.underlying48 (e:=3) (z:=.int .i64 0) (size:=1) (bytes:=8) (by kernel_rfl) n (by omega) (by omega)
 have hCz:C.size=n:=by rw[hC,size_madeCells,Nat.mul_one]
 have HC:=lH (show ∀ i,i<n→C[i]?=some (.int .i64 0)from fun i hi=>by rw[hC];exact made_zero rfl hi)
 clear hC
 go_enter Tryz.func140,Tryz.ntmps140
 go_wp2_with (first|((with_reducible refine wp_region_later (by kernel_rfl) (by kernel_rfl) ?_);(repeat(first|go_big_quiet_step (first|fail)|simp only[hmx]|simp only[k1]));refine wpQuiet_nil ?_;rintro _ ⟨x,rfl⟩))
 clear hmk
 go_loopw [18] (fun v wr=>∃ k:Nat,v=.int .i64 k∧k≤n∧∃ (D:Array Value) (x:Later (w.alloc (.cells D 3))),D.size=n∧Hid (∀ i,i<n→D[i]?=some (.int .i64 ((l.take k).count (i:Int))))∧wr=x.w) (fun v _=>(n - intOf v).toNat)
 case atStart=>exact⟨0,rfl,by omega,C,Later.here _,hCz,(fun i hi=>by rw[HC.out i hi];rfl),rfl⟩
 case round =>
  obtain⟨k,rfl,hk,D,X,hDz,hf,rfl⟩:=hrel
  by_cases h:k<n
  ·obtain⟨b,off,s,rfl,hb,hd,h0⟩:=hs.int (show k<l.length by omega)
   cases c1:inB s 0 ((n:Int) - 1)
   ·have HF:=lH (show ∀ i,i<n→D[i]?=some (.int .i64 ((l.take (k+1)).count (i:Int)))from fun i hi=>by
     have hne:¬ s=(i:Int):=fun e=>by
      have h2:inB s 0 ((n:Int) - 1)=true:=inB_iff.2 (by omega)
      rw[c1]at h2;cases h2
     rw[hf.out i hi,count_snoc hd.out,if_neg hne];rfl)
    clear hf
    go_wp2_with (first|((with_reducible refine wp_region_later (by kernel_rfl) (by kernel_rfl) ?_);(repeat(first|go_big_quiet_step (first|(go_at_call 127;exact Gives.quiet (c_ibetween)))|simp only[c1]));refine wpQuiet_nil ?_;rintro _ ⟨x,rfl⟩)|(go_at_call 127;refine(c_ibetween).mono ?_;rintro _ _ ⟨rfl,x,rfl⟩))
    go_roundw
    case rel=>exact⟨k+1,by go_num,by omega,D,X.andThen x,hDz,HF,rfl⟩
    case measure=>simp[intOf];omega
   ·have⟨hs1,hs2⟩:=inB_iff.1 c1
    obtain⟨j,rfl⟩:=Int.eq_ofNat_of_zero_le hs1
    have hj:j<n:=by omega
    have g0:=hf.out j hj
    have hcl:(l.take k).count (j:Int)≤n:=Nat.le_trans List.count_le_length (by rw[List.length_take];omega)
    obtain⟨q,hq⟩:∃ q,(l.take k).count (j:Int)=q:=⟨_,rfl⟩
    rw[hq]at g0 hcl
    have HQ:=lH hq;clear hq
    obtain⟨hjD,g1⟩:=Array.getElem?_eq_some_iff.1 g0
    clear hs1 hs2
    go_wp2_with (first|((with_reducible refine wp_region_later (by kernel_rfl) (by kernel_rfl) ?_);(repeat(first|go_big_quiet_step (first|(go_at_call 127;exact Gives.quiet (c_ibetween)))|simp only[c1]));refine wpQuiet_nil ?_;rintro _ ⟨x,rfl⟩)|(go_at_call 127;refine(c_ibetween).mono ?_;rintro _ _ ⟨rfl,x,rfl⟩))
    go_roundw
    case rel =>
     obtain⟨x2,hx2⟩:=Later.set1_at (X.andThen x) j (.int .i64 ((q:Int)+1))
     refine⟨k+1,by go_num,by omega,D.setIfInBounds j (.int .i64 ((q:Int)+1)),x2,by simpa using hDz,(fun i hi=>?_),by rw[← hx2]⟩
     rw[count_snoc hd.out]
     by_cases hji:j=i
     ·subst hji
      rw[Array.getElem?_setIfInBounds_self_of_lt (by omega),HQ.out,if_pos rfl];rfl
     ·rw[Array.getElem?_setIfInBounds_ne hji,hf.out i hi,if_neg (by omega)];rfl
    case measure=>simp[intOf];omega
  ·have hkn:l.take k=l:=List.take_of_length_le (by omega)
   rw[hkn]at hf
   have hsl:Sl encInt X.w (some ⟨w.heap.size,0,none⟩) ((List.range n).map (fun i:Nat=>(l.count (i:Int):Int))):=fun i y hy=>by
    have hi:i<n:=by have:=(List.getElem?_eq_some_iff.1 hy).1;simpa using this
    have hy2:y=(l.count (i:Int):Int):=by simpa[hi]using hy.symm
    subst hy2
    refine⟨w.heap.size,0,rfl,(LtN.out (a:=w.heap.size)),fun j v hv=>?_⟩
    have hj:j=0:=by have:=(List.getElem?_eq_some_iff.1 hv).1;simp[encInt]at this;exact this
    subst hj
    rw[X.h.cell (p:=⟨w.heap.size,_,none⟩) (by simp),World.cell?_alloc_at _ _ _ _ rfl,encInt_len,Nat.mul_one,Nat.zero_add,Nat.add_zero,hf.out i hi]
    simpa[encInt]using hv
   have HV:=lH (allB_one (l:=l) n)
   go_wp2_with (first|((with_reducible refine wp_region_later (by kernel_rfl) (by kernel_rfl) ?_);(repeat(first|go_big_quiet_step (first|fail)));refine wpQuiet_nil ?_;rintro _ ⟨x,rfl⟩))
   refine(c_iallBetween (hsl.to inferInstance) (by simp) (by omega)).mono ?_
   rintro _ _ ⟨rfl,y,rfl⟩
   rw[HV.out]
   go_wp2_with (first|((with_reducible refine wp_region_later (by kernel_rfl) (by kernel_rfl) ?_);(repeat(first|go_big_quiet_step (first|fail)));refine wpQuiet_nil ?_;rintro _ ⟨x,rfl⟩))
   go_ret
   exact Gives.mk rfl
set_option maxRecDepth 100000 in
set_option maxHeartbeats 2000000 in
theorem c_ieachOnce{a:Option Addr}{n c:Nat}{t:Int}{l:List Int}{w:World}(hs:Sl encInt w a l)(hn:l.length=n)(hm:n≤4194304) :
  Calls Tryz.prog 140 #[.slice a n c,.int .i64 t] w (Gives w (.bool (once l t))):=by
 by_cases hN:t=(n:Int)
 ·subst hN
  rw[show once l (n:Int)=countsOne l n by simp[once,hn]]
  exact c_ieachOnceN hs hn hm
 by_cases h0:t<0∧n=0
 ·obtain⟨h1,rfl⟩:=h0
  have hmx:max t 0=0:=by omega
  have hl:l=[]:=List.length_eq_zero_iff.1 hn
  have HV:=lH (show once l t=true by rw[once,hl,show t.toNat=0 by omega];rfl)
  clear hN
  have hmk:∀ w:World,(Instr.makeSlice 48 (.int .i64 0) (.int .i64 0)).run Tryz.prog w=.ok (.slice (some ⟨w.heap.size,0,none⟩) 0 0) (w.alloc (.cells #[] 3)):=fun w=>by kernel_rfl
  go_enter Tryz.func140,Tryz.ntmps140
  go_wp2_with (first|((with_reducible refine wp_region_later (by kernel_rfl) (by kernel_rfl) ?_);(repeat(first|go_big_quiet_step (first|fail)|simp only[hmx]));refine wpQuiet_nil ?_;rintro _ ⟨x,rfl⟩))
  refine wp_loop_rounds 1 ?_
  rw[rounds_succ]
  go_wp2_with (first|((with_reducible refine wp_region_later (by kernel_rfl) (by kernel_rfl) ?_);(repeat(first|go_big_quiet_step (first|fail)));refine wpQuiet_nil ?_;rintro _ ⟨x,rfl⟩))
  refine(c_iallBetween (l:=[]) (n:=0) (Sl.nil) rfl (by omega)).mono ?_
  rintro _ _ ⟨rfl,y,rfl⟩
  go_wp2_with (first|((with_reducible refine wp_region_later (by kernel_rfl) (by kernel_rfl) ?_);(repeat(first|go_big_quiet_step (first|fail)));refine wpQuiet_nil ?_;rintro _ ⟨x,rfl⟩))
  go_ret
  exact Gives.mk (by rw[HV.out];rfl)
 ·have HV:=lH (show once l t=false by rw[once,hn,decide_eq_false (by omega)];rfl)
  by_cases ht:t<0
  ·have hT:max t 0=0:=by omega
   have hne:((n:Int) != 0)=true:=by simp;omega
   clear hN h0
   go_enter Tryz.func140,Tryz.ntmps140
   go_wp2_with (first|((with_reducible refine wp_region_later (by kernel_rfl) (by kernel_rfl) ?_);(repeat(first|go_big_quiet_step (first|fail)|simp only[hT]|simp only[hne]));refine wpQuiet_nil ?_;rintro _ ⟨x,rfl⟩))
   go_ret
   exact Gives.mk (by rw[HV.out];rfl)
  ·have hT:max t 0=t:=by omega
   have hne:((n:Int) != t)=true:=by simp;omega
   clear hN h0
   go_enter Tryz.func140,Tryz.ntmps140
   go_wp2_with (first|((with_reducible refine wp_region_later (by kernel_rfl) (by kernel_rfl) ?_);(repeat(first|go_big_quiet_step (first|fail)|simp only[hT]|simp only[hne]));refine wpQuiet_nil ?_;rintro _ ⟨x,rfl⟩))
   go_ret
   exact Gives.mk (by rw[HV.out];rfl)
end Go.Proofs.YtbaffippdifbpaaGreat
namespace Go.Proofs.YtbaffippdifbpaaGreat
set_option linter.unusedVariables false
open Go.ChangeShapes Go.WideShapes Go.ChangeAt Go.RowKit
theorem But.grown1{b:Nat}{w0 w:World}{z:Later w0}(h:But b w z.w)(g:Grows w0 w):w.grownBy z.w (some b) :=
 ⟨z.h.os.trans g.out.os.symm,z.h.tape.trans g.out.tape.symm,z.h.output.trans g.out.output.symm,h.size,fun k hk hr=>h.block k (fun e=>hr (by rw[e])) hk⟩
theorem Own.at{α:Type}{enc:α→List Value}{T T' size B:Nat}{w w':World}{a:Option Addr}{c b:Nat}{l:List α}{cs:List Value}(h:Own enc T size B w a c l)(hb:Held w b cs T')(hT:T≠T')(hg:w.grownBy w' (some b)):Own enc T size B w' a c l :=
 ⟨h.1,h.2.kept hg (.inr (fun e=>h.notHeld (n:=l.length) hb hT e.symm))⟩
theorem Held.at{w w':World}{b b2:Nat}{cs:List Value}{T:TypeId}(h:Held w b cs T)(hg:w.grownBy w' (some b2))(hne:b≠b2):Held w' b cs T:=blk_grown hg h (by simpa using hne)
section
variable {P:Program} {ops:Array Oper} {op:Oper} {a:Act} {w:World} {Q:Exit→Act→World→Prop} {K:Act→World→Prop} {E:Prop}
theorem st_loadH(hw:Region.wanted op (yielded ops a.tmps)=true)(ty:TypeId)(x:Operand)(ho:op.op=.load ty x)(b o:Nat)(hx:a.eval x=.pointer (some ⟨b,o,none⟩)){cs row:List Value}{T:TypeId}(H:Held w b cs T)
  (d:TypeDesc) (hu:P.underlying ty=some d) (hd:d.isRow=true) (hi:(P.info? ty).map (·.size)=some row.length) (hr:(cs.drop o).take row.length=row)
  (h:K (a.put op.dst (.agg row.toArray)) w):if Region.wanted op (yielded ops a.tmps)=true then Oper.wp P op a w K Q else E:=by
 rw[if_pos hw]
 exact wp_load_mid ty x ho b o hx row d (H.range hr) hu hd hi h
theorem st_load1(hw:Region.wanted op (yielded ops a.tmps)=true)(ty:TypeId)(x:Operand)(ho:op.op=.load ty x)(b o:Nat)(hx:a.eval x=.pointer (some ⟨b,o,none⟩)){cs:List Value}{T:TypeId}(H:Held w b cs T)(v:Value)(hv:cs[o]?=some v)
  (d:TypeDesc) (hu:P.underlying ty=some d) (hd:d.isRow=false)
  (h:K (a.put op.dst v) w):if Region.wanted op (yielded ops a.tmps)=true then Oper.wp P op a w K Q else E:=by
 rw[if_pos hw]
 have hagg:(isAgg ty).run P w=.ok false w:=by
  unfold isAgg
  rw[Sem.run_bind,run_underlying hu w]
  cases d<;>simp_all [TypeDesc.isRow]
 have hl:(loadVar ty ⟨b,o,none⟩).run P w=.ok v w:=by
  have hc:=H.cell o
  rw[hv]at hc
  simp[loadVar,Sem.run_bind,hagg,go_sem,hc]
 unfold Oper.wp execOp
 simp only[ho,hx,Instr.loadAt,Instr.sureAddr,Sem.run_bind,Sem.run_pure,Result.andThen_ok,hl]
 exact h
end
theorem results_cell2{P:Program}{w:World}{fn:Func}{p t q:Nat}(hf:fn.results=#[.cell p t,.tmp q]){tmps:Array Value}{b:Nat}(hp:tmps.getD p undef=.pointer (some ⟨b,0,none⟩)){cs:List Value}{T:TypeId}(H:Held w b cs T)
  (d:TypeDesc) (hu:P.underlying t=some d) (hd:d.isRow=true) (hi:(P.info? t).map (·.size)=some cs.length) {u:Value} (hq:tmps.getD q undef=u):(results fn tmps).run P w=.ok (.tuple #[.agg cs.toArray,u]) w:=by
 have:=run_loadVar_mid w b 0 t cs d (H.range (o:=0) (n:=cs.length) (by simp)) hu hd hi
 have hp2:tmps[p]?.getD undef=.pointer (some ⟨b,0,none⟩):=by rw[← hp];simp[Array.getD_eq_getD_getElem?]
 have hq2:tmps[q]?.getD undef=u:=by rw[← hq];simp[Array.getD_eq_getD_getElem?]
 simp[results,hf,hp2,hq2,asAddr,this]
theorem Own.ofBlk{α:Type}{enc:α→List Value}{T size n B g:Nat}{W:World}{D:Array Value}{l:List α}(hsz:∀ x:α,(enc x).length=size)(hn:l.length=n)(hm:n≤1000000000000)(hB:B≤g)
  (hD:D.size=n*size) (ht:D.toList=l.flatMap enc) (h:W.heap[g]?=some (.cells D T (0,0))):Own enc T size B W (some ⟨g,0,none⟩) n l:=by
 refine⟨hsz,by rw[flatMap_length hsz],.inr ⟨g,n,D,by rw[hn],hB,h,by omega,by unfold maxLen;omega,hD,?_⟩⟩
 rw[ht,hn]
 exact List.take_of_length_le (by rw[flatMap_length hsz,hn];omega)
end Go.Proofs.YtbaffippdifbpaaGreat
namespace Go.Proofs.YtbaffippdifbpaaGreat
set_option linter.unusedVariables false
open Go.ChangeShapes Go.WideShapes Go.ChangeAt Go.RowKit
def encStr(s:ByteArray):List Value:=[.string s]
theorem encStr_len(n:ByteArray):(encStr n).length=1:=rfl
theorem encStr_one(n:ByteArray):∀ u∈encStr n,u.oneCell'=true:=by intro u hu;simp[encStr]at hu;subst hu;rfl
theorem Sl.str{w:World}{a:Option Addr}{l:List ByteArray}(h:Sl encStr w a l){k:Nat}(hk:k<l.length) :
  ∃ b off s,a=some ⟨b,off,none⟩∧LtN b w.heap.size∧Hid (l.drop k=s::l.drop (k+1))∧(∀ (W:World) [Grows w W],W.cell? ⟨b,off+k,none⟩=some (.string s)):=by
 obtain⟨s,hs,hd⟩:=drop_at hk
 obtain⟨b,off,ha,hb,hc⟩:=h k s hs
 exact⟨b,off,s,ha,⟨hb⟩,hd,cell_grown hb (by simpa[encStr]using hc 0 _ rfl)⟩
def eqStr(s t:ByteArray):Bool:=s.toList == t.toList
theorem c_cloneStr{a:Option Addr}{n c:Nat}{l:List ByteArray}{w:World}(hs:Sl encStr w a l)(hn:l.length=n)(hm:n≤100000000) :
  Calls Tryz.prog 53 #[.slice a n c] w (GivesSl encStr 9 1 w l):=by
 cases a with
 | none =>
  have hl:l=[]:=by
   cases l with
   | nil=>rfl
   | cons y r=>obtain⟨b,off,h0,-⟩:=hs 0 y rfl;cases h0
  have hq:=fun(w:World)=>run_eql_slice_nil (P:=Tryz.prog) w 32 9 none n c Tryz.underlying32
  simp only[Option.isNone]at hq
  have HL:=lH hl;clear hl
  go_enter Tryz.func53,Tryz.ntmps53
  go_wp2_with (first|((with_reducible refine wp_region_later (by kernel_rfl) (by kernel_rfl) ?_);(repeat(first|go_big_quiet_step (first|fail)));refine wpQuiet_nil ?_;rintro _ ⟨x,rfl⟩))
  go_ret
  exact GivesSl.nilOf encStr_len HL.out
 | some ad =>
  have hq:=fun(w:World)=>run_eql_slice_nil (P:=Tryz.prog) w 32 9 (some ad) n c Tryz.underlying32
  simp only[Option.isNone]at hq
  go_enter Tryz.func53,Tryz.ntmps53
  go_wp2_with (first|((with_reducible refine wp_region_later (by kernel_rfl) (by kernel_rfl) ?_);(repeat(first|go_big_quiet_step (first|fail)));refine wpQuiet_nil ?_;rintro _ ⟨x,rfl⟩)|(at_builtin;refine wpList_appS (enc:=encStr) (w0:=w) (z:=.string ByteArray.empty) (size:=1) (bytes:=16) (n:=0) (l:=[]) rfl (.tmp 5) (.tmp 6) rfl Tryz.underlying32 (by kernel_rfl) rfl (by decide) (by decide) rfl rfl (fun h=>by cases h) rfl hn (Own.emptyAt encStr_len (Nat.le_refl _) rfl) (hs.to inferInstance) encStr_one (by omega) ?_;intro sa1 sc1 x1 hown1 hgr1))
  go_ret
  rw[List.nil_append]at hown1
  exact⟨sa1,sc1,by rw[hn];first|rfl|simp,hown1,Later.of⟩
end Go.Proofs.YtbaffippdifbpaaGreat
namespace Go.Proofs.YtbaffippdifbpaaGreat
set_option linter.unusedVariables false
open Go.ChangeShapes Go.WideShapes Go.ChangeAt Go.RowKit
theorem encByte_len(n:Int):(encByte n).length=1:=rfl
theorem conv_str{P:Program}{W:World}{t e d:TypeId}(ht:P.underlying t=some (.slice e))(he:P.underlying e=some (.int .u8))(hd:P.underlying d=some .string){a:Option Addr}{n c:Nat}{l:List Int}(hs:Sl encByte W a l)(hn:l.length=n)(h0:0<n) :
  ∀ W':World,[Grows W W']→(convert t d (.slice a n c)).run P W'=.ok (.string (strOfNums l)) W':=fun W' g=>by
 obtain⟨b,off,s,rfl,hb,-⟩:=hs.byte (k:=0) (by omega)
 refine run_convert_bytes_arg W' t e ht he b off n c l hn (fun i hi=>?_) d hd
 obtain⟨b2,off2,s2,hbo,hb2,hd2,g2⟩:=hs.byte (k:=i) (by omega)
 simp only[Option.some.injEq,Addr.mk.injEq,and_true]at hbo
 obtain⟨rfl,rfl⟩:=hbo
 have h1:l[i]?=some s2:=by
  have:=congrArg (fun m=>m[0]?) hd2.out
  simpa using this
 rw[g2 W',List.getD,h1];rfl
def word1(n:Int):ByteArray:=strOfNums [n % 256]
def word2(n:Int):ByteArray:=strOfNums [n / 256 % 256,n % 256]
def word3(n:Int):ByteArray:=strOfNums [n / 256 / 256 % 256,n / 256 % 256,n % 256]
@[go_sem] theorem i64_and65535(n:Int):bits .and .i64 n 65535=n % 65536:=by
 have h:(BitVec.ofInt 64 65535).toNat=2 ^ 16 - 1:=by decide
 have key:(BitVec.ofInt 64 n &&& BitVec.ofInt 64 65535).toNat=(n % ((2 ^ 64:Nat):Int)).toNat % 2 ^ 16:=by
  rw[BitVec.toNat_and,BitVec.toNat_ofInt,h,Nat.and_two_pow_sub_one_eq_mod]
 show IntKind.i64.wrap ((BitVec.ofInt 64 n &&& BitVec.ofInt 64 65535).toNat:Nat)=n % 65536
 rw[key,IntKind.wrap_i64]
 omega
theorem and_top{n:Int}(h0:0≤n)(h1:n≤65535):(bits .and .i64 n 32768 != 0)=decide (32768≤n):=by
 have h:(BitVec.ofInt 64 32768).toNat=2 ^ 15:=by decide
 have hn:(BitVec.ofInt 64 n).toNat=n.toNat:=by rw[BitVec.toNat_ofInt];omega
 have hlt:n.toNat<2 ^ 16:=by omega
 have key:(BitVec.ofInt 64 n &&& BitVec.ofInt 64 32768).toNat=if 2 ^ 15≤n.toNat then 2 ^ 15 else 0:=by
  rw[BitVec.toNat_and,hn,h]
  apply Nat.eq_of_testBit_eq
  intro i
  rw[Nat.testBit_and,Nat.testBit_two_pow]
  by_cases hc:2 ^ 15≤n.toNat
  ·rw[if_pos hc,Nat.testBit_two_pow]
   by_cases hi:15=i
   ·subst hi
    have h15:n.toNat.testBit 15=true:=by
     rw[Nat.testBit_eq_decide_div_mod_eq]
     have:n.toNat / 2 ^ 15 % 2=1:=by omega
     simp[this]
    simp[h15]
   ·simp[hi]
  ·rw[if_neg hc,Nat.zero_testBit]
   by_cases hi:15=i
   ·subst hi
    rw[Nat.testBit_lt_two_pow (by omega)];rfl
   ·simp[hi]
 have e:bits .and .i64 n 32768=(((if 2 ^ 15≤n.toNat then 2 ^ 15 else 0:Nat)):Int):=by
  show IntKind.i64.wrap ((BitVec.ofInt 64 n &&& BitVec.ofInt 64 32768).toNat:Nat)=_
  rw[key,IntKind.wrap_i64]
  split<;>omega
 rw[e]
 by_cases hc:32768≤n
 ·rw[if_pos (by omega)];simp[hc]
 ·rw[if_neg (by omega)];simp[hc]
theorem xor_bd{a b:Int}(h0:0≤a)(h1:a≤65535)(h2:0≤b)(h3:b≤65535):0≤bits .xor .i64 a b∧bits .xor .i64 a b≤65535:=by
 have ha:(BitVec.ofInt 64 a).toNat=a.toNat:=by rw[BitVec.toNat_ofInt];omega
 have hb:(BitVec.ofInt 64 b).toNat=b.toNat:=by rw[BitVec.toNat_ofInt];omega
 have key:(BitVec.ofInt 64 a ^^^ BitVec.ofInt 64 b).toNat=a.toNat ^^^ b.toNat:=by rw[BitVec.toNat_xor,ha,hb]
 have hlt:a.toNat ^^^ b.toNat<2 ^ 16:=Nat.xor_lt_two_pow (by omega) (by omega)
 have e:bits .xor .i64 a b=((a.toNat ^^^ b.toNat:Nat):Int):=by
  show IntKind.i64.wrap ((BitVec.ofInt 64 a ^^^ BitVec.ofInt 64 b).toNat:Nat)=_
  rw[key,IntKind.wrap_i64]
  omega
 rw[e]
 omega
def crcBit(n:Int):Int:=if 32768≤n then bits .xor .i64 (2*n % 65536) 4129 else 2*n
def crcBits:Nat→Int→Int
 | 0,n=>n
 | k+1,n=>crcBits k (crcBit n)
def crc:Int→List Int→Int
 | n,[]=>n
 | n,b::l=>crc (crcBits 8 (bits .xor .i64 n (256*b))) l
theorem crcBit_bd{n:Int}(h0:0≤n)(h1:n≤65535):0≤crcBit n∧crcBit n≤65535:=by
 unfold crcBit
 split
 ·exact xor_bd (by omega) (by omega) (by omega) (by omega)
 ·omega
end Go.Proofs.YtbaffippdifbpaaGreat
namespace Go.Proofs.YtbaffippdifbpaaGreat
set_option linter.unusedVariables false
open Go.ChangeShapes Go.WideShapes Go.ChangeAt Go.RowKit
def digs(k:Nat)(acc:ByteArray):ByteArray:=if h:k=0 then acc else digs (k / 10) (strOfNums [48+(k:Int) % 10]++acc)
termination_by k
decreasing_by omega
def markTx(k:Int):ByteArray:=if k≤0 then⟨#[109,48]⟩else⟨#[109]⟩++digs k.toNat ⟨#[]⟩
def mkStr(k0:Int)(i:Nat):ByteArray:=markTx (k0+i)
end Go.Proofs.YtbaffippdifbpaaGreat
