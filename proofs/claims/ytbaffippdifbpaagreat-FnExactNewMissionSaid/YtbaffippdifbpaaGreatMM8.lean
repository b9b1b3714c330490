/- The contracts of AddPair. No condition but on lengths. The laws' small helpers: at, btoi, has, big. No condition but on lengths. The contracts of DemandOf and Feasible. No condition but on lengths. The contracts of Feasible. No condition but on lengths. Blocks known whole, and what is kept while they are written. No condition. A store into one block and the cells of another, by instances. No condition. Data with depth: what a value's cells read as, through slices, in blocks from a bound on. No condition. Boxes known whole: loads and stores of many cells, by one step each. No condition. -/
import Derived.Test.YtbaffippdifbpaaGreatMSlots2
import Derived.Test.YtbaffippdifbpaaGreatMReg
import Derived.Test.YtbaffippdifbpaaGreatMMark
import Derived.Test.YtbaffippdifbpaaGreatMDraw
import Derived.Test.YtbaffippdifbpaaGreatMReq
import Derived.Test.YtbaffippdifbpaaGreatMM0
import Derived.Deep.RegionHeld3
import Derived.Deep.MidRow
import Derived.Test.YtbaffippdifbpaaGreatMVisL
import Derived.Laws.BytesArg
namespace Go.Proofs.YtbaffippdifbpaaGreat
set_option linter.unusedVariables false
open Go.ChangeShapes Go.WideShapes Go.ChangeAt Go.RowKit
end Go.Proofs.YtbaffippdifbpaaGreat
namespace Go.Proofs.YtbaffippdifbpaaGreat
set_option linter.unusedVariables false
open Go.ChangeShapes Go.WideShapes Go.ChangeAt Go.RowKit
end Go.Proofs.YtbaffippdifbpaaGreat
namespace Go.Proofs.YtbaffippdifbpaaGreat
set_option linter.unusedVariables false
open Go.ChangeShapes Go.WideShapes Go.ChangeAt Go.RowKit
theorem reqsFrom_mem:∀ {l b:List Request},reqsFrom b l=true→∀ s∈l,(0≤s.Id∧s.Id≤255)∧(0≤s.Ready∧s.Ready≤1000000)∧(s.Ready≤s.Deadline∧s.Deadline≤1000000∧s.Deadline≤s.Ready+2000)∧1≤s.Need∧s.Need≤100
 | [],_,_,s,hs=>by simp at hs
 | q::l,b,h,s,hs=>by
  simp only[reqsFrom,Bool.and_eq_true]at h
  rcases List.mem_cons.1 hs with rfl|hs
  ·have h1:=inB_iff.1 h.2.2.1
   exact⟨inB_iff.1 h.1,inB_iff.1 h.2.1,⟨by omega,by omega,by omega⟩,inB_iff.1 h.2.2.2.1⟩
  ·exact reqsFrom_mem h.2.2.2.2.2 s hs
theorem requestsOk_mem{l:List Request}(h:requestsOk l=true):l.length≤12∧∀ s∈l,(0≤s.Id∧s.Id≤255)∧(0≤s.Ready∧s.Ready≤1000000)∧(s.Ready≤s.Deadline∧s.Deadline≤1000000∧s.Deadline≤s.Ready+2000)∧1≤s.Need∧s.Need≤100:=by
 simp only[requestsOk,Bool.and_eq_true,decide_eq_true_eq]at h
 exact⟨h.1,reqsFrom_mem h.2⟩
end Go.Proofs.YtbaffippdifbpaaGreat
namespace Go.Proofs.YtbaffippdifbpaaGreat
set_option linter.unusedVariables false
open Go.ChangeShapes Go.WideShapes Go.ChangeAt Go.RowKit
end Go.Proofs.YtbaffippdifbpaaGreat
namespace Go.Proofs.YtbaffippdifbpaaGreat
set_option linter.unusedVariables false
open Go.ChangeShapes Go.WideShapes Go.ChangeAt Go.RowKit
def Held(w:World)(b:Nat)(cs:List Value)(T:TypeId):Prop:=w.heap[b]?=some (.cells cs.toArray T (0,0))
theorem Held.new(W:World)(cs:List Value)(T g:Nat)(hg:W.heap.size=g):Held (W.alloc (.cells cs.toArray T)) g cs T:=blk_alloc W _ g hg
theorem Held.to{w W:World}{b:Nat}{cs:List Value}{T:TypeId}(h:Held w b cs T)(g:Grows w W):Held W b cs T:=blk_grows (gr:=g) h
theorem Held.lt{w:World}{b:Nat}{cs:List Value}{T:TypeId}(h:Held w b cs T):b<w.heap.size:=(Array.getElem?_eq_some_iff.1 h).1
theorem Held.cell{w:World}{b:Nat}{cs:List Value}{T:TypeId}(h:Held w b cs T)(i:Nat):w.cell? ⟨b,i,none⟩=cs[i]?:=by simp[World.cell?,show w.heap[b]?=_ from h]
theorem Held.free{w:World}{b:Nat}{cs:List Value}{T:TypeId}(h:Held w b cs T)(i:Nat):w.frozen? ⟨b,i,none⟩=false:=by simp[World.frozen?,show w.heap[b]?=_ from h]
theorem Held.set{w:World}{b:Nat}{cs:List Value}{T:TypeId}(h:Held w b cs T)(i:Nat)(v:Value):Held (w.setCell ⟨b,i,none⟩ v) b (cs.set i v) T:=by
 have h':w.heap[b]?=some (.cells cs.toArray T (0,0)):=h
 unfold Held World.setCell
 simp[Array.getElem?_modify,h']
theorem Own.notHeld{α:Type}{enc:α→List Value}{T T' size B n:Nat}{w:World}{a:Option Addr}{c b:Nat}{l:List α}{cs:List Value}(h:Own enc T size B w a c l)(hb:Held w b cs T')(hT:T≠T'):some b≠Value.ownBlock (.slice a n c):=by
 obtain⟨-,-,⟨h1,-⟩|⟨g,cap,cur,hv,-,hh,-⟩⟩:=h
 ·simp only[Value.slice.injEq]at h1;obtain⟨rfl,-⟩:=h1;simp[Value.ownBlock]
 ·simp only[Value.slice.injEq]at hv;obtain⟨rfl,-⟩:=hv
  simp only[Value.ownBlock,ne_eq,Option.some.injEq]
  rintro rfl
  have hb':w.heap[b]?=some (.cells cs.toArray T' (0,0)):=hb
  rw[hb']at hh
  simp only[Option.some.injEq,Obj.cells.injEq]at hh
  exact hT hh.2.1.symm
theorem Held.kept{α:Type}{enc:α→List Value}{T T' size B n:Nat}{w w':World}{a:Option Addr}{c b:Nat}{l:List α}{cs:List Value}(hb:Held w b cs T')(h:Own enc T size B w a c l)(hT:T≠T')(hg:w.grownBy w' (Value.ownBlock (.slice a n c))):Held w' b cs T' :=
 blk_grown hg hb (h.notHeld hb hT)
theorem Own.set{α:Type}{enc:α→List Value}{T T' size B:Nat}{w:World}{a:Option Addr}{c b:Nat}{l:List α}{cs:List Value}(h:Own enc T size B w a c l)(hb:Held w b cs T')(hT:T≠T')(i:Nat)(v:Value):Own enc T size B (w.setCell ⟨b,i,none⟩ v) a c l:=by
 refine⟨h.1,h.2.kept (row:=some b) ⟨rfl,rfl,rfl,by simp,fun k hk hr=>?_⟩ (.inr (fun e=>h.notHeld (n:=l.length) hb hT e.symm))⟩
 rw[Below.heap_setCell _ _ _ _ (fun e=>hr (by simp only at e;rw[e]))]
theorem Held.cellG{w:World}{b:Nat}{cs:List Value}{T:TypeId}(h:Held w b cs T)(i:Nat)(v:Value)(hv:cs[i]?=some v):∀ (W:World) [Grows w W],W.cell? ⟨b,i,none⟩=some v:=fun W g=>by rw[(h.to g).cell i];exact hv
theorem okWide_struct{P:Program}{w:World}{r:Reach}{base:Nat}{t:TypeId}{v:Value}{fs:Array Field}(ht:P.underlying t=some (.struct fs))(h:Value.okWide P w r base t v):∃ cs,v=.agg cs∧cs.size=P.cellsOf t:=by
 simp only[Value.okWide,ht]at h
 obtain⟨cs,h1,h2,-⟩:=h
 exact⟨cs,h1,h2⟩
/-! ### Slices of numbers -/
end Go.Proofs.YtbaffippdifbpaaGreat
namespace Go.Proofs.YtbaffippdifbpaaGreat
set_option linter.unusedVariables false
open Go.ChangeShapes Go.WideShapes Go.ChangeAt Go.RowKit
class NeN(a b:Nat):Prop where
 out:a≠b
instance(priority:=60) NeN.ofLt (a b:Nat)[h:LtN a b]:NeN a b:=⟨Nat.ne_of_lt h.out⟩
instance(priority:=55) NeN.ofGt (a b:Nat)[h:LtN b a]:NeN a b:=⟨Nat.ne_of_gt h.out⟩
theorem cell_farH(W:World)(b i b' j:Nat)(v:Value)(h:b≠b'):(W.setCell ⟨b,i,none⟩ v).cell? ⟨b',j,none⟩=W.cell? ⟨b',j,none⟩:=World.cell?_setCell_far W ⟨b,i,none⟩ ⟨b',j,none⟩ v h
@[go_sem] theorem cell_farN(W:World)(b i b' j:Nat)(v:Value)[h:NeN b b']:(W.setCell ⟨b,i,none⟩ v).cell? ⟨b',j,none⟩=W.cell? ⟨b',j,none⟩:=cell_farH W b i b' j v h.out
namespace Later
variable {W:World}
@[go_sem] theorem set_cell_far(x:Later W)(b i b' j:Nat)(v:Value)[h:NeN b b']:(x.set ⟨b,i,none⟩ v).w.cell? ⟨b',j,none⟩=x.w.cell? ⟨b',j,none⟩:=cell_farH x.w b i b' j v h.out
@[go_sem] theorem set_frozen(x:Later W)(b i:Nat)(v:Value)(p:Addr):(x.set ⟨b,i,none⟩ v).w.frozen? p=x.w.frozen? p:=by simp[Later.set]
end Later
instance Grows.setL(a:World){W:World}(x:Later W)(b i:Nat)(v:Value)[h:Grows a x.w][k:LeN a.heap.size b]:Grows a (x.set ⟨b,i,none⟩ v).w:=⟨h.out.setCell k.out v⟩
class SzN(g:Nat)(W:World):Prop where
 out:W.heap.size=g
instance SzN.same(W:World):SzN W.heap.size W:=⟨rfl⟩
instance SzN.set(g:Nat){W:World}(x:Later W)(p:Addr)(v:Value)[h:SzN g x.w]:SzN g (x.set p v).w:=⟨by have:=h.out;simpa[Later.set]using this⟩
instance SzN.setCell(g:Nat)(W:World)(p:Addr)(v:Value)[h:SzN g W]:SzN g (W.setCell p v):=⟨by have:=h.out;simpa using this⟩
instance SzN.drew(g:Nat)(W:World)[h:SzN g W]:SzN g W.drew:=⟨h.out⟩
@[go_sem] theorem cell_newN(W:World)(C:Array Value)(T:TypeId)(g i:Nat)[h:SzN g W]:(W.alloc (.cells C T)).cell? ⟨g,i,none⟩=C[i]?:=by
 have:=blk_alloc W (.cells C T) g h.out
 simp[World.cell?,this]
@[go_sem] theorem frozen_newN(W:World)(C:Array Value)(T:TypeId)(g i:Nat)[h:SzN g W]:(W.alloc (.cells C T)).frozen? ⟨g,i,none⟩=false:=by
 have:=blk_alloc W (.cells C T) g h.out
 simp[World.frozen?,this]
end Go.Proofs.YtbaffippdifbpaaGreat
namespace Go.Proofs.YtbaffippdifbpaaGreat
set_option linter.unusedVariables false
open Go.ChangeShapes Go.WideShapes Go.ChangeAt Go.RowKit
class Keeps(B:Nat)(w w':World):Prop where
 size:w.heap.size≤w'.heap.size
 block:∀ b,B≤b→b<w.heap.size→w'.heap[b]?=w.heap[b]?
instance(priority:=2000) Keeps.same (B:Nat)(w:World):Keeps B w w:=⟨Nat.le_refl _,fun _ _ _=>rfl⟩
theorem Keeps.trans{B:Nat}{a b c:World}(h:Keeps B a b)(k:Keeps B b c):Keeps B a c:=⟨Nat.le_trans h.size k.size,fun i h1 h2=>(k.block i h1 (Nat.lt_of_lt_of_le h2 h.size)).trans (h.block i h1 h2)⟩
theorem Keeps.later'{B:Nat}{w W:World}(h:Keeps B w W)(x:Later W):Keeps B w x.w:=h.trans ⟨x.h.size,fun b _ h2=>x.h.block b h2⟩
instance(priority:=1500) Keeps.andThenSelf (B:Nat){W:World}(x:Later W)(y:Later x.w):Keeps B y.w (x.andThen y).w:=⟨Nat.le_refl _,fun _ _ _=>rfl⟩
instance(priority:=1400) Keeps.andThenMid (B:Nat){W:World}(x:Later W)(y:Later x.w):Keeps B x.w (x.andThen y).w:=⟨y.h.size,fun b _ h2=>y.h.block b h2⟩
instance(priority:=1300) Keeps.andThen (B:Nat)(a:World){W:World}(x:Later W)(y:Later x.w)[h:Keeps B a x.w]:Keeps B a (x.andThen y).w:=h.later' y
instance(priority:=1200) Keeps.drawn (B:Nat)(a:World){W:World}(x:Later W)[h:Keeps B a x.w]:Keeps B a x.draw.w:=⟨h.size,h.block⟩
instance(priority:=1200) Keeps.drew (B:Nat)(a w:World)[h:Keeps B a w]:Keeps B a w.drew:=⟨h.size,h.block⟩
theorem Keeps.set'{B:Nat}{a w:World}(h:Keeps B a w)(b i:Nat)(v:Value)(k:b<B):Keeps B a (w.setCell ⟨b,i,none⟩ v):=⟨by simpa using h.size,fun c h1 h2=>by
 rw[Below.heap_setCell _ _ _ _ (fun e=>by simp only at e;omega)];exact h.block c h1 h2⟩
instance(priority:=1200) Keeps.setCell (B:Nat)(a w:World)(b i:Nat)(v:Value)[h:Keeps B a w][k:LtN b B]:Keeps B a (w.setCell ⟨b,i,none⟩ v):=h.set' b i v k.out
instance(priority:=1200) Keeps.setL (B:Nat)(a:World){W:World}(x:Later W)(b i:Nat)(v:Value)[h:Keeps B a x.w][k:LtN b B]:Keeps B a (x.set ⟨b,i,none⟩ v).w:=h.set' b i v k.out
instance(priority:=1250) Keeps.setL8 (B:Nat)(a:World){W:World}(x:Later W)(b i0 i1 i2 i3 i4 i5 i6 i7:Nat)(v0 v1 v2 v3 v4 v5 v6 v7:Value)[h:Keeps B a x.w][k:LtN b B]:Keeps B a ((((((((x.set ⟨b,i0,none⟩ v0).set ⟨b,i1,none⟩ v1).set ⟨b,i2,none⟩ v2).set ⟨b,i3,none⟩ v3).set ⟨b,i4,none⟩ v4).set ⟨b,i5,none⟩ v5).set ⟨b,i6,none⟩ v6).set ⟨b,i7,none⟩ v7).w :=
 (((((((h.set' b i0 v0 k.out).set' b i1 v1 k.out).set' b i2 v2 k.out).set' b i3 v3 k.out).set' b i4 v4 k.out).set' b i5 v5 k.out).set' b i6 v6 k.out).set' b i7 v7 k.out
instance(priority:=1200) Keeps.alloc (B:Nat)(a w:World)(o:Obj)[h:Keeps B a w]:Keeps B a (w.alloc o):=⟨by have:=h.size;simp;omega,fun b h1 h2=>by rw[Below.heap_alloc _ _ _ (Nat.lt_of_lt_of_le h2 h.size)];exact h.block b h1 h2⟩
instance(priority:=1000) Keeps.later (B:Nat)(a:World){W:World}(x:Later W)[h:Keeps B a W]:Keeps B a x.w:=h.later' x
instance(priority:=100) Keeps.grows (B:Nat)(w W:World)[h:Grows w W]:Keeps B w W:=⟨h.out.size,fun b _ h2=>h.out.block b h2⟩
class Enc(α:Type) where
 size:Nat
 Rd:Nat→World→List Value→α→Prop
 len:∀ {B w vs x},Rd B w vs x→vs.length=size
 keep:∀ {B w w' vs x},Rd B w vs x→Keeps B w w'→Rd B w' vs x
 mono:∀ {B B' w vs x},Rd B w vs x→B'≤B→Rd B' w vs x
 tot:α→Int
 tot_nonneg:∀ x,0≤tot x
def totL{α:Type}[Enc α]:List α→Int
 | []=>0
 | x::r=>1+Enc.tot x+totL r
theorem totL_len{α:Type}[Enc α](l:List α):(l.length:Int)≤totL l:=by
 induction l with
 | nil=>simp[totL]
 | cons x r ih=>have:=Enc.tot_nonneg x;simp only[totL,List.length_cons];omega
theorem totL_nonneg{α:Type}[Enc α](l:List α):0≤totL l:=by have:=totL_len l;omega
theorem totL_mem{α:Type}[Enc α]{l:List α}{x:α}(h:x∈l):Enc.tot x≤totL l:=by
 induction l with
 | nil=>cases h
 | cons y r ih =>
  have h1:=totL_nonneg r;have h2:=Enc.tot_nonneg y
  simp only[totL]
  rcases List.mem_cons.1 h with rfl|h
  ·omega
  ·have:=ih h;omega
def RdS{α:Type}[E:Enc α](B:Nat)(w:World)(a:Option Addr)(c:Nat)(l:List α):Prop :=
 l.length≤c∧c≤maxLen∧(a=none→c=0)∧∀ (i:Nat) (x:α),l[i]?=some x→∃ b off vs,a=some ⟨b,off,none⟩∧B≤b∧b<w.heap.size∧E.Rd B w vs x∧∀ (j:Nat) (u:Value),vs[j]?=some u→w.cell? ⟨b,off+i*E.size+j,none⟩=some u
section
variable {α:Type} [E:Enc α] {B:Nat} {w:World} {a:Option Addr} {c:Nat} {l:List α}
theorem RdS.max(h:RdS B w a c l):l.length≤9223372036854775807:=by have h1:=h.1;have h2:=h.2.1;unfold maxLen at h2;omega
theorem RdS.nilcap(h:RdS B w a c l):a=none→c=0:=h.2.2.1
theorem RdS.keep{w':World}(h:RdS B w a c l)(k:Keeps B w w'):RdS B w' a c l:=by
 refine⟨h.1,h.2.1,h.2.2.1,fun i x hx=>?_⟩
 obtain⟨b,off,vs,rfl,h1,h2,h3,h4⟩:=h.2.2.2 i x hx
 exact⟨b,off,vs,rfl,h1,Nat.lt_of_lt_of_le h2 k.size,E.keep h3 k,fun j u hu=>by rw[World.cell?_of_block (w:=w) (k.block b h1 h2)];exact h4 j u hu⟩
theorem RdS.mono{B':Nat}(h:RdS B w a c l)(k:B'≤B):RdS B' w a c l:=by
 refine⟨h.1,h.2.1,h.2.2.1,fun i x hx=>?_⟩
 obtain⟨b,off,vs,rfl,h1,h2,h3,h4⟩:=h.2.2.2 i x hx
 exact⟨b,off,vs,rfl,by omega,h2,E.mono h3 k,h4⟩
theorem RdS.to{w':World}(h:RdS B w a c l)(g:Keeps B w w'):RdS B w' a c l:=h.keep g
theorem RdS.nil:RdS B w none 0 ([]:List α):=⟨Nat.le_refl _,by unfold maxLen;omega,fun _=>rfl,fun i x h=>by simp at h⟩
theorem RdS.at(h:RdS B w a c l){k:Nat}(hk:k<l.length):∃ b off x vs,a=some ⟨b,off,none⟩∧LtN b w.heap.size∧Hid (l.drop k=x::l.drop (k+1))∧E.Rd B w vs x∧∀ (j:Nat) (u:Value),vs[j]?=some u→w.cell? ⟨b,off+k*E.size+j,none⟩=some u:=by
 obtain⟨x,hx,hd⟩:=drop_at hk
 obtain⟨b,off,vs,h0,-,h2,h3,h4⟩:=h.2.2.2 k x hx
 exact⟨b,off,x,vs,h0,⟨h2⟩,hd,h3,h4⟩
end
def GivesD{α:Type}[E:Enc α](w:World)(x:α):Ending→World→Prop:=fun e w'=>∃ vs:List Value,e=.returned (.agg vs.toArray)∧E.Rd w.heap.size w' vs x∧∃ y:Later w,w'=y.w
instance Enc.int:Enc Int where
 size:=1
 Rd _ _ vs n:=vs=[.int .i64 n]∧i64 n
 len h:=by rw[h.1];rfl
 keep h _:=h
 mono h _:=h
 tot _:=0
 tot_nonneg _:=Int.le_refl _
instance Enc.bool:Enc Bool where
 size:=1
 Rd _ _ vs b:=vs=[.bool b]
 len h:=by rw[h];rfl
 keep h _:=h
 mono h _:=h
 tot _:=0
 tot_nonneg _:=Int.le_refl _
instance Enc.str:Enc ByteArray where
 size:=1
 Rd _ _ vs s:=vs=[.string s]∧s.size≤9223372036854775807
 len h:=by rw[h.1];rfl
 keep h _:=h
 mono h _:=h
 tot s:=s.size
 tot_nonneg _:=by omega
/-! ### A block that is filled row by row -/
def RowsIn{α:Type}[E:Enc α](B:Nat)(w:World)(D:Array Value)(l:List α):Prop:=∀ (i:Nat) (x:α),l[i]?=some x→∃ vs,E.Rd B w vs x∧∀ (j:Nat) (u:Value),vs[j]?=some u→D[i*E.size+j]?=some u
def putAt(D:Array Value)(p j:Nat):List Value→Array Value
 | []=>D
 | v::r=>putAt (D.setIfInBounds (p+j) v) p (j+1) r
theorem putAt_low:∀ (vs:List Value) (D:Array Value) (p j i:Nat),i<p+j→(putAt D p j vs)[i]?=D[i]?
 | [],D,p,j,i,h=>rfl
 | v::r,D,p,j,i,h=>by
  rw[putAt,putAt_low r _ _ _ _ (by omega),Array.getElem?_setIfInBounds_ne (by omega)]
theorem putAt_new:∀ (vs:List Value) (D:Array Value) (p j:Nat),p+j+vs.length≤D.size→∀ (i:Nat) (u:Value),vs[i]?=some u→(putAt D p j vs)[p+j+i]?=some u
 | [],D,p,j,h,i,u,hu=>by simp at hu
 | v::r,D,p,j,h,0,u,hu=>by
  simp only[List.getElem?_cons_zero,Option.some.injEq]at hu
  subst hu
  simp only[List.length_cons]at h
  show(putAt (D.setIfInBounds (p+j) v) p (j+1) r)[p+j]?=some v
  rw[putAt_low r _ _ _ _ (by omega),Array.getElem?_setIfInBounds_self_of_lt (by omega)]
 | v::r,D,p,j,h,i+1,u,hu=>by
  simp only[List.length_cons]at h
  have:=putAt_new r (D.setIfInBounds (p+j) v) p (j+1) (by simp;omega) i u (by simpa using hu)
  rw[putAt,← this];congr 1;omega
theorem RowsIn.nil{α:Type}[E:Enc α]{B:Nat}{w:World}{D:Array Value}:RowsIn B w D ([]:List α):=fun i x h=>by simp at h
theorem RowsIn.put{α:Type}[E:Enc α]{B n k:Nat}{W W':World}{D:Array Value}{l r:List α}{x:α}{vs:List Value}(h:RowsIn B W D (l.take k))(hd:l.drop k=x::r)(hk:k<n)(hl:l.length=n)(hD:D.size=n*E.size)(hR:E.Rd B W' vs x)(g:Keeps B W W') :
  RowsIn B W' (putAt D (k*E.size) 0 vs) (l.take (k+1)):=by
 have hkx:l[k]?=some x:=by
  have:=congrArg (fun m=>m[0]?) hd
  simpa using this
 have hle:k*E.size+E.size≤n*E.size:=by rw[← Nat.succ_mul];exact Nat.mul_le_mul_right _ hk
 intro i y hy
 by_cases hi:i<k
 ·obtain⟨us,h1,h2⟩:=h i y (by rw[List.getElem?_take_of_lt (by omega)]at hy;rw[List.getElem?_take_of_lt hi];exact hy)
  refine⟨us,E.keep h1 g,fun j u hu=>?_⟩
  have hj:j<E.size:=by rw[← E.len h1];exact(List.getElem?_eq_some_iff.1 hu).1
  have:(i+1)*E.size≤k*E.size:=Nat.mul_le_mul_right _ hi
  rw[Nat.succ_mul]at this
  rw[putAt_low _ _ _ _ _ (by omega)];exact h2 j u hu
 ·have hik:i=k:=by
   have:=(List.getElem?_eq_some_iff.1 hy).1
   simp at this;omega
  subst hik
  rw[List.getElem?_take_of_lt (by omega),hkx]at hy
  cases hy
  refine⟨vs,hR,fun j u hu=>?_⟩
  exact putAt_new vs D _ 0 (by rw[E.len hR];omega) j u hu
theorem openS{α:Type}[E:Enc α]{w:World}{es:List Cd}{v:Value}(hs:E.size=es.length)(hf:∀ vs,vs.length=es.length→RdL w es vs→∃ x:α,E.Rd 0 w vs x)(h:RdC w (.sl es) v) :
  ∃ a c l,v=.slice a l.length c∧RdS (α:=α) 0 w a c l:=by
 cases h with
 | nil=>exact⟨none,0,[],rfl,RdS.nil⟩
 | @sl _ a n c U h0 h1 h2 h3 h4 =>
  have:∀ i,i<n→∃ x:α,∃ vs,E.Rd 0 w vs x∧vs=(List.range es.length).map (U i):=fun i hi=>by
   obtain⟨x,hx⟩:=hf ((List.range es.length).map (U i)) (by simp) (fun j e hj=>by
    have hj':j<es.length:=(List.getElem?_eq_some_iff.1 hj).1
    exact⟨U i j,by simp[hj'],h4 i hi j e hj⟩)
   exact⟨x,_,hx,rfl⟩
  obtain⟨l,hl,hp⟩:=choose_list n this
  refine⟨some a,c,l,by rw[hl],by rw[hl];exact h1,h2,(by intro e;cases e),fun i x hx=>?_⟩
  obtain⟨vs,hR,rfl⟩:=hp i x hx
  have hi:i<n:=by rw[← hl];exact(List.getElem?_eq_some_iff.1 hx).1
  obtain⟨b,off,rfl,hb,-⟩:=h3 i hi 0 h0
  refine⟨b,off,_,rfl,Nat.zero_le _,hb,hR,fun j u hu=>?_⟩
  have hj:j<es.length:=by have:=(List.getElem?_eq_some_iff.1 hu).1;simpa using this
  simp[hj]at hu
  subst hu
  obtain⟨b',off',hbo,-,h6⟩:=h3 i hi j hj
  simp only[Addr.mk.injEq,and_true]at hbo
  obtain⟨rfl,rfl⟩:=hbo
  rw[hs,Nat.add_assoc];exact h6
theorem openStr{w:World}(vs:List Value)(hl:vs.length=1)(h:RdL w [.str] vs):∃ x:ByteArray,Enc.Rd 0 w vs x:=by
 obtain⟨u0,g0,r0⟩:=h.at (j:=0) rfl
 obtain⟨x0,rfl,p0⟩:=r0.str_inv
 refine⟨x0,list_all hl ?_,by unfold maxLen at p0;omega⟩
 intro j y hy
 match j,hy with
 | 0,hy=>cases hy;exact g0
def szD(left:Int)(t:Int):Int:=if left - t<0 then -1 else left - t
theorem szD_neg{l t:Int}(h:l - t<0):szD l t=-1:=if_pos h
theorem szD_pos{l t:Int}(h:¬ l - t<0):szD l t=l - t:=if_neg h
end Go.Proofs.YtbaffippdifbpaaGreat
namespace Go.Proofs.YtbaffippdifbpaaGreat
set_option linter.unusedVariables false
open Go.ChangeShapes Go.WideShapes Go.ChangeAt Go.RowKit
def splice:List Value→Nat→List Value→List Value
 | cs,_,[]=>cs
 | cs,o,v::r=>splice (cs.set o v) (o+1) r
theorem Held.setCells{b:Nat}{T:TypeId}:∀ (us:List Value) {w:World} {cs:List Value} (o:Nat),Held w b cs T→Held (w.setCells b o us) b (splice cs o us) T
 | [],_,_,_,h=>h
 | v::r,_,_,o,h=>(h.set o v).setCells r (o+1)
theorem below_setCells{B b:Nat}(hb:B≤b):∀ (us:List Value) {a w:World} (o:Nat),Below B a w→Below B a (w.setCells b o us)
 | [],_,_,_,h=>h
 | v::r,_,_,o,h=>below_setCells hb r (o+1) (h.setCell hb v)
theorem Held.range{w:World}{b:Nat}{cs row:List Value}{T:TypeId}(h:Held w b cs T){o n:Nat}(hr:(cs.drop o).take n=row):w.rangeAt b o row:=fun j v hv=>by
 rw[h.cell,← hv,← hr]
 have hj:j<n:=by
  have:=(List.getElem?_eq_some_iff.1 hv).1
  rw[← hr]at this
  simp at this;omega
 rw[List.getElem?_take_of_lt hj,List.getElem?_drop]
theorem Held.there{w:World}{b:Nat}{cs:List Value}{T:TypeId}(h:Held w b cs T){o n:Nat}(hn:o+n≤cs.length):w.there b o n:=fun j hj=>by
 rw[h.cell,h.free,List.getElem?_eq_getElem (by omega)]
 exact⟨rfl,rfl⟩
section
variable {P:Program} {ops:Array Oper} {rest:List Oper} {op:Oper} {a:Act} {w:World} {Q:Exit→Act→World→Prop}
theorem run_storeVar_held{b o ty:Nat}{v:Value}{us:List Value}(hv:v.cells.toList=us)(ht:w.there b o us.length)(hi:(P.info? ty).map (·.size)=some us.length)(h1:∀ u∈us,u.oneCell'=true) :
  (storeVar ty ⟨b,o,none⟩ v).run P w=.ok () (w.setCells b o us):=by
 have:=run_storeCells_cells (P:=P) b o us 0 w (fun j hj=>by simpa using(ht j hj).1) (fun j hj=>by simpa using(ht j hj).2) h1
 have hvs:v.cells.size=us.length:=by rw[← hv,Array.length_toList]
 cases hq:P.info? ty with
 | none=>simp[hq]at hi
 | some i =>
  have hs:us.length=i.size:=by simp[hq]at hi;omega
  simp only[Nat.add_zero]at this
  simp[storeVar,sizeOf,typeInfo,hq,hvs,hs,hv,this]
theorem stepLoad(hgd:op.guard=none)(ty:TypeId)(x:Operand)(ho:op.op=.load ty x)(b o:Nat)(hx:a.eval x=.pointer (some ⟨b,o,none⟩)){cs row:List Value}{T:TypeId}(H:Held w b cs T)
  (d:TypeDesc) (hu:P.underlying ty=some d) (hd:d.isRow=true) (hi:(P.info? ty).map (·.size)=some row.length) (hr:(cs.drop o).take row.length=row)
  (h:wpList P ops Q rest (a.put op.dst (.agg row.toArray)) w):wpList P ops Q (op::rest) a w :=
 wpList_load_mid hgd ty x ho b o hx row d (H.range hr) hu hd hi h
end
end Go.Proofs.YtbaffippdifbpaaGreat
namespace Go.Proofs.YtbaffippdifbpaaGreat
set_option linter.unusedVariables false
open Go.ChangeShapes Go.WideShapes Go.ChangeAt Go.RowKit
structure But(b:Nat)(w w':World):Prop where
 size:w.heap.size≤w'.heap.size
 block:∀ k,k≠b→k<w.heap.size→w'.heap[k]?=w.heap[k]?
theorem But.setCells{b:Nat}:∀ (us:List Value) {a w:World} (o:Nat),But b a w→But b a (w.setCells b o us)
 | [],_,_,_,h=>h
 | v::r,_,w,o,h=>But.setCells r (o+1) ⟨by simpa using h.size,fun k h1 h2=>by
  rw[Below.heap_setCell _ _ _ _ (fun e=>h1 (by simpa using e))];exact h.block k h1 h2⟩
theorem But.above{b:Nat}{w w':World}(h:But b w w'):Keeps (b+1) w w':=⟨h.size,fun k h1 h2=>h.block k (by omega) h2⟩
section
variable {P:Program} {ops:Array Oper} {rest:List Oper} {op:Oper} {a:Act} {w:World} {Q:Exit→Act→World→Prop}
theorem stepStore2(hgd:op.guard=none)(ty:TypeId)(x y:Operand)(ho:op.op=.store ty x y)(b o:Nat)(hx:a.eval x=.pointer (some ⟨b,o,none⟩)){cs us cs2:List Value}{T:TypeId}(H:Held w b cs T)
  (hv:(a.eval y).cells.toList=us) (hi:(P.info? ty).map (·.size)=some us.length) (h1:us.all (·.oneCell')=true) (hl:o+us.length≤cs.length) (hcs:splice cs o us=cs2) {w0:World} (g:Grows w0 w) (hb:w0.heap.size≤b)
  (h:∀ z:Later w0,Held z.w b cs2 T→But b w z.w→wpList P ops Q rest (a.put op.dst undef) z.w):wpList P ops Q (op::rest) a w:=by
 subst hcs
 refine wpList_plain hgd fun _ hK=>?_
 unfold Oper.wp execOp
 simp only[ho,hx,Instr.storeAt,Instr.sureAddr,Sem.run_bind,Sem.run_pure,Result.andThen_ok,run_storeVar_held hv (H.there hl) hi (fun u hu=>List.all_eq_true.1 h1 u hu)]
 exact hK _ _ (h ⟨_,below_setCells hb us o g.out⟩ (H.setCells us o) (But.setCells us o ⟨Nat.le_refl _,fun _ _ _=>rfl⟩))
end
theorem splice_pre:∀ (us pre post:List Value),us.length=post.length→splice (pre++post) pre.length us=pre++us
 | [],pre,post,h=>by
  have:post=[]:=List.length_eq_zero_iff.1 h.symm
  subst this;rfl
 | v::r,pre,[],h=>by simp at h
 | v::r,pre,u::post,h=>by
  have:=splice_pre r (pre++[v]) post (by simpa using h)
  rw[splice]
  rw[List.set_append_right _ _ (Nat.le_refl _),Nat.sub_self,List.set_cons_zero]
  simpa using this
theorem splice_all{cs us:List Value}(h:us.length=cs.length):splice cs 0 us=us:=splice_pre us [] cs h
end Go.Proofs.YtbaffippdifbpaaGreat
namespace Go.Proofs.YtbaffippdifbpaaGreat
set_option linter.unusedVariables false
open Go.ChangeShapes Go.WideShapes Go.ChangeAt Go.RowKit
def countSeg(n:Int):Int:=if inB n 0 600=true then(n+23) / 24 else 0
theorem countSeg_bd(n:Int):0≤countSeg n∧countSeg n≤25:=by
  unfold countSeg
  split
  · rename_i h;have:=inB_iff.1 h;omega
  · omega
def allB(lo hi:Int):List Int→Bool
  | []=>true
  | x::r=>inB x lo hi && allB lo hi r
def fileOutOk(f:Int)(size:Int)(q:List Int):Bool:=inB f 0 7 && (decide (size≤600) && (decide ((q.length:Int)≤1000) && allB (-1) (countSeg size - 1) q))
theorem c_iCountSegments{n:Int}{w:World}:Calls Tryz.prog 231 #[.int .i64 n] w (Gives w (.int .i64 (countSeg n))):=by
  cases h:inB n 0 600
  · go_enter Tryz.func231,Tryz.ntmps231
    go_wp2_with (first|(go_at_call 127;refine(c_ibetween).mono ?_;rintro _ _ ⟨rfl,x,rfl⟩))
    go_ret
    exact Gives.mk (by simp[countSeg,h])
  · have⟨h1,h2⟩:=inB_iff.1 h
    go_enter Tryz.func231,Tryz.ntmps231
    go_wp2_with (first|(go_at_call 127;refine(c_ibetween).mono ?_;rintro _ _ ⟨rfl,x,rfl⟩))
    go_ret
    exact Gives.mk (by simp[countSeg,h];omega)
theorem c_sCountSegments{n:Int}{w:World}:Calls Tryz.prog 228 #[.int .i64 n] w (Gives w (.int .i64 (countSeg n))):=by
  cases h:inB n 0 600
  · go_enter Tryz.func228,Tryz.ntmps228
    go_wp2_with (first|(go_at_call 151;refine(c_sl01In).mono ?_;rintro _ _ ⟨rfl,x,rfl⟩))
    go_ret
    exact Gives.mk (by simp[countSeg,h])
  · have⟨h1,h2⟩:=inB_iff.1 h
    go_enter Tryz.func228,Tryz.ntmps228
    go_wp2_with (first|(go_at_call 151;refine(c_sl01In).mono ?_;rintro _ _ ⟨rfl,x,rfl⟩))
    go_ret
    exact Gives.mk (by simp[countSeg,h];omega)
theorem c_iallBetween{a:Option Addr}{n c:Nat}{lo hi:Int}{l:List Int}{w:World}(hs:Sl encInt w a l:=by first|assumption|(apply Sl.to<;>first|assumption|infer_instance)|omega)(hn:l.length=n:=by first|assumption|(apply Sl.to<;>first|assumption|infer_instance)|omega)(hm:n≤4611686018427387904:=by first|assumption|(apply Sl.to<;>first|assumption|infer_instance)|omega) :
    Calls Tryz.prog 233 #[.slice a n c,.int .i64 lo,.int .i64 hi] w (Gives w (.bool (allB lo hi l))):=by
  go_enter Tryz.func233,Tryz.ntmps233
  go_wp2_with fail
  go_loopw [11] (fun v wr=>∃ k:Nat,v=.int .i64 k∧k≤n∧Hid (allB lo hi (l.drop k)=allB lo hi l)∧∃ x:Later w,wr=x.w) (fun v _=>(n - intOf v).toNat)
  case atStart=>exact⟨0,rfl,by omega,rfl,Later.of⟩
  case round =>
    obtain⟨k,rfl,hk,hf,x,rfl⟩:=hrel
    by_cases h:k<n
    · obtain⟨b,off,s,rfl,hb,hd,h0⟩:=hs.int (show k<l.length by omega)
      cases c1:inB s lo hi
      · go_wp2_with (first|(go_at_call 127;refine(c_ibetween).mono ?_;rintro _ _ ⟨rfl,x,rfl⟩))
        go_ret
        exact Gives.mk (by have:=hf.out;rw[hd.out,allB,c1]at this;rw[← this];rfl)
      · go_wp2_with (first|(go_at_call 127;refine(c_ibetween).mono ?_;rintro _ _ ⟨rfl,x,rfl⟩))
        go_roundw
        case rel=>exact⟨k+1,by go_num,by omega,by have:=hf.out;rw[hd.out,allB,c1]at this;exact this,Later.of⟩
        case measure=>simp[intOf];omega
    · go_wp2_with fail
      go_ret
      exact Gives.mk (by have:=hf.out;rw[List.drop_of_length_le (by omega),allB]at this;rw[← this];rfl)
set_option maxRecDepth 100000 in
set_option maxHeartbeats 2000000 in
theorem c_iFileOutOk{a:Option Addr}{n c:Nat}{f:Int}{s:ByteArray}{d:Bool}{q:List Int}{w:World}(hs:Sl encInt w a q)(hn:q.length=n)(hm:n≤4611686018427387904)(hsz:s.size≤100000000) :
    Calls Tryz.prog 238 #[.agg #[.int .i64 f,.string s,.slice a n c,.bool d]] w (Gives w (.bool (fileOutOk f s.size q))):=by
  have HF:=lH (show fileOutOk f s.size q=(inB f 0 7 && (decide ((s.size:Int)≤600) && (decide ((n:Int)≤1000) && allB (-1) (countSeg s.size - 1) q)))by rw[fileOutOk,hn])
  have hc:=countSeg_bd s.size
  cases c1:inB f 0 7
  · go_enter Tryz.func238,Tryz.ntmps238
    go_wp2_with (first|(go_at_call 127;refine(c_ibetween).mono ?_;rintro _ _ ⟨rfl,x,rfl⟩))
    go_ret
    exact Gives.mk (by rw[HF.out,c1];rfl)
  by_cases h2:600<s.size
  · go_enter Tryz.func238,Tryz.ntmps238
    go_wp2_with (first|(go_at_call 127;refine(c_ibetween).mono ?_;rintro _ _ ⟨rfl,x,rfl⟩))
    go_ret
    exact Gives.mk (by rw[HF.out];have:decide ((s.size:Int)≤600)=false:=by simp;omega
                       simp[this])
  by_cases h3:1000<n
  · go_enter Tryz.func238,Tryz.ntmps238
    go_wp2_with (first|(go_at_call 127;refine(c_ibetween).mono ?_;rintro _ _ ⟨rfl,x,rfl⟩))
    go_ret
    exact Gives.mk (by rw[HF.out];have:decide ((n:Int)≤1000)=false:=by simp;omega
                       simp[this])
  · have d2:decide ((s.size:Int)≤600)=true:=by simp;omega
    have d3:decide ((n:Int)≤1000)=true:=by simp;omega
    have HD:=lH (And.intro d2 d3);clear d2 d3
    go_enter Tryz.func238,Tryz.ntmps238
    go_wp2_with (first|((with_reducible refine wp_region_later (by kernel_rfl) (by kernel_rfl) ?_);(repeat(first|go_big_quiet_step (first|(go_at_call 127;exact Gives.quiet (c_ibetween))|(go_at_call 231;exact Gives.quiet (c_iCountSegments))|(go_at_call 233;exact Gives.quiet (c_iallBetween)))|simp only[c1]));refine wpQuiet_nil ?_;rintro _ ⟨x,rfl⟩)|(go_at_call 127;refine(c_ibetween).mono ?_;rintro _ _ ⟨rfl,x,rfl⟩)|(go_at_call 231;refine(c_iCountSegments).mono ?_;rintro _ _ ⟨rfl,x,rfl⟩)|(go_at_call 233;refine(c_iallBetween).mono ?_;rintro _ _ ⟨rfl,x,rfl⟩))
    go_ret
    exact Gives.mk (by rw[HF.out,c1,HD.out.1,HD.out.2];rfl)
set_option maxRecDepth 100000 in
set_option maxHeartbeats 2000000 in
theorem c_sFileOutOk{a:Option Addr}{n c:Nat}{f:Int}{s:ByteArray}{d:Bool}{q:List Int}{w:World}(hs:Sl encInt w a q)(hn:q.length=n)(hm:n≤4611686018427387904)(hsz:s.size≤100000000) :
    Calls Tryz.prog 235 #[.agg #[.int .i64 f,.string s,.slice a n c,.bool d]] w (Gives w (.bool (fileOutOk f s.size q))):=by
  have HF:=lH (show fileOutOk f s.size q=(inB f 0 7 && (decide ((s.size:Int)≤600) && (decide ((n:Int)≤1000) && allB (-1) (countSeg s.size - 1) q)))by rw[fileOutOk,hn])
  have hc:=countSeg_bd s.size
  go_enter Tryz.func235,Tryz.ntmps235
  go_wp2_with fail
  go_loopw [3] (fun v wr=>∃ k:Nat,v=.int .i64 k∧k≤n∧Hid (allB (-1) (countSeg s.size - 1) (q.drop k)=allB (-1) (countSeg s.size - 1) q)∧∃ x:Later (w.alloc (.cells #[.int .i64 f,.string s,.slice a n c,.bool d] 143)),wr=x.w) (fun v _=>(n - intOf v).toNat)
  case atStart=>exact⟨0,rfl,by omega,rfl,Later.of⟩
  case round =>
    obtain⟨k,rfl,hk,hf,x,rfl⟩:=hrel
    by_cases h:k<n
    · obtain⟨b,off,y,rfl,hb,hd,h0⟩:=hs.int (show k<q.length by omega)
      cases c1:inB y (-1) (countSeg s.size - 1)
      · go_wp2_with (first|((with_reducible refine wp_region_later (by kernel_rfl) (by kernel_rfl) ?_);(repeat(first|go_big_quiet_step (first|(go_at_call 228;exact Gives.quiet (c_sCountSegments))|(go_at_call 151;exact Gives.quiet (c_sl01In)))|simp only[c1]));refine wpQuiet_nil ?_;rintro _ ⟨x,rfl⟩)|(go_at_call 228;refine(c_sCountSegments).mono ?_;rintro _ _ ⟨rfl,x,rfl⟩)|(go_at_call 151;refine(c_sl01In).mono ?_;rintro _ _ ⟨rfl,x,rfl⟩))
        go_ret
        exact Gives.mk (by have:=hf.out;rw[hd.out,allB,c1]at this;rw[HF.out,← this];simp)
      · go_wp2_with (first|((with_reducible refine wp_region_later (by kernel_rfl) (by kernel_rfl) ?_);(repeat(first|go_big_quiet_step (first|(go_at_call 228;exact Gives.quiet (c_sCountSegments))|(go_at_call 151;exact Gives.quiet (c_sl01In)))|simp only[c1]));refine wpQuiet_nil ?_;rintro _ ⟨x,rfl⟩)|(go_at_call 228;refine(c_sCountSegments).mono ?_;rintro _ _ ⟨rfl,x,rfl⟩)|(go_at_call 151;refine(c_sl01In).mono ?_;rintro _ _ ⟨rfl,x,rfl⟩))
        go_roundw
        case rel=>exact⟨k+1,by go_num,by omega,by have:=hf.out;rw[hd.out,allB,c1]at this;exact this,Later.of⟩
        case measure=>simp[intOf];omega
    · have hf':=hf.out
      rw[List.drop_of_length_le (by omega),allB]at hf'
      have HA:=lH hf';clear hf hf'
      cases c1:inB f 0 7
      · go_wp2_with (first|(go_at_call 151;refine(c_sl01In).mono ?_;rintro _ _ ⟨rfl,x,rfl⟩))
        go_ret
        exact Gives.mk (by rw[HF.out,c1];rfl)
      by_cases h2:600<s.size
      · go_wp2_with (first|(go_at_call 151;refine(c_sl01In).mono ?_;rintro _ _ ⟨rfl,x,rfl⟩))
        go_ret
        exact Gives.mk (by rw[HF.out];have:decide ((s.size:Int)≤600)=false:=by simp;omega
                           simp[this])
      by_cases h3:1000<n
      · go_wp2_with (first|(go_at_call 151;refine(c_sl01In).mono ?_;rintro _ _ ⟨rfl,x,rfl⟩))
        go_ret
        exact Gives.mk (by rw[HF.out];have:decide ((n:Int)≤1000)=false:=by simp;omega
                           simp[this])
      · go_wp2_with (first|(go_at_call 151;refine(c_sl01In).mono ?_;rintro _ _ ⟨rfl,x,rfl⟩))
        go_ret
        exact Gives.mk (by rw[HF.out,c1,← HA.out];simp;omega)
end Go.Proofs.YtbaffippdifbpaaGreat
namespace Go.Proofs.YtbaffippdifbpaaGreat
set_option linter.unusedVariables false
open Go.ChangeShapes Go.WideShapes Go.ChangeAt Go.RowKit
def mkRequest(k0:Int)(i:Nat):Request:=(⟨k0+i*4,k0+i*4+1,k0+i*4+1+1,k0+i*4+1+1+1⟩:Request)
theorem c_lmarkRequestS{a:Option Addr}{n c B:Nat}{k0:Int}{l:List Request}{w:World}(hown0:Own encRequest 145 4 B w a c l)(hn:l.length=n)(hm:n≤100000000)(h1:0≤k0)(h2:k0≤1000000000000) :
  Calls Tryz.prog 28 #[.slice a n c,.int .i64 k0] w (Marks encRequest 145 4 B w a n c ((List.range n).map (mkRequest k0)) (k0+n*4)):=by
 go_enter Tryz.func28,Tryz.ntmps28
 go_wp2_with (first|((with_reducible refine wp_region_later (by kernel_rfl) (by kernel_rfl) ?_);(repeat(first|go_big_quiet_step (first|fail)));refine wpQuiet_nil ?_;rintro _ ⟨x,rfl⟩))
 go_loopw [1,5] (fun u v wr=>∃ j:Nat,v=.int .i64 j∧u=.int .i64 (k0+j*4)∧j≤n∧w.grownBy wr (Value.ownBlock (.slice a n c))∧Own encRequest 145 4 B wr a c (mixed (mkRequest k0) l j)) (fun _ v _=>(n - intOf v).toNat)
 case atStart=>exact⟨0,rfl,by simp,by omega,grownBy_refl _ _,by rw[mixed_zero];exact hown0⟩
 case round =>
  obtain⟨j,rfl,rfl,hj,hgr,hown⟩:=hrel
  by_cases h:j<n
  ·obtain⟨g,rfl,hB,hlt⟩:=hown.open (n:=n) (by rw[mixed_length (by omega)];omega)
   obtain⟨o0,g0⟩:=hown.cells (j:=j*4) (by rw[mixed_length (by omega)];omega);obtain⟨o1,g1⟩:=hown.cells (j:=j*4+1) (by rw[mixed_length (by omega)];omega);obtain⟨o2,g2⟩:=hown.cells (j:=j*4+2) (by rw[mixed_length (by omega)];omega);obtain⟨o3,g3⟩:=hown.cells (j:=j*4+3) (by rw[mixed_length (by omega)];omega);
   have f0:=hown.free (j*4);have f1:=hown.free (j*4+1);have f2:=hown.free (j*4+2);have f3:=hown.free (j*4+3);
   have HG:=lH hgr;clear hgr
   go_wp2_with (first|((with_reducible refine wp_region_later (by kernel_rfl) (by kernel_rfl) ?_);(repeat(first|go_big_quiet_step (first|fail)));refine wpQuiet_nil ?_;rintro _ ⟨x,rfl⟩))
   go_roundw
   case rel =>
    have hp:=hown.put4 (j:=j) (y:=mkRequest k0 j) (by rw[mixed_length (by omega)];omega) rfl
    exact⟨j+1,by go_num,by go_num,by omega,grownBy_trans HG.out hp.2,by rw[← mixed_set (by omega)];exact hp.1⟩
   case measure=>simp[intOf];omega
  ·go_wp2_with (first|((with_reducible refine wp_region_later (by kernel_rfl) (by kernel_rfl) ?_);(repeat(first|go_big_quiet_step (first|fail)));refine wpQuiet_nil ?_;rintro _ ⟨x,rfl⟩))
   go_ret
   obtain rfl:j=n:=by omega
   refine⟨rfl,hgr,?_⟩
   rw[← hn,mixed_all]at hown
   rw[← hn];exact hown
end Go.Proofs.YtbaffippdifbpaaGreat
namespace Go.Proofs.YtbaffippdifbpaaGreat
set_option linter.unusedVariables false
open Go.ChangeShapes Go.WideShapes Go.ChangeAt Go.RowKit
end Go.Proofs.YtbaffippdifbpaaGreat
namespace Go.Proofs.YtbaffippdifbpaaGreat
set_option linter.unusedVariables false
open Go.ChangeShapes Go.WideShapes Go.ChangeAt Go.RowKit
end Go.Proofs.YtbaffippdifbpaaGreat
namespace Go.Proofs.YtbaffippdifbpaaGreat
set_option linter.unusedVariables false
open Go.ChangeShapes Go.WideShapes Go.ChangeAt Go.RowKit
end Go.Proofs.YtbaffippdifbpaaGreat
namespace Go.Proofs.YtbaffippdifbpaaGreat
set_option linter.unusedVariables false
open Go.ChangeShapes Go.WideShapes Go.ChangeAt Go.RowKit
end Go.Proofs.YtbaffippdifbpaaGreat
namespace Go.Proofs.YtbaffippdifbpaaGreat
set_option linter.unusedVariables false
open Go.ChangeShapes Go.WideShapes Go.ChangeAt Go.RowKit
/-! ### One time: who gets it, and when is the next one wanted -/
def wants(t:Int)(r:Request)(g:Int):Bool:=!(g == 0) && inB t r.Ready r.Deadline
def beats(r:Request):Option (Nat × Request)→Bool
 | none=>true
 | some (_,b)=>decide (r.Deadline<b.Deadline) || ((r.Deadline == b.Deadline) && decide (r.Id<b.Id))
def best(t:Int):Option (Nat × Request)→Nat→List Request→List Int→Option (Nat × Request)
 | o,k,r::rs,g::gs=>best t (if (wants t r g && beats r o)=true then some (k,r)else o) (k+1) rs gs
 | o,_,_,_=>o
def nextStep(t:Int)(n:Int)(r:Request)(g:Int):Int :=
 if ((g == 0) || decide (r.Deadline<t))=true then n else if (decide (n<0) || decide (max t r.Ready<n))=true then max t r.Ready else n
def nextW(t:Int):Int→List Request→List Int→Int
 | n,r::rs,g::gs=>nextW t (nextStep t n r g) rs gs
 | n,_,_=>n
def idle(t:Int):List Request→List Int→Prop
 | r::rs,g::gs=>wants t r g=false∧idle t rs gs
 | _,_=>True
theorem best_idle{t:Int}:∀ {rs:List Request} {gs:List Int} {o:Option (Nat × Request)} {k:Nat},idle t rs gs→best t o k rs gs=o
 | [],_,_,_,_=>by simp[best]
 | _::_,[],_,_,_=>by simp[best]
 | r::rs,g::gs,o,k,h=>by
  rw[best,h.1]
  simpa using best_idle h.2
theorem best_spec{t:Int}:∀ {rs:List Request} {gs:List Int} {o:Option (Nat × Request)} {k:Nat},
  (best t o k rs gs=o∨∃ i r g,rs[i]?=some r∧gs[i]?=some g∧wants t r g=true∧best t o k rs gs=some (k+i,r))
 | [],_,o,k=>.inl (by simp[best])
 | _::_,[],o,k=>.inl (by simp[best])
 | r::rs,g::gs,o,k=>by
  rw[best]
  by_cases h:(wants t r g && beats r o)=true
  ·rw[if_pos h]
   simp only[Bool.and_eq_true]at h
   rcases best_spec (t:=t) (rs:=rs) (gs:=gs) (o:=some (k,r)) (k:=k+1)with h1|⟨i,r',g',h1,h2,h3,h4⟩
   ·exact .inr ⟨0,r,g,rfl,rfl,h.1,by rw[h1,Nat.add_zero]⟩
   ·exact .inr ⟨i+1,r',g',h1,h2,h3,by rw[h4];congr 2;omega⟩
  ·rw[if_neg h]
   rcases best_spec (t:=t) (rs:=rs) (gs:=gs) (o:=o) (k:=k+1)with h1|⟨i,r',g',h1,h2,h3,h4⟩
   ·exact .inl h1
   ·exact .inr ⟨i+1,r',g',h1,h2,h3,by rw[h4];congr 2;omega⟩
theorem best_least{t:Int}:∀ {rs:List Request} {gs:List Int} {o:Option (Nat × Request)} {k:Nat},
  (∀ (i:Nat) r g,rs[i]?=some r→gs[i]?=some g→wants t r g=true→∃ j b,best t o k rs gs=some (j,b)∧b.Deadline≤r.Deadline) ∧
  (∀ j b,o=some (j,b)→∃ j' b',best t o k rs gs=some (j',b')∧b'.Deadline≤b.Deadline)
 | [],_,o,k=>⟨fun i r g h=>by simp at h,fun j b h=>⟨j,b,by simp[best,h],Int.le_refl _⟩⟩
 | _::_,[],o,k=>⟨fun i r g _ h=>by simp at h,fun j b h=>⟨j,b,by simp[best,h],Int.le_refl _⟩⟩
 | r::rs,g::gs,o,k=>by
  rw[best]
  have key:∀ j b,o=some (j,b)→∃ j' b',(if (wants t r g && beats r o)=true then some (k,r)else o)=some (j',b')∧b'.Deadline≤b.Deadline:=by
   intro j b hb
   by_cases h:(wants t r g && beats r o)=true
   ·rw[if_pos h]
    simp only[Bool.and_eq_true]at h
    have h2:=h.2
    rw[hb]at h2
    simp only[beats,Bool.or_eq_true,decide_eq_true_eq,Bool.and_eq_true,beq_iff_eq]at h2
    exact⟨k,r,rfl,by omega⟩
   ·rw[if_neg h];exact⟨j,b,hb,Int.le_refl _⟩
  have ih:=best_least (t:=t) (rs:=rs) (gs:=gs) (o:=if (wants t r g && beats r o)=true then some (k,r)else o) (k:=k+1)
  refine⟨fun i r' g' h1 h2 h3=>?_,fun j b hb=>?_⟩
  ·match i with
   | 0 =>
    simp only[List.getElem?_cons_zero,Option.some.injEq]at h1 h2
    subst h1;subst h2
    by_cases h:beats r o=true
    ·have hh:(if (wants t r g && beats r o)=true then some (k,r)else o)=some (k,r):=by rw[h3,h];rfl
     exact ih.2 k r hh
    ·cases o with
     | none=>simp[beats]at h
     | some jb =>
      obtain⟨j,b⟩:=jb
      simp only[beats,Bool.or_eq_true,decide_eq_true_eq,Bool.and_eq_true,beq_iff_eq]at h
      obtain⟨j',b',h4,h5⟩:=key j b rfl
      obtain⟨j2,b2,h6,h7⟩:=ih.2 j' b' h4
      exact⟨j2,b2,h6,by omega⟩
   | i+1=>exact ih.1 i r' g' (by simpa using h1) (by simpa using h2) h3
  ·obtain⟨j',b',h4,h5⟩:=key j b hb
   obtain⟨j2,b2,h6,h7⟩:=ih.2 j' b' h4
   exact⟨j2,b2,h6,by omega⟩
theorem best_none{t:Int}{rs:List Request}{gs:List Int}{k:Nat}(h:best t none k rs gs=none):∀ (i:Nat) r g,rs[i]?=some r→gs[i]?=some g→wants t r g=false:=fun i r g h1 h2=>by
 cases h3:wants t r g
 ·rfl
 ·obtain⟨j,b,h4,-⟩:=(best_least (t:=t) (rs:=rs) (gs:=gs) (o:=none) (k:=k)).1 i r g h1 h2 h3
  rw[h]at h4;cases h4
theorem best_some{t:Int}{rs:List Request}{gs:List Int}{j:Nat}{b:Request}(h:best t none 0 rs gs=some (j,b)):∃ g,rs[j]?=some b∧gs[j]?=some g∧wants t b g=true:=by
 rcases best_spec (t:=t) (rs:=rs) (gs:=gs) (o:=none) (k:=0)with h1|⟨i,r,g,h1,h2,h3,h4⟩
 ·rw[h1]at h;cases h
 ·rw[h4]at h
  simp only[Nat.zero_add,Option.some.injEq,Prod.mk.injEq]at h
  obtain⟨rfl,rfl⟩:=h
  exact⟨g,h1,h2,h3⟩
theorem nextW_spec{t:Int}(ht:0≤t):∀ {rs:List Request} {gs:List Int} {n:Int},(n=-1∨t≤n) →
  (nextW t n rs gs=-1∧n=-1∧(∀ u,t≤u→idle u rs gs))∨(t≤nextW t n rs gs∧(n≠-1→nextW t n rs gs≤n)∧(∀ u,t≤u→u<nextW t n rs gs→idle u rs gs)∧(n≠nextW t n rs gs→∃ r∈rs,nextW t n rs gs≤max r.Ready r.Deadline))
 | [],gs,n,hn=>by
  rcases hn with rfl|hn
  ·exact .inl ⟨by simp[nextW],rfl,fun _ _=>by simp[idle]⟩
  ·exact .inr ⟨by simpa[nextW]using hn,fun _=>by simp[nextW],fun _ _ _=>by simp[idle],fun h=>by simp[nextW]at h⟩
 | _::_,[],n,hn=>by
  rcases hn with rfl|hn
  ·exact .inl ⟨by simp[nextW],rfl,fun _ _=>by simp[idle]⟩
  ·exact .inr ⟨by simpa[nextW]using hn,fun _=>by simp[nextW],fun _ _ _=>by simp[idle],fun h=>by simp[nextW]at h⟩
 | r::rs,g::gs,n,hn=>by
  rw[nextW]
  by_cases h1:((g == 0) || decide (r.Deadline<t))=true
  ·have e:nextStep t n r g=n:=by rw[nextStep,if_pos h1]
   rw[e]
   have hno:∀ u,t≤u→wants u r g=false:=by
    intro u hu
    simp only[Bool.or_eq_true,beq_iff_eq,decide_eq_true_eq]at h1
    unfold wants
    rcases h1 with h1|h1
    ·simp[h1]
    ·have:inB u r.Ready r.Deadline=false:=by simp[inB];omega
     simp[this]
   rcases nextW_spec ht (rs:=rs) (gs:=gs) hn with⟨a,b,c⟩|⟨a,b,c,d⟩
   ·exact .inl ⟨a,b,fun u hu=>⟨hno u hu,c u hu⟩⟩
   ·exact .inr ⟨a,b,fun u hu hu'=>⟨hno u hu,c u hu hu'⟩,fun hne=>by obtain⟨q,hq,hq2⟩:=d hne;exact⟨q,by simp[hq],hq2⟩⟩
  ·have h1':=h1
   simp only[Bool.or_eq_true,beq_iff_eq,decide_eq_true_eq,not_or]at h1'
   have hno:∀ u,t≤u→u<max t r.Ready→wants u r g=false:=by
    intro u hu hu'
    have:inB u r.Ready r.Deadline=false:=by simp[inB];omega
    simp[wants,this]
   by_cases h2:(decide (n<0) || decide (max t r.Ready<n))=true
   ·have e:nextStep t n r g=max t r.Ready:=by rw[nextStep,if_neg h1,if_pos h2]
    rw[e]
    simp only[Bool.or_eq_true,decide_eq_true_eq]at h2
    rcases nextW_spec ht (rs:=rs) (gs:=gs) (n:=max t r.Ready) (.inr (by omega))with⟨a,b,c⟩|⟨a,b,c,d⟩
    ·omega
    ·have D:=lH d;clear d
     have hb:=b (by omega)
     refine .inr ⟨a,fun _=>by omega,fun u hu hu'=>⟨hno u hu (by omega),c u hu hu'⟩,fun _=>?_⟩
     by_cases hne:max t r.Ready=nextW t (max t r.Ready) rs gs
     ·exact⟨r,by simp,by rw[← hne];omega⟩
     ·obtain⟨q,hq,hq2⟩:=D.out hne;exact⟨q,by simp[hq],hq2⟩
   ·have e:nextStep t n r g=n:=by rw[nextStep,if_neg h1,if_neg h2]
    rw[e]
    simp only[Bool.or_eq_true,decide_eq_true_eq,not_or]at h2
    have hn':t≤n:=by omega
    rcases nextW_spec ht (rs:=rs) (gs:=gs) hn with⟨a,b,c⟩|⟨a,b,c,d⟩
    ·omega
    ·have D:=lH d;clear d
     have hb:=b (by omega)
     exact .inr ⟨a,b,fun u hu hu'=>⟨hno u hu (by omega),c u hu hu'⟩,fun hne=>by obtain⟨q,hq,hq2⟩:=D.out hne;exact⟨q,by simp[hq],hq2⟩⟩
/-! ### The plan -/
def lowered(gs:List Int)(k:Nat):List Int:=gs.set k ((gs[k]?).getD 0 - 1)
def planFrom(p s l:Int)(list:List Request):Nat→Int→List Int→List Slot
 | 0,_,_=>[]
 | f+1,t,gs =>
  if visible p s l t=true then
   match best t none 0 list gs with
   | some (k,r)=>⟨t,r.Id⟩::planFrom p s l list f (t+1) (lowered gs k)
   | none=>planFrom p s l list f (t+1) gs
  else planFrom p s l list f (t+1) gs
def planAll(p s l:Int)(list:List Request):List Slot :=
 if (orbitOk p s l && requestsOk list)=true then planFrom p s l list 1000001 0 (list.map (·.Need))else[]
theorem planFrom_skip1{p s l t:Int}{list:List Request}{gs:List Int}{f:Nat}(h:visible p s l t=false∨idle t list gs):planFrom p s l list (f+1) t gs=planFrom p s l list f (t+1) gs:=by
 rw[planFrom]
 rcases h with h|h
 ·rw[h,if_neg (by simp)]
 ·rw[best_idle h];split<;>rfl
theorem planFrom_skip{p s l:Int}{list:List Request}{gs:List Int}:∀ (d f:Nat) {t:Int},(∀ u,t≤u→u<t+d→visible p s l u=false∨idle u list gs)→planFrom p s l list (f+d) t gs=planFrom p s l list f (t+d) gs
 | 0,f,t,_=>by simp
 | d+1,f,t,h=>by
  rw[← Nat.add_assoc,planFrom_skip1 (h t (Int.le_refl _) (by omega)),planFrom_skip d f (fun u hu hu'=>h u (by omega) (by omega))]
  congr 1;omega
theorem planFrom_none{p s l:Int}{list:List Request}{gs:List Int}(f:Nat){t:Int}(h:∀ u,t≤u→u<t+f→visible p s l u=false∨idle u list gs):planFrom p s l list f t gs=[]:=by
 have:=planFrom_skip f 0 h
 rw[Nat.zero_add]at this
 rw[this,planFrom]
theorem planFrom_hit{p s l t:Int}{list:List Request}{gs:List Int}{f k:Nat}{r:Request}(hv:visible p s l t=true)(hp:best t none 0 list gs=some (k,r)) :
  planFrom p s l list (f+1) t gs=⟨t,r.Id⟩::planFrom p s l list f (t+1) (lowered gs k):=by
 rw[planFrom,if_pos hv,hp]
end Go.Proofs.YtbaffippdifbpaaGreat
namespace Go.Proofs.YtbaffippdifbpaaGreat
set_option linter.unusedVariables false
open Go.ChangeShapes Go.WideShapes Go.ChangeAt Go.RowKit
/-! ### One step -/
def stepLeft(p s l:Int)(list:List Request)(t:Int)(gs:List Int):List Int :=
 if visible p s l t=true then(match best t none 0 list gs with|some (k,_)=>lowered gs k|none=>gs)else gs
def stepSlot(p s l:Int)(list:List Request)(t:Int)(gs:List Int):List Slot :=
 if visible p s l t=true then(match best t none 0 list gs with|some (_,r)=>[⟨t,r.Id⟩]|none=>[])else[]
theorem planFrom_step{p s l t:Int}{list:List Request}{gs:List Int}{f:Nat}:planFrom p s l list (f+1) t gs=stepSlot p s l list t gs++planFrom p s l list f (t+1) (stepLeft p s l list t gs):=by
 rw[planFrom,stepSlot,stepLeft]
 split
 ·cases best t none 0 list gs with
  | none=>rfl
  | some kr=>obtain⟨k,r⟩:=kr;rfl
 ·rfl
theorem step_cases(p s l t:Int)(list:List Request)(gs:List Int) :
  (stepSlot p s l list t gs=[]∧stepLeft p s l list t gs=gs∧(visible p s l t=true→∀ (i:Nat) r g,list[i]?=some r→gs[i]?=some g→wants t r g=false)) ∨
  (visible p s l t=true∧∃ (k:Nat) (r:Request) (g:Int),list[k]?=some r∧gs[k]?=some g∧wants t r g=true∧stepSlot p s l list t gs=[⟨t,r.Id⟩]∧stepLeft p s l list t gs=gs.set k (g - 1) ∧
   ∀ (i:Nat) r' g',list[i]?=some r'→gs[i]?=some g'→wants t r' g'=true→r.Deadline≤r'.Deadline):=by
 unfold stepSlot stepLeft
 cases hv:visible p s l t
 ·exact .inl ⟨by simp,by simp,by simp⟩
 ·cases hp:best t none 0 list gs with
  | none=>exact .inl ⟨by simp,by simp,fun _=>best_none hp⟩
  | some kr =>
   obtain⟨k,r⟩:=kr
   obtain⟨g,h1,h2,h3⟩:=best_some hp
   refine .inr ⟨rfl,k,r,g,h1,h2,h3,by simp,by simp[lowered,h2],fun i r' g' h4 h5 h6=>?_⟩
   obtain⟨j,b,h7,h8⟩:=(best_least (t:=t) (rs:=list) (gs:=gs) (o:=none) (k:=0)).1 i r' g' h4 h5 h6
   rw[hp]at h7
   simp only[Option.some.injEq,Prod.mk.injEq]at h7
   rw[h7.2];exact h8
def okLeft(list:List Request)(gs:List Int):Prop:=gs.length=list.length∧∀ g∈gs,0≤g
theorem wants_iff{t:Int}{r:Request}{g:Int}:wants t r g=true↔g≠0∧r.Ready≤t∧t≤r.Deadline:=by simp[wants,inB]
/-! ### The slots -/
theorem planFrom_mem{p s l:Int}{list:List Request}:∀ {f:Nat} {t:Int} {gs:List Int},∀ x∈planFrom p s l list f t gs,t≤x.Time∧x.Time<t+f∧visible p s l x.Time=true∧∃ r∈list,r.Id=x.Id∧inB x.Time r.Ready r.Deadline=true
 | 0,t,gs,x,hx=>by simp[planFrom]at hx
 | f+1,t,gs,x,hx=>by
  rw[planFrom_step,List.mem_append]at hx
  rcases hx with hx|hx
  ·rcases step_cases p s l t list gs with⟨h1,-,-⟩|⟨hv,k,r,g,h1,h2,h3,h4,-,-⟩
   ·rw[h1]at hx;simp at hx
   ·rw[h4,List.mem_singleton]at hx
    subst hx
    simp only[wants,Bool.and_eq_true]at h3
    exact⟨Int.le_refl _,by simp only;omega,hv,r,List.mem_of_getElem? h1,rfl,h3.2⟩
  ·obtain⟨h1,h2,h3⟩:=planFrom_mem x hx
   exact⟨by omega,by omega,h3⟩
theorem okLeft_needs{l:List Request}(h:requestsOk l=true):okLeft l (l.map (·.Need)):=by
 refine⟨by simp,fun g hg=>?_⟩
 obtain⟨r,hr,rfl⟩:=List.mem_map.1 hg
 have:=((requestsOk_mem h).2 r hr).2.2.2
 omega
end Go.Proofs.YtbaffippdifbpaaGreat
namespace Go.Proofs.YtbaffippdifbpaaGreat
set_option linter.unusedVariables false
open Go.ChangeShapes Go.WideShapes Go.ChangeAt Go.RowKit
end Go.Proofs.YtbaffippdifbpaaGreat
namespace Go.Proofs.YtbaffippdifbpaaGreat
set_option linter.unusedVariables false
open Go.ChangeShapes Go.WideShapes Go.ChangeAt Go.RowKit
theorem plan_mem{p s l:Int}{list:List Request}:∀ x∈planAll p s l list,visible p s l x.Time=true∧∃ r∈list,r.Id=x.Id∧inB x.Time r.Ready r.Deadline=true:=fun x hx=>by
 unfold planAll at hx
 split at hx
 ·exact(planFrom_mem x hx).2.2
 ·simp at hx
end Go.Proofs.YtbaffippdifbpaaGreat
namespace Go.Proofs.YtbaffippdifbpaaGreat
set_option linter.unusedVariables false
open Go.ChangeShapes Go.WideShapes Go.ChangeAt Go.RowKit
theorem But.grown1{b:Nat}{w0 w:World}{z:Later w0}(h:But b w z.w)(g:Grows w0 w):w.grownBy z.w (some b) :=
 ⟨z.h.os.trans g.out.os.symm,z.h.tape.trans g.out.tape.symm,z.h.output.trans g.out.output.symm,h.size,fun k hk hr=>h.block k (fun e=>hr (by rw[e])) hk⟩
theorem Own.at{α:Type}{enc:α→List Value}{T T' size B:Nat}{w w':World}{a:Option Addr}{c b:Nat}{l:List α}{cs:List Value}(h:Own enc T size B w a c l)(hb:Held w b cs T')(hT:T≠T')(hg:w.grownBy w' (some b)):Own enc T size B w' a c l :=
 ⟨h.1,h.2.kept hg (.inr (fun e=>h.notHeld (n:=l.length) hb hT e.symm))⟩
theorem Held.at{w w':World}{b b2:Nat}{cs:List Value}{T:TypeId}(h:Held w b cs T)(hg:w.grownBy w' (some b2))(hne:b≠b2):Held w' b cs T:=blk_grown hg h (by simpa using hne)
section
variable {P:Program} {ops:Array Oper} {op:Oper} {a:Act} {w:World} {Q:Exit→Act→World→Prop} {K:Act→World→Prop} {E:Prop}
theorem st_loadH(hw:Region.wanted op (yielded ops a.tmps)=true)(ty:TypeId)(x:Operand)(ho:op.op=.load ty x)(b o:Nat)(hx:a.eval x=.pointer (some ⟨b,o,none⟩)){cs row:List Value}{T:TypeId}(H:Held w b cs T)
  (d:TypeDesc) (hu:P.underlying ty=some d) (hd:d.isRow=true) (hi:(P.info? ty).map (·.size)=some row.length) (hr:(cs.drop o).take row.length=row)
  (h:K (a.put op.dst (.agg row.toArray)) w):if Region.wanted op (yielded ops a.tmps)=true then Oper.wp P op a w K Q else E:=by
 rw[if_pos hw]
 exact wp_load_mid ty x ho b o hx row d (H.range hr) hu hd hi h
end
theorem results_cell2{P:Program}{w:World}{fn:Func}{p t q:Nat}(hf:fn.results=#[.cell p t,.tmp q]){tmps:Array Value}{b:Nat}(hp:tmps.getD p undef=.pointer (some ⟨b,0,none⟩)){cs:List Value}{T:TypeId}(H:Held w b cs T)
  (d:TypeDesc) (hu:P.underlying t=some d) (hd:d.isRow=true) (hi:(P.info? t).map (·.size)=some cs.length) {u:Value} (hq:tmps.getD q undef=u):(results fn tmps).run P w=.ok (.tuple #[.agg cs.toArray,u]) w:=by
 have:=run_loadVar_mid w b 0 t cs d (H.range (o:=0) (n:=cs.length) (by simp)) hu hd hi
 have hp2:tmps[p]?.getD undef=.pointer (some ⟨b,0,none⟩):=by rw[← hp];simp[Array.getD_eq_getD_getElem?]
 have hq2:tmps[q]?.getD undef=u:=by rw[← hq];simp[Array.getD_eq_getD_getElem?]
 simp[results,hf,hp2,hq2,asAddr,this]
theorem Own.ofBlk{α:Type}{enc:α→List Value}{T size n B g:Nat}{W:World}{D:Array Value}{l:List α}(hsz:∀ x:α,(enc x).length=size)(hn:l.length=n)(hm:n≤1000000000000)(hB:B≤g)
  (hD:D.size=n*size) (ht:D.toList=l.flatMap enc) (h:W.heap[g]?=some (.cells D T (0,0))):Own enc T size B W (some ⟨g,0,none⟩) n l:=by
 refine⟨hsz,by rw[flatMap_length hsz],.inr ⟨g,n,D,by rw[hn],hB,h,by omega,by unfold maxLen;omega,hD,?_⟩⟩
 rw[ht,hn]
 exact List.take_of_length_le (by rw[flatMap_length hsz,hn];omega)
end Go.Proofs.YtbaffippdifbpaaGreat
namespace Go.Proofs.YtbaffippdifbpaaGreat
set_option linter.unusedVariables false
open Go.ChangeShapes Go.WideShapes Go.ChangeAt Go.RowKit
def encStr(s:ByteArray):List Value:=[.string s]
theorem encStr_len(n:ByteArray):(encStr n).length=1:=rfl
theorem encStr_one(n:ByteArray):∀ u∈encStr n,u.oneCell'=true:=by intro u hu;simp[encStr]at hu;subst hu;rfl
theorem Sl.str{w:World}{a:Option Addr}{l:List ByteArray}(h:Sl encStr w a l){k:Nat}(hk:k<l.length) :
  ∃ b off s,a=some ⟨b,off,none⟩∧LtN b w.heap.size∧Hid (l.drop k=s::l.drop (k+1))∧(∀ (W:World) [Grows w W],W.cell? ⟨b,off+k,none⟩=some (.string s)):=by
 obtain⟨s,hs,hd⟩:=drop_at hk
 obtain⟨b,off,ha,hb,hc⟩:=h k s hs
 exact⟨b,off,s,ha,⟨hb⟩,hd,cell_grown hb (by simpa[encStr]using hc 0 _ rfl)⟩
theorem c_cloneStr{a:Option Addr}{n c:Nat}{l:List ByteArray}{w:World}(hs:Sl encStr w a l)(hn:l.length=n)(hm:n≤100000000) :
  Calls Tryz.prog 53 #[.slice a n c] w (GivesSl encStr 9 1 w l):=by
 cases a with
 | none =>
  have hl:l=[]:=by
   cases l with
   | nil=>rfl
   | cons y r=>obtain⟨b,off,h0,-⟩:=hs 0 y rfl;cases h0
  have hq:=fun(w:World)=>run_eql_slice_nil (P:=Tryz.prog) w 32 9 none n c Tryz.underlying32
  simp only[Option.isNone]at hq
  have HL:=lH hl;clear hl
  go_enter Tryz.func53,Tryz.ntmps53
  go_wp2_with (first|((with_reducible refine wp_region_later (by kernel_rfl) (by kernel_rfl) ?_);(repeat(first|go_big_quiet_step (first|fail)));refine wpQuiet_nil ?_;rintro _ ⟨x,rfl⟩))
  go_ret
  exact GivesSl.nilOf encStr_len HL.out
 | some ad =>
  have hq:=fun(w:World)=>run_eql_slice_nil (P:=Tryz.prog) w 32 9 (some ad) n c Tryz.underlying32
  simp only[Option.isNone]at hq
  go_enter Tryz.func53,Tryz.ntmps53
  go_wp2_with (first|((with_reducible refine wp_region_later (by kernel_rfl) (by kernel_rfl) ?_);(repeat(first|go_big_quiet_step (first|fail)));refine wpQuiet_nil ?_;rintro _ ⟨x,rfl⟩)|(at_builtin;refine wpList_appS (enc:=encStr) (w0:=w) (z:=.string ByteArray.empty) (size:=1) (bytes:=16) (n:=0) (l:=[]) rfl (.tmp 5) (.tmp 6) rfl Tryz.underlying32 (by kernel_rfl) rfl (by decide) (by decide) rfl rfl (fun h=>by cases h) rfl hn (Own.emptyAt encStr_len (Nat.le_refl _) rfl) (hs.to inferInstance) encStr_one (by omega) ?_;intro sa1 sc1 x1 hown1 hgr1))
  go_ret
  rw[List.nil_append]at hown1
  exact⟨sa1,sc1,by rw[hn];first|rfl|simp,hown1,Later.of⟩
end Go.Proofs.YtbaffippdifbpaaGreat
namespace Go.Proofs.YtbaffippdifbpaaGreat
set_option linter.unusedVariables false
open Go.ChangeShapes Go.WideShapes Go.ChangeAt Go.RowKit
theorem conv_str{P:Program}{W:World}{t e d:TypeId}(ht:P.underlying t=some (.slice e))(he:P.underlying e=some (.int .u8))(hd:P.underlying d=some .string){a:Option Addr}{n c:Nat}{l:List Int}(hs:Sl encByte W a l)(hn:l.length=n)(h0:0<n) :
  ∀ W':World,[Grows W W']→(convert t d (.slice a n c)).run P W'=.ok (.string (strOfNums l)) W':=fun W' g=>by
 obtain⟨b,off,s,rfl,hb,-⟩:=hs.byte (k:=0) (by omega)
 refine run_convert_bytes_arg W' t e ht he b off n c l hn (fun i hi=>?_) d hd
 obtain⟨b2,off2,s2,hbo,hb2,hd2,g2⟩:=hs.byte (k:=i) (by omega)
 simp only[Option.some.injEq,Addr.mk.injEq,and_true]at hbo
 obtain⟨rfl,rfl⟩:=hbo
 have h1:l[i]?=some s2:=by
  have:=congrArg (fun m=>m[0]?) hd2.out
  simpa using this
 rw[g2 W',List.getD,h1];rfl
def word1(n:Int):ByteArray:=strOfNums [n % 256]
def word2(n:Int):ByteArray:=strOfNums [n / 256 % 256,n % 256]
def word3(n:Int):ByteArray:=strOfNums [n / 256 / 256 % 256,n / 256 % 256,n % 256]
@[go_sem] theorem i64_and65535(n:Int):bits .and .i64 n 65535=n % 65536:=by
 have h:(BitVec.ofInt 64 65535).toNat=2 ^ 16 - 1:=by decide
 have key:(BitVec.ofInt 64 n &&& BitVec.ofInt 64 65535).toNat=(n % ((2 ^ 64:Nat):Int)).toNat % 2 ^ 16:=by
  rw[BitVec.toNat_and,BitVec.toNat_ofInt,h,Nat.and_two_pow_sub_one_eq_mod]
 show IntKind.i64.wrap ((BitVec.ofInt 64 n &&& BitVec.ofInt 64 65535).toNat:Nat)=n % 65536
 rw[key,IntKind.wrap_i64]
 omega
def crcBit(n:Int):Int:=if 32768≤n then bits .xor .i64 (2*n % 65536) 4129 else 2*n
def crcBits:Nat→Int→Int
 | 0,n=>n
 | k+1,n=>crcBits k (crcBit n)
def crc:Int→List Int→Int
 | n,[]=>n
 | n,b::l=>crc (crcBits 8 (bits .xor .i64 n (256*b))) l
end Go.Proofs.YtbaffippdifbpaaGreat
namespace Go.Proofs.YtbaffippdifbpaaGreat
set_option linter.unusedVariables false
open Go.ChangeShapes Go.WideShapes Go.ChangeAt Go.RowKit
def byteList(s:ByteArray):List Int:=s.data.toList.map (fun b=>(b.toNat:Int))
@[irreducible] def checkOf(s:ByteArray):Int:=crc 65535 (byteList s)
end Go.Proofs.YtbaffippdifbpaaGreat
namespace Go.Proofs.YtbaffippdifbpaaGreat
set_option linter.unusedVariables false
open Go.ChangeShapes Go.WideShapes Go.ChangeAt Go.RowKit
@[go_sem] theorem word1_size(n:Int):(word1 n).size=1:=rfl
@[go_sem] theorem word2_size(n:Int):(word2 n).size=2:=rfl
def wordM(m n:Int):ByteArray:=if m=1 then word1 n else word2 n
@[go_sem] theorem wordM_one(n:Int):wordM 1 n=word1 n:=rfl
@[go_sem] theorem wordM_two(n:Int):wordM 2 n=word2 n:=rfl
end Go.Proofs.YtbaffippdifbpaaGreat
namespace Go.Proofs.YtbaffippdifbpaaGreat
set_option linter.unusedVariables false
open Go.ChangeShapes Go.WideShapes Go.ChangeAt Go.RowKit
theorem IsCur.drew{w:World}{p:Nat}{a:Option Addr}{n c:Nat}{l:List Int}{i:Nat}(h:IsCur w p a n c l i):IsCur w.drew p a n c l i:=h.kept (Nat.le_refl _) (fun _ _=>rfl)
end Go.Proofs.YtbaffippdifbpaaGreat
namespace Go.Proofs.YtbaffippdifbpaaGreat
set_option linter.unusedVariables false
open Go.ChangeShapes Go.WideShapes Go.ChangeAt Go.RowKit
end Go.Proofs.YtbaffippdifbpaaGreat
