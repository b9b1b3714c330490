/- Data with depth: what a value's cells read as, through slices, in blocks from a bound on. -/
import Derived.Test.YtdoilejecjaldaaGreatHM0
namespace Go.Proofs.YtdoilejecjaldaaGreat
set_option linter.unusedVariables false
open Go.ChangeShapes Go.WideShapes Go.ChangeAt Go.RowKit
class b8(B:Nat)(w w':World):Prop where
 size:w.heap.size≤w'.heap.size
 block:∀ b,B≤b→b<w.heap.size→w'.heap[b]?=w.heap[b]?
instance(priority:=2000) b8.same (B:Nat)(w:World):b8 B w w:=⟨Nat.le_refl _,fun _ _ _=>rfl⟩
theorem b8.trans{B:Nat}{a b c:World}(h:b8 B a b)(k:b8 B b c):b8 B a c:=⟨Nat.le_trans h.size k.size,fun i h1 h2=>(k.block i h1 (Nat.lt_of_lt_of_le h2 h.size)).trans (h.block i h1 h2)⟩
theorem b8.later'{B:Nat}{w W:World}(h:b8 B w W)(x:b5 W):b8 B w x.w:=h.trans ⟨x.h.size,fun b _ h2=>x.h.block b h2⟩
instance(priority:=1500) b8.andThenSelf (B:Nat){W:World}(x:b5 W)(y:b5 x.w):b8 B y.w (x.andThen y).w:=⟨Nat.le_refl _,fun _ _ _=>rfl⟩
instance(priority:=1400) b8.andThenMid (B:Nat){W:World}(x:b5 W)(y:b5 x.w):b8 B x.w (x.andThen y).w:=⟨y.h.size,fun b _ h2=>y.h.block b h2⟩
instance(priority:=1300) b8.andThen (B:Nat)(a:World){W:World}(x:b5 W)(y:b5 x.w)[h:b8 B a x.w]:b8 B a (x.andThen y).w:=h.later' y
instance(priority:=1200) b8.drawn (B:Nat)(a:World){W:World}(x:b5 W)[h:b8 B a x.w]:b8 B a x.draw.w:=⟨h.size,h.block⟩
instance(priority:=1200) b8.drew (B:Nat)(a w:World)[h:b8 B a w]:b8 B a w.drew:=⟨h.size,h.block⟩
theorem b8.set'{B:Nat}{a w:World}(h:b8 B a w)(b i:Nat)(v:Value)(k:b<B):b8 B a (w.setCell ⟨b,i,none⟩ v):=⟨by simpa using h.size,fun c h1 h2=>by
 rw[Below.heap_setCell _ _ _ _ (fun e=>by simp only at e;omega)];exact h.block c h1 h2⟩
instance(priority:=1200) b8.setCell (B:Nat)(a w:World)(b i:Nat)(v:Value)[h:b8 B a w][k:LtN b B]:b8 B a (w.setCell ⟨b,i,none⟩ v):=h.set' b i v k.out
instance(priority:=1200) b8.setL (B:Nat)(a:World){W:World}(x:b5 W)(b i:Nat)(v:Value)[h:b8 B a x.w][k:LtN b B]:b8 B a (x.set ⟨b,i,none⟩ v).w:=h.set' b i v k.out
instance(priority:=1250) b8.setL8 (B:Nat)(a:World){W:World}(x:b5 W)(b i0 i1 i2 i3 i4 i5 i6 i7:Nat)(v0 v1 v2 v3 v4 v5 v6 v7:Value)[h:b8 B a x.w][k:LtN b B]:b8 B a ((((((((x.set ⟨b,i0,none⟩ v0).set ⟨b,i1,none⟩ v1).set ⟨b,i2,none⟩ v2).set ⟨b,i3,none⟩ v3).set ⟨b,i4,none⟩ v4).set ⟨b,i5,none⟩ v5).set ⟨b,i6,none⟩ v6).set ⟨b,i7,none⟩ v7).w :=
 (((((((h.set' b i0 v0 k.out).set' b i1 v1 k.out).set' b i2 v2 k.out).set' b i3 v3 k.out).set' b i4 v4 k.out).set' b i5 v5 k.out).set' b i6 v6 k.out).set' b i7 v7 k.out
instance(priority:=1200) b8.alloc (B:Nat)(a w:World)(o:Obj)[h:b8 B a w]:b8 B a (w.alloc o):=⟨by have:=h.size;simp;omega,fun b h1 h2=>by rw[Below.heap_alloc _ _ _ (Nat.lt_of_lt_of_le h2 h.size)];exact h.block b h1 h2⟩
instance(priority:=1000) b8.later (B:Nat)(a:World){W:World}(x:b5 W)[h:b8 B a W]:b8 B a x.w:=h.later' x
instance(priority:=100) b8.grows (B:Nat)(w W:World)[h:d5 w W]:b8 B w W:=⟨h.out.size,fun b _ h2=>h.out.block b h2⟩
class Enc(α:Type) where
 size:Nat
 Rd:Nat→World→List Value→α→Prop
 len:∀ {B w vs x},Rd B w vs x→vs.length=size
 keep:∀ {B w w' vs x},Rd B w vs x→b8 B w w'→Rd B w' vs x
 mono:∀ {B B' w vs x},Rd B w vs x→B'≤B→Rd B' w vs x
 tot:α→Int
 tot_nonneg:∀ x,0≤tot x
def d7{α:Type}[Enc α]:List α→Int
 | []=>0
 | x::r=>1+Enc.tot x+d7 r
theorem d9{α:Type}[Enc α](l:List α):(l.length:Int)≤d7 l:=by
 induction l with
 | nil=>simp[d7]
 | cons x r ih=>have:=Enc.tot_nonneg x;simp only[d7,List.length_cons];omega
theorem b7{α:Type}[Enc α](l:List α):0≤d7 l:=by have:=d9 l;omega
theorem ae9{α:Type}[Enc α]{l:List α}{x:α}(h:x∈l):Enc.tot x≤d7 l:=by
 induction l with
 | nil=>cases h
 | cons y r ih =>
  have h1:=b7 r;have h2:=Enc.tot_nonneg y
  simp only[d7]
  rcases List.mem_cons.1 h with rfl|h
  ·omega
  ·have:=ih h;omega
def RdS{α:Type}[E:Enc α](B:Nat)(w:World)(a:Option Addr)(c:Nat)(l:List α):Prop :=
 l.length≤c∧c≤maxLen∧(a=none→c=0)∧∀ (i:Nat) (x:α),l[i]?=some x→∃ b off vs,a=some ⟨b,off,none⟩∧B≤b∧b<w.heap.size∧E.Rd B w vs x∧∀ (j:Nat) (u:Value),vs[j]?=some u→w.cell? ⟨b,off+i*E.size+j,none⟩=some u
section
variable {α:Type} [E:Enc α] {B:Nat} {w:World} {a:Option Addr} {c:Nat} {l:List α}
theorem RdS.cap(h:RdS B w a c l):l.length≤c:=h.1
theorem RdS.max(h:RdS B w a c l):l.length≤9223372036854775807:=by have h1:=h.1;have h2:=h.2.1;unfold maxLen at h2;omega
theorem RdS.nilcap(h:RdS B w a c l):a=none→c=0:=h.2.2.1
theorem RdS.keep{w':World}(h:RdS B w a c l)(k:b8 B w w'):RdS B w' a c l:=by
 refine⟨h.1,h.2.1,h.2.2.1,fun i x hx=>?_⟩
 obtain⟨b,off,vs,rfl,h1,h2,h3,h4⟩:=h.2.2.2 i x hx
 exact⟨b,off,vs,rfl,h1,Nat.lt_of_lt_of_le h2 k.size,E.keep h3 k,fun j u hu=>by rw[World.cell?_of_block (w:=w) (k.block b h1 h2)];exact h4 j u hu⟩
theorem RdS.mono{B':Nat}(h:RdS B w a c l)(k:B'≤B):RdS B' w a c l:=by
 refine⟨h.1,h.2.1,h.2.2.1,fun i x hx=>?_⟩
 obtain⟨b,off,vs,rfl,h1,h2,h3,h4⟩:=h.2.2.2 i x hx
 exact⟨b,off,vs,rfl,by omega,h2,E.mono h3 k,h4⟩
theorem RdS.to{w':World}(h:RdS B w a c l)(g:b8 B w w'):RdS B w' a c l:=h.keep g
theorem RdS.nil:RdS B w none 0 ([]:List α):=⟨Nat.le_refl _,by unfold maxLen;omega,fun _=>rfl,fun i x h=>by simp at h⟩
theorem RdS.at(h:RdS B w a c l){k:Nat}(hk:k<l.length):∃ b off x vs,a=some ⟨b,off,none⟩∧LtN b w.heap.size∧Hid (l.drop k=x::l.drop (k+1))∧E.Rd B w vs x∧∀ (j:Nat) (u:Value),vs[j]?=some u→w.cell? ⟨b,off+k*E.size+j,none⟩=some u:=by
 obtain⟨x,hx,hd⟩:=ah0 hk
 obtain⟨b,off,vs,h0,-,h2,h3,h4⟩:=h.2.2.2 k x hx
 exact⟨b,off,x,vs,h0,⟨h2⟩,hd,h3,h4⟩
end
def ah3{α:Type}[E:Enc α](w:World)(x:α):Ending→World→Prop:=fun e w'=>∃ vs:List Value,e=.returned (.agg vs.toArray)∧E.Rd w.heap.size w' vs x∧∃ y:b5 w,w'=y.w
instance Enc.int:Enc Int where
 size:=1
 Rd _ _ vs n:=vs=[.int .i64 n]∧i64 n
 len h:=by rw[h.1];rfl
 keep h _:=h
 mono h _:=h
 tot _:=0
 tot_nonneg _:=Int.le_refl _
instance Enc.bool:Enc Bool where
 size:=1
 Rd _ _ vs b:=vs=[.bool b]
 len h:=by rw[h];rfl
 keep h _:=h
 mono h _:=h
 tot _:=0
 tot_nonneg _:=Int.le_refl _
instance Enc.str:Enc ByteArray where
 size:=1
 Rd _ _ vs s:=vs=[.string s]∧s.size≤9223372036854775807
 len h:=by rw[h.1];rfl
 keep h _:=h
 mono h _:=h
 tot s:=s.size
 tot_nonneg _:=by omega
/-! ### A block that is filled row by row -/
def I3{α:Type}[E:Enc α](B:Nat)(w:World)(D:Array Value)(l:List α):Prop:=∀ (i:Nat) (x:α),l[i]?=some x→∃ vs,E.Rd B w vs x∧∀ (j:Nat) (u:Value),vs[j]?=some u→D[i*E.size+j]?=some u
def aT4(D:Array Value)(p j:Nat):List Value→Array Value
 | []=>D
 | v::r=>aT4 (D.setIfInBounds (p+j) v) p (j+1) r
theorem aF3:∀ (vs:List Value) (D:Array Value) (p j i:Nat),i<p+j→(aT4 D p j vs)[i]?=D[i]?
 | [],D,p,j,i,h=>rfl
 | v::r,D,p,j,i,h=>by
  rw[aT4,aF3 r _ _ _ _ (by omega),Array.getElem?_setIfInBounds_ne (by omega)]
theorem aQ5:∀ (vs:List Value) (D:Array Value) (p j:Nat),p+j+vs.length≤D.size→∀ (i:Nat) (u:Value),vs[i]?=some u→(aT4 D p j vs)[p+j+i]?=some u
 | [],D,p,j,h,i,u,hu=>by simp at hu
 | v::r,D,p,j,h,0,u,hu=>by
  simp only[List.getElem?_cons_zero,Option.some.injEq]at hu
  subst hu
  simp only[List.length_cons]at h
  show(aT4 (D.setIfInBounds (p+j) v) p (j+1) r)[p+j]?=some v
  rw[aF3 r _ _ _ _ (by omega),Array.getElem?_setIfInBounds_self_of_lt (by omega)]
 | v::r,D,p,j,h,i+1,u,hu=>by
  simp only[List.length_cons]at h
  have:=aQ5 r (D.setIfInBounds (p+j) v) p (j+1) (by simp;omega) i u (by simpa using hu)
  rw[aT4,← this];congr 1;omega
theorem I3.nil{α:Type}[E:Enc α]{B:Nat}{w:World}{D:Array Value}:I3 B w D ([]:List α):=fun i x h=>by simp at h
theorem I3.put{α:Type}[E:Enc α]{B n k:Nat}{W W':World}{D:Array Value}{l r:List α}{x:α}{vs:List Value}(h:I3 B W D (l.take k))(hd:l.drop k=x::r)(hk:k<n)(hl:l.length=n)(hD:D.size=n*E.size)(hR:E.Rd B W' vs x)(g:b8 B W W') :
  I3 B W' (aT4 D (k*E.size) 0 vs) (l.take (k+1)):=by
 have hkx:l[k]?=some x:=by
  have:=congrArg (fun m=>m[0]?) hd
  simpa using this
 have hle:k*E.size+E.size≤n*E.size:=by rw[← Nat.succ_mul];exact Nat.mul_le_mul_right _ hk
 intro i y hy
 by_cases hi:i<k
 ·obtain⟨us,h1,h2⟩:=h i y (by rw[List.getElem?_take_of_lt (by omega)]at hy;rw[List.getElem?_take_of_lt hi];exact hy)
  refine⟨us,E.keep h1 g,fun j u hu=>?_⟩
  have hj:j<E.size:=by rw[← E.len h1];exact(List.getElem?_eq_some_iff.1 hu).1
  have:(i+1)*E.size≤k*E.size:=Nat.mul_le_mul_right _ hi
  rw[Nat.succ_mul]at this
  rw[aF3 _ _ _ _ _ (by omega)];exact h2 j u hu
 ·have hik:i=k:=by
   have:=(List.getElem?_eq_some_iff.1 hy).1
   simp at this;omega
  subst hik
  rw[List.getElem?_take_of_lt (by omega),hkx]at hy
  cases hy
  refine⟨vs,hR,fun j u hu=>?_⟩
  exact aQ5 vs D _ 0 (by rw[E.len hR];omega) j u hu
theorem b5.set5_at{W:World}{C:Array Value}{T:TypeId}(x:b5 (W.alloc (.cells C T)))(i i' i2 i3 i4:Nat)(v v' v2 v3 v4:Value) :
  ∃ y:b5 (W.alloc (.cells (((((C.setIfInBounds i v).setIfInBounds i' v').setIfInBounds i2 v2).setIfInBounds i3 v3).setIfInBounds i4 v4) T)),(((((x.set ⟨W.heap.size,i,none⟩ v).set ⟨W.heap.size,i',none⟩ v').set ⟨W.heap.size,i2,none⟩ v2).set ⟨W.heap.size,i3,none⟩ v3).set ⟨W.heap.size,i4,none⟩ v4).w=y.w :=
 b5.cast (by rw[World.setCell_alloc_at C T _ i v rfl,World.setCell_alloc_at _ T _ i' v' rfl,World.setCell_alloc_at _ T _ i2 v2 rfl,World.setCell_alloc_at _ T _ i3 v3 rfl,World.setCell_alloc_at _ T _ i4 v4 rfl]) _
theorem ah1{α:Type}[E:Enc α]{w:World}{es:List Cd}{v:Value}(hs:E.size=es.length)(hf:∀ vs,vs.length=es.length→RdL w es vs→∃ x:α,E.Rd 0 w vs x)(h:RdC w (.sl es) v) :
  ∃ a c l,v=.slice a l.length c∧RdS (α:=α) 0 w a c l:=by
 cases h with
 | nil=>exact⟨none,0,[],rfl,RdS.nil⟩
 | @sl _ a n c U h0 h1 h2 h3 h4 =>
  have:∀ i,i<n→∃ x:α,∃ vs,E.Rd 0 w vs x∧vs=(List.range es.length).map (U i):=fun i hi=>by
   obtain⟨x,hx⟩:=hf ((List.range es.length).map (U i)) (by simp) (fun j e hj=>by
    have hj':j<es.length:=(List.getElem?_eq_some_iff.1 hj).1
    exact⟨U i j,by simp[hj'],h4 i hi j e hj⟩)
   exact⟨x,_,hx,rfl⟩
  obtain⟨l,hl,hp⟩:=aS5 n this
  refine⟨some a,c,l,by rw[hl],by rw[hl];exact h1,h2,(by intro e;cases e),fun i x hx=>?_⟩
  obtain⟨vs,hR,rfl⟩:=hp i x hx
  have hi:i<n:=by rw[← hl];exact(List.getElem?_eq_some_iff.1 hx).1
  obtain⟨b,off,rfl,hb,-⟩:=h3 i hi 0 h0
  refine⟨b,off,_,rfl,Nat.zero_le _,hb,hR,fun j u hu=>?_⟩
  have hj:j<es.length:=by have:=(List.getElem?_eq_some_iff.1 hu).1;simpa using this
  simp[hj]at hu
  subst hu
  obtain⟨b',off',hbo,-,h6⟩:=h3 i hi j hj
  simp only[Addr.mk.injEq,and_true]at hbo
  obtain⟨rfl,rfl⟩:=hbo
  rw[hs,Nat.add_assoc];exact h6
theorem aO2{w:World}(vs:List Value)(hl:vs.length=1)(h:RdL w [.int] vs):∃ x:Int,Enc.Rd 0 w vs x:=by
 obtain⟨u0,g0,r0⟩:=h.at (j:=0) rfl
 obtain⟨x0,rfl,p0⟩:=r0.int_inv
 refine⟨x0,Y6 hl ?_,p0⟩
 intro j y hy
 match j,hy with
 | 0,hy=>cases hy;exact g0
theorem bO1{w:World}(vs:List Value)(hl:vs.length=1)(h:RdL w [.bool] vs):∃ x:Bool,Enc.Rd 0 w vs x:=by
 obtain⟨u0,g0,r0⟩:=h.at (j:=0) rfl
 obtain⟨x0,rfl⟩:=r0.bool_inv
 refine⟨x0,Y6 hl ?_⟩
 intro j y hy
 match j,hy with
 | 0,hy=>cases hy;exact g0
theorem aO3{w:World}(vs:List Value)(hl:vs.length=1)(h:RdL w [.str] vs):∃ x:ByteArray,Enc.Rd 0 w vs x:=by
 obtain⟨u0,g0,r0⟩:=h.at (j:=0) rfl
 obtain⟨x0,rfl,p0⟩:=r0.str_inv
 refine⟨x0,Y6 hl ?_,by unfold maxLen at p0;omega⟩
 intro j y hy
 match j,hy with
 | 0,hy=>cases hy;exact g0
def szD(left:Int)(t:Int):Int:=if left - t<0 then -1 else left - t
theorem j8{l t:Int}(h:l - t<0):szD l t=-1:=if_pos h
theorem B7{l t:Int}(h:¬ l - t<0):szD l t=l - t:=if_neg h
theorem tm{α:Type}[Enc α]{l:List α}{b:Int}(h:d7 l≤b):∀ x∈l,Enc.tot x≤b:=fun _ hx=>Int.le_trans (ae9 hx) h
