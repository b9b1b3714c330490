/- The contracts of AddPair. No condition but on lengths. A store into one block and the cells of another, by instances. No condition. -/
import Derived.Test.YtdinhfeflobafaaGreatSSlots2
import Derived.Test.YtdinhfeflobafaaGreatSM0
import Derived.Test.YtdinhfeflobafaaGreatSHeld
import Derived.Deep.RegionHeld3
import Derived.Deep.MidRow
import Derived.Shelf.Abstract
namespace Go.Proofs.YtdinhfeflobafaaGreat
set_option linter.unusedVariables false
open Go.ChangeShapes Go.WideShapes Go.ChangeAt Go.RowKit
theorem encPair_one(x:Pair):∀ u∈encPair x,u.oneCell'=true:=by
 intro u hu
 simp only[encPair,List.mem_cons,List.not_mem_nil,or_false]at hu
 rcases hu with rfl|rfl<;>rfl
theorem c_clonePair{a:Option Addr}{n c:Nat}{l:List Pair}{w:World}(hs:Sl encPair w a l)(hn:l.length=n)(hm:n≤100000000) :
  Calls Tryz.prog 135 #[.slice a n c] w (GivesSl encPair 221 2 w l):=by
 cases a with
 | none =>
  have hl:l=[]:=by
   cases l with
   | nil=>rfl
   | cons y r=>obtain⟨b,off,h0,-⟩:=hs 0 y rfl;cases h0
  have hq:=fun(w:World)=>run_eql_slice_nil (P:=Tryz.prog) w 72 221 none n c Tryz.underlying72
  simp only[Option.isNone]at hq
  have HL:=lH hl;clear hl
  go_enter Tryz.func135,Tryz.ntmps135
  go_wp2_with (first|((with_reducible refine wp_region_later (by kernel_rfl) (by kernel_rfl) ?_);(repeat(first|go_big_quiet_step (first|fail)));refine wpQuiet_nil ?_;rintro _ ⟨x,rfl⟩))
  go_ret
  exact GivesSl.nilOf encPair_len HL.out
 | some ad =>
  have hq:=fun(w:World)=>run_eql_slice_nil (P:=Tryz.prog) w 72 221 (some ad) n c Tryz.underlying72
  simp only[Option.isNone]at hq
  go_enter Tryz.func135,Tryz.ntmps135
  go_wp2_with (first|((with_reducible refine wp_region_later (by kernel_rfl) (by kernel_rfl) ?_);(repeat(first|go_big_quiet_step (first|fail)));refine wpQuiet_nil ?_;rintro _ ⟨x,rfl⟩)|(at_builtin;refine wpList_appS (enc:=encPair) (w0:=w) (z:=.agg #[.int .i64 0,.int .i64 0]) (size:=2) (bytes:=16) (n:=0) (l:=[]) rfl (.tmp 5) (.tmp 6) rfl Tryz.underlying72 (by kernel_rfl) rfl (by decide) (by decide) rfl rfl (fun h=>by cases h) rfl hn (Own.emptyAt encPair_len (Nat.le_refl _) rfl) (hs.to inferInstance) encPair_one (by omega) ?_;intro sa1 sc1 x1 hown1 hgr1))
  go_ret
  rw[List.nil_append]at hown1
  exact⟨sa1,sc1,by rw[hn];first|rfl|simp,hown1,Later.of⟩
class NeN(a b:Nat):Prop where
 out:a≠b
instance(priority:=60) NeN.ofLt (a b:Nat)[h:LtN a b]:NeN a b:=⟨Nat.ne_of_lt h.out⟩
instance(priority:=55) NeN.ofGt (a b:Nat)[h:LtN b a]:NeN a b:=⟨Nat.ne_of_gt h.out⟩
theorem cell_farH(W:World)(b i b' j:Nat)(v:Value)(h:b≠b'):(W.setCell ⟨b,i,none⟩ v).cell? ⟨b',j,none⟩=W.cell? ⟨b',j,none⟩:=World.cell?_setCell_far W ⟨b,i,none⟩ ⟨b',j,none⟩ v h
@[go_sem] theorem cell_farN(W:World)(b i b' j:Nat)(v:Value)[h:NeN b b']:(W.setCell ⟨b,i,none⟩ v).cell? ⟨b',j,none⟩=W.cell? ⟨b',j,none⟩:=cell_farH W b i b' j v h.out
namespace Later
variable {W:World}
@[go_sem] theorem set_cell_far(x:Later W)(b i b' j:Nat)(v:Value)[h:NeN b b']:(x.set ⟨b,i,none⟩ v).w.cell? ⟨b',j,none⟩=x.w.cell? ⟨b',j,none⟩:=cell_farH x.w b i b' j v h.out
@[go_sem] theorem set_frozen(x:Later W)(b i:Nat)(v:Value)(p:Addr):(x.set ⟨b,i,none⟩ v).w.frozen? p=x.w.frozen? p:=by simp[Later.set]
end Later
instance Grows.setL(a:World){W:World}(x:Later W)(b i:Nat)(v:Value)[h:Grows a x.w][k:LeN a.heap.size b]:Grows a (x.set ⟨b,i,none⟩ v).w:=⟨h.out.setCell k.out v⟩
class SzN(g:Nat)(W:World):Prop where
 out:W.heap.size=g
instance SzN.same(W:World):SzN W.heap.size W:=⟨rfl⟩
instance SzN.set(g:Nat){W:World}(x:Later W)(p:Addr)(v:Value)[h:SzN g x.w]:SzN g (x.set p v).w:=⟨by have:=h.out;simpa[Later.set]using this⟩
instance SzN.setCell(g:Nat)(W:World)(p:Addr)(v:Value)[h:SzN g W]:SzN g (W.setCell p v):=⟨by have:=h.out;simpa using this⟩
instance SzN.drew(g:Nat)(W:World)[h:SzN g W]:SzN g W.drew:=⟨h.out⟩
@[go_sem] theorem cell_newN(W:World)(C:Array Value)(T:TypeId)(g i:Nat)[h:SzN g W]:(W.alloc (.cells C T)).cell? ⟨g,i,none⟩=C[i]?:=by
 have:=blk_alloc W (.cells C T) g h.out
 simp[World.cell?,this]
@[go_sem] theorem frozen_newN(W:World)(C:Array Value)(T:TypeId)(g i:Nat)[h:SzN g W]:(W.alloc (.cells C T)).frozen? ⟨g,i,none⟩=false:=by
 have:=blk_alloc W (.cells C T) g h.out
 simp[World.frozen?,this]
class Keeps(B:Nat)(w w':World):Prop where
 size:w.heap.size≤w'.heap.size
 block:∀ b,B≤b→b<w.heap.size→w'.heap[b]?=w.heap[b]?
instance(priority:=2000) Keeps.same (B:Nat)(w:World):Keeps B w w:=⟨Nat.le_refl _,fun _ _ _=>rfl⟩
theorem Keeps.trans{B:Nat}{a b c:World}(h:Keeps B a b)(k:Keeps B b c):Keeps B a c:=⟨Nat.le_trans h.size k.size,fun i h1 h2=>(k.block i h1 (Nat.lt_of_lt_of_le h2 h.size)).trans (h.block i h1 h2)⟩
theorem Keeps.later'{B:Nat}{w W:World}(h:Keeps B w W)(x:Later W):Keeps B w x.w:=h.trans ⟨x.h.size,fun b _ h2=>x.h.block b h2⟩
instance(priority:=1500) Keeps.andThenSelf (B:Nat){W:World}(x:Later W)(y:Later x.w):Keeps B y.w (x.andThen y).w:=⟨Nat.le_refl _,fun _ _ _=>rfl⟩
instance(priority:=1400) Keeps.andThenMid (B:Nat){W:World}(x:Later W)(y:Later x.w):Keeps B x.w (x.andThen y).w:=⟨y.h.size,fun b _ h2=>y.h.block b h2⟩
instance(priority:=1300) Keeps.andThen (B:Nat)(a:World){W:World}(x:Later W)(y:Later x.w)[h:Keeps B a x.w]:Keeps B a (x.andThen y).w:=h.later' y
instance(priority:=1200) Keeps.drawn (B:Nat)(a:World){W:World}(x:Later W)[h:Keeps B a x.w]:Keeps B a x.draw.w:=⟨h.size,h.block⟩
instance(priority:=1200) Keeps.drew (B:Nat)(a w:World)[h:Keeps B a w]:Keeps B a w.drew:=⟨h.size,h.block⟩
theorem Keeps.set'{B:Nat}{a w:World}(h:Keeps B a w)(b i:Nat)(v:Value)(k:b<B):Keeps B a (w.setCell ⟨b,i,none⟩ v):=⟨by simpa using h.size,fun c h1 h2=>by
 rw[Below.heap_setCell _ _ _ _ (fun e=>by simp only at e;omega)];exact h.block c h1 h2⟩
instance(priority:=1200) Keeps.setCell (B:Nat)(a w:World)(b i:Nat)(v:Value)[h:Keeps B a w][k:LtN b B]:Keeps B a (w.setCell ⟨b,i,none⟩ v):=h.set' b i v k.out
instance(priority:=1200) Keeps.setL (B:Nat)(a:World){W:World}(x:Later W)(b i:Nat)(v:Value)[h:Keeps B a x.w][k:LtN b B]:Keeps B a (x.set ⟨b,i,none⟩ v).w:=h.set' b i v k.out
instance(priority:=1250) Keeps.setL8 (B:Nat)(a:World){W:World}(x:Later W)(b i0 i1 i2 i3 i4 i5 i6 i7:Nat)(v0 v1 v2 v3 v4 v5 v6 v7:Value)[h:Keeps B a x.w][k:LtN b B]:Keeps B a ((((((((x.set ⟨b,i0,none⟩ v0).set ⟨b,i1,none⟩ v1).set ⟨b,i2,none⟩ v2).set ⟨b,i3,none⟩ v3).set ⟨b,i4,none⟩ v4).set ⟨b,i5,none⟩ v5).set ⟨b,i6,none⟩ v6).set ⟨b,i7,none⟩ v7).w :=
 (((((((h.set' b i0 v0 k.out).set' b i1 v1 k.out).set' b i2 v2 k.out).set' b i3 v3 k.out).set' b i4 v4 k.out).set' b i5 v5 k.out).set' b i6 v6 k.out).set' b i7 v7 k.out
instance(priority:=1200) Keeps.alloc (B:Nat)(a w:World)(o:Obj)[h:Keeps B a w]:Keeps B a (w.alloc o):=⟨by have:=h.size;simp;omega,fun b h1 h2=>by rw[Below.heap_alloc _ _ _ (Nat.lt_of_lt_of_le h2 h.size)];exact h.block b h1 h2⟩
instance(priority:=1000) Keeps.later (B:Nat)(a:World){W:World}(x:Later W)[h:Keeps B a W]:Keeps B a x.w:=h.later' x
instance(priority:=100) Keeps.grows (B:Nat)(w W:World)[h:Grows w W]:Keeps B w W:=⟨h.out.size,fun b _ h2=>h.out.block b h2⟩
class Enc(α:Type) where
 size:Nat
 Rd:Nat→World→List Value→α→Prop
 len:∀ {B w vs x},Rd B w vs x→vs.length=size
 keep:∀ {B w w' vs x},Rd B w vs x→Keeps B w w'→Rd B w' vs x
 mono:∀ {B B' w vs x},Rd B w vs x→B'≤B→Rd B' w vs x
 tot:α→Int
 tot_nonneg:∀ x,0≤tot x
def totL{α:Type}[Enc α]:List α→Int
 | []=>0
 | x::r=>1+Enc.tot x+totL r
theorem totL_len{α:Type}[Enc α](l:List α):(l.length:Int)≤totL l:=by
 induction l with
 | nil=>simp[totL]
 | cons x r ih=>have:=Enc.tot_nonneg x;simp only[totL,List.length_cons];omega
theorem totL_nonneg{α:Type}[Enc α](l:List α):0≤totL l:=by have:=totL_len l;omega
theorem totL_mem{α:Type}[Enc α]{l:List α}{x:α}(h:x∈l):Enc.tot x≤totL l:=by
 induction l with
 | nil=>cases h
 | cons y r ih =>
  have h1:=totL_nonneg r;have h2:=Enc.tot_nonneg y
  simp only[totL]
  rcases List.mem_cons.1 h with rfl|h
  ·omega
  ·have:=ih h;omega
def RdS{α:Type}[E:Enc α](B:Nat)(w:World)(a:Option Addr)(c:Nat)(l:List α):Prop :=
 l.length≤c∧c≤maxLen∧(a=none→c=0)∧∀ (i:Nat) (x:α),l[i]?=some x→∃ b off vs,a=some ⟨b,off,none⟩∧B≤b∧b<w.heap.size∧E.Rd B w vs x∧∀ (j:Nat) (u:Value),vs[j]?=some u→w.cell? ⟨b,off+i*E.size+j,none⟩=some u
section
variable {α:Type} [E:Enc α] {B:Nat} {w:World} {a:Option Addr} {c:Nat} {l:List α}
theorem RdS.cap(h:RdS B w a c l):l.length≤c:=h.1
theorem RdS.nilcap(h:RdS B w a c l):a=none→c=0:=h.2.2.1
theorem RdS.keep{w':World}(h:RdS B w a c l)(k:Keeps B w w'):RdS B w' a c l:=by
 refine⟨h.1,h.2.1,h.2.2.1,fun i x hx=>?_⟩
 obtain⟨b,off,vs,rfl,h1,h2,h3,h4⟩:=h.2.2.2 i x hx
 exact⟨b,off,vs,rfl,h1,Nat.lt_of_lt_of_le h2 k.size,E.keep h3 k,fun j u hu=>by rw[World.cell?_of_block (w:=w) (k.block b h1 h2)];exact h4 j u hu⟩
theorem RdS.mono{B':Nat}(h:RdS B w a c l)(k:B'≤B):RdS B' w a c l:=by
 refine⟨h.1,h.2.1,h.2.2.1,fun i x hx=>?_⟩
 obtain⟨b,off,vs,rfl,h1,h2,h3,h4⟩:=h.2.2.2 i x hx
 exact⟨b,off,vs,rfl,by omega,h2,E.mono h3 k,h4⟩
theorem RdS.to{w':World}(h:RdS B w a c l)(g:Keeps B w w'):RdS B w' a c l:=h.keep g
theorem RdS.nil:RdS B w none 0 ([]:List α):=⟨Nat.le_refl _,by unfold maxLen;omega,fun _=>rfl,fun i x h=>by simp at h⟩
theorem RdS.at(h:RdS B w a c l){k:Nat}(hk:k<l.length):∃ b off x vs,a=some ⟨b,off,none⟩∧LtN b w.heap.size∧Hid (l.drop k=x::l.drop (k+1))∧E.Rd B w vs x∧∀ (j:Nat) (u:Value),vs[j]?=some u→w.cell? ⟨b,off+k*E.size+j,none⟩=some u:=by
 obtain⟨x,hx,hd⟩:=drop_at hk
 obtain⟨b,off,vs,h0,-,h2,h3,h4⟩:=h.2.2.2 k x hx
 exact⟨b,off,x,vs,h0,⟨h2⟩,hd,h3,h4⟩
end
instance Enc.int:Enc Int where
 size:=1
 Rd _ _ vs n:=vs=[.int .i64 n]∧i64 n
 len h:=by rw[h.1];rfl
 keep h _:=h
 mono h _:=h
 tot _:=0
 tot_nonneg _:=Int.le_refl _
instance Enc.bool:Enc Bool where
 size:=1
 Rd _ _ vs b:=vs=[.bool b]
 len h:=by rw[h];rfl
 keep h _:=h
 mono h _:=h
 tot _:=0
 tot_nonneg _:=Int.le_refl _
instance Enc.str:Enc ByteArray where
 size:=1
 Rd _ _ vs s:=vs=[.string s]∧s.size≤9223372036854775807
 len h:=by rw[h.1];rfl
 keep h _:=h
 mono h _:=h
 tot s:=s.size
 tot_nonneg _:=by omega
/-! ### A block that is filled row by row -/
def RowsIn{α:Type}[E:Enc α](B:Nat)(w:World)(D:Array Value)(l:List α):Prop:=∀ (i:Nat) (x:α),l[i]?=some x→∃ vs,E.Rd B w vs x∧∀ (j:Nat) (u:Value),vs[j]?=some u→D[i*E.size+j]?=some u
def splice:List Value→Nat→List Value→List Value
 | cs,_,[]=>cs
 | cs,o,v::r=>splice (cs.set o v) (o+1) r
theorem Held.setCells{b:Nat}{T:TypeId}:∀ (us:List Value) {w:World} {cs:List Value} (o:Nat),Held w b cs T→Held (w.setCells b o us) b (splice cs o us) T
 | [],_,_,_,h=>h
 | v::r,_,_,o,h=>(h.set o v).setCells r (o+1)
theorem below_setCells{B b:Nat}(hb:B≤b):∀ (us:List Value) {a w:World} (o:Nat),Below B a w→Below B a (w.setCells b o us)
 | [],_,_,_,h=>h
 | v::r,_,_,o,h=>below_setCells hb r (o+1) (h.setCell hb v)
theorem Held.range{w:World}{b:Nat}{cs row:List Value}{T:TypeId}(h:Held w b cs T){o n:Nat}(hr:(cs.drop o).take n=row):w.rangeAt b o row:=fun j v hv=>by
 rw[h.cell,← hv,← hr]
 have hj:j<n:=by
  have:=(List.getElem?_eq_some_iff.1 hv).1
  rw[← hr]at this
  simp at this;omega
 rw[List.getElem?_take_of_lt hj,List.getElem?_drop]
theorem Held.there{w:World}{b:Nat}{cs:List Value}{T:TypeId}(h:Held w b cs T){o n:Nat}(hn:o+n≤cs.length):w.there b o n:=fun j hj=>by
 rw[h.cell,h.free,List.getElem?_eq_getElem (by omega)]
 exact⟨rfl,rfl⟩
section
variable {P:Program} {ops:Array Oper} {rest:List Oper} {op:Oper} {a:Act} {w:World} {Q:Exit→Act→World→Prop}
theorem run_storeVar_held{b o ty:Nat}{v:Value}{us:List Value}(hv:v.cells.toList=us)(ht:w.there b o us.length)(hi:(P.info? ty).map (·.size)=some us.length)(h1:∀ u∈us,u.oneCell'=true) :
  (storeVar ty ⟨b,o,none⟩ v).run P w=.ok () (w.setCells b o us):=by
 have:=run_storeCells_cells (P:=P) b o us 0 w (fun j hj=>by simpa using(ht j hj).1) (fun j hj=>by simpa using(ht j hj).2) h1
 have hvs:v.cells.size=us.length:=by rw[← hv,Array.length_toList]
 cases hq:P.info? ty with
 | none=>simp[hq]at hi
 | some i =>
  have hs:us.length=i.size:=by simp[hq]at hi;omega
  simp only[Nat.add_zero]at this
  simp[storeVar,sizeOf,typeInfo,hq,hvs,hs,hv,this]
theorem stepLoad(hgd:op.guard=none)(ty:TypeId)(x:Operand)(ho:op.op=.load ty x)(b o:Nat)(hx:a.eval x=.pointer (some ⟨b,o,none⟩)){cs row:List Value}{T:TypeId}(H:Held w b cs T)
  (d:TypeDesc) (hu:P.underlying ty=some d) (hd:d.isRow=true) (hi:(P.info? ty).map (·.size)=some row.length) (hr:(cs.drop o).take row.length=row)
  (h:wpList P ops Q rest (a.put op.dst (.agg row.toArray)) w):wpList P ops Q (op::rest) a w :=
 wpList_load_mid hgd ty x ho b o hx row d (H.range hr) hu hd hi h
theorem results_cell{fn:Func}{p t:Nat}(hf:fn.results=#[.cell p t]){tmps:Array Value}{b:Nat}(hp:tmps.getD p undef=.pointer (some ⟨b,0,none⟩)){cs:List Value}{T:TypeId}(H:Held w b cs T)
  (d:TypeDesc) (hu:P.underlying t=some d) (hd:d.isRow=true) (hi:(P.info? t).map (·.size)=some cs.length):(results fn tmps).run P w=.ok (.agg cs.toArray) w:=by
 have:=run_loadVar_mid w b 0 t cs d (H.range (o:=0) (n:=cs.length) (by simp)) hu hd hi
 have hp2:tmps[p]?.getD undef=.pointer (some ⟨b,0,none⟩):=by rw[← hp];simp[Array.getD_eq_getD_getElem?]
 simp[results,hf,hp2,asAddr,this]
end
structure But(b:Nat)(w w':World):Prop where
 size:w.heap.size≤w'.heap.size
 block:∀ k,k≠b→k<w.heap.size→w'.heap[k]?=w.heap[k]?
theorem But.setCells{b:Nat}:∀ (us:List Value) {a w:World} (o:Nat),But b a w→But b a (w.setCells b o us)
 | [],_,_,_,h=>h
 | v::r,_,w,o,h=>But.setCells r (o+1) ⟨by simpa using h.size,fun k h1 h2=>by
  rw[Below.heap_setCell _ _ _ _ (fun e=>h1 (by simpa using e))];exact h.block k h1 h2⟩
theorem But.under{B b:Nat}{u w w':World}(h:But b w w')(g:Keeps B u w)(hb:u.heap.size≤b):Keeps B u w':=⟨Nat.le_trans g.size h.size,fun k h1 h2=>by
 rw[h.block k (by omega) (Nat.lt_of_lt_of_le h2 g.size)];exact g.block k h1 h2⟩
theorem But.above{b:Nat}{w w':World}(h:But b w w'):Keeps (b+1) w w':=⟨h.size,fun k h1 h2=>h.block k (by omega) h2⟩
theorem Held.but{b c:Nat}{w w':World}{cs:List Value}{T:TypeId}(h:Held w c cs T)(g:But b w w')(hne:c≠b):Held w' c cs T:=by
 unfold Held
 rw[g.block c hne h.lt];exact h
section
variable {P:Program} {ops:Array Oper} {rest:List Oper} {op:Oper} {a:Act} {w:World} {Q:Exit→Act→World→Prop}
theorem stepStore2(hgd:op.guard=none)(ty:TypeId)(x y:Operand)(ho:op.op=.store ty x y)(b o:Nat)(hx:a.eval x=.pointer (some ⟨b,o,none⟩)){cs us cs2:List Value}{T:TypeId}(H:Held w b cs T)
  (hv:(a.eval y).cells.toList=us) (hi:(P.info? ty).map (·.size)=some us.length) (h1:us.all (·.oneCell')=true) (hl:o+us.length≤cs.length) (hcs:splice cs o us=cs2) {w0:World} (g:Grows w0 w) (hb:w0.heap.size≤b)
  (h:∀ z:Later w0,Held z.w b cs2 T→But b w z.w→wpList P ops Q rest (a.put op.dst undef) z.w):wpList P ops Q (op::rest) a w:=by
 subst hcs
 refine wpList_plain hgd fun _ hK=>?_
 unfold Oper.wp execOp
 simp only[ho,hx,Instr.storeAt,Instr.sureAddr,Sem.run_bind,Sem.run_pure,Result.andThen_ok,run_storeVar_held hv (H.there hl) hi (fun u hu=>List.all_eq_true.1 h1 u hu)]
 exact hK _ _ (h ⟨_,below_setCells hb us o g.out⟩ (H.setCells us o) (But.setCells us o ⟨Nat.le_refl _,fun _ _ _=>rfl⟩))
end
theorem splice_pre:∀ (us pre post:List Value),us.length=post.length→splice (pre++post) pre.length us=pre++us
 | [],pre,post,h=>by
  have:post=[]:=List.length_eq_zero_iff.1 h.symm
  subst this;rfl
 | v::r,pre,[],h=>by simp at h
 | v::r,pre,u::post,h=>by
  have:=splice_pre r (pre++[v]) post (by simpa using h)
  rw[splice]
  rw[List.set_append_right _ _ (Nat.le_refl _),Nat.sub_self,List.set_cons_zero]
  simpa using this
theorem splice_all{cs us:List Value}(h:us.length=cs.length):splice cs 0 us=us:=splice_pre us [] cs h
theorem RdS.atInt{B:Nat}{w:World}{a:Option Addr}{c:Nat}{l:List Int}(h:RdS B w a c l){k:Nat}(hk:k<l.length) :
  ∃ b off x,a=some ⟨b,off,none⟩∧LtN b w.heap.size∧Hid (l.drop k=x::l.drop (k+1))∧i64 x∧(∀ (W:World) [Grows w W],W.cell? ⟨b,off+k,none⟩=some (.int .i64 x)):=by
 obtain⟨b,off,x,vs,h0,h1,h2,⟨rfl,q⟩,hc⟩:=h.at hk
 have:=hc 0 _ rfl
 rw[show off+k*Enc.size Int+0=off+k from by rw[show Enc.size Int=1 from rfl];omega]at this
 exact⟨b,off,x,h0,h1,h2,q,cell_grown h1.out this⟩
theorem RdS.atBool{B:Nat}{w:World}{a:Option Addr}{c:Nat}{l:List Bool}(h:RdS B w a c l){k:Nat}(hk:k<l.length) :
  ∃ b off x,a=some ⟨b,off,none⟩∧LtN b w.heap.size∧Hid (l.drop k=x::l.drop (k+1))∧(∀ (W:World) [Grows w W],W.cell? ⟨b,off+k,none⟩=some (.bool x)):=by
 obtain⟨b,off,x,vs,h0,h1,h2,rfl,hc⟩:=h.at hk
 have:=hc 0 _ rfl
 rw[show off+k*Enc.size Bool+0=off+k from by rw[show Enc.size Bool=1 from rfl];omega]at this
 exact⟨b,off,x,h0,h1,h2,cell_grown h1.out this⟩
theorem RdS.atStr{B:Nat}{w:World}{a:Option Addr}{c:Nat}{l:List ByteArray}(h:RdS B w a c l){k:Nat}(hk:k<l.length) :
  ∃ b off x,a=some ⟨b,off,none⟩∧LtN b w.heap.size∧Hid (l.drop k=x::l.drop (k+1))∧x.size≤9223372036854775807∧(∀ (W:World) [Grows w W],W.cell? ⟨b,off+k,none⟩=some (.string x)):=by
 obtain⟨b,off,x,vs,h0,h1,h2,⟨rfl,q⟩,hc⟩:=h.at hk
 have:=hc 0 _ rfl
 rw[show off+k*Enc.size ByteArray+0=off+k from by rw[show Enc.size ByteArray=1 from rfl];omega]at this
 exact⟨b,off,x,h0,h1,h2,q,cell_grown h1.out this⟩
structure TChannel where
 Seed:Int
 Burst:Int
 Loss:Int
def okDTChannel(x:TChannel):Prop:=i64 x.Seed∧i64 x.Burst∧i64 x.Loss∧True
instance:Enc TChannel where
 size:=3
 Rd B w vs x:=vs=[.int .i64 x.Seed,.int .i64 x.Burst,.int .i64 x.Loss]∧okDTChannel x
 len:=by rintro _ _ _ _ ⟨rfl,hok⟩;rfl
 keep:=by rintro _ _ _ _ _ ⟨rfl,hok⟩ g;exact⟨rfl,hok⟩
 mono:=by rintro _ _ _ _ _ ⟨rfl,hok⟩ g;exact⟨rfl,hok⟩
 tot x:=0
 tot_nonneg x:=by exact Int.le_refl _
structure TPacker where
 Channel:Int
 Count:Int
 Rest:ByteArray
 Starts:List Int
def okDTPacker(x:TPacker):Prop:=i64 x.Channel∧i64 x.Count∧x.Rest.size≤9223372036854775807∧True
instance:Enc TPacker where
 size:=4
 Rd B w vs x:=∃ (a0:Option Addr) (c0:Nat),vs=[.int .i64 x.Channel,.int .i64 x.Count,.string x.Rest,.slice a0 x.Starts.length c0]∧RdS B w a0 c0 x.Starts∧okDTPacker x
 len:=by rintro _ _ _ _ ⟨a0,c0,rfl,q0,hok⟩;rfl
 keep:=by rintro _ _ _ _ _ ⟨a0,c0,rfl,q0,hok⟩ g;exact⟨a0,c0,rfl,q0.keep g,hok⟩
 mono:=by rintro _ _ _ _ _ ⟨a0,c0,rfl,q0,hok⟩ g;exact⟨a0,c0,rfl,q0.mono g,hok⟩
 tot x:=(x.Rest.size:Int)+totL x.Starts
 tot_nonneg x:=by have h0:=totL_nonneg x.Starts;omega
structure TUnpacker where
 Channel:Int
 Next:Int
 Synced:Bool
 Rest:ByteArray
 Lost:Int
def okDTUnpacker(x:TUnpacker):Prop:=i64 x.Channel∧i64 x.Next∧x.Rest.size≤9223372036854775807∧i64 x.Lost∧True
instance:Enc TUnpacker where
 size:=5
 Rd B w vs x:=vs=[.int .i64 x.Channel,.int .i64 x.Next,.bool x.Synced,.string x.Rest,.int .i64 x.Lost]∧okDTUnpacker x
 len:=by rintro _ _ _ _ ⟨rfl,hok⟩;rfl
 keep:=by rintro _ _ _ _ _ ⟨rfl,hok⟩ g;exact⟨rfl,hok⟩
 mono:=by rintro _ _ _ _ _ ⟨rfl,hok⟩ g;exact⟨rfl,hok⟩
 tot x:=(x.Rest.size:Int)
 tot_nonneg x:=by omega
structure TSent where
 Seq:Int
 Data:ByteArray
def okDTSent(x:TSent):Prop:=i64 x.Seq∧x.Data.size≤9223372036854775807∧True
instance:Enc TSent where
 size:=2
 Rd B w vs x:=vs=[.int .i64 x.Seq,.string x.Data]∧okDTSent x
 len:=by rintro _ _ _ _ ⟨rfl,hok⟩;rfl
 keep:=by rintro _ _ _ _ _ ⟨rfl,hok⟩ g;exact⟨rfl,hok⟩
 mono:=by rintro _ _ _ _ _ ⟨rfl,hok⟩ g;exact⟨rfl,hok⟩
 tot x:=(x.Data.size:Int)
 tot_nonneg x:=by omega
theorem RdS.atTSent{B:Nat}{w:World}{a:Option Addr}{c:Nat}{l:List TSent}(h:RdS B w a c l){k:Nat}(hk:k<l.length) :
  ∃ b off x,a=some ⟨b,off,none⟩∧LtN b w.heap.size∧Hid (l.drop k=x::l.drop (k+1))∧okDTSent x∧(∀ (W:World) [Grows w W],W.cell? ⟨b,off+k*2,none⟩=some (.int .i64 x.Seq))∧(∀ (W:World) [Grows w W],W.cell? ⟨b,off+k*2+1,none⟩=some (.string x.Data)):=by
 obtain⟨b,off,x,vs,h0,h1,h2,⟨rfl,hok⟩,hc⟩:=h.at hk
 exact⟨b,off,x,h0,h1,h2,hok,cell_grown h1.out (hc 0 _ rfl),cell_grown h1.out (hc 1 _ rfl)⟩
structure TSender where
 Next:Int
 Window:Int
 Waiting:List TSent
 Done:Int
def okDTSender(x:TSender):Prop:=i64 x.Next∧i64 x.Window∧i64 x.Done∧True
instance:Enc TSender where
 size:=4
 Rd B w vs x:=∃ (a0:Option Addr) (c0:Nat),vs=[.int .i64 x.Next,.int .i64 x.Window,.slice a0 x.Waiting.length c0,.int .i64 x.Done]∧RdS B w a0 c0 x.Waiting∧okDTSender x
 len:=by rintro _ _ _ _ ⟨a0,c0,rfl,q0,hok⟩;rfl
 keep:=by rintro _ _ _ _ _ ⟨a0,c0,rfl,q0,hok⟩ g;exact⟨a0,c0,rfl,q0.keep g,hok⟩
 mono:=by rintro _ _ _ _ _ ⟨a0,c0,rfl,q0,hok⟩ g;exact⟨a0,c0,rfl,q0.mono g,hok⟩
 tot x:=totL x.Waiting
 tot_nonneg x:=by have h0:=totL_nonneg x.Waiting;omega
structure TReceiver where
 Expect:Int
 Locked:Bool
 Again:Bool
 Taken:Int
def okDTReceiver(x:TReceiver):Prop:=i64 x.Expect∧i64 x.Taken∧True
instance:Enc TReceiver where
 size:=4
 Rd B w vs x:=vs=[.int .i64 x.Expect,.bool x.Locked,.bool x.Again,.int .i64 x.Taken]∧okDTReceiver x
 len:=by rintro _ _ _ _ ⟨rfl,hok⟩;rfl
 keep:=by rintro _ _ _ _ _ ⟨rfl,hok⟩ g;exact⟨rfl,hok⟩
 mono:=by rintro _ _ _ _ _ ⟨rfl,hok⟩ g;exact⟨rfl,hok⟩
 tot x:=0
 tot_nonneg x:=by exact Int.le_refl _
structure TNotice where
 Expect:Int
 Locked:Bool
 Again:Bool
def okDTNotice(x:TNotice):Prop:=i64 x.Expect∧True
instance:Enc TNotice where
 size:=3
 Rd B w vs x:=vs=[.int .i64 x.Expect,.bool x.Locked,.bool x.Again]∧okDTNotice x
 len:=by rintro _ _ _ _ ⟨rfl,hok⟩;rfl
 keep:=by rintro _ _ _ _ _ ⟨rfl,hok⟩ g;exact⟨rfl,hok⟩
 mono:=by rintro _ _ _ _ _ ⟨rfl,hok⟩ g;exact⟨rfl,hok⟩
 tot x:=0
 tot_nonneg x:=by exact Int.le_refl _
structure TOrder where
 Kind:Int
 At:Int
 A:Int
 B:Int
def okDTOrder(x:TOrder):Prop:=i64 x.Kind∧i64 x.At∧i64 x.A∧i64 x.B∧True
instance:Enc TOrder where
 size:=4
 Rd B w vs x:=vs=[.int .i64 x.Kind,.int .i64 x.At,.int .i64 x.A,.int .i64 x.B]∧okDTOrder x
 len:=by rintro _ _ _ _ ⟨rfl,hok⟩;rfl
 keep:=by rintro _ _ _ _ _ ⟨rfl,hok⟩ g;exact⟨rfl,hok⟩
 mono:=by rintro _ _ _ _ _ ⟨rfl,hok⟩ g;exact⟨rfl,hok⟩
 tot x:=0
 tot_nonneg x:=by exact Int.le_refl _
structure TRecord where
 Id:Int
 Priority:Int
 Time:Int
 Data:ByteArray
def okDTRecord(x:TRecord):Prop:=i64 x.Id∧i64 x.Priority∧i64 x.Time∧x.Data.size≤9223372036854775807∧True
instance:Enc TRecord where
 size:=4
 Rd B w vs x:=vs=[.int .i64 x.Id,.int .i64 x.Priority,.int .i64 x.Time,.string x.Data]∧okDTRecord x
 len:=by rintro _ _ _ _ ⟨rfl,hok⟩;rfl
 keep:=by rintro _ _ _ _ _ ⟨rfl,hok⟩ g;exact⟨rfl,hok⟩
 mono:=by rintro _ _ _ _ _ ⟨rfl,hok⟩ g;exact⟨rfl,hok⟩
 tot x:=(x.Data.size:Int)
 tot_nonneg x:=by omega
theorem RdS.atTRecord{B:Nat}{w:World}{a:Option Addr}{c:Nat}{l:List TRecord}(h:RdS B w a c l){k:Nat}(hk:k<l.length) :
  ∃ b off x,a=some ⟨b,off,none⟩∧LtN b w.heap.size∧Hid (l.drop k=x::l.drop (k+1))∧okDTRecord x∧(∀ (W:World) [Grows w W],W.cell? ⟨b,off+k*4,none⟩=some (.int .i64 x.Id))∧(∀ (W:World) [Grows w W],W.cell? ⟨b,off+k*4+1,none⟩=some (.int .i64 x.Priority))∧(∀ (W:World) [Grows w W],W.cell? ⟨b,off+k*4+2,none⟩=some (.int .i64 x.Time))∧(∀ (W:World) [Grows w W],W.cell? ⟨b,off+k*4+3,none⟩=some (.string x.Data)):=by
 obtain⟨b,off,x,vs,h0,h1,h2,⟨rfl,hok⟩,hc⟩:=h.at hk
 exact⟨b,off,x,h0,h1,h2,hok,cell_grown h1.out (hc 0 _ rfl),cell_grown h1.out (hc 1 _ rfl),cell_grown h1.out (hc 2 _ rfl),cell_grown h1.out (hc 3 _ rfl)⟩
structure TRecorder where
 Room:Int
 Records:List TRecord
 Dropped:List Int
def okDTRecorder(x:TRecorder):Prop:=i64 x.Room∧True
instance:Enc TRecorder where
 size:=3
 Rd B w vs x:=∃ (a0:Option Addr) (c0:Nat),∃ (a1:Option Addr) (c1:Nat),vs=[.int .i64 x.Room,.slice a0 x.Records.length c0,.slice a1 x.Dropped.length c1]∧RdS B w a0 c0 x.Records∧RdS B w a1 c1 x.Dropped∧okDTRecorder x
 len:=by rintro _ _ _ _ ⟨a0,c0,a1,c1,rfl,q0,q1,hok⟩;rfl
 keep:=by rintro _ _ _ _ _ ⟨a0,c0,a1,c1,rfl,q0,q1,hok⟩ g;exact⟨a0,c0,a1,c1,rfl,q0.keep g,q1.keep g,hok⟩
 mono:=by rintro _ _ _ _ _ ⟨a0,c0,a1,c1,rfl,q0,q1,hok⟩ g;exact⟨a0,c0,a1,c1,rfl,q0.mono g,q1.mono g,hok⟩
 tot x:=totL x.Records+totL x.Dropped
 tot_nonneg x:=by have h0:=totL_nonneg x.Records;have h1:=totL_nonneg x.Dropped;omega
structure TLimit where
 Param:Int
 Low:Int
 High:Int
def okDTLimit(x:TLimit):Prop:=i64 x.Param∧i64 x.Low∧i64 x.High∧True
instance:Enc TLimit where
 size:=3
 Rd B w vs x:=vs=[.int .i64 x.Param,.int .i64 x.Low,.int .i64 x.High]∧okDTLimit x
 len:=by rintro _ _ _ _ ⟨rfl,hok⟩;rfl
 keep:=by rintro _ _ _ _ _ ⟨rfl,hok⟩ g;exact⟨rfl,hok⟩
 mono:=by rintro _ _ _ _ _ ⟨rfl,hok⟩ g;exact⟨rfl,hok⟩
 tot x:=0
 tot_nonneg x:=by exact Int.le_refl _
theorem RdS.atTLimit{B:Nat}{w:World}{a:Option Addr}{c:Nat}{l:List TLimit}(h:RdS B w a c l){k:Nat}(hk:k<l.length) :
  ∃ b off x,a=some ⟨b,off,none⟩∧LtN b w.heap.size∧Hid (l.drop k=x::l.drop (k+1))∧okDTLimit x∧(∀ (W:World) [Grows w W],W.cell? ⟨b,off+k*3,none⟩=some (.int .i64 x.Param))∧(∀ (W:World) [Grows w W],W.cell? ⟨b,off+k*3+1,none⟩=some (.int .i64 x.Low))∧(∀ (W:World) [Grows w W],W.cell? ⟨b,off+k*3+2,none⟩=some (.int .i64 x.High)):=by
 obtain⟨b,off,x,vs,h0,h1,h2,⟨rfl,hok⟩,hc⟩:=h.at hk
 exact⟨b,off,x,h0,h1,h2,hok,cell_grown h1.out (hc 0 _ rfl),cell_grown h1.out (hc 1 _ rfl),cell_grown h1.out (hc 2 _ rfl)⟩
structure TWaiting where
 Number:Int
 Order:TOrder
def okDTWaiting(x:TWaiting):Prop:=i64 x.Number∧okDTOrder x.Order∧True
instance:Enc TWaiting where
 size:=5
 Rd B w vs x:=vs=[.int .i64 x.Number,.int .i64 x.Order.Kind,.int .i64 x.Order.At,.int .i64 x.Order.A,.int .i64 x.Order.B]∧okDTWaiting x
 len:=by rintro _ _ _ _ ⟨rfl,hok⟩;rfl
 keep:=by rintro _ _ _ _ _ ⟨rfl,hok⟩ g;exact⟨rfl,hok⟩
 mono:=by rintro _ _ _ _ _ ⟨rfl,hok⟩ g;exact⟨rfl,hok⟩
 tot x:=0
 tot_nonneg x:=by exact Int.le_refl _
theorem RdS.atTWaiting{B:Nat}{w:World}{a:Option Addr}{c:Nat}{l:List TWaiting}(h:RdS B w a c l){k:Nat}(hk:k<l.length) :
  ∃ b off x,a=some ⟨b,off,none⟩∧LtN b w.heap.size∧Hid (l.drop k=x::l.drop (k+1))∧okDTWaiting x∧(∀ (W:World) [Grows w W],W.cell? ⟨b,off+k*5,none⟩=some (.int .i64 x.Number))∧(∀ (W:World) [Grows w W],W.cell? ⟨b,off+k*5+1,none⟩=some (.int .i64 x.Order.Kind))∧(∀ (W:World) [Grows w W],W.cell? ⟨b,off+k*5+2,none⟩=some (.int .i64 x.Order.At))∧(∀ (W:World) [Grows w W],W.cell? ⟨b,off+k*5+3,none⟩=some (.int .i64 x.Order.A))∧(∀ (W:World) [Grows w W],W.cell? ⟨b,off+k*5+4,none⟩=some (.int .i64 x.Order.B)):=by
 obtain⟨b,off,x,vs,h0,h1,h2,⟨rfl,hok⟩,hc⟩:=h.at hk
 exact⟨b,off,x,h0,h1,h2,hok,cell_grown h1.out (hc 0 _ rfl),cell_grown h1.out (hc 1 _ rfl),cell_grown h1.out (hc 2 _ rfl),cell_grown h1.out (hc 3 _ rfl),cell_grown h1.out (hc 4 _ rfl)⟩
structure TDone where
 Number:Int
 Time:Int
 Result:Int
def okDTDone(x:TDone):Prop:=i64 x.Number∧i64 x.Time∧i64 x.Result∧True
instance:Enc TDone where
 size:=3
 Rd B w vs x:=vs=[.int .i64 x.Number,.int .i64 x.Time,.int .i64 x.Result]∧okDTDone x
 len:=by rintro _ _ _ _ ⟨rfl,hok⟩;rfl
 keep:=by rintro _ _ _ _ _ ⟨rfl,hok⟩ g;exact⟨rfl,hok⟩
 mono:=by rintro _ _ _ _ _ ⟨rfl,hok⟩ g;exact⟨rfl,hok⟩
 tot x:=0
 tot_nonneg x:=by exact Int.le_refl _
theorem RdS.atTDone{B:Nat}{w:World}{a:Option Addr}{c:Nat}{l:List TDone}(h:RdS B w a c l){k:Nat}(hk:k<l.length) :
  ∃ b off x,a=some ⟨b,off,none⟩∧LtN b w.heap.size∧Hid (l.drop k=x::l.drop (k+1))∧okDTDone x∧(∀ (W:World) [Grows w W],W.cell? ⟨b,off+k*3,none⟩=some (.int .i64 x.Number))∧(∀ (W:World) [Grows w W],W.cell? ⟨b,off+k*3+1,none⟩=some (.int .i64 x.Time))∧(∀ (W:World) [Grows w W],W.cell? ⟨b,off+k*3+2,none⟩=some (.int .i64 x.Result)):=by
 obtain⟨b,off,x,vs,h0,h1,h2,⟨rfl,hok⟩,hc⟩:=h.at hk
 exact⟨b,off,x,h0,h1,h2,hok,cell_grown h1.out (hc 0 _ rfl),cell_grown h1.out (hc 1 _ rfl),cell_grown h1.out (hc 2 _ rfl)⟩
structure TBoard where
 Clock:Int
 Params:List Int
 Safe:Bool
 Limits:List TLimit
 Orders:List TWaiting
 Done:List TDone
 Recorder:TRecorder
 Made:Int
 Taken:Int
 Asked:List Int
abbrev cBoard(x:TBoard)(a0:Option Addr)(c0:Nat)(a1:Option Addr)(c1:Nat)(a2:Option Addr)(c2:Nat)(a3:Option Addr)(c3:Nat)(a4:Option Addr)(c4:Nat)(a5:Option Addr)(c5:Nat)(a6:Option Addr)(c6:Nat):List Value:=[.int .i64 x.Clock,.slice a0 x.Params.length c0,.bool x.Safe,.slice a1 x.Limits.length c1,.slice a2 x.Orders.length c2,.slice a3 x.Done.length c3,.int .i64 x.Recorder.Room,.slice a4 x.Recorder.Records.length c4,.slice a5 x.Recorder.Dropped.length c5,.int .i64 x.Made,.int .i64 x.Taken,.slice a6 x.Asked.length c6]
abbrev zBoard:List Value:=[.int .i64 0,.slice none 0 0,.bool false,.slice none 0 0,.slice none 0 0,.slice none 0 0,.int .i64 0,.slice none 0 0,.slice none 0 0,.int .i64 0,.int .i64 0,.slice none 0 0]
def okDTBoard(x:TBoard):Prop:=i64 x.Clock∧okDTRecorder x.Recorder∧i64 x.Made∧i64 x.Taken∧True
structure TBoardA where
 a0:Option Addr
 c0:Nat
 a1:Option Addr
 c1:Nat
 a2:Option Addr
 c2:Nat
 a3:Option Addr
 c3:Nat
 a4:Option Addr
 c4:Nat
 a5:Option Addr
 c5:Nat
 a6:Option Addr
 c6:Nat
abbrev dBoard(x:TBoard)(A:TBoardA):List Value:=cBoard x A.a0 A.c0 A.a1 A.c1 A.a2 A.c2 A.a3 A.c3 A.a4 A.c4 A.a5 A.c5 A.a6 A.c6
structure TBoardF(B:Nat)(w:World)(A:TBoardA)(x:TBoard):Prop where
 q0:RdS B w A.a0 A.c0 x.Params
 q1:RdS B w A.a1 A.c1 x.Limits
 q2:RdS B w A.a2 A.c2 x.Orders
 q3:RdS B w A.a3 A.c3 x.Done
 q4:RdS B w A.a4 A.c4 x.Recorder.Records
 q5:RdS B w A.a5 A.c5 x.Recorder.Dropped
 q6:RdS B w A.a6 A.c6 x.Asked
 ok:okDTBoard x
theorem TBoardF.keep{B:Nat}{w w2:World}{A:TBoardA}{x:TBoard}(h:TBoardF B w A x)(g:Keeps B w w2):TBoardF B w2 A x:=⟨h.q0.keep g,h.q1.keep g,h.q2.keep g,h.q3.keep g,h.q4.keep g,h.q5.keep g,h.q6.keep g,h.ok⟩
theorem TBoardF.mono{B B2:Nat}{w:World}{A:TBoardA}{x:TBoard}(h:TBoardF B w A x)(g:B2≤B):TBoardF B2 w A x:=⟨h.q0.mono g,h.q1.mono g,h.q2.mono g,h.q3.mono g,h.q4.mono g,h.q5.mono g,h.q6.mono g,h.ok⟩
instance:Enc TBoard where
 size:=12
 Rd B w vs x:=∃ A:TBoardA,vs=[.int .i64 x.Clock,.slice A.a0 x.Params.length A.c0,.bool x.Safe,.slice A.a1 x.Limits.length A.c1,.slice A.a2 x.Orders.length A.c2,.slice A.a3 x.Done.length A.c3,.int .i64 x.Recorder.Room,.slice A.a4 x.Recorder.Records.length A.c4,.slice A.a5 x.Recorder.Dropped.length A.c5,.int .i64 x.Made,.int .i64 x.Taken,.slice A.a6 x.Asked.length A.c6]∧TBoardF B w A x
 len:=by rintro _ _ _ _ ⟨A,h,F⟩;rw[h];rfl
 keep:=by rintro _ _ _ _ _ ⟨A,h,F⟩ g;exact⟨A,h,F.keep g⟩
 mono:=by rintro _ _ _ _ _ ⟨A,h,F⟩ g;exact⟨A,h,F.mono g⟩
 tot x:=totL x.Params+totL x.Limits+totL x.Orders+totL x.Done+Enc.tot x.Recorder+totL x.Asked
 tot_nonneg x:=by have h0:=totL_nonneg x.Params;have h1:=totL_nonneg x.Limits;have h2:=totL_nonneg x.Orders;have h3:=totL_nonneg x.Done;have h4:=Enc.tot_nonneg x.Recorder;have h5:=totL_nonneg x.Asked;omega
structure TFileIn where
 File:Int
 Size:Int
 Check:Int
 Parts:List ByteArray
def okDTFileIn(x:TFileIn):Prop:=i64 x.File∧i64 x.Size∧i64 x.Check∧True
instance:Enc TFileIn where
 size:=4
 Rd B w vs x:=∃ (a0:Option Addr) (c0:Nat),vs=[.int .i64 x.File,.int .i64 x.Size,.int .i64 x.Check,.slice a0 x.Parts.length c0]∧RdS B w a0 c0 x.Parts∧okDTFileIn x
 len:=by rintro _ _ _ _ ⟨a0,c0,rfl,q0,hok⟩;rfl
 keep:=by rintro _ _ _ _ _ ⟨a0,c0,rfl,q0,hok⟩ g;exact⟨a0,c0,rfl,q0.keep g,hok⟩
 mono:=by rintro _ _ _ _ _ ⟨a0,c0,rfl,q0,hok⟩ g;exact⟨a0,c0,rfl,q0.mono g,hok⟩
 tot x:=totL x.Parts
 tot_nonneg x:=by have h0:=totL_nonneg x.Parts;omega
theorem RdS.atTFileIn{B:Nat}{w:World}{a:Option Addr}{c:Nat}{l:List TFileIn}(h:RdS B w a c l){k:Nat}(hk:k<l.length) :
  ∃ b off x,∃ (a0:Option Addr) (c0:Nat),a=some ⟨b,off,none⟩∧LtN b w.heap.size∧Hid (l.drop k=x::l.drop (k+1))∧RdS B w a0 c0 x.Parts∧okDTFileIn x∧(∀ (W:World) [Grows w W],W.cell? ⟨b,off+k*4,none⟩=some (.int .i64 x.File))∧(∀ (W:World) [Grows w W],W.cell? ⟨b,off+k*4+1,none⟩=some (.int .i64 x.Size))∧(∀ (W:World) [Grows w W],W.cell? ⟨b,off+k*4+2,none⟩=some (.int .i64 x.Check))∧(∀ (W:World) [Grows w W],W.cell? ⟨b,off+k*4+3,none⟩=some (.slice a0 x.Parts.length c0)):=by
 obtain⟨b,off,x,vs,h0,h1,h2,⟨a0,c0,rfl,q0,hok⟩,hc⟩:=h.at hk
 exact⟨b,off,x,a0,c0,h0,h1,h2,q0,hok,cell_grown h1.out (hc 0 _ rfl),cell_grown h1.out (hc 1 _ rfl),cell_grown h1.out (hc 2 _ rfl),cell_grown h1.out (hc 3 _ rfl)⟩
structure TFileOut where
 File:Int
 Data:ByteArray
 Queue:List Int
 Done:Bool
def okDTFileOut(x:TFileOut):Prop:=i64 x.File∧x.Data.size≤9223372036854775807∧True
instance:Enc TFileOut where
 size:=4
 Rd B w vs x:=∃ (a0:Option Addr) (c0:Nat),vs=[.int .i64 x.File,.string x.Data,.slice a0 x.Queue.length c0,.bool x.Done]∧RdS B w a0 c0 x.Queue∧okDTFileOut x
 len:=by rintro _ _ _ _ ⟨a0,c0,rfl,q0,hok⟩;rfl
 keep:=by rintro _ _ _ _ _ ⟨a0,c0,rfl,q0,hok⟩ g;exact⟨a0,c0,rfl,q0.keep g,hok⟩
 mono:=by rintro _ _ _ _ _ ⟨a0,c0,rfl,q0,hok⟩ g;exact⟨a0,c0,rfl,q0.mono g,hok⟩
 tot x:=(x.Data.size:Int)+totL x.Queue
 tot_nonneg x:=by have h0:=totL_nonneg x.Queue;omega
theorem RdS.atTFileOut{B:Nat}{w:World}{a:Option Addr}{c:Nat}{l:List TFileOut}(h:RdS B w a c l){k:Nat}(hk:k<l.length) :
  ∃ b off x,∃ (a0:Option Addr) (c0:Nat),a=some ⟨b,off,none⟩∧LtN b w.heap.size∧Hid (l.drop k=x::l.drop (k+1))∧RdS B w a0 c0 x.Queue∧okDTFileOut x∧(∀ (W:World) [Grows w W],W.cell? ⟨b,off+k*4,none⟩=some (.int .i64 x.File))∧(∀ (W:World) [Grows w W],W.cell? ⟨b,off+k*4+1,none⟩=some (.string x.Data))∧(∀ (W:World) [Grows w W],W.cell? ⟨b,off+k*4+2,none⟩=some (.slice a0 x.Queue.length c0))∧(∀ (W:World) [Grows w W],W.cell? ⟨b,off+k*4+3,none⟩=some (.bool x.Done)):=by
 obtain⟨b,off,x,vs,h0,h1,h2,⟨a0,c0,rfl,q0,hok⟩,hc⟩:=h.at hk
 exact⟨b,off,x,a0,c0,h0,h1,h2,q0,hok,cell_grown h1.out (hc 0 _ rfl),cell_grown h1.out (hc 1 _ rfl),cell_grown h1.out (hc 2 _ rfl),cell_grown h1.out (hc 3 _ rfl)⟩
structure TDrift where
 Rate:Int
 Offset:Int
def okDTDrift(x:TDrift):Prop:=i64 x.Rate∧i64 x.Offset∧True
instance:Enc TDrift where
 size:=2
 Rd B w vs x:=vs=[.int .i64 x.Rate,.int .i64 x.Offset]∧okDTDrift x
 len:=by rintro _ _ _ _ ⟨rfl,hok⟩;rfl
 keep:=by rintro _ _ _ _ _ ⟨rfl,hok⟩ g;exact⟨rfl,hok⟩
 mono:=by rintro _ _ _ _ _ ⟨rfl,hok⟩ g;exact⟨rfl,hok⟩
 tot x:=0
 tot_nonneg x:=by exact Int.le_refl _
def okDPair(x:Pair):Prop:=i64 x.Board∧i64 x.True∧True
instance:Enc Pair where
 size:=2
 Rd B w vs x:=vs=[.int .i64 x.Board,.int .i64 x.True]∧okDPair x
 len:=by rintro _ _ _ _ ⟨rfl,hok⟩;rfl
 keep:=by rintro _ _ _ _ _ ⟨rfl,hok⟩ g;exact⟨rfl,hok⟩
 mono:=by rintro _ _ _ _ _ ⟨rfl,hok⟩ g;exact⟨rfl,hok⟩
 tot x:=0
 tot_nonneg x:=by exact Int.le_refl _
structure TOrbit where
 Period:Int
 Start:Int
 Length:Int
def okDTOrbit(x:TOrbit):Prop:=i64 x.Period∧i64 x.Start∧i64 x.Length∧True
instance:Enc TOrbit where
 size:=3
 Rd B w vs x:=vs=[.int .i64 x.Period,.int .i64 x.Start,.int .i64 x.Length]∧okDTOrbit x
 len:=by rintro _ _ _ _ ⟨rfl,hok⟩;rfl
 keep:=by rintro _ _ _ _ _ ⟨rfl,hok⟩ g;exact⟨rfl,hok⟩
 mono:=by rintro _ _ _ _ _ ⟨rfl,hok⟩ g;exact⟨rfl,hok⟩
 tot x:=0
 tot_nonneg x:=by exact Int.le_refl _
def okDSlot(x:Slot):Prop:=i64 x.Time∧i64 x.Id∧True
instance:Enc Slot where
 size:=2
 Rd B w vs x:=vs=[.int .i64 x.Time,.int .i64 x.Id]∧okDSlot x
 len:=by rintro _ _ _ _ ⟨rfl,hok⟩;rfl
 keep:=by rintro _ _ _ _ _ ⟨rfl,hok⟩ g;exact⟨rfl,hok⟩
 mono:=by rintro _ _ _ _ _ ⟨rfl,hok⟩ g;exact⟨rfl,hok⟩
 tot x:=0
 tot_nonneg x:=by exact Int.le_refl _
structure TFlight where
 At:Int
 Data:ByteArray
def okDTFlight(x:TFlight):Prop:=i64 x.At∧x.Data.size≤9223372036854775807∧True
instance:Enc TFlight where
 size:=2
 Rd B w vs x:=vs=[.int .i64 x.At,.string x.Data]∧okDTFlight x
 len:=by rintro _ _ _ _ ⟨rfl,hok⟩;rfl
 keep:=by rintro _ _ _ _ _ ⟨rfl,hok⟩ g;exact⟨rfl,hok⟩
 mono:=by rintro _ _ _ _ _ ⟨rfl,hok⟩ g;exact⟨rfl,hok⟩
 tot x:=(x.Data.size:Int)
 tot_nonneg x:=by omega
theorem RdS.atTFlight{B:Nat}{w:World}{a:Option Addr}{c:Nat}{l:List TFlight}(h:RdS B w a c l){k:Nat}(hk:k<l.length) :
  ∃ b off x,a=some ⟨b,off,none⟩∧LtN b w.heap.size∧Hid (l.drop k=x::l.drop (k+1))∧okDTFlight x∧(∀ (W:World) [Grows w W],W.cell? ⟨b,off+k*2,none⟩=some (.int .i64 x.At))∧(∀ (W:World) [Grows w W],W.cell? ⟨b,off+k*2+1,none⟩=some (.string x.Data)):=by
 obtain⟨b,off,x,vs,h0,h1,h2,⟨rfl,hok⟩,hc⟩:=h.at hk
 exact⟨b,off,x,h0,h1,h2,hok,cell_grown h1.out (hc 0 _ rfl),cell_grown h1.out (hc 1 _ rfl)⟩
structure TGround where
 Offers:List ByteArray
 Sender:TSender
 Notice:TNotice
 Unpacker:TUnpacker
 Pairs:List Pair
 Records:List TRecord
 Files:List TFileIn
 Told:List Bool
abbrev cGround(x:TGround)(a0:Option Addr)(c0:Nat)(a1:Option Addr)(c1:Nat)(a2:Option Addr)(c2:Nat)(a3:Option Addr)(c3:Nat)(a4:Option Addr)(c4:Nat)(a5:Option Addr)(c5:Nat):List Value:=[.slice a0 x.Offers.length c0,.int .i64 x.Sender.Next,.int .i64 x.Sender.Window,.slice a1 x.Sender.Waiting.length c1,.int .i64 x.Sender.Done,.int .i64 x.Notice.Expect,.bool x.Notice.Locked,.bool x.Notice.Again,.int .i64 x.Unpacker.Channel,.int .i64 x.Unpacker.Next,.bool x.Unpacker.Synced,.string x.Unpacker.Rest,.int .i64 x.Unpacker.Lost,.slice a2 x.Pairs.length c2,.slice a3 x.Records.length c3,.slice a4 x.Files.length c4,.slice a5 x.Told.length c5]
abbrev zGround:List Value:=[.slice none 0 0,.int .i64 0,.int .i64 0,.slice none 0 0,.int .i64 0,.int .i64 0,.bool false,.bool false,.int .i64 0,.int .i64 0,.bool false,.string ⟨#[]⟩,.int .i64 0,.slice none 0 0,.slice none 0 0,.slice none 0 0,.slice none 0 0]
def okDTGround(x:TGround):Prop:=okDTSender x.Sender∧okDTNotice x.Notice∧okDTUnpacker x.Unpacker∧True
structure TGroundA where
 a0:Option Addr
 c0:Nat
 a1:Option Addr
 c1:Nat
 a2:Option Addr
 c2:Nat
 a3:Option Addr
 c3:Nat
 a4:Option Addr
 c4:Nat
 a5:Option Addr
 c5:Nat
abbrev dGround(x:TGround)(A:TGroundA):List Value:=cGround x A.a0 A.c0 A.a1 A.c1 A.a2 A.c2 A.a3 A.c3 A.a4 A.c4 A.a5 A.c5
structure TGroundF(B:Nat)(w:World)(A:TGroundA)(x:TGround):Prop where
 q0:RdS B w A.a0 A.c0 x.Offers
 q1:RdS B w A.a1 A.c1 x.Sender.Waiting
 q2:RdS B w A.a2 A.c2 x.Pairs
 q3:RdS B w A.a3 A.c3 x.Records
 q4:RdS B w A.a4 A.c4 x.Files
 q5:RdS B w A.a5 A.c5 x.Told
 ok:okDTGround x
theorem TGroundF.keep{B:Nat}{w w2:World}{A:TGroundA}{x:TGround}(h:TGroundF B w A x)(g:Keeps B w w2):TGroundF B w2 A x:=⟨h.q0.keep g,h.q1.keep g,h.q2.keep g,h.q3.keep g,h.q4.keep g,h.q5.keep g,h.ok⟩
theorem TGroundF.mono{B B2:Nat}{w:World}{A:TGroundA}{x:TGround}(h:TGroundF B w A x)(g:B2≤B):TGroundF B2 w A x:=⟨h.q0.mono g,h.q1.mono g,h.q2.mono g,h.q3.mono g,h.q4.mono g,h.q5.mono g,h.ok⟩
instance:Enc TGround where
 size:=17
 Rd B w vs x:=∃ A:TGroundA,vs=[.slice A.a0 x.Offers.length A.c0,.int .i64 x.Sender.Next,.int .i64 x.Sender.Window,.slice A.a1 x.Sender.Waiting.length A.c1,.int .i64 x.Sender.Done,.int .i64 x.Notice.Expect,.bool x.Notice.Locked,.bool x.Notice.Again,.int .i64 x.Unpacker.Channel,.int .i64 x.Unpacker.Next,.bool x.Unpacker.Synced,.string x.Unpacker.Rest,.int .i64 x.Unpacker.Lost,.slice A.a2 x.Pairs.length A.c2,.slice A.a3 x.Records.length A.c3,.slice A.a4 x.Files.length A.c4,.slice A.a5 x.Told.length A.c5]∧TGroundF B w A x
 len:=by rintro _ _ _ _ ⟨A,h,F⟩;rw[h];rfl
 keep:=by rintro _ _ _ _ _ ⟨A,h,F⟩ g;exact⟨A,h,F.keep g⟩
 mono:=by rintro _ _ _ _ _ ⟨A,h,F⟩ g;exact⟨A,h,F.mono g⟩
 tot x:=totL x.Offers+Enc.tot x.Sender+Enc.tot x.Unpacker+totL x.Pairs+totL x.Records+totL x.Files+totL x.Told
 tot_nonneg x:=by have h0:=totL_nonneg x.Offers;have h1:=Enc.tot_nonneg x.Sender;have h2:=Enc.tot_nonneg x.Unpacker;have h3:=totL_nonneg x.Pairs;have h4:=totL_nonneg x.Records;have h5:=totL_nonneg x.Files;have h6:=totL_nonneg x.Told;omega
structure TSpace where
 Receiver:TReceiver
 Board:TBoard
 Packer:TPacker
 Seq:Int
 Files:List ByteArray
 Outs:List TFileOut
 Begun:Int
 Sent:List TRecord
abbrev cSpace(x:TSpace)(a0:Option Addr)(c0:Nat)(a1:Option Addr)(c1:Nat)(a2:Option Addr)(c2:Nat)(a3:Option Addr)(c3:Nat)(a4:Option Addr)(c4:Nat)(a5:Option Addr)(c5:Nat)(a6:Option Addr)(c6:Nat)(a7:Option Addr)(c7:Nat)(a8:Option Addr)(c8:Nat)(a9:Option Addr)(c9:Nat)(a10:Option Addr)(c10:Nat):List Value:=[.int .i64 x.Receiver.Expect,.bool x.Receiver.Locked,.bool x.Receiver.Again,.int .i64 x.Receiver.Taken,.int .i64 x.Board.Clock,.slice a0 x.Board.Params.length c0,.bool x.Board.Safe,.slice a1 x.Board.Limits.length c1,.slice a2 x.Board.Orders.length c2,.slice a3 x.Board.Done.length c3,.int .i64 x.Board.Recorder.Room,.slice a4 x.Board.Recorder.Records.length c4,.slice a5 x.Board.Recorder.Dropped.length c5,.int .i64 x.Board.Made,.int .i64 x.Board.Taken,.slice a6 x.Board.Asked.length c6,.int .i64 x.Packer.Channel,.int .i64 x.Packer.Count,.string x.Packer.Rest,.slice a7 x.Packer.Starts.length c7,.int .i64 x.Seq,.slice a8 x.Files.length c8,.slice a9 x.Outs.length c9,.int .i64 x.Begun,.slice a10 x.Sent.length c10]
abbrev zSpace:List Value:=[.int .i64 0,.bool false,.bool false,.int .i64 0,.int .i64 0,.slice none 0 0,.bool false,.slice none 0 0,.slice none 0 0,.slice none 0 0,.int .i64 0,.slice none 0 0,.slice none 0 0,.int .i64 0,.int .i64 0,.slice none 0 0,.int .i64 0,.int .i64 0,.string ⟨#[]⟩,.slice none 0 0,.int .i64 0,.slice none 0 0,.slice none 0 0,.int .i64 0,.slice none 0 0]
def okDTSpace(x:TSpace):Prop:=okDTReceiver x.Receiver∧okDTBoard x.Board∧okDTPacker x.Packer∧i64 x.Seq∧i64 x.Begun∧True
structure TSpaceA where
 a0:Option Addr
 c0:Nat
 a1:Option Addr
 c1:Nat
 a2:Option Addr
 c2:Nat
 a3:Option Addr
 c3:Nat
 a4:Option Addr
 c4:Nat
 a5:Option Addr
 c5:Nat
 a6:Option Addr
 c6:Nat
 a7:Option Addr
 c7:Nat
 a8:Option Addr
 c8:Nat
 a9:Option Addr
 c9:Nat
 a10:Option Addr
 c10:Nat
abbrev dSpace(x:TSpace)(A:TSpaceA):List Value:=cSpace x A.a0 A.c0 A.a1 A.c1 A.a2 A.c2 A.a3 A.c3 A.a4 A.c4 A.a5 A.c5 A.a6 A.c6 A.a7 A.c7 A.a8 A.c8 A.a9 A.c9 A.a10 A.c10
structure TSpaceF(B:Nat)(w:World)(A:TSpaceA)(x:TSpace):Prop where
 q0:RdS B w A.a0 A.c0 x.Board.Params
 q1:RdS B w A.a1 A.c1 x.Board.Limits
 q2:RdS B w A.a2 A.c2 x.Board.Orders
 q3:RdS B w A.a3 A.c3 x.Board.Done
 q4:RdS B w A.a4 A.c4 x.Board.Recorder.Records
 q5:RdS B w A.a5 A.c5 x.Board.Recorder.Dropped
 q6:RdS B w A.a6 A.c6 x.Board.Asked
 q7:RdS B w A.a7 A.c7 x.Packer.Starts
 q8:RdS B w A.a8 A.c8 x.Files
 q9:RdS B w A.a9 A.c9 x.Outs
 q10:RdS B w A.a10 A.c10 x.Sent
 ok:okDTSpace x
theorem TSpaceF.keep{B:Nat}{w w2:World}{A:TSpaceA}{x:TSpace}(h:TSpaceF B w A x)(g:Keeps B w w2):TSpaceF B w2 A x:=⟨h.q0.keep g,h.q1.keep g,h.q2.keep g,h.q3.keep g,h.q4.keep g,h.q5.keep g,h.q6.keep g,h.q7.keep g,h.q8.keep g,h.q9.keep g,h.q10.keep g,h.ok⟩
theorem TSpaceF.mono{B B2:Nat}{w:World}{A:TSpaceA}{x:TSpace}(h:TSpaceF B w A x)(g:B2≤B):TSpaceF B2 w A x:=⟨h.q0.mono g,h.q1.mono g,h.q2.mono g,h.q3.mono g,h.q4.mono g,h.q5.mono g,h.q6.mono g,h.q7.mono g,h.q8.mono g,h.q9.mono g,h.q10.mono g,h.ok⟩
instance:Enc TSpace where
 size:=25
 Rd B w vs x:=∃ A:TSpaceA,vs=[.int .i64 x.Receiver.Expect,.bool x.Receiver.Locked,.bool x.Receiver.Again,.int .i64 x.Receiver.Taken,.int .i64 x.Board.Clock,.slice A.a0 x.Board.Params.length A.c0,.bool x.Board.Safe,.slice A.a1 x.Board.Limits.length A.c1,.slice A.a2 x.Board.Orders.length A.c2,.slice A.a3 x.Board.Done.length A.c3,.int .i64 x.Board.Recorder.Room,.slice A.a4 x.Board.Recorder.Records.length A.c4,.slice A.a5 x.Board.Recorder.Dropped.length A.c5,.int .i64 x.Board.Made,.int .i64 x.Board.Taken,.slice A.a6 x.Board.Asked.length A.c6,.int .i64 x.Packer.Channel,.int .i64 x.Packer.Count,.string x.Packer.Rest,.slice A.a7 x.Packer.Starts.length A.c7,.int .i64 x.Seq,.slice A.a8 x.Files.length A.c8,.slice A.a9 x.Outs.length A.c9,.int .i64 x.Begun,.slice A.a10 x.Sent.length A.c10]∧TSpaceF B w A x
 len:=by rintro _ _ _ _ ⟨A,h,F⟩;rw[h];rfl
 keep:=by rintro _ _ _ _ _ ⟨A,h,F⟩ g;exact⟨A,h,F.keep g⟩
 mono:=by rintro _ _ _ _ _ ⟨A,h,F⟩ g;exact⟨A,h,F.mono g⟩
 tot x:=Enc.tot x.Board+Enc.tot x.Packer+totL x.Files+totL x.Outs+totL x.Sent
 tot_nonneg x:=by have h0:=Enc.tot_nonneg x.Board;have h1:=Enc.tot_nonneg x.Packer;have h2:=totL_nonneg x.Files;have h3:=totL_nonneg x.Outs;have h4:=totL_nonneg x.Sent;omega
structure TMission where
 Time:Int
 Light:Int
 Drift:TDrift
 Orbit:TOrbit
 Plan:List Slot
 Up:TChannel
 Down:TChannel
 Ups:List TFlight
 Downs:List TFlight
 Ground:TGround
 Space:TSpace
 Offered:List ByteArray
 Took:List ByteArray
 Bad:Int
abbrev cMission(x:TMission)(a0:Option Addr)(c0:Nat)(a1:Option Addr)(c1:Nat)(a2:Option Addr)(c2:Nat)(a3:Option Addr)(c3:Nat)(a4:Option Addr)(c4:Nat)(a5:Option Addr)(c5:Nat)(a6:Option Addr)(c6:Nat)(a7:Option Addr)(c7:Nat)(a8:Option Addr)(c8:Nat)(a9:Option Addr)(c9:Nat)(a10:Option Addr)(c10:Nat)(a11:Option Addr)(c11:Nat)(a12:Option Addr)(c12:Nat)(a13:Option Addr)(c13:Nat)(a14:Option Addr)(c14:Nat)(a15:Option Addr)(c15:Nat)(a16:Option Addr)(c16:Nat)(a17:Option Addr)(c17:Nat)(a18:Option Addr)(c18:Nat)(a19:Option Addr)(c19:Nat)(a20:Option Addr)(c20:Nat)(a21:Option Addr)(c21:Nat):List Value:=[.int .i64 x.Time,.int .i64 x.Light,.int .i64 x.Drift.Rate,.int .i64 x.Drift.Offset,.int .i64 x.Orbit.Period,.int .i64 x.Orbit.Start,.int .i64 x.Orbit.Length,.slice a0 x.Plan.length c0,.int .i64 x.Up.Seed,.int .i64 x.Up.Burst,.int .i64 x.Up.Loss,.int .i64 x.Down.Seed,.int .i64 x.Down.Burst,.int .i64 x.Down.Loss,.slice a1 x.Ups.length c1,.slice a2 x.Downs.length c2,.slice a3 x.Ground.Offers.length c3,.int .i64 x.Ground.Sender.Next,.int .i64 x.Ground.Sender.Window,.slice a4 x.Ground.Sender.Waiting.length c4,.int .i64 x.Ground.Sender.Done,.int .i64 x.Ground.Notice.Expect,.bool x.Ground.Notice.Locked,.bool x.Ground.Notice.Again,.int .i64 x.Ground.Unpacker.Channel,.int .i64 x.Ground.Unpacker.Next,.bool x.Ground.Unpacker.Synced,.string x.Ground.Unpacker.Rest,.int .i64 x.Ground.Unpacker.Lost,.slice a5 x.Ground.Pairs.length c5,.slice a6 x.Ground.Records.length c6,.slice a7 x.Ground.Files.length c7,.slice a8 x.Ground.Told.length c8,.int .i64 x.Space.Receiver.Expect,.bool x.Space.Receiver.Locked,.bool x.Space.Receiver.Again,.int .i64 x.Space.Receiver.Taken,.int .i64 x.Space.Board.Clock,.slice a9 x.Space.Board.Params.length c9,.bool x.Space.Board.Safe,.slice a10 x.Space.Board.Limits.length c10,.slice a11 x.Space.Board.Orders.length c11,.slice a12 x.Space.Board.Done.length c12,.int .i64 x.Space.Board.Recorder.Room,.slice a13 x.Space.Board.Recorder.Records.length c13,.slice a14 x.Space.Board.Recorder.Dropped.length c14,.int .i64 x.Space.Board.Made,.int .i64 x.Space.Board.Taken,.slice a15 x.Space.Board.Asked.length c15,.int .i64 x.Space.Packer.Channel,.int .i64 x.Space.Packer.Count,.string x.Space.Packer.Rest,.slice a16 x.Space.Packer.Starts.length c16,.int .i64 x.Space.Seq,.slice a17 x.Space.Files.length c17,.slice a18 x.Space.Outs.length c18,.int .i64 x.Space.Begun,.slice a19 x.Space.Sent.length c19,.slice a20 x.Offered.length c20,.slice a21 x.Took.length c21,.int .i64 x.Bad]
abbrev zMission:List Value:=[.int .i64 0,.int .i64 0,.int .i64 0,.int .i64 0,.int .i64 0,.int .i64 0,.int .i64 0,.slice none 0 0,.int .i64 0,.int .i64 0,.int .i64 0,.int .i64 0,.int .i64 0,.int .i64 0,.slice none 0 0,.slice none 0 0,.slice none 0 0,.int .i64 0,.int .i64 0,.slice none 0 0,.int .i64 0,.int .i64 0,.bool false,.bool false,.int .i64 0,.int .i64 0,.bool false,.string ⟨#[]⟩,.int .i64 0,.slice none 0 0,.slice none 0 0,.slice none 0 0,.slice none 0 0,.int .i64 0,.bool false,.bool false,.int .i64 0,.int .i64 0,.slice none 0 0,.bool false,.slice none 0 0,.slice none 0 0,.slice none 0 0,.int .i64 0,.slice none 0 0,.slice none 0 0,.int .i64 0,.int .i64 0,.slice none 0 0,.int .i64 0,.int .i64 0,.string ⟨#[]⟩,.slice none 0 0,.int .i64 0,.slice none 0 0,.slice none 0 0,.int .i64 0,.slice none 0 0,.slice none 0 0,.slice none 0 0,.int .i64 0]
abbrev eMission(x:TMission)(a0:Option Addr)(n0 c0:Nat)(a1:Option Addr)(n1 c1:Nat)(a2:Option Addr)(n2 c2:Nat)(a3:Option Addr)(n3 c3:Nat)(a4:Option Addr)(n4 c4:Nat)(a5:Option Addr)(n5 c5:Nat)(a6:Option Addr)(n6 c6:Nat)(a7:Option Addr)(n7 c7:Nat)(a8:Option Addr)(n8 c8:Nat)(a9:Option Addr)(n9 c9:Nat)(a10:Option Addr)(n10 c10:Nat)(a11:Option Addr)(n11 c11:Nat)(a12:Option Addr)(n12 c12:Nat)(a13:Option Addr)(n13 c13:Nat)(a14:Option Addr)(n14 c14:Nat)(a15:Option Addr)(n15 c15:Nat)(a16:Option Addr)(n16 c16:Nat)(a17:Option Addr)(n17 c17:Nat)(a18:Option Addr)(n18 c18:Nat)(a19:Option Addr)(n19 c19:Nat)(a20:Option Addr)(n20 c20:Nat)(a21:Option Addr)(n21 c21:Nat):List Value:=[.int .i64 x.Time,.int .i64 x.Light,.int .i64 x.Drift.Rate,.int .i64 x.Drift.Offset,.int .i64 x.Orbit.Period,.int .i64 x.Orbit.Start,.int .i64 x.Orbit.Length,.slice a0 n0 c0,.int .i64 x.Up.Seed,.int .i64 x.Up.Burst,.int .i64 x.Up.Loss,.int .i64 x.Down.Seed,.int .i64 x.Down.Burst,.int .i64 x.Down.Loss,.slice a1 n1 c1,.slice a2 n2 c2,.slice a3 n3 c3,.int .i64 x.Ground.Sender.Next,.int .i64 x.Ground.Sender.Window,.slice a4 n4 c4,.int .i64 x.Ground.Sender.Done,.int .i64 x.Ground.Notice.Expect,.bool x.Ground.Notice.Locked,.bool x.Ground.Notice.Again,.int .i64 x.Ground.Unpacker.Channel,.int .i64 x.Ground.Unpacker.Next,.bool x.Ground.Unpacker.Synced,.string x.Ground.Unpacker.Rest,.int .i64 x.Ground.Unpacker.Lost,.slice a5 n5 c5,.slice a6 n6 c6,.slice a7 n7 c7,.slice a8 n8 c8,.int .i64 x.Space.Receiver.Expect,.bool x.Space.Receiver.Locked,.bool x.Space.Receiver.Again,.int .i64 x.Space.Receiver.Taken,.int .i64 x.Space.Board.Clock,.slice a9 n9 c9,.bool x.Space.Board.Safe,.slice a10 n10 c10,.slice a11 n11 c11,.slice a12 n12 c12,.int .i64 x.Space.Board.Recorder.Room,.slice a13 n13 c13,.slice a14 n14 c14,.int .i64 x.Space.Board.Made,.int .i64 x.Space.Board.Taken,.slice a15 n15 c15,.int .i64 x.Space.Packer.Channel,.int .i64 x.Space.Packer.Count,.string x.Space.Packer.Rest,.slice a16 n16 c16,.int .i64 x.Space.Seq,.slice a17 n17 c17,.slice a18 n18 c18,.int .i64 x.Space.Begun,.slice a19 n19 c19,.slice a20 n20 c20,.slice a21 n21 c21,.int .i64 x.Bad]
def okDTMission(x:TMission):Prop:=i64 x.Time∧i64 x.Light∧okDTDrift x.Drift∧okDTOrbit x.Orbit∧okDTChannel x.Up∧okDTChannel x.Down∧okDTGround x.Ground∧okDTSpace x.Space∧i64 x.Bad∧True
structure TMissionA where
 a0:Option Addr
 c0:Nat
 a1:Option Addr
 c1:Nat
 a2:Option Addr
 c2:Nat
 a3:Option Addr
 c3:Nat
 a4:Option Addr
 c4:Nat
 a5:Option Addr
 c5:Nat
 a6:Option Addr
 c6:Nat
 a7:Option Addr
 c7:Nat
 a8:Option Addr
 c8:Nat
 a9:Option Addr
 c9:Nat
 a10:Option Addr
 c10:Nat
 a11:Option Addr
 c11:Nat
 a12:Option Addr
 c12:Nat
 a13:Option Addr
 c13:Nat
 a14:Option Addr
 c14:Nat
 a15:Option Addr
 c15:Nat
 a16:Option Addr
 c16:Nat
 a17:Option Addr
 c17:Nat
 a18:Option Addr
 c18:Nat
 a19:Option Addr
 c19:Nat
 a20:Option Addr
 c20:Nat
 a21:Option Addr
 c21:Nat
abbrev dMission(x:TMission)(A:TMissionA):List Value:=cMission x A.a0 A.c0 A.a1 A.c1 A.a2 A.c2 A.a3 A.c3 A.a4 A.c4 A.a5 A.c5 A.a6 A.c6 A.a7 A.c7 A.a8 A.c8 A.a9 A.c9 A.a10 A.c10 A.a11 A.c11 A.a12 A.c12 A.a13 A.c13 A.a14 A.c14 A.a15 A.c15 A.a16 A.c16 A.a17 A.c17 A.a18 A.c18 A.a19 A.c19 A.a20 A.c20 A.a21 A.c21
structure TMissionF(B:Nat)(w:World)(A:TMissionA)(x:TMission):Prop where
 q0:RdS B w A.a0 A.c0 x.Plan
 q1:RdS B w A.a1 A.c1 x.Ups
 q2:RdS B w A.a2 A.c2 x.Downs
 q3:RdS B w A.a3 A.c3 x.Ground.Offers
 q4:RdS B w A.a4 A.c4 x.Ground.Sender.Waiting
 q5:RdS B w A.a5 A.c5 x.Ground.Pairs
 q6:RdS B w A.a6 A.c6 x.Ground.Records
 q7:RdS B w A.a7 A.c7 x.Ground.Files
 q8:RdS B w A.a8 A.c8 x.Ground.Told
 q9:RdS B w A.a9 A.c9 x.Space.Board.Params
 q10:RdS B w A.a10 A.c10 x.Space.Board.Limits
 q11:RdS B w A.a11 A.c11 x.Space.Board.Orders
 q12:RdS B w A.a12 A.c12 x.Space.Board.Done
 q13:RdS B w A.a13 A.c13 x.Space.Board.Recorder.Records
 q14:RdS B w A.a14 A.c14 x.Space.Board.Recorder.Dropped
 q15:RdS B w A.a15 A.c15 x.Space.Board.Asked
 q16:RdS B w A.a16 A.c16 x.Space.Packer.Starts
 q17:RdS B w A.a17 A.c17 x.Space.Files
 q18:RdS B w A.a18 A.c18 x.Space.Outs
 q19:RdS B w A.a19 A.c19 x.Space.Sent
 q20:RdS B w A.a20 A.c20 x.Offered
 q21:RdS B w A.a21 A.c21 x.Took
 ok:okDTMission x
theorem TMissionF.keep{B:Nat}{w w2:World}{A:TMissionA}{x:TMission}(h:TMissionF B w A x)(g:Keeps B w w2):TMissionF B w2 A x:=⟨h.q0.keep g,h.q1.keep g,h.q2.keep g,h.q3.keep g,h.q4.keep g,h.q5.keep g,h.q6.keep g,h.q7.keep g,h.q8.keep g,h.q9.keep g,h.q10.keep g,h.q11.keep g,h.q12.keep g,h.q13.keep g,h.q14.keep g,h.q15.keep g,h.q16.keep g,h.q17.keep g,h.q18.keep g,h.q19.keep g,h.q20.keep g,h.q21.keep g,h.ok⟩
theorem TMissionF.mono{B B2:Nat}{w:World}{A:TMissionA}{x:TMission}(h:TMissionF B w A x)(g:B2≤B):TMissionF B2 w A x:=⟨h.q0.mono g,h.q1.mono g,h.q2.mono g,h.q3.mono g,h.q4.mono g,h.q5.mono g,h.q6.mono g,h.q7.mono g,h.q8.mono g,h.q9.mono g,h.q10.mono g,h.q11.mono g,h.q12.mono g,h.q13.mono g,h.q14.mono g,h.q15.mono g,h.q16.mono g,h.q17.mono g,h.q18.mono g,h.q19.mono g,h.q20.mono g,h.q21.mono g,h.ok⟩
instance:Enc TMission where
 size:=61
 Rd B w vs x:=∃ A:TMissionA,vs=[.int .i64 x.Time,.int .i64 x.Light,.int .i64 x.Drift.Rate,.int .i64 x.Drift.Offset,.int .i64 x.Orbit.Period,.int .i64 x.Orbit.Start,.int .i64 x.Orbit.Length,.slice A.a0 x.Plan.length A.c0,.int .i64 x.Up.Seed,.int .i64 x.Up.Burst,.int .i64 x.Up.Loss,.int .i64 x.Down.Seed,.int .i64 x.Down.Burst,.int .i64 x.Down.Loss,.slice A.a1 x.Ups.length A.c1,.slice A.a2 x.Downs.length A.c2,.slice A.a3 x.Ground.Offers.length A.c3,.int .i64 x.Ground.Sender.Next,.int .i64 x.Ground.Sender.Window,.slice A.a4 x.Ground.Sender.Waiting.length A.c4,.int .i64 x.Ground.Sender.Done,.int .i64 x.Ground.Notice.Expect,.bool x.Ground.Notice.Locked,.bool x.Ground.Notice.Again,.int .i64 x.Ground.Unpacker.Channel,.int .i64 x.Ground.Unpacker.Next,.bool x.Ground.Unpacker.Synced,.string x.Ground.Unpacker.Rest,.int .i64 x.Ground.Unpacker.Lost,.slice A.a5 x.Ground.Pairs.length A.c5,.slice A.a6 x.Ground.Records.length A.c6,.slice A.a7 x.Ground.Files.length A.c7,.slice A.a8 x.Ground.Told.length A.c8,.int .i64 x.Space.Receiver.Expect,.bool x.Space.Receiver.Locked,.bool x.Space.Receiver.Again,.int .i64 x.Space.Receiver.Taken,.int .i64 x.Space.Board.Clock,.slice A.a9 x.Space.Board.Params.length A.c9,.bool x.Space.Board.Safe,.slice A.a10 x.Space.Board.Limits.length A.c10,.slice A.a11 x.Space.Board.Orders.length A.c11,.slice A.a12 x.Space.Board.Done.length A.c12,.int .i64 x.Space.Board.Recorder.Room,.slice A.a13 x.Space.Board.Recorder.Records.length A.c13,.slice A.a14 x.Space.Board.Recorder.Dropped.length A.c14,.int .i64 x.Space.Board.Made,.int .i64 x.Space.Board.Taken,.slice A.a15 x.Space.Board.Asked.length A.c15,.int .i64 x.Space.Packer.Channel,.int .i64 x.Space.Packer.Count,.string x.Space.Packer.Rest,.slice A.a16 x.Space.Packer.Starts.length A.c16,.int .i64 x.Space.Seq,.slice A.a17 x.Space.Files.length A.c17,.slice A.a18 x.Space.Outs.length A.c18,.int .i64 x.Space.Begun,.slice A.a19 x.Space.Sent.length A.c19,.slice A.a20 x.Offered.length A.c20,.slice A.a21 x.Took.length A.c21,.int .i64 x.Bad]∧TMissionF B w A x
 len:=by rintro _ _ _ _ ⟨A,h,F⟩;rw[h];rfl
 keep:=by rintro _ _ _ _ _ ⟨A,h,F⟩ g;exact⟨A,h,F.keep g⟩
 mono:=by rintro _ _ _ _ _ ⟨A,h,F⟩ g;exact⟨A,h,F.mono g⟩
 tot x:=totL x.Plan+totL x.Ups+totL x.Downs+Enc.tot x.Ground+Enc.tot x.Space+totL x.Offered+totL x.Took
 tot_nonneg x:=by have h0:=totL_nonneg x.Plan;have h1:=totL_nonneg x.Ups;have h2:=totL_nonneg x.Downs;have h3:=Enc.tot_nonneg x.Ground;have h4:=Enc.tot_nonneg x.Space;have h5:=totL_nonneg x.Offered;have h6:=totL_nonneg x.Took;omega
theorem mTot(x:TMission):Enc.tot x=totL x.Plan+totL x.Ups+totL x.Downs+Enc.tot x.Ground+Enc.tot x.Space+totL x.Offered+totL x.Took∧0≤totL x.Plan∧(x.Plan.length:Int)≤totL x.Plan∧0≤totL x.Ups∧(x.Ups.length:Int)≤totL x.Ups∧0≤totL x.Downs∧(x.Downs.length:Int)≤totL x.Downs∧0≤Enc.tot x.Ground∧Enc.tot x.Ground=totL x.Ground.Offers+Enc.tot x.Ground.Sender+Enc.tot x.Ground.Unpacker+totL x.Ground.Pairs+totL x.Ground.Records+totL x.Ground.Files+totL x.Ground.Told∧0≤totL x.Ground.Offers∧(x.Ground.Offers.length:Int)≤totL x.Ground.Offers∧0≤Enc.tot x.Ground.Sender∧Enc.tot x.Ground.Sender=totL x.Ground.Sender.Waiting∧0≤totL x.Ground.Sender.Waiting∧(x.Ground.Sender.Waiting.length:Int)≤totL x.Ground.Sender.Waiting∧0≤Enc.tot x.Ground.Unpacker∧Enc.tot x.Ground.Unpacker=(x.Ground.Unpacker.Rest.size:Int)∧0≤totL x.Ground.Pairs∧(x.Ground.Pairs.length:Int)≤totL x.Ground.Pairs∧0≤totL x.Ground.Records∧(x.Ground.Records.length:Int)≤totL x.Ground.Records∧0≤totL x.Ground.Files∧(x.Ground.Files.length:Int)≤totL x.Ground.Files∧0≤totL x.Ground.Told∧(x.Ground.Told.length:Int)≤totL x.Ground.Told∧0≤Enc.tot x.Space∧Enc.tot x.Space=Enc.tot x.Space.Board+Enc.tot x.Space.Packer+totL x.Space.Files+totL x.Space.Outs+totL x.Space.Sent∧0≤Enc.tot x.Space.Board∧Enc.tot x.Space.Board=totL x.Space.Board.Params+totL x.Space.Board.Limits+totL x.Space.Board.Orders+totL x.Space.Board.Done+Enc.tot x.Space.Board.Recorder+totL x.Space.Board.Asked∧0≤totL x.Space.Board.Params∧(x.Space.Board.Params.length:Int)≤totL x.Space.Board.Params∧0≤totL x.Space.Board.Limits∧(x.Space.Board.Limits.length:Int)≤totL x.Space.Board.Limits∧0≤totL x.Space.Board.Orders∧(x.Space.Board.Orders.length:Int)≤totL x.Space.Board.Orders∧0≤totL x.Space.Board.Done∧(x.Space.Board.Done.length:Int)≤totL x.Space.Board.Done∧0≤Enc.tot x.Space.Board.Recorder∧Enc.tot x.Space.Board.Recorder=totL x.Space.Board.Recorder.Records+totL x.Space.Board.Recorder.Dropped∧0≤totL x.Space.Board.Recorder.Records∧(x.Space.Board.Recorder.Records.length:Int)≤totL x.Space.Board.Recorder.Records∧0≤totL x.Space.Board.Recorder.Dropped∧(x.Space.Board.Recorder.Dropped.length:Int)≤totL x.Space.Board.Recorder.Dropped∧0≤totL x.Space.Board.Asked∧(x.Space.Board.Asked.length:Int)≤totL x.Space.Board.Asked∧0≤Enc.tot x.Space.Packer∧Enc.tot x.Space.Packer=(x.Space.Packer.Rest.size:Int)+totL x.Space.Packer.Starts∧0≤totL x.Space.Packer.Starts∧(x.Space.Packer.Starts.length:Int)≤totL x.Space.Packer.Starts∧0≤totL x.Space.Files∧(x.Space.Files.length:Int)≤totL x.Space.Files∧0≤totL x.Space.Outs∧(x.Space.Outs.length:Int)≤totL x.Space.Outs∧0≤totL x.Space.Sent∧(x.Space.Sent.length:Int)≤totL x.Space.Sent∧0≤totL x.Offered∧(x.Offered.length:Int)≤totL x.Offered∧0≤totL x.Took∧(x.Took.length:Int)≤totL x.Took :=
 ⟨rfl,totL_nonneg _,totL_len _,totL_nonneg _,totL_len _,totL_nonneg _,totL_len _,Enc.tot_nonneg _,rfl,totL_nonneg _,totL_len _,Enc.tot_nonneg _,rfl,totL_nonneg _,totL_len _,Enc.tot_nonneg _,rfl,totL_nonneg _,totL_len _,totL_nonneg _,totL_len _,totL_nonneg _,totL_len _,totL_nonneg _,totL_len _,Enc.tot_nonneg _,rfl,Enc.tot_nonneg _,rfl,totL_nonneg _,totL_len _,totL_nonneg _,totL_len _,totL_nonneg _,totL_len _,totL_nonneg _,totL_len _,Enc.tot_nonneg _,rfl,totL_nonneg _,totL_len _,totL_nonneg _,totL_len _,totL_nonneg _,totL_len _,Enc.tot_nonneg _,rfl,totL_nonneg _,totL_len _,totL_nonneg _,totL_len _,totL_nonneg _,totL_len _,totL_nonneg _,totL_len _,totL_nonneg _,totL_len _,totL_nonneg _,totL_len _⟩

theorem mbounds{m:TMission}{N:Int}(ht:Enc.tot m≤N):totL m.Took≤N∧totL m.Offered≤N∧Enc.tot m.Ground≤N∧Enc.tot m.Space≤N∧totL m.Plan≤N∧totL m.Ups≤N∧totL m.Downs≤N:=by
 have h:totL m.Plan+totL m.Ups+totL m.Downs+Enc.tot m.Ground+Enc.tot m.Space+totL m.Offered+totL m.Took≤N:=ht
 have h1:=totL_nonneg m.Plan;have h2:=totL_nonneg m.Ups;have h3:=totL_nonneg m.Downs;have h4:=Enc.tot_nonneg m.Ground;have h5:=Enc.tot_nonneg m.Space;have h6:=totL_nonneg m.Offered;have h7:=totL_nonneg m.Took
 omega
theorem one_mission{B:Nat}{w:World}{vs:List Value}{m:TMission}(h:Enc.Rd B w vs m):vs.all (·.oneCell')=true:=by
 obtain⟨A,h,-⟩:=h
 rw[h];rfl
def countSeg(n:Int):Int:=if inB n 0 600=true then(n+23) / 24 else 0
theorem countSeg_bd(n:Int):0≤countSeg n∧countSeg n≤25:=by
  unfold countSeg
  split
  · rename_i h;have:=inB_iff.1 h;omega
  · omega
def allB(lo hi:Int):List Int→Bool
  | []=>true
  | x::r=>inB x lo hi && allB lo hi r
def fileOutOk(f:Int)(size:Int)(q:List Int):Bool:=inB f 0 7 && (decide (size≤600) && (decide ((q.length:Int)≤1000) && allB (-1) (countSeg size - 1) q))
theorem c_iCountSegments{n:Int}{w:World}:Calls Tryz.prog 154 #[.int .i64 n] w (Gives w (.int .i64 (countSeg n))):=by
  cases h:inB n 0 600
  · go_enter Tryz.func154,Tryz.ntmps154
    go_wp2_with (first|((with_reducible refine wp_region_later (by kernel_rfl) (by kernel_rfl) ?_);(repeat(first|go_big_quiet_step (first|(go_at_call 85;exact Gives.quiet (c_ibetween)))|simp only[h]));refine wpQuiet_nil ?_;rintro _ ⟨x,rfl⟩)|(go_at_call 85;refine(c_ibetween).mono ?_;rintro _ _ ⟨rfl,x,rfl⟩))
    go_ret
    exact Gives.mk (by simp[countSeg,h])
  · have⟨h1,h2⟩:=inB_iff.1 h
    go_enter Tryz.func154,Tryz.ntmps154
    go_wp2_with (first|((with_reducible refine wp_region_later (by kernel_rfl) (by kernel_rfl) ?_);(repeat(first|go_big_quiet_step (first|(go_at_call 85;exact Gives.quiet (c_ibetween)))|simp only[h]));refine wpQuiet_nil ?_;rintro _ ⟨x,rfl⟩)|(go_at_call 85;refine(c_ibetween).mono ?_;rintro _ _ ⟨rfl,x,rfl⟩))
    go_ret
    exact Gives.mk (by simp[countSeg,h];omega)
theorem c_sCountSegments{n:Int}{w:World}:Calls Tryz.prog 116 #[.int .i64 n] w (Gives w (.int .i64 (countSeg n))):=by
  cases h:inB n 0 600
  · go_enter Tryz.func116,Tryz.ntmps116
    go_wp2_with (first|((with_reducible refine wp_region_later (by kernel_rfl) (by kernel_rfl) ?_);(repeat(first|go_big_quiet_step (first|(go_at_call 88;exact Gives.quiet (c_sl01In)))|simp only[h]));refine wpQuiet_nil ?_;rintro _ ⟨x,rfl⟩)|(go_at_call 88;refine(c_sl01In).mono ?_;rintro _ _ ⟨rfl,x,rfl⟩))
    go_ret
    exact Gives.mk (by simp[countSeg,h])
  · have⟨h1,h2⟩:=inB_iff.1 h
    go_enter Tryz.func116,Tryz.ntmps116
    go_wp2_with (first|((with_reducible refine wp_region_later (by kernel_rfl) (by kernel_rfl) ?_);(repeat(first|go_big_quiet_step (first|(go_at_call 88;exact Gives.quiet (c_sl01In)))|simp only[h]));refine wpQuiet_nil ?_;rintro _ ⟨x,rfl⟩)|(go_at_call 88;refine(c_sl01In).mono ?_;rintro _ _ ⟨rfl,x,rfl⟩))
    go_ret
    exact Gives.mk (by simp[countSeg,h];omega)
theorem c_iallBetween{a:Option Addr}{n c:Nat}{lo hi:Int}{l:List Int}{w:World}(hs:Sl encInt w a l:=by first|assumption|(apply Sl.to<;>first|assumption|infer_instance)|omega)(hn:l.length=n:=by first|assumption|(apply Sl.to<;>first|assumption|infer_instance)|omega)(hm:n≤4611686018427387904:=by first|assumption|(apply Sl.to<;>first|assumption|infer_instance)|omega) :
    Calls Tryz.prog 210 #[.slice a n c,.int .i64 lo,.int .i64 hi] w (Gives w (.bool (allB lo hi l))):=by
  go_enter Tryz.func210,Tryz.ntmps210
  go_wp2_with (first|((with_reducible refine wp_region_later (by kernel_rfl) (by kernel_rfl) ?_);(repeat(first|go_big_quiet_step (first|fail)));refine wpQuiet_nil ?_;rintro _ ⟨x,rfl⟩))
  go_loopw [11] (fun v wr=>∃ k:Nat,v=.int .i64 k∧k≤n∧Hid (allB lo hi (l.drop k)=allB lo hi l)∧∃ x:Later w,wr=x.w) (fun v _=>(n - intOf v).toNat)
  case atStart=>exact⟨0,rfl,by omega,rfl,Later.of⟩
  case round =>
    obtain⟨k,rfl,hk,hf,x,rfl⟩:=hrel
    by_cases h:k<n
    · obtain⟨b,off,s,rfl,hb,hd,h0⟩:=hs.int (show k<l.length by omega)
      cases c1:inB s lo hi
      · go_wp2_with (first|((with_reducible refine wp_region_later (by kernel_rfl) (by kernel_rfl) ?_);(repeat(first|go_big_quiet_step (first|(go_at_call 85;exact Gives.quiet (c_ibetween)))|simp only[c1]));refine wpQuiet_nil ?_;rintro _ ⟨x,rfl⟩)|(go_at_call 85;refine(c_ibetween).mono ?_;rintro _ _ ⟨rfl,x,rfl⟩))
        go_ret
        exact Gives.mk (by have:=hf.out;rw[hd.out,allB,c1]at this;rw[← this];rfl)
      · go_wp2_with (first|((with_reducible refine wp_region_later (by kernel_rfl) (by kernel_rfl) ?_);(repeat(first|go_big_quiet_step (first|(go_at_call 85;exact Gives.quiet (c_ibetween)))|simp only[c1]));refine wpQuiet_nil ?_;rintro _ ⟨x,rfl⟩)|(go_at_call 85;refine(c_ibetween).mono ?_;rintro _ _ ⟨rfl,x,rfl⟩))
        go_roundw
        case rel=>exact⟨k+1,by go_num,by omega,by have:=hf.out;rw[hd.out,allB,c1]at this;exact this,Later.of⟩
        case measure=>simp[intOf];omega
    · go_wp2_with (first|((with_reducible refine wp_region_later (by kernel_rfl) (by kernel_rfl) ?_);(repeat(first|go_big_quiet_step (first|fail)));refine wpQuiet_nil ?_;rintro _ ⟨x,rfl⟩))
      go_ret
      exact Gives.mk (by have:=hf.out;rw[List.drop_of_length_le (by omega),allB]at this;rw[← this];rfl)
set_option maxRecDepth 100000 in
set_option maxHeartbeats 2000000 in
theorem c_iFileOutOk{a:Option Addr}{n c:Nat}{f:Int}{s:ByteArray}{d:Bool}{q:List Int}{w:World}(hs:Sl encInt w a q)(hn:q.length=n)(hm:n≤4611686018427387904)(hsz:s.size≤100000000) :
    Calls Tryz.prog 155 #[.agg #[.int .i64 f,.string s,.slice a n c,.bool d]] w (Gives w (.bool (fileOutOk f s.size q))):=by
  have HF:=lH (show fileOutOk f s.size q=(inB f 0 7 && (decide ((s.size:Int)≤600) && (decide ((n:Int)≤1000) && allB (-1) (countSeg s.size - 1) q)))by rw[fileOutOk,hn])
  have hc:=countSeg_bd s.size
  cases c1:inB f 0 7
  · go_enter Tryz.func155,Tryz.ntmps155
    go_wp2_with (first|((with_reducible refine wp_region_later (by kernel_rfl) (by kernel_rfl) ?_);(repeat(first|go_big_quiet_step (first|(go_at_call 85;exact Gives.quiet (c_ibetween)))|simp only[c1]));refine wpQuiet_nil ?_;rintro _ ⟨x,rfl⟩)|(go_at_call 85;refine(c_ibetween).mono ?_;rintro _ _ ⟨rfl,x,rfl⟩))
    go_ret
    exact Gives.mk (by rw[HF.out,c1];rfl)
  by_cases h2:600<s.size
  · go_enter Tryz.func155,Tryz.ntmps155
    go_wp2_with (first|((with_reducible refine wp_region_later (by kernel_rfl) (by kernel_rfl) ?_);(repeat(first|go_big_quiet_step (first|(go_at_call 85;exact Gives.quiet (c_ibetween)))|simp only[c1]));refine wpQuiet_nil ?_;rintro _ ⟨x,rfl⟩)|(go_at_call 85;refine(c_ibetween).mono ?_;rintro _ _ ⟨rfl,x,rfl⟩))
    go_ret
    exact Gives.mk (by rw[HF.out];have:decide ((s.size:Int)≤600)=false:=by simp;omega
                       simp[this])
  by_cases h3:1000<n
  · go_enter Tryz.func155,Tryz.ntmps155
    go_wp2_with (first|((with_reducible refine wp_region_later (by kernel_rfl) (by kernel_rfl) ?_);(repeat(first|go_big_quiet_step (first|(go_at_call 85;exact Gives.quiet (c_ibetween)))|simp only[c1]));refine wpQuiet_nil ?_;rintro _ ⟨x,rfl⟩)|(go_at_call 85;refine(c_ibetween).mono ?_;rintro _ _ ⟨rfl,x,rfl⟩))
    go_ret
    exact Gives.mk (by rw[HF.out];have:decide ((n:Int)≤1000)=false:=by simp;omega
                       simp[this])
  · have d2:decide ((s.size:Int)≤600)=true:=by simp;omega
    have d3:decide ((n:Int)≤1000)=true:=by simp;omega
    have HD:=lH (And.intro d2 d3);clear d2 d3
    go_enter Tryz.func155,Tryz.ntmps155
    go_wp2_with (first|((with_reducible refine wp_region_later (by kernel_rfl) (by kernel_rfl) ?_);(repeat(first|go_big_quiet_step (first|(go_at_call 85;exact Gives.quiet (c_ibetween))|(go_at_call 154;exact Gives.quiet (c_iCountSegments))|(go_at_call 210;exact Gives.quiet (c_iallBetween)))|simp only[c1]));refine wpQuiet_nil ?_;rintro _ ⟨x,rfl⟩)|(go_at_call 85;refine(c_ibetween).mono ?_;rintro _ _ ⟨rfl,x,rfl⟩)|(go_at_call 154;refine(c_iCountSegments).mono ?_;rintro _ _ ⟨rfl,x,rfl⟩)|(go_at_call 210;refine(c_iallBetween).mono ?_;rintro _ _ ⟨rfl,x,rfl⟩))
    go_ret
    exact Gives.mk (by rw[HF.out,c1,HD.out.1,HD.out.2];rfl)
set_option maxRecDepth 100000 in
set_option maxHeartbeats 2000000 in
theorem c_sFileOutOk{a:Option Addr}{n c:Nat}{f:Int}{s:ByteArray}{d:Bool}{q:List Int}{w:World}(hs:Sl encInt w a q)(hn:q.length=n)(hm:n≤4611686018427387904)(hsz:s.size≤100000000) :
    Calls Tryz.prog 117 #[.agg #[.int .i64 f,.string s,.slice a n c,.bool d]] w (Gives w (.bool (fileOutOk f s.size q))):=by
  have HF:=lH (show fileOutOk f s.size q=(inB f 0 7 && (decide ((s.size:Int)≤600) && (decide ((n:Int)≤1000) && allB (-1) (countSeg s.size - 1) q)))by rw[fileOutOk,hn])
  have hc:=countSeg_bd s.size
  go_enter Tryz.func117,Tryz.ntmps117
  go_wp2_with (first|((with_reducible refine wp_region_later (by kernel_rfl) (by kernel_rfl) ?_);(repeat(first|go_big_quiet_step (first|fail)));refine wpQuiet_nil ?_;rintro _ ⟨x,rfl⟩))
  go_loopw [3] (fun v wr=>∃ k:Nat,v=.int .i64 k∧k≤n∧Hid (allB (-1) (countSeg s.size - 1) (q.drop k)=allB (-1) (countSeg s.size - 1) q)∧∃ x:Later (w.alloc (.cells #[.int .i64 f,.string s,.slice a n c,.bool d] 116)),wr=x.w) (fun v _=>(n - intOf v).toNat)
  case atStart=>exact⟨0,rfl,by omega,rfl,Later.of⟩
  case round =>
    obtain⟨k,rfl,hk,hf,x,rfl⟩:=hrel
    by_cases h:k<n
    · obtain⟨b,off,y,rfl,hb,hd,h0⟩:=hs.int (show k<q.length by omega)
      cases c1:inB y (-1) (countSeg s.size - 1)
      · go_wp2_with (first|((with_reducible refine wp_region_later (by kernel_rfl) (by kernel_rfl) ?_);(repeat(first|go_big_quiet_step (first|(go_at_call 116;exact Gives.quiet (c_sCountSegments))|(go_at_call 88;exact Gives.quiet (c_sl01In)))|simp only[c1]));refine wpQuiet_nil ?_;rintro _ ⟨x,rfl⟩)|(go_at_call 116;refine(c_sCountSegments).mono ?_;rintro _ _ ⟨rfl,x,rfl⟩)|(go_at_call 88;refine(c_sl01In).mono ?_;rintro _ _ ⟨rfl,x,rfl⟩))
        go_ret
        exact Gives.mk (by have:=hf.out;rw[hd.out,allB,c1]at this;rw[HF.out,← this];simp)
      · go_wp2_with (first|((with_reducible refine wp_region_later (by kernel_rfl) (by kernel_rfl) ?_);(repeat(first|go_big_quiet_step (first|(go_at_call 116;exact Gives.quiet (c_sCountSegments))|(go_at_call 88;exact Gives.quiet (c_sl01In)))|simp only[c1]));refine wpQuiet_nil ?_;rintro _ ⟨x,rfl⟩)|(go_at_call 116;refine(c_sCountSegments).mono ?_;rintro _ _ ⟨rfl,x,rfl⟩)|(go_at_call 88;refine(c_sl01In).mono ?_;rintro _ _ ⟨rfl,x,rfl⟩))
        go_roundw
        case rel=>exact⟨k+1,by go_num,by omega,by have:=hf.out;rw[hd.out,allB,c1]at this;exact this,Later.of⟩
        case measure=>simp[intOf];omega
    · have hf':=hf.out
      rw[List.drop_of_length_le (by omega),allB]at hf'
      have HA:=lH hf';clear hf hf'
      cases c1:inB f 0 7
      · go_wp2_with (first|((with_reducible refine wp_region_later (by kernel_rfl) (by kernel_rfl) ?_);(repeat(first|go_big_quiet_step (first|(go_at_call 88;exact Gives.quiet (c_sl01In)))|simp only[c1]));refine wpQuiet_nil ?_;rintro _ ⟨x,rfl⟩)|(go_at_call 88;refine(c_sl01In).mono ?_;rintro _ _ ⟨rfl,x,rfl⟩))
        go_ret
        exact Gives.mk (by rw[HF.out,c1];rfl)
      by_cases h2:600<s.size
      · go_wp2_with (first|((with_reducible refine wp_region_later (by kernel_rfl) (by kernel_rfl) ?_);(repeat(first|go_big_quiet_step (first|(go_at_call 88;exact Gives.quiet (c_sl01In)))|simp only[c1]));refine wpQuiet_nil ?_;rintro _ ⟨x,rfl⟩)|(go_at_call 88;refine(c_sl01In).mono ?_;rintro _ _ ⟨rfl,x,rfl⟩))
        go_ret
        exact Gives.mk (by rw[HF.out];have:decide ((s.size:Int)≤600)=false:=by simp;omega
                           simp[this])
      by_cases h3:1000<n
      · go_wp2_with (first|((with_reducible refine wp_region_later (by kernel_rfl) (by kernel_rfl) ?_);(repeat(first|go_big_quiet_step (first|(go_at_call 88;exact Gives.quiet (c_sl01In)))|simp only[c1]));refine wpQuiet_nil ?_;rintro _ ⟨x,rfl⟩)|(go_at_call 88;refine(c_sl01In).mono ?_;rintro _ _ ⟨rfl,x,rfl⟩))
        go_ret
        exact Gives.mk (by rw[HF.out];have:decide ((n:Int)≤1000)=false:=by simp;omega
                           simp[this])
      · go_wp2_with (first|((with_reducible refine wp_region_later (by kernel_rfl) (by kernel_rfl) ?_);(repeat(first|go_big_quiet_step (first|(go_at_call 88;exact Gives.quiet (c_sl01In)))|simp only[c1]));refine wpQuiet_nil ?_;rintro _ ⟨x,rfl⟩)|(go_at_call 88;refine(c_sl01In).mono ?_;rintro _ _ ⟨rfl,x,rfl⟩))
        go_ret
        exact Gives.mk (by rw[HF.out,c1,← HA.out];simp;omega)
theorem count_snoc{l:List Int}{k:Nat}{s:Int}{r:List Int}(h:l.drop k=s::r)(i:Int):(l.take (k+1)).count i=(l.take k).count i+(if s=i then 1 else 0):=by
 rw[take_snoc' h,List.count_append]
 simp[List.count_cons]
theorem allB_one{l:List Int}:∀ N:Nat,allB 1 1 ((List.range N).map (fun i:Nat=>(l.count (i:Int):Int)))=countsOne l N:=by
 have key:∀ (p:List Nat),allB 1 1 (p.map (fun i:Nat=>(l.count (i:Int):Int)))=p.all (fun i:Nat=>decide (l.count (i:Int)=1)):=by
  intro p
  induction p with
  | nil=>rfl
  | cons x r ih =>
   rw[List.map_cons,allB,ih,List.all_cons]
   congr 1
   rw[Bool.eq_iff_iff,inB_iff,decide_eq_true_eq]
   omega
 intro N
 rw[key]
 induction N with
 | zero=>rfl
 | succ N ih=>rw[List.range_succ,List.all_append,ih,countsOne];simp
theorem made_zero{n i:Nat}{v:Value}(hv:v.cells=#[v])(hi:i<n):(madeCells v.cells (n*1))[i]?=some v:=by
 have h1:i % 1=0:=Nat.mod_one i
 rw[hv]
 simp[madeCells,hi,h1]
set_option maxRecDepth 100000 in
set_option maxHeartbeats 2000000 in
theorem c_ieachOnceN{a:Option Addr}{n c:Nat}{l:List Int}{w:World}(hs:Sl encInt w a l)(hn:l.length=n)(hm:n≤4194304) :
  Calls Tryz.prog 93 #[.slice a n c,.int .i64 n] w (Gives w (.bool (countsOne l n))):=by
 have hmx:max (n:Int) 0=(n:Int):=by omega
 have k1:((n:Int) != (n:Int))=false:=by simp
 obtain⟨C,hC,hmk⟩:=run_mk (P:=Tryz.prog) Tryz.underlying46 (e:=3) (z:=.int .i64 0) (size:=1) (bytes:=8) (by kernel_rfl) n (by omega) (by omega)
 have hCz:C.size=n:=by rw[hC,size_madeCells,Nat.mul_one]
 have HC:=lH (show ∀ i,i<n→C[i]?=some (.int .i64 0)from fun i hi=>by rw[hC];exact made_zero rfl hi)
 clear hC
 go_enter Tryz.func93,Tryz.ntmps93
 go_wp2_with (first|((with_reducible refine wp_region_later (by kernel_rfl) (by kernel_rfl) ?_);(repeat(first|go_big_quiet_step (first|fail)|simp only[hmx]|simp only[k1]));refine wpQuiet_nil ?_;rintro _ ⟨x,rfl⟩))
 clear hmk
 go_loopw [18] (fun v wr=>∃ k:Nat,v=.int .i64 k∧k≤n∧∃ (D:Array Value) (x:Later (w.alloc (.cells D 3))),D.size=n∧Hid (∀ i,i<n→D[i]?=some (.int .i64 ((l.take k).count (i:Int))))∧wr=x.w) (fun v _=>(n - intOf v).toNat)
 case atStart=>exact⟨0,rfl,by omega,C,Later.here _,hCz,(fun i hi=>by rw[HC.out i hi];rfl),rfl⟩
 case round =>
  obtain⟨k,rfl,hk,D,X,hDz,hf,rfl⟩:=hrel
  by_cases h:k<n
  ·obtain⟨b,off,s,rfl,hb,hd,h0⟩:=hs.int (show k<l.length by omega)
   cases c1:inB s 0 ((n:Int) - 1)
   ·have HF:=lH (show ∀ i,i<n→D[i]?=some (.int .i64 ((l.take (k+1)).count (i:Int)))from fun i hi=>by
     have hne:¬ s=(i:Int):=fun e=>by
      have h2:inB s 0 ((n:Int) - 1)=true:=inB_iff.2 (by omega)
      rw[c1]at h2;cases h2
     rw[hf.out i hi,count_snoc hd.out,if_neg hne];rfl)
    clear hf
    go_wp2_with (first|((with_reducible refine wp_region_later (by kernel_rfl) (by kernel_rfl) ?_);(repeat(first|go_big_quiet_step (first|(go_at_call 85;exact Gives.quiet (c_ibetween)))|simp only[c1]));refine wpQuiet_nil ?_;rintro _ ⟨x,rfl⟩)|(go_at_call 85;refine(c_ibetween).mono ?_;rintro _ _ ⟨rfl,x,rfl⟩))
    go_roundw
    case rel=>exact⟨k+1,by go_num,by omega,D,X.andThen x,hDz,HF,rfl⟩
    case measure=>simp[intOf];omega
   ·have⟨hs1,hs2⟩:=inB_iff.1 c1
    obtain⟨j,rfl⟩:=Int.eq_ofNat_of_zero_le hs1
    have hj:j<n:=by omega
    have g0:=hf.out j hj
    have hcl:(l.take k).count (j:Int)≤n:=Nat.le_trans List.count_le_length (by rw[List.length_take];omega)
    obtain⟨q,hq⟩:∃ q,(l.take k).count (j:Int)=q:=⟨_,rfl⟩
    rw[hq]at g0 hcl
    have HQ:=lH hq;clear hq
    obtain⟨hjD,g1⟩:=Array.getElem?_eq_some_iff.1 g0
    clear hs1 hs2
    go_wp2_with (first|((with_reducible refine wp_region_later (by kernel_rfl) (by kernel_rfl) ?_);(repeat(first|go_big_quiet_step (first|(go_at_call 85;exact Gives.quiet (c_ibetween)))|simp only[c1]));refine wpQuiet_nil ?_;rintro _ ⟨x,rfl⟩)|(go_at_call 85;refine(c_ibetween).mono ?_;rintro _ _ ⟨rfl,x,rfl⟩))
    go_roundw
    case rel =>
     obtain⟨x2,hx2⟩:=Later.set1_at (X.andThen x) j (.int .i64 ((q:Int)+1))
     refine⟨k+1,by go_num,by omega,D.setIfInBounds j (.int .i64 ((q:Int)+1)),x2,by simpa using hDz,(fun i hi=>?_),by rw[← hx2]⟩
     rw[count_snoc hd.out]
     by_cases hji:j=i
     ·subst hji
      rw[Array.getElem?_setIfInBounds_self_of_lt (by omega),HQ.out,if_pos rfl];rfl
     ·rw[Array.getElem?_setIfInBounds_ne hji,hf.out i hi,if_neg (by omega)];rfl
    case measure=>simp[intOf];omega
  ·have hkn:l.take k=l:=List.take_of_length_le (by omega)
   rw[hkn]at hf
   have hsl:Sl encInt X.w (some ⟨w.heap.size,0,none⟩) ((List.range n).map (fun i:Nat=>(l.count (i:Int):Int))):=fun i y hy=>by
    have hi:i<n:=by have:=(List.getElem?_eq_some_iff.1 hy).1;simpa using this
    have hy2:y=(l.count (i:Int):Int):=by simpa[hi]using hy.symm
    subst hy2
    refine⟨w.heap.size,0,rfl,(LtN.out (a:=w.heap.size)),fun j v hv=>?_⟩
    have hj:j=0:=by have:=(List.getElem?_eq_some_iff.1 hv).1;simp[encInt]at this;exact this
    subst hj
    rw[X.h.cell (p:=⟨w.heap.size,_,none⟩) (by simp),World.cell?_alloc_at _ _ _ _ rfl,encInt_len,Nat.mul_one,Nat.zero_add,Nat.add_zero,hf.out i hi]
    simpa[encInt]using hv
   have HV:=lH (allB_one (l:=l) n)
   go_wp2_with (first|((with_reducible refine wp_region_later (by kernel_rfl) (by kernel_rfl) ?_);(repeat(first|go_big_quiet_step (first|fail)));refine wpQuiet_nil ?_;rintro _ ⟨x,rfl⟩))
   refine(c_iallBetween (hsl.to inferInstance) (by simp) (by omega)).mono ?_
   rintro _ _ ⟨rfl,y,rfl⟩
   rw[HV.out]
   go_wp2_with (first|((with_reducible refine wp_region_later (by kernel_rfl) (by kernel_rfl) ?_);(repeat(first|go_big_quiet_step (first|fail)));refine wpQuiet_nil ?_;rintro _ ⟨x,rfl⟩))
   go_ret
   exact Gives.mk rfl
set_option maxRecDepth 100000 in
set_option maxHeartbeats 2000000 in
theorem c_ieachOnce{a:Option Addr}{n c:Nat}{t:Int}{l:List Int}{w:World}(hs:Sl encInt w a l)(hn:l.length=n)(hm:n≤4194304) :
  Calls Tryz.prog 93 #[.slice a n c,.int .i64 t] w (Gives w (.bool (once l t))):=by
 by_cases hN:t=(n:Int)
 ·subst hN
  rw[show once l (n:Int)=countsOne l n by simp[once,hn]]
  exact c_ieachOnceN hs hn hm
 by_cases h0:t<0∧n=0
 ·obtain⟨h1,rfl⟩:=h0
  have hmx:max t 0=0:=by omega
  have hl:l=[]:=List.length_eq_zero_iff.1 hn
  have HV:=lH (show once l t=true by rw[once,hl,show t.toNat=0 by omega];rfl)
  clear hN
  have hmk:∀ w:World,(Instr.makeSlice 46 (.int .i64 0) (.int .i64 0)).run Tryz.prog w=.ok (.slice (some ⟨w.heap.size,0,none⟩) 0 0) (w.alloc (.cells #[] 3)):=fun w=>by kernel_rfl
  go_enter Tryz.func93,Tryz.ntmps93
  go_wp2_with (first|((with_reducible refine wp_region_later (by kernel_rfl) (by kernel_rfl) ?_);(repeat(first|go_big_quiet_step (first|fail)|simp only[hmx]));refine wpQuiet_nil ?_;rintro _ ⟨x,rfl⟩))
  refine wp_loop_rounds 1 ?_
  rw[rounds_succ]
  go_wp2_with (first|((with_reducible refine wp_region_later (by kernel_rfl) (by kernel_rfl) ?_);(repeat(first|go_big_quiet_step (first|fail)));refine wpQuiet_nil ?_;rintro _ ⟨x,rfl⟩))
  refine(c_iallBetween (l:=[]) (n:=0) (Sl.nil) rfl (by omega)).mono ?_
  rintro _ _ ⟨rfl,y,rfl⟩
  go_wp2_with (first|((with_reducible refine wp_region_later (by kernel_rfl) (by kernel_rfl) ?_);(repeat(first|go_big_quiet_step (first|fail)));refine wpQuiet_nil ?_;rintro _ ⟨x,rfl⟩))
  go_ret
  exact Gives.mk (by rw[HV.out];rfl)
 ·have HV:=lH (show once l t=false by rw[once,hn,decide_eq_false (by omega)];rfl)
  by_cases ht:t<0
  ·have hT:max t 0=0:=by omega
   have hne:((n:Int) != 0)=true:=by simp;omega
   clear hN h0
   go_enter Tryz.func93,Tryz.ntmps93
   go_wp2_with (first|((with_reducible refine wp_region_later (by kernel_rfl) (by kernel_rfl) ?_);(repeat(first|go_big_quiet_step (first|fail)|simp only[hT]|simp only[hne]));refine wpQuiet_nil ?_;rintro _ ⟨x,rfl⟩))
   go_ret
   exact Gives.mk (by rw[HV.out];rfl)
  ·have hT:max t 0=t:=by omega
   have hne:((n:Int) != t)=true:=by simp;omega
   clear hN h0
   go_enter Tryz.func93,Tryz.ntmps93
   go_wp2_with (first|((with_reducible refine wp_region_later (by kernel_rfl) (by kernel_rfl) ?_);(repeat(first|go_big_quiet_step (first|fail)|simp only[hT]|simp only[hne]));refine wpQuiet_nil ?_;rintro _ ⟨x,rfl⟩))
   go_ret
   exact Gives.mk (by rw[HV.out];rfl)
def boundsFrom(b:Int):Int→List Pair→Int × Int
 | low,[]=>(low,1000000)
 | low,p::r=>if p.Board<b then boundsFrom b (p.True+1) r else if b<p.Board then(low,p.True - 1)else boundsFrom b low r
theorem reqsFrom_free:∀ {l b:List Request},reqsFrom b l=true→∀ r∈l,∀ x∈b,x.Id≠r.Id
 | [],_,_,r,hr=>by simp at hr
 | s::l,b,h,r,hr=>by
  simp only[reqsFrom,Bool.and_eq_true]at h
  rcases List.mem_cons.1 hr with rfl|hr
  ·have h1:=h.2.2.2.2.1
   clear h
   induction b with
   | nil=>intro x hx;simp at hx
   | cons y b ih =>
    simp only[idFree,Bool.and_eq_true]at h1
    intro x hx
    rcases List.mem_cons.1 hx with rfl|hx
    ·simpa using h1.1
    ·exact ih (by have:=h1.2;exact this) x hx
  ·intro x hx
   exact reqsFrom_free h.2.2.2.2.2 r hr x (by simp[hx])
/-! ### One time: who gets it, and when is the next one wanted -/
def wants(t:Int)(r:Request)(g:Int):Bool:=!(g == 0) && inB t r.Ready r.Deadline
def beats(r:Request):Option (Nat × Request)→Bool
 | none=>true
 | some (_,b)=>decide (r.Deadline<b.Deadline) || ((r.Deadline == b.Deadline) && decide (r.Id<b.Id))
def best(t:Int):Option (Nat × Request)→Nat→List Request→List Int→Option (Nat × Request)
 | o,k,r::rs,g::gs=>best t (if (wants t r g && beats r o)=true then some (k,r)else o) (k+1) rs gs
 | o,_,_,_=>o
def nextStep(t:Int)(n:Int)(r:Request)(g:Int):Int :=
 if ((g == 0) || decide (r.Deadline<t))=true then n else if (decide (n<0) || decide (max t r.Ready<n))=true then max t r.Ready else n
def nextW(t:Int):Int→List Request→List Int→Int
 | n,r::rs,g::gs=>nextW t (nextStep t n r g) rs gs
 | n,_,_=>n
def idle(t:Int):List Request→List Int→Prop
 | r::rs,g::gs=>wants t r g=false∧idle t rs gs
 | _,_=>True
theorem best_idle{t:Int}:∀ {rs:List Request} {gs:List Int} {o:Option (Nat × Request)} {k:Nat},idle t rs gs→best t o k rs gs=o
 | [],_,_,_,_=>by simp[best]
 | _::_,[],_,_,_=>by simp[best]
 | r::rs,g::gs,o,k,h=>by
  rw[best,h.1]
  simpa using best_idle h.2
theorem best_spec{t:Int}:∀ {rs:List Request} {gs:List Int} {o:Option (Nat × Request)} {k:Nat},
  (best t o k rs gs=o∨∃ i r g,rs[i]?=some r∧gs[i]?=some g∧wants t r g=true∧best t o k rs gs=some (k+i,r))
 | [],_,o,k=>.inl (by simp[best])
 | _::_,[],o,k=>.inl (by simp[best])
 | r::rs,g::gs,o,k=>by
  rw[best]
  by_cases h:(wants t r g && beats r o)=true
  ·rw[if_pos h]
   simp only[Bool.and_eq_true]at h
   rcases best_spec (t:=t) (rs:=rs) (gs:=gs) (o:=some (k,r)) (k:=k+1)with h1|⟨i,r',g',h1,h2,h3,h4⟩
   ·exact .inr ⟨0,r,g,rfl,rfl,h.1,by rw[h1,Nat.add_zero]⟩
   ·exact .inr ⟨i+1,r',g',h1,h2,h3,by rw[h4];congr 2;omega⟩
  ·rw[if_neg h]
   rcases best_spec (t:=t) (rs:=rs) (gs:=gs) (o:=o) (k:=k+1)with h1|⟨i,r',g',h1,h2,h3,h4⟩
   ·exact .inl h1
   ·exact .inr ⟨i+1,r',g',h1,h2,h3,by rw[h4];congr 2;omega⟩
theorem best_least{t:Int}:∀ {rs:List Request} {gs:List Int} {o:Option (Nat × Request)} {k:Nat},
  (∀ (i:Nat) r g,rs[i]?=some r→gs[i]?=some g→wants t r g=true→∃ j b,best t o k rs gs=some (j,b)∧b.Deadline≤r.Deadline) ∧
  (∀ j b,o=some (j,b)→∃ j' b',best t o k rs gs=some (j',b')∧b'.Deadline≤b.Deadline)
 | [],_,o,k=>⟨fun i r g h=>by simp at h,fun j b h=>⟨j,b,by simp[best,h],Int.le_refl _⟩⟩
 | _::_,[],o,k=>⟨fun i r g _ h=>by simp at h,fun j b h=>⟨j,b,by simp[best,h],Int.le_refl _⟩⟩
 | r::rs,g::gs,o,k=>by
  rw[best]
  have key:∀ j b,o=some (j,b)→∃ j' b',(if (wants t r g && beats r o)=true then some (k,r)else o)=some (j',b')∧b'.Deadline≤b.Deadline:=by
   intro j b hb
   by_cases h:(wants t r g && beats r o)=true
   ·rw[if_pos h]
    simp only[Bool.and_eq_true]at h
    have h2:=h.2
    rw[hb]at h2
    simp only[beats,Bool.or_eq_true,decide_eq_true_eq,Bool.and_eq_true,beq_iff_eq]at h2
    exact⟨k,r,rfl,by omega⟩
   ·rw[if_neg h];exact⟨j,b,hb,Int.le_refl _⟩
  have ih:=best_least (t:=t) (rs:=rs) (gs:=gs) (o:=if (wants t r g && beats r o)=true then some (k,r)else o) (k:=k+1)
  refine⟨fun i r' g' h1 h2 h3=>?_,fun j b hb=>?_⟩
  ·match i with
   | 0 =>
    simp only[List.getElem?_cons_zero,Option.some.injEq]at h1 h2
    subst h1;subst h2
    by_cases h:beats r o=true
    ·have hh:(if (wants t r g && beats r o)=true then some (k,r)else o)=some (k,r):=by rw[h3,h];rfl
     exact ih.2 k r hh
    ·cases o with
     | none=>simp[beats]at h
     | some jb =>
      obtain⟨j,b⟩:=jb
      simp only[beats,Bool.or_eq_true,decide_eq_true_eq,Bool.and_eq_true,beq_iff_eq]at h
      obtain⟨j',b',h4,h5⟩:=key j b rfl
      obtain⟨j2,b2,h6,h7⟩:=ih.2 j' b' h4
      exact⟨j2,b2,h6,by omega⟩
   | i+1=>exact ih.1 i r' g' (by simpa using h1) (by simpa using h2) h3
  ·obtain⟨j',b',h4,h5⟩:=key j b hb
   obtain⟨j2,b2,h6,h7⟩:=ih.2 j' b' h4
   exact⟨j2,b2,h6,by omega⟩
theorem best_none{t:Int}{rs:List Request}{gs:List Int}{k:Nat}(h:best t none k rs gs=none):∀ (i:Nat) r g,rs[i]?=some r→gs[i]?=some g→wants t r g=false:=fun i r g h1 h2=>by
 cases h3:wants t r g
 ·rfl
 ·obtain⟨j,b,h4,-⟩:=(best_least (t:=t) (rs:=rs) (gs:=gs) (o:=none) (k:=k)).1 i r g h1 h2 h3
  rw[h]at h4;cases h4
theorem best_some{t:Int}{rs:List Request}{gs:List Int}{j:Nat}{b:Request}(h:best t none 0 rs gs=some (j,b)):∃ g,rs[j]?=some b∧gs[j]?=some g∧wants t b g=true:=by
 rcases best_spec (t:=t) (rs:=rs) (gs:=gs) (o:=none) (k:=0)with h1|⟨i,r,g,h1,h2,h3,h4⟩
 ·rw[h1]at h;cases h
 ·rw[h4]at h
  simp only[Nat.zero_add,Option.some.injEq,Prod.mk.injEq]at h
  obtain⟨rfl,rfl⟩:=h
  exact⟨g,h1,h2,h3⟩
theorem nextW_spec{t:Int}(ht:0≤t):∀ {rs:List Request} {gs:List Int} {n:Int},(n=-1∨t≤n) →
  (nextW t n rs gs=-1∧n=-1∧(∀ u,t≤u→idle u rs gs))∨(t≤nextW t n rs gs∧(n≠-1→nextW t n rs gs≤n)∧(∀ u,t≤u→u<nextW t n rs gs→idle u rs gs)∧(n≠nextW t n rs gs→∃ r∈rs,nextW t n rs gs≤max r.Ready r.Deadline))
 | [],gs,n,hn=>by
  rcases hn with rfl|hn
  ·exact .inl ⟨by simp[nextW],rfl,fun _ _=>by simp[idle]⟩
  ·exact .inr ⟨by simpa[nextW]using hn,fun _=>by simp[nextW],fun _ _ _=>by simp[idle],fun h=>by simp[nextW]at h⟩
 | _::_,[],n,hn=>by
  rcases hn with rfl|hn
  ·exact .inl ⟨by simp[nextW],rfl,fun _ _=>by simp[idle]⟩
  ·exact .inr ⟨by simpa[nextW]using hn,fun _=>by simp[nextW],fun _ _ _=>by simp[idle],fun h=>by simp[nextW]at h⟩
 | r::rs,g::gs,n,hn=>by
  rw[nextW]
  by_cases h1:((g == 0) || decide (r.Deadline<t))=true
  ·have e:nextStep t n r g=n:=by rw[nextStep,if_pos h1]
   rw[e]
   have hno:∀ u,t≤u→wants u r g=false:=by
    intro u hu
    simp only[Bool.or_eq_true,beq_iff_eq,decide_eq_true_eq]at h1
    unfold wants
    rcases h1 with h1|h1
    ·simp[h1]
    ·have:inB u r.Ready r.Deadline=false:=by simp[inB];omega
     simp[this]
   rcases nextW_spec ht (rs:=rs) (gs:=gs) hn with⟨a,b,c⟩|⟨a,b,c,d⟩
   ·exact .inl ⟨a,b,fun u hu=>⟨hno u hu,c u hu⟩⟩
   ·exact .inr ⟨a,b,fun u hu hu'=>⟨hno u hu,c u hu hu'⟩,fun hne=>by obtain⟨q,hq,hq2⟩:=d hne;exact⟨q,by simp[hq],hq2⟩⟩
  ·have h1':=h1
   simp only[Bool.or_eq_true,beq_iff_eq,decide_eq_true_eq,not_or]at h1'
   have hno:∀ u,t≤u→u<max t r.Ready→wants u r g=false:=by
    intro u hu hu'
    have:inB u r.Ready r.Deadline=false:=by simp[inB];omega
    simp[wants,this]
   by_cases h2:(decide (n<0) || decide (max t r.Ready<n))=true
   ·have e:nextStep t n r g=max t r.Ready:=by rw[nextStep,if_neg h1,if_pos h2]
    rw[e]
    simp only[Bool.or_eq_true,decide_eq_true_eq]at h2
    rcases nextW_spec ht (rs:=rs) (gs:=gs) (n:=max t r.Ready) (.inr (by omega))with⟨a,b,c⟩|⟨a,b,c,d⟩
    ·omega
    ·have D:=lH d;clear d
     have hb:=b (by omega)
     refine .inr ⟨a,fun _=>by omega,fun u hu hu'=>⟨hno u hu (by omega),c u hu hu'⟩,fun _=>?_⟩
     by_cases hne:max t r.Ready=nextW t (max t r.Ready) rs gs
     ·exact⟨r,by simp,by rw[← hne];omega⟩
     ·obtain⟨q,hq,hq2⟩:=D.out hne;exact⟨q,by simp[hq],hq2⟩
   ·have e:nextStep t n r g=n:=by rw[nextStep,if_neg h1,if_neg h2]
    rw[e]
    simp only[Bool.or_eq_true,decide_eq_true_eq,not_or]at h2
    have hn':t≤n:=by omega
    rcases nextW_spec ht (rs:=rs) (gs:=gs) hn with⟨a,b,c⟩|⟨a,b,c,d⟩
    ·omega
    ·have D:=lH d;clear d
     have hb:=b (by omega)
     exact .inr ⟨a,b,fun u hu hu'=>⟨hno u hu (by omega),c u hu hu'⟩,fun hne=>by obtain⟨q,hq,hq2⟩:=D.out hne;exact⟨q,by simp[hq],hq2⟩⟩
/-! ### The plan -/
def lowered(gs:List Int)(k:Nat):List Int:=gs.set k ((gs[k]?).getD 0 - 1)
def planFrom(p s l:Int)(list:List Request):Nat→Int→List Int→List Slot
 | 0,_,_=>[]
 | f+1,t,gs =>
  if visible p s l t=true then
   match best t none 0 list gs with
   | some (k,r)=>⟨t,r.Id⟩::planFrom p s l list f (t+1) (lowered gs k)
   | none=>planFrom p s l list f (t+1) gs
  else planFrom p s l list f (t+1) gs
def planAll(p s l:Int)(list:List Request):List Slot :=
 if (orbitOk p s l && requestsOk list)=true then planFrom p s l list 1000001 0 (list.map (·.Need))else[]
theorem planFrom_skip1{p s l t:Int}{list:List Request}{gs:List Int}{f:Nat}(h:visible p s l t=false∨idle t list gs):planFrom p s l list (f+1) t gs=planFrom p s l list f (t+1) gs:=by
 rw[planFrom]
 rcases h with h|h
 ·rw[h,if_neg (by simp)]
 ·rw[best_idle h];split<;>rfl
theorem planFrom_skip{p s l:Int}{list:List Request}{gs:List Int}:∀ (d f:Nat) {t:Int},(∀ u,t≤u→u<t+d→visible p s l u=false∨idle u list gs)→planFrom p s l list (f+d) t gs=planFrom p s l list f (t+d) gs
 | 0,f,t,_=>by simp
 | d+1,f,t,h=>by
  rw[← Nat.add_assoc,planFrom_skip1 (h t (Int.le_refl _) (by omega)),planFrom_skip d f (fun u hu hu'=>h u (by omega) (by omega))]
  congr 1;omega
theorem planFrom_none{p s l:Int}{list:List Request}{gs:List Int}(f:Nat){t:Int}(h:∀ u,t≤u→u<t+f→visible p s l u=false∨idle u list gs):planFrom p s l list f t gs=[]:=by
 have:=planFrom_skip f 0 h
 rw[Nat.zero_add]at this
 rw[this,planFrom]
theorem planFrom_hit{p s l t:Int}{list:List Request}{gs:List Int}{f k:Nat}{r:Request}(hv:visible p s l t=true)(hp:best t none 0 list gs=some (k,r)) :
  planFrom p s l list (f+1) t gs=⟨t,r.Id⟩::planFrom p s l list f (t+1) (lowered gs k):=by
 rw[planFrom,if_pos hv,hp]
def idxOf:Option (Nat × Request)→Int
 | none=>-1
 | some (i,_)=>i
def placed(l:List Request):Option (Nat × Request)→Prop
 | none=>True
 | some (i,b)=>l[i]?=some b
theorem nextW_cons{t n m:Int}{rs rs':List Request}{gs gs':List Int}{r:Request}{g:Int}(h1:rs=r::rs')(h2:gs=g::gs')(h3:nextStep t n r g=m):nextW t m rs' gs'=nextW t n rs gs:=by rw[h1,h2,nextW,h3]
theorem nextW_nil{t n:Int}{rs:List Request}{gs:List Int}(h:rs=[]):nextW t n rs gs=n:=by rw[h,nextW];intro r rs g gs h;cases h
def bestStep(t:Int)(o:Option (Nat × Request))(k:Nat)(r:Request)(g:Int):Option (Nat × Request):=if (wants t r g && beats r o)=true then some (k,r)else o
theorem best_cons{t:Int}{o q:Option (Nat × Request)}{k:Nat}{rs rs':List Request}{gs gs':List Int}{r:Request}{g:Int}(h1:rs=r::rs')(h2:gs=g::gs')(h3:bestStep t o k r g=q):best t q (k+1) rs' gs'=best t o k rs gs:=by rw[h1,h2,best,← h3,bestStep]
theorem best_nil{t:Int}{o:Option (Nat × Request)}{k:Nat}{rs:List Request}{gs:List Int}(h:rs=[]):best t o k rs gs=o:=by rw[h,best];intro r rs g gs h;cases h
theorem at_of_drop{α:Type}{l r:List α}{s:α}{k:Nat}(h:l.drop k=s::r):l[k]?=some s:=by
 have:=congrArg (fun m=>m[0]?) h
 simpa using this
def encStr(s:ByteArray):List Value:=[.string s]
theorem encStr_len(n:ByteArray):(encStr n).length=1:=rfl
theorem encStr_one(n:ByteArray):∀ u∈encStr n,u.oneCell'=true:=by intro u hu;simp[encStr]at hu;subst hu;rfl
theorem Sl.str{w:World}{a:Option Addr}{l:List ByteArray}(h:Sl encStr w a l){k:Nat}(hk:k<l.length) :
  ∃ b off s,a=some ⟨b,off,none⟩∧LtN b w.heap.size∧Hid (l.drop k=s::l.drop (k+1))∧(∀ (W:World) [Grows w W],W.cell? ⟨b,off+k,none⟩=some (.string s)):=by
 obtain⟨s,hs,hd⟩:=drop_at hk
 obtain⟨b,off,ha,hb,hc⟩:=h k s hs
 exact⟨b,off,s,ha,⟨hb⟩,hd,cell_grown hb (by simpa[encStr]using hc 0 _ rfl)⟩
def eqStr(s t:ByteArray):Bool:=s.toList == t.toList
theorem c_cloneStr{a:Option Addr}{n c:Nat}{l:List ByteArray}{w:World}(hs:Sl encStr w a l)(hn:l.length=n)(hm:n≤100000000) :
  Calls Tryz.prog 133 #[.slice a n c] w (GivesSl encStr 9 1 w l):=by
 cases a with
 | none =>
  have hl:l=[]:=by
   cases l with
   | nil=>rfl
   | cons y r=>obtain⟨b,off,h0,-⟩:=hs 0 y rfl;cases h0
  have hq:=fun(w:World)=>run_eql_slice_nil (P:=Tryz.prog) w 30 9 none n c Tryz.underlying30
  simp only[Option.isNone]at hq
  have HL:=lH hl;clear hl
  go_enter Tryz.func133,Tryz.ntmps133
  go_wp2_with (first|((with_reducible refine wp_region_later (by kernel_rfl) (by kernel_rfl) ?_);(repeat(first|go_big_quiet_step (first|fail)));refine wpQuiet_nil ?_;rintro _ ⟨x,rfl⟩))
  go_ret
  exact GivesSl.nilOf encStr_len HL.out
 | some ad =>
  have hq:=fun(w:World)=>run_eql_slice_nil (P:=Tryz.prog) w 30 9 (some ad) n c Tryz.underlying30
  simp only[Option.isNone]at hq
  go_enter Tryz.func133,Tryz.ntmps133
  go_wp2_with (first|((with_reducible refine wp_region_later (by kernel_rfl) (by kernel_rfl) ?_);(repeat(first|go_big_quiet_step (first|fail)));refine wpQuiet_nil ?_;rintro _ ⟨x,rfl⟩)|(at_builtin;refine wpList_appS (enc:=encStr) (w0:=w) (z:=.string ByteArray.empty) (size:=1) (bytes:=16) (n:=0) (l:=[]) rfl (.tmp 5) (.tmp 6) rfl Tryz.underlying30 (by kernel_rfl) rfl (by decide) (by decide) rfl rfl (fun h=>by cases h) rfl hn (Own.emptyAt encStr_len (Nat.le_refl _) rfl) (hs.to inferInstance) encStr_one (by omega) ?_;intro sa1 sc1 x1 hown1 hgr1))
  go_ret
  rw[List.nil_append]at hown1
  exact⟨sa1,sc1,by rw[hn];first|rfl|simp,hown1,Later.of⟩
theorem first_ex(p:Nat→Bool):∀ n:Nat,∃ k:Nat,k≤n∧(∀ t,t<k→p t=false)∧(k<n→p k=true)
 | 0=>⟨0,Nat.le_refl _,fun _ h=>absurd h (Nat.not_lt_zero _),fun h=>absurd h (Nat.lt_irrefl _)⟩
 | n+1=>by
  obtain⟨k,h1,h2,h3⟩:=first_ex p n
  by_cases hk:k<n
  ·exact⟨k,by omega,h2,fun _=>h3 hk⟩
  ·have hkn:k=n:=by omega
   subst hkn
   cases hp:p k
   ·exact⟨k+1,by omega,fun t ht=>by
     by_cases h:t<k
     ·exact h2 t h
     ·rw[show t=k from by omega];exact hp,fun h=>by omega⟩
   ·exact⟨k,by omega,h2,fun _=>hp⟩
def reached(r o c:Int)(t:Nat):Bool:=decide (c≤boardTime r o t)
noncomputable def sinceN(n:Nat)(r o c:Int):Nat:=Classical.choose (first_ex (reached r o c) n)
noncomputable def since(r o c:Int):Nat:=sinceN (Int.toNat 1000001) r o c
section
variable {P:Program} {ops:Array Oper} {C:World→Prop} {Q:Act→Prop} {o:Oper} {rest:List Oper} {a:Act}
end
end Go.Proofs.YtdinhfeflobafaaGreat
