/- Slices of the call's own within data with depth: each has a colour, so that two of them are never one. -/
import Derived.Test.YtdoilejecjaldaaGreatHM6
import Derived.Test.YtdoilejecjaldaaGreatHM0
import Derived.Test.YtdoilejecjaldaaGreatHStepH
namespace Go.Proofs.YtdoilejecjaldaaGreat
set_option linter.unusedVariables false
open Go.ChangeShapes Go.WideShapes Go.ChangeAt Go.RowKit
theorem Own.rdS{α:Type}[E:Enc α]{enc:α→List Value}{T size B:Nat}{w:World}{a:Option Addr}{c:Nat}{l:List α}(h:Own enc T size B w a c l)(hs:E.size=size)(hR:∀ x∈l,E.Rd B w (enc x) x):RdS B w a c l:=by
 have hsl:=h.sl
 obtain⟨hsz,-,⟨hv,hn0⟩|⟨g,cap,cur,hv,hB,hheap,hle,hmax,-⟩⟩:=h
 ·simp only[Value.slice.injEq]at hv
  obtain⟨rfl,-,rfl⟩:=hv
  have:l=[]:=List.length_eq_zero_iff.1 hn0
  subst this
  exact RdS.nil
 ·simp only[Value.slice.injEq,true_and]at hv
  obtain⟨rfl,rfl⟩:=hv
  refine⟨hle,hmax,(fun e=>by cases e),fun i x hx=>?_⟩
  obtain⟨b,off,hb,hlt,hc⟩:=hsl i x hx
  simp only[Option.some.injEq,Addr.mk.injEq]at hb
  obtain⟨rfl,rfl,-⟩:=hb
  refine⟨g,0,enc x,rfl,hB,hlt,hR x (List.mem_of_getElem? hx),fun j u hu=>?_⟩
  have:=hc j u hu
  rw[hsz]at this
  rw[hs];exact this
class D9(α:Type) extends Enc α where
 enc:α→List Value
 ty:Nat
 good:α→Prop
 encLen:∀ x,(enc x).length=size
 one:∀ x,∀ u∈enc x,u.oneCell'=true
 rd:∀ {B w x},good x→Rd B w (enc x) x
 inv:∀ {B w vs x},Rd B w vs x→vs=enc x∧good x
abbrev Col:=Nat × Nat
def I5(a:Option Addr):Option Nat:=a.map (·.block)
theorem E8(a:Option Addr)(n c:Nat):Value.ownBlock (.slice a n c)=I5 a:=by cases a<;>rfl
theorem Own.blk{α:Type}{enc:α→List Value}{T size B:Nat}{w:World}{a:Option Addr}{c:Nat}{l:List α}(h:Own enc T size B w a c l):∀ k,I5 a=some k→B≤k∧k<w.heap.size:=fun k hk=>h.2.lt k (by rw[E8];exact hk)
theorem Own.same{α:Type}{enc:α→List Value}{T size B:Nat}{w w':World}{a:Option Addr}{c:Nat}{l:List α}(h:Own enc T size B w a c l)(hk:∀ k,I5 a=some k→B≤k→k<w.heap.size→w'.heap[k]?=w.heap[k]?):Own enc T size B w' a c l:=by
 obtain⟨h0,h1,h2|⟨g,cap,cur,hv,hg,hh,r⟩⟩:=h
 ·exact⟨h0,h1,.inl h2⟩
 ·refine⟨h0,h1,.inr ⟨g,cap,cur,hv,hg,?_,r⟩⟩
  simp only[Value.slice.injEq]at hv
  rw[hk g (by rw[hv.1];rfl) hg (Array.getElem?_eq_some_iff.1 hh).1];exact hh
structure D0{α:Type}[E:D9 α](B:Nat)(χ:Nat→Col)(i:Col)(w:World)(a:Option Addr)(c:Nat)(l:List α):Prop where
 own:Own E.enc E.ty E.size B w a c l
 col:∀ k,I5 a=some k→χ k=i
 good:∀ x∈l,E.good x
structure Fr(B:Nat)(χ:Nat→Col)(C:Col→Prop)(w w':World):Prop where
 os:w'.os=w.os
 tape:w'.tape=w.tape
 output:w'.output=w.output
 size:w.heap.size≤w'.heap.size
 block:∀ b,b<w.heap.size→¬ (B≤b∧C (χ b))→w'.heap[b]?=w.heap[b]?
def E9(U:Nat)(χ χ2:Nat→Col)(f:Col→Col):Nat→Col:=fun b=>if b<U then χ b else f (χ2 b)
section
variable {α:Type} [E:D9 α] {B:Nat} {χ χ2:Nat→Col} {i:Col} {w w':World} {a:Option Addr} {c:Nat} {l:List α} {C:Col→Prop}
theorem D0.rd(h:D0 B χ i w a c l):RdS B w a c l:=h.own.rdS rfl (fun x hx=>E.rd (h.good x hx))
theorem D0.fr(h:D0 B χ i w a c l)(f:Fr B χ C w w')(hi:¬ C i):D0 B χ i w' a c l :=
 ⟨h.own.same (fun k hk h1 h2=>f.block k h2 (fun e=>by rw[h.col k hk]at e;exact hi e.2)),h.col,h.good⟩
theorem D0.to(h:D0 B χ i w a c l)(g:d5 w w'):D0 B χ i w' a c l:=⟨h.own.to g,h.col,h.good⟩
theorem D0.keep(h:D0 B χ i w a c l)(g:b8 B w w'):D0 B χ i w' a c l:=⟨h.own.same (fun k _ h1 h2=>g.block k h1 h2),h.col,h.good⟩
theorem D0.mono{B':Nat}(h:D0 B χ i w a c l)(hB:B'≤B):D0 B' χ i w a c l:=⟨h.own.mono hB,h.col,h.good⟩
theorem D0.recol{χ':Nat→Col}{i':Col}(h:D0 B χ i w a c l)(hc:∀ k,B≤k→k<w.heap.size→χ k=i→χ' k=i'):D0 B χ' i' w a c l :=
 ⟨h.own,fun k hk=>hc k (h.own.blk k hk).1 (h.own.blk k hk).2 (h.col k hk),h.good⟩
theorem D0.old{f:Col→Col}{U:Nat}(h:D0 B χ i w a c l)(hU:w.heap.size≤U):D0 B (E9 U χ χ2 f) i w a c l :=
 h.recol fun k _ h2 h3=>by rw[E9,if_pos (by omega)];exact h3
theorem D0.new{f:Col→Col}{U:Nat}(h:D0 B χ2 i w a c l)(hU:U≤B):D0 B (E9 U χ χ2 f) (f i) w a c l :=
 h.recol fun k h1 _ h3=>by rw[E9,if_neg (by omega),h3]
theorem D0.of(h:Own E.enc E.ty E.size B w a c l)(hg:∀ x∈l,E.good x)(i:Col):D0 B (fun _=>i) i w a c l:=⟨h,fun _ _=>rfl,hg⟩
theorem Fr.refl(B:Nat)(χ:Nat→Col)(C:Col→Prop)(w:World):Fr B χ C w w:=⟨rfl,rfl,rfl,Nat.le_refl _,fun _ _ _=>rfl⟩
theorem Fr.grows(B:Nat)(χ:Nat→Col)(C:Col→Prop)(w w':World)[g:d5 w w']:Fr B χ C w w':=⟨g.out.os,g.out.tape,g.out.output,g.out.size,fun b h _=>g.out.block b h⟩
theorem Fr.trans{w1:World}(h:Fr B χ C w w1)(k:Fr B χ C w1 w'):Fr B χ C w w':=⟨k.os.trans h.os,k.tape.trans h.tape,k.output.trans h.output,Nat.le_trans h.size k.size,fun b h2 h3=>(k.block b (Nat.lt_of_lt_of_le h2 h.size) h3).trans (h.block b h2 h3)⟩
theorem Fr.wide{C':Col→Prop}(h:Fr B χ C w w')(hC:∀ i,C i→C' i):Fr B χ C' w w':=⟨h.os,h.tape,h.output,h.size,fun b h2 h3=>h.block b h2 (fun k=>h3 ⟨k.1,hC _ k.2⟩)⟩
theorem Fr.below{u:World}(h:Fr B χ C w w')(g:d5 u w)(hB:u.heap.size≤B):d5 u w':=⟨⟨h.os.trans g.out.os,h.tape.trans g.out.tape,h.output.trans g.out.output,Nat.le_trans g.out.size h.size,fun b hb=>(h.block b (Nat.lt_of_lt_of_le hb g.out.size) (fun e=>by omega)).trans (g.out.block b hb)⟩⟩
theorem D0.wrote{n c2:Nat}(h:D0 B χ i w a c l)(g:w.grownBy w' (Value.ownBlock (.slice a n c2))):Fr B χ (·=i) w w' :=
 ⟨g.os,g.tape,g.output,g.size,fun b h2 h3=>g.block b h2 (by rw[E8];exact fun e=>h3 ⟨(h.own.blk b e.symm).1,h.col b e.symm⟩)⟩
end
def U6{α:Type}[E:D9 α](w:World)(l:List α):Ending→World→Prop:=fun e w'=>∃ a c,e=.returned (.slice a l.length c)∧D0 w.heap.size (fun _=>(0,0)) (0,0) w' a c l∧∃ y:b5 w,w'=y.w
/-! ### Elements that hold a slice each -/
class ao2(α:Type)(β:outParam Type) extends Enc α where
 cells:α→Option Addr→Nat→List Value
 inner:α→List β
 ty:Nat
 good:α→Prop
 cellsLen:∀ x a c,(cells x a c).length=size
 one:∀ x a c,∀ u∈cells x a c,u.oneCell'=true
structure N7(α:Type) where
 x:α
 a:Option Addr
 c:Nat
def Z0{α β:Type}[N:ao2 α β](r:N7 α):List Value:=N.cells r.x r.a r.c
theorem ae0{α β:Type}[N:ao2 α β](r:N7 α):(Z0 r).length=N.size:=N.cellsLen _ _ _
structure M9{α β:Type}[N:ao2 α β][F:D9 β](B:Nat)(χ:Nat→Col)(o:Nat)(w:World)(a:Option Addr)(c:Nat)(rows:List (N7 α)):Prop where
 own:Own (Z0 (α:=α)) N.ty N.size B w a c rows
 col:∀ k,I5 a=some k→χ k=(o,0)
 each:∀ k r,rows[k]?=some r→N.good r.x∧D0 B χ (o,k+1) w r.a r.c (N.inner r.x)
class aY0(α:Type){β:Type}[N:ao2 α β][F:D9 β]:Prop where
 rd:∀ {B w x a c},N.good x→RdS B w a c (N.inner x)→N.Rd B w (N.cells x a c) x
section
variable {α β:Type} [N:ao2 α β] [F:D9 β] {B:Nat} {χ χ2:Nat→Col} {o:Nat} {w w':World} {a:Option Addr} {c:Nat} {rows:List (N7 α)} {C:Col→Prop}
theorem M9.fr(h:M9 B χ o w a c rows)(f:Fr B χ C w w')(hi:∀ k,¬ C (o,k)):M9 B χ o w' a c rows :=
 ⟨h.own.same (fun k hk h1 h2=>f.block k h2 (fun e=>by rw[h.col k hk]at e;exact hi 0 e.2)),h.col,fun k r hr=>⟨(h.each k r hr).1,(h.each k r hr).2.fr f (hi _)⟩⟩
theorem M9.to(h:M9 B χ o w a c rows)(g:d5 w w'):M9 B χ o w' a c rows:=⟨h.own.to g,h.col,fun k r hr=>⟨(h.each k r hr).1,(h.each k r hr).2.to g⟩⟩
theorem M9.keep(h:M9 B χ o w a c rows)(g:b8 B w w'):M9 B χ o w' a c rows:=⟨h.own.same (fun k _ h1 h2=>g.block k h1 h2),h.col,fun k r hr=>⟨(h.each k r hr).1,(h.each k r hr).2.keep g⟩⟩
theorem M9.mono{B':Nat}(h:M9 B χ o w a c rows)(hB:B'≤B):M9 B' χ o w a c rows:=⟨h.own.mono hB,h.col,fun k r hr=>⟨(h.each k r hr).1,(h.each k r hr).2.mono hB⟩⟩
theorem M9.recol{χ':Nat→Col}{o':Nat}(h:M9 B χ o w a c rows)(hc:∀ k j,B≤k→k<w.heap.size→χ k=(o,j)→χ' k=(o',j)):M9 B χ' o' w a c rows :=
 ⟨h.own,fun k hk=>hc k 0 (h.own.blk k hk).1 (h.own.blk k hk).2 (h.col k hk),fun k r hr=>⟨(h.each k r hr).1,(h.each k r hr).2.recol (fun b h1 h2 h3=>hc b _ h1 h2 h3)⟩⟩
theorem M9.old{f:Col→Col}{U:Nat}(h:M9 B χ o w a c rows)(hU:w.heap.size≤U):M9 B (E9 U χ χ2 f) o w a c rows :=
 h.recol fun k _ _ h2 h3=>by rw[E9,if_pos (by omega)];exact h3
theorem M9.new{f:Col→Col}{U o':Nat}(h:M9 B χ2 o w a c rows)(hU:U≤B)(hf:∀ j,f (o,j)=(o',j)):M9 B (E9 U χ χ2 f) o' w a c rows :=
 h.recol fun k j h1 _ h3=>by rw[E9,if_neg (by omega),h3,hf]
theorem M9.rd[R:aY0 α](h:M9 B χ o w a c rows):RdS B w a c (rows.map (·.x)):=by
 have hsl:=h.own.sl
 have hE:=h.each
 obtain⟨hsz,-,⟨hv,hn0⟩|⟨g,cap,cur,hv,hB,hheap,hle,hmax,-⟩⟩:=h.own
 ·simp only[Value.slice.injEq]at hv
  obtain⟨rfl,-,rfl⟩:=hv
  have:rows=[]:=List.length_eq_zero_iff.1 hn0
  subst this
  exact RdS.nil
 ·simp only[Value.slice.injEq,true_and]at hv
  obtain⟨rfl,rfl⟩:=hv
  refine⟨by rw[List.length_map];exact hle,hmax,(fun e=>by cases e),fun i x hx=>?_⟩
  rw[List.getElem?_map]at hx
  obtain⟨r,hr,rfl⟩:=Option.map_eq_some_iff.1 hx
  obtain⟨b,off,hb,hlt,hc⟩:=hsl i r hr
  simp only[Option.some.injEq,Addr.mk.injEq]at hb
  obtain⟨rfl,rfl,-⟩:=hb
  refine⟨g,0,Z0 r,rfl,hB,hlt,R.rd (hE i r hr).1 (hE i r hr).2.rd,fun j u hu=>?_⟩
  have:=hc j u hu
  rw[hsz]at this
  exact this
end
