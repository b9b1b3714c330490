/- Regions that draw their order, walked once: the form for use. -/
import Derived.Test.YtdijmbipcgalfaaGreatHStab
import Derived.Test.YtdijmbipcgalfaaGreatHM0
namespace Go.Proofs.YtdijmbipcgalfaaGreat
set_option linter.unusedVariables false
open Go.ChangeShapes Go.WideShapes Go.ChangeAt Go.RowKit
variable {i:Nat}{w:World}
abbrev Gr:World→World→Prop:=fun w w'=>Below w.heap.size w w'
structure Ent(R:World→World→Prop) where
 js:List Nat
 fix:Option (List Value→Value)
 p:Value→World→Prop
 st:∀ v w w',R w w'→p v w→p v w'
section
variable {R:World→World→Prop}
def Ent.v(v:Value):Ent R:=⟨[],some fun _=>v,fun _ _=>True,fun _ _ _ _ h=>h⟩
def Ent.fn(js:List Nat)(g:List Value→Value):Ent R:=⟨js,some g,fun _ _=>True,fun _ _ _ _ h=>h⟩
def Ent.of(p:Value→World→Prop)(st:∀ v w w',R w w'→p v w→p v w'):Ent R:=⟨[],none,p,st⟩
def Ent.is(p:Value→Prop):Ent R:=⟨[],none,fun v _=>p v,fun _ _ _ _ h=>h⟩
def Ent.box(B:Nat)(cs:List Value)(T:TypeId):Ent Gr :=
 .of (fun v w=>∃ b,v=.pointer (some ⟨b,0,none⟩)∧B≤b∧j5 w b cs T) (fun _ _ _ g ⟨b,e,h1,h2⟩=>⟨b,e,h1,h2.to ⟨g⟩⟩)
def Ent.sl(B n:Nat)(cs:List Value)(T:TypeId):Ent Gr :=
 .of (fun v w=>∃ b,v=.slice (some ⟨b,0,none⟩) n n∧B≤b∧j5 w b cs T) (fun _ _ _ g ⟨b,e,h1,h2⟩=>⟨b,e,h1,h2.to ⟨g⟩⟩)
abbrev ai2(R:World→World→Prop):=List (Option Tmp × Ent R)
def U9(Fs:ai2 R)(i:Nat):Ent R:=match Fs[i]? with|some (_,e)=>e|none=>.of (fun _ _=>True) (fun _ _ _ _ _=>trivial)
def Ent.out(e:Ent R)(val:Nat→Value)(k:Nat):Value:=match e.fix with|some g=>g (e.js.map val)|none=>val k
def af2(Fs:ai2 R)(val:Nat→Value)(i:Nat):Value:=(U9 Fs i).out val i
def ai8(Fs:ai2 R)(i:Nat)(val:Nat→Value)(v:Value)(w:World):Prop:=match (U9 Fs i).fix with|some g=>v=g ((U9 Fs i).js.map val)|none=>(U9 Fs i).p v w
def ak8(Fs:ai2 R)(w:World)(G:(Nat→Value)→Prop):List Nat→(Nat→Value)→Prop
 | [],val=>G val
 | i::r,val=>∀ v,(U9 Fs i).p v w→ak8 Fs w G r (upd i v val)
def aH4:ai2 R→Nat→(Nat→Value)→Act→Act
 | [],_,_,a=>a
 | (d,e)::r,k,val,a=>aH4 r (k+1) val (a.put d (e.out val k))
def ah4(ops:Array Oper)(i:Nat):Oper:=(ops[i]?).getD default
def aQ2(P:Program)(ops:Array Oper)(b:Act)(w:World)(i:Nat):Option (Value × World) :=
 if Region.wanted (ah4 ops i) (yielded ops b.tmps)then(match (execOp b.eval (ah4 ops i)).run P w with|.ok (.value v) w'=>some (v,w')|.ok .skip w'=>some (undef,w')|_=>none)else some (undef,w)
def bv0(ops:Array Oper)(l0:Array Bool)(T:List Nat)(Zs:List (Nat × List Nat))(fuel:Nat)(Fs:ai2 R)(H:List (Nat × List Nat))(C:List Nat):Bool :=
 ba0 ops l0 T (Zs.map (·.1)) fuel &&
 ((List.range ops.size).all fun i=>((Fs[i]?).bind (·.1)) == (if (al0 ops l0 T).contains i then af6 ops i else none)) && decide (Fs.length=ops.size) &&
 ((al0 ops l0 T).filter fun i=>(U9 Fs i).fix.isNone) == C &&
 (H.all fun x=>((J4 ops l0 x.1).filter fun i=>(U9 Fs i).fix.isNone) == x.2) &&
 (C.all fun i=>(H.map (·.1)).contains i) &&
 ((al0 ops l0 T).all fun i=>(U9 Fs i).fix.isNone || (U9 Fs i).js.all fun k=>(J4 ops l0 i).contains k && (U9 Fs k).fix.isNone) &&
 ((List.range ops.size).all fun i=>(J4 ops l0 i).all fun k=>decide (k<i) && (J4 ops l0 k).all fun q=>(J4 ops l0 i).contains q) &&
 (Zs.all fun x=>(((J4 ops l0 x.1).filter fun i=>(U9 Fs i).fix.isNone) == x.2) && (U9 Fs x.1).fix.isSome)
end
section
variable {P:Program} {ops:Array Oper} {Q:Exit→Act→World→Prop} {R:World→World→Prop}
def bV8(P:Program)(ops:Array Oper)(l0:Array Bool)(Fs:ai2 R)(a:Act)(w:World):List (Nat × List Nat)→Prop
 | []=>True
 | (i,js)::r=>(∀ W,R w W→ak8 Fs W (fun val=>U0 P ops (ah4 ops i) (I4 ops (af2 Fs val) (J4 ops l0 i) a) W (fun v w'=>R W w'∧ai8 Fs i val v w')) js (fun _=>undef))∧bV8 P ops l0 Fs a w r
def obs(P:Program)(ops:Array Oper)(l0:Array Bool)(Fs:ai2 Gr)(a:Act)(w:World):List (Nat × List Nat)→Prop
 | []=>True
 | (i,js)::r=>(∀ x:b7 w,ak8 Fs x.w (fun val=>U0 P ops (ah4 ops i) (I4 ops (af2 Fs val) (J4 ops l0 i) a) x.w (fun v w'=>(∃ y:b7 x.w,w'=y.w)∧ai8 Fs i val v w')) js (fun _=>undef))∧obs P ops l0 Fs a w r
def bV9(P:Program)(ops:Array Oper)(l0:Array Bool)(Fs:ai2 R)(a:Act)(w:World):List (Nat × List Nat)→Prop
 | []=>True
 | (i,js)::r=>(∀ W,R w W→ak8 Fs W (fun val=>∀ W',aQ2 P ops (I4 ops (af2 Fs val) (J4 ops l0 i) a) W' i=some (af2 Fs val i,W')) js (fun _=>undef))∧bV9 P ops l0 Fs a w r
theorem bd3{o:Oper}{b:Act}{G G':Value→World→Prop}(h:∀ v w',G v w'→G' v w')(hg:U0 P ops o b w G):U0 P ops o b w G':=by
 unfold U0 at hg ⊢
 split
 ·rename_i hw
  rw[if_pos hw]at hg
  generalize (execOp b.eval o).run P w=r at hg ⊢
  cases r with
  | ok n w' =>
   cases n<;>simp only[aa4]at hg ⊢
   case value v=>exact h _ _ hg
   case skip=>exact h _ _ hg
   case enter f args=>exact hg.mono fun e w'' ⟨v,he,hk⟩=>⟨v,he,h _ _ hk⟩
  | halt x w'=>simp only[aa4]at hg
 ·rename_i hw
  rw[if_neg hw]at hg
  exact h _ _ hg
theorem aF9{b:Act}{w':World}{v:Value}{G:Value→World→Prop}(h:aQ2 P ops b w i=some (v,w'))(hg:G v w'):U0 P ops (ah4 ops i) b w G:=by
 unfold aQ2 at h
 unfold U0
 split at h
 ·rename_i hw
  rw[if_pos hw]
  generalize (execOp b.eval (ah4 ops i)).run P w=r at h ⊢
  cases r with
  | ok n w' =>
   cases n<;>simp only[aa4,Option.some.injEq,Prod.mk.injEq,reduceCtorEq]at h ⊢
   case value v=>obtain⟨rfl,rfl⟩:=h;exact hg
   case skip=>obtain⟨rfl,rfl⟩:=h;exact hg
  | halt x w'=>simp at h
 ·rename_i hw
  rw[if_neg hw]
  simp only[Option.some.injEq,Prod.mk.injEq]at h
  obtain⟨rfl,rfl⟩:=h;exact hg
theorem aF6{Fs:ai2 R}{G:(Nat→Value)→Prop}:∀ (js:List Nat) (val0 val:Nat→Value),ak8 Fs w G js val0→(∀ j∈js,(U9 Fs j).p (val j) w)→∃ val',G val'∧(∀ j∈js,val' j=val j)∧∀ j,j ∉ js→val' j=val0 j
 | [],val0,val,h,_=>⟨val0,h,(by intro j hj;cases hj),fun _ _=>rfl⟩
 | i::r,val0,val,h,hp=>by
  obtain⟨val',h1,h2,h3⟩:=aF6 r _ val (h (val i) (hp i si)) (fun j hj=>hp j (by simp[hj]))
  refine⟨val',h1,fun j hj=>?_,fun j hj=>?_⟩
  ·by_cases hr:j∈r
   ·exact h2 j hr
   ·rcases List.mem_cons.1 hj with rfl|h
    ·rw[h3 j hr];simp[upd]
    ·exact absurd h hr
  ·rw[h3 j (fun h=>hj (by simp[h]))]
   simp[upd,show j≠i from fun e=>hj (by simp[e])]
theorem ap0{val val':Nat→Value}:∀ (L:List Nat) (a:Act),(∀ j∈L,val j=val' j)→I4 ops val L a=I4 ops val' L a
 | [],_,_=>rfl
 | i::L,a,h=>by unfold I4;rw[h i si];exact ap0 L _ (fun j hj=>h j (by simp[hj]))
theorem bb7{Fs:ai2 R}{G G':(Nat→Value)→Prop}(h:∀ val,G val→G' val):∀ (js:List Nat) (val:Nat→Value),ak8 Fs w G js val→ak8 Fs w G' js val
 | [],_,k=>h _ k
 | _::r,_,k=>fun v hv=>bb7 h r _ (k v hv)
theorem bN0{l0:Array Bool}{Fs:ai2 Gr}{a:Act}:∀ {H:List (Nat × List Nat)},obs P ops l0 Fs a w H→bV8 P ops l0 Fs a w H
 | [],_=>trivial
 | (_,_)::_,h=>⟨fun W g=>bb7 (fun _ k=>bd3 (fun _ _ ⟨⟨y,e⟩,p⟩=>⟨by rw[e];exact y.h,p⟩) k) _ _ (h.1 ⟨W,g⟩),bN0 h.2⟩
theorem bS4{l0:Array Bool}{Fs:ai2 R}{a:Act}{js:List Nat}:∀ {H:List (Nat × List Nat)},bV8 P ops l0 Fs a w H→(i,js)∈H →
  ∀ W,R w W→ak8 Fs W (fun val=>U0 P ops (ah4 ops i) (I4 ops (af2 Fs val) (J4 ops l0 i) a) W (fun v w'=>R W w'∧ai8 Fs i val v w')) js (fun _=>undef)
 | (i',js')::H,h,hm=>by
  rcases List.mem_cons.1 hm with e|hm
  ·cases e;exact h.1
  ·exact bS4 h.2 hm
theorem bM9{l0:Array Bool}{Fs:ai2 R}{a:Act}{js:List Nat}:∀ {H:List (Nat × List Nat)},bV9 P ops l0 Fs a w H→(i,js)∈H →
  ∀ W,R w W→ak8 Fs W (fun val=>∀ W',aQ2 P ops (I4 ops (af2 Fs val) (J4 ops l0 i) a) W' i=some (af2 Fs val i,W')) js (fun _=>undef)
 | (i',js')::H,h,hm=>by
  rcases List.mem_cons.1 hm with e|hm
  ·cases e;exact h.1
  ·exact bM9 h.2 hm
theorem bN4{Fs0:ai2 R}{val:Nat→Value}:∀ (Fs:ai2 R) (k:Nat) (L:List Nat) (a:Act),(∀ j,Fs[j]?=Fs0[k+j]?)→(∀ j,(Fs0[j]?).bind (·.1)=if L.contains j then af6 ops j else none)→k+Fs.length=Fs0.length →
  aH4 Fs k val a=I4 ops (af2 Fs0 val) ((List.range' k Fs.length).filter fun j=>L.contains j) a
 | [],k,L,a,_,_,_=>rfl
 | (d,e)::r,k,L,a,h,hd,hl=>by
  have h0:Fs0[k]?=some (d,e):=by simpa using(h 0).symm
  have hdk:d=if L.contains k then af6 ops k else none:=by simpa[h0]using hd k
  have hv:af2 Fs0 val k=e.out val k:=by simp[af2,U9,h0]
  have ih:=bN4 (Fs0:=Fs0) (val:=val) r (k+1) L (a.put d (e.out val k))
   (fun j=>by have:=h (j+1);simpa[Nat.add_assoc,Nat.add_comm 1 j]using this) hd (by simp only[List.length_cons]at hl;omega)
  unfold aH4
  rw[ih,List.length_cons,List.range'_succ]
  cases hk:L.contains k with
  | false =>
   rw[hk]at hdk
   simp only[Bool.false_eq_true,if_false]at hdk
   subst hdk
   simp only[List.filter_cons,hk,Bool.false_eq_true,if_false]
   rfl
  | true =>
   rw[hk]at hdk
   simp only[if_true]at hdk
   simp only[List.filter_cons,hk,if_true]
   rw[I4]
   show _=I4 ops (af2 Fs0 val) _ (a.put (af6 ops k) (af2 Fs0 val k))
   rw[← hdk,hv]
theorem aZ2{id:Nat}{a:Act}(hm:P.follows .mixedOrders=true)(rr:∀ w,R w w)(rt:∀ u v w,R u v→R v w→R u w)(rd:∀ w W,R w.drew W→R w W){T:List Nat}{Zs:List (Nat × List Nat)}{Fs:ai2 R}{H:List (Nat × List Nat)}{C:List Nat}
  (hchk:bv0 ops (Array.replicate ops.size false) T Zs ops.size Fs H C=true)
  (hpure:∀ (val:Nat→Value) (W:World),(((al0 ops (Array.replicate ops.size false) T).filter fun i=>!(H.map (·.1)).contains i).map fun i=>aQ2 P ops (I4 ops (af2 Fs val) (J4 ops (Array.replicate ops.size false) i) a) W i) =
   ((al0 ops (Array.replicate ops.size false) T).filter fun i=>!(H.map (·.1)).contains i).map fun i=>some (af2 Fs val i,W))
  (hob:bV8 P ops (Array.replicate ops.size false) Fs a w H)
  (hZ:bV9 P ops (Array.replicate ops.size false) Fs a w Zs) (hp:Zs≠[]→∀ c a d v w,Q (.panic c) (a.put (some d) v) w→Q (.panic c) a w)
  (htail:∀ W,R w W→ak8 Fs W (fun val=>wpOps P ops Q T (aH4 Fs 0 val a) W) C (fun _=>undef)):(Code.region id ops true).wp P Q a w:=by
 simp only[bv0,Bool.and_eq_true,List.all_eq_true,List.mem_range,beq_iff_eq,decide_eq_true_eq,Bool.or_eq_true]at hchk
 obtain⟨⟨⟨⟨⟨⟨⟨⟨c1,c2⟩,c3⟩,c4⟩,c5⟩,c6⟩,c7⟩,c8⟩,c9⟩:=hchk
 have c2':∀ j,(Fs[j]?).bind (·.1)=if (al0 ops (Array.replicate ops.size false) T).contains j then af6 ops j else none:=fun j=>by
  by_cases hj:j<ops.size
  ·exact c2 j hj
  ·have:Fs[j]?=none:=List.getElem?_eq_none om
   rw[this,if_neg]
   ·rfl
   ·rw[List.contains_iff_mem];exact fun h=>hj (D5.1 h).1
 have c7':∀ i∈al0 ops (Array.replicate ops.size false) T,∀ g,(U9 Fs i).fix=some g→∀ k∈(U9 Fs i).js,k∈J4 ops (Array.replicate ops.size false) i∧(U9 Fs k).fix=none:=fun i hi g hg k hk=>by
  rcases c7 i hi with h|h
  ·rw[hg]at h;cases h
  ·have:=h k hk
   rw[List.contains_iff_mem,Option.isNone_iff_eq_none]at this
   exact this
 have same:∀ i∈al0 ops (Array.replicate ops.size false) T,∀ val val':Nat→Value,(∀ k∈J4 ops (Array.replicate ops.size false) i,(U9 Fs k).fix=none→val k=val' k)→∀ v w,ai8 Fs i val v w→ai8 Fs i val' v w:=fun i hi val val' h v w hp=>by
  unfold ai8 at hp ⊢
  cases hf:(U9 Fs i).fix with
  | none=>rw[hf]at hp;exact hp
  | some g =>
   rw[hf]at hp
   simp only at hp ⊢
   rw[hp,List.map_congr_left fun k hk=>h k (c7' i hi g hf k hk).1 (c7' i hi g hf k hk).2]
 have outs:∀ (L:List Nat),(∀ j∈L,j∈al0 ops (Array.replicate ops.size false) T)→∀ (val val':Nat→Value) (w:World),(∀ j∈L,ai8 Fs j val (val j) w) →
   (∀ j∈L,∀ k,k=j∨k∈J4 ops (Array.replicate ops.size false) j→(U9 Fs k).fix=none→val' k=val k)→∀ j∈L,af2 Fs val' j=val j:=fun L hL val val' w hF h j hj=>by
  have:=hF j hj
  unfold ai8 at this
  unfold af2 Ent.out
  cases hf:(U9 Fs j).fix with
  | none=>exact h j hj j (.inl rfl) hf
  | some g =>
   rw[hf]at this
   simp only at this ⊢
   rw[this,List.map_congr_left fun k hk=>h j hj k (.inr (c7' j (hL j hj) g hf k hk).1) (c7' j (hL j hj) g hf k hk).2]
 refine wp_region_any hm (bK9 (w1:={ w with drawn:=w.drawn+1 }) c1 (R:=R) rr rt (fun i val w=>ai8 Fs i val (val i) w) (fun j v w w' h hp=>?_)
  (fun j hj val val' W he hk hp=>?_) (fun i o ho hi val W hW hF=>?_) (fun z hz o ho val W hW hF=>?_) (fun h=>hp (fun e=>h (by rw[e];rfl))) (fun val W hW hF=>?_))
 ·unfold ai8 at hp ⊢
  cases hf:(U9 Fs j).fix with
  | none=>rw[hf]at hp;exact(U9 Fs j).st _ _ _ h hp
  | some g=>rw[hf]at hp;exact hp
 ·rw[← he]
  exact same j hj val val' (fun k h _=>hk k h) _ _ hp
 ·have x:R w W:=rd _ _ hW
  have hop:ah4 ops i=o:=by simp[ah4,ho]
  have hilt:=(D5.1 hi).1
  have tr:∀ k∈J4 ops (Array.replicate ops.size false) i,k∈al0 ops (Array.replicate ops.size false) T∧∀ q∈J4 ops (Array.replicate ops.size false) k,q∈J4 ops (Array.replicate ops.size false) i:=fun k hk =>
   ⟨D5.2 ⟨(L8 hk).1,(L8 hk).2,(ax8 c1).pre i hilt (D5.1 hi).2.1 (D5.1 hi).2.2 k hk⟩,fun q hq=>List.contains_iff_mem.1 ((c8 i hilt k hk).2 q hq)⟩
  have ne:∀ k∈J4 ops (Array.replicate ops.size false) i,k≠i:=fun k hk=>Nat.ne_of_lt (c8 i hilt k hk).1
  cases hH:(H.map (·.1)).contains i with
  | true =>
   rw[List.contains_iff_mem,List.mem_map]at hH
   obtain⟨⟨i',js⟩,hmem,rfl⟩:=hH
   have hjs:=c5 _ hmem
   simp only at hjs ho hi hF hop tr ne
   obtain⟨val',h1,h2,h3⟩:=aF6 js _ val (bS4 hob hmem W x) (fun j hj=>by
    rw[← hjs]at hj
    obtain⟨hj1,hj2⟩:=List.mem_filter.1 hj
    have:=hF j hj1
    unfold ai8 at this
    rw[Option.isNone_iff_eq_none]at hj2
    rw[hj2]at this
    exact this)
   have ag:∀ k∈J4 ops (Array.replicate ops.size false) i',(U9 Fs k).fix=none→val' k=val k:=fun k hk hn=>h2 k (by rw[← hjs];exact List.mem_filter.2 ⟨hk,by rw[hn];rfl⟩)
   rw[hop,ap0 (val':=val) (J4 ops (Array.replicate ops.size false) i') a (outs _ (fun j hj=>(tr j hj).1) val val' W hF (fun j hj k hk hn=>by
    rcases hk with rfl|hk
    ·exact ag k hj hn
    ·exact ag k ((tr j hj).2 k hk) hn))]at h1
   refine bd3 (fun v w' ⟨hy,hp⟩=>⟨hy,?_⟩) h1
   have e:upd i' v val i'=v:=by simp[upd]
   rw[e]
   refine same i' hi val' _ (fun k hk hn=>?_) _ _ hp
   rw[ag k hk hn]
   have:=ne k hk
   simp[upd,this]
  | false =>
   have hmem:i∈(al0 ops (Array.replicate ops.size false) T).filter fun i=>!(H.map (·.1)).contains i:=List.mem_filter.2 ⟨hi,by rw[hH];rfl⟩
   have hr:aQ2 P ops (I4 ops (af2 Fs val) (J4 ops (Array.replicate ops.size false) i) a) W i=some (af2 Fs val i,W) :=
    List.map_inj_left.1 (hpure val W) i hmem
   rw[← hop]
   rw[ap0 (val':=val) (J4 ops (Array.replicate ops.size false) i) a (outs _ (fun j hj=>(tr j hj).1) val val W hF (fun _ _ _ _ _=>rfl))]at hr
   refine aF9 hr ⟨rr _,?_⟩
   have e:upd i (af2 Fs val i) val i=af2 Fs val i:=by simp[upd]
   rw[e]
   cases hq:(U9 Fs i).fix with
   | none =>
    have:=c6 i (by rw[← c4];exact List.mem_filter.2 ⟨hi,by rw[hq];rfl⟩)
    rw[hH]at this;cases this
   | some g =>
    unfold ai8
    rw[hq]
    simp only
    unfold af2 Ent.out
    rw[hq]
    simp only
    exact congrArg g (List.map_congr_left fun k hk=>by simp[upd,ne k (c7' i hi g hq k hk).1])
 ·have x:R w W:=rd _ _ hW
  obtain⟨⟨z',js⟩,hmem,rfl⟩:=List.mem_map.1 hz
  have hpz:=(ax8 c1).lazy z' hz
  have hzp:=hpz.1
  obtain⟨hjs,hfs⟩:=c9 _ hmem
  have hop:ah4 ops z'=o:=by simp[ah4,ho]
  have hilt:=(D5.1 hzp).1
  have tr:∀ k∈J4 ops (Array.replicate ops.size false) z',k∈al0 ops (Array.replicate ops.size false) T∧∀ q∈J4 ops (Array.replicate ops.size false) k,q∈J4 ops (Array.replicate ops.size false) z':=fun k hk =>
   ⟨D5.2 ⟨(L8 hk).1,(L8 hk).2,(ax8 c1).pre z' hilt (D5.1 hzp).2.1 (D5.1 hzp).2.2 k hk⟩,fun q hq=>List.contains_iff_mem.1 ((c8 z' hilt k hk).2 q hq)⟩
  have ne:∀ k∈J4 ops (Array.replicate ops.size false) z',k≠z':=fun k hk=>Nat.ne_of_lt (c8 z' hilt k hk).1
  simp only at hjs hfs hF
  obtain⟨val',h1,h2,h3⟩:=aF6 js _ val (bM9 hZ hmem W x) (fun j hj=>by
   rw[← hjs]at hj
   obtain⟨hj1,hj2⟩:=List.mem_filter.1 hj
   have:=hF j hj1
   unfold ai8 at this
   rw[Option.isNone_iff_eq_none]at hj2
   rw[hj2]at this
   exact this)
  have ag:∀ k∈J4 ops (Array.replicate ops.size false) z',(U9 Fs k).fix=none→val' k=val k:=fun k hk hn=>h2 k (by rw[← hjs];exact List.mem_filter.2 ⟨hk,by rw[hn];rfl⟩)
  rw[ap0 (val':=val) (J4 ops (Array.replicate ops.size false) z') a (outs _ (fun j hj=>(tr j hj).1) val val' W hF (fun j hj k hk hn=>by
   rcases hk with rfl|hk
   ·exact ag k hj hn
   ·exact ag k ((tr j hj).2 k hk) hn))]at h1
  refine⟨af2 Fs val' z',fun W'=>?_,?_⟩
  ·rw[← hop]
   exact aF9 (h1 W') ⟨rfl,rfl⟩
  ·have e:upd z' (af2 Fs val' z') val z'=af2 Fs val' z':=by simp[upd]
   rw[e]
   cases hq:(U9 Fs z').fix with
   | none=>rw[hq]at hfs;cases hfs
   | some g =>
    unfold ai8
    rw[hq]
    simp only
    unfold af2 Ent.out
    rw[hq]
    simp only
    refine congrArg g (List.map_congr_left fun k hk=>?_)
    have hk2:=c7' z' hzp g hq k hk
    rw[ag k hk2.1 hk2.2]
    simp[upd,ne k hk2.1]
 ·have x:R w W:=rd _ _ hW
  obtain⟨val',h1,h2,h3⟩:=aF6 C _ val (htail W x) (fun j hj=>by
   rw[← c4]at hj
   obtain⟨hj1,hj2⟩:=List.mem_filter.1 hj
   have:=hF j hj1
   unfold ai8 at this
   rw[Option.isNone_iff_eq_none]at hj2
   rw[hj2]at this
   exact this)
  rw[bN4 (Fs0:=Fs) Fs 0 (al0 ops (Array.replicate ops.size false) T) a (fun j=>by simp) c2' si]at h1
  have e:((List.range' 0 Fs.length).filter fun j=>(al0 ops (Array.replicate ops.size false) T).contains j)=al0 ops (Array.replicate ops.size false) T:=by
   rw[c3,← List.range_eq_range']
   refine(List.filter_congr fun j hj=>?_:_=(List.range ops.size).filter fun k=>!(Array.replicate ops.size false).getD k true && !T.contains k)
   rw[Bool.eq_iff_iff,List.contains_iff_mem,D5]
   simp only[List.mem_range]at hj
   simp only[hj,true_and,Bool.and_eq_true,Bool.not_eq_true',List.contains_eq_mem,decide_eq_false_iff_not]
  have ag:∀ k∈al0 ops (Array.replicate ops.size false) T,(U9 Fs k).fix=none→val' k=val k:=fun k hk hn=>h2 k (by rw[← c4];exact List.mem_filter.2 ⟨hk,by rw[hn];rfl⟩)
  rw[e,ap0 (val':=val) _ a (outs _ (fun j hj=>hj) val val' W hF (fun j hj k hk hn=>?_))]at h1
  ·exact h1
  ·rcases hk with rfl|hk
   ·exact ag k hj hn
   ·exact ag k (D5.2 ⟨(L8 hk).1,(L8 hk).2,(ax8 c1).pre j (D5.1 hj).1 (D5.1 hj).2.1 (D5.1 hj).2.2 k hk⟩) hn
theorem I5{id:Nat}{a:Act}(hm:P.follows .mixedOrders=true){T:List Nat}{Zs:List (Nat × List Nat)}{Fs:ai2 Gr}{H:List (Nat × List Nat)}{C:List Nat}
  (hchk:bv0 ops (Array.replicate ops.size false) T Zs ops.size Fs H C=true)
  (hpure:∀ (val:Nat→Value) (W:World),(((al0 ops (Array.replicate ops.size false) T).filter fun i=>!(H.map (·.1)).contains i).map fun i=>aQ2 P ops (I4 ops (af2 Fs val) (J4 ops (Array.replicate ops.size false) i) a) W i) =
   ((al0 ops (Array.replicate ops.size false) T).filter fun i=>!(H.map (·.1)).contains i).map fun i=>some (af2 Fs val i,W))
  (hob:obs P ops (Array.replicate ops.size false) Fs a w H) (hZ:bV9 P ops (Array.replicate ops.size false) Fs a w Zs) (hp:Zs≠[]→∀ c a d v w,Q (.panic c) (a.put (some d) v) w→Q (.panic c) a w)
  (htail:∀ x:b7 w,ak8 Fs x.w (fun val=>wpOps P ops Q T (aH4 Fs 0 val a) x.w) C (fun _=>undef)):(Code.region id ops true).wp P Q a w :=
 aZ2 hm (fun w=>Below.refl _ _) (fun u v w h k=>h.trans (k.mono h.size)) (fun w W h=>(Below.refl w.heap.size w).drew.trans (h.mono nl)) hchk hpure (bN0 hob) hZ hp (fun W g=>htail ⟨W,g⟩)
end
