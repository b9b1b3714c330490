/- Regions that draw their order, walked once: what each operation leaves is a fact that lasts while the world grows; the tail comes last in every order. -/
import Derived.Test.YtdijmbipcgalfaaGreatHM0
namespace Go.Proofs.YtdijmbipcgalfaaGreat
set_option linter.unusedVariables false
variable {fuel i:Nat}{v:Value}{w:World}
section
variable {P:Program} {ops:Array Oper} {Q:Exit→Act→World→Prop}
def aa4(P:Program)(G:Value→World→Prop):Result Next→Prop
 | .ok (.value v) w'=>G v w'
 | .ok .skip w'=>G undef w'
 | .ok (.enter f args) w'=>Calls P f args w' fun e w''=>∃ v,e=.returned v∧G v w''
 | _=>False
@[irreducible] def U0(P:Program)(ops:Array Oper)(o:Oper)(b:Act)(w:World)(G:Value→World→Prop):Prop :=
 if Region.wanted o (yielded ops b.tmps)then aa4 P G ((execOp b.eval o).run P w)else G undef w
theorem aK2{o:Oper}{a:Act}{G:Value→World→Prop}{K:Act→World→Prop}(hi:ops[i]?=some o)(h:U0 P ops o a w G)
  (hK:∀ v w',G v w'→K (a.put o.dst v) w'):wpOp P ops Q i K a w:=by
 unfold U0 at h
 unfold wpOp
 simp only[hi]
 split
 ·rename_i hw
  rw[if_pos hw]at h
  refine .inl ?_
  unfold Oper.wp
  generalize (execOp a.eval o).run P w=r at h ⊢
  cases r with
  | ok n w' =>
   cases n<;>simp only[aa4,Oper.upon]at h ⊢
   case value v=>exact hK _ _ h
   case skip=>exact hK _ _ h
   case enter f args=>exact h.mono fun e w'' ⟨v,he,hg⟩=>by subst he;exact hK _ _ hg
  | halt x w'=>simp only[aa4]at h
 ·rename_i hw
  rw[if_neg hw]at h
  exact hK _ _ h
theorem aw1{o:Oper}{a b:Act}{G:Value→World→Prop}(hs:∀ cs q,o.op≠.select cs q)(h:∀ t∈o.looksAt ops,a.tmps[t]?=b.tmps[t]?)(hb:U0 P ops o b w G):U0 P ops o a w G:=by
 have he:execOp a.eval o=execOp b.eval o:=execOp_congr o hs fun x hx=>by
  cases x with
  | tmp t =>
   have:=h t (List.mem_append_left _ (List.mem_filterMap.2 ⟨.tmp t,by simpa using hx,rfl⟩))
   simp[Act.eval,this]
  | const v=>rfl
  | global g=>rfl
  | func f=>rfl
 have hw:Region.wanted o (yielded ops a.tmps)=Region.wanted o (yielded ops b.tmps):=by
  unfold Region.wanted
  cases hg:o.guard with
  | none=>rfl
  | some gw =>
   obtain⟨g,want⟩:=gw
   have hy:yielded ops a.tmps g=yielded ops b.tmps g:=by
    unfold yielded
    cases ht:(ops[g]?).bind (·.dst)with
    | none=>rfl
    | some t =>
     have:=h t (by simp[Oper.looksAt,hg,ht])
     simp[this]
   simp only[hy]
 unfold U0 at *
 rw[he,hw]
 exact hb
structure Agr(ops:Array Oper)(a0:Act)(S:Nat→Bool)(val:Nat→Value)(a:Act):Prop where
 defers:a.defers=a0.defers
 size:a.tmps.size=a0.tmps.size
 old:∀ t,(∀ k o,S k=true→ops[k]?=some o→o.dst≠some t)→a.tmps[t]?=a0.tmps[t]?
 new:∀ t k o,S k=true→ops[k]?=some o→o.dst=some t→t<a0.tmps.size→a.tmps[t]?=some (val k)
theorem Agr.put{a0 a:Act}{S S':Nat→Bool}{val val':Nat→Value}{i:Nat}{o:Oper}(h:Agr ops a0 S val a)(hi:ops[i]?=some o)
  (hS:∀ k,S' k=true↔S k=true∨k=i) (hn:S i=false) (hv:∀ k,k≠i→val' k=val k)
  (hd:∀ k p t,S k=true→ops[k]?=some p→p.dst=some t→o.dst≠some t):Agr ops a0 S' val' (a.put o.dst (val' i)):=by
 have hne:∀ k,S k=true→k≠i:=fun k hk e=>by rw[e,hn]at hk;cases hk
 cases hdst:o.dst with
 | none =>
  refine⟨h.defers,h.size,fun t ht=>h.old t (fun k p hk=>ht k p ((hS k).2 (.inl hk))),fun t k p hk hp hpd hlt=>?_⟩
  rcases(hS k).1 hk with hk|rfl
  ·rw[hv k (hne k hk)];exact h.new t k p hk hp hpd hlt
  ·rw[hi]at hp;cases hp;rw[hdst]at hpd;cases hpd
 | some d =>
  refine⟨h.defers,by simp[Act.put,h.size],fun t ht=>?_,fun t k p hk hp hpd hlt=>?_⟩
  ·have:d≠t:=fun e=>ht i o ((hS i).2 (.inr rfl)) hi (e▸hdst)
   simp only[Act.put,Array.getElem?_setIfInBounds_ne this]
   exact h.old t (fun k p hk=>ht k p ((hS k).2 (.inl hk)))
  ·rcases(hS k).1 hk with hk|rfl
   ·have:d≠t:=fun e=>hd k p t hk hp hpd (e▸hdst)
    simp only[Act.put,Array.getElem?_setIfInBounds_ne this]
    rw[hv k (hne k hk)];exact h.new t k p hk hp hpd hlt
   ·rw[hi]at hp;cases hp;rw[hdst]at hpd;cases hpd
    simp[Act.put,h.size,hlt]
theorem Agr.eq{a0 a b:Act}{S:Nat→Bool}{val:Nat→Value}(h:Agr ops a0 S val a)(k:Agr ops a0 S val b):a=b:=by
 obtain⟨at',ad⟩:=a;obtain⟨bt,bd⟩:=b
 have e1:ad=bd:=h.defers.trans k.defers.symm
 have hsz:=h.size;have ksz:=k.size
 simp only at hsz ksz
 have e2:at'=bt:=by
  refine Array.ext_getElem? fun t=>?_
  by_cases hlt:t<a0.tmps.size
  ·by_cases hx:∃ q o,S q=true∧ops[q]?=some o∧o.dst=some t
   ·obtain⟨q,o,h1,h2,h3⟩:=hx
    exact(h.new t q o h1 h2 h3 hlt).trans (k.new t q o h1 h2 h3 hlt).symm
   ·have:∀ q o,S q=true→ops[q]?=some o→o.dst≠some t:=fun q o h1 h2 h3=>hx ⟨q,o,h1,h2,h3⟩
    exact(h.old t this).trans (k.old t this).symm
  ·rw[Array.getElem?_eq_none om,Array.getElem?_eq_none om]
 rw[e1,e2]
def I4(ops:Array Oper)(val:Nat→Value):List Nat→Act→Act
 | [],a=>a
 | k::r,a=>I4 ops val r (a.put ((ops[k]?).bind (·.dst)) (val k))
theorem aA2{a0:Act}{val:Nat→Value}(hd:∀ (k:Nat) (p:Oper) (t:Tmp) (k':Nat) (p':Oper),ops[k]?=some p→ops[k']?=some p'→p.dst=some t→p'.dst=some t→k=k') :
  ∀ (L:List Nat) (S S':Nat→Bool) (a:Act),Agr ops a0 S val a→(∀ k,S' k=true↔S k=true∨k∈L)→(∀ k∈L,S k=false)→L.Nodup→(∀ k∈L,k<ops.size)→Agr ops a0 S' val (I4 ops val L a)
 | [],S,S',a,h,hS,_,_,_=>by
  have:S=S':=by
   funext k
   have:=hS k
   cases h1:S k<;>cases h2:S' k<;>simp_all
  subst this
  exact h
 | i::L,S,S',a,h,hS,hf,hnd,hb=>by
  have hlt:=hb i si
  have hi:ops[i]?=some ops[i]:=by simp[hlt]
  unfold I4
  rw[hi]
  refine aA2 hd L (fun k=>S k || k == i) S' _ (h.put hi (fun k=>by simp) (hf i si) (fun _ _=>rfl) (fun k p t h1 h2 h3 h4=>?_)) (fun k=>?_) (fun k hk=>?_) (List.nodup_cons.1 hnd).2 (fun k hk=>hb k (by simp[hk]))
  ·have:=hd k p t i _ h2 hi h3 h4
   rw[this,hf i si]at h1;cases h1
  ·rw[hS k];simp[or_assoc]
  ·have:k≠i:=fun e=>(List.nodup_cons.1 hnd).1 (e▸hk)
   simp[hf k (by simp[hk]),this]
def J4(ops:Array Oper)(l0:Array Bool)(i:Nat):List Nat:=(List.range ops.size).filter fun k=>!l0.getD k true && ((Region.before ops).getD i 0).testBit k
def al0(ops:Array Oper)(l0:Array Bool)(T:List Nat):List Nat:=(List.range ops.size).filter fun k=>!l0.getD k true && !T.contains k
def as8(ops:Array Oper)(i:Nat):List Nat:=(((ops[i]?).map fun o=>(o.after.toList.filter (Region.binds .any)).map (·.on))).getD []
def af6(ops:Array Oper)(i:Nat):Option Tmp:=(ops[i]?).bind (·.dst)
def aG2(ops:Array Oper)(i:Nat):List Tmp:=((ops[i]?).map (Oper.looksAt ops)).getD []
def ba0(ops:Array Oper)(l0:Array Bool)(T Z:List Nat)(fuel:Nat):Bool :=
 let n:=ops.size
 let N:=(List.range n).filter fun k=>!l0.getD k true
 decide (l0.size=n) && Region.noSelect ops && decide (N.length≤fuel) &&
 ((List.range n).all fun i=>(as8 ops i).all fun e=>decide (e<i)) &&
 ((List.range n).all fun i=>(J4 ops l0 i).all fun k=>(as8 ops i).any fun e=>e == k || (!l0.getD e true && (J4 ops l0 e).contains k)) &&
 (N.all fun i=>(aG2 ops i).all fun t=>N.all fun k=>decide (af6 ops k≠some t) || (J4 ops l0 i).contains k || (T.contains k && !Z.contains i)) &&
 ((List.range n).all fun i=>(List.range n).all fun k=>i == k || (af6 ops i).isNone || decide (af6 ops i≠af6 ops k)) &&
 (T.all fun i=>N.contains i && (al0 ops l0 T).all fun k=>Z.contains k || (J4 ops l0 i).contains k) &&
 ((List.range T.length).all fun x=>(List.range x).all fun y=>decide (T[y]?≠T[x]?) && (J4 ops l0 (T.getD x 0)).contains (T.getD y 0)) &&
 (N.all fun i=>T.contains i || (J4 ops l0 i).all fun k=>!T.contains k) &&
 (Z.all fun z=>(al0 ops l0 T).contains z && (J4 ops l0 z).all fun k=>!Z.contains k) && decide Z.Nodup
theorem L8{l0:Array Bool}{k:Nat}(h:k∈J4 ops l0 i):k<ops.size∧l0.getD k true=false:=by
 simp only[J4,List.mem_filter,List.mem_range,Bool.and_eq_true,Bool.not_eq_true']at h
 exact⟨h.1,h.2.1⟩
theorem D5{l0:Array Bool}{T:List Nat}{k:Nat}:k∈al0 ops l0 T↔k<ops.size∧l0.getD k true=false∧k ∉ T:=by
 simp[al0]
theorem aV0{o:Oper}{e:Nat}(hi:ops[i]?=some o):e∈as8 ops i↔∃ x∈o.after,Region.binds .any x=true∧x.on=e:=by
 simp[as8,hi,and_assoc]
structure ba5(ops:Array Oper)(l0:Array Bool)(T Z:List Nat)(fuel:Nat):Prop where
 size:l0.size=ops.size
 sel:∀ (j:Nat) (o:Oper) cs b,ops[j]?=some o→o.op≠.select cs b
 fuel:((List.range ops.size).filter fun k=>!l0.getD k true).length≤fuel
 down:∀ i<ops.size,∀ e∈as8 ops i,e<i
 deps:∀ i<ops.size,∀ k∈J4 ops l0 i,∃ e∈as8 ops i,e=k∨(l0.getD e true=false∧k∈J4 ops l0 e)
 looks:∀ i<ops.size,l0.getD i true=false→∀ t∈aG2 ops i,∀ k<ops.size,l0.getD k true=false→af6 ops k=some t→k∈J4 ops l0 i∨(k∈T∧i ∉ Z)
 dst:∀ (k:Nat) (p:Oper) (t:Tmp) (k':Nat) (p':Oper),ops[k]?=some p→ops[k']?=some p'→p.dst=some t→p'.dst=some t→k=k'
 tail:∀ i∈T,i<ops.size∧l0.getD i true=false∧∀ k∈al0 ops l0 T,k ∉ Z→k∈J4 ops l0 i
 asc:∀ (x y i j:Nat),y<x→T[x]?=some i→T[y]?=some j→j≠i∧j∈J4 ops l0 i
 pre:∀ i<ops.size,l0.getD i true=false→i ∉ T→∀ k∈J4 ops l0 i,k ∉ T
 lazy:∀ z∈Z,z∈al0 ops l0 T∧∀ k∈J4 ops l0 z,k ∉ Z
 lazyNd:Z.Nodup
theorem ax8{l0:Array Bool}{T Z:List Nat}(h:ba0 ops l0 T Z fuel=true):ba5 ops l0 T Z fuel:=by
 simp only[ba0,Bool.and_eq_true,decide_eq_true_eq,List.all_eq_true,List.mem_range,List.mem_filter,List.any_eq_true,Bool.or_eq_true,beq_iff_eq,Bool.not_eq_true',List.contains_iff_mem,Option.isNone_iff_eq_none]at h
 obtain⟨⟨⟨⟨⟨⟨⟨⟨⟨⟨⟨h1,h2⟩,h3⟩,h4⟩,h5⟩,h6⟩,h7⟩,h8⟩,h9⟩,h10⟩,h11⟩,h12⟩:=h
 refine⟨h1,Region.noSelect_spec h2,h3,h4,fun i hi k hk=>?_,fun i hi h0 t ht k hk hk0 hd=>?_,fun k p t k' p' hk hk' hp hp'=>?_,fun i hi=>⟨(h8 i hi).1.1,(h8 i hi).1.2,fun k hk hZ=>((h8 i hi).2 k hk).resolve_left hZ⟩,fun x y i j hyx hx hy=>?_,fun i hi h0 hT k hk hkT=>?_,fun z hz=>⟨(h11 z hz).1,fun k hk hZ=>by
  have:=(h11 z hz).2 k hk
  rw[← Bool.not_eq_true,List.contains_iff_mem]at this
  exact this hZ⟩,h12⟩
 ·obtain⟨e,he,h⟩:=h5 i hi k hk
  exact⟨e,he,h⟩
 ·rcases h6 i ⟨hi,h0⟩ t ht k ⟨hk,hk0⟩with(h|h)|h
  ·exact absurd hd h
  ·exact .inl h
  ·exact .inr ⟨h.1,fun hZ=>by
    have:=h.2
    rw[← Bool.not_eq_true,List.contains_iff_mem]at this
    exact this hZ⟩
 ·have l1:=(Array.getElem?_eq_some_iff.1 hk).1
  have l2:=(Array.getElem?_eq_some_iff.1 hk').1
  rcases h7 k l1 k' l2 with(h|h)|h
  ·exact h
  ·simp[af6,hk,hp]at h
  ·simp[af6,hk,hk',hp,hp']at h
 ·have lx:=(List.getElem?_eq_some_iff.1 hx).1
  have:=h9 x lx y hyx
  rw[hx,hy]at this
  simp only[List.getD_eq_getElem?_getD,hx,hy,Option.getD_some]at this
  exact⟨fun e=>this.1 (by rw[e]),this.2⟩
 ·rcases h10 i ⟨hi,h0⟩with h|h
  ·exact hT h
  ·have:=h k hk
   simp at this
   exact this hkT
theorem bc2{p q:Nat→Bool}(hpi:p i=true)(hqi:q i=false)(h:∀ k,q k=true→p k=true):∀ (l:List Nat),i∈l→(l.filter q).length<(l.filter p).length
 | [],hm=>by cases hm
 | x::l,hm=>by
  have hle:∀ l:List Nat,(l.filter q).length≤(l.filter p).length:=fun l=>by
   induction l with
   | nil=>simp
   | cons y l ih=>cases hq:q y<;>cases hp:p y<;>simp[hq,hp]<;>first|omega|(rw[h y hq]at hp;cases hp)
  by_cases hx:i=x
  ·subst hx
   have:=hle l
   simp[hpi,hqi];omega
  ·have ih:=bc2 hpi hqi h l (by rcases List.mem_cons.1 hm with h|h;exact absurd h hx;exact h)
   cases hq:q x<;>cases hp:p x<;>simp[hq,hp]<;>first|omega|(rw[h x hq]at hp;cases hp)
theorem aE9{listed:Array Bool}(hs:listed.size=ops.size)(hd:∀ i<ops.size,∀ e∈as8 ops i,e<i)(h:∃ k<ops.size,listed.getD k true=false):Region.ready .any ops listed≠[]:=by
 obtain⟨k,hk,hf⟩:=h
 induction k using Nat.strongRecOn with
 | _ k ih =>
  by_cases hx:∃ e∈as8 ops k,listed.getD e true=false
  ·obtain⟨e,he,hl⟩:=hx
   have:=hd k hk e he
   exact ih e this om hl
  ·have hi:ops[k]?=some ops[k]:=by simp[hk]
   intro hr
   have:k∈Region.ready .any ops listed:=mem_ready.2 ⟨hf,ops[k],hi,fun e he hb=>by
    have hm:e.on∈as8 ops k:=(aV0 hi).2 ⟨e,he,hb,rfl⟩
    have hlt:=hd k hk _ hm
    cases hc:listed.getD e.on false with
    | true=>rfl
    | false =>
     refine absurd ⟨e.on,hm,?_⟩ hx
     have hl:e.on<listed.size:=by omega
     simp[Array.getD,hl]at hc ⊢;exact hc⟩
   rw[hr]at this;cases this
def aQ7(ops:Array Oper)(l0 listed:Array Bool):Prop:=∀ j<ops.size,listed.getD j true=true→l0.getD j true=false→∀ k∈J4 ops l0 j,listed.getD k true=true
theorem bV5{listed:Array Bool}{j:Nat}(h:listed.getD j false=true):listed.getD j true=true:=by
 by_cases h':j<listed.size
 ·simp only[Array.getD,h',dite_true]at h ⊢;exact h
 ·simp only[Array.getD,h',dite_false]
theorem bS2:∀ (T L:List Nat),T.Nodup→(∀ k∈T,k∈L)→T.length≤L.length
 | [],_,_,_=>Nat.zero_le _
 | x::T,L,hn,hs=>by
  have hx:=hs x si
  have:=bS2 T (L.erase x) (List.nodup_cons.1 hn).2 (fun k hk=>(List.mem_erase_of_ne (show k≠x from fun e=>by subst e;exact(List.nodup_cons.1 hn).1 hk)).2 (hs k (by simp[hk])))
  rw[List.length_erase_of_mem hx]at this
  have:=List.length_pos_of_mem hx
  simp only[List.length_cons];omega
theorem aA3{l0 listed:Array Bool}{T Z:List Nat}(C:ba5 ops l0 T Z fuel)(hc:aQ7 ops l0 listed)(hi:i∈Region.ready .any ops listed):∀ k∈J4 ops l0 i,listed.getD k true=true:=by
 intro k hk
 obtain⟨hf,o,ho,hall⟩:=mem_ready.1 hi
 have hlt:=(Array.getElem?_eq_some_iff.1 ho).1
 obtain⟨e,he,h⟩:=C.deps i hlt k hk
 obtain⟨x,hx,hb,rfl⟩:=(aV0 ho).1 he
 have hl:=bV5 (hall x hx hb)
 rcases h with rfl|⟨h0,hke⟩
 ·exact hl
 ·have:=C.down i hlt _ he
  exact hc _ om hl h0 k hke
theorem aQ7.set{l0 listed:Array Bool}{T Z:List Nat}{fuel i:Nat}(hc:aQ7 ops l0 listed)(C:ba5 ops l0 T Z fuel)(hi:i∈Region.ready .any ops listed):aQ7 ops l0 (listed.setIfInBounds i true):=by
 have up:∀ k,listed.getD k true=true→(listed.setIfInBounds i true).getD k true=true:=fun k hk=>by
  by_cases h:i=k
  ·subst h
   rcases Nat.lt_or_ge i listed.size with h'|h'<;>simp[Array.getD,h']
  ·rw[getD_set_ne true h];exact hk
 intro j hj hl h0 k hk
 by_cases h:i=j
 ·subst h
  exact up k (aA3 C hc hi k hk)
 ·rw[getD_set_ne true h]at hl
  exact up k (hc j hj hl h0 k hk)
theorem al4{listed:Array Bool}(h:i<listed.size):(listed.setIfInBounds i true).getD i true=true:=by
 simp[Array.getD,h]
theorem bC9{a:Act}{d d':Option Tmp}{v':Value}(h:∀ t,d=some t→d'≠some t):(a.put d v).put d' v'=(a.put d' v').put d v:=by
 cases d with
 | none=>rfl
 | some t =>
  cases d' with
  | none=>rfl
  | some t' =>
   have hne:t≠t':=fun e=>h t rfl (by rw[e])
   simp only[Act.put]
   congr 1
   exact Array.setIfInBounds_comm _ _ hne
theorem aE8{val:Nat→Value}{d:Option Tmp}:∀ (U:List Nat) (a:Act),(∀ u∈U,∀ t,d=some t→af6 ops u≠some t)→I4 ops val U (a.put d v)=(I4 ops val U a).put d v
 | [],_,_=>rfl
 | u::U,a,h=>by
  unfold I4
  rw[show(a.put d v).put ((ops[u]?).bind (·.dst)) (val u)=(a.put ((ops[u]?).bind (·.dst)) (val u)).put d v from bC9 (h u si)]
  exact aE8 U _ (fun k hk=>h k (by simp[hk]))
theorem aQ0{val:Nat→Value}(hd:∀ (k:Nat) (p:Oper) (t:Tmp) (k':Nat) (p':Oper),ops[k]?=some p→ops[k']?=some p'→p.dst=some t→p'.dst=some t→k=k') :
  ∀ (U:List Nat) (a:Act) (j:Nat),j∈U→U.Nodup→I4 ops val (U.erase j) (a.put (af6 ops j) (val j))=I4 ops val U a
 | [],_,_,h,_=>by cases h
 | u::U,a,j,h,hn=>by
  by_cases e:u=j
  ·subst e
   rw[List.erase_cons_head];rfl
  ·have hj:j∈U:=by rcases List.mem_cons.1 h with h|h;exact absurd h.symm e;exact h
   rw[List.erase_cons_tail (by simpa using e)]
   unfold I4
   have hc:(a.put (af6 ops j) (val j)).put ((ops[u]?).bind (·.dst)) (val u)=(a.put ((ops[u]?).bind (·.dst)) (val u)).put (af6 ops j) (val j):=bC9 (fun t h1 h2=>by
    unfold af6 at h1
    obtain⟨p,hp,hpd⟩:=Option.bind_eq_some_iff.1 h1
    obtain⟨q,hq,hqd⟩:=Option.bind_eq_some_iff.1 h2
    exact e (hd j p t u q hp hq hpd hqd).symm)
   rw[hc]
   exact aQ0 hd U _ j hj (List.nodup_cons.1 hn).2
theorem bP6{o:Oper}{a:Act}{G:Value→World→Prop}{d:Option Tmp}(hs:∀ cs q,o.op≠.select cs q)(h:∀ t∈o.looksAt ops,d≠some t)(hg:U0 P ops o a w G):U0 P ops o (a.put d v) w G:=by
 refine aw1 hs (fun t ht=>?_) hg
 cases d with
 | none=>rfl
 | some t' =>
  have:t'≠t:=fun e=>h t ht (by rw[e])
  simp only[Act.put,Array.getElem?_setIfInBounds_ne this]
theorem aA0{c:List PanicEntry}{val:Nat→Value}(hp:∀ c a d v w,Q (.panic c) (a.put (some d) v) w→Q (.panic c) a w):∀ (U:List Nat) (a:Act),Q (.panic c) (I4 ops val U a) w→Q (.panic c) a w
 | [],_,h=>h
 | u::U,a,h=>by
  have:=aA0 hp U _ h
  cases hd:(ops[u]?).bind (·.dst)with
  | none=>rw[hd]at this;exact this
  | some t=>rw[hd]at this;exact hp _ _ _ _ _ this
theorem aJ7{val:Nat→Value}{ds:List Deferred}:∀ (U:List Nat) (a:Act),I4 ops val U { a with defers:=ds }={ I4 ops val U a with defers:=ds }
 | [],_=>rfl
 | u::U,a=>by
  unfold I4
  rw[← aJ7 U]
  congr 1
  cases(ops[u]?).bind (·.dst)<;>rfl
theorem bm9{val:Nat→Value}:∀ (U:List Nat) (a:Act),(I4 ops val U a).defers=a.defers
 | [],_=>rfl
 | u::U,a=>by
  unfold I4
  rw[bm9 U]
  cases(ops[u]?).bind (·.dst)<;>rfl
theorem bL0{o:Oper}{a:Act}{U:List Nat}{val:Nat→Value}{K K':Act→World→Prop}(hi:ops[i]?=some o)(hs:∀ cs q,o.op≠.select cs q)(hl:∀ t∈o.looksAt ops,a.tmps[t]?=(I4 ops val U a).tmps[t]?)
  (hp:∀ c a d v w,Q (.panic c) (a.put (some d) v) w→Q (.panic c) a w) (hc:∀ u∈U,∀ t,o.dst=some t→af6 ops u≠some t)
  (hK:∀ ds v w',K (I4 ops val U ({ a with defers:=ds }.put o.dst v)) w'→K' ({ a with defers:=ds }.put o.dst v) w') (h:wpOp P ops Q i K (I4 ops val U a) w):wpOp P ops Q i K' a w:=by
 have he:execOp a.eval o=execOp (I4 ops val U a).eval o:=execOp_congr o hs fun x hx=>by
  cases x with
  | tmp t =>
   have:=hl t (List.mem_append_left _ (List.mem_filterMap.2 ⟨.tmp t,by simpa using hx,rfl⟩))
   simp[Act.eval,this]
  | const v=>rfl
  | global g=>rfl
  | func f=>rfl
 have hw:Region.wanted o (yielded ops a.tmps)=Region.wanted o (yielded ops (I4 ops val U a).tmps):=by
  unfold Region.wanted
  cases hg:o.guard with
  | none=>rfl
  | some gw =>
   obtain⟨g,want⟩:=gw
   have hy:yielded ops a.tmps g=yielded ops (I4 ops val U a).tmps g:=by
    unfold yielded
    cases ht:(ops[g]?).bind (·.dst)with
    | none=>rfl
    | some t =>
     have:=hl t (by simp[Oper.looksAt,hg,ht])
     simp[this]
   simp only[hy]
 have hK2:∀ v w',K ((I4 ops val U a).put o.dst v) w'→K' (a.put o.dst v) w':=fun v w' h=>hK a.defers v w' (by rw[show({ a with defers:=a.defers }:Act)=a from rfl,aE8 U a hc];exact h)
 unfold wpOp at h ⊢
 simp only[hi]at h ⊢
 rw[hw]
 split at h
 ·rename_i hwt
  rw[if_pos hwt]
  rcases h with h|h
  ·left
   unfold Oper.wp at h ⊢
   rw[← he]at h
   generalize (execOp a.eval o).run P w=r at h ⊢
   cases r with
   | ok n w' =>
    cases n<;>simp only[Oper.upon]at h ⊢
    case value v=>exact hK2 _ _ h
    case skip=>exact hK2 _ _ h
    case defer d=>exact hK _ _ _ (by rw[aE8 U _ hc,aJ7];rw[bm9]at h;exact h)
    case enter f args =>
     refine h.mono fun e w'' hq=>?_
     cases e with
     | returned v=>exact hK2 _ _ hq
     | panicked c=>exact aA0 hp U a hq
     | outgrown=>exact hq
    case row r args=>exact h.mono fun v w'' hq=>hK2 _ _ hq
   | halt x w' =>
    cases x<;>simp only[Oper.upon]at h ⊢
    case panic v=>exact aA0 hp U a h
  ·right
   refine⟨?_,h.2⟩
   have h1:=h.1
   unfold Oper.asks at h1 ⊢
   rw[he];exact h1
 ·rename_i hwf
  rw[if_neg hwf]
  exact hK2 _ _ h
theorem bg0{l0:Array Bool}{T0 Z:List Nat}{fuel0:Nat}(C:ba5 ops l0 T0 Z fuel0)(hp:Z≠[]→∀ c a d v w,Q (.panic c) (a.put (some d) v) w→Q (.panic c) a w){val:Nat→Value}:∀ (fuel:Nat) (T D U:List Nat) (listed:Array Bool) (a:Act) (w:World),T0=D++T→listed.size=ops.size →
  (∀ k<ops.size,listed.getD k true=false↔k∈T∨k∈U)→(∀ u∈U,u∈Z)→U.Nodup→aQ7 ops l0 listed→T.length+U.length≤fuel→(∀ u∈U,∀ o,ops[u]?=some o→∀ W,U0 P ops o a W (fun v w'=>v=val u∧w'=W))→wpOps P ops Q T (I4 ops val U a) w→wpAny P .any ops Q fuel listed a w:=by
 intro fuel
 induction fuel with
 | zero =>
  intro T D U listed a w hT hs hu hUZ hUn hc hf hz h
  obtain rfl:T=[]:=List.eq_nil_of_length_eq_zero om
  obtain rfl:U=[]:=List.eq_nil_of_length_eq_zero om
  refine⟨List.eq_nil_iff_forall_not_mem.2 fun k hk=>?_,h⟩
  obtain⟨hf,o,ho,_⟩:=mem_ready.1 hk
  rcases(hu k (Array.getElem?_eq_some_iff.1 ho).1).1 hf with h|h<;>cases h
 | succ f ih =>
  intro T D U listed a w hT hs hu hUZ hUn hc hf hz h
  have one:∀ i,i∈T∨i∈U→i<ops.size:=fun i hi=>by
   rcases hi with hi|hi
   ·exact(C.tail i (by rw[hT];simp[hi])).1
   ·exact(D5.1 (C.lazy i (hUZ i hi)).1).1
  refine⟨fun hr=>?_,fun j hj=>?_⟩
  ·cases T with
   | nil =>
    cases U with
    | nil=>exact h
    | cons u U=>exact absurd hr (aE9 hs C.down ⟨u,one u si,(hu u (one u si)).2 si⟩)
   | cons i T=>exact absurd hr (aE9 hs C.down ⟨i,one i si,(hu i (one i si)).2 si⟩)
  ·obtain⟨hjf,o,ho,_⟩:=mem_ready.1 hj
   have hjlt:=(Array.getElem?_eq_some_iff.1 ho).1
   rcases(hu j hjlt).1 hjf with hjT|hjU
   ·obtain⟨i,T',rfl⟩:∃ i T',T=i::T':=by
     cases T with
     | nil=>cases hjT
     | cons i T'=>exact⟨i,T',rfl⟩
    have hiT:i∈T0:=by rw[hT];simp
    obtain⟨hilt,hi0,_⟩:=C.tail i hiT
    have hji:j=i:=by
     rcases List.mem_cons.1 hjT with h|h
     ·exact h
     ·obtain⟨x,hx⟩:=List.mem_iff_getElem?.1 h
      have e1:T0[D.length+(x+1)]?=some j:=by rw[hT,List.getElem?_append_right om];simp[hx]
      have e2:T0[D.length]?=some i:=by rw[hT,List.getElem?_append_right om];simp
      have:=(C.asc _ _ j i om e1 e2).2
      have:=aA3 C hc hj i this
      rw[(hu i hilt).2 si]at this
      cases this
    subst hji
    rw[wpOps_cons]at h
    have hnd:j ∉ T':=fun hm=>by
     obtain⟨x,hx⟩:=List.mem_iff_getElem?.1 hm
     have e1:T0[D.length+(x+1)]?=some j:=by rw[hT,List.getElem?_append_right om];simp[hx]
     have e2:T0[D.length]?=some j:=by rw[hT,List.getElem?_append_right om];simp
     exact(C.asc _ _ j j om e1 e2).1 rfl
    have hjU:j ∉ U:=fun hm=>(D5.1 (C.lazy j (hUZ j hm)).1).2.2 hiT
    have hdj:=aA3 C hc hj
    have step:∀ (a':Act) w',(∀ t,(∀ d,o.dst=some d→t≠d)→a'.tmps[t]?=a.tmps[t]?)→wpOps P ops Q T' (I4 ops val U a') w'→wpAny P .any ops Q f (listed.setIfInBounds j true) a' w':=fun a' w' ha' h'=>by
     refine ih T' (D++[j]) U _ a' w' (by rw[hT];simp) (by simpa using hs) (fun k hk=>?_) hUZ hUn (hc.set C hj) (by simp at hf;omega) (fun u hu' o' ho' W=>?_) h'
     ·by_cases hkj:j=k
      ·subst hkj
       rw[al4 om]
       simp[hnd,hjU]
      ·rw[getD_set_ne true hkj,hu k hk]
       simp[Ne.symm hkj]
     ·refine aw1 (C.sel u o' · · ho') (fun t ht=>ha' t fun d hd e=>?_) (hz u hu' o' ho' W)
      have hul:=D5.1 (C.lazy u (hUZ u hu')).1
      rcases C.looks u hul.1 hul.2.1 t (by simpa[aG2,ho']using ht) j hjlt hi0 (by simp[af6,ho,hd,e])with this|this
      ·exact C.pre u hul.1 hul.2.1 hul.2.2 j this hiT
      ·exact this.2 (hUZ u hu')
    by_cases hU0:U=[]
    ·subst hU0
     refine wpOp_mono (fun a' w' h'=>h') ?_
     have h2:wpOp P ops Q j (wpOps P ops Q T') a w:=h
     unfold wpOp at h2 ⊢
     simp only[ho]at h2 ⊢
     split at h2
     ·rename_i hw
      rw[if_pos hw]
      rcases h2 with h2|h2
      ·left
       unfold Oper.wp at h2 ⊢
       generalize (execOp a.eval o).run P w=r at h2 ⊢
       have pt:∀ (b:Act) v,b.tmps=a.tmps→∀ t,(∀ d,o.dst=some d→t≠d)→(b.put o.dst v).tmps[t]?=a.tmps[t]?:=fun b v hb t ht=>by
        cases hd:o.dst with
        | none=>simp[Act.put,hb]
        | some d=>simp only[Act.put,hb,Array.getElem?_setIfInBounds_ne (Ne.symm (ht d hd))]
       cases r with
       | ok n w' =>
        cases n<;>simp only[Oper.upon]at h2 ⊢
        case value v=>exact step _ _ (pt a v rfl) h2
        case skip=>exact step _ _ (pt a _ rfl) h2
        case defer d=>exact step _ _ (pt _ _ rfl) h2
        case enter f args =>
         refine h2.mono fun e w'' hq=>?_
         cases e with
         | returned v=>exact step _ _ (pt a v rfl) hq
         | panicked c=>exact hq
         | outgrown=>exact hq
        case row r args=>exact h2.mono fun v w'' hq=>step _ _ (pt a v rfl) hq
       | halt x w' =>
        cases x<;>simp only[Oper.upon]at h2 ⊢
        case panic v=>exact h2
      ·exact .inr h2
     ·rename_i hw
      rw[if_neg hw]
      refine step _ _ (fun t ht=>?_) h2
      cases hd:o.dst with
      | none=>rfl
      | some d=>simp only[Act.put,Array.getElem?_setIfInBounds_ne (Ne.symm (ht d hd))]
    ·have hZ:Z≠[]:=fun e=>by
      obtain⟨u,hu'⟩:=List.exists_mem_of_ne_nil U hU0
      have:=hUZ u hu';rw[e]at this;cases this
     refine bL0 ho (C.sel j o · · ho) (fun t ht=>?_) (hp hZ) (fun u hu' t hd hdu=>?_) (fun ds v w' h'=>step _ _ (fun t ht=>?_) h') h
     ·have:∀ (U:List Nat) (b:Act),(∀ u∈U,af6 ops u≠some t)→(I4 ops val U b).tmps[t]?=b.tmps[t]?:=fun U=>by
       induction U with
       | nil=>intro b _;rfl
       | cons u U ihU =>
        intro b hb
        unfold I4
        rw[ihU _ (fun k hk=>hb k (by simp[hk]))]
        have h1:=hb u si
        cases hd:(ops[u]?).bind (·.dst)with
        | none=>rfl
        | some t' =>
         have hne:t'≠t:=fun e=>h1 (by unfold af6;rw[hd,e])
         simp only[Act.put,Array.getElem?_setIfInBounds_ne hne]
      refine(this U a fun u hu' hd=>?_).symm
      have hul:=D5.1 (C.lazy u (hUZ u hu')).1
      rcases C.looks j hjlt hi0 t (by simpa[aG2,ho]using ht) u hul.1 hul.2.1 hd with this|this
      ·have:=hdj u this
       rw[(hu u hul.1).2 (.inr hu')]at this;cases this
      ·exact hul.2.2 this.1
     ·have hul:=D5.1 (C.lazy u (hUZ u hu')).1
      unfold af6 at hdu
      obtain⟨p,hp',hpd⟩:=Option.bind_eq_some_iff.1 hdu
      have:=C.dst u p t j o hp' ho hpd hd
      exact hjU (this▸hu')
     ·cases hd:o.dst with
      | none=>rfl
      | some d=>simp only[Act.put,Array.getElem?_setIfInBounds_ne (Ne.symm (ht d hd))]
   ·have hul:=D5.1 (C.lazy j (hUZ j hjU)).1
    refine aK2 ho (hz j hjU o ho w) fun v w' ⟨hv,hw⟩=>?_
    subst hv;subst hw
    have hdst:o.dst=af6 ops j:=by simp[af6,ho]
    refine ih T D (U.erase j) _ _ _ hT (by simpa using hs) (fun k hk=>?_) (fun u hu'=>hUZ u (List.mem_of_mem_erase hu')) (hUn.erase j) (hc.set C hj) (by rw[List.length_erase_of_mem hjU];have:=List.length_pos_of_mem hjU;omega) (fun u hu' o' ho' W=>?_) (by rw[hdst,aQ0 C.dst U a j hjU hUn];exact h)
    ·by_cases hkj:j=k
     ·subst hkj
      rw[al4 om]
      have h1:j ∉ U.erase j:=fun h=>(List.Nodup.mem_erase_iff hUn).1 h |>.1 rfl
      have h2:j ∉ T:=fun h=>hul.2.2 (by rw[hT];simp[h])
      simp[h1,h2]
     ·rw[getD_set_ne true hkj,hu k hk,List.Nodup.mem_erase_iff hUn]
      simp[Ne.symm hkj]
    ·have hu2:=List.mem_of_mem_erase hu'
     refine bP6 (C.sel u o' · · ho') (fun t ht hd=>?_) (hz u hu2 o' ho' W)
     have hul2:=D5.1 (C.lazy u (hUZ u hu2)).1
     rcases C.looks u hul2.1 hul2.2.1 t (by simpa[aG2,ho']using ht) j hjlt hul.2.1 (by simp[af6,ho,hd])with this|this
     ·exact(C.lazy u (hUZ u hu2)).2 j this (hUZ j hjU)
     ·exact this.2 (hUZ u hu2)
def upd(i:Nat)(v:Value)(val:Nat→Value):Nat→Value:=fun k=>if k=i then v else val k
theorem Agr.vals{a0 a:Act}{S:Nat→Bool}{val val':Nat→Value}(h:Agr ops a0 S val a)(hv:∀ k,S k=true→val' k=val k):Agr ops a0 S val' a :=
 ⟨h.defers,h.size,h.old,fun t k o hk hp hd hlt=>(h.new t k o hk hp hd hlt).trans (by rw[hv k hk])⟩
theorem bk6{l0:Array Bool}{T Z:List Nat}{o:Oper}{a0 a:Act}{S:Nat→Bool}{val:Nat→Value}(C:ba5 ops l0 T Z fuel)(ho:ops[i]?=some o)(hi0:l0.getD i true=false)(hA:Agr ops a0 S val a)(hS:∀ k∈J4 ops l0 i,S k=true)(hSs:∀ k,S k=true→k<ops.size∧l0.getD k true=false∧k ∉ T)(hiT:i ∉ T) :
  ∀ t∈o.looksAt ops,a.tmps[t]?=(I4 ops val (J4 ops l0 i) a0).tmps[t]?:=fun t ht=>by
 have hilt:=(Array.getElem?_eq_some_iff.1 ho).1
 have hB:Agr ops a0 (fun k=>(J4 ops l0 i).contains k) val (I4 ops val (J4 ops l0 i) a0) :=
  aA2 C.dst _ (fun _=>false) _ a0 ⟨rfl,rfl,fun _ _=>rfl,fun _ _ _ h=>by cases h⟩ (fun k=>by simp) (fun _ _=>rfl) (List.Pairwise.filter _ List.nodup_range) (fun k hk=>(L8 hk).1)
 by_cases hlt:t<a0.tmps.size
 ·by_cases hx:∃ k p,k<ops.size∧l0.getD k true=false∧ops[k]?=some p∧p.dst=some t
  ·obtain⟨k,p,h1,h2,h3,h4⟩:=hx
   rcases C.looks i hilt hi0 t (by simpa[aG2,ho]using ht) k h1 h2 (by simp[af6,h3,h4])with hk|⟨hkT,-⟩
   ·rw[hA.new t k p (hS k hk) h3 h4 hlt,hB.new t k p (by simpa using hk) h3 h4 hlt]
   ·rw[hA.old t (fun k' p' hk' hp' hpd'=>(hSs k' hk').2.2 (C.dst k' p' t k p hp' h3 hpd' h4▸hkT)),
     hB.old t (fun k' p' hk' hp' hpd'=>C.pre i hilt hi0 hiT k' (by simpa using hk') (C.dst k' p' t k p hp' h3 hpd' h4▸hkT))]
  ·rw[hA.old t (fun k p hk hp hpd=>hx ⟨k,p,(hSs k hk).1,(hSs k hk).2.1,hp,hpd⟩),
    hB.old t (fun k p hk hp hpd=>hx ⟨k,p,(L8 (by simpa using hk)).1,(L8 (by simpa using hk)).2,hp,hpd⟩)]
 ·rw[Array.getElem?_eq_none (xs:=a.tmps) (i:=t) (by rw[hA.size];exact Nat.le_of_not_lt hlt),Array.getElem?_eq_none (i:=t) (xs:=(I4 ops val (J4 ops l0 i) a0).tmps) (by rw[hB.size];exact Nat.le_of_not_lt hlt)]
theorem bK9{l0:Array Bool}{a0:Act}{w1:World}{T Z:List Nat}{fuel0:Nat}(hchk:ba0 ops l0 T Z fuel0=true){R:World→World→Prop}(rr:∀ w,R w w)(rt:∀ u v w,R u v→R v w→R u w)
  (F:Nat→(Nat→Value)→World→Prop) (hF:∀ j v w w',R w w'→F j v w→F j v w')
  (hloc:∀ j∈al0 ops l0 T,∀ (val val':Nat→Value) w,val j=val' j→(∀ k∈J4 ops l0 j,val k=val' k)→F j val w→F j val' w)
  (hob:∀ i o,ops[i]?=some o→i∈al0 ops l0 T→∀ (val:Nat→Value) w,R w1 w→(∀ j∈J4 ops l0 i,F j val w)→U0 P ops o (I4 ops val (J4 ops l0 i) a0) w (fun v w'=>R w w'∧F i (upd i v val) w'))
  (hZ:∀ z∈Z,∀ o,ops[z]?=some o→∀ (val:Nat→Value) w,R w1 w→(∀ j∈J4 ops l0 z,F j val w)→∃ v,(∀ W,U0 P ops o (I4 ops val (J4 ops l0 z) a0) W (fun v' w'=>v'=v∧w'=W))∧F z (upd z v val) w)
  (hp:Z≠[]→∀ c a d v w,Q (.panic c) (a.put (some d) v) w→Q (.panic c) a w)
  (htail:∀ (val:Nat→Value) w,R w1 w→(∀ j∈al0 ops l0 T,F j val w)→wpOps P ops Q T (I4 ops val (al0 ops l0 T) a0) w) :
  wpAny P .any ops Q fuel0 l0 a0 w1:=by
 have C:=ax8 hchk
 have hndD:∀ L:List Nat,L.Nodup→(∀ k∈L,k<ops.size)→∀ val,Agr ops a0 (fun k=>L.contains k) val (I4 ops val L a0):=fun L hL hb val =>
  aA2 C.dst L (fun _=>false) _ a0 ⟨rfl,rfl,fun _ _=>rfl,fun _ _ _ h=>by cases h⟩ (fun k=>by simp) (fun _ _=>rfl) hL hb
 have nd:∀ p:Nat→Bool,((List.range ops.size).filter p).Nodup:=fun p=>List.Pairwise.filter p List.nodup_range
 have main:∀ (fuel:Nat) (listed:Array Bool) (a:Act) (w:World) (val:Nat→Value),listed.size=ops.size→aQ7 ops l0 listed→(∀ k,l0.getD k true=true→listed.getD k true=true) →
   (∀ k∈T,listed.getD k true=false)→((List.range ops.size).filter fun k=>!listed.getD k true).length≤fuel→R w1 w →
   Agr ops a0 (fun k=>decide (k<ops.size) && listed.getD k true && !l0.getD k true) val a→(∀ j<ops.size,listed.getD j true=true→l0.getD j true=false→F j val w)→wpAny P .any ops Q fuel listed a w:=by
  intro fuel
  induction fuel with
  | zero =>
   intro listed a w val hs hc hup hTu hcnt hR hA hFs
   have hall:∀ k<ops.size,listed.getD k true=true:=fun k hk=>by
    cases hq:listed.getD k true with
    | true=>rfl
    | false =>
     have:k∈(List.range ops.size).filter fun k=>!listed.getD k true:=List.mem_filter.2 ⟨List.mem_range.2 hk,by simp only[hq,Bool.not_false]⟩
     rw[List.eq_nil_of_length_eq_zero (Nat.le_zero.1 hcnt)]at this
     cases this
   have hTn:T=[]:=by
    cases T with
    | nil=>rfl
    | cons i T =>
     have h1:=hTu i si
     have h2:=(C.tail i si).1
     rw[hall i h2]at h1;cases h1
   subst hTn
   refine bg0 (val:=val) C hp 0 [] [] [] listed a w rfl hs (fun k hk=>by simp[hall k hk]) (fun u hu=>by cases hu) List.nodup_nil hc nl (fun u hu=>by cases hu) ?_
   show wpOps P ops Q [] a w
   have:=htail val w hR (fun j hj=>hFs j (D5.1 hj).1 (hall j (D5.1 hj).1) (D5.1 hj).2.1)
   rwa[(hndD (al0 ops l0 []) (nd _) (fun k hk=>(D5.1 hk).1) val).eq ?_]at this
   have e:(fun k=>(al0 ops l0 []).contains k)=fun k=>decide (k<ops.size) && listed.getD k true && !l0.getD k true:=by
    funext k
    rw[Bool.eq_iff_iff]
    simp only[List.contains_iff_mem,D5,Bool.and_eq_true,decide_eq_true_eq,Bool.not_eq_true',List.not_mem_nil,not_false_eq_true,and_true]
    exact⟨fun h=>⟨⟨h.1,hall k h.1⟩,h.2⟩,fun h=>⟨h.1.1,h.2⟩⟩
   rw[e];exact hA
  | succ fuel ih =>
   intro listed a w val hs hc hup hTu hcnt hR hA hFs
   by_cases hall:∀ k∈al0 ops l0 T,k ∉ Z→listed.getD k true=true
   ·have hu:∀ k<ops.size,listed.getD k true=false↔k∈T∨k∈Z.filter (fun k=>!listed.getD k true):=fun k hk=>by
     constructor
     ·intro h
      by_cases hkT:k∈T
      ·exact .inl hkT
      ·right
       refine List.mem_filter.2 ⟨Classical.byContradiction fun hkZ=>?_,by simp[h]⟩
       cases h0:l0.getD k true with
       | true=>rw[hup k h0]at h;cases h
       | false=>rw[hall k (D5.2 ⟨hk,h0,hkT⟩) hkZ]at h;cases h
     ·rintro(h|h)
      ·exact hTu k h
      ·simpa using(List.mem_filter.1 h).2
    have hv:∀ z,z∈Z→listed.getD z true=false→∃ v,(∀ W,∀ o,ops[z]?=some o→U0 P ops o (I4 ops val (J4 ops l0 z) a0) W (fun v' w'=>v'=v∧w'=W))∧F z (upd z v val) w:=fun z hz hzl=>by
     have hzp:=D5.1 (C.lazy z hz).1
     have hdl:∀ j∈J4 ops l0 z,listed.getD j true=true:=fun j hj=>hall j (D5.2 ⟨(L8 hj).1,(L8 hj).2,C.pre z hzp.1 hzp.2.1 hzp.2.2 j hj⟩) ((C.lazy z hz).2 j hj)
     obtain⟨v,h1,h2⟩:=hZ z hz _ (by simp[hzp.1]:ops[z]?=some ops[z]) val w hR (fun j hj=>hFs j (L8 hj).1 (hdl j hj) (L8 hj).2)
     exact⟨v,fun W o ho=>by rw[show ops[z]?=some ops[z]by simp[hzp.1]]at ho;cases ho;exact h1 W,h2⟩
    obtain⟨val',hval'⟩:∃ val':Nat→Value,∀ k,val' k=if h:k∈Z∧listed.getD k true=false then Classical.choose (hv k h.1 h.2)else val k:=⟨fun k=>if h:k∈Z∧listed.getD k true=false then Classical.choose (hv k h.1 h.2)else val k,fun k=>rfl⟩
    have same:∀ k,listed.getD k true=true∨k ∉ Z→val' k=val k:=fun k hk=>by
     rw[hval',dif_neg]
     rintro⟨h1,h2⟩
     rcases hk with hk|hk
     ·rw[hk]at h2;cases h2
     ·exact hk h1
    have lz:∀ k,k∈Z→listed.getD k true=false→(∀ W,∀ o,ops[k]?=some o→U0 P ops o (I4 ops val (J4 ops l0 k) a0) W (fun v' w'=>v'=val' k∧w'=W))∧F k (upd k (val' k) val) w:=fun k h1 h2=>by
     have:=Classical.choose_spec (hv k h1 h2)
     rw[hval',dif_pos ⟨h1,h2⟩];exact this
    have hUn:(Z.filter fun k=>!listed.getD k true).Nodup:=List.Pairwise.filter _ C.lazyNd
    refine bg0 (val:=val') C hp (fuel+1) T [] (Z.filter fun k=>!listed.getD k true) listed a w rfl hs hu (fun u hu=>(List.mem_filter.1 hu).1) hUn hc ?_ (fun u hu' o ho W=>?_) ?_
    ·refine Nat.le_trans ?_ hcnt
     have hTnd:T.Nodup:=by
      refine List.pairwise_iff_getElem.2 fun x y hx hy hxy=>?_
      exact(C.asc y x _ _ hxy (by simp[hy]) (by simp[hx])).1
     rw[← List.length_append]
     refine bS2 _ _ (List.nodup_append.2 ⟨hTnd,hUn,fun k hk u hu' e=>?_⟩) (fun k hk=>?_)
     ·subst e
      exact(D5.1 (C.lazy k (List.mem_filter.1 hu').1).1).2.2 hk
     ·have hlt:k<ops.size:=by
       rcases List.mem_append.1 hk with h|h
       ·exact(C.tail k h).1
       ·exact(D5.1 (C.lazy k (List.mem_filter.1 h).1).1).1
      refine List.mem_filter.2 ⟨List.mem_range.2 hlt,?_⟩
      rw[(hu k hlt).2 (List.mem_append.1 hk)];rfl
    ·obtain⟨huZ,hul⟩:=List.mem_filter.1 hu'
     have hul':listed.getD u true=false:=by simpa using hul
     have hup2:=D5.1 (C.lazy u huZ).1
     refine aw1 (C.sel u o · · ho) (bk6 C ho hup2.2.1 hA (fun k hk=>?_) (fun k hk=>?_) hup2.2.2) ((lz u huZ hul').1 W o ho)
     ·have:=hall k (D5.2 ⟨(L8 hk).1,(L8 hk).2,C.pre u hup2.1 hup2.2.1 hup2.2.2 k hk⟩) ((C.lazy u huZ).2 k hk)
      simp[(L8 hk).1,(L8 hk).2,this]
     ·simp only[Bool.and_eq_true,decide_eq_true_eq,Bool.not_eq_true']at hk
      exact⟨hk.1.1,hk.2,fun hT=>by rw[hTu k hT]at hk;cases hk.1.2⟩
    ·have ht:=htail val' w hR (fun j hj=>?_)
     ·have e:I4 ops val' (al0 ops l0 T) a0=I4 ops val' (Z.filter fun k=>!listed.getD k true) a:=by
       refine(hndD (al0 ops l0 T) (nd _) (fun k hk=>(D5.1 hk).1) val').eq ?_
       refine aA2 C.dst _ (fun k=>decide (k<ops.size) && listed.getD k true && !l0.getD k true) _ a (hA.vals fun k hk=>?_) (fun k=>?_) (fun k hk=>?_) hUn (fun k hk=>(D5.1 (C.lazy k (List.mem_filter.1 hk).1).1).1)
       ·simp only[Bool.and_eq_true]at hk
        exact same k (.inl hk.1.2)
       ·simp only[List.contains_iff_mem,D5,Bool.and_eq_true,decide_eq_true_eq,Bool.not_eq_true']
        constructor
        ·rintro⟨h1,h2,h3⟩
         cases hl:listed.getD k true with
         | true=>exact .inl ⟨⟨h1,rfl⟩,h2⟩
         | false=>exact .inr (((hu k h1).1 hl).resolve_left h3)
        ·rintro(⟨⟨h1,h2⟩,h3⟩|h)
         ·exact⟨h1,h3,fun hT=>by rw[hTu k hT]at h2;cases h2⟩
         ·exact D5.1 (C.lazy k (List.mem_filter.1 h).1).1
       ·have:=(List.mem_filter.1 hk).2
        simp only[Bool.not_eq_true']at this
        simp[this]
      rw[← e];exact ht
     ·obtain⟨hj1,hj2,hj3⟩:=D5.1 hj
      by_cases hz:j∈Z∧listed.getD j true=false
      ·refine hloc j hj _ val' w (by simp[upd]) (fun k hk=>?_) (lz j hz.1 hz.2).2
       have hkZ:=(C.lazy j hz.1).2 k hk
       rw[same k (.inr hkZ)]
       have:k≠j:=fun e=>hkZ (e▸hz.1)
       simp[upd,this]
      ·have hl:listed.getD j true=true:=by
        by_cases h:j∈Z
        ·cases hq:listed.getD j true with
         | true=>rfl
         | false=>exact absurd ⟨h,hq⟩ hz
        ·exact hall j hj h
       refine hloc j hj val val' w (same j (.inl hl)).symm (fun k hk=>(same k (.inl (hc j hj1 hl hj2 k hk))).symm) (hFs j hj1 hl hj2)
   ·have hex:∃ k<ops.size,listed.getD k true=false:=Classical.byContradiction fun hno=>hall fun k hk _=>by
     cases hq:listed.getD k true with
     | true=>rfl
     | false=>exact absurd ⟨k,(D5.1 hk).1,hq⟩ hno
    refine⟨fun hr=>absurd hr (aE9 hs C.down hex),fun i hi=>?_⟩
    obtain⟨hif,o,ho,_⟩:=mem_ready.1 hi
    have hilt:=(Array.getElem?_eq_some_iff.1 ho).1
    have hi0:l0.getD i true=false:=by
     cases h:l0.getD i true with
     | false=>rfl
     | true=>rw[hup i h]at hif;cases hif
    have hdl:=aA3 C hc hi
    have hiT:i ∉ T:=fun h=>hall fun k hk hkZ=>hdl k ((C.tail i h).2.2 k hk hkZ)
    have hg:=hob i o ho (D5.2 ⟨hilt,hi0,hiT⟩) val w hR (fun j hj=>hFs j (L8 hj).1 (hdl j hj) (L8 hj).2)
    have hB:=hndD (J4 ops l0 i) (nd _) (fun k hk=>(L8 hk).1) val
    have hgiv:=aw1 (a:=a) (C.sel i o · · ho) (fun t ht=>?_) hg
    ·refine aK2 ho hgiv fun v w' ⟨hRw,hFv⟩=>?_
     refine ih _ _ w' (upd i v val) (by simpa using hs) (hc.set C hi) (fun k hk=>?_) (fun k hk=>?_) ?_ (rt _ _ _ hR hRw) ?_ ?_
     ·have:=hup k hk
      by_cases h:i=k
      ·subst h;exact al4 om
      ·rw[getD_set_ne true h];exact this
     ·have:i≠k:=fun e=>hiT (e▸hk)
      rw[getD_set_ne true this];exact hTu k hk
     ·have:=bc2 (p:=fun k=>!listed.getD k true) (q:=fun k=>!(listed.setIfInBounds i true).getD k true) (i:=i) (by simp only[hif,Bool.not_false]) (by simp only[al4 (show i<listed.size by omega),Bool.not_true]) (fun k hk=>by
       by_cases h:i=k
       ·subst h;simp only[hif,Bool.not_false]
       ·simpa only[getD_set_ne true h]using hk) (List.range ops.size) (by simp[hilt])
      omega
     ·have:=hA.put (S':=fun k=>decide (k<ops.size) && (listed.setIfInBounds i true).getD k true && !l0.getD k true) (val':=upd i v val) ho (fun k=>?_) (by simp only[hif,Bool.and_false,Bool.false_and]) (fun k hk=>by simp[upd,hk]) (fun k p t hk hp hpd hod=>?_)
      ·have e:upd i v val i=v:=by simp[upd]
       rw[e]at this;exact this
      ·by_cases h:i=k
       ·subst h;simp[al4 (show i<listed.size by omega),hilt,hi0]
       ·simp[getD_set_ne true h,Ne.symm h]
      ·have:=C.dst k p t i o hp ho hpd hod
       subst this
       simp[hif]at hk
     ·intro j hj hl h0
      by_cases h:i=j
      ·subst h;exact hFv
      ·rw[getD_set_ne true h]at hl
       refine hF _ _ _ _ hRw (hloc j (D5.2 ⟨hj,h0,fun hT=>by rw[hTu j hT]at hl;cases hl⟩) val _ w (by simp[upd,Ne.symm h]) (fun k hk=>?_) (hFs j hj hl h0))
       have:k≠i:=fun e=>by
        have:=hc j hj hl h0 k hk
        rw[e,hif]at this;cases this
       simp[upd,this]
    ·exact bk6 C ho hi0 hA (fun k hk=>by simp[(L8 hk).1,(L8 hk).2,hdl k hk]) (fun k hk=>by
      simp only[Bool.and_eq_true,decide_eq_true_eq,Bool.not_eq_true']at hk
      exact⟨hk.1.1,hk.2,fun hT=>by rw[hTu k hT]at hk;cases hk.1.2⟩) hiT t ht
 refine main fuel0 l0 a0 w1 (fun _=>undef) C.size (fun j _ hl h0=>by rw[h0]at hl;cases hl) (fun _ h=>h) (fun k hk=>(C.tail k hk).2.1) C.fuel (rr _) ⟨rfl,rfl,fun _ _=>rfl,fun t k o hk=>?_⟩ (fun j _ hl h0=>by rw[h0]at hl;cases hl)
 simp at hk
 rw[hk.1.2]at hk;simp at hk
end
