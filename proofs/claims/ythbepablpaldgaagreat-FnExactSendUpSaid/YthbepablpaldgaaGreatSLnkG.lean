/- A box with data of the call's own: a slice to which a call has appended stands ready, and cells that are no slice's are written ahead of it. -/
import Derived.Test.YthbepablpaldgaaGreatSM47
namespace Go.Proofs.YthbepablpaldgaaGreat
set_option linter.unusedVariables false
open Go.ChangeShapes Go.WideShapes Go.ChangeAt Go.RowKit
theorem OwnC.appK{α:Type}[E:Flat α]{B:Nat}{χ:Nat→Col}{i:Col}{w w':World}{a a':Option Addr}{c c':Nat}{l l':List α}(h:OwnC B χ i w a c l)(ho:Own E.enc E.ty E.size B w' a' c' l')(hb:∀ k,blkOf a'=some k→blkOf a=some k∨w.heap.size≤k)(hg:∀ x∈l',E.good x) :
  OwnC B (paint w.heap.size χ (fun _=>i) id) i w' a' c' l':=by
 refine⟨ho,fun k hk=>?_,hg⟩
 rcases hb k hk with hb|hb
 ·rw[paint,if_pos (h.own.blk k hb).2];exact h.col k hb
 ·rw[paint,if_neg (by omega)];rfl
theorem splice_set{us:List Value}:∀ {vs:List Value} {o j:Nat} {v:Value},(j<o∨o+us.length≤j)→splice (vs.set j v) o us=(splice vs o us).set j v:=by
 induction us with
 | nil=>intros;rfl
 | cons u us ih =>
  intro vs o j v h
  simp only[List.length_cons]at h
  show splice ((vs.set j v).set o u) (o+1) us=(splice (vs.set o u) (o+1) us).set j v
  rw[List.set_comm _ _ (show j≠o by omega),ih (by omega)]
section
variable {P:Program} {ops:Array Oper} {rest:List Oper} {op:Oper} {act:Act} {w w0:World} {Q:Exit→Act→World→Prop} {α β:Type} [E:OBox α] [E2:Flat β] {X:Nat→Prop} {B b:Nat} {x:α} {F:FS α β} {l:List β} {a:Option Addr} {c:Nat} {us:List Value}
theorem GBp.updK{n sc0:Nat}{u W W2:World}{l':List β}{sa0 sa:Option Addr}{sc:Nat}(h:GB X B b u x)(hc0:u.cell? ⟨b,F.off,none⟩=some (.slice sa0 (F.get x).length sc0))(g:Grows u W)(hown:Own E2.enc E2.ty E2.size B W2 sa sc l')(hgr:W.grownBy W2 (Value.ownBlock (.slice sa0 n sc0)))
  (hblk:∀ k,blkOf sa=some k→blkOf sa0=some k∨W.heap.size≤k) (hg:∀ p∈l',E2.good p):GBp F X B b W2 x l' sa sc∧∀ k,X k→W2.heap[k]?=W.heap[k]?:=by
 obtain⟨χ,vs,h1,h2,h3,h4,h5,h6⟩:=h
 obtain⟨a0,c0,hv,hO⟩:=F.own h2
 rw[h1.cell,hv]at hc0
 simp only[Option.some.injEq,Value.slice.injEq,true_and]at hc0
 obtain⟨rfl,rfl⟩:=hc0
 have hlu:=h1.lt
 have hF:=(hO.to g).wrote hgr
 have hc:=F.c1000
 have hsu:=g.out.size
 have hs:=hF.size
 have hlen:=obox_len h2
 have hX:∀ k,1000≤(χ k).1→k<u.heap.size→W2.heap[k]?=W.heap[k]?:=fun k hk hl=>gb_fr hF (fun i e=>by rw[e];exact hc) hk (by omega)
 have hp:∀ k,k<W.heap.size→paint W2.heap.size (paint W.heap.size χ (fun _=>(F.col,0)) id) (fun _=>(0,0)) (fun _=>(1000,0)) k=χ k:=fun k hk=>by rw[paint,if_pos (by omega),paint,if_pos hk]
 refine⟨⟨paint W2.heap.size (paint W.heap.size χ (fun _=>(F.col,0)) id) (fun _=>(0,0)) (fun _=>(1000,0)),vs,?_,hlen,?_,?_,freshU nl,h5,fun k hk=>⟨?_,(h6 k hk).2.1,by have:=(h6 k hk).2.2;omega⟩⟩,fun k hk=>hX k (h6 k hk).1 (h6 k hk).2.2⟩
 ·have h1':=h1.to g
  unfold Held at h1' ⊢
  rw[hX b h3 hlu];exact h1'
 ·exact E.map (F.put (E.map (E.map h2 (.to g)) (.old nl)) (hF.old nl) ((hO.to g).appK hown hblk hg)) (.old nl)
 ·rw[hp b (by omega)];exact h3
 ·rw[hp k (by have:=(h6 k hk).2.2;omega)];exact(h6 k hk).1
theorem step_gbpC{o:Nat}(x':α)(hgd:op.guard=none)(ty:TypeId)(p v:Operand)(ho:op.op=.store ty p v)(h:GBp F X B b w x l a c)(hx:act.eval p=.pointer (some ⟨b,o,none⟩))(hv:(act.eval v).cells.toList=us)(hi:(P.info? ty).map (·.size)=some us.length)(h1:us.all (·.oneCell')=true)(hl:o+us.length≤E.size)
  (hne:F.off<o∨o+us.length≤F.off) (hm:∀ {χ vs w},E.O B χ 0 w vs (F.set x l)→E.O B χ 0 w (splice vs o us) (F.set x' l)) (g:Grows w0 w) (hb:w0.heap.size≤B) (K:∀ z:Later w0,GBp F X B b z.w x' l a c→(∀ k,X k→z.w.heap[k]?=w.heap[k]?)→wpList P ops Q rest (act.put op.dst undef) z.w):wpList P ops Q (op::rest) act w:=by
 obtain⟨χ,vs,h0,hlv,h2,h3,h4,h5,h6⟩:=h
 have hlen:o+us.length≤vs.length:=by rw[hlv];exact hl
 refine stepStore2 hgd ty p v ho b o hx h0 (us:=us) (cs2:=splice vs o us) hv hi h1 hlen rfl g (Nat.le_trans hb h5) fun z hz hk=>K z ⟨χ,splice vs o us,hz,?_,?_,h3,h4.mono (hk.grown1 g).size,h5,fun k hk'=>⟨(h6 k hk').1,(h6 k hk').2.1,Nat.lt_of_lt_of_le (h6 k hk').2.2 (hk.grown1 g).size⟩⟩ (fun k hk'=>(hk.grown1 g).block k (h6 k hk').2.2 (fun e=>(h6 k hk').2.1 (by cases e;rfl)))
 ·have:=obox_len (hm h2)
  rw[splice_set hne,List.length_set]at this;exact this
 ·have:=gb_box (hm h2) h3 h5 (hk.grown1 g)
  rw[splice_set hne]at this;exact this
omit E E2 in
theorem step_from{Q:Exit→Act→World→Prop}{n cc jj bb off size:Nat}(hgd:op.guard=none)(t:TypeId)(p j:Operand)(ho:op.op=.slice t p (some j) none none)(hx:act.eval p=.slice (some ⟨bb,off,none⟩) n cc)(hj:act.eval j=.int .i64 (jj:Int))(hu:P.underlying t=some (.slice (P.elem t)))(hz:(P.info? (P.elem t)).map (·.size)=some size)(h1:jj≤n)(h2:n≤cc)
  (h:wpList P ops Q rest (act.put op.dst (.slice (some ⟨bb,if cc=jj then off else off+jj*size,none⟩) (n - jj) (cc - jj))) w):wpList P ops Q (op::rest) act w:=by
 obtain⟨ti,hti,hs⟩:=Option.map_eq_some_iff.1 hz
 have hsz:(sizeOf (P.elem t)).run P w=.ok size w:=by simp[sizeOf,typeInfo,hti,hs]
 have e:(if cc=jj then some (⟨bb,off,none⟩:Addr)else(some (⟨bb,off,none⟩:Addr)).map (·.add (jj*size)))=some ⟨bb,if cc=jj then off else off+jj*size,none⟩:=by
  split
  ·rfl
  ·rw[Option.map_some,addr_add]
 refine wpList_plain hgd fun _ hK=>?_
 unfold Oper.wp execOp
 simp only[ho,Sem.run_bind,hx,hj,Option.map_some,Option.map_none,run_sliceAt_slice (h:=hu)]
 simp only[run_slice_l w t (some (⟨bb,off,none⟩:Addr)) n cc hu .i64 (jj:Int) (by omega) (by omega),hsz,Result.andThen_ok,sliced,Int.toNat_natCast,e,Sem.run_pure]
 exact hK _ _ h
end
