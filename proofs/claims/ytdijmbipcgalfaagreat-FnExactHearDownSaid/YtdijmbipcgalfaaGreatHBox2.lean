/- Boxes known whole: a store, and all other blocks as they were. -/
import Derived.Test.YtdijmbipcgalfaaGreatHM0
import Derived.Deep.RegionHeld3
namespace Go.Proofs.YtdijmbipcgalfaaGreat
set_option linter.unusedVariables false
open Go.ChangeShapes Go.WideShapes Go.ChangeAt Go.RowKit
variable {cs us:List Value}{T:TypeId}{w w0 w1:World}
structure But(b:Nat)(w w':World):Prop where
 size:w.heap.size≤w'.heap.size
 block:∀ k,k≠b→k<w.heap.size→w'.heap[k]?=w.heap[k]?
theorem But.setCells{b:Nat}:∀ (us:List Value) {a w:World} (o:Nat),But b a w→But b a (w.setCells b o us)
 | [],_,_,_,h=>h
 | v::r,_,w,o,h=>But.setCells r (o+1) ⟨by simpa using h.size,fun k h1 h2=>by
  rw[Below.heap_setCell _ _ _ _ (fun e=>h1 (by simpa using e))];exact h.block k h1 h2⟩
theorem But.under{B b:Nat}{u w w':World}(h:But b w w')(g:d7 B u w)(hb:u.heap.size≤b):d7 B u w':=⟨Nat.le_trans g.size h.size,fun k h1 h2=>by
 rw[h.block k om (Nat.lt_of_lt_of_le h2 g.size)];exact g.block k h1 h2⟩
theorem j5.but{b c:Nat}{w w':World}{cs:List Value}{T:TypeId}(h:j5 w c cs T)(g:But b w w')(hne:c≠b):j5 w' c cs T:=by
 unfold j5
 rw[g.block c hne h.lt];exact h
section
variable {P:Program} {ops:Array Oper} {rest:List Oper} {op:Oper} {a:Act} {w:World} {Q:Exit→Act→World→Prop}
theorem Q7(hgd:op.guard=none)(ty:TypeId)(x y:Operand)(ho:op.op=.store ty x y)(b o:Nat)(hx:a.eval x=.pointer (some ⟨b,o,none⟩)){cs2:List Value}(H:j5 w b cs T)
  (hv:(a.eval y).cells.toList=us) (hi:(P.info? ty).map (·.size)=some us.length) (h1:us.all (·.oneCell')=true) (hl:o+us.length≤cs.length) (hcs:ak0 cs o us=cs2)  (g:b8 w0 w) (hb:w0.heap.size≤b)
  (h:∀ z:b7 w0,j5 z.w b cs2 T→But b w z.w→wpList P ops Q rest (a.put op.dst undef) z.w):wpList P ops Q (op::rest) a w:=by
 subst hcs
 refine wpList_plain hgd fun _ hK=>?_
 unfold Oper.wp execOp
 simp only[ho,hx,Instr.storeAt,Instr.sureAddr,Sem.run_bind,Sem.run_pure,Result.andThen_ok,ac4 hv (H.there hl) hi (fun u hu=>List.all_eq_true.1 h1 u hu)]
 exact hK _ _ (h ⟨_,ad8 hb us o g.out⟩ (H.setCells us o) (But.setCells us o ⟨Nat.le_refl _,fun _ _ _=>rfl⟩))
end
theorem bf8:∀ (us pre post:List Value),us.length=post.length→ak0 (pre++post) pre.length us=pre++us
 | [],pre,post,h=>by
  have:post=[]:=List.length_eq_zero_iff.1 h.symm
  subst this;rfl
 | v::r,pre,[],h=>by simp at h
 | v::r,pre,u::post,h=>by
  have:=bf8 r (pre++[v]) post (by simpa using h)
  rw[ak0]
  rw[List.set_append_right _ _ nl,Nat.sub_self,List.set_cons_zero]
  simpa using this
theorem aA5(h:us.length=cs.length):ak0 cs 0 us=us:=bf8 us [] cs h
theorem sS{P:Program}{ops:Array Oper}{rest:List Oper}{op:Oper}{a:Act}{Q:Exit→Act→World→Prop}(hgd:op.guard=none)(ty:TypeId)(x y:Operand)(ho:op.op=.store ty x y)(b o:Nat)(hx:a.eval x=.pointer (some ⟨b,o,none⟩)){cs2:List Value}(H:j5 w b cs T)(hv:(a.eval y).cells.toList=us)(hi:(P.info? ty).map (·.size)=some us.length)(h1:us.all (·.oneCell')=true)(hl:o+us.length≤cs.length)(hcs:ak0 cs o us=cs2)(g:b8 w0 w)(hb:w0.heap.size≤b)
 (h:∀ z:b7 w0,Hid (j5 z.w b cs2 T)→Hid (But b w z.w)→wpList P ops Q rest (a.put op.dst undef) z.w):wpList P ops Q (op::rest) a w:=Q7 hgd ty x y ho b o hx H hv hi h1 hl hcs g hb fun z p q=>h z p q
theorem sL{P:Program}{ops:Array Oper}{rest:List Oper}{op:Oper}{a:Act}{Q:Exit→Act→World→Prop}(hgd:op.guard=none)(ty:TypeId)(x:Operand)(ho:op.op=.load ty x)(b:Nat)(hx:a.eval x=.pointer (some ⟨b,0,none⟩)){k:Nat}{d:TypeDesc}(H:Hid (j5 w1 b cs T))(g:b8 w1 w)(hu:P.underlying ty=some d)(HL:Hid (cs.length=k))
 (h:wpList P ops Q rest (a.put op.dst (.agg cs.toArray)) w)(hd:d.isRow=true:=by rfl)(hi:(P.info? ty).map (·.size)=some k:=by kernel_rfl):wpList P ops Q (op::rest) a w:=al8 hgd ty x ho b 0 hx (H.out.to g) d hu hd (by rw[HL.out];exact hi) (by rw[List.drop_zero,List.take_length]) h
theorem sW{P:Program}{ops:Array Oper}{rest:List Oper}{op:Oper}{a:Act}{Q:Exit→Act→World→Prop}(hgd:op.guard=none)(ty:TypeId)(x y:Operand)(ho:op.op=.store ty x y)(b:Nat)(hx:a.eval x=.pointer (some ⟨b,0,none⟩)){k:Nat}(H:j5 w b cs T)(HL:Hid (us.length=k))(HO:Hid (us.all (·.oneCell')=true))(g:b8 w0 w)(hb:w0.heap.size≤b)
 (h:∀ z:b7 w0,Hid (j5 z.w b us T)→Hid (But b w z.w)→wpList P ops Q rest (a.put op.dst undef) z.w)(hv:(a.eval y).cells.toList=us:=by rfl)(hi:(P.info? ty).map (·.size)=some k:=by kernel_rfl)(hk:cs.length=k:=by rfl):wpList P ops Q (op::rest) a w:=
 Q7 hgd ty x y ho b 0 hx H (us:=us) (cs2:=us) hv (by rw[HL.out];exact hi) HO.out (by rw[HL.out,hk];omega) (aA5 (HL.out.trans hk.symm)) g hb fun z h1 h2=>h z h1 h2
theorem sA{P:Program}{ops:Array Oper}{rest:List Oper}{op:Oper}{a:Act}{Q:Exit→Act→World→Prop}(hgd:op.guard=none)(ty:TypeId)(x y:Operand)(ho:op.op=.store ty x y)(b o:Nat)(hx:a.eval x=.pointer (some ⟨b,o,none⟩))(us cs2:List Value)(H:Hid (j5 w1 b cs T))(w0:World)(hb:w0.heap.size≤b)
 (h:∀ z:b7 w0,Hid (j5 z.w b cs2 T)→Hid (But b w z.w)→wpList P ops Q rest (a.put op.dst undef) z.w)[g1:b8 w1 w][g:b8 w0 w](hv:(a.eval y).cells.toList=us:=by rfl)(hi:(P.info? ty).map (·.size)=some us.length:=by kernel_rfl)(h1:us.all (·.oneCell')=true:=by rfl)(hl:o+us.length≤cs.length:=by first|exact Nat.le_of_ble_eq_true rfl|simp)(hcs:ak0 cs o us=cs2:=by kernel_rfl):wpList P ops Q (op::rest) a w:=Q7 hgd ty x y ho b o hx (H.out.to g1) hv hi h1 hl hcs g hb fun z p q=>h z p q
theorem sB{P:Program}{ops:Array Oper}{rest:List Oper}{op:Oper}{a:Act}{Q:Exit→Act→World→Prop}(hgd:op.guard=none)(ty:TypeId)(x y:Operand)(ho:op.op=.store ty x y)(b o:Nat)(hx:a.eval x=.pointer (some ⟨b,o,none⟩))(us:List Value)(H:Hid (j5 w1 b cs T))(w0:World)(hb:w0.heap.size≤b)
 (h:∀ z:b7 w0,Hid (j5 z.w b us T)→Hid (But b w z.w)→wpList P ops Q rest (a.put op.dst undef) z.w)[g1:b8 w1 w][g:b8 w0 w](hv:(a.eval y).cells.toList=us:=by rfl)(hi:(P.info? ty).map (·.size)=some us.length:=by kernel_rfl)(h1:us.all (·.oneCell')=true:=by rfl)(hl:o+us.length≤cs.length:=by first|exact Nat.le_of_ble_eq_true rfl|simp)(hcs:ak0 cs o us=us:=by rfl):wpList P ops Q (op::rest) a w:=Q7 hgd ty x y ho b o hx (H.out.to g1) hv hi h1 hl hcs g hb fun z p q=>h z p q
theorem lA{P:Program}{ops:Array Oper}{rest:List Oper}{op:Oper}{a:Act}{Q:Exit→Act→World→Prop}(hgd:op.guard=none)(ty:TypeId)(x:Operand)(ho:op.op=.load ty x)(b o:Nat)(hx:a.eval x=.pointer (some ⟨b,o,none⟩))(row:List Value)(H:Hid (j5 w1 b cs T)){d:TypeDesc}(hu:P.underlying ty=some d)
 (h:wpList P ops Q rest (a.put op.dst (.agg row.toArray)) w)[g1:b8 w1 w](hd:d.isRow=true:=by rfl)(hi:(P.info? ty).map (·.size)=some row.length:=by kernel_rfl)(hr:(cs.drop o).take row.length=row:=by kernel_rfl):wpList P ops Q (op::rest) a w:=al8 hgd ty x ho b o hx (H.out.to g1) d hu hd hi hr h
