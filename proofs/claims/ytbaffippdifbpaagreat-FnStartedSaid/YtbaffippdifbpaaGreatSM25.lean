/- Slices of files: what their copies leave, one after the other. No condition but on lengths. The contracts of the mirrors, sizes and equalities of waiting orders. No condition but on sizes. The contracts of the mirrors, sizes and equalities of structs with slices (1). No condition but on sizes. The contract of the mirror of the ground. No condition but on sizes. The contracts of the size and the equality of the ground. No condition but on sizes. The contracts of the mirror, size and equality of a board. No condition but on sizes. The contract of the mirror of space. No condition but on sizes. -/
import Derived.Test.YtbaffippdifbpaaGreatSAppF
import Derived.Test.YtbaffippdifbpaaGreatSDF1
import Derived.Test.YtbaffippdifbpaaGreatSM16
import Derived.Test.YtbaffippdifbpaaGreatSM9
import Derived.Test.YtbaffippdifbpaaGreatSOkF
import Derived.Laws.StructEq
import Derived.MapKept
import Derived.Test.YtbaffippdifbpaaGreatSTimL
import Derived.Maps.Own
namespace Go.Proofs.YtbaffippdifbpaaGreat
set_option linter.unusedVariables false
open Go.ChangeShapes Go.WideShapes Go.ChangeAt Go.RowKit
theorem encN_one{α β:Type}[N:Nest α β](r:NRow α):∀ u∈encN r,u.oneCell'=true:=N.one _ _ _
class NestInv(α:Type){β:Type}[N:Nest α β][F:Flat β]:Prop where
 inv:∀ {B w vs x},N.Rd B w vs x→∃ a c,vs=N.cells x a c∧N.good x∧RdS B w a c (N.inner x)
section
variable {α β:Type} [N:Nest α β] [F:Flat β]
variable {B k:Nat} {χ χ2:Nat→Col} {w W1 W2 Z:World} {a ra:Option Addr} {c rc:Nat} {rows0 rows:List (NRow α)} {x:α}
def grown(U V:Nat)(χ:Nat→Col)(n:Nat):Nat→Col:=paint U χ (paint V (fun _=>(0,n)) (fun _=>(0,0)) id) id
theorem OwnN.grow{χ2:Nat→Col}{W2:World}{ra:Option Addr}{rc:Nat}{x:α}(h:OwnN B χ 0 w a c rows)(g:Grows w W1)(hB:B≤W1.heap.size){i0:Col}(hi:OwnC W1.heap.size χ2 i0 W2 ra rc (N.inner x))(g2:Grows W1 W2)(hgd:N.good x){a':Option Addr}{c':Nat}{W3:World}(g3:Grows W2 W3)
  (hown:Own (encN (α:=α)) N.ty N.size B Z a' c' (rows++[⟨x,ra,rc⟩])) (hg:W3.grownBy Z (blkOf a)) (hb:blkOf a'=blkOf a∨blkOf a'=some W3.heap.size) :
  OwnN B (grown W1.heap.size W3.heap.size χ (rows.length+1)) 0 Z a' c' (rows++[⟨x,ra,rc⟩]):=by
 have hblk:=h.own.blk
 have l1:=g.out.size
 have l2:=g2.out.size
 have l3:=g3.out.size
 have hcol:∀ b,blkOf a=some b→grown W1.heap.size W3.heap.size χ (rows.length+1) b=(0,0):=fun b hb=>by
  have:=(hblk b hb).2
  rw[grown,paint,if_pos (by omega)];exact h.col b hb
 have hfr:Fr B (grown W1.heap.size W3.heap.size χ (rows.length+1)) (·=(0,0)) W3 Z:=⟨hg.os,hg.tape,hg.output,hg.size,fun b h2 h3=>hg.block b h2 (fun e=>h3 ⟨(hblk b e.symm).1,hcol b e.symm⟩)⟩
 refine⟨hown,fun k hk=>?_,fun i r hr=>?_⟩
 ·rcases hb with hb|hb
  ·exact hcol k (by rw[← hb];exact hk)
  ·rw[hb]at hk
   cases hk
   rw[grown,paint,if_neg (by omega),paint,if_neg (by omega)];rfl
 ·by_cases hi2:i<rows.length
  ·rw[List.getElem?_append_left hi2]at hr
   obtain⟨h1,h2⟩:=h.each i r hr
   refine⟨h1,((h2.old l1).to ⟨g.out.trans ((g2.out.trans (g3.out.mono l2)).mono l1)⟩).fr hfr ?_⟩
   intro e;simp at e
  ·have hlt:=(List.getElem?_eq_some_iff.1 hr).1
   simp at hlt
   obtain rfl:i=rows.length:=by omega
   rw[List.getElem?_append_right (Nat.le_refl _)]at hr
   simp at hr
   subst hr
   refine⟨hgd,(((hi.recol (χ':=grown W1.heap.size W3.heap.size χ (rows.length+1)) (i':=(0,rows.length+1)) (fun k h1 h2 _=>?_)).mono hB).to g3).fr hfr ?_⟩
   ·rw[grown,paint,if_neg (by omega),paint,if_pos (by omega)];rfl
   ·intro e;simp at e
end
instance NestInv.iTFileIn:NestInv TFileIn where
 inv:=by rintro _ _ _ _ ⟨a0,c0,rfl,q0,hok⟩;exact⟨a0,c0,rfl,hok,q0⟩
instance NestInv.iTFileOut:NestInv TFileOut where
 inv:=by rintro _ _ _ _ ⟨a0,c0,rfl,q0,hok⟩;exact⟨a0,c0,rfl,hok,q0⟩
section
variable {P:Program} {ops:Array Oper} {op:Oper} {a:Act} {w:World} {Q:Exit→Act→World→Prop} {K:Act→World→Prop} {E:Prop} {α:Type} {enc:α→List Value} {T B g:Nat} {c:Nat} {l:List α}
end
end Go.Proofs.YtbaffippdifbpaaGreat
namespace Go.Proofs.YtbaffippdifbpaaGreat
set_option linter.unusedVariables false
open Go.ChangeShapes Go.WideShapes Go.ChangeAt Go.RowKit
end Go.Proofs.YtbaffippdifbpaaGreat
namespace Go.Proofs.YtbaffippdifbpaaGreat
set_option linter.unusedVariables false
open Go.ChangeShapes Go.WideShapes Go.ChangeAt Go.RowKit
end Go.Proofs.YtbaffippdifbpaaGreat
namespace Go.Proofs.YtbaffippdifbpaaGreat
set_option linter.unusedVariables false
open Go.ChangeShapes Go.WideShapes Go.ChangeAt Go.RowKit
end Go.Proofs.YtbaffippdifbpaaGreat
namespace Go.Proofs.YtbaffippdifbpaaGreat
set_option linter.unusedVariables false
open Go.ChangeShapes Go.WideShapes Go.ChangeAt Go.RowKit
end Go.Proofs.YtbaffippdifbpaaGreat
namespace Go.Proofs.YtbaffippdifbpaaGreat
set_option linter.unusedVariables false
open Go.ChangeShapes Go.WideShapes Go.ChangeAt Go.RowKit
end Go.Proofs.YtbaffippdifbpaaGreat
namespace Go.Proofs.YtbaffippdifbpaaGreat
set_option linter.unusedVariables false
open Go.ChangeShapes Go.WideShapes Go.ChangeAt Go.RowKit
end Go.Proofs.YtbaffippdifbpaaGreat
namespace Go.Proofs.YtbaffippdifbpaaGreat
set_option linter.unusedVariables false
open Go.ChangeShapes Go.WideShapes Go.ChangeAt Go.RowKit
end Go.Proofs.YtbaffippdifbpaaGreat
namespace Go.Proofs.YtbaffippdifbpaaGreat
set_option linter.unusedVariables false
open Go.ChangeShapes Go.WideShapes Go.ChangeAt Go.RowKit
theorem RowsIn.list{α:Type}[E:Flat α]{B n:Nat}{w:World}{D:Array Value}{l:List α}(h:RowsIn B w D l)(hl:l.length=n)(hD:D.size=n*E.size):D.toList=l.flatMap E.enc:=by
 have hfl:(l.flatMap E.enc).length=n*E.size:=by rw[flatMap_length E.encLen,hl]
 refine List.ext_getElem? fun j=>?_
 by_cases hj:j<n*E.size
 ·have hs:0<E.size:=by
   rcases Nat.eq_zero_or_pos E.size with h0|h0
   ·rw[h0]at hj;omega
   ·exact h0
  have hq:j / E.size<l.length:=by rw[hl];exact Nat.div_lt_of_lt_mul (by rw[Nat.mul_comm];exact hj)
  have hx:=List.getElem?_eq_getElem hq
  obtain⟨vs,h1,h2⟩:=h _ _ hx
  obtain⟨rfl,-⟩:=E.inv h1
  have hm:j % E.size<(E.enc l[j / E.size]).length:=by rw[E.encLen];exact Nat.mod_lt _ hs
  have hu:=List.getElem?_eq_getElem hm
  have h3:=h2 _ _ hu
  have h4:=flatMap_at E.encLen l _ _ _ _ hx hu
  have hj':j / E.size*E.size+j % E.size=j:=by rw[Nat.mul_comm];exact Nat.div_add_mod _ _
  rw[hj']at h3 h4
  rw[h4,Array.getElem?_toList,h3]
 ·rw[List.getElem?_eq_none (by rw[Array.length_toList];omega),List.getElem?_eq_none (by omega)]
theorem RowsIn.own{α:Type}[E:Flat α]{B n:Nat}{W:World}{D:Array Value}{l:List α}(x:Later (W.alloc (.cells D E.ty)))(h:RowsIn B x.w D l)(hl:l.length=n)(hm:n≤1048576)(hD:D.size=n*E.size):Own E.enc E.ty E.size W.heap.size x.w (some ⟨W.heap.size,0,none⟩) n l :=
 own_block E.encLen hl (by omega) (Nat.le_refl _) hD (h.list hl hD) x
end Go.Proofs.YtbaffippdifbpaaGreat
namespace Go.Proofs.YtbaffippdifbpaaGreat
set_option linter.unusedVariables false
open Go.ChangeShapes Go.WideShapes Go.ChangeAt Go.RowKit
instance(priority:=950) LeN.setL (a:Nat){W:World}(x:Later W)(p:Addr)(v:Value)[h:LeN a x.w.heap.size]:LeN a (x.set p v).w.heap.size:=⟨by show a≤(x.w.setCell p v).heap.size;simpa using h.out⟩
structure RowsN{α β:Type}[N:Nest α β][F:Flat β](B:Nat)(χ:Nat→Col)(w:World)(D:Array Value)(rows:List (NRow α)):Prop where
 cell:∀ i r,rows[i]?=some r→∀ (j:Nat) (u:Value),(encN r)[j]?=some u→D[i*N.size+j]?=some u
 each:∀ i r,rows[i]?=some r→N.good r.x∧OwnC B χ (0,i+1) w r.a r.c (N.inner r.x)
section
variable {α β:Type} [N:Nest α β] [F:Flat β] {B n:Nat} {χ χ2:Nat→Col} {w W1 W2 w2:World} {D:Array Value} {rows:List (NRow α)} {x:α} {ra:Option Addr} {rc:Nat}
theorem RowsN.list(h:RowsN B χ w D rows)(hl:rows.length=n)(hD:D.size=n*N.size):D.toList=rows.flatMap encN:=by
 have hfl:(rows.flatMap (encN (α:=α))).length=n*N.size:=by rw[flatMap_length encN_len,hl]
 refine List.ext_getElem? fun j=>?_
 by_cases hj:j<n*N.size
 ·have hs:0<N.size:=by
   rcases Nat.eq_zero_or_pos N.size with h0|h0
   ·rw[h0]at hj;omega
   ·exact h0
  have hq:j / N.size<rows.length:=by rw[hl];exact Nat.div_lt_of_lt_mul (by rw[Nat.mul_comm];exact hj)
  have hx:=List.getElem?_eq_getElem hq
  have hm:j % N.size<(encN rows[j / N.size]).length:=by rw[encN_len];exact Nat.mod_lt _ hs
  have hu:=List.getElem?_eq_getElem hm
  have h3:=h.cell _ _ hx _ _ hu
  have h4:=flatMap_at encN_len rows _ _ _ _ hx hu
  have hj':j / N.size*N.size+j % N.size=j:=by rw[Nat.mul_comm];exact Nat.div_add_mod _ _
  rw[hj']at h3 h4
  rw[h4,Array.getElem?_toList,h3]
 ·rw[List.getElem?_eq_none (by rw[Array.length_toList];omega),List.getElem?_eq_none (by omega)]
end
end Go.Proofs.YtbaffippdifbpaaGreat
namespace Go.Proofs.YtbaffippdifbpaaGreat
set_option linter.unusedVariables false
open Go.ChangeShapes Go.WideShapes Go.ChangeAt Go.RowKit
def recV(x:TRecord):Value:=.agg #[.int .i64 x.Id,.int .i64 x.Priority,.int .i64 x.Time,.string x.Data]
def recEq(x y:TRecord):Bool:=(x.Id == y.Id) && ((x.Priority == y.Priority) && ((x.Time == y.Time) && (x.Data.toList == y.Data.toList)))
theorem recEq_eq{x y:TRecord}(h:recEq x y=true):x=y:=by
 simp only[recEq,Bool.and_eq_true,beq_iff_eq]at h
 obtain⟨h1,h2,h3,h4⟩:=h
 have h5:x.Data=y.Data:=by
  rw[ByteArray.toList_eq,ByteArray.toList_eq]at h4
  cases x;cases y
  rename_i a _ _ _ b
  simp only at h4 ⊢
  exact ByteArray.ext (Array.ext' h4)
 cases x;cases y
 simp_all
theorem run_recEq(x y:TRecord)(d:Nat)(w:World):(Op.equalIn (d+2) 218 (recV x) (recV y)).run Tryz.prog w=.ok (recEq x y) w:=by
 have hu:=Tryz.underlying218
 rw[recV,recV,show d+2=(d+1)+1 from rfl,run_equalIn_struct w (d+1) _ _ _ (by kernel_rfl) (by kernel_rfl)]
 cases h1:(x.Id == y.Id)
 ·simp[go_sem,h1,recEq]
 cases h2:(x.Priority == y.Priority)
 ·simp[go_sem,h1,h2,recEq]
 cases h3:(x.Time == y.Time)
 ·simp[go_sem,h1,h2,h3,recEq]
 cases h4:(x.Data.toList == y.Data.toList)
 ·have h5:¬ x.Data.toList=y.Data.toList:=by simpa using h4
  simp[go_sem,h1,h2,h3,h5,recEq]
 ·have h5:x.Data.toList=y.Data.toList:=by simpa using h4
  simp[go_sem,h1,h2,h3,h5,recEq]
def Ents:List MapEntry→List TRecord→Prop
 | [],[]=>True
 | e::es,r::rs=>(e.key=recV r∧e.val=.bool true)∧Ents es rs
 | _,_=>False
def idxR(x:TRecord):List TRecord→Nat→Option Nat
 | [],_=>none
 | r::rs,i=>if recEq x r=true then some i else idxR x rs (i+1)
theorem run_findAsk(x:TRecord)(w:World):∀ (es:List MapEntry) (rs:List TRecord) (i:Nat),Ents es rs →
  (Instr.findAsking 218 (recV x) es i).run Tryz.prog w=.ok ((idxR x rs i).map (fun j=>(j,Value.bool true))) w
 | [],[],i,_=>rfl
 | [],_::_,_,h=>h.elim
 | _::_,[],_,h=>h.elim
 | e::es,r::rs,i,h=>by
  obtain⟨⟨h1,h2⟩,h3⟩:=h
  have he:(Op.equal 218 (recV x) e.key).run Tryz.prog w=.ok (recEq x r) w:=by rw[h1];exact run_recEq x r 9998 w
  rw[Instr.findAsking,Sem.run_bind,he,Result.andThen_ok,idxR]
  cases hr:recEq x r
  ·simp only[Bool.false_eq_true,if_false]
   exact run_findAsk x w es rs (i+1) h3
  ·simp only[if_true,h2]
   rfl
theorem run_findR(x:TRecord)(w:World){es:List MapEntry}{rs:List TRecord}(h:Ents es rs) :
  (Instr.findKey 218 (recV x) es).run Tryz.prog w=.ok ((idxR x rs 0).map (fun j=>(j,Value.bool true))) w:=by
 rw[Instr.findKey,Sem.run_bind,run_underlying Tryz.underlying218,Result.andThen_ok]
 cases es with
 | nil=>cases rs with
  | nil=>rfl
  | cons r rs=>exact h.elim
 | cons e es =>
  rw[show ∀ d,Instr.findNow (.struct d) (recV x) (e::es) 0=none from fun d=>by rw[Instr.findNow];simp[Instr.sameNow]]
  exact run_findAsk x w (e::es) rs 0 h
theorem run_keyR(b:Bool)(x:TRecord)(d:Nat)(w:World):(Instr.checkKey b (d+2) 218 (recV x)).run Tryz.prog w=.ok () w:=by
 have hu:=Tryz.underlying218
 have h3:=Tryz.underlying3
 have h9:=Tryz.underlying9
 rw[recV,show d+2=(d+1)+1 from rfl,Instr.checkKey,Sem.run_bind,run_underlying hu,Result.andThen_ok]
 simp[go_sem,Instr.checkKey]
def MapR(w:World)(b:Nat)(rs:List TRecord):Prop:=∃ es clock,w.heap[b]?=some (.map es clock)∧Ents es.toList rs
theorem MapR.lt{w:World}{b:Nat}{rs:List TRecord}(h:MapR w b rs):b<w.heap.size:=by
 obtain⟨es,c,h,-⟩:=h
 exact(Array.getElem?_eq_some_iff.1 h).1
theorem MapR.to{w W:World}{b:Nat}{rs:List TRecord}(h:MapR w b rs)(g:Grows w W):MapR W b rs:=by
 have hl:=h.lt
 obtain⟨es,c,h,h2⟩:=h
 exact⟨es,c,by rw[g.out.block b hl];exact h,h2⟩
theorem run_lookupR{w:World}{b:Nat}{rs:List TRecord}(h:MapR w b rs)(x:TRecord) :
  (Instr.lookup 219 (.map (some b)) (recV x) false).run Tryz.prog w=.ok (.bool (rs.any (recEq x))) w:=by
 obtain⟨es,c,h1,h2⟩:=h
 have hany:∀ (rs:List TRecord) (i:Nat),(idxR x rs i).isSome=rs.any (recEq x):=by
  intro rs
  induction rs with
  | nil=>intro i;rfl
  | cons r rs ih=>intro i;rw[idxR,List.any_cons];cases hr:recEq x r<;>simp[ih]
 have hg:(getObj b).run Tryz.prog w=.ok (.map es c) w:=by simp[getObj,Sem.run,h1]
 rw[Instr.lookup,Sem.run_bind,run_underlying Tryz.underlying219,Result.andThen_ok]
 simp only[Sem.run_bind,hg,Result.andThen_ok,Sem.run_pure,run_keyR _ x 9998 w,run_findR x w h2]
 have:=hany rs 0
 cases hi:idxR x rs 0 with
 | none=>rw[hi]at this;rw[← this];simp[go_sem]
 | some j=>rw[hi]at this;rw[← this];simp[go_sem]
theorem idxR_some{x:TRecord}:∀ {rs:List TRecord} {i j:Nat},idxR x rs i=some j→i≤j∧rs[j - i]?=some x
 | [],_,_,h=>by cases h
 | r::rs,i,j,h=>by
  rw[idxR]at h
  split at h
  ·rename_i hr
   cases h
   rw[recEq_eq hr]
   simp
  ·obtain⟨h1,h2⟩:=idxR_some h
   refine⟨by omega,?_⟩
   rw[show j - i=(j - (i+1))+1 from by omega,List.getElem?_cons_succ]
   exact h2
theorem Ents.set{x:TRecord}{q:MapEntry}(hq:q.key=recV x∧q.val=.bool true):∀ {es:List MapEntry} {rs:List TRecord} {j:Nat},Ents es rs→rs[j]?=some x→Ents (es.set j q) rs
 | [],[],_,_,h=>by cases h
 | [],_::_,_,h,_=>h.elim
 | _::_,[],_,h,_=>h.elim
 | e::es,r::rs,0,h,hx=>by simp at hx;subst hx;exact⟨hq,h.2⟩
 | e::es,r::rs,j+1,h,hx=>by simp at hx;exact⟨h.1,h.2.set hq hx⟩
theorem Ents.push{x:TRecord}{q:MapEntry}(hq:q.key=recV x∧q.val=.bool true):∀ {es:List MapEntry} {rs:List TRecord},Ents es rs→Ents (es++[q]) (rs++[x])
 | [],[],_=>⟨hq,trivial⟩
 | [],_::_,h=>h.elim
 | _::_,[],h=>h.elim
 | e::es,r::rs,h=>⟨h.1,h.2.push hq⟩
def addR(rs:List TRecord)(x:TRecord):List TRecord:=if rs.any (recEq x)=true then rs else rs++[x]
theorem anyR(x:TRecord)(rs:List TRecord):∀ (i:Nat),(idxR x rs i).isSome=rs.any (recEq x):=by
 induction rs with
 | nil=>intro i;rfl
 | cons r rs ih=>intro i;rw[idxR,List.any_cons];cases hr:recEq x r<;>simp[ih]
theorem Ents.get{x:TRecord}:∀ {es:List MapEntry} {rs:List TRecord} {j:Nat},Ents es rs→rs[j]?=some x→∃ e,es[j]?=some e∧e.key=recV x∧e.val=.bool true
 | [],[],_,_,h=>by cases h
 | [],_::_,_,h,_=>h.elim
 | _::_,[],_,h,_=>h.elim
 | e::es,r::rs,0,h,hx=>by simp at hx;subst hx;exact⟨e,rfl,h.1⟩
 | e::es,r::rs,j+1,h,hx=>by simp at hx;exact h.2.get hx
theorem same_recV(x:TRecord)(d:Nat):Instr.sameBits (d+2) (recV x) (recV x)=true:=by
 have h:∀ s:ByteArray,(s == s)=true:=fun s=>by rw[beq_toListBytes];simp
 simp[recV,Instr.sameBits,h]
theorem run_updateR{w:World}{b:Nat}{rs:List TRecord}(h:MapR w b rs)(x:TRecord) :
  ∃ w',(Instr.mapUpdate 219 (.map (some b)) (recV x) (.bool true)).run Tryz.prog w=.ok () w'∧MapR w' b (addR rs x)∧∃ o,w'={ w with heap:=w.heap.setIfInBounds b o }:=by
 have hb:=h.lt
 obtain⟨es,c,h1,h2⟩:=h
 have hg:(getObj b).run Tryz.prog w=.ok (.map es c) w:=by simp[getObj,Sem.run,h1]
 have hs:∀ o,(setObj b o).run Tryz.prog w=.ok () { w with heap:=w.heap.setIfInBounds b o }:=fun o=>by simp[setObj,Sem.run,h1]
 have ha:=anyR x rs 0
 rw[Instr.mapUpdate,Sem.run_bind,run_underlying Tryz.underlying219,Result.andThen_ok]
 simp only[Sem.run_bind,hg,Result.andThen_ok,run_keyR _ x 9998 w,run_findR x w h2]
 cases hi:idxR x rs 0 with
 | none =>
  rw[hi]at ha
  simp only[Option.map_none]
  refine⟨_,hs _,⟨_,_,by simp[hb];exact⟨rfl,rfl⟩,?_⟩,_,rfl⟩
  rw[addR,← ha,if_neg (by simp),Array.toList_push]
  exact h2.push ⟨rfl,rfl⟩
 | some j =>
  rw[hi]at ha
  obtain⟨-,hj⟩:=idxR_some hi
  rw[Nat.sub_zero]at hj
  obtain⟨e,he,hk,hv⟩:=h2.get hj
  have hke:((es[j]?).map (·.key)).getD (recV x)=recV x:=by
   rw[← Array.getElem?_toList,he];exact hk
  simp only[Option.map_some,Sem.run_bind,hke,Instr.keyThatStays,same_recV x 9998,if_true,Sem.run_pure,Result.andThen_ok]
  refine⟨_,hs _,⟨_,_,by simp[hb];exact⟨rfl,rfl⟩,?_⟩,_,rfl⟩
  rw[addR,← ha,if_pos (by simp),Array.toList_modify]
  have hl:j<es.toList.length:=(List.getElem?_eq_some_iff.1 he).1
  have hm:∀ (l:List MapEntry) (j:Nat) (e:MapEntry) (f:MapEntry→MapEntry),l[j]?=some e→l.modify j f=l.set j (f e):=by
   intro l
   induction l with
   | nil=>intro j e f h;cases h
   | cons a l ih =>
    intro j e f h
    cases j with
    | zero=>simp at h;subst h;rfl
    | succ j=>simp at h;simp[ih j e f h]
  rw[hm _ _ e _ he]
  exact h2.set ⟨rfl,rfl⟩ hj
end Go.Proofs.YtbaffippdifbpaaGreat
namespace Go.Proofs.YtbaffippdifbpaaGreat
set_option linter.unusedVariables false
open Go.ChangeShapes Go.WideShapes Go.ChangeAt Go.RowKit
theorem addR_any(rs:List TRecord)(x y:TRecord):(addR rs y).any (recEq x)=(rs.any (recEq x) || recEq x y):=by
 rw[addR]
 split
 ·rename_i h
  cases hx:recEq x y
  ·rw[Bool.or_false]
  ·have:=recEq_eq hx
   subst this
   rw[h];rfl
 ·rw[List.any_append]
  simp
theorem MapR.new(W:World)(b:Nat)(hb:W.heap.size=b):MapR (W.alloc (.map #[] 0)) b []:=⟨#[],0,by subst hb;rw[blk_alloc W _ _ rfl],trivial⟩
@[go_sem] theorem run_makeMapR(w:World):(Instr.makeMap 219 none).run Tryz.prog w=.ok (.map (some w.heap.size)) (w.alloc (.map #[] 0)):=by
 simp[Instr.makeMap,go_sem]
theorem MapR.notOwn{α:Type}{enc:α→List Value}{T size B n:Nat}{w:World}{a:Option Addr}{c b:Nat}{l:List α}{rs:List TRecord}(hb:MapR w b rs)(h:Own enc T size B w a c l):some b≠Value.ownBlock (.slice a n c):=by
 obtain⟨es,clk,hb,-⟩:=hb
 obtain⟨-,-,⟨h1,-⟩|⟨g,cap,cur,hv,-,hh,-⟩⟩:=h
 ·simp only[Value.slice.injEq]at h1;obtain⟨rfl,-⟩:=h1;simp[Value.ownBlock]
 ·simp only[Value.slice.injEq]at hv;obtain⟨rfl,-⟩:=hv
  simp only[Value.ownBlock,ne_eq,Option.some.injEq]
  rintro rfl
  rw[hb]at hh
  simp at hh
theorem MapR.kept{α:Type}{enc:α→List Value}{T size B n:Nat}{w w':World}{a:Option Addr}{c b:Nat}{l:List α}{rs:List TRecord}(hb:MapR w b rs)(h:Own enc T size B w a c l)(hg:w.grownBy w' (Value.ownBlock (.slice a n c))):MapR w' b rs:=by
 have hne:=hb.notOwn (n:=n) h
 have hl:=hb.lt
 obtain⟨es,clk,hb,he⟩:=hb
 exact⟨es,clk,by rw[hg.block b hl hne];exact hb,he⟩
theorem Own.mapped{α:Type}{enc:α→List Value}{T size B:Nat}{w w':World}{a:Option Addr}{c b:Nat}{l:List α}{rs:List TRecord}(h:Own enc T size B w a c l)(hb:MapR w b rs)(hw:∃ o,w'={ w with heap:=w.heap.setIfInBounds b o }):Own enc T size B w' a c l:=by
 obtain⟨o,rfl⟩:=hw
 refine⟨h.1,h.2.kept (row:=some b) ⟨rfl,rfl,rfl,by simp,fun k hk hr=>?_⟩ (.inr (fun e=>hb.notOwn (n:=l.length) h e.symm))⟩
 have:b≠k:=fun e=>hr (by rw[e])
 show(w.heap.setIfInBounds b o)[k]?=_
 rw[Array.getElem?_setIfInBounds_ne this]
theorem Later.mapped{W w w':World}{b:Nat}(hw:∃ o,w'={ w with heap:=w.heap.setIfInBounds b o })(g:Grows W w)(hb:W.heap.size≤b):∃ y:Later W,w'=y.w:=by
 obtain⟨o,rfl⟩:=hw
 refine⟨⟨_,?_⟩,rfl⟩
 have h:=g.out
 refine⟨h.os,h.tape,h.output,by simpa using h.size,fun k hk=>?_⟩
 show(w.heap.setIfInBounds b o)[k]?=_
 rw[Array.getElem?_setIfInBounds_ne (by omega)]
 exact h.block k hk
section
variable {ops:Array Oper} {rest:List Oper} {op:Oper} {a:Act} {w:World} {Q:Exit→Act→World→Prop}
theorem wpList_mapR(hgd:op.guard=none)(m k v:Operand)(ho:op.op=.mapUpdate 219 m k v){b:Nat}{rs:List TRecord}{x:TRecord}(hm:a.eval m=.map (some b))(hk:a.eval k=recV x)(hv:a.eval v=.bool true)(H:MapR w b rs)
  (h:∀ w',MapR w' b (addR rs x)→(∃ o,w'={ w with heap:=w.heap.setIfInBounds b o })→wpList Tryz.prog ops Q rest (a.put op.dst undef) w'):wpList Tryz.prog ops Q (op::rest) a w:=by
 refine wpList_plain hgd fun K hK=>?_
 obtain⟨w',hrun,r1,r2⟩:=run_updateR H x
 unfold Oper.wp
 simp[execOp,ho,hm,hk,hv,hrun,Result.andThen]
 exact hK _ _ (h w' r1 r2)
end
section
variable {ops:Array Oper} {C:World→Prop} {Q:Act→Prop} {o:Oper} {rest:List Oper} {a:Act}
theorem quiet_lookupR(hg:o.guard=none)(m k:Operand)(ho:o.op=.lookup 219 m k false){b:Nat}{rs:List TRecord}{x:TRecord}(hm:a.eval m=.map (some b))(hk:a.eval k=recV x)(hS:∀ w,C w→MapR w b rs)
  (h:wpQuiet Tryz.prog ops C Q rest (a.put o.dst (.bool (rs.any (recEq x))))):wpQuiet Tryz.prog ops C Q (o::rest) a :=
 BigFrame.wpQuiet_want (by simp[Region.wanted,hg]) fun K hK=>⟨.bool (rs.any (recEq x)),fun w hw=>by
  have hrun:=run_lookupR (hS w hw) x
  unfold Oper.quietAt
  simp[execOp,ho,hm,hk,hrun,Result.andThen]
  exact⟨rfl,rfl⟩,hK _ h⟩
end
end Go.Proofs.YtbaffippdifbpaaGreat
namespace Go.Proofs.YtbaffippdifbpaaGreat
set_option linter.unusedVariables false
open Go.ChangeShapes Go.WideShapes Go.ChangeAt Go.RowKit
def flightOk(x:TFlight):Bool:=inB x.At 0 1000050 && inB x.Data.size 1 404
def flightsOk(l:List TFlight):Bool:=decide (l.length≤1000) && l.all flightOk
def recordsOk(l:List TRecord):Bool:=decide (l.length≤5000) && l.all recordOk
theorem k_iflightsOk{B:Nat}{a:Option Addr}{c:Nat}{l:List TFlight}{w:World}(hs:RdS B w a c l)(hm:l.length≤100000000) :
  Calls Tryz.prog 136 #[.slice a l.length c] w (Gives w (.bool (flightsOk l))):=by
 obtain⟨n,hn⟩:∃ n,l.length=n:=⟨_,rfl⟩
 have HN:=lH hn
 have HD:=lH (show flightsOk l=(decide (n≤1000) && l.all flightOk)by rw[flightsOk,hn])
 rw[hn]at hm ⊢
 clear hn
 by_cases hmx:n≤1000
 ·go_enter Tryz.func136,Tryz.ntmps136
  go_wp2_with fail
  go_loopw [10] (fun v wr=>∃ k:Nat,v=.int .i64 k∧k≤n∧Hid ((l.drop k).all flightOk=l.all flightOk)∧∃ x:Later w,wr=x.w) (fun v _=>(n - intOf v).toNat)
  case atStart=>exact⟨0,rfl,by omega,rfl,Later.of⟩
  case round =>
   obtain⟨k,rfl,hk,HV,x,rfl⟩:=hrel
   by_cases h:k<n
   ·have hkl:k<l.length:=by have:=HN.out;omega
    obtain⟨eb,eoff,ex,rfl,ehb,ehd,eok,eh0,eh1⟩:=hs.atTFlight hkl
    have hz:ex.Data.size≤9223372036854775807:=eok.2.1
    have EOK:=lH eok;clear eok hkl
    cases hg:flightOk ex
    ·have HF:=lH (show l.all flightOk=false by have:=HV.out;rw[ehd.out,List.all_cons,hg]at this;rw[← this];rfl)
     cases c1:inB ex.At 0 1000050
     ·clear hg
      go_wp2_with (first|(go_at_call 127;refine(c_ibetween).mono ?_;rintro _ _ ⟨rfl,x,rfl⟩))
      go_ret
      exact Gives.mk (by rw[HD.out,HF.out,Bool.and_false];rfl)
     ·have c2:inB ex.Data.size 1 404=false:=by rw[flightOk,c1]at hg;exact hg
      clear hg
      go_wp2_with (first|(go_at_call 127;refine(c_ibetween).mono ?_;rintro _ _ ⟨rfl,x,rfl⟩))
      go_ret
      exact Gives.mk (by rw[HD.out,HF.out,Bool.and_false];rfl)
    ·have HF:=lH (show(l.drop (k+1)).all flightOk=l.all flightOk by have:=HV.out;rw[ehd.out,List.all_cons,hg,Bool.true_and]at this;exact this)
     have c1:inB ex.At 0 1000050=true:=by simp only[flightOk,Bool.and_eq_true]at hg;exact hg.1
     have c2:inB ex.Data.size 1 404=true:=by simp only[flightOk,Bool.and_eq_true]at hg;exact hg.2
     clear hg
     go_wp2_with (first|(go_at_call 127;refine(c_ibetween).mono ?_;rintro _ _ ⟨rfl,x,rfl⟩))
     go_roundw
     case rel=>exact⟨k+1,by go_num,by omega,HF,Later.of⟩
     case measure=>simp[intOf];omega
   ·have HF:=lH (show l.all flightOk=true by have:=HV.out;rw[List.drop_of_length_le (by have:=HN.out;omega)]at this;rw[← this];rfl)
    go_wp2_with fail
    go_ret
    exact Gives.mk (by rw[HD.out,HF.out,decide_eq_true hmx];rfl)
 ·go_enter Tryz.func136,Tryz.ntmps136
  go_wp2_with fail
  go_ret
  exact Gives.mk (by rw[HD.out,decide_eq_false hmx];rfl)
theorem k_irecordsOk{B:Nat}{a:Option Addr}{c:Nat}{l:List TRecord}{w:World}(hs:RdS B w a c l)(hm:l.length≤100000000) :
  Calls Tryz.prog 243 #[.slice a l.length c] w (Gives w (.bool (recordsOk l))):=by
 obtain⟨n,hn⟩:∃ n,l.length=n:=⟨_,rfl⟩
 have HN:=lH hn
 have HD:=lH (show recordsOk l=(decide (n≤5000) && l.all recordOk)by rw[recordsOk,hn])
 rw[hn]at hm ⊢
 clear hn
 by_cases hmx:n≤5000
 ·go_enter Tryz.func243,Tryz.ntmps243
  go_wp2_with fail
  go_loopw [10] (fun v wr=>∃ k:Nat,v=.int .i64 k∧k≤n∧Hid ((l.drop k).all recordOk=l.all recordOk)∧∃ x:Later w,wr=x.w) (fun v _=>(n - intOf v).toNat)
  case atStart=>exact⟨0,rfl,by omega,rfl,Later.of⟩
  case round =>
   obtain⟨k,rfl,hk,HV,x,rfl⟩:=hrel
   by_cases h:k<n
   ·have hkl:k<l.length:=by have:=HN.out;omega
    obtain⟨eb,eoff,ex,rfl,ehb,ehd,eok,eh0,eh1,eh2,eh3⟩:=hs.atTRecord hkl
    have hz:ex.Data.size≤9223372036854775807:=eok.2.2.2.1
    have EOK:=lH eok;clear eok hkl
    cases hg:recordOk ex
    ·have HF:=lH (show l.all recordOk=false by have:=HV.out;rw[ehd.out,List.all_cons,hg]at this;rw[← this];rfl)
     go_wp2_with (first|(go_at_call 300;refine(k_iRecordOk (by omega)).mono ?_;rintro _ _ ⟨rfl,x,rfl⟩))
     go_ret
     exact Gives.mk (by rw[HD.out,HF.out,Bool.and_false];rfl)
    ·have HF:=lH (show(l.drop (k+1)).all recordOk=l.all recordOk by have:=HV.out;rw[ehd.out,List.all_cons,hg,Bool.true_and]at this;exact this)
     go_wp2_with (first|(go_at_call 300;refine(k_iRecordOk (by omega)).mono ?_;rintro _ _ ⟨rfl,x,rfl⟩))
     go_roundw
     case rel=>exact⟨k+1,by go_num,by omega,HF,Later.of⟩
     case measure=>simp[intOf];omega
   ·have HF:=lH (show l.all recordOk=true by have:=HV.out;rw[List.drop_of_length_le (by have:=HN.out;omega)]at this;rw[← this];rfl)
    go_wp2_with fail
    go_ret
    exact Gives.mk (by rw[HD.out,HF.out,decide_eq_true hmx];rfl)
 ·go_enter Tryz.func243,Tryz.ntmps243
  go_wp2_with fail
  go_ret
  exact Gives.mk (by rw[HD.out,decide_eq_false hmx];rfl)
theorem k_sflightsOk{B:Nat}{a:Option Addr}{c:Nat}{l:List TFlight}{w:World}(hs:RdS B w a c l)(hm:l.length≤100000000) :
  Calls Tryz.prog 155 #[.slice a l.length c] w (Gives w (.bool (flightsOk l))):=by
 obtain⟨n,hn⟩:∃ n,l.length=n:=⟨_,rfl⟩
 have HN:=lH hn
 have HD:=lH (show flightsOk l=(decide (n≤1000) && l.all flightOk)by rw[flightsOk,hn])
 rw[hn]at hm ⊢
 clear hn
 go_enter Tryz.func155,Tryz.ntmps155
 go_wp2_with fail
 go_loopw [3] (fun v wr=>∃ k:Nat,v=.int .i64 k∧k≤n∧Hid ((l.drop k).all flightOk=l.all flightOk)∧∃ x:Later w,wr=x.w) (fun v _=>(n - intOf v).toNat)
 case atStart=>exact⟨0,rfl,by omega,rfl,Later.of⟩
 case round =>
  obtain⟨k,rfl,hk,HV,x,rfl⟩:=hrel
  by_cases h:k<n
  ·have hkl:k<l.length:=by have:=HN.out;omega
   obtain⟨eb,eoff,ex,rfl,ehb,ehd,eok,eh0,eh1⟩:=hs.atTFlight hkl
   have hz:ex.Data.size≤9223372036854775807:=eok.2.1
   have EOK:=lH eok;clear eok hkl
   cases hg:flightOk ex
   ·have HF:=lH (show l.all flightOk=false by have:=HV.out;rw[ehd.out,List.all_cons,hg]at this;rw[← this];rfl)
    cases c1:inB ex.At 0 1000050
    ·clear hg
     go_wp2_with (first|(go_at_call 151;refine(c_sl01In).mono ?_;rintro _ _ ⟨rfl,x,rfl⟩))
     go_ret
     exact Gives.mk (by rw[HD.out,HF.out,Bool.and_false];rfl)
    ·have c2:inB ex.Data.size 1 404=false:=by rw[flightOk,c1]at hg;exact hg
     clear hg
     go_wp2_with (first|(go_at_call 151;refine(c_sl01In).mono ?_;rintro _ _ ⟨rfl,x,rfl⟩))
     go_ret
     exact Gives.mk (by rw[HD.out,HF.out,Bool.and_false];rfl)
   ·have HF:=lH (show(l.drop (k+1)).all flightOk=l.all flightOk by have:=HV.out;rw[ehd.out,List.all_cons,hg,Bool.true_and]at this;exact this)
    have c1:inB ex.At 0 1000050=true:=by simp only[flightOk,Bool.and_eq_true]at hg;exact hg.1
    have c2:inB ex.Data.size 1 404=true:=by simp only[flightOk,Bool.and_eq_true]at hg;exact hg.2
    clear hg
    go_wp2_with (first|(go_at_call 151;refine(c_sl01In).mono ?_;rintro _ _ ⟨rfl,x,rfl⟩))
    go_roundw
    case rel=>exact⟨k+1,by go_num,by omega,HF,Later.of⟩
    case measure=>simp[intOf];omega
  ·have HF:=lH (show l.all flightOk=true by have:=HV.out;rw[List.drop_of_length_le (by have:=HN.out;omega)]at this;rw[← this];rfl)
   by_cases hmx:n≤1000
   ·have kx:decide ((n:Int)≤1000)=true:=by simp;omega
    go_wp2_with fail
    go_ret
    exact Gives.mk (by rw[HD.out,HF.out,decide_eq_true hmx];rfl)
   ·have kx:decide ((n:Int)≤1000)=false:=by simp;omega
    go_wp2_with fail
    go_ret
    exact Gives.mk (by rw[HD.out,HF.out,decide_eq_false hmx];rfl)
theorem k_srecordsOk{B:Nat}{a:Option Addr}{c:Nat}{l:List TRecord}{w:World}(hs:RdS B w a c l)(hm:l.length≤100000000) :
  Calls Tryz.prog 250 #[.slice a l.length c] w (Gives w (.bool (recordsOk l))):=by
 obtain⟨n,hn⟩:∃ n,l.length=n:=⟨_,rfl⟩
 have HN:=lH hn
 have HD:=lH (show recordsOk l=(decide (n≤5000) && l.all recordOk)by rw[recordsOk,hn])
 rw[hn]at hm ⊢
 clear hn
 go_enter Tryz.func250,Tryz.ntmps250
 go_wp2_with fail
 go_loopw [3] (fun v wr=>∃ k:Nat,v=.int .i64 k∧k≤n∧Hid ((l.drop k).all recordOk=l.all recordOk)∧∃ x:Later w,wr=x.w) (fun v _=>(n - intOf v).toNat)
 case atStart=>exact⟨0,rfl,by omega,rfl,Later.of⟩
 case round =>
  obtain⟨k,rfl,hk,HV,x,rfl⟩:=hrel
  by_cases h:k<n
  ·have hkl:k<l.length:=by have:=HN.out;omega
   obtain⟨eb,eoff,ex,rfl,ehb,ehd,eok,eh0,eh1,eh2,eh3⟩:=hs.atTRecord hkl
   have hz:ex.Data.size≤9223372036854775807:=eok.2.2.2.1
   have EOK:=lH eok;clear eok hkl
   cases hg:recordOk ex
   ·have HF:=lH (show l.all recordOk=false by have:=HV.out;rw[ehd.out,List.all_cons,hg]at this;rw[← this];rfl)
    go_wp2_with (first|(go_at_call 302;refine(k_sRecordOk (by omega)).mono ?_;rintro _ _ ⟨rfl,x,rfl⟩))
    go_ret
    exact Gives.mk (by rw[HD.out,HF.out,Bool.and_false];rfl)
   ·have HF:=lH (show(l.drop (k+1)).all recordOk=l.all recordOk by have:=HV.out;rw[ehd.out,List.all_cons,hg,Bool.true_and]at this;exact this)
    go_wp2_with (first|(go_at_call 302;refine(k_sRecordOk (by omega)).mono ?_;rintro _ _ ⟨rfl,x,rfl⟩))
    go_roundw
    case rel=>exact⟨k+1,by go_num,by omega,HF,Later.of⟩
    case measure=>simp[intOf];omega
  ·have HF:=lH (show l.all recordOk=true by have:=HV.out;rw[List.drop_of_length_le (by have:=HN.out;omega)]at this;rw[← this];rfl)
   by_cases hmx:n≤5000
   ·have kx:decide ((n:Int)≤5000)=true:=by simp;omega
    go_wp2_with fail
    go_ret
    exact Gives.mk (by rw[HD.out,HF.out,decide_eq_true hmx];rfl)
   ·have kx:decide ((n:Int)≤5000)=false:=by simp;omega
    go_wp2_with fail
    go_ret
    exact Gives.mk (by rw[HD.out,HF.out,decide_eq_false hmx];rfl)
end Go.Proofs.YtbaffippdifbpaaGreat
namespace Go.Proofs.YtbaffippdifbpaaGreat
set_option linter.unusedVariables false
open Go.ChangeShapes Go.WideShapes Go.ChangeAt Go.RowKit
def sentGood(next n:Int)(k:Nat)(x:TSent):Bool:=inB x.Data.size 1 40 && (x.Seq == (next - n+k+256) % 256)
def sentGo(next n:Int):Nat→List TSent→Bool
 | _,[]=>true
 | k,x::r=>sentGood next n k x && sentGo next n (k+1) r
def senderOk(s:TSender):Bool:=inB s.Next 0 255 && (inB s.Window 1 20 && (inB s.Done 0 1000000 && (decide ((s.Waiting.length:Int)≤s.Window) && sentGo s.Next s.Waiting.length 0 s.Waiting)))
theorem k_iSenderOk{B:Nat}{a:Option Addr}{c:Nat}{sd:TSender}{w:World}(hs:RdS B w a c sd.Waiting)(hm:sd.Waiting.length≤100000000)(hi:okDTSender sd) :
  Calls Tryz.prog 134 #[.agg #[.int .i64 sd.Next,.int .i64 sd.Window,.slice a sd.Waiting.length c,.int .i64 sd.Done]] w (Gives w (.bool (senderOk sd))):=by
 obtain⟨n,hn⟩:∃ n,sd.Waiting.length=n:=⟨_,rfl⟩
 have HN:=lH hn
 have HI:=lH hi;clear hi
 have HD:=lH (show senderOk sd=(inB sd.Next 0 255 && (inB sd.Window 1 20 && (inB sd.Done 0 1000000 && (decide ((n:Int)≤sd.Window) && sentGo sd.Next n 0 sd.Waiting))))by rw[senderOk,hn])
 rw[hn]at hm ⊢
 clear hn
 cases c0:inB sd.Next 0 255
 ·skip
  go_enter Tryz.func134,Tryz.ntmps134
  go_wp2_with (first|(go_at_call 127;refine(c_ibetween).mono ?_;rintro _ _ ⟨rfl,x,rfl⟩))
  go_ret
  exact Gives.mk (by rw[HD.out,c0];rfl)
 cases c1:inB sd.Window 1 20
 ·skip
  go_enter Tryz.func134,Tryz.ntmps134
  go_wp2_with (first|(go_at_call 127;refine(c_ibetween).mono ?_;rintro _ _ ⟨rfl,x,rfl⟩))
  go_ret
  exact Gives.mk (by rw[HD.out,c0,c1];rfl)
 cases c2:inB sd.Done 0 1000000
 ·skip
  go_enter Tryz.func134,Tryz.ntmps134
  go_wp2_with (first|(go_at_call 127;refine(c_ibetween).mono ?_;rintro _ _ ⟨rfl,x,rfl⟩))
  go_ret
  exact Gives.mk (by rw[HD.out,c0,c1,c2];rfl)
 have⟨hx1,hx2⟩:=inB_iff.1 c0
 have⟨hw1,hw2⟩:=inB_iff.1 c1
 by_cases hnw:(n:Int)≤sd.Window
 ·have kw:decide (sd.Window<(n:Int))=false:=by simp;omega
  have hn20:n≤20:=by omega
  have HD2:=lH (show senderOk sd=sentGo sd.Next n 0 sd.Waiting by rw[HD.out,c0,c1,c2,decide_eq_true hnw];rfl)
  clear HD
  go_enter Tryz.func134,Tryz.ntmps134
  go_wp2_with (first|(go_at_call 127;refine(c_ibetween).mono ?_;rintro _ _ ⟨rfl,x,rfl⟩))
  go_loopw [32] (fun v wr=>∃ k:Nat,v=.int .i64 k∧k≤n∧Hid (sentGo sd.Next n k (sd.Waiting.drop k)=sentGo sd.Next n 0 sd.Waiting)∧∃ X:Later (w.alloc (.cells #[.int .i64 sd.Next,.int .i64 sd.Window,.slice a n c,.int .i64 sd.Done] 35)),wr=X.w) (fun v _=>(n - intOf v).toNat)
  case atStart=>exact⟨0,rfl,by omega,rfl,Later.of⟩
  case round =>
   obtain⟨k,rfl,hk,HV,X,rfl⟩:=hrel
   by_cases h:k<n
   ·have hkl:k<sd.Waiting.length:=by have:=HN.out;omega
    obtain⟨eb,eoff,ex,rfl,ehb,ehd,eok,eh0,eh1⟩:=hs.atTSent hkl
    have hz:ex.Data.size≤9223372036854775807:=eok.2.1
    have EOK:=lH eok;clear eok hkl
    have EM:(sd.Next - n+k+256) % 256=(sd.Next - n+k) % 256:=Int.add_emod_right ..
    have EH:=lH EM;clear EM
    cases d1:inB ex.Data.size 1 40
    ·have HF:=lH (show senderOk sd=false by have:=HV.out;rw[ehd.out,sentGo,sentGood,d1]at this;rw[HD2.out,← this];rfl)
     cases d2:(ex.Seq == (sd.Next - n+k+256) % 256)
     ·have d3:(ex.Seq != (sd.Next - n+k+256) % 256)=true:=by rw[bne,d2];rfl
      go_wp2_with (first|(go_at_call 127;refine(c_ibetween).mono ?_;rintro _ _ ⟨rfl,x,rfl⟩))
      go_ret
      exact Gives.mk (by rw[HF.out];rfl)
     ·have d3:(ex.Seq != (sd.Next - n+k+256) % 256)=false:=by rw[bne,d2];rfl
      have D2:=lH d2;clear d2
      go_wp2_with (first|(go_at_call 127;refine(c_ibetween).mono ?_;rintro _ _ ⟨rfl,x,rfl⟩))
      go_ret
      exact Gives.mk (by rw[HF.out];rfl)
    ·cases d2:(ex.Seq == (sd.Next - n+k+256) % 256)
     ·have d3:(ex.Seq != (sd.Next - n+k+256) % 256)=true:=by rw[bne,d2];rfl
      have HF:=lH (show senderOk sd=false by have:=HV.out;rw[ehd.out,sentGo,sentGood,d1,d2]at this;rw[HD2.out,← this];rfl)
      go_wp2_with (first|(go_at_call 127;refine(c_ibetween).mono ?_;rintro _ _ ⟨rfl,x,rfl⟩))
      go_ret
      exact Gives.mk (by rw[HF.out];rfl)
     ·have d3:(ex.Seq != (sd.Next - n+k+256) % 256)=false:=by rw[bne,d2];rfl
      have HF:=lH (show sentGo sd.Next n (k+1) (sd.Waiting.drop (k+1))=sentGo sd.Next n 0 sd.Waiting by have:=HV.out;rw[ehd.out,sentGo,sentGood,d1,d2]at this;exact this)
      have D2:=lH d2;clear d2
      go_wp2_with (first|(go_at_call 127;refine(c_ibetween).mono ?_;rintro _ _ ⟨rfl,x,rfl⟩))
      go_roundw
      case rel=>exact⟨k+1,by go_num,by omega,HF,Later.of⟩
      case measure=>simp[intOf];omega
   ·have HF:=lH (show senderOk sd=true by have:=HV.out;rw[List.drop_of_length_le (by have:=HN.out;omega),sentGo]at this;rw[HD2.out,← this])
    go_wp2_with fail
    go_ret
    exact Gives.mk (by rw[HF.out];rfl)
 ·have kw:decide (sd.Window<(n:Int))=true:=by simp;omega
  have HD2:=lH (show senderOk sd=false by rw[HD.out,c0,c1,c2,decide_eq_false hnw];rfl)
  clear HD
  go_enter Tryz.func134,Tryz.ntmps134
  go_wp2_with (first|(go_at_call 127;refine(c_ibetween).mono ?_;rintro _ _ ⟨rfl,x,rfl⟩))
  go_ret
  exact Gives.mk (by rw[HD2.out];rfl)
theorem k_sSenderOk{B:Nat}{a:Option Addr}{c:Nat}{sd:TSender}{w:World}(hs:RdS B w a c sd.Waiting)(hm:sd.Waiting.length≤100000000)(hi:okDTSender sd) :
  Calls Tryz.prog 153 #[.agg #[.int .i64 sd.Next,.int .i64 sd.Window,.slice a sd.Waiting.length c,.int .i64 sd.Done]] w (Gives w (.bool (senderOk sd))):=by
 obtain⟨n,hn⟩:∃ n,sd.Waiting.length=n:=⟨_,rfl⟩
 have HN:=lH hn
 have HI:=lH hi;clear hi
 have HD:=lH (show senderOk sd=(inB sd.Next 0 255 && (inB sd.Window 1 20 && (inB sd.Done 0 1000000 && (decide ((n:Int)≤sd.Window) && sentGo sd.Next n 0 sd.Waiting))))by rw[senderOk,hn])
 rw[hn]at hm ⊢
 clear hn
 cases c0:inB sd.Next 0 255
 ·skip
  go_enter Tryz.func153,Tryz.ntmps153
  go_wp2_with (first|(go_at_call 151;refine(c_sl01In).mono ?_;rintro _ _ ⟨rfl,x,rfl⟩))
  go_ret
  exact Gives.mk (by rw[HD.out,c0];rfl)
 cases c1:inB sd.Window 1 20
 ·skip
  go_enter Tryz.func153,Tryz.ntmps153
  go_wp2_with (first|(go_at_call 151;refine(c_sl01In).mono ?_;rintro _ _ ⟨rfl,x,rfl⟩))
  go_ret
  exact Gives.mk (by rw[HD.out,c0,c1];rfl)
 cases c2:inB sd.Done 0 1000000
 ·skip
  go_enter Tryz.func153,Tryz.ntmps153
  go_wp2_with (first|(go_at_call 151;refine(c_sl01In).mono ?_;rintro _ _ ⟨rfl,x,rfl⟩))
  go_ret
  exact Gives.mk (by rw[HD.out,c0,c1,c2];rfl)
 have⟨hx1,hx2⟩:=inB_iff.1 c0
 have⟨hw1,hw2⟩:=inB_iff.1 c1
 by_cases hnw:(n:Int)≤sd.Window
 ·have kw:decide (sd.Window<(n:Int))=false:=by simp;omega
  have hn20:n≤20:=by omega
  have HD2:=lH (show senderOk sd=sentGo sd.Next n 0 sd.Waiting by rw[HD.out,c0,c1,c2,decide_eq_true hnw];rfl)
  clear HD
  go_enter Tryz.func153,Tryz.ntmps153
  go_wp2_with (first|(go_at_call 151;refine(c_sl01In).mono ?_;rintro _ _ ⟨rfl,x,rfl⟩))
  go_loopw [4] (fun v wr=>∃ k:Nat,v=.int .i64 k∧k≤n∧Hid (sentGo sd.Next n k (sd.Waiting.drop k)=sentGo sd.Next n 0 sd.Waiting)∧∃ X:Later (w.alloc (.cells #[.int .i64 sd.Next,.int .i64 sd.Window,.slice a n c,.int .i64 sd.Done] 35)),wr=X.w) (fun v _=>(n - intOf v).toNat)
  case atStart=>exact⟨0,rfl,by omega,rfl,Later.of⟩
  case round =>
   obtain⟨k,rfl,hk,HV,X,rfl⟩:=hrel
   by_cases h:k<n
   ·have hkl:k<sd.Waiting.length:=by have:=HN.out;omega
    obtain⟨eb,eoff,ex,rfl,ehb,ehd,eok,eh0,eh1⟩:=hs.atTSent hkl
    have hz:ex.Data.size≤9223372036854775807:=eok.2.1
    have EOK:=lH eok;clear eok hkl
    have EM:(sd.Next - n+k+256) % 256=(sd.Next - n+k) % 256:=Int.add_emod_right ..
    have EH:=lH EM;clear EM
    cases d1:inB ex.Data.size 1 40
    ·have HF:=lH (show senderOk sd=false by have:=HV.out;rw[ehd.out,sentGo,sentGood,d1]at this;rw[HD2.out,← this];rfl)
     cases d2:(ex.Seq == (sd.Next - n+k) % 256)
     ·have d3:(ex.Seq != (sd.Next - n+k) % 256)=true:=by rw[bne,d2];rfl
      go_wp2_with (first|(go_at_call 151;refine(c_sl01In).mono ?_;rintro _ _ ⟨rfl,x,rfl⟩))
      go_ret
      exact Gives.mk (by rw[HF.out];rfl)
     ·have d3:(ex.Seq != (sd.Next - n+k) % 256)=false:=by rw[bne,d2];rfl
      have D2:=lH d2;clear d2
      go_wp2_with (first|(go_at_call 151;refine(c_sl01In).mono ?_;rintro _ _ ⟨rfl,x,rfl⟩))
      go_ret
      exact Gives.mk (by rw[HF.out];rfl)
    ·cases d2:(ex.Seq == (sd.Next - n+k) % 256)
     ·have d3:(ex.Seq != (sd.Next - n+k) % 256)=true:=by rw[bne,d2];rfl
      have HF:=lH (show senderOk sd=false by have:=HV.out;rw[ehd.out,sentGo,sentGood,EH.out,d1,d2]at this;rw[HD2.out,← this];rfl)
      go_wp2_with (first|(go_at_call 151;refine(c_sl01In).mono ?_;rintro _ _ ⟨rfl,x,rfl⟩))
      go_ret
      exact Gives.mk (by rw[HF.out];rfl)
     ·have d3:(ex.Seq != (sd.Next - n+k) % 256)=false:=by rw[bne,d2];rfl
      have HF:=lH (show sentGo sd.Next n (k+1) (sd.Waiting.drop (k+1))=sentGo sd.Next n 0 sd.Waiting by have:=HV.out;rw[ehd.out,sentGo,sentGood,EH.out,d1,d2]at this;exact this)
      have D2:=lH d2;clear d2
      go_wp2_with (first|(go_at_call 151;refine(c_sl01In).mono ?_;rintro _ _ ⟨rfl,x,rfl⟩))
      go_roundw
      case rel=>exact⟨k+1,by go_num,by omega,HF,Later.of⟩
      case measure=>simp[intOf];omega
   ·have HF:=lH (show senderOk sd=true by have:=HV.out;rw[List.drop_of_length_le (by have:=HN.out;omega),sentGo]at this;rw[HD2.out,← this])
    go_wp2_with fail
    go_ret
    exact Gives.mk (by rw[HF.out];rfl)
 ·have kw:decide (sd.Window<(n:Int))=true:=by simp;omega
  have HD2:=lH (show senderOk sd=false by rw[HD.out,c0,c1,c2,decide_eq_false hnw];rfl)
  clear HD
  go_enter Tryz.func153,Tryz.ntmps153
  go_wp2_with (first|(go_at_call 151;refine(c_sl01In).mono ?_;rintro _ _ ⟨rfl,x,rfl⟩))
  go_ret
  exact Gives.mk (by rw[HD2.out];rfl)
end Go.Proofs.YtbaffippdifbpaaGreat
namespace Go.Proofs.YtbaffippdifbpaaGreat
set_option linter.unusedVariables false
open Go.ChangeShapes Go.WideShapes Go.ChangeAt Go.RowKit
section
variable {P:Program} {ops:Array Oper} {op:Oper} {a:Act} {w:World} {Q:Exit→Act→World→Prop} {S:World→Prop} {md:Region.Mode} {fuel:Nat} {listed:Array Bool} {i j:Nat}
end
end Go.Proofs.YtbaffippdifbpaaGreat
