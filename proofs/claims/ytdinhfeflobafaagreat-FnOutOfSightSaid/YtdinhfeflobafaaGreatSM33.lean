/- Marks in slices of flat elements of a colour. No condition but on lengths and numbers. Marks in slices of files: the outer cells, then the slice within. No condition but on lengths and numbers. -/
import Derived.Test.YtdinhfeflobafaaGreatSM27
import Derived.Test.YtdinhfeflobafaaGreatSLto3
import Derived.Test.YtdinhfeflobafaaGreatSM29
import Derived.Test.YtdinhfeflobafaaGreatSOwnS
namespace Go.Proofs.YtdinhfeflobafaaGreat
set_option linter.unusedVariables false
open Go.ChangeShapes Go.WideShapes Go.ChangeAt Go.RowKit
class MarkF(α:Type)[E:Flat α] where
 one:Int→Nat→α
 good:∀ k i,0≤k→k≤1000000000000→i≤100000000→E.good (one k i)
section
variable {α:Type} [E:Flat α] [M:MarkF α]
end
theorem digs_size:∀ (k:Nat) (acc:ByteArray),(digs k acc).size≤acc.size+k
 | 0,acc=>by rw[digs,dif_pos rfl];omega
 | k+1,acc=>by
  rw[digs,dif_neg (by omega)]
  have:=digs_size ((k+1) / 10) (strOfNums [48+((k+1:Nat):Int) % 10]++acc)
  rw[ByteArray.size_append,show(strOfNums [48+((k+1:Nat):Int) % 10]).size=1 by simp[strOfNums_size]]at this
  omega
termination_by k=>k
decreasing_by omega
theorem markTx_size{k:Int}(h0:0≤k)(h:k≤2000000000000):(markTx k).size≤9223372036854775807:=by
 unfold markTx
 split
 ·decide
 ·have:=digs_size k.toNat ⟨#[]⟩
  rw[ByteArray.size_append]
  have h1:(⟨#[109]⟩:ByteArray).size=1:=rfl
  have h2:(⟨#[]⟩:ByteArray).size=0:=rfl
  omega
theorem mkStr_size(k:Int)(i:Nat)(h0:0≤k)(h1:k≤1000000000000)(h2:i≤100000000):(mkStr k i).size≤9223372036854775807:=markTx_size (by omega) (by omega)
instance MarkF.iInt:MarkF Int where
 one:=mkInt
 good:=fun k i h0 h1 h2=>by show i64 (k+i);unfold i64;omega
def mkBoo(k0:Int)(i:Nat):Bool:=decide ((k0+i) % 3=0)
instance MarkF.iBool:MarkF Bool where
 one:=mkBoo
 good:=fun k i h0 h1 h2=>trivial
instance MarkF.iByteArray:MarkF ByteArray where
 one:=mkStr
 good:=fun k i h0 h1 h2=>mkStr_size _ _ h0 h1 h2
instance MarkF.iSlot:MarkF Slot where
 one:=mkSlot
 good:=fun k i h0 h1 h2=>by
  show okDSlot (mkSlot k i)
  refine⟨?_,?_,trivial⟩<;>first|(unfold i64 mkSlot;dsimp only;omega)|(unfold mkSlot;dsimp only;exact markTx_size (by omega) (by omega))
instance MarkF.iPair:MarkF Pair where
 one:=mkPair
 good:=fun k i h0 h1 h2=>by
  show okDPair (mkPair k i)
  refine⟨?_,?_,trivial⟩<;>first|(unfold i64 mkPair;dsimp only;omega)|(unfold mkPair;dsimp only;exact markTx_size (by omega) (by omega))
instance MarkF.iTFlight:MarkF TFlight where
 one:=mkTFlight
 good:=fun k i h0 h1 h2=>by
  show okDTFlight (mkTFlight k i)
  refine⟨?_,?_,trivial⟩<;>first|(unfold i64 mkTFlight;dsimp only;omega)|(unfold mkTFlight;dsimp only;exact markTx_size (by omega) (by omega))
instance MarkF.iTRecord:MarkF TRecord where
 one:=mkTRecord
 good:=fun k i h0 h1 h2=>by
  show okDTRecord (mkTRecord k i)
  refine⟨?_,?_,?_,?_,trivial⟩<;>first|(unfold i64 mkTRecord;dsimp only;omega)|(unfold mkTRecord;dsimp only;exact markTx_size (by omega) (by omega))
instance MarkF.iTWaiting:MarkF TWaiting where
 one:=mkTWaiting
 good:=fun k i h0 h1 h2=>by
  show okDTWaiting (mkTWaiting k i)
  refine⟨?_,⟨?_,?_,?_,?_,trivial⟩,trivial⟩<;>first|(unfold i64 mkTWaiting;dsimp only;omega)|(unfold mkTWaiting;dsimp only;exact markTx_size (by omega) (by omega))
instance MarkF.iTLimit:MarkF TLimit where
 one:=mkTLimit
 good:=fun k i h0 h1 h2=>by
  show okDTLimit (mkTLimit k i)
  refine⟨?_,?_,?_,trivial⟩<;>first|(unfold i64 mkTLimit;dsimp only;omega)|(unfold mkTLimit;dsimp only;exact markTx_size (by omega) (by omega))
instance MarkF.iTDone:MarkF TDone where
 one:=mkTDone
 good:=fun k i h0 h1 h2=>by
  show okDTDone (mkTDone k i)
  refine⟨?_,?_,?_,trivial⟩<;>first|(unfold i64 mkTDone;dsimp only;omega)|(unfold mkTDone;dsimp only;exact markTx_size (by omega) (by omega))
instance MarkF.iTSent:MarkF TSent where
 one:=mkTSent
 good:=fun k i h0 h1 h2=>by
  show okDTSent (mkTSent k i)
  refine⟨?_,?_,trivial⟩<;>first|(unfold i64 mkTSent;dsimp only;omega)|(unfold mkTSent;dsimp only;exact markTx_size (by omega) (by omega))
section
variable {α β:Type} [N:Nest α β] [F:Flat β] {B o g c j:Nat} {χ:Nat→Col} {w W3 w4:World} {rows:List (NRow α)} {r:NRow α} {x:α}
theorem OwnN.wrote(h:OwnN B χ o w (some ⟨g,0,none⟩) c rows)(hg:w.grownBy W3 (some g)):Fr B χ (·=(o,0)) w W3 :=
 ⟨hg.os,hg.tape,hg.output,hg.size,fun b h2 h3=>hg.block b h2 (fun e=>h3 ⟨by cases e;exact(h.own.blk g rfl).1,by cases e;exact h.col g rfl⟩)⟩
theorem totL_app{γ:Type}[Enc γ]:∀ (p q:List γ),totL (p++q)=totL p+totL q
 | [],q=>by simp[totL]
 | x::p,q=>by simp only[List.cons_append,totL,totL_app p q];omega
theorem flatMap_set{γ:Type}{enc:γ→List Value}{size:Nat}(hsz:∀ x:γ,(enc x).length=size){y:γ}{i:Nat}{v:Value}(hi:i<size):∀ (l:List γ) (j:Nat) (x:γ),l[j]?=some x→enc y=(enc x).set i v→(l.flatMap enc).set (j*size+i) v=(l.set j y).flatMap enc
 | [],j,x,h,_=>by simp at h
 | z::l,0,x,h,hy=>by
  simp only[List.getElem?_cons_zero,Option.some.injEq]at h
  subst h
  simp only[List.flatMap_cons,List.set_cons_zero,Nat.zero_mul,Nat.zero_add]
  rw[List.set_append_left _ _ (by rw[hsz];exact hi),hy]
 | z::l,j+1,x,h,hy=>by
  simp only[List.flatMap_cons,List.set_cons_succ]
  rw[List.set_append_right _ _ (by rw[hsz,Nat.succ_mul];omega),hsz,show(j+1)*size+i - size=j*size+i by rw[Nat.succ_mul];omega,flatMap_set hsz hi l j x (by simpa using h) hy]
theorem OwnN.setCell{i:Nat}{v:Value}(h:OwnN B χ o w (some ⟨g,0,none⟩) c rows)(hr:rows[j]?=some r)(hi:i<N.size)(henc:N.cells x r.a r.c=(N.cells r.x r.a r.c).set i v)(hin:N.inner x=N.inner r.x)(hgd:N.good x) :
  OwnN B χ o (w.setCell ⟨g,j*N.size+i,none⟩ v) (some ⟨g,0,none⟩) c (rows.set j ⟨x,r.a,r.c⟩)∧w.grownBy (w.setCell ⟨g,j*N.size+i,none⟩ v) (some g):=by
 have hj:j<rows.length:=(List.getElem?_eq_some_iff.1 hr).1
 have s0:=(h.own.2).stored (j*N.size+i) v
 have hO:Own (encN (α:=α)) N.ty N.size B (w.setCell ⟨g,j*N.size+i,none⟩ v) (some ⟨g,0,none⟩) c (rows.set j ⟨x,r.a,r.c⟩):=by
  refine⟨h.own.1,?_⟩
  rw[← flatMap_set (y:=(⟨x,r.a,r.c⟩:NRow α)) h.own.1 hi rows j r hr (show encN (⟨x,r.a,r.c⟩:NRow α)=(encN r).set i v from henc),List.length_set]
  exact s0.1
 have F:=h.wrote s0.2
 refine⟨⟨hO,h.col,fun q s hs=>?_⟩,s0.2⟩
 by_cases hq:q=j
 ·subst hq
  rw[List.getElem?_set_self hj]at hs
  cases hs
  refine⟨hgd,?_⟩
  show OwnC B χ (o,q+1) _ r.a r.c (N.inner x)
  rw[hin]
  exact((h.each q r hr).2).fr F (by simp)
 ·rw[List.getElem?_set_ne (by omega)]at hs
  obtain⟨h1,h2⟩:=h.each q s hs
  exact⟨h1,h2.fr F (by simp)⟩
end
def Rng(a b:Nat):Col→Prop:=fun i=>a≤i.1∧i.1<b
theorem Rng.out{a b j k:Nat}(h:j<a∨b≤j):¬ Rng a b (j,k):=fun e=>by have h1:a≤j:=e.1;have h2:j<b:=e.2;omega
def Fresh(χ:Nat→Col)(w:World):Prop:=∀ b,w.heap.size≤b→1000≤(χ b).1
theorem Fresh.mono{χ:Nat→Col}{w w':World}(h:Fresh χ w)(g:w.heap.size≤w'.heap.size):Fresh χ w':=fun b hb=>h b (Nat.le_trans g hb)
section
variable {B:Nat} {χ:Nat→Col} {w w1 w2:World} {a b c j:Nat}
end
theorem Fr.old{B U:Nat}{χ χ2:Nat→Col}{f:Col→Col}{C:Col→Prop}{w w':World}(h:Fr B χ C w w')(g:w.heap.size≤U):Fr B (paint U χ χ2 f) C w w' :=
 ⟨h.os,h.tape,h.output,h.size,fun b hb hn=>h.block b hb (fun e=>hn ⟨e.1,by rw[paint,if_pos (by omega)];exact e.2⟩)⟩
theorem Keeps.more{B B':Nat}{w w':World}(h:Keeps B w w')(g:B≤B'):Keeps B' w w':=⟨h.size,fun b h1 h2=>h.block b (Nat.le_trans g h1) h2⟩
theorem Fr.keepsU{B U:Nat}{χ:Nat→Col}{C:Col→Prop}{w w':World}(h:Fr B (paint U χ (fun _=>(0,0)) (fun _=>(1000,0))) C w w')(hC:¬ C (1000,0)):Keeps U w w' :=
 ⟨h.size,fun b h1 h2=>h.block b h2 (fun e=>hC (by have:=e.2;rwa[paint,if_neg (by omega)]at this))⟩
theorem freshU{U:Nat}{χ:Nat→Col}{w:World}(h:U≤w.heap.size):Fresh (paint U χ (fun _=>(0,0)) (fun _=>(1000,0))) w:=fun b hb=>by rw[paint,if_neg (by omega)];exact Nat.le_refl _
theorem Keeps.ofU{U:Nat}{w w':World}(h:Keeps U w w'):∀ b cs T,U≤b→Held w b cs T→Held w' b cs T:=fun b cs T hb H=>by
 unfold Held
 rw[h.block b hb H.lt];exact H
theorem TMissionO.put1{B o:Nat}{χ:Nat→Col}{w w2:World}{A:TMissionA}{x:TMission}(h:TMissionO B χ o w A x){a:Option Addr}{c:Nat}{l:List TFlight}(f:Fr B χ (·=(o+1,0)) w w2)(k:OwnC B χ (o+1,0) w2 a c l):TMissionO B χ o w2 { A with a1:=a,c1:=c } { x with Ups:=l } :=
 ⟨h.o0.fr f (by simp),k,h.o2.fr f (by simp),h.o3.fr f (by simp),h.o4.fr f (by simp),h.o5.fr f (by simp),h.o6.fr f (by simp),h.o7.elim fun r hr=>⟨r,hr.1,hr.2.fr f (by simp)⟩,h.o8.fr f (by simp),h.o9.fr f (by simp),h.o10.fr f (by simp),h.o11.fr f (by simp),h.o12.fr f (by simp),h.o13.fr f (by simp),h.o14.fr f (by simp),h.o15.fr f (by simp),h.o16.fr f (by simp),h.o17.fr f (by simp),h.o18.elim fun r hr=>⟨r,hr.1,hr.2.fr f (by simp)⟩,h.o19.fr f (by simp),h.o20.fr f (by simp),h.o21.fr f (by simp),h.ok⟩
theorem TMissionO.put2{B o:Nat}{χ:Nat→Col}{w w2:World}{A:TMissionA}{x:TMission}(h:TMissionO B χ o w A x){a:Option Addr}{c:Nat}{l:List TFlight}(f:Fr B χ (·=(o+2,0)) w w2)(k:OwnC B χ (o+2,0) w2 a c l):TMissionO B χ o w2 { A with a2:=a,c2:=c } { x with Downs:=l } :=
 ⟨h.o0.fr f (by simp),h.o1.fr f (by simp),k,h.o3.fr f (by simp),h.o4.fr f (by simp),h.o5.fr f (by simp),h.o6.fr f (by simp),h.o7.elim fun r hr=>⟨r,hr.1,hr.2.fr f (by simp)⟩,h.o8.fr f (by simp),h.o9.fr f (by simp),h.o10.fr f (by simp),h.o11.fr f (by simp),h.o12.fr f (by simp),h.o13.fr f (by simp),h.o14.fr f (by simp),h.o15.fr f (by simp),h.o16.fr f (by simp),h.o17.fr f (by simp),h.o18.elim fun r hr=>⟨r,hr.1,hr.2.fr f (by simp)⟩,h.o19.fr f (by simp),h.o20.fr f (by simp),h.o21.fr f (by simp),h.ok⟩
theorem TMissionO.put3{B o:Nat}{χ:Nat→Col}{w w2:World}{A:TMissionA}{x:TMission}(h:TMissionO B χ o w A x){a:Option Addr}{c:Nat}{l:List ByteArray}(f:Fr B χ (·=(o+3,0)) w w2)(k:OwnC B χ (o+3,0) w2 a c l):TMissionO B χ o w2 { A with a3:=a,c3:=c } { x with Ground.Offers:=l } :=
 ⟨h.o0.fr f (by simp),h.o1.fr f (by simp),h.o2.fr f (by simp),k,h.o4.fr f (by simp),h.o5.fr f (by simp),h.o6.fr f (by simp),h.o7.elim fun r hr=>⟨r,hr.1,hr.2.fr f (by simp)⟩,h.o8.fr f (by simp),h.o9.fr f (by simp),h.o10.fr f (by simp),h.o11.fr f (by simp),h.o12.fr f (by simp),h.o13.fr f (by simp),h.o14.fr f (by simp),h.o15.fr f (by simp),h.o16.fr f (by simp),h.o17.fr f (by simp),h.o18.elim fun r hr=>⟨r,hr.1,hr.2.fr f (by simp)⟩,h.o19.fr f (by simp),h.o20.fr f (by simp),h.o21.fr f (by simp),h.ok⟩
theorem TMissionO.put8{B o:Nat}{χ:Nat→Col}{w w2:World}{A:TMissionA}{x:TMission}(h:TMissionO B χ o w A x){a:Option Addr}{c:Nat}{l:List Bool}(f:Fr B χ (·=(o+8,0)) w w2)(k:OwnC B χ (o+8,0) w2 a c l):TMissionO B χ o w2 { A with a8:=a,c8:=c } { x with Ground.Told:=l } :=
 ⟨h.o0.fr f (by simp),h.o1.fr f (by simp),h.o2.fr f (by simp),h.o3.fr f (by simp),h.o4.fr f (by simp),h.o5.fr f (by simp),h.o6.fr f (by simp),h.o7.elim fun r hr=>⟨r,hr.1,hr.2.fr f (by simp)⟩,k,h.o9.fr f (by simp),h.o10.fr f (by simp),h.o11.fr f (by simp),h.o12.fr f (by simp),h.o13.fr f (by simp),h.o14.fr f (by simp),h.o15.fr f (by simp),h.o16.fr f (by simp),h.o17.fr f (by simp),h.o18.elim fun r hr=>⟨r,hr.1,hr.2.fr f (by simp)⟩,h.o19.fr f (by simp),h.o20.fr f (by simp),h.o21.fr f (by simp),h.ok⟩
theorem TMissionO.put15{B o:Nat}{χ:Nat→Col}{w w2:World}{A:TMissionA}{x:TMission}(h:TMissionO B χ o w A x){a:Option Addr}{c:Nat}{l:List Int}(f:Fr B χ (·=(o+15,0)) w w2)(k:OwnC B χ (o+15,0) w2 a c l):TMissionO B χ o w2 { A with a15:=a,c15:=c } { x with Space.Board.Asked:=l } :=
 ⟨h.o0.fr f (by simp),h.o1.fr f (by simp),h.o2.fr f (by simp),h.o3.fr f (by simp),h.o4.fr f (by simp),h.o5.fr f (by simp),h.o6.fr f (by simp),h.o7.elim fun r hr=>⟨r,hr.1,hr.2.fr f (by simp)⟩,h.o8.fr f (by simp),h.o9.fr f (by simp),h.o10.fr f (by simp),h.o11.fr f (by simp),h.o12.fr f (by simp),h.o13.fr f (by simp),h.o14.fr f (by simp),k,h.o16.fr f (by simp),h.o17.fr f (by simp),h.o18.elim fun r hr=>⟨r,hr.1,hr.2.fr f (by simp)⟩,h.o19.fr f (by simp),h.o20.fr f (by simp),h.o21.fr f (by simp),h.ok⟩
theorem TMissionO.put20{B o:Nat}{χ:Nat→Col}{w w2:World}{A:TMissionA}{x:TMission}(h:TMissionO B χ o w A x){a:Option Addr}{c:Nat}{l:List ByteArray}(f:Fr B χ (·=(o+20,0)) w w2)(k:OwnC B χ (o+20,0) w2 a c l):TMissionO B χ o w2 { A with a20:=a,c20:=c } { x with Offered:=l } :=
 ⟨h.o0.fr f (by simp),h.o1.fr f (by simp),h.o2.fr f (by simp),h.o3.fr f (by simp),h.o4.fr f (by simp),h.o5.fr f (by simp),h.o6.fr f (by simp),h.o7.elim fun r hr=>⟨r,hr.1,hr.2.fr f (by simp)⟩,h.o8.fr f (by simp),h.o9.fr f (by simp),h.o10.fr f (by simp),h.o11.fr f (by simp),h.o12.fr f (by simp),h.o13.fr f (by simp),h.o14.fr f (by simp),h.o15.fr f (by simp),h.o16.fr f (by simp),h.o17.fr f (by simp),h.o18.elim fun r hr=>⟨r,hr.1,hr.2.fr f (by simp)⟩,h.o19.fr f (by simp),k,h.o21.fr f (by simp),h.ok⟩
end Go.Proofs.YtdinhfeflobafaaGreat
