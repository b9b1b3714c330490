/- A slice put in the place of another one, in data of the call's own. -/
import Derived.Test.YtdoilejecjaldaaGreatHOwnS
import Derived.Test.YtdoilejecjaldaaGreatHM41
namespace Go.Proofs.YtdoilejecjaldaaGreat
set_option linter.unusedVariables false
open Go.ChangeShapes Go.WideShapes Go.ChangeAt Go.RowKit
theorem Fr.old{B U:Nat}{χ χ2:Nat→Col}{f:Col→Col}{C:Col→Prop}{w w':World}(h:Fr B χ C w w')(g:w.heap.size≤U):Fr B (E9 U χ χ2 f) C w w' :=
 ⟨h.os,h.tape,h.output,h.size,fun b hb hn=>h.block b hb (fun e=>hn ⟨e.1,by rw[E9,if_pos (by omega)];exact e.2⟩)⟩
theorem b8.more{B B':Nat}{w w':World}(h:b8 B w w')(g:B≤B'):b8 B' w w':=⟨h.size,fun b h1 h2=>h.block b (Nat.le_trans g h1) h2⟩
theorem Fr.keepsU{B U:Nat}{χ:Nat→Col}{C:Col→Prop}{w w':World}(h:Fr B (E9 U χ (fun _=>(0,0)) (fun _=>(1000,0))) C w w')(hC:¬ C (1000,0)):b8 U w w' :=
 ⟨h.size,fun b h1 h2=>h.block b h2 (fun e=>hC (by have:=e.2;rwa[E9,if_neg (by omega)]at this))⟩
theorem ay2{U:Nat}{χ:Nat→Col}{w:World}(h:U≤w.heap.size):ap5 (E9 U χ (fun _=>(0,0)) (fun _=>(1000,0))) w:=fun b hb=>by rw[E9,if_neg (by omega)];exact Nat.le_refl _
theorem b8.ofU{U:Nat}{w w':World}(h:b8 U w w'):∀ b cs T,U≤b→i9 w b cs T→i9 w' b cs T:=fun b cs T hb H=>by
 unfold i9
 rw[h.block b hb H.lt];exact H
theorem I1.put1{B o:Nat}{χ:Nat→Col}{w w2:World}{A:I9}{x:f5}(h:I1 B χ o w A x){a:Option Addr}{c:Nat}{l:List s6}(f:Fr B χ (·=(o+1,0)) w w2)(k:D0 B χ (o+1,0) w2 a c l):I1 B χ o w2 { A with a1:=a,c1:=c } { x with Ups:=l } :=
 ⟨h.o0.fr f (by simp),k,h.o2.fr f (by simp),h.o3.fr f (by simp),h.o4.fr f (by simp),h.o5.fr f (by simp),h.o6.fr f (by simp),h.o7.elim fun r hr=>⟨r,hr.1,hr.2.fr f (by simp)⟩,h.o8.fr f (by simp),h.o9.fr f (by simp),h.o10.fr f (by simp),h.o11.fr f (by simp),h.o12.fr f (by simp),h.o13.fr f (by simp),h.o14.fr f (by simp),h.o15.fr f (by simp),h.o16.fr f (by simp),h.o17.fr f (by simp),h.o18.elim fun r hr=>⟨r,hr.1,hr.2.fr f (by simp)⟩,h.o19.fr f (by simp),h.o20.fr f (by simp),h.o21.fr f (by simp),h.ok⟩
theorem I1.put21{B o:Nat}{χ:Nat→Col}{w w2:World}{A:I9}{x:f5}(h:I1 B χ o w A x){a:Option Addr}{c:Nat}{l:List ByteArray}(f:Fr B χ (·=(o+21,0)) w w2)(k:D0 B χ (o+21,0) w2 a c l):I1 B χ o w2 { A with a21:=a,c21:=c } { x with Took:=l } :=
 ⟨h.o0.fr f (by simp),h.o1.fr f (by simp),h.o2.fr f (by simp),h.o3.fr f (by simp),h.o4.fr f (by simp),h.o5.fr f (by simp),h.o6.fr f (by simp),h.o7.elim fun r hr=>⟨r,hr.1,hr.2.fr f (by simp)⟩,h.o8.fr f (by simp),h.o9.fr f (by simp),h.o10.fr f (by simp),h.o11.fr f (by simp),h.o12.fr f (by simp),h.o13.fr f (by simp),h.o14.fr f (by simp),h.o15.fr f (by simp),h.o16.fr f (by simp),h.o17.fr f (by simp),h.o18.elim fun r hr=>⟨r,hr.1,hr.2.fr f (by simp)⟩,h.o19.fr f (by simp),h.o20.fr f (by simp),k,h.ok⟩
