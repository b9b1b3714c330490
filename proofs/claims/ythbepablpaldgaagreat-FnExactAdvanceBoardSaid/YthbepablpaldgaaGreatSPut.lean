/- A slice put in the place of another one, in data of the call's own. -/
import Derived.Test.YthbepablpaldgaaGreatSOwnS
import Derived.Test.YthbepablpaldgaaGreatSM35
namespace Go.Proofs.YthbepablpaldgaaGreat
set_option linter.unusedVariables false
open Go.ChangeShapes Go.WideShapes Go.ChangeAt Go.RowKit
theorem Fr.old{B U:Nat}{χ χ2:Nat→Col}{f:Col→Col}{C:Col→Prop}{w w':World}(h:Fr B χ C w w')(g:w.heap.size≤U):Fr B (paint U χ χ2 f) C w w' :=
 ⟨h.os,h.tape,h.output,h.size,fun b hb hn=>h.block b hb (fun e=>hn ⟨e.1,by rw[paint,if_pos (by omega)];exact e.2⟩)⟩
theorem Keeps.more{B B':Nat}{w w':World}(h:Keeps B w w')(g:B≤B'):Keeps B' w w':=⟨h.size,fun b h1 h2=>h.block b (Nat.le_trans g h1) h2⟩
theorem Fr.keepsU{B U:Nat}{χ:Nat→Col}{C:Col→Prop}{w w':World}(h:Fr B (paint U χ (fun _=>(0,0)) (fun _=>(1000,0))) C w w')(hC:¬ C (1000,0)):Keeps U w w' :=
 ⟨h.size,fun b h1 h2=>h.block b h2 (fun e=>hC (by have:=e.2;rwa[paint,if_neg (by omega)]at this))⟩
theorem freshU{U:Nat}{χ:Nat→Col}{w:World}(h:U≤w.heap.size):Fresh (paint U χ (fun _=>(0,0)) (fun _=>(1000,0))) w:=fun b hb=>by rw[paint,if_neg (by omega)];exact Nat.le_refl _
theorem Keeps.ofU{U:Nat}{w w':World}(h:Keeps U w w'):∀ b cs T,U≤b→Held w b cs T→Held w' b cs T:=fun b cs T hb H=>by
 unfold Held
 rw[h.block b hb H.lt];exact H
theorem TMissionO.put15{B o:Nat}{χ:Nat→Col}{w w2:World}{A:TMissionA}{x:TMission}(h:TMissionO B χ o w A x){a:Option Addr}{c:Nat}{l:List Int}(f:Fr B χ (·=(o+15,0)) w w2)(k:OwnC B χ (o+15,0) w2 a c l):TMissionO B χ o w2 { A with a15:=a,c15:=c } { x with Space.Board.Asked:=l } :=
 ⟨h.o0.fr f (by simp),h.o1.fr f (by simp),h.o2.fr f (by simp),h.o3.fr f (by simp),h.o4.fr f (by simp),h.o5.fr f (by simp),h.o6.fr f (by simp),h.o7.elim fun r hr=>⟨r,hr.1,hr.2.fr f (by simp)⟩,h.o8.fr f (by simp),h.o9.fr f (by simp),h.o10.fr f (by simp),h.o11.fr f (by simp),h.o12.fr f (by simp),h.o13.fr f (by simp),h.o14.fr f (by simp),k,h.o16.fr f (by simp),h.o17.fr f (by simp),h.o18.elim fun r hr=>⟨r,hr.1,hr.2.fr f (by simp)⟩,h.o19.fr f (by simp),h.o20.fr f (by simp),h.o21.fr f (by simp),h.ok⟩
theorem TMissionO.put17{B o:Nat}{χ:Nat→Col}{w w2:World}{A:TMissionA}{x:TMission}(h:TMissionO B χ o w A x){a:Option Addr}{c:Nat}{l:List ByteArray}(f:Fr B χ (·=(o+17,0)) w w2)(k:OwnC B χ (o+17,0) w2 a c l):TMissionO B χ o w2 { A with a17:=a,c17:=c } { x with Space.Files:=l } :=
 ⟨h.o0.fr f (by simp),h.o1.fr f (by simp),h.o2.fr f (by simp),h.o3.fr f (by simp),h.o4.fr f (by simp),h.o5.fr f (by simp),h.o6.fr f (by simp),h.o7.elim fun r hr=>⟨r,hr.1,hr.2.fr f (by simp)⟩,h.o8.fr f (by simp),h.o9.fr f (by simp),h.o10.fr f (by simp),h.o11.fr f (by simp),h.o12.fr f (by simp),h.o13.fr f (by simp),h.o14.fr f (by simp),h.o15.fr f (by simp),h.o16.fr f (by simp),k,h.o18.elim fun r hr=>⟨r,hr.1,hr.2.fr f (by simp)⟩,h.o19.fr f (by simp),h.o20.fr f (by simp),h.o21.fr f (by simp),h.ok⟩
