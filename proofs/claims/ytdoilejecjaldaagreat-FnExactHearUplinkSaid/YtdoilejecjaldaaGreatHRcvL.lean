/- Plain: what comes: code words read, bits gathered, texts opened, commands taken. No condition but on sizes. -/
import Derived.Test.YtdoilejecjaldaaGreatHM15
namespace Go.Proofs.YtdoilejecjaldaaGreat
set_option linter.unusedVariables false
open Go.ChangeShapes Go.WideShapes Go.ChangeAt Go.RowKit
section
variable (f:Nat→Nat→Nat × Int)
def bL8(m k n:Nat):List (Nat × Int):=(List.range' k n).map (f m)
def aT6(m n:Nat):List (Nat × Int):=(List.range' m n).flatMap fun m=>bL8 f m 0 8
def bJ7(k m n:Nat):List (Nat × Int):=(List.range' m n).map fun m=>f m k
def ba3(N k n:Nat):List (Nat × Int):=(List.range' k n).flatMap fun k=>bJ7 f k 0 N
theorem bF1(N:Nat):(aT6 f 0 N).Perm (ba3 f N 0 8):=aL7 f (List.range' 0 N) (List.range' 0 8)
theorem bF2{m n:Nat}(h:m<n):aT6 f m (n - m)=bL8 f m 0 8++aT6 f (m+1) (n - (m+1)):=by
 rw[aT6,show n - m=n - (m+1)+1 by omega,List.range'_succ,List.flatMap_cons];rfl
theorem bL9(m:Nat){k:Nat}(h:k<8):bL8 f m k (8 - k)=f m k::bL8 f m (k+1) (8 - (k+1)):=by
 rw[bL8,show 8 - k=8 - (k+1)+1 by omega,List.range'_succ,List.map_cons];rfl
theorem bA8(N:Nat){k:Nat}(h:k<8):ba3 f N k (8 - k)=bJ7 f k 0 N++ba3 f N (k+1) (8 - (k+1)):=by
 rw[ba3,show 8 - k=8 - (k+1)+1 by omega,List.range'_succ,List.flatMap_cons];rfl
theorem bJ8(k:Nat){m n:Nat}(h:m<n):bJ7 f k m (n - m)=f m k::bJ7 f k (m+1) (n - (m+1)):=by
 rw[bJ7,show n - m=n - (m+1)+1 by omega,List.range'_succ,List.map_cons];rfl
end
def aF8(l:List Int)(m k:Nat):Nat × Int:=(m,IntKind.u8.wrap (l.getD ((k*l.length+m) / 8) 0 / 2 ^ ((k*l.length+m) % 8) % 2*2 ^ k))
@[irreducible] def am7(l:List Int):List Int:=(aT6 (aF8 l) 0 l.length).foldl (up1 orU) (List.replicate l.length 0)
theorem aB8(l:List Int):(aT6 (aF8 l) 0 l.length).foldl (up1 orU) (List.replicate l.length 0)=am7 l:=by unfold am7;rfl
theorem bv7(l:List Int):(ba3 (aF8 l) l.length 0 8).foldl (up1 orU) (List.replicate l.length 0)=am7 l:=by
 rw[← aB8,bM0 bO2 (bF1 (aF8 l) l.length)]
theorem bD2(l:List Int):(am7 l).length=l.length:=by rw[← aB8,bI7];simp
def bM8(n w:Int):Int:=at9 (bits .xor .i64 (nib n) w)
def aq0(w:Int):Nat→Int→Int × Int
 | 0,_=>(-1,2)
 | j+1,n=>if bM8 n w≤1 then(n,bM8 n w)else aq0 w j (n+1)
@[irreducible] def aj7(w:Int):Int × Int:=aq0 w 16 0
theorem bn7(w:Int):aj7 w=aq0 w 16 0:=by unfold aj7;rfl
theorem bd5(n:Int):0≤at9 n∧at9 n≤8:=by unfold at9;omega
theorem bv2(w:Int):∀ (j:Nat) (n:Int),0≤n→n+j≤16→-1≤(aq0 w j n).1∧(aq0 w j n).1≤15∧0≤(aq0 w j n).2∧(aq0 w j n).2≤2
 | 0,n,h0,h1=>by simp[aq0]
 | j+1,n,h0,h1=>by
  unfold aq0
  split
  ·rename_i h
   have:=(bd5 (bits .xor .i64 (nib n) w)).1
   have e:bM8 n w=at9 (bits .xor .i64 (nib n) w):=rfl
   simp only
   omega
  ·exact bv2 w j (n+1) (by omega) (by omega)
theorem aX5(w:Int):-1≤(aj7 w).1∧(aj7 w).1≤15∧0≤(aj7 w).2∧(aj7 w).2≤2:=by
 rw[bn7];exact bv2 w 16 0 (by omega) (by omega)
def as4(acc:List Int):List Int→Option (List Int)
 | a::b::l=>if (aj7 a).1<0∨(aj7 b).1<0 then none else as4 (acc++[16*(aj7 a).1+(aj7 b).1]) l
 | _=>some acc
theorem bv1:∀ (n:Nat) (l acc r:List Int),l.length≤n→as4 acc l=some r→r.length≤acc.length+l.length
 | 0,[],acc,r,_,h=>by simp[as4]at h;subst h;simp
 | n+1,[],acc,r,_,h=>by simp[as4]at h;subst h;simp
 | n+1,[a],acc,r,_,h=>by simp[as4]at h;subst h;simp
 | n+1,a::b::l,acc,r,hn,h=>by
  rw[as4]at h
  split at h
  ·cases h
  ·have:=bv1 n l _ r (by simp at hn;omega) h
   simp at this ⊢;omega
def an9:Option (List Int)→ByteArray
 | some l=>strOfNums l
 | none=>⟨#[]⟩
def am6(s:ByteArray):Option (List Int):=if s.size % 2≠0∨400<s.size then none else as4 [] (j4 s)
@[irreducible] def aI4(s:ByteArray):ByteArray:=strOfNums (am7 (j4 (strOfNums (scr 255 (j4 s)))))
theorem bd6(s:ByteArray):strOfNums (am7 (j4 (strOfNums (scr 255 (j4 s)))))=aI4 s:=by unfold aI4;rfl
theorem bd7(s:ByteArray):(aI4 s).size=s.size:=by rw[← bd6,strOfNums_size,bD2,J6,strOfNums_size,aX8,J6]
def av2(s:ByteArray):Option (List Int):=if s.size=0 then none else am6 (aI4 s)
def ak4(d:ByteArray):Bool:=decide (4≤d.size) && ((d.extract 0 4).toList == be2.toList)
def U9(d:ByteArray):Option (List Int):=if ak4 d=true then av2 (d.extract 4 d.size)else none
theorem bK8{s:ByteArray}{l:List Int}(h:am6 s=some l):l.length≤400:=by
 unfold am6 at h
 split at h
 ·cases h
 ·have:=bv1 _ _ _ _ nl h
  rw[J6]at this
  simp at this
  omega
theorem bd8(d:ByteArray):(an9 (U9 d)).size≤400:=by
 have key:∀ o:Option (List Int),(∀ l,o=some l→l.length≤400)→(an9 o).size≤400:=fun o h=>by
  cases o with
  | none=>exact Nat.zero_le _
  | some l=>rw[an9,strOfNums_size];exact h l rfl
 refine key _ fun l h=>?_
 unfold U9 at h
 split at h
 ·unfold av2 at h
  split at h
  ·cases h
  ·exact bK8 h
 ·cases h
theorem bJ0{n z:Int}(h0:0≤n)(h1:n≤15)(h2:0≤z)(h3:z≤255):0≤bits .xor .i64 (nib n) z∧bits .xor .i64 (nib n) z≤255∧bits .xor .i64 z (nib n)=bits .xor .i64 (nib n) z:=by
 obtain⟨k,rfl⟩:∃ k:Fin 256,z=(k.1:Int):=⟨⟨z.toNat,by omega⟩,by simp;omega⟩
 have hn:n=0∨n=1∨n=2∨n=3∨n=4∨n=5∨n=6∨n=7∨n=8∨n=9∨n=10∨n=11∨n=12∨n=13∨n=14∨n=15:=by omega
 clear h0 h1 h2 h3
 rcases hn with rfl|rfl|rfl|rfl|rfl|rfl|rfl|rfl|rfl|rfl|rfl|rfl|rfl|rfl|rfl|rfl<;>revert k<;>decide +kernel
def U4(s:ByteArray)(a:Nat):Nat→Int
 | 0=>0
 | k+1=>U4 s a k*256+bAt s (a+k)
theorem aF7(s:ByteArray)(a:Nat){k:Nat}(hk:k≤4):0≤U4 s a k∧U4 s a k≤4294967295:=by
 have h0:=W7 s (a+0);have h1:=W7 s (a+1);have h2:=W7 s (a+2);have h3:=W7 s (a+3)
 have hk:k=0∨k=1∨k=2∨k=3∨k=4:=by omega
 rcases hk with rfl|rfl|rfl|rfl|rfl<;>simp only[U4]<;>omega
def R2(s:ByteArray):Option ByteArray:=if s.size<2 then none else if ((au2 (s.extract 0 (s.size - 2))).toList == s.toList)=true then some (s.extract 0 (s.size - 2))else none
theorem aD5{s t:ByteArray}(h:R2 s=some t):2≤s.size∧t.size=s.size - 2∧au2 t=s:=by
 unfold R2 at h
 split at h
 ·cases h
 ·split at h
  ·rename_i h2 h3
   cases h
   refine⟨by omega,by simp,?_⟩
   have:=eq_of_beq h3
   rw[ByteArray.toList_eq,ByteArray.toList_eq]at this
   exact aP4 this
  ·cases h
def aG1(t:ByteArray):Bool:=decide (2≤t.size) && (decide (t.size≤42) && decide (bAt t 0≤1))
def N8(s:ByteArray):Option (Int × Int × ByteArray):=match R2 s with
 | none=>none
 | some t=>if aG1 t=true then some (bAt t 0,bAt t 1,t.extract 2 t.size)else none
theorem bM2{t:ByteArray}(h:2≤t.size):Z2 (bAt t 0)++Z2 (bAt t 1)++t.extract 2 t.size=t:=by
 have b0:=W7 t 0;have b1:=W7 t 1
 apply aP4
 rw[ak7 (show 0<t.size by omega),ak7 (show 1<t.size by omega)]
 obtain⟨⟨l⟩⟩:=t
 match l,h with
 | a::b::r,_ =>
  simp[Z2,strOfNums]
  exact⟨aN3 a,aN3 b,List.take_of_length_le (show r.length≤(a::b::r).length - 2 by simp)⟩
theorem bn9{s t:ByteArray}(h:R2 s=some t)(h2:2≤t.size):bn8 (bAt t 0) (bAt t 1) (t.extract 2 t.size)=s:=by
 rw[bn8,bM2 h2];exact(aD5 h).2.2
def ak5(r:M4)(seq:Int)(d:ByteArray):M4 × ByteArray × Bool :=
 if (seq - r.Expect+256) % 256=0∧r.Taken<1000000 then({ r with Expect:=(r.Expect+1) % 256,Taken:=r.Taken+1,Again:=false },d,true)
 else if inB ((seq - r.Expect+256) % 256) 1 40=true then({ r with Again:=true },⟨#[]⟩,false)
 else if inB ((seq - r.Expect+256) % 256) 41 215=true then({ r with Locked:=true },⟨#[]⟩,false)else(r,⟨#[]⟩,false)
def F9(r:M4)(s:ByteArray):M4 × ByteArray × Bool:=match N8 s with
 | none=>(r,⟨#[]⟩,false)
 | some (k,seq,d)=>if A9 r=true then(if (k == 1)=true then({ r with Locked:=false,Again:=false },⟨#[]⟩,false)else if r.Locked=true then(r,⟨#[]⟩,false)else ak5 r seq d)else(r,⟨#[]⟩,false)
theorem aB5{s:ByteArray}{q:Int × Int × ByteArray}(h:N8 s=some q):0≤q.1∧q.1≤1∧0≤q.2.1∧q.2.1≤255∧q.2.2.size≤40:=by
 unfold N8 at h
 split at h
 ·cases h
 ·rename_i t ht
  split at h
  ·rename_i hk
   cases h
   simp only[aG1,Bool.and_eq_true,decide_eq_true_eq]at hk
   have b0:=W7 t 0;have b1:=W7 t 1
   refine⟨b0.1,hk.2.2,b1.1,b1.2,?_⟩
   simp only[ByteArray.size_extract]
   omega
  ·cases h
theorem by7(r:M4)(seq:Int)(d:ByteArray)(h:A9 r=true):A9 (ak5 r seq d).1=true∧(ak5 r seq d).2.1.size≤d.size:=by
 simp only[A9,Bool.and_eq_true]at h
 have h1:=D6.1 h.1;have h2:=D6.1 h.2
 unfold ak5
 split
 ·exact⟨by simp only[A9,Bool.and_eq_true];exact⟨D6.2 (by omega),D6.2 (by omega)⟩,Nat.le_refl _⟩
 split
 ·exact⟨by simp only[A9,Bool.and_eq_true];exact h,Nat.zero_le _⟩
 split
 ·exact⟨by simp only[A9,Bool.and_eq_true];exact h,Nat.zero_le _⟩
 ·exact⟨by simp only[A9,Bool.and_eq_true];exact h,Nat.zero_le _⟩
theorem av3{r:M4}(s:ByteArray)(h:A9 r=true):A9 (F9 r s).1=true∧(F9 r s).2.1.size≤40:=by
 unfold F9
 split
 ·exact⟨h,Nat.zero_le _⟩
 ·rename_i k seq d hd
  have hz:=(aB5 hd).2.2.2.2
  simp only at hz
  rw[if_pos h]
  split
  ·exact⟨by simp only[A9]at h ⊢;exact h,Nat.zero_le _⟩
  split
  ·exact⟨h,Nat.zero_le _⟩
  ·have:=by7 r seq d h
   exact⟨this.1,by omega⟩
