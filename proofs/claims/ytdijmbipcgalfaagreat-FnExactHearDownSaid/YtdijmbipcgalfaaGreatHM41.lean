/- What walks of functions from a mission to a mission share. No condition but on sizes. -/
import Derived.Test.YtdijmbipcgalfaaGreatHCopyMI
import Derived.Test.YtdijmbipcgalfaaGreatHCopyMS
import Derived.Test.YtdijmbipcgalfaaGreatHM37
import Derived.Test.YtdijmbipcgalfaaGreatHM18
import Derived.Test.YtdijmbipcgalfaaGreatHOwnM
import Derived.Test.YtdijmbipcgalfaaGreatHLto3
import Derived.Test.YtdijmbipcgalfaaGreatHM29
import Derived.Test.YtdijmbipcgalfaaGreatHOwnS
namespace Go.Proofs.YtdijmbipcgalfaaGreat
set_option maxRecDepth 100000
set_option maxHeartbeats 2000000
set_option linter.unusedVariables false
open Go.ChangeShapes Go.WideShapes Go.ChangeAt Go.RowKit
variable {k k0:Int}{vs:List Value}{B c c0 o:Nat}{a a0:Option Addr}{w:World}
theorem bC5{χ:Nat→Col}{w2:World}{m:f7}(h:W0.O B χ o w vs m)(g:b8 w w2):W0.O B χ o w2 vs m:=by
 obtain⟨A,h0,h1⟩:=h
 exact⟨A,h0,h1.to g⟩
theorem bu5{χ:Nat→Col}{w2:World}{m:f7}(h:W0.O B χ o w vs m)(g:d7 B w w2):W0.O B χ o w2 vs m:=by
 obtain⟨A,h0,h1⟩:=h
 exact⟨A,h0,h1.keep g⟩
theorem ab9{m:f7}(h:Enc.Rd B w vs m):vs.length=61:=Enc.len h
class ai4(α:Type)[E:D7 α] where
 one:Int→Nat→α
 good:∀ k i,0≤k→k≤1000000000000→i≤100000000→E.good (one k i)
section
variable {α:Type} [E:D7 α] [M:ai4 α]
def mkL(l:List α)(k:Int):List α:=(List.range l.length).map (M.one k)
theorem J1(l:List α)(k:Int):(mkL l k).length=l.length:=by simp[mkL]
def am0(B:Nat)(χ:Nat→Col)(i:Col)(w:World)(a:Option Addr)(c:Nat)(l:List α)(k:Int):Ending→World→Prop:=fun e w' =>
 e=.returned (.int .i64 (k+l.length*(E.size:Nat)))∧B6 B χ i w' a c (mkL l k)∧Fr B χ (·=i) w w'
theorem ah6.mk{B n:Nat}{χ:Nat→Col}{i:Col}{w w':World}{a:Option Addr}{c:Nat}{l:List α}{k k2:Int}{e:Ending}(h:B6 B χ i w a c l)(hm:l.length≤100000000)(h1:0≤k)(h2:k≤1000000000000)(g:ah6 E.enc E.ty E.size B w a n c (mkL l k) k2 e w')(hk:k2=k+l.length*(E.size:Nat)):am0 B χ i w a c l k e w':=by
 obtain⟨he,hg,ho⟩:=g
 refine⟨by rw[he,hk],⟨ho,h.col,fun x hx=>?_⟩,h.wrote hg⟩
 obtain⟨j,hj,rfl⟩:=List.mem_map.1 hx
 have:=List.mem_range.1 hj
 exact M.good k j h1 h2 om
end
theorem bl4:∀ (k:Nat) (acc:ByteArray),(aR5 k acc).size≤acc.size+k
 | 0,acc=>by rw[aR5,dif_pos rfl];omega
 | k+1,acc=>by
  rw[aR5,dif_neg om]
  have:=bl4 ((k+1) / 10) (strOfNums [48+((k+1:Nat):Int) % 10]++acc)
  rw[ByteArray.size_append,show(strOfNums [48+((k+1:Nat):Int) % 10]).size=1 by simp[strOfNums_size]]at this
  omega
termination_by k=>k
decreasing_by omega
theorem V7(h0:0≤k)(h:k≤2000000000000):(N1 k).size≤9223372036854775807:=by
 unfold N1
 split
 ·decide
 ·have:=bl4 k.toNat ⟨#[]⟩
  rw[ByteArray.size_append]
  have h1:(⟨#[109]⟩:ByteArray).size=1:=rfl
  have h2:(⟨#[]⟩:ByteArray).size=0:=rfl
  omega
theorem bJ3(k:Int)(i:Nat)(h0:0≤k)(h1:k≤1000000000000)(h2:i≤100000000):(aV1 k i).size≤9223372036854775807:=V7 om om
instance ai4.iInt:ai4 Int where
 one:=bd5
 good:=fun k i h0 h1 h2=>by show i64 (k+i);unfold i64;omega
theorem ar8{χ:Nat→Col}{i:Col}{l:List Int}(h:B6 B χ i w a c l)(hm:l.length≤100000000)(h1:0≤k)(h2:k≤1000000000000) :
  Calls Tryz.prog 284 #[.slice a l.length c,.int .i64 k] w (am0 B χ i w a c l k) :=
 (bx1 h.own rfl hm h1 h2).mono fun _ _ g=>ah6.mk h hm h1 h2 g (by show _=k+(l.length:Int)*((1:Nat):Int);omega)
theorem an0{l:List Int}(hs:RdS B w a c (mkL l k))(hm:l.length≤100000000)(h1:0≤k)(h2:k≤1000000000000) :
  Calls Tryz.prog 290 #[.slice a l.length c,.int .i64 k] w (b5 w (.int .i64 (k+l.length*(Enc.size Int:Nat)))) :=
 (bw9 (c:=c) hs.slF hm h1 h2).mono fun _ _ g=>by have e:(k+l.length*((Enc.size Int:Nat):Int))=k+l.length*((1:Nat):Int):=rfl;rw[e];simpa using g
def bB0(k0:Int)(i:Nat):Bool:=decide ((k0+i) % 3=0)
theorem bx0{n:Nat}{l:List Bool}(hown0:Own aw7 4 1 B w a c l)(hn:l.length=n)(hm:n≤100000000)(h1:0≤k0)(h2:k0≤1000000000000) :
  Calls Tryz.prog 184 #[.slice a n c,.int .i64 k0] w (ah6 aw7 4 1 B w a n c ((List.range n).map (bB0 k0)) (k0+n*1)):=by
 go_enter Tryz.func184,Tryz.ntmps184
 go_wp2_with (fail)
 go_loopw [1,5] (fun u v wr=>∃ j:Nat,v=.int .i64 j∧u=.int .i64 (k0+j*1)∧j≤n∧w.grownBy wr (Value.ownBlock (.slice a n c))∧Own aw7 4 1 B wr a c (ah8 (bB0 k0) l j)) (fun _ v _=>(n - intOf v).toNat)
 case atStart=>exact⟨0,rfl,by simp,by omega,V0 _ _,by rw[Z2];exact hown0⟩
 case round =>
  obtain⟨j,rfl,rfl,hj,hgr,hown⟩:=hrel
  by_cases h:j<n
  ·obtain⟨g,rfl,hB,hlt⟩:=hown.open (n:=n) (by rw[k7 om];omega)
   obtain⟨o0,g0⟩:=hown.cells (j:=j) (by rw[k7 om];omega)
   have f0:=hown.free j
   have HG:=lH hgr;clear hgr
   have ht:Int.tmod (k0+j*1) 3=(k0+j) % 3:=by rw[Int.tmod_eq_emod_of_nonneg om];simp
   go_wp2_with (fail)
   go_roundw
   case rel =>
    have hp:=hown.put1 (j:=j) (y:=bB0 k0 j) (by rw[k7 om];omega) rfl
    refine⟨j+1,by go_num,by go_num,by omega,?_,?_⟩
    ·exact A9 HG.out hp.2
    ·rw[← ae5 om];exact hp.1
   case measure=>simp[intOf];omega
  ·go_wp2_with (fail)
   go_ret
   obtain rfl:j=n:=by omega
   refine⟨rfl,hgr,?_⟩
   rw[← hn,ae4]at hown
   rw[← hn];exact hown
instance ai4.iBool:ai4 Bool where
 one:=bB0
 good:=fun k i h0 h1 h2=>trivial
theorem bt6{χ:Nat→Col}{i:Col}{l:List Bool}(h:B6 B χ i w a c l)(hm:l.length≤100000000)(h1:0≤k)(h2:k≤1000000000000) :
  Calls Tryz.prog 184 #[.slice a l.length c,.int .i64 k] w (am0 B χ i w a c l k) :=
 (bx0 h.own rfl hm h1 h2).mono fun _ _ g=>ah6.mk h hm h1 h2 g (by show _=k+(l.length:Int)*((1:Nat):Int);omega)
theorem bw8{n:Nat}(hs:RdS 0 w a c ((List.range n).map (bB0 k0)))(hm:n≤100000000)(h1:0≤k0)(h2:k0≤1000000000000) :
  Calls Tryz.prog 192 #[.slice a n c,.int .i64 k0] w (b5 w (.int .i64 (k0+n*1))):=by
 go_enter Tryz.func192,Tryz.ntmps192
 go_wp2_with (fail)
 go_loopw [1,5] (fun u v wr=>∃ j:Nat,v=.int .i64 j∧u=.int .i64 (k0+j*1)∧j≤n∧∃ x:b7 w,wr=x.w) (fun _ v _=>(n - intOf v).toNat)
 case atStart=>exact⟨0,rfl,by simp,by omega,b7.of⟩
 case round =>
  obtain⟨j,rfl,rfl,hj,x0,rfl⟩:=hrel
  by_cases h:j<n
  ·obtain⟨b,off,x,rfl,hb,hd,e0⟩:=hs.atBool (k:=j) (by simpa using h)
   have hx:x=decide ((k0+j) % 3=0):=by
    have:=congrArg (fun m=>m[0]?) hd.out
    simp[h]at this
    rw[← this];rfl
   have ht:Int.tmod (k0+j*1) 3=(k0+j) % 3:=by rw[Int.tmod_eq_emod_of_nonneg om];simp
   have ht2:Int.tmod (k0+j) 3=(k0+j) % 3:=by rw[Int.tmod_eq_emod_of_nonneg om]
   by_cases h3:(k0+j) % 3=0
   ·have hx2:x=true:=by rw[hx];simpa using h3
    clear hx;subst hx2
    go_wp2_with (fail)
    go_roundw
    case rel=>exact⟨j+1,by go_num,by go_num,by omega,b7.of⟩
    case measure=>simp[intOf];omega
   ·have hx2:x=false:=by rw[hx];simpa using h3
    clear hx;subst hx2
    go_wp2_with (fail)
    go_roundw
    case rel=>exact⟨j+1,by go_num,by go_num,by omega,b7.of⟩
    case measure=>simp[intOf];omega
  ·go_wp2_with (fail)
   go_ret
   obtain rfl:j=n:=by omega
   exact b5.mk rfl
theorem bs9{l:List Bool}(hs:RdS B w a c (mkL l k))(hm:l.length≤100000000)(h1:0≤k)(h2:k≤1000000000000) :
  Calls Tryz.prog 192 #[.slice a l.length c,.int .i64 k] w (b5 w (.int .i64 (k+l.length*(Enc.size Bool:Nat)))) :=
 (bw8 (c:=c) (hs.mono (Nat.zero_le _)) hm h1 h2).mono fun _ _ g=>by have e:(k+l.length*((Enc.size Bool:Nat):Int))=k+l.length*((1:Nat):Int):=rfl;rw[e];simpa using g
instance ai4.iByteArray:ai4 ByteArray where
 one:=aV1
 good:=fun k i h0 h1 h2=>bJ3 _ _ h0 h1 h2
theorem aj5{χ:Nat→Col}{i:Col}{l:List ByteArray}(h:B6 B χ i w a c l)(hm:l.length≤100000000)(h1:0≤k)(h2:k≤1000000000000) :
  Calls Tryz.prog 55 #[.slice a l.length c,.int .i64 k] w (am0 B χ i w a c l k) :=
 (bb4 h.own rfl hm h1 h2).mono fun _ _ g=>ah6.mk h hm h1 h2 g (by show _=k+(l.length:Int)*((1:Nat):Int);omega)
theorem aj4{l:List ByteArray}(hs:RdS B w a c (mkL l k))(hm:l.length≤100000000)(h1:0≤k)(h2:k≤1000000000000) :
  Calls Tryz.prog 60 #[.slice a l.length c,.int .i64 k] w (b5 w (.int .i64 (k+l.length*(Enc.size ByteArray:Nat)))) :=
 (bb2 (c:=c) hs.slF hm h1 h2).mono fun _ _ g=>by have e:(k+l.length*((Enc.size ByteArray:Nat):Int))=k+l.length*((1:Nat):Int):=rfl;rw[e];simpa using g
instance ai4.iSlot:ai4 ap8 where
 one:=ax1
 good:=fun k i h0 h1 h2=>by
  show aZ8 (ax1 k i)
  refine⟨?_,?_,trivial⟩<;>first|(unfold i64 ax1;dsimp only;omega)|(unfold ax1;dsimp only;exact V7 om om)
theorem bu0{χ:Nat→Col}{i:Col}{l:List ap8}(h:B6 B χ i w a c l)(hm:l.length≤100000000)(h1:0≤k)(h2:k≤1000000000000) :
  Calls Tryz.prog 51 #[.slice a l.length c,.int .i64 k] w (am0 B χ i w a c l k) :=
 (bp0 h.own rfl hm h1 h2).mono fun _ _ g=>ah6.mk h hm h1 h2 g (by show _=k+(l.length:Int)*((2:Nat):Int);omega)
theorem bt3{l:List ap8}(hs:RdS B w a c (mkL l k))(hm:l.length≤100000000)(h1:0≤k)(h2:k≤1000000000000) :
  Calls Tryz.prog 56 #[.slice a l.length c,.int .i64 k] w (b5 w (.int .i64 (k+l.length*(Enc.size ap8:Nat)))) :=
 (bo8 (c:=c) hs.slF hm h1 h2).mono fun _ _ g=>by have e:(k+l.length*((Enc.size ap8:Nat):Int))=k+l.length*((2:Nat):Int):=rfl;rw[e];simpa using g
instance ai4.iPair:ai4 X1 where
 one:=ax0
 good:=fun k i h0 h1 h2=>by
  show aZ7 (ax0 k i)
  refine⟨?_,?_,trivial⟩<;>first|(unfold i64 ax0;dsimp only;omega)|(unfold ax0;dsimp only;exact V7 om om)
theorem bt8{χ:Nat→Col}{i:Col}{l:List X1}(h:B6 B χ i w a c l)(hm:l.length≤100000000)(h1:0≤k)(h2:k≤1000000000000) :
  Calls Tryz.prog 181 #[.slice a l.length c,.int .i64 k] w (am0 B χ i w a c l k) :=
 (bo9 h.own rfl hm h1 h2).mono fun _ _ g=>ah6.mk h hm h1 h2 g (by show _=k+(l.length:Int)*((2:Nat):Int);omega)
theorem bt1{l:List X1}(hs:RdS B w a c (mkL l k))(hm:l.length≤100000000)(h1:0≤k)(h2:k≤1000000000000) :
  Calls Tryz.prog 189 #[.slice a l.length c,.int .i64 k] w (b5 w (.int .i64 (k+l.length*(Enc.size X1:Nat)))) :=
 (bo7 (c:=c) hs.slF hm h1 h2).mono fun _ _ g=>by have e:(k+l.length*((Enc.size X1:Nat):Int))=k+l.length*((2:Nat):Int):=rfl;rw[e];simpa using g
instance ai4.iTFlight:ai4 k5 where
 one:=ae6
 good:=fun k i h0 h1 h2=>by
  show aj6 (ae6 k i)
  refine⟨?_,?_,trivial⟩<;>first|(unfold i64 ae6;dsimp only;omega)|(unfold ae6;dsimp only;exact V7 om om)
theorem aE3{χ:Nat→Col}{i:Col}{l:List k5}(h:B6 B χ i w a c l)(hm:l.length≤100000000)(h1:0≤k)(h2:k≤1000000000000) :
  Calls Tryz.prog 52 #[.slice a l.length c,.int .i64 k] w (am0 B χ i w a c l k) :=
 (aX4 h.own rfl hm h1 h2).mono fun _ _ g=>ah6.mk h hm h1 h2 g (by show _=k+(l.length:Int)*((2:Nat):Int);omega)
theorem aE2{l:List k5}(hs:RdS B w a c (mkL l k))(hm:l.length≤100000000)(h1:0≤k)(h2:k≤1000000000000) :
  Calls Tryz.prog 57 #[.slice a l.length c,.int .i64 k] w (b5 w (.int .i64 (k+l.length*(Enc.size k5:Nat)))) :=
 (aX2 (c:=c) hs.slF hm h1 h2).mono fun _ _ g=>by have e:(k+l.length*((Enc.size k5:Nat):Int))=k+l.length*((2:Nat):Int):=rfl;rw[e];simpa using g
instance ai4.iTRecord:ai4 s8 where
 one:=ae7
 good:=fun k i h0 h1 h2=>by
  show av4 (ae7 k i)
  refine⟨?_,?_,?_,?_,trivial⟩<;>first|(unfold i64 ae7;dsimp only;omega)|(unfold ae7;dsimp only;exact V7 om om)
theorem av1{χ:Nat→Col}{i:Col}{l:List s8}(h:B6 B χ i w a c l)(hm:l.length≤100000000)(h1:0≤k)(h2:k≤1000000000000) :
  Calls Tryz.prog 182 #[.slice a l.length c,.int .i64 k] w (am0 B χ i w a c l k) :=
 (aX5 h.own rfl hm h1 h2).mono fun _ _ g=>ah6.mk h hm h1 h2 g (by show _=k+(l.length:Int)*((4:Nat):Int);omega)
theorem av0{l:List s8}(hs:RdS B w a c (mkL l k))(hm:l.length≤100000000)(h1:0≤k)(h2:k≤1000000000000) :
  Calls Tryz.prog 190 #[.slice a l.length c,.int .i64 k] w (b5 w (.int .i64 (k+l.length*(Enc.size s8:Nat)))) :=
 (aX3 (c:=c) hs.slF hm h1 h2).mono fun _ _ g=>by have e:(k+l.length*((Enc.size s8:Nat):Int))=k+l.length*((4:Nat):Int):=rfl;rw[e];simpa using g
instance ai4.iTWaiting:ai4 D4 where
 one:=ad1
 good:=fun k i h0 h1 h2=>by
  show aw4 (ad1 k i)
  refine⟨?_,⟨?_,?_,?_,?_,trivial⟩,trivial⟩<;>first|(unfold i64 ad1;dsimp only;omega)|(unfold ad1;dsimp only;exact V7 om om)
theorem aY7{χ:Nat→Col}{i:Col}{l:List D4}(h:B6 B χ i w a c l)(hm:l.length≤100000000)(h1:0≤k)(h2:k≤1000000000000) :
  Calls Tryz.prog 286 #[.slice a l.length c,.int .i64 k] w (am0 B χ i w a c l k) :=
 (aR2 h.own rfl hm h1 h2).mono fun _ _ g=>ah6.mk h hm h1 h2 g (by show _=k+(l.length:Int)*((5:Nat):Int);omega)
theorem aY3{l:List D4}(hs:RdS B w a c (mkL l k))(hm:l.length≤100000000)(h1:0≤k)(h2:k≤1000000000000) :
  Calls Tryz.prog 292 #[.slice a l.length c,.int .i64 k] w (b5 w (.int .i64 (k+l.length*(Enc.size D4:Nat)))) :=
 (aR1 (c:=c) hs.slF hm h1 h2).mono fun _ _ g=>by have e:(k+l.length*((Enc.size D4:Nat):Int))=k+l.length*((5:Nat):Int):=rfl;rw[e];simpa using g
instance ai4.iTLimit:ai4 V8 where
 one:=al5
 good:=fun k i h0 h1 h2=>by
  show aG7 (al5 k i)
  refine⟨?_,?_,?_,trivial⟩<;>first|(unfold i64 al5;dsimp only;omega)|(unfold al5;dsimp only;exact V7 om om)
theorem bj7{χ:Nat→Col}{i:Col}{l:List V8}(h:B6 B χ i w a c l)(hm:l.length≤100000000)(h1:0≤k)(h2:k≤1000000000000) :
  Calls Tryz.prog 285 #[.slice a l.length c,.int .i64 k] w (am0 B χ i w a c l k) :=
 (bb5 h.own rfl hm h1 h2).mono fun _ _ g=>ah6.mk h hm h1 h2 g (by show _=k+(l.length:Int)*((3:Nat):Int);omega)
theorem bj3{l:List V8}(hs:RdS B w a c (mkL l k))(hm:l.length≤100000000)(h1:0≤k)(h2:k≤1000000000000) :
  Calls Tryz.prog 291 #[.slice a l.length c,.int .i64 k] w (b5 w (.int .i64 (k+l.length*(Enc.size V8:Nat)))) :=
 (bb3 (c:=c) hs.slF hm h1 h2).mono fun _ _ g=>by have e:(k+l.length*((Enc.size V8:Nat):Int))=k+l.length*((3:Nat):Int):=rfl;rw[e];simpa using g
instance ai4.iTDone:ai4 ad2 where
 one:=ar1
 good:=fun k i h0 h1 h2=>by
  show aP4 (ar1 k i)
  refine⟨?_,?_,?_,trivial⟩<;>first|(unfold i64 ar1;dsimp only;omega)|(unfold ar1;dsimp only;exact V7 om om)
theorem bt7{χ:Nat→Col}{i:Col}{l:List ad2}(h:B6 B χ i w a c l)(hm:l.length≤100000000)(h1:0≤k)(h2:k≤1000000000000) :
  Calls Tryz.prog 287 #[.slice a l.length c,.int .i64 k] w (am0 B χ i w a c l k) :=
 (bg6 h.own rfl hm h1 h2).mono fun _ _ g=>ah6.mk h hm h1 h2 g (by show _=k+(l.length:Int)*((3:Nat):Int);omega)
theorem bt0{l:List ad2}(hs:RdS B w a c (mkL l k))(hm:l.length≤100000000)(h1:0≤k)(h2:k≤1000000000000) :
  Calls Tryz.prog 293 #[.slice a l.length c,.int .i64 k] w (b5 w (.int .i64 (k+l.length*(Enc.size ad2:Nat)))) :=
 (bg4 (c:=c) hs.slF hm h1 h2).mono fun _ _ g=>by have e:(k+l.length*((Enc.size ad2:Nat):Int))=k+l.length*((3:Nat):Int):=rfl;rw[e];simpa using g
instance ai4.iTSent:ai4 V9 where
 one:=ao5
 good:=fun k i h0 h1 h2=>by
  show ar9 (ao5 k i)
  refine⟨?_,?_,trivial⟩<;>first|(unfold i64 ao5;dsimp only;omega)|(unfold ao5;dsimp only;exact V7 om om)
theorem bt9{χ:Nat→Col}{i:Col}{l:List V9}(h:B6 B χ i w a c l)(hm:l.length≤100000000)(h1:0≤k)(h2:k≤1000000000000) :
  Calls Tryz.prog 283 #[.slice a l.length c,.int .i64 k] w (am0 B χ i w a c l k) :=
 (bg7 h.own rfl hm h1 h2).mono fun _ _ g=>ah6.mk h hm h1 h2 g (by show _=k+(l.length:Int)*((2:Nat):Int);omega)
theorem bt2{l:List V9}(hs:RdS B w a c (mkL l k))(hm:l.length≤100000000)(h1:0≤k)(h2:k≤1000000000000) :
  Calls Tryz.prog 289 #[.slice a l.length c,.int .i64 k] w (b5 w (.int .i64 (k+l.length*(Enc.size V9:Nat)))) :=
 (bg5 (c:=c) hs.slF hm h1 h2).mono fun _ _ g=>by have e:(k+l.length*((Enc.size V9:Nat):Int))=k+l.length*((2:Nat):Int):=rfl;rw[e];simpa using g
def aa6(x:A8)(k:Int):A8:={ x with File:=k,Size:=k+1,Check:=k+1+1,Parts:=mkL x.Parts (k+1+1+1) }
def F6(x:A8)(k:Int):Int:=k+1+1+1+(x.Parts.length:Int)*((1:Nat):Int)
def ad0(x:s7)(k:Int):s7:={ x with File:=k,Data:=N1 (k+1),Queue:=mkL x.Queue (k+1+1),Done:=decide ((k+1+1+(x.Queue.length:Int)*((1:Nat):Int)) % 3=0) }
def F9(x:s7)(k:Int):Int:=k+1+1+(x.Queue.length:Int)*((1:Nat):Int)+1
def mkN{α:Type}(f:α→Int→α)(g:α→Int→Int):List α→Int→List α
 | [],_=>[]
 | x::r,k=>f x k::mkN f g r (g x k)
def mnN{α:Type}(g:α→Int→Int):List α→Int→Int
 | [],k=>k
 | x::r,k=>mnN g r (g x k)
theorem au5{α:Type}(f:α→Int→α)(g:α→Int→Int):∀ (l:List α) (k:Int),(mkN f g l k).length=l.length
 | [],_=>rfl
 | x::r,k=>by simp[mkN,au5 f g r]
theorem bd6{α:Type}(f:α→Int→α)(g:α→Int→Int)(y:α):∀ (l:List α) (k:Int),mkN f g (l++[y]) k=mkN f g l k++[f y (mnN g l k)]
 | [],_=>rfl
 | x::r,k=>by simp[mkN,mnN,bd6 f g y r]
theorem aO9{α:Type}(g:α→Int→Int)(y:α):∀ (l:List α) (k:Int),mnN g (l++[y]) k=g y (mnN g l k)
 | [],_=>rfl
 | x::r,k=>by simp[mnN,aO9 g y r]
theorem au7{α:Type}[Enc α](g:α→Int→Int)(hg:∀ x k,k≤g x k∧g x k≤k+5*(1+Enc.tot x)):∀ (l:List α) (k:Int),k≤mnN g l k∧mnN g l k≤k+5*d9 l
 | [],k=>by simp[mnN,d9]
 | x::r,k=>by
  have h1:=hg x k
  have h2:=au7 g hg r (g x k)
  simp only[mnN,d9]
  omega
theorem ao6(x:A8)(k:Int):k≤F6 x k∧F6 x k≤k+5*(1+Enc.tot x):=by
 have h1:=f6 x.Parts
 have h2:Enc.tot x=d9 x.Parts:=rfl
 unfold F6
 omega
theorem al6(x:s7)(k:Int):k≤F9 x k∧F9 x k≤k+5*(1+Enc.tot x):=by
 have h1:=f6 x.Queue
 have h2:Enc.tot x=(x.Data.size:Int)+d9 x.Queue:=rfl
 unfold F9
 omega
theorem bU3{α:Type}(l:List α)(i:Nat)(v:α)(h:l[i]?=some v):l.set i v=l:=by
 refine List.ext_getElem? fun k=>?_
 rw[List.getElem?_set]
 split
 ·rename_i e
  subst e
  have hi:=(List.getElem?_eq_some_iff.1 h).1
  first|(rw[if_pos hi,h])|(simp[hi,h])
 ·rfl
theorem Own.put3of4{α:Type}{enc:α→List Value}{T B g:Nat}{w:World}{c:Nat}{l:List α}(h:Own enc T 4 B w (some ⟨g,0,none⟩) c l){j:Nat}{x y:α}(hx:l[j]?=some x){u0 u1 u2 v0 v1 v2 v3:Value}(hex:enc x=[u0,u1,u2,v3])(hy:enc y=[v0,v1,v2,v3]) :
  Own enc T 4 B (((w.setCell ⟨g,j*4,none⟩ v0).setCell ⟨g,j*4+1,none⟩ v1).setCell ⟨g,j*4+2,none⟩ v2) (some ⟨g,0,none⟩) c (l.set j y)∧w.grownBy (((w.setCell ⟨g,j*4,none⟩ v0).setCell ⟨g,j*4+1,none⟩ v1).setCell ⟨g,j*4+2,none⟩ v2) (some g) ∧
  (((w.setCell ⟨g,j*4,none⟩ v0).setCell ⟨g,j*4+1,none⟩ v1).setCell ⟨g,j*4+2,none⟩ v2).cell? ⟨g,j*4+3,none⟩=some v3:=by
 have hj:j<l.length:=(List.getElem?_eq_some_iff.1 hx).1
 have s0:=(h.2).stored (j*4) v0
 have s1:=(s0.1).stored (j*4+1) v1
 have s2:=(s1.1).stored (j*4+2) v2
 have h3:(l.flatMap enc)[j*4+3]?=some v3:=ag3 h.1 l _ _ _ _ hx (by rw[hex];rfl)
 have hL:(((l.flatMap enc).set (j*4) v0).set (j*4+1) v1).set (j*4+2) v2=(l.set j y).flatMap enc:=by
  rw[← bM0 h.1 hy l j hj]
  exact(bU3 ((((l.flatMap enc).set (j*4) v0).set (j*4+1) v1).set (j*4+2) v2) (j*4+3) v3 (by rw[List.getElem?_set_ne om,List.getElem?_set_ne om,List.getElem?_set_ne om];exact h3)).symm
 have hO:Own enc T 4 B (((w.setCell ⟨g,j*4,none⟩ v0).setCell ⟨g,j*4+1,none⟩ v1).setCell ⟨g,j*4+2,none⟩ v2) (some ⟨g,0,none⟩) c (l.set j y):=by
  refine⟨h.1,?_⟩
  rw[← hL,List.length_set]
  exact s2.1
 refine⟨hO,A9 (A9 s0.2 s1.2) s2.2,?_⟩
 have:=hO.2.cellAt (n:=(l.set j y).length) (j*4+3) (by rw[List.length_set];omega)
 rw[this]
 exact ag3 h.1 (l.set j y) _ _ _ _ (List.getElem?_set_self hj) (by rw[hy];rfl)
section
variable {α β:Type} [N:ap4 α β] [F:D7 β] {B o g c j:Nat} {χ:Nat→Col} {w W3 w4:World} {rows:List (N2 α)} {r:N2 α} {x:α}
theorem M3.wrote(h:M3 B χ o w (some ⟨g,0,none⟩) c rows)(hg:w.grownBy W3 (some g)):Fr B χ (·=(o,0)) w W3 :=
 ⟨hg.os,hg.tape,hg.output,hg.size,fun b h2 h3=>hg.block b h2 (fun e=>h3 ⟨by cases e;exact(h.own.blk g rfl).1,by cases e;exact h.col g rfl⟩)⟩
theorem aQ4{γ:Type}(p q:List γ)(r y:γ)(j:Nat)(hj:p.length=j):(p++r::q).set j y=p++[y]++q:=by
 subst hj
 simp[List.set_append_right]
theorem az2{γ:Type}(p q:List γ)(r:γ)(j:Nat)(hj:p.length=j):(p++r::q)[j]?=some r:=by
 subst hj
 simp
theorem av7{γ:Type}[Enc γ]:∀ (p q:List γ),d9 (p++q)=d9 p+d9 q
 | [],q=>by simp[d9]
 | x::p,q=>by simp only[List.cons_append,d9,av7 p q];omega
theorem M3.row(h:M3 B χ o w (some ⟨g,0,none⟩) c rows)(hr:rows[j]?=some r)(hown3:Own (aa0 (α:=α)) N.ty N.size B W3 (some ⟨g,0,none⟩) c (rows.set j ⟨x,r.a,r.c⟩))(F3:Fr B χ (·=(o,0)) w W3)(hgd:N.good x)
  (hi:B6 B χ (o,j+1) w4 r.a r.c (N.inner x)) (F4:Fr B χ (·=(o,j+1)) W3 w4):M3 B χ o w4 (some ⟨g,0,none⟩) c (rows.set j ⟨x,r.a,r.c⟩):=by
 have hj:j<rows.length:=(List.getElem?_eq_some_iff.1 hr).1
 refine⟨hown3.same (fun k hk h1 h2=>F4.block k h2 (fun e=>?_)),h.col,fun i q hq=>?_⟩
 ·have:=h.col k hk
  rw[this]at e
  simp at e
 ·by_cases hi2:i=j
  ·subst hi2
   rw[List.getElem?_set_self hj]at hq
   cases hq
   exact⟨hgd,hi⟩
  ·rw[List.getElem?_set_ne om]at hq
   obtain⟨h1,h2⟩:=h.each i q hq
   exact⟨h1,(h2.fr F3 si).fr F4 (by simp;omega)⟩
theorem aU6{γ:Type}{enc:γ→List Value}{size:Nat}(hsz:∀ x:γ,(enc x).length=size){y:γ}{i:Nat}{v:Value}(hi:i<size):∀ (l:List γ) (j:Nat) (x:γ),l[j]?=some x→enc y=(enc x).set i v→(l.flatMap enc).set (j*size+i) v=(l.set j y).flatMap enc
 | [],j,x,h,_=>by simp at h
 | z::l,0,x,h,hy=>by
  simp only[List.getElem?_cons_zero,Option.some.injEq]at h
  subst h
  simp only[List.flatMap_cons,List.set_cons_zero,Nat.zero_mul,Nat.zero_add]
  rw[List.set_append_left _ _ (by rw[hsz];exact hi),hy]
 | z::l,j+1,x,h,hy=>by
  simp only[List.flatMap_cons,List.set_cons_succ]
  rw[List.set_append_right _ _ (by rw[hsz,Nat.succ_mul];omega),hsz,show(j+1)*size+i - size=j*size+i by rw[Nat.succ_mul];omega,aU6 hsz hi l j x (by simpa using h) hy]
theorem M3.setCell{i:Nat}{v:Value}(h:M3 B χ o w (some ⟨g,0,none⟩) c rows)(hr:rows[j]?=some r)(hi:i<N.size)(henc:N.cells x r.a r.c=(N.cells r.x r.a r.c).set i v)(hin:N.inner x=N.inner r.x)(hgd:N.good x) :
  M3 B χ o (w.setCell ⟨g,j*N.size+i,none⟩ v) (some ⟨g,0,none⟩) c (rows.set j ⟨x,r.a,r.c⟩)∧w.grownBy (w.setCell ⟨g,j*N.size+i,none⟩ v) (some g):=by
 have hj:j<rows.length:=(List.getElem?_eq_some_iff.1 hr).1
 have s0:=(h.own.2).stored (j*N.size+i) v
 have hO:Own (aa0 (α:=α)) N.ty N.size B (w.setCell ⟨g,j*N.size+i,none⟩ v) (some ⟨g,0,none⟩) c (rows.set j ⟨x,r.a,r.c⟩):=by
  refine⟨h.own.1,?_⟩
  rw[← aU6 (y:=(⟨x,r.a,r.c⟩:N2 α)) h.own.1 hi rows j r hr (show aa0 (⟨x,r.a,r.c⟩:N2 α)=(aa0 r).set i v from henc),List.length_set]
  exact s0.1
 have F:=h.wrote s0.2
 refine⟨⟨hO,h.col,fun q s hs=>?_⟩,s0.2⟩
 by_cases hq:q=j
 ·subst hq
  rw[List.getElem?_set_self hj]at hs
  cases hs
  refine⟨hgd,?_⟩
  show B6 B χ (o,q+1) _ r.a r.c (N.inner x)
  rw[hin]
  exact((h.each q r hr).2).fr F si
 ·rw[List.getElem?_set_ne om]at hs
  obtain⟨h1,h2⟩:=h.each q s hs
  exact⟨h1,h2.fr F si⟩
end
def bv8{α β:Type}[N:ap4 α β][F:D7 β](f:α→Int→α)(g:α→Int→Int)(B:Nat)(χ:Nat→Col)(o:Nat)(w:World)(a:Option Addr)(c:Nat)(l:List α)(k:Int):Ending→World→Prop:=fun e w' =>
 ∃ rows:List (N2 α),e=.returned (.int .i64 (mnN g l k))∧rows.map (·.x)=mkN f g l k∧M3 B χ o w' a c rows∧Fr B χ (fun i=>i.1=o) w w'
theorem aN1{γ:Type}{f:γ→List Value}{y:γ}:∀ (l:List γ) (j:Nat) (x:γ),l[j]?=some x→f y=f x→(l.set j y).flatMap f=l.flatMap f
 | [],_,_,h,_=>by simp at h
 | z::l,0,x,h,e=>by
  simp only[List.getElem?_cons_zero,Option.some.injEq]at h
  subst h
  simp only[List.set_cons_zero,List.flatMap_cons,e]
 | z::l,j+1,x,h,e=>by
  simp only[List.set_cons_succ,List.flatMap_cons]
  rw[aN1 l j x (by simpa using h) e]
theorem M3.within{α β:Type}[N:ap4 α β][F:D7 β]{B o g c j:Nat}{χ:Nat→Col}{w w4:World}{rows:List (N2 α)}{r:N2 α}{x:α}(h:M3 B χ o w (some ⟨g,0,none⟩) c rows)(hr:rows[j]?=some r)(henc:N.cells x r.a r.c=N.cells r.x r.a r.c)(hgd:N.good x)(hi:B6 B χ (o,j+1) w4 r.a r.c (N.inner x))(F4:Fr B χ (·=(o,j+1)) w w4):M3 B χ o w4 (some ⟨g,0,none⟩) c (rows.set j ⟨x,r.a,r.c⟩):=by
 refine h.row hr ⟨h.own.1,?_⟩ (Fr.refl _ _ _ _) hgd hi F4
 rw[List.length_set,aN1 (f:=aa0) (y:=(⟨x,r.a,r.c⟩:N2 α)) rows j r hr (show aa0 (⟨x,r.a,r.c⟩:N2 α)=aa0 r from henc)]
 exact h.own.2
theorem bs3{α:Type}(f:α→Int→α)(g:α→Int→Int):∀ (l:List α) (k:Int) (j:Nat),(mkN f g l k)[j]?=(l[j]?).map (fun x=>f x (mnN g (l.take j) k))
 | [],_,_=>by simp[mkN]
 | x::r,k,0=>by simp[mkN,mnN]
 | x::r,k,j+1=>by simp[mkN,mnN,bs3 f g r (g x k) j]
theorem bd7{α:Type}(g:α→Int→Int)(l:List α)(k:Int){j:Nat}{x:α}(h:l[j]?=some x):mnN g (l.take (j+1)) k=g x (mnN g (l.take j) k):=by
 rw[List.take_add_one,h]
 exact aO9 g x _ k
theorem bn5{α:Type}[Enc α](l:List α)(j:Nat):d9 (l.take j)≤d9 l:=by
 have h:=av7 (l.take j) (l.drop j)
 rw[List.take_append_drop]at h
 have:=d6 (l.drop j)
 omega
theorem be3{χ:Nat→Col}{rows0:List (N2 A8)}(h0:M3 B χ o w a c rows0)(ht:d9 (rows0.map (·.x))≤100000000)(h1:0≤k0)(h2:k0≤500000000000) :
  Calls Tryz.prog 183 #[.slice a rows0.length c,.int .i64 k0] w (bv8 aa6 F6 B χ o w a c (rows0.map (·.x)) k0):=by
 obtain⟨n,hn⟩:∃ n,rows0.length=n:=⟨_,rfl⟩
 have hln:=f6 (rows0.map (·.x))
 have hm:n≤100000000:=by simp at hln;omega
 have HN:=lH hn
 have HT:=lH ht
 have HK:=lH (show ∀ (p:List A8),d9 p≤100000000→k0≤mnN F6 p k0∧mnN F6 p k0≤600000000000 from fun p hp=>by have:=au7 F6 ao6 p k0;omega)
 clear ht hln
 rw[hn];clear hn
 go_enter Tryz.func183,Tryz.ntmps183
 go_wp2_with fail
 go_loopw [1,5] (fun u v wr=>∃ (j:Nat) (p p0 q:List (N2 A8)) (kj:Int),v=.int .i64 j∧u=.int .i64 kj∧j≤n∧Hid (rows0=p0++q)∧Hid (p.length=j∧p0.length=j)∧Hid (p.map (fun r=>r.x)=mkN aa6 F6 (p0.map (fun r=>r.x)) k0)∧Hid (kj=mnN F6 (p0.map (fun r=>r.x)) k0)∧Hid (M3 B χ o wr a c (p++q))∧Hid (Fr B χ (fun i=>i.1=o) w wr)) (fun _ v _=>(n - intOf v).toNat)
 case atStart=>exact⟨0,[],[],rows0,k0,rfl,rfl,by omega,rfl,⟨rfl,rfl⟩,rfl,rfl,h0,Fr.refl _ _ _ _⟩
 case round =>
  obtain⟨j,p,p0,q,kj,rfl,rfl,hj,hR,hL,hP,hK,hO,hF⟩:=hrel
  by_cases h:j<n
  ·obtain⟨r,q',rfl⟩:∃ r q',q=r::q':=by
    cases q with
    | nil=>have h8:=congrArg List.length hR.out;have h9:=HN.out;have h7:=hL.out.2;simp at h8;omega
    | cons r q'=>exact⟨r,q',rfl⟩
   have hr:=az2 p q' r j hL.out.1
   have hE:=hO.out.each j r hr
   obtain⟨g,rfl,hg1,hg2⟩:=hO.out.own.open (n:=0) (by simp;omega)
   have hlen:(p++r::q').length=n:=by
    have h8:=congrArg List.length hR.out;have h9:=HN.out;have h7:=hL.out;simp at h8 ⊢;omega
   obtain⟨o0,g0⟩:=hO.out.own.cells (j:=j*4) (show j*4<(p++r::q').length*4 by rw[hlen];omega)
   obtain⟨o1,g1⟩:=hO.out.own.cells (j:=j*4+1) (show j*4+1<(p++r::q').length*4 by rw[hlen];omega)
   obtain⟨o2,g2⟩:=hO.out.own.cells (j:=j*4+2) (show j*4+2<(p++r::q').length*4 by rw[hlen];omega)
   have f0:=hO.out.own.free (j*4);have f1:=hO.out.own.free (j*4+1);have f2:=hO.out.own.free (j*4+2)
   have hkb:=HK.out (p0.map (fun r=>r.x)) (by have:=HT.out;rw[hR.out,List.map_append,av7]at this;have:=d6 ((r::q').map (fun r=>r.x));omega)
   rw[← hK.out]at hkb
   have hpt:r.x.Parts.length≤100000000:=by
    have h8:=HT.out;rw[hR.out,List.map_append,av7]at h8
    have h9:=d6 (p0.map (fun r=>r.x))
    have h7:=af1 (l:=(r::q').map (fun r=>r.x)) (x:=r.x) si
    have h6:=f6 r.x.Parts
    have h5:Enc.tot r.x=d9 r.x.Parts:=rfl
    omega
   have P3:=hO.out.own.put3of4 hr (y:=⟨aa6 r.x kj,r.a,r.c⟩) (v0:=.int .i64 kj) (v1:=.int .i64 (kj+1)) (v2:=.int .i64 (kj+1+1)) rfl (by show[_,_,_,Value.slice r.a (mkL r.x.Parts (kj+1+1+1)).length r.c]=_;rw[J1];rfl)
   have H3:=lH P3.1;have F3:=lH (hO.out.wrote P3.2.1);have C3:=P3.2.2;clear P3
   have HI:=lH (hE.2.fr F3.out si);have HGd:=lH hE.1;clear hE
   have HR:=lH hr;clear hr
   go_wp2_with fail
   refine(aj5 HI.out hpt om om).mono ?_
   rintro _ w4 ⟨rfl,hi,F4⟩
   have HI4:=lH hi;have HF4:=lH F4;clear hi F4
   go_wp2_with fail
   go_roundw
   case rel =>
    refine⟨j+1,p++[⟨aa6 r.x kj,r.a,r.c⟩],p0++[r],q',F6 r.x kj,by go_num,rfl,by omega,?_,⟨by simp[hL.out.1],by simp[hL.out.2]⟩,?_,?_,?_,?_⟩
    ·show rows0=_
     rw[hR.out];simp
    ·show List.map _ _=_
     rw[List.map_append,List.map_append]
     show _++[aa6 r.x kj]=mkN _ _ (_++[r.x]) _
     rw[bd6,hP.out,← hK.out]
    ·show F6 r.x kj=mnN _ (List.map _ (p0++[r])) _
     rw[List.map_append]
     show _=mnN _ (_++[r.x]) _
     rw[aO9,← hK.out]
    ·have:=hO.out.row HR.out H3.out F3.out (by show aq3 _;refine⟨?_,?_,?_,trivial⟩<;>(unfold i64 aa6;dsimp only;omega)) HI4.out HF4.out
     rw[aQ4 p q' r _ j hL.out.1]at this
     exact this
    ·exact(hF.out.trans (F3.out.wide (fun i e=>by rw[e]))).trans (HF4.out.wide (fun i e=>by rw[e]))
   case measure=>simp[intOf];omega
  ·have hjn:j=n:=by omega
   have hq:q=[]:=by
    have h8:=congrArg List.length hR.out;have h9:=HN.out;have h7:=hL.out.2;simp at h8
    exact List.length_eq_zero_iff.1 om
   have HQ:=lH hq;clear hq hjn
   go_wp2_with fail
   go_ret
   have hR2:=hR.out;have hO2:=hO.out
   rw[HQ.out,List.append_nil]at hR2 hO2
   exact⟨p,by rw[hK.out,hR2];rfl,by rw[hP.out,hR2],hO2,hF.out⟩
theorem aY4{χ:Nat→Col}{rows0:List (N2 s7)}(h0:M3 B χ o w a c rows0)(ht:d9 (rows0.map (·.x))≤100000000)(h1:0≤k0)(h2:k0≤500000000000) :
  Calls Tryz.prog 187 #[.slice a rows0.length c,.int .i64 k0] w (bv8 ad0 F9 B χ o w a c (rows0.map (·.x)) k0):=by
 obtain⟨n,hn⟩:∃ n,rows0.length=n:=⟨_,rfl⟩
 have hln:=f6 (rows0.map (·.x))
 have hm:n≤100000000:=by simp at hln;omega
 have HN:=lH hn
 have HT:=lH ht
 have HK:=lH (show ∀ (p:List s7),d9 p≤100000000→k0≤mnN F9 p k0∧mnN F9 p k0≤600000000000 from fun p hp=>by have:=au7 F9 al6 p k0;omega)
 clear ht hln
 rw[hn];clear hn
 go_enter Tryz.func187,Tryz.ntmps187
 go_wp2_with fail
 go_loopw [1,5] (fun u v wr=>∃ (j:Nat) (p p0 q:List (N2 s7)) (kj:Int),v=.int .i64 j∧u=.int .i64 kj∧j≤n∧Hid (rows0=p0++q)∧Hid (p.length=j∧p0.length=j)∧Hid (p.map (fun r=>r.x)=mkN ad0 F9 (p0.map (fun r=>r.x)) k0)∧Hid (kj=mnN F9 (p0.map (fun r=>r.x)) k0)∧Hid (M3 B χ o wr a c (p++q))∧Hid (Fr B χ (fun i=>i.1=o) w wr)) (fun _ v _=>(n - intOf v).toNat)
 case atStart=>exact⟨0,[],[],rows0,k0,rfl,rfl,by omega,rfl,⟨rfl,rfl⟩,rfl,rfl,h0,Fr.refl _ _ _ _⟩
 case round =>
  obtain⟨j,p,p0,q,kj,rfl,rfl,hj,hR,hL,hP,hK,hO,hF⟩:=hrel
  by_cases h:j<n
  ·obtain⟨r,q',rfl⟩:∃ r q',q=r::q':=by
    cases q with
    | nil=>have h8:=congrArg List.length hR.out;have h9:=HN.out;have h7:=hL.out.2;simp at h8;omega
    | cons r q'=>exact⟨r,q',rfl⟩
   have hr:=az2 p q' r j hL.out.1
   obtain⟨g,rfl,hg1,hg2⟩:=hO.out.own.open (n:=0) (by simp;omega)
   have hlen:(p++r::q').length=n:=by
    have h8:=congrArg List.length hR.out;have h9:=HN.out;have h7:=hL.out;simp at h8 ⊢;omega
   have hkb:=HK.out (p0.map (fun r=>r.x)) (by have:=HT.out;rw[hR.out,List.map_append,av7]at this;have:=d6 ((r::q').map (fun r=>r.x));omega)
   rw[← hK.out]at hkb
   have hpt:r.x.Queue.length≤100000000:=by
    have h8:=HT.out;rw[hR.out,List.map_append,av7]at h8
    have h9:=d6 (p0.map (fun r=>r.x))
    have h7:=af1 (l:=(r::q').map (fun r=>r.x)) (x:=r.x) si
    have h6:=f6 r.x.Queue
    have h5:Enc.tot r.x=(r.x.Data.size:Int)+d9 r.x.Queue:=rfl
    omega
   obtain⟨o0,g0⟩:=hO.out.own.cells (j:=j*4) (show j*4<(p++r::q').length*4 by rw[hlen];omega)
   have f0:=hO.out.own.free (j*4)
   have hgd:=(hO.out.each j r hr).1
   have HGd:=lH hgd;clear hgd
   have S1:=lH (hO.out.setCell (i:=0) (v:=.int .i64 kj) (x:={ r.x with File:=kj }) hr de rfl rfl (by show af7 _;exact⟨by unfold i64;dsimp only;omega,HGd.out.2⟩))
   have HR:=lH hr;clear hr
   go_wp2_with fail
   refine gm (L5 om) ?_
   intro y
   have S1c:M3 B χ o (wr.setCell ⟨g,j*4,none⟩ (.int .i64 kj)) (some ⟨g,0,none⟩) c (p++(⟨{ r.x with File:=kj },r.a,r.c⟩:N2 s7)::q'):=by have:=S1.out.1;rw[aQ4 p q' r _ j hL.out.1,List.append_assoc]at this;exact this
   have F1:Fr B χ (fun i=>i.1=o) wr y.w:=((hO.out.wrote S1.out.2).wide (fun i e=>by rw[e])).trans (Fr.grows _ _ _ _ _)
   have T1:=lH (S1c.to (ii:b8 _ y.w));have HF1:=lH F1;clear S1 S1c F1
   have hlen1:(p++(⟨{ r.x with File:=kj },r.a,r.c⟩:N2 s7)::q').length=n:=by rw[← hlen];simp
   obtain⟨o1,g1⟩:=T1.out.own.cells (j:=j*4+1) (show j*4+1<_*4 by rw[hlen1];omega)
   have f1:=T1.out.own.free (j*4+1)
   have S2:=T1.out.setCell (i:=1) (v:=.string (N1 (kj+1))) (x:={ r.x with File:=kj,Data:=N1 (kj+1) }) (az2 p q' _ j hL.out.1) de rfl rfl (by show af7 _;exact⟨by unfold i64;dsimp only;omega,V7 om om,trivial⟩)
   have T2:=lH (show M3 B χ o (y.w.setCell ⟨g,j*4+1,none⟩ (.string (N1 (kj+1)))) (some ⟨g,0,none⟩) c (p++(⟨{ r.x with File:=kj,Data:=N1 (kj+1) },r.a,r.c⟩:N2 s7)::q')by have:=S2.1;rw[aQ4 p q' _ _ j hL.out.1,List.append_assoc]at this;exact this)
   have HF2:=lH (show Fr B χ (fun i=>i.1=o) wr (y.w.setCell ⟨g,j*4+1,none⟩ (.string (N1 (kj+1))))from HF1.out.trans ((T1.out.wrote S2.2).wide (fun i e=>by rw[e])));clear S2
   obtain⟨b1,off1,r1,hb1,hb2,hd,e0,e1,e2,e3⟩:=T2.out.own.sl.nFileOut (k:=j) (by have h8:=hlen1;simp at h8 ⊢;omega)
   cases hb1
   have hr1:r1=⟨{ r.x with File:=kj,Data:=N1 (kj+1) },r.a,r.c⟩:=by
    have h8:=congrArg (fun m=>m[0]?) hd.out
    simp only[List.getElem?_drop,Nat.add_zero,az2 p q' _ j hL.out.1,List.getElem?_cons_zero,Option.some.injEq]at h8
    exact h8.symm
   subst hr1
   simp only[Nat.zero_add]at e0 e1 e2 e3
   have E2:(y.set ⟨g,j*4+1,none⟩ (.string (N1 (kj+1)))).w.cell? ⟨g,j*4+2,none⟩=some (.slice r.a r.x.Queue.length r.c):=e2 (y.w.setCell ⟨g,j*4+1,none⟩ (.string (N1 (kj+1))))
   have HI:=lH (show B6 B χ (o,j+1) (y.w.setCell ⟨g,j*4+1,none⟩ (.string (N1 (kj+1)))) r.a r.c r.x.Queue from(T2.out.each j _ (az2 p q' _ j hL.out.1)).2)
   clear e0 e1 e2 e3 hd hb2
   go_wp2_with fail
   refine(ar8 HI.out hpt om om).mono ?_
   intro e w4 hq
   obtain⟨he,hi,F4⟩:=hq
   obtain⟨K,hK2⟩:∃ K:Int,K=kj+1+1+(r.x.Queue.length:Int)*((1:Nat):Int):=⟨_,rfl⟩
   obtain rfl:e=.returned (.int .i64 K):=he.trans (by rw[hK2];rfl)
   have hKb:0≤K∧K≤900000000000:=by omega
   have HK2:=lH hK2;have HI4:=lH hi;have HF4:=lH F4
   clear he hK2 hi F4 E2 g1 f1
   have T3:=lH (show M3 B χ o w4 (some ⟨g,0,none⟩) c (p++(⟨{ r.x with File:=kj,Data:=N1 (kj+1),Queue:=mkL r.x.Queue (kj+1+1) },r.a,r.c⟩:N2 s7)::q')by
    have:=T2.out.within (x:={ r.x with File:=kj,Data:=N1 (kj+1),Queue:=mkL r.x.Queue (kj+1+1) }) (az2 p q' _ j hL.out.1) (by show[_,_,Value.slice r.a (mkL r.x.Queue (kj+1+1)).length r.c,_]=_;rw[J1];rfl) (by show af7 _;exact⟨by unfold i64;dsimp only;omega,V7 om om,trivial⟩) HI4.out HF4.out
    rw[aQ4 p q' _ _ j hL.out.1,List.append_assoc]at this;exact this)
   have hlen3:(p++(⟨{ r.x with File:=kj,Data:=N1 (kj+1),Queue:=mkL r.x.Queue (kj+1+1) },r.a,r.c⟩:N2 s7)::q').length=n:=by rw[← hlen];simp
   obtain⟨o3,g3⟩:=T3.out.own.cells (j:=j*4+3) (show j*4+3<_*4 by rw[hlen3];omega)
   have f3:=T3.out.own.free (j*4+3)
   have S4:=T3.out.setCell (i:=3) (v:=.bool (decide (K % 3=0))) (x:={ r.x with File:=kj,Data:=N1 (kj+1),Queue:=mkL r.x.Queue (kj+1+1),Done:=decide (K % 3=0) }) (az2 p q' _ j hL.out.1) de rfl rfl (by show af7 _;exact⟨by unfold i64;dsimp only;omega,V7 om om,trivial⟩)
   have T4:=lH (show M3 B χ o (w4.setCell ⟨g,j*4+3,none⟩ (.bool (decide (K % 3=0)))) (some ⟨g,0,none⟩) c (p++(⟨{ r.x with File:=kj,Data:=N1 (kj+1),Queue:=mkL r.x.Queue (kj+1+1),Done:=decide (K % 3=0) },r.a,r.c⟩:N2 s7)::q')by have:=S4.1;rw[aQ4 p q' _ _ j hL.out.1,List.append_assoc]at this;exact this)
   have HF5:=lH (show Fr B χ (fun i=>i.1=o) w4 (w4.setCell ⟨g,j*4+3,none⟩ (.bool (decide (K % 3=0))))from(T3.out.wrote S4.2).wide (fun i e=>by rw[e]))
   clear S4 hlen3 hlen1
   have ht:Int.tmod K 3=K % 3:=Int.tmod_eq_emod_of_nonneg om
   go_wp2_with fail
   go_roundw
   case rel =>
    have eK:=HK2.out
    refine⟨j+1,p++[⟨ad0 r.x kj,r.a,r.c⟩],p0++[r],q',K+1,by go_num,rfl,by omega,?_,⟨by simp[hL.out.1],by simp[hL.out.2]⟩,?_,?_,?_,?_⟩
    ·show rows0=_
     rw[hR.out];simp
    ·show List.map _ _=_
     rw[List.map_append,List.map_append]
     show _++[ad0 r.x kj]=mkN _ _ (_++[r.x]) _
     rw[bd6,hP.out,← hK.out]
    ·show K+1=mnN _ (List.map _ (p0++[r])) _
     rw[List.map_append]
     show _=mnN _ (_++[r.x]) _
     rw[aO9,← hK.out,eK];rfl
    ·have:=T4.out
     rw[eK]at this ⊢
     rw[List.append_assoc]
     exact this
    ·exact(hF.out.trans HF2.out).trans ((HF4.out.wide (fun i e=>by rw[e])).trans HF5.out)
   case measure=>simp[intOf];omega
  ·have hjn:j=n:=by omega
   have hq:q=[]:=by
    have h8:=congrArg List.length hR.out;have h9:=HN.out;have h7:=hL.out.2;simp at h8
    exact List.length_eq_zero_iff.1 om
   have HQ:=lH hq;clear hq hjn
   go_wp2_with fail
   go_ret
   have hR2:=hR.out;have hO2:=hO.out
   rw[HQ.out,List.append_nil]at hR2 hO2
   exact⟨p,by rw[hK.out,hR2];rfl,by rw[hP.out,hR2],hO2,hF.out⟩
theorem be1{l:List A8}(hs:RdS B w a c (mkN aa6 F6 l k0))(ht:d9 l≤100000000)(h1:0≤k0)(h2:k0≤500000000000) :
  Calls Tryz.prog 191 #[.slice a l.length c,.int .i64 k0] w (b5 w (.int .i64 (mnN F6 l k0))):=by
 obtain⟨n,hn⟩:∃ n,l.length=n:=⟨_,rfl⟩
 have hln:=f6 l
 have hm:n≤100000000:=by omega
 have HN:=lH hn
 have HT:=lH ht
 have HK:=lH (show ∀ (p:List A8),d9 p≤100000000→k0≤mnN F6 p k0∧mnN F6 p k0≤600000000000 from fun p hp=>by have:=au7 F6 ao6 p k0;omega)
 have HS:=lH hs
 clear ht hln hs
 rw[hn];clear hn
 go_enter Tryz.func191,Tryz.ntmps191
 go_wp2_with fail
 go_loopw [1,5] (fun u v wr=>∃ (j:Nat) (kj:Int),v=.int .i64 j∧u=.int .i64 kj∧j≤n∧Hid (kj=mnN F6 (l.take j) k0)∧∃ x:b7 w,wr=x.w) (fun _ v _=>(n - intOf v).toNat)
 case atStart=>exact⟨0,k0,rfl,rfl,by omega,rfl,b7.of⟩
 case round =>
  obtain⟨j,kj,rfl,rfl,hj,hK,x0,rfl⟩:=hrel
  by_cases h:j<n
  ·have hlj:j<l.length:=by rw[HN.out];exact h
   obtain⟨eb,eoff,ex,ea0,ec0,rfl,ehb,ehd,eq0,eok,eh0,eh1,eh2,eh3⟩:=HS.out.atTFileIn (k:=j) (by rw[au5];exact hlj)
   have hy:=List.getElem?_eq_getElem hlj
   obtain⟨y,hY⟩:∃ y,y=l[j]:=⟨_,rfl⟩
   rw[← hY]at hy
   have hex:ex=aa6 y kj:=by
    have h8:=congrArg (fun m=>m[0]?) ehd.out
    simp only[List.getElem?_drop,Nat.add_zero,bs3,hy,Option.map_some,List.getElem?_cons_zero,Option.some.injEq]at h8
    rw[hK.out];exact h8.symm
   subst hex
   have hkb:=HK.out (l.take j) (by have:=bn5 l j;have:=HT.out;omega)
   rw[← hK.out]at hkb
   have hpt:y.Parts.length≤100000000:=by
    have h7:=af1 (List.mem_of_getElem? hy);have h8:=HT.out;have h6:=f6 y.Parts;have h5:Enc.tot y=d9 y.Parts:=rfl;omega
   have HY:=lH hy
   have EQ:=lH (show RdS B w ea0 ec0 (mkL y.Parts (kj+1+1+1))from eq0)
   simp only[aa6,J1]at eh0 eh1 eh2 eh3
   clear hY hy ehd eok eq0
   go_wp2_with fail
   refine(aj4 (EQ.out.keep ii) hpt om om).mono ?_
   intro e w4 hq
   obtain⟨he,y4,hw4⟩:=hq
   obtain⟨K,hK2⟩:∃ K:Int,K=F6 y kj:=⟨_,rfl⟩
   obtain rfl:e=.returned (.int .i64 K):=he.trans (by rw[hK2];rfl)
   have hKb:0≤K∧K≤900000000000:=by unfold F6 at hK2;omega
   have HK2:=lH hK2;clear he hK2
   subst hw4
   go_wp2_with fail
   go_roundw
   case rel=>exact⟨j+1,K,by go_num,rfl,by omega,(show K=_ by rw[bd7 _ _ _ HY.out,← hK.out];exact HK2.out),b7.of⟩
   case measure=>simp[intOf];omega
  ·go_wp2_with fail
   go_ret
   have e:=hK.out
   rw[List.take_of_length_le (by have:=HN.out;omega)]at e
   exact b5.mk (by rw[e];rfl)
theorem aY1{l:List s7}(hs:RdS B w a c (mkN ad0 F9 l k0))(ht:d9 l≤100000000)(h1:0≤k0)(h2:k0≤500000000000) :
  Calls Tryz.prog 195 #[.slice a l.length c,.int .i64 k0] w (b5 w (.int .i64 (mnN F9 l k0))):=by
 obtain⟨n,hn⟩:∃ n,l.length=n:=⟨_,rfl⟩
 have hln:=f6 l
 have hm:n≤100000000:=by omega
 have HN:=lH hn
 have HT:=lH ht
 have HK:=lH (show ∀ (p:List s7),d9 p≤100000000→k0≤mnN F9 p k0∧mnN F9 p k0≤600000000000 from fun p hp=>by have:=au7 F9 al6 p k0;omega)
 have HS:=lH hs
 clear ht hln hs
 rw[hn];clear hn
 go_enter Tryz.func195,Tryz.ntmps195
 go_wp2_with fail
 go_loopw [1,5] (fun u v wr=>∃ (j:Nat) (kj:Int),v=.int .i64 j∧u=.int .i64 kj∧j≤n∧Hid (kj=mnN F9 (l.take j) k0)∧∃ x:b7 w,wr=x.w) (fun _ v _=>(n - intOf v).toNat)
 case atStart=>exact⟨0,k0,rfl,rfl,by omega,rfl,b7.of⟩
 case round =>
  obtain⟨j,kj,rfl,rfl,hj,hK,x0,rfl⟩:=hrel
  by_cases h:j<n
  ·have hlj:j<l.length:=by rw[HN.out];exact h
   obtain⟨eb,eoff,ex,ea0,ec0,rfl,ehb,ehd,eq0,eok,eh0,eh1,eh2,eh3⟩:=HS.out.atTFileOut (k:=j) (by rw[au5];exact hlj)
   have hy:=List.getElem?_eq_getElem hlj
   obtain⟨y,hY⟩:∃ y,y=l[j]:=⟨_,rfl⟩
   rw[← hY]at hy
   have hex:ex=ad0 y kj:=by
    have h8:=congrArg (fun m=>m[0]?) ehd.out
    simp only[List.getElem?_drop,Nat.add_zero,bs3,hy,Option.map_some,List.getElem?_cons_zero,Option.some.injEq]at h8
    rw[hK.out];exact h8.symm
   subst hex
   have hkb:=HK.out (l.take j) (by have:=bn5 l j;have:=HT.out;omega)
   rw[← hK.out]at hkb
   have hpt:y.Queue.length≤100000000:=by
    have h7:=af1 (List.mem_of_getElem? hy);have h8:=HT.out;have h6:=f6 y.Queue;have h5:Enc.tot y=(y.Data.size:Int)+d9 y.Queue:=rfl;omega
   have HY:=lH hy
   have EQ:=lH (show RdS B w ea0 ec0 (mkL y.Queue (kj+1+1))from eq0)
   obtain⟨K,hK2⟩:∃ K:Int,K=kj+1+1+(y.Queue.length:Int)*((1:Nat):Int):=⟨_,rfl⟩
   have hKb:0≤K∧K≤900000000000:=by omega
   have E3:∀ (W:World) [b8 w W],W.cell? ⟨eb,eoff+j*4+3,none⟩=some (.bool (decide (K % 3=0))):=by rw[hK2];exact eh3
   have HK2:=lH hK2;clear hK2 eh3
   simp only[ad0,J1]at eh0 eh1 eh2
   clear hY hy ehd eok eq0
   have ht:Int.tmod K 3=K % 3:=Int.tmod_eq_emod_of_nonneg om
   have hx:((N1 (kj+1)).toList != (N1 (kj+1)).toList)=false:=by simp
   by_cases h3:K % 3=0
   ·have hD:decide (K % 3=0)=true:=by simpa using h3
    rw[hD]at E3;clear hD
    go_wp2_with (first|((with_reducible refine rl ?_);(repeat(first|go_big_quiet_step (first|(go_at_call 179;exact b5.quiet (L5 om)))|simp only[hx]|simp only[ht]|simp only[h3]));refine wpQuiet_nil ?_;intro x)|(go_at_call 179;refine gm (L5 om) ?_;intro x))
    refine(an0 (EQ.out.keep ii) hpt om om).mono ?_
    intro e w4 hq
    obtain⟨he,y4,hw4⟩:=hq
    obtain rfl:e=.returned (.int .i64 K):=he.trans (by rw[HK2.out];rfl)
    clear he
    subst hw4
    go_wp2_with fail
    go_roundw
    case rel=>exact⟨j+1,K+1,by go_num,rfl,by omega,(show K+1=_ by rw[bd7 _ _ _ HY.out,← hK.out,HK2.out];rfl),b7.of⟩
    case measure=>simp[intOf];omega
   ·have hD:decide (K % 3=0)=false:=by simpa using h3
    rw[hD]at E3;clear hD
    go_wp2_with (first|((with_reducible refine rl ?_);(repeat(first|go_big_quiet_step (first|(go_at_call 179;exact b5.quiet (L5 om)))|simp only[hx]|simp only[ht]|simp only[h3]));refine wpQuiet_nil ?_;intro x)|(go_at_call 179;refine gm (L5 om) ?_;intro x))
    refine(an0 (EQ.out.keep ii) hpt om om).mono ?_
    intro e w4 hq
    obtain⟨he,y4,hw4⟩:=hq
    obtain rfl:e=.returned (.int .i64 K):=he.trans (by rw[HK2.out];rfl)
    clear he
    subst hw4
    go_wp2_with fail
    go_roundw
    case rel=>exact⟨j+1,K+1,by go_num,rfl,by omega,(show K+1=_ by rw[bd7 _ _ _ HY.out,← hK.out,HK2.out];rfl),b7.of⟩
    case measure=>simp[intOf];omega
  ·go_wp2_with fail
   go_ret
   have e:=hK.out
   rw[List.take_of_length_le (by have:=HN.out;omega)]at e
   exact b5.mk (by rw[e];rfl)
def Rng(a b:Nat):Col→Prop:=fun i=>a≤i.1∧i.1<b
theorem Rng.out{a b j k:Nat}(h:j<a∨b≤j):¬ Rng a b (j,k):=fun e=>by have h1:a≤j:=e.1;have h2:j<b:=e.2;omega
def ar2(χ:Nat→Col)(w:World):Prop:=∀ b,w.heap.size≤b→1000≤(χ b).1
theorem ar2.mono{χ:Nat→Col}{w w':World}(h:ar2 χ w)(g:w.heap.size≤w'.heap.size):ar2 χ w':=fun b hb=>h b (Nat.le_trans g hb)
section
variable {B:Nat} {χ:Nat→Col} {w w1 w2:World} {a b c j:Nat}
theorem Fr.rng0(h:Fr B χ (·=(j,0)) w w1):Fr B χ (Rng j (j+1)) w w1:=h.wide fun i e=>by subst e;exact⟨Nat.le_refl _,Nat.lt_succ_self _⟩
theorem Fr.rngN(h:Fr B χ (fun i=>i.1=j) w w1):Fr B χ (Rng j (j+1)) w w1:=h.wide fun i e=>by subst e;exact⟨Nat.le_refl _,Nat.lt_succ_self _⟩
theorem Fr.tr(h:Fr B χ (Rng a b) w w1)(k:Fr B χ (Rng b c) w1 w2)(h1:a≤b)(h2:b≤c):Fr B χ (Rng a c) w w2 :=
 (h.wide (C':=Rng a c) fun i e=>⟨e.1,Nat.lt_of_lt_of_le e.2 h2⟩).trans (k.wide fun i e=>⟨Nat.le_trans h1 e.1,e.2⟩)
theorem j5.frm{cs:List Value}{T:TypeId}{q:Nat}(h:j5 w q cs T)(f:Fr B χ (Rng a b) w w1)(hb:b≤1000)(hq:1000≤(χ q).1):j5 w1 q cs T:=by
 unfold j5
 rw[f.block q h.lt (fun e=>by have:=e.2.2;omega)];exact h
end
def Mkd(K:Int)(G H:World→Prop):Ending→World→Prop:=fun e w'=>e=.returned (.int .i64 K)∧G w'∧H w'
theorem be4{χ:Nat→Col}{l:List A8}(h0:∃ rows:List (N2 A8),rows.map (·.x)=l∧M3 B χ o w a c rows)(ht:d9 l≤100000000)(h1:0≤k)(h2:k≤500000000000) :
  Calls Tryz.prog 183 #[.slice a l.length c,.int .i64 k] w (Mkd (mnN F6 l k) (fun w'=>∃ rows:List (N2 A8),rows.map (·.x)=mkN aa6 F6 l k∧M3 B χ o w' a c rows) (Fr B χ (Rng o (o+1)) w)):=by
 obtain⟨rows,rfl,h⟩:=h0
 have:=be3 (k0:=k) h ht h1 h2
 rw[show rows.length=(rows.map (·.x)).length by simp]at this
 exact this.mono fun _ _ ⟨r,he,hr,ho,hf⟩=>⟨he,⟨r,hr,ho⟩,hf.rngN⟩
theorem aY5{χ:Nat→Col}{l:List s7}(h0:∃ rows:List (N2 s7),rows.map (·.x)=l∧M3 B χ o w a c rows)(ht:d9 l≤100000000)(h1:0≤k)(h2:k≤500000000000) :
  Calls Tryz.prog 187 #[.slice a l.length c,.int .i64 k] w (Mkd (mnN F9 l k) (fun w'=>∃ rows:List (N2 s7),rows.map (·.x)=mkN ad0 F9 l k∧M3 B χ o w' a c rows) (Fr B χ (Rng o (o+1)) w)):=by
 obtain⟨rows,rfl,h⟩:=h0
 have:=aY4 (k0:=k) h ht h1 h2
 rw[show rows.length=(rows.map (·.x)).length by simp]at this
 exact this.mono fun _ _ ⟨r,he,hr,ho,hf⟩=>⟨he,⟨r,hr,ho⟩,hf.rngN⟩
def aa8(x:Q8)(k:Int):Int:=k+(x.Starts.length:Int)*((1:Nat):Int)
def aG5(x:Q8)(k:Int):Q8:={ x with Starts:=mkL x.Starts (k) }
theorem az5(x:Q8)(k:Int):k≤aa8 x k∧aa8 x k≤k+5*Enc.tot x:=by
 have t:Enc.tot x=(x.Rest.size:Int)+d9 x.Starts:=rfl
 have a0:=f6 x.Starts
 unfold aa8;omega
def Y9(x:E8)(k:Int):Int:=k+(x.Waiting.length:Int)*((2:Nat):Int)
def aG6(x:E8)(k:Int):E8:={ x with Waiting:=mkL x.Waiting (k) }
theorem az6(x:E8)(k:Int):k≤Y9 x k∧Y9 x k≤k+5*Enc.tot x:=by
 have t:Enc.tot x=d9 x.Waiting:=rfl
 have a0:=f6 x.Waiting
 unfold Y9;omega
def ac1(x:I9)(k:Int):Int:=k+(x.Records.length:Int)*((4:Nat):Int)+(x.Dropped.length:Int)*((1:Nat):Int)
def am9(x:I9)(k:Int):I9:={ x with Records:=mkL x.Records (k),Dropped:=mkL x.Dropped (k+(x.Records.length:Int)*((4:Nat):Int)) }
theorem au6(x:I9)(k:Int):k≤ac1 x k∧ac1 x k≤k+5*Enc.tot x:=by
 have t:Enc.tot x=d9 x.Records+d9 x.Dropped:=rfl
 have a0:=f6 x.Records
 have a1:=f6 x.Dropped
 unfold ac1;omega
def ac0(x:I3)(k:Int):Int:=ac1 x.Recorder (k+(x.Params.length:Int)*((1:Nat):Int)+(x.Limits.length:Int)*((3:Nat):Int)+(x.Orders.length:Int)*((5:Nat):Int)+(x.Done.length:Int)*((3:Nat):Int))+(x.Asked.length:Int)*((1:Nat):Int)
def aO7(x:I3)(k:Int):I3:={ x with Params:=mkL x.Params (k),Limits:=mkL x.Limits (k+(x.Params.length:Int)*((1:Nat):Int)),Orders:=mkL x.Orders (k+(x.Params.length:Int)*((1:Nat):Int)+(x.Limits.length:Int)*((3:Nat):Int)),Done:=mkL x.Done (k+(x.Params.length:Int)*((1:Nat):Int)+(x.Limits.length:Int)*((3:Nat):Int)+(x.Orders.length:Int)*((5:Nat):Int)),Recorder:=am9 x.Recorder (k+(x.Params.length:Int)*((1:Nat):Int)+(x.Limits.length:Int)*((3:Nat):Int)+(x.Orders.length:Int)*((5:Nat):Int)+(x.Done.length:Int)*((3:Nat):Int)),Asked:=mkL x.Asked (ac1 x.Recorder (k+(x.Params.length:Int)*((1:Nat):Int)+(x.Limits.length:Int)*((3:Nat):Int)+(x.Orders.length:Int)*((5:Nat):Int)+(x.Done.length:Int)*((3:Nat):Int))) }
theorem aD9(x:I3)(k:Int):k≤ac0 x k∧ac0 x k≤k+5*Enc.tot x:=by
 have t:Enc.tot x=d9 x.Params+d9 x.Limits+d9 x.Orders+d9 x.Done+Enc.tot x.Recorder+d9 x.Asked:=rfl
 have a0:=f6 x.Params
 have a1:=f6 x.Limits
 have a2:=f6 x.Orders
 have a3:=f6 x.Done
 have a4:=au6 x.Recorder (k+(x.Params.length:Int)*((1:Nat):Int)+(x.Limits.length:Int)*((3:Nat):Int)+(x.Orders.length:Int)*((5:Nat):Int)+(x.Done.length:Int)*((3:Nat):Int))
 have a5:=f6 x.Asked
 have b6:=Enc.tot_nonneg x.Recorder
 unfold ac0;omega
def aa7(x:I8)(k:Int):Int:=mnN F6 x.Files (Y9 x.Sender (k+(x.Offers.length:Int)*((1:Nat):Int))+(x.Pairs.length:Int)*((2:Nat):Int)+(x.Records.length:Int)*((4:Nat):Int))+(x.Told.length:Int)*((1:Nat):Int)
def aG4(x:I8)(k:Int):I8:={ x with Offers:=mkL x.Offers (k),Sender:=aG6 x.Sender (k+(x.Offers.length:Int)*((1:Nat):Int)),Pairs:=mkL x.Pairs (Y9 x.Sender (k+(x.Offers.length:Int)*((1:Nat):Int))),Records:=mkL x.Records (Y9 x.Sender (k+(x.Offers.length:Int)*((1:Nat):Int))+(x.Pairs.length:Int)*((2:Nat):Int)),Files:=mkN aa6 F6 x.Files (Y9 x.Sender (k+(x.Offers.length:Int)*((1:Nat):Int))+(x.Pairs.length:Int)*((2:Nat):Int)+(x.Records.length:Int)*((4:Nat):Int)),Told:=mkL x.Told (mnN F6 x.Files (Y9 x.Sender (k+(x.Offers.length:Int)*((1:Nat):Int))+(x.Pairs.length:Int)*((2:Nat):Int)+(x.Records.length:Int)*((4:Nat):Int))) }
theorem az4(x:I8)(k:Int):k≤aa7 x k∧aa7 x k≤k+5*Enc.tot x:=by
 have t:Enc.tot x=d9 x.Offers+Enc.tot x.Sender+Enc.tot x.Unpacker+d9 x.Pairs+d9 x.Records+d9 x.Files+d9 x.Told:=rfl
 have a0:=f6 x.Offers
 have a1:=az6 x.Sender (k+(x.Offers.length:Int)*((1:Nat):Int))
 have a2:=f6 x.Pairs
 have a3:=f6 x.Records
 have a4:=au7 F6 ao6 x.Files (Y9 x.Sender (k+(x.Offers.length:Int)*((1:Nat):Int))+(x.Pairs.length:Int)*((2:Nat):Int)+(x.Records.length:Int)*((4:Nat):Int))
 have a5:=f6 x.Told
 have b1:=Enc.tot_nonneg x.Sender
 have b3:=Enc.tot_nonneg x.Unpacker
 unfold aa7;omega
def al7(x:M0)(k:Int):Int:=mnN F9 x.Outs (aa8 x.Packer (ac0 x.Board (k))+(x.Files.length:Int)*((1:Nat):Int))+(x.Sent.length:Int)*((4:Nat):Int)
def aO8(x:M0)(k:Int):M0:={ x with Board:=aO7 x.Board (k),Packer:=aG5 x.Packer (ac0 x.Board (k)),Files:=mkL x.Files (aa8 x.Packer (ac0 x.Board (k))),Outs:=mkN ad0 F9 x.Outs (aa8 x.Packer (ac0 x.Board (k))+(x.Files.length:Int)*((1:Nat):Int)),Sent:=mkL x.Sent (mnN F9 x.Outs (aa8 x.Packer (ac0 x.Board (k))+(x.Files.length:Int)*((1:Nat):Int))) }
theorem aE0(x:M0)(k:Int):k≤al7 x k∧al7 x k≤k+5*Enc.tot x:=by
 have t:Enc.tot x=Enc.tot x.Board+Enc.tot x.Packer+d9 x.Files+d9 x.Outs+d9 x.Sent:=rfl
 have a0:=aD9 x.Board (k)
 have a1:=az5 x.Packer (ac0 x.Board (k))
 have a2:=f6 x.Files
 have a3:=au7 F9 al6 x.Outs (aa8 x.Packer (ac0 x.Board (k))+(x.Files.length:Int)*((1:Nat):Int))
 have a4:=f6 x.Sent
 have b1:=Enc.tot_nonneg x.Board
 have b2:=Enc.tot_nonneg x.Packer
 unfold al7;omega
def ag7(x:f7)(k:Int):Int:=al7 x.Space (aa7 x.Ground (k+(x.Plan.length:Int)*((2:Nat):Int)+(x.Ups.length:Int)*((2:Nat):Int)+(x.Downs.length:Int)*((2:Nat):Int)))+(x.Offered.length:Int)*((1:Nat):Int)+(x.Took.length:Int)*((1:Nat):Int)
def i8(x:f7)(k:Int):f7:={ x with Plan:=mkL x.Plan (k),Ups:=mkL x.Ups (k+(x.Plan.length:Int)*((2:Nat):Int)),Downs:=mkL x.Downs (k+(x.Plan.length:Int)*((2:Nat):Int)+(x.Ups.length:Int)*((2:Nat):Int)),Ground:=aG4 x.Ground (k+(x.Plan.length:Int)*((2:Nat):Int)+(x.Ups.length:Int)*((2:Nat):Int)+(x.Downs.length:Int)*((2:Nat):Int)),Space:=aO8 x.Space (aa7 x.Ground (k+(x.Plan.length:Int)*((2:Nat):Int)+(x.Ups.length:Int)*((2:Nat):Int)+(x.Downs.length:Int)*((2:Nat):Int))),Offered:=mkL x.Offered (al7 x.Space (aa7 x.Ground (k+(x.Plan.length:Int)*((2:Nat):Int)+(x.Ups.length:Int)*((2:Nat):Int)+(x.Downs.length:Int)*((2:Nat):Int)))),Took:=mkL x.Took (al7 x.Space (aa7 x.Ground (k+(x.Plan.length:Int)*((2:Nat):Int)+(x.Ups.length:Int)*((2:Nat):Int)+(x.Downs.length:Int)*((2:Nat):Int)))+(x.Offered.length:Int)*((1:Nat):Int)) }
theorem aJ4(x:f7)(k:Int):k≤ag7 x k∧ag7 x k≤k+5*Enc.tot x:=by
 have t:Enc.tot x=d9 x.Plan+d9 x.Ups+d9 x.Downs+Enc.tot x.Ground+Enc.tot x.Space+d9 x.Offered+d9 x.Took:=rfl
 have a0:=f6 x.Plan
 have a1:=f6 x.Ups
 have a2:=f6 x.Downs
 have a3:=az4 x.Ground (k+(x.Plan.length:Int)*((2:Nat):Int)+(x.Ups.length:Int)*((2:Nat):Int)+(x.Downs.length:Int)*((2:Nat):Int))
 have a4:=aE0 x.Space (aa7 x.Ground (k+(x.Plan.length:Int)*((2:Nat):Int)+(x.Ups.length:Int)*((2:Nat):Int)+(x.Downs.length:Int)*((2:Nat):Int)))
 have a5:=f6 x.Offered
 have a6:=f6 x.Took
 have b9:=Enc.tot_nonneg x.Ground
 have b10:=Enc.tot_nonneg x.Space
 unfold ag7;omega
theorem bj8{χ:Nat→Col}{x:Q8}(F:ab2 B χ o w a0 c0 x)(hf:ar2 χ w)(hB:B≤w.heap.size)(ho:o+1≤1000)(ht:Enc.tot x≤100000000)(h1:0≤k)(h2:k≤400000000000) :
  Calls Tryz.prog 186 #[.agg #[.int .i64 x.Channel,.int .i64 x.Count,.string x.Rest,.slice a0 x.Starts.length c0],.int .i64 k] w (Mkd (aa8 x k) (fun w2=>ab2 B χ o w2 a0 c0 (aG5 x k)) (Fr B χ (Rng o (o+1)) w)):=by
 have htot:Enc.tot x=(x.Rest.size:Int)+d9 x.Starts:=rfl
 have t3:=d6 x.Starts;have l3:=f6 x.Starts
 have HOK:=lH F.ok
 have HB0:=lH (j5.new w [.int .i64 x.Channel,.int .i64 x.Count,.string x.Rest,.slice a0 x.Starts.length c0] 85 w.heap.size rfl)
 have hFB:1000≤(χ w.heap.size).1:=hf _ nl
 have FA0:=lH (show Fr B χ (Rng o (o+0)) w (w.alloc (.cells #[.int .i64 x.Channel,.int .i64 x.Count,.string x.Rest,.slice a0 x.Starts.length c0] 85))from Fr.grows _ _ _ _ _)
 have HFF:=lH F;clear F
 have HFR:=lH hf;clear hf
 go_enter Tryz.func186,Tryz.ntmps186
 go_wp2_with (first|(refine lB rfl _ _ rfl w.heap.size 3 rfl HB0 rfl Tryz.underlying46 ?_))
 refine(ar8 (HFF.out.o0.fr FA0.out (Rng.out (.inr om))) om om om).mono ?_
 intro e0 w1 hq0
 obtain⟨he,hi,F1⟩:=hq0
 obtain⟨K1,hK⟩:∃ K:Int,K=k+(x.Starts.length:Int)*((1:Nat):Int):=⟨_,rfl⟩
 obtain rfl:e0=.returned (.int .i64 K1):=he.trans (by rw[hK]<;>rfl)
 have hK1:k≤K1∧K1≤k+5*d9 x.Starts:=by omega
 have HK1:=lH hK;have HI0:=lH hi
 have HG0:=lH (show Fr B χ (Rng (o+0) (o+1)) _ w1 from F1.rng0)
 clear he hK hi F1
 have HB1:=lH (HB0.out.frm HG0.out om hFB)
 have FA1:=lH (FA0.out.tr HG0.out om om)
 go_wp2_with (fail)
 go_ret
 have FB1:=lH (show Fr B χ (Rng (o+1) (o+1)) w1 w1 from Fr.refl _ _ _ _)
 have E1:=HK1.out;clear HK1;subst E1
 exact⟨rfl,⟨HI0.out.fr FB1.out (Rng.out (.inl om)),HOK.out⟩,FA1.out⟩
theorem bj9{χ:Nat→Col}{x:E8}(F:ab3 B χ o w a0 c0 x)(hf:ar2 χ w)(hB:B≤w.heap.size)(ho:o+1≤1000)(ht:Enc.tot x≤100000000)(h1:0≤k)(h2:k≤400000000000) :
  Calls Tryz.prog 180 #[.agg #[.int .i64 x.Next,.int .i64 x.Window,.slice a0 x.Waiting.length c0,.int .i64 x.Done],.int .i64 k] w (Mkd (Y9 x k) (fun w2=>ab3 B χ o w2 a0 c0 (aG6 x k)) (Fr B χ (Rng o (o+1)) w)):=by
 have htot:Enc.tot x=d9 x.Waiting:=rfl
 have t2:=d6 x.Waiting;have l2:=f6 x.Waiting
 have HOK:=lH F.ok
 have HB0:=lH (j5.new w [.int .i64 x.Next,.int .i64 x.Window,.slice a0 x.Waiting.length c0,.int .i64 x.Done] 69 w.heap.size rfl)
 have hFB:1000≤(χ w.heap.size).1:=hf _ nl
 have FA0:=lH (show Fr B χ (Rng o (o+0)) w (w.alloc (.cells #[.int .i64 x.Next,.int .i64 x.Window,.slice a0 x.Waiting.length c0,.int .i64 x.Done] 69))from Fr.grows _ _ _ _ _)
 have HFF:=lH F;clear F
 have HFR:=lH hf;clear hf
 go_enter Tryz.func180,Tryz.ntmps180
 go_wp2_with (first|(refine lB rfl _ _ rfl w.heap.size 2 rfl HB0 rfl Tryz.underlying67 ?_))
 refine(bt9 (HFF.out.o0.fr FA0.out (Rng.out (.inr om))) om om om).mono ?_
 intro e0 w1 hq0
 obtain⟨he,hi,F1⟩:=hq0
 obtain⟨K1,hK⟩:∃ K:Int,K=k+(x.Waiting.length:Int)*((2:Nat):Int):=⟨_,rfl⟩
 obtain rfl:e0=.returned (.int .i64 K1):=he.trans (by rw[hK]<;>rfl)
 have hK1:k≤K1∧K1≤k+5*d9 x.Waiting:=by omega
 have HK1:=lH hK;have HI0:=lH hi
 have HG0:=lH (show Fr B χ (Rng (o+0) (o+1)) _ w1 from F1.rng0)
 clear he hK hi F1
 have HB1:=lH (HB0.out.frm HG0.out om hFB)
 have FA1:=lH (FA0.out.tr HG0.out om om)
 go_wp2_with (fail)
 go_ret
 have FB1:=lH (show Fr B χ (Rng (o+1) (o+1)) w1 w1 from Fr.refl _ _ _ _)
 have E1:=HK1.out;clear HK1;subst E1
 exact⟨rfl,⟨HI0.out.fr FB1.out (Rng.out (.inl om)),HOK.out⟩,FA1.out⟩
theorem aY6{χ:Nat→Col}{a1:Option Addr}{c1:Nat}{x:I9}(F:U6 B χ o w a0 c0 a1 c1 x)(hf:ar2 χ w)(hB:B≤w.heap.size)(ho:o+2≤1000)(ht:Enc.tot x≤100000000)(h1:0≤k)(h2:k≤400000000000) :
  Calls Tryz.prog 288 #[.agg #[.int .i64 x.Room,.slice a0 x.Records.length c0,.slice a1 x.Dropped.length c1],.int .i64 k] w (Mkd (ac1 x k) (fun w2=>U6 B χ o w2 a0 c0 a1 c1 (am9 x k)) (Fr B χ (Rng o (o+2)) w)):=by
 have htot:Enc.tot x=d9 x.Records+d9 x.Dropped:=rfl
 have t1:=d6 x.Records;have l1:=f6 x.Records
 have t2:=d6 x.Dropped;have l2:=f6 x.Dropped
 have HOK:=lH F.ok
 have HB0:=lH (j5.new w [.int .i64 x.Room,.slice a0 x.Records.length c0,.slice a1 x.Dropped.length c1] 82 w.heap.size rfl)
 have hFB:1000≤(χ w.heap.size).1:=hf _ nl
 have FA0:=lH (show Fr B χ (Rng o (o+0)) w (w.alloc (.cells #[.int .i64 x.Room,.slice a0 x.Records.length c0,.slice a1 x.Dropped.length c1] 82))from Fr.grows _ _ _ _ _)
 have HFF:=lH F;clear F
 have HFR:=lH hf;clear hf
 go_enter Tryz.func288,Tryz.ntmps288
 go_wp2_with (first|(refine lB rfl _ _ rfl w.heap.size 1 rfl HB0 rfl Tryz.underlying73 ?_))
 refine(av1 (HFF.out.o0.fr FA0.out (Rng.out (.inr om))) om om om).mono ?_
 intro e0 w1 hq0
 obtain⟨he,hi,F1⟩:=hq0
 obtain⟨K1,hK⟩:∃ K:Int,K=k+(x.Records.length:Int)*((4:Nat):Int):=⟨_,rfl⟩
 obtain rfl:e0=.returned (.int .i64 K1):=he.trans (by rw[hK]<;>rfl)
 have hK1:k≤K1∧K1≤k+5*d9 x.Records:=by omega
 have HK1:=lH hK;have HI0:=lH hi
 have HG0:=lH (show Fr B χ (Rng (o+0) (o+1)) _ w1 from F1.rng0)
 clear he hK hi F1
 have HB1:=lH (HB0.out.frm HG0.out om hFB)
 have FA1:=lH (FA0.out.tr HG0.out om om)
 go_wp2_with (first|(refine lB rfl _ _ rfl w.heap.size 2 rfl HB1 rfl Tryz.underlying46 ?_))
 refine(ar8 (HFF.out.o1.fr FA1.out (Rng.out (.inr om))) om om om).mono ?_
 intro e1 w2 hq1
 obtain⟨he,hi,F1⟩:=hq1
 obtain⟨K2,hK⟩:∃ K:Int,K=K1+(x.Dropped.length:Int)*((1:Nat):Int):=⟨_,rfl⟩
 obtain rfl:e1=.returned (.int .i64 K2):=he.trans (by rw[hK]<;>rfl)
 have hK2:K1≤K2∧K2≤K1+5*d9 x.Dropped:=by omega
 have HK2:=lH hK;have HI1:=lH hi
 have HG1:=lH (show Fr B χ (Rng (o+1) (o+2)) _ w2 from F1.rng0)
 clear he hK hi F1
 have HB2:=lH (HB1.out.frm HG1.out om hFB)
 have FA2:=lH (FA1.out.tr HG1.out om om)
 go_wp2_with (fail)
 go_ret
 have FB2:=lH (show Fr B χ (Rng (o+2) (o+2)) w2 w2 from Fr.refl _ _ _ _)
 have FB1:=lH (HG1.out.tr FB2.out om om)
 have E1:=HK1.out;clear HK1;subst E1
 have E2:=HK2.out;clear HK2;subst E2
 exact⟨rfl,⟨HI0.out.fr FB1.out (Rng.out (.inl om)),HI1.out.fr FB2.out (Rng.out (.inl om)),HOK.out⟩,FA2.out⟩
theorem bt5{χ:Nat→Col}{A:af9}{x:I3}(F:ad5 B χ o w A x)(hf:ar2 χ w)(hB:B≤w.heap.size)(ho:o+7≤1000)(ht:Enc.tot x≤100000000)(h1:0≤k)(h2:k≤300000000000) :
  Calls Tryz.prog 185 #[.agg (F8 x A).toArray,.int .i64 k] w (Mkd (ac0 x k) (fun w2=>ad5 B χ o w2 A (aO7 x k)) (Fr B χ (Rng o (o+7)) w)):=by
 have htot:Enc.tot x=d9 x.Params+d9 x.Limits+d9 x.Orders+d9 x.Done+Enc.tot x.Recorder+d9 x.Asked:=rfl
 have t1:=d6 x.Params;have l1:=f6 x.Params
 have t3:=d6 x.Limits;have l3:=f6 x.Limits
 have t4:=d6 x.Orders;have l4:=f6 x.Orders
 have t5:=d6 x.Done;have l5:=f6 x.Done
 have t6:=Enc.tot_nonneg x.Recorder
 have t9:=d6 x.Asked;have l9:=f6 x.Asked
 have HOK:=lH F.ok
 have HB0:=lH (j5.new w (F8 x A) 84 w.heap.size rfl)
 have hFB:1000≤(χ w.heap.size).1:=hf _ nl
 have FA0:=lH (show Fr B χ (Rng o (o+0)) w (w.alloc (.cells (F8 x A).toArray 84))from Fr.grows _ _ _ _ _)
 have HFF:=lH F;clear F
 have HFR:=lH hf;clear hf
 go_enter Tryz.func185,Tryz.ntmps185
 go_wp2_with (first|(refine lB rfl _ _ rfl w.heap.size 1 rfl HB0 rfl Tryz.underlying46 ?_))
 refine(ar8 (HFF.out.o0.fr FA0.out (Rng.out (.inr om))) om om om).mono ?_
 intro e0 w1 hq0
 obtain⟨he,hi,F1⟩:=hq0
 obtain⟨K1,hK⟩:∃ K:Int,K=k+(x.Params.length:Int)*((1:Nat):Int):=⟨_,rfl⟩
 obtain rfl:e0=.returned (.int .i64 K1):=he.trans (by rw[hK]<;>rfl)
 have hK1:k≤K1∧K1≤k+5*d9 x.Params:=by omega
 have HK1:=lH hK;have HI0:=lH hi
 have HG0:=lH (show Fr B χ (Rng (o+0) (o+1)) _ w1 from F1.rng0)
 clear he hK hi F1
 have HB1:=lH (HB0.out.frm HG0.out om hFB)
 have FA1:=lH (FA0.out.tr HG0.out om om)
 go_wp2_with (first|(refine lB rfl _ _ rfl w.heap.size 3 rfl HB1 rfl Tryz.underlying78 ?_))
 refine(bj7 (HFF.out.o1.fr FA1.out (Rng.out (.inr om))) om om om).mono ?_
 intro e1 w2 hq1
 obtain⟨he,hi,F1⟩:=hq1
 obtain⟨K2,hK⟩:∃ K:Int,K=K1+(x.Limits.length:Int)*((3:Nat):Int):=⟨_,rfl⟩
 obtain rfl:e1=.returned (.int .i64 K2):=he.trans (by rw[hK]<;>rfl)
 have hK2:K1≤K2∧K2≤K1+5*d9 x.Limits:=by omega
 have HK2:=lH hK;have HI1:=lH hi
 have HG1:=lH (show Fr B χ (Rng (o+1) (o+2)) _ w2 from F1.rng0)
 clear he hK hi F1
 have HB2:=lH (HB1.out.frm HG1.out om hFB)
 have FA2:=lH (FA1.out.tr HG1.out om om)
 go_wp2_with (first|(refine lB rfl _ _ rfl w.heap.size 4 rfl HB2 rfl Tryz.underlying79 ?_))
 refine(aY7 (HFF.out.o2.fr FA2.out (Rng.out (.inr om))) om om om).mono ?_
 intro e2 w3 hq2
 obtain⟨he,hi,F1⟩:=hq2
 obtain⟨K3,hK⟩:∃ K:Int,K=K2+(x.Orders.length:Int)*((5:Nat):Int):=⟨_,rfl⟩
 obtain rfl:e2=.returned (.int .i64 K3):=he.trans (by rw[hK]<;>rfl)
 have hK3:K2≤K3∧K3≤K2+5*d9 x.Orders:=by omega
 have HK3:=lH hK;have HI2:=lH hi
 have HG2:=lH (show Fr B χ (Rng (o+2) (o+3)) _ w3 from F1.rng0)
 clear he hK hi F1
 have HB3:=lH (HB2.out.frm HG2.out om hFB)
 have FA3:=lH (FA2.out.tr HG2.out om om)
 go_wp2_with (first|(refine lB rfl _ _ rfl w.heap.size 5 rfl HB3 rfl Tryz.underlying80 ?_))
 refine(bt7 (HFF.out.o3.fr FA3.out (Rng.out (.inr om))) om om om).mono ?_
 intro e3 w4 hq3
 obtain⟨he,hi,F1⟩:=hq3
 obtain⟨K4,hK⟩:∃ K:Int,K=K3+(x.Done.length:Int)*((3:Nat):Int):=⟨_,rfl⟩
 obtain rfl:e3=.returned (.int .i64 K4):=he.trans (by rw[hK]<;>rfl)
 have hK4:K3≤K4∧K4≤K3+5*d9 x.Done:=by omega
 have HK4:=lH hK;have HI3:=lH hi
 have HG3:=lH (show Fr B χ (Rng (o+3) (o+4)) _ w4 from F1.rng0)
 clear he hK hi F1
 have HB4:=lH (HB3.out.frm HG3.out om hFB)
 have FA4:=lH (FA3.out.tr HG3.out om om)
 go_wp2_with (first|(refine lA rfl _ _ rfl (w.heap.size) 6 rfl [.int .i64 x.Recorder.Room,.slice A.a4 x.Recorder.Records.length A.c4,.slice A.a5 x.Recorder.Dropped.length A.c5] HB4 Tryz.underlying82 ?_))
 refine(aY6 (x:=x.Recorder) ⟨(HFF.out.o4.fr FA4.out (Rng.out (.inr om))),(HFF.out.o5.fr FA4.out (Rng.out (.inr om))),HOK.out.2.1⟩ (HFR.out.mono FA4.out.size) (Nat.le_trans hB FA4.out.size) om om om om).mono ?_
 intro e4 w5 hq4
 obtain⟨he,hi,F1⟩:=hq4
 obtain⟨K5,hK⟩:∃ K:Int,K=ac1 x.Recorder (K4):=⟨_,rfl⟩
 obtain rfl:e4=.returned (.int .i64 K5):=he.trans (by rw[hK]<;>rfl)
 have hb:=au6 x.Recorder K4
 have hK5:K4≤K5∧K5≤K4+5*Enc.tot x.Recorder:=by omega
 have HK5:=lH hK;have HI4:=lH hi
 have HG4:=lH (show Fr B χ (Rng (o+4) (o+6)) _ w5 from F1)
 clear he hK hi F1 hb
 have HB5:=lH (HB4.out.frm HG4.out om hFB)
 have FA5:=lH (FA4.out.tr HG4.out om om)
 go_wp2_with (first|(refine lB rfl _ _ rfl w.heap.size 11 rfl HB5 rfl Tryz.underlying46 ?_))
 refine(ar8 (HFF.out.o6.fr FA5.out (Rng.out (.inr om))) om om om).mono ?_
 intro e5 w6 hq5
 obtain⟨he,hi,F1⟩:=hq5
 obtain⟨K6,hK⟩:∃ K:Int,K=K5+(x.Asked.length:Int)*((1:Nat):Int):=⟨_,rfl⟩
 obtain rfl:e5=.returned (.int .i64 K6):=he.trans (by rw[hK]<;>rfl)
 have hK6:K5≤K6∧K6≤K5+5*d9 x.Asked:=by omega
 have HK6:=lH hK;have HI5:=lH hi
 have HG5:=lH (show Fr B χ (Rng (o+6) (o+7)) _ w6 from F1.rng0)
 clear he hK hi F1
 have HB6:=lH (HB5.out.frm HG5.out om hFB)
 have FA6:=lH (FA5.out.tr HG5.out om om)
 go_wp2_with (fail)
 go_ret
 have FB6:=lH (show Fr B χ (Rng (o+7) (o+7)) w6 w6 from Fr.refl _ _ _ _)
 have FB5:=lH (HG5.out.tr FB6.out om om)
 have FB4:=lH (HG4.out.tr FB5.out om om)
 have FB3:=lH (HG3.out.tr FB4.out om om)
 have FB2:=lH (HG2.out.tr FB3.out om om)
 have FB1:=lH (HG1.out.tr FB2.out om om)
 have E1:=HK1.out;clear HK1;subst E1
 have E2:=HK2.out;clear HK2;subst E2
 have E3:=HK3.out;clear HK3;subst E3
 have E4:=HK4.out;clear HK4;subst E4
 have E5:=HK5.out;clear HK5;subst E5
 have E6:=HK6.out;clear HK6;subst E6
 exact⟨rfl,⟨HI0.out.fr FB1.out (Rng.out (.inl om)),HI1.out.fr FB2.out (Rng.out (.inl om)),HI2.out.fr FB3.out (Rng.out (.inl om)),HI3.out.fr FB4.out (Rng.out (.inl om)),HI4.out.o0.fr FB5.out (Rng.out (.inl om)),HI4.out.o1.fr FB5.out (Rng.out (.inl om)),HI5.out.fr FB6.out (Rng.out (.inl om)),HOK.out⟩,FA6.out⟩
theorem bj6{χ:Nat→Col}{A:ab1}{x:I8}(F:X6 B χ o w A x)(hf:ar2 χ w)(hB:B≤w.heap.size)(ho:o+6≤1000)(ht:Enc.tot x≤100000000)(h1:0≤k)(h2:k≤200000000000) :
  Calls Tryz.prog 53 #[.agg (M1 x A).toArray,.int .i64 k] w (Mkd (aa7 x k) (fun w2=>X6 B χ o w2 A (aG4 x k)) (Fr B χ (Rng o (o+6)) w)):=by
 have htot:Enc.tot x=d9 x.Offers+Enc.tot x.Sender+Enc.tot x.Unpacker+d9 x.Pairs+d9 x.Records+d9 x.Files+d9 x.Told:=rfl
 have t0:=d6 x.Offers;have l0:=f6 x.Offers
 have t1:=Enc.tot_nonneg x.Sender
 have t3:=Enc.tot_nonneg x.Unpacker
 have t4:=d6 x.Pairs;have l4:=f6 x.Pairs
 have t5:=d6 x.Records;have l5:=f6 x.Records
 have t6:=d6 x.Files;have l6:=f6 x.Files
 have t7:=d6 x.Told;have l7:=f6 x.Told
 have HOK:=lH F.ok
 have HB0:=lH (j5.new w (M1 x A) 76 w.heap.size rfl)
 have hFB:1000≤(χ w.heap.size).1:=hf _ nl
 have FA0:=lH (show Fr B χ (Rng o (o+0)) w (w.alloc (.cells (M1 x A).toArray 76))from Fr.grows _ _ _ _ _)
 have HFF:=lH F;clear F
 have HFR:=lH hf;clear hf
 go_enter Tryz.func53,Tryz.ntmps53
 go_wp2_with (first|(refine lB rfl _ _ rfl w.heap.size 0 rfl HB0 rfl Tryz.underlying30 ?_))
 refine(aj5 (HFF.out.o0.fr FA0.out (Rng.out (.inr om))) om om om).mono ?_
 intro e0 w1 hq0
 obtain⟨he,hi,F1⟩:=hq0
 obtain⟨K1,hK⟩:∃ K:Int,K=k+(x.Offers.length:Int)*((1:Nat):Int):=⟨_,rfl⟩
 obtain rfl:e0=.returned (.int .i64 K1):=he.trans (by rw[hK]<;>rfl)
 have hK1:k≤K1∧K1≤k+5*d9 x.Offers:=by omega
 have HK1:=lH hK;have HI0:=lH hi
 have HG0:=lH (show Fr B χ (Rng (o+0) (o+1)) _ w1 from F1.rng0)
 clear he hK hi F1
 have HB1:=lH (HB0.out.frm HG0.out om hFB)
 have FA1:=lH (FA0.out.tr HG0.out om om)
 go_wp2_with (first|(refine lA rfl _ _ rfl (w.heap.size) 1 rfl [.int .i64 x.Sender.Next,.int .i64 x.Sender.Window,.slice A.a1 x.Sender.Waiting.length A.c1,.int .i64 x.Sender.Done] HB1 Tryz.underlying69 ?_))
 refine(bj9 (x:=x.Sender) ⟨(HFF.out.o1.fr FA1.out (Rng.out (.inr om))),HOK.out.1⟩ (HFR.out.mono FA1.out.size) (Nat.le_trans hB FA1.out.size) om om om om).mono ?_
 intro e1 w2 hq1
 obtain⟨he,hi,F1⟩:=hq1
 obtain⟨K2,hK⟩:∃ K:Int,K=Y9 x.Sender (K1):=⟨_,rfl⟩
 obtain rfl:e1=.returned (.int .i64 K2):=he.trans (by rw[hK]<;>rfl)
 have hb:=az6 x.Sender K1
 have hK2:K1≤K2∧K2≤K1+5*Enc.tot x.Sender:=by omega
 have HK2:=lH hK;have HI1:=lH hi
 have HG1:=lH (show Fr B χ (Rng (o+1) (o+2)) _ w2 from F1)
 clear he hK hi F1 hb
 have HB2:=lH (HB1.out.frm HG1.out om hFB)
 have FA2:=lH (FA1.out.tr HG1.out om om)
 go_wp2_with (first|(refine lB rfl _ _ rfl w.heap.size 13 rfl HB2 rfl Tryz.underlying72 ?_))
 refine(bt8 (HFF.out.o2.fr FA2.out (Rng.out (.inr om))) om om om).mono ?_
 intro e2 w3 hq2
 obtain⟨he,hi,F1⟩:=hq2
 obtain⟨K3,hK⟩:∃ K:Int,K=K2+(x.Pairs.length:Int)*((2:Nat):Int):=⟨_,rfl⟩
 obtain rfl:e2=.returned (.int .i64 K3):=he.trans (by rw[hK]<;>rfl)
 have hK3:K2≤K3∧K3≤K2+5*d9 x.Pairs:=by omega
 have HK3:=lH hK;have HI2:=lH hi
 have HG2:=lH (show Fr B χ (Rng (o+2) (o+3)) _ w3 from F1.rng0)
 clear he hK hi F1
 have HB3:=lH (HB2.out.frm HG2.out om hFB)
 have FA3:=lH (FA2.out.tr HG2.out om om)
 go_wp2_with (first|(refine lB rfl _ _ rfl w.heap.size 14 rfl HB3 rfl Tryz.underlying73 ?_))
 refine(av1 (HFF.out.o3.fr FA3.out (Rng.out (.inr om))) om om om).mono ?_
 intro e3 w4 hq3
 obtain⟨he,hi,F1⟩:=hq3
 obtain⟨K4,hK⟩:∃ K:Int,K=K3+(x.Records.length:Int)*((4:Nat):Int):=⟨_,rfl⟩
 obtain rfl:e3=.returned (.int .i64 K4):=he.trans (by rw[hK]<;>rfl)
 have hK4:K3≤K4∧K4≤K3+5*d9 x.Records:=by omega
 have HK4:=lH hK;have HI3:=lH hi
 have HG3:=lH (show Fr B χ (Rng (o+3) (o+4)) _ w4 from F1.rng0)
 clear he hK hi F1
 have HB4:=lH (HB3.out.frm HG3.out om hFB)
 have FA4:=lH (FA3.out.tr HG3.out om om)
 go_wp2_with (first|(refine lB rfl _ _ rfl w.heap.size 15 rfl HB4 rfl Tryz.underlying74 ?_))
 refine(be4 (HFF.out.o4.elim fun r hr=>⟨r,hr.1,hr.2.fr FA4.out (fun _=>Rng.out (.inr om))⟩) om om om).mono ?_
 intro e4 w5 hq4
 obtain⟨he,hi,F1⟩:=hq4
 obtain⟨K5,hK⟩:∃ K:Int,K=mnN F6 x.Files (K4):=⟨_,rfl⟩
 obtain rfl:e4=.returned (.int .i64 K5):=he.trans (by rw[hK]<;>rfl)
 have hb:=au7 F6 ao6 x.Files K4
 have hK5:K4≤K5∧K5≤K4+5*d9 x.Files:=by omega
 have HK5:=lH hK;have HI4:=lH hi
 have HG4:=lH (show Fr B χ (Rng (o+4) (o+5)) _ w5 from F1)
 clear he hK hi F1 hb
 have HB5:=lH (HB4.out.frm HG4.out om hFB)
 have FA5:=lH (FA4.out.tr HG4.out om om)
 go_wp2_with (first|(refine lB rfl _ _ rfl w.heap.size 16 rfl HB5 rfl Tryz.underlying41 ?_))
 refine(bt6 (HFF.out.o5.fr FA5.out (Rng.out (.inr om))) om om om).mono ?_
 intro e5 w6 hq5
 obtain⟨he,hi,F1⟩:=hq5
 obtain⟨K6,hK⟩:∃ K:Int,K=K5+(x.Told.length:Int)*((1:Nat):Int):=⟨_,rfl⟩
 obtain rfl:e5=.returned (.int .i64 K6):=he.trans (by rw[hK]<;>rfl)
 have hK6:K5≤K6∧K6≤K5+5*d9 x.Told:=by omega
 have HK6:=lH hK;have HI5:=lH hi
 have HG5:=lH (show Fr B χ (Rng (o+5) (o+6)) _ w6 from F1.rng0)
 clear he hK hi F1
 have HB6:=lH (HB5.out.frm HG5.out om hFB)
 have FA6:=lH (FA5.out.tr HG5.out om om)
 go_wp2_with (fail)
 go_ret
 have FB6:=lH (show Fr B χ (Rng (o+6) (o+6)) w6 w6 from Fr.refl _ _ _ _)
 have FB5:=lH (HG5.out.tr FB6.out om om)
 have FB4:=lH (HG4.out.tr FB5.out om om)
 have FB3:=lH (HG3.out.tr FB4.out om om)
 have FB2:=lH (HG2.out.tr FB3.out om om)
 have FB1:=lH (HG1.out.tr FB2.out om om)
 have E1:=HK1.out;clear HK1;subst E1
 have E2:=HK2.out;clear HK2;subst E2
 have E3:=HK3.out;clear HK3;subst E3
 have E4:=HK4.out;clear HK4;subst E4
 have E5:=HK5.out;clear HK5;subst E5
 have E6:=HK6.out;clear HK6;subst E6
 exact⟨rfl,⟨HI0.out.fr FB1.out (Rng.out (.inl om)),HI1.out.o0.fr FB2.out (Rng.out (.inl om)),HI2.out.fr FB3.out (Rng.out (.inl om)),HI3.out.fr FB4.out (Rng.out (.inl om)),HI4.out.elim fun r hr=>⟨r,hr.1,hr.2.fr FB5.out (fun _=>Rng.out (.inl om))⟩,HI5.out.fr FB6.out (Rng.out (.inl om)),HOK.out⟩,FA6.out⟩
theorem bu1{χ:Nat→Col}{A:ah7}{x:M0}(F:ad6 B χ o w A x)(hf:ar2 χ w)(hB:B≤w.heap.size)(ho:o+11≤1000)(ht:Enc.tot x≤100000000)(h1:0≤k)(h2:k≤200000000000) :
  Calls Tryz.prog 54 #[.agg (S9 x A).toArray,.int .i64 k] w (Mkd (al7 x k) (fun w2=>ad6 B χ o w2 A (aO8 x k)) (Fr B χ (Rng o (o+11)) w)):=by
 have htot:Enc.tot x=Enc.tot x.Board+Enc.tot x.Packer+d9 x.Files+d9 x.Outs+d9 x.Sent:=rfl
 have t1:=Enc.tot_nonneg x.Board
 have t2:=Enc.tot_nonneg x.Packer
 have t4:=d6 x.Files;have l4:=f6 x.Files
 have t5:=d6 x.Outs;have l5:=f6 x.Outs
 have t7:=d6 x.Sent;have l7:=f6 x.Sent
 have HOK:=lH F.ok
 have HB0:=lH (j5.new w (S9 x A) 88 w.heap.size rfl)
 have hFB:1000≤(χ w.heap.size).1:=hf _ nl
 have FA0:=lH (show Fr B χ (Rng o (o+0)) w (w.alloc (.cells (S9 x A).toArray 88))from Fr.grows _ _ _ _ _)
 have HFF:=lH F;clear F
 have HFR:=lH hf;clear hf
 go_enter Tryz.func54,Tryz.ntmps54
 go_wp2_with (first|(refine lA rfl _ _ rfl (w.heap.size) 4 rfl (F8 x.Board A) HB0 Tryz.underlying84 ?_))
 refine(bt5 (A:=⟨A.a0,A.c0,A.a1,A.c1,A.a2,A.c2,A.a3,A.c3,A.a4,A.c4,A.a5,A.c5,A.a6,A.c6⟩) (x:=x.Board) ⟨(HFF.out.o0.fr FA0.out (Rng.out (.inr om))),(HFF.out.o1.fr FA0.out (Rng.out (.inr om))),(HFF.out.o2.fr FA0.out (Rng.out (.inr om))),(HFF.out.o3.fr FA0.out (Rng.out (.inr om))),(HFF.out.o4.fr FA0.out (Rng.out (.inr om))),(HFF.out.o5.fr FA0.out (Rng.out (.inr om))),(HFF.out.o6.fr FA0.out (Rng.out (.inr om))),HOK.out.2.1⟩ (HFR.out.mono FA0.out.size) (Nat.le_trans hB FA0.out.size) om om om om).mono ?_
 intro e0 w1 hq0
 obtain⟨he,hi,F1⟩:=hq0
 obtain⟨K1,hK⟩:∃ K:Int,K=ac0 x.Board (k):=⟨_,rfl⟩
 obtain rfl:e0=.returned (.int .i64 K1):=he.trans (by rw[hK]<;>rfl)
 have hb:=aD9 x.Board k
 have hK1:k≤K1∧K1≤k+5*Enc.tot x.Board:=by omega
 have HK1:=lH hK;have HI0:=lH hi
 have HG0:=lH (show Fr B χ (Rng (o+0) (o+7)) _ w1 from F1)
 clear he hK hi F1 hb
 have HB1:=lH (HB0.out.frm HG0.out om hFB)
 have FA1:=lH (FA0.out.tr HG0.out om om)
 go_wp2_with (first|(refine lA rfl _ _ rfl (w.heap.size) 16 rfl [.int .i64 x.Packer.Channel,.int .i64 x.Packer.Count,.string x.Packer.Rest,.slice A.a7 x.Packer.Starts.length A.c7] HB1 Tryz.underlying85 ?_))
 refine(bj8 (x:=x.Packer) ⟨(HFF.out.o7.fr FA1.out (Rng.out (.inr om))),HOK.out.2.2.1⟩ (HFR.out.mono FA1.out.size) (Nat.le_trans hB FA1.out.size) om om om om).mono ?_
 intro e1 w2 hq1
 obtain⟨he,hi,F1⟩:=hq1
 obtain⟨K2,hK⟩:∃ K:Int,K=aa8 x.Packer (K1):=⟨_,rfl⟩
 obtain rfl:e1=.returned (.int .i64 K2):=he.trans (by rw[hK]<;>rfl)
 have hb:=az5 x.Packer K1
 have hK2:K1≤K2∧K2≤K1+5*Enc.tot x.Packer:=by omega
 have HK2:=lH hK;have HI1:=lH hi
 have HG1:=lH (show Fr B χ (Rng (o+7) (o+8)) _ w2 from F1)
 clear he hK hi F1 hb
 have HB2:=lH (HB1.out.frm HG1.out om hFB)
 have FA2:=lH (FA1.out.tr HG1.out om om)
 go_wp2_with (first|(refine lB rfl _ _ rfl w.heap.size 21 rfl HB2 rfl Tryz.underlying30 ?_))
 refine(aj5 (HFF.out.o8.fr FA2.out (Rng.out (.inr om))) om om om).mono ?_
 intro e2 w3 hq2
 obtain⟨he,hi,F1⟩:=hq2
 obtain⟨K3,hK⟩:∃ K:Int,K=K2+(x.Files.length:Int)*((1:Nat):Int):=⟨_,rfl⟩
 obtain rfl:e2=.returned (.int .i64 K3):=he.trans (by rw[hK]<;>rfl)
 have hK3:K2≤K3∧K3≤K2+5*d9 x.Files:=by omega
 have HK3:=lH hK;have HI2:=lH hi
 have HG2:=lH (show Fr B χ (Rng (o+8) (o+9)) _ w3 from F1.rng0)
 clear he hK hi F1
 have HB3:=lH (HB2.out.frm HG2.out om hFB)
 have FA3:=lH (FA2.out.tr HG2.out om om)
 go_wp2_with (first|(refine lB rfl _ _ rfl w.heap.size 22 rfl HB3 rfl Tryz.underlying86 ?_))
 refine(aY5 (HFF.out.o9.elim fun r hr=>⟨r,hr.1,hr.2.fr FA3.out (fun _=>Rng.out (.inr om))⟩) om om om).mono ?_
 intro e3 w4 hq3
 obtain⟨he,hi,F1⟩:=hq3
 obtain⟨K4,hK⟩:∃ K:Int,K=mnN F9 x.Outs (K3):=⟨_,rfl⟩
 obtain rfl:e3=.returned (.int .i64 K4):=he.trans (by rw[hK]<;>rfl)
 have hb:=au7 F9 al6 x.Outs K3
 have hK4:K3≤K4∧K4≤K3+5*d9 x.Outs:=by omega
 have HK4:=lH hK;have HI3:=lH hi
 have HG3:=lH (show Fr B χ (Rng (o+9) (o+10)) _ w4 from F1)
 clear he hK hi F1 hb
 have HB4:=lH (HB3.out.frm HG3.out om hFB)
 have FA4:=lH (FA3.out.tr HG3.out om om)
 go_wp2_with (first|(refine lB rfl _ _ rfl w.heap.size 24 rfl HB4 rfl Tryz.underlying73 ?_))
 refine(av1 (HFF.out.o10.fr FA4.out (Rng.out (.inr om))) om om om).mono ?_
 intro e4 w5 hq4
 obtain⟨he,hi,F1⟩:=hq4
 obtain⟨K5,hK⟩:∃ K:Int,K=K4+(x.Sent.length:Int)*((4:Nat):Int):=⟨_,rfl⟩
 obtain rfl:e4=.returned (.int .i64 K5):=he.trans (by rw[hK]<;>rfl)
 have hK5:K4≤K5∧K5≤K4+5*d9 x.Sent:=by omega
 have HK5:=lH hK;have HI4:=lH hi
 have HG4:=lH (show Fr B χ (Rng (o+10) (o+11)) _ w5 from F1.rng0)
 clear he hK hi F1
 have HB5:=lH (HB4.out.frm HG4.out om hFB)
 have FA5:=lH (FA4.out.tr HG4.out om om)
 go_wp2_with (fail)
 go_ret
 have FB5:=lH (show Fr B χ (Rng (o+11) (o+11)) w5 w5 from Fr.refl _ _ _ _)
 have FB4:=lH (HG4.out.tr FB5.out om om)
 have FB3:=lH (HG3.out.tr FB4.out om om)
 have FB2:=lH (HG2.out.tr FB3.out om om)
 have FB1:=lH (HG1.out.tr FB2.out om om)
 have E1:=HK1.out;clear HK1;subst E1
 have E2:=HK2.out;clear HK2;subst E2
 have E3:=HK3.out;clear HK3;subst E3
 have E4:=HK4.out;clear HK4;subst E4
 have E5:=HK5.out;clear HK5;subst E5
 exact⟨rfl,⟨HI0.out.o0.fr FB1.out (Rng.out (.inl om)),HI0.out.o1.fr FB1.out (Rng.out (.inl om)),HI0.out.o2.fr FB1.out (Rng.out (.inl om)),HI0.out.o3.fr FB1.out (Rng.out (.inl om)),HI0.out.o4.fr FB1.out (Rng.out (.inl om)),HI0.out.o5.fr FB1.out (Rng.out (.inl om)),HI0.out.o6.fr FB1.out (Rng.out (.inl om)),HI1.out.o0.fr FB2.out (Rng.out (.inl om)),HI2.out.fr FB3.out (Rng.out (.inl om)),HI3.out.elim fun r hr=>⟨r,hr.1,hr.2.fr FB4.out (fun _=>Rng.out (.inl om))⟩,HI4.out.fr FB5.out (Rng.out (.inl om)),HOK.out⟩,FA5.out⟩
theorem be5{χ:Nat→Col}{A:I1}{x:f7}(F:D9 B χ o w A x)(hf:ar2 χ w)(hB:B≤w.heap.size)(ho:o+22≤1000)(ht:Enc.tot x≤100000000)(h1:0≤k)(h2:k≤100000000000) :
  Calls Tryz.prog 10 #[.agg (s9 x A).toArray,.int .i64 k] w (Mkd (ag7 x k) (fun w2=>D9 B χ o w2 A (i8 x k)) (Fr B χ (Rng o (o+22)) w)):=by
 have htot:Enc.tot x=d9 x.Plan+d9 x.Ups+d9 x.Downs+Enc.tot x.Ground+Enc.tot x.Space+d9 x.Offered+d9 x.Took:=rfl
 have t4:=d6 x.Plan;have l4:=f6 x.Plan
 have t7:=d6 x.Ups;have l7:=f6 x.Ups
 have t8:=d6 x.Downs;have l8:=f6 x.Downs
 have t9:=Enc.tot_nonneg x.Ground
 have t10:=Enc.tot_nonneg x.Space
 have t11:=d6 x.Offered;have l11:=f6 x.Offered
 have t12:=d6 x.Took;have l12:=f6 x.Took
 have HOK:=lH F.ok
 have HB0:=lH (j5.new w (s9 x A) 90 w.heap.size rfl)
 have hFB:1000≤(χ w.heap.size).1:=hf _ nl
 have FA0:=lH (show Fr B χ (Rng o (o+0)) w (w.alloc (.cells (s9 x A).toArray 90))from Fr.grows _ _ _ _ _)
 have HFF:=lH F;clear F
 have HFR:=lH hf;clear hf
 go_enter Tryz.func10,Tryz.ntmps10
 go_wp2_with (first|(refine lB rfl _ _ rfl w.heap.size 7 rfl HB0 rfl Tryz.underlying64 ?_))
 refine(bu0 (HFF.out.o0.fr FA0.out (Rng.out (.inr om))) om om om).mono ?_
 intro e0 w1 hq0
 obtain⟨he,hi,F1⟩:=hq0
 obtain⟨K1,hK⟩:∃ K:Int,K=k+(x.Plan.length:Int)*((2:Nat):Int):=⟨_,rfl⟩
 obtain rfl:e0=.returned (.int .i64 K1):=he.trans (by rw[hK]<;>rfl)
 have hK1:k≤K1∧K1≤k+5*d9 x.Plan:=by omega
 have HK1:=lH hK;have HI0:=lH hi
 have HG0:=lH (show Fr B χ (Rng (o+0) (o+1)) _ w1 from F1.rng0)
 clear he hK hi F1
 have HB1:=lH (HB0.out.frm HG0.out om hFB)
 have FA1:=lH (FA0.out.tr HG0.out om om)
 go_wp2_with (first|(refine lB rfl _ _ rfl w.heap.size 14 rfl HB1 rfl Tryz.underlying66 ?_))
 refine(aE3 (HFF.out.o1.fr FA1.out (Rng.out (.inr om))) om om om).mono ?_
 intro e1 w2 hq1
 obtain⟨he,hi,F1⟩:=hq1
 obtain⟨K2,hK⟩:∃ K:Int,K=K1+(x.Ups.length:Int)*((2:Nat):Int):=⟨_,rfl⟩
 obtain rfl:e1=.returned (.int .i64 K2):=he.trans (by rw[hK]<;>rfl)
 have hK2:K1≤K2∧K2≤K1+5*d9 x.Ups:=by omega
 have HK2:=lH hK;have HI1:=lH hi
 have HG1:=lH (show Fr B χ (Rng (o+1) (o+2)) _ w2 from F1.rng0)
 clear he hK hi F1
 have HB2:=lH (HB1.out.frm HG1.out om hFB)
 have FA2:=lH (FA1.out.tr HG1.out om om)
 go_wp2_with (first|(refine lB rfl _ _ rfl w.heap.size 15 rfl HB2 rfl Tryz.underlying66 ?_))
 refine(aE3 (HFF.out.o2.fr FA2.out (Rng.out (.inr om))) om om om).mono ?_
 intro e2 w3 hq2
 obtain⟨he,hi,F1⟩:=hq2
 obtain⟨K3,hK⟩:∃ K:Int,K=K2+(x.Downs.length:Int)*((2:Nat):Int):=⟨_,rfl⟩
 obtain rfl:e2=.returned (.int .i64 K3):=he.trans (by rw[hK]<;>rfl)
 have hK3:K2≤K3∧K3≤K2+5*d9 x.Downs:=by omega
 have HK3:=lH hK;have HI2:=lH hi
 have HG2:=lH (show Fr B χ (Rng (o+2) (o+3)) _ w3 from F1.rng0)
 clear he hK hi F1
 have HB3:=lH (HB2.out.frm HG2.out om hFB)
 have FA3:=lH (FA2.out.tr HG2.out om om)
 go_wp2_with (first|(refine lA rfl _ _ rfl (w.heap.size) 16 rfl (X3 x.Ground A.a3 A.c3 A.a4 A.c4 A.a5 A.c5 A.a6 A.c6 A.a7 A.c7 A.a8 A.c8) HB3 Tryz.underlying76 ?_))
 refine(bj6 (A:=⟨A.a3,A.c3,A.a4,A.c4,A.a5,A.c5,A.a6,A.c6,A.a7,A.c7,A.a8,A.c8⟩) (x:=x.Ground) ⟨(HFF.out.o3.fr FA3.out (Rng.out (.inr om))),(HFF.out.o4.fr FA3.out (Rng.out (.inr om))),(HFF.out.o5.fr FA3.out (Rng.out (.inr om))),(HFF.out.o6.fr FA3.out (Rng.out (.inr om))),(HFF.out.o7.elim fun r hr=>⟨r,hr.1,hr.2.fr FA3.out (fun _=>Rng.out (.inr om))⟩),(HFF.out.o8.fr FA3.out (Rng.out (.inr om))),HOK.out.2.2.2.2.2.2.1⟩ (HFR.out.mono FA3.out.size) (Nat.le_trans hB FA3.out.size) om om om om).mono ?_
 intro e3 w4 hq3
 obtain⟨he,hi,F1⟩:=hq3
 obtain⟨K4,hK⟩:∃ K:Int,K=aa7 x.Ground (K3):=⟨_,rfl⟩
 obtain rfl:e3=.returned (.int .i64 K4):=he.trans (by rw[hK]<;>rfl)
 have hb:=az4 x.Ground K3
 have hK4:K3≤K4∧K4≤K3+5*Enc.tot x.Ground:=by omega
 have HK4:=lH hK;have HI3:=lH hi
 have HG3:=lH (show Fr B χ (Rng (o+3) (o+9)) _ w4 from F1)
 clear he hK hi F1 hb
 have HB4:=lH (HB3.out.frm HG3.out om hFB)
 have FA4:=lH (FA3.out.tr HG3.out om om)
 go_wp2_with (first|(refine lA rfl _ _ rfl (w.heap.size) 33 rfl (ad9 x.Space A.a9 A.c9 A.a10 A.c10 A.a11 A.c11 A.a12 A.c12 A.a13 A.c13 A.a14 A.c14 A.a15 A.c15 A.a16 A.c16 A.a17 A.c17 A.a18 A.c18 A.a19 A.c19) HB4 Tryz.underlying88 ?_))
 refine(bu1 (A:=⟨A.a9,A.c9,A.a10,A.c10,A.a11,A.c11,A.a12,A.c12,A.a13,A.c13,A.a14,A.c14,A.a15,A.c15,A.a16,A.c16,A.a17,A.c17,A.a18,A.c18,A.a19,A.c19⟩) (x:=x.Space) ⟨(HFF.out.o9.fr FA4.out (Rng.out (.inr om))),(HFF.out.o10.fr FA4.out (Rng.out (.inr om))),(HFF.out.o11.fr FA4.out (Rng.out (.inr om))),(HFF.out.o12.fr FA4.out (Rng.out (.inr om))),(HFF.out.o13.fr FA4.out (Rng.out (.inr om))),(HFF.out.o14.fr FA4.out (Rng.out (.inr om))),(HFF.out.o15.fr FA4.out (Rng.out (.inr om))),(HFF.out.o16.fr FA4.out (Rng.out (.inr om))),(HFF.out.o17.fr FA4.out (Rng.out (.inr om))),(HFF.out.o18.elim fun r hr=>⟨r,hr.1,hr.2.fr FA4.out (fun _=>Rng.out (.inr om))⟩),(HFF.out.o19.fr FA4.out (Rng.out (.inr om))),HOK.out.2.2.2.2.2.2.2.1⟩ (HFR.out.mono FA4.out.size) (Nat.le_trans hB FA4.out.size) om om om om).mono ?_
 intro e4 w5 hq4
 obtain⟨he,hi,F1⟩:=hq4
 obtain⟨K5,hK⟩:∃ K:Int,K=al7 x.Space (K4):=⟨_,rfl⟩
 obtain rfl:e4=.returned (.int .i64 K5):=he.trans (by rw[hK]<;>rfl)
 have hb:=aE0 x.Space K4
 have hK5:K4≤K5∧K5≤K4+5*Enc.tot x.Space:=by omega
 have HK5:=lH hK;have HI4:=lH hi
 have HG4:=lH (show Fr B χ (Rng (o+9) (o+20)) _ w5 from F1)
 clear he hK hi F1 hb
 have HB5:=lH (HB4.out.frm HG4.out om hFB)
 have FA5:=lH (FA4.out.tr HG4.out om om)
 go_wp2_with (first|(refine lB rfl _ _ rfl w.heap.size 58 rfl HB5 rfl Tryz.underlying30 ?_))
 refine(aj5 (HFF.out.o20.fr FA5.out (Rng.out (.inr om))) om om om).mono ?_
 intro e5 w6 hq5
 obtain⟨he,hi,F1⟩:=hq5
 obtain⟨K6,hK⟩:∃ K:Int,K=K5+(x.Offered.length:Int)*((1:Nat):Int):=⟨_,rfl⟩
 obtain rfl:e5=.returned (.int .i64 K6):=he.trans (by rw[hK]<;>rfl)
 have hK6:K5≤K6∧K6≤K5+5*d9 x.Offered:=by omega
 have HK6:=lH hK;have HI5:=lH hi
 have HG5:=lH (show Fr B χ (Rng (o+20) (o+21)) _ w6 from F1.rng0)
 clear he hK hi F1
 have HB6:=lH (HB5.out.frm HG5.out om hFB)
 have FA6:=lH (FA5.out.tr HG5.out om om)
 go_wp2_with (first|(refine lB rfl _ _ rfl w.heap.size 59 rfl HB6 rfl Tryz.underlying30 ?_))
 refine(aj5 (HFF.out.o21.fr FA6.out (Rng.out (.inr om))) om om om).mono ?_
 intro e6 w7 hq6
 obtain⟨he,hi,F1⟩:=hq6
 obtain⟨K7,hK⟩:∃ K:Int,K=K6+(x.Took.length:Int)*((1:Nat):Int):=⟨_,rfl⟩
 obtain rfl:e6=.returned (.int .i64 K7):=he.trans (by rw[hK]<;>rfl)
 have hK7:K6≤K7∧K7≤K6+5*d9 x.Took:=by omega
 have HK7:=lH hK;have HI6:=lH hi
 have HG6:=lH (show Fr B χ (Rng (o+21) (o+22)) _ w7 from F1.rng0)
 clear he hK hi F1
 have HB7:=lH (HB6.out.frm HG6.out om hFB)
 have FA7:=lH (FA6.out.tr HG6.out om om)
 go_wp2_with (fail)
 go_ret
 have FB7:=lH (show Fr B χ (Rng (o+22) (o+22)) w7 w7 from Fr.refl _ _ _ _)
 have FB6:=lH (HG6.out.tr FB7.out om om)
 have FB5:=lH (HG5.out.tr FB6.out om om)
 have FB4:=lH (HG4.out.tr FB5.out om om)
 have FB3:=lH (HG3.out.tr FB4.out om om)
 have FB2:=lH (HG2.out.tr FB3.out om om)
 have FB1:=lH (HG1.out.tr FB2.out om om)
 have E1:=HK1.out;clear HK1;subst E1
 have E2:=HK2.out;clear HK2;subst E2
 have E3:=HK3.out;clear HK3;subst E3
 have E4:=HK4.out;clear HK4;subst E4
 have E5:=HK5.out;clear HK5;subst E5
 have E6:=HK6.out;clear HK6;subst E6
 have E7:=HK7.out;clear HK7;subst E7
 exact⟨rfl,⟨HI0.out.fr FB1.out (Rng.out (.inl om)),HI1.out.fr FB2.out (Rng.out (.inl om)),HI2.out.fr FB3.out (Rng.out (.inl om)),HI3.out.o0.fr FB4.out (Rng.out (.inl om)),HI3.out.o1.fr FB4.out (Rng.out (.inl om)),HI3.out.o2.fr FB4.out (Rng.out (.inl om)),HI3.out.o3.fr FB4.out (Rng.out (.inl om)),HI3.out.o4.elim fun r hr=>⟨r,hr.1,hr.2.fr FB4.out (fun _=>Rng.out (.inl om))⟩,HI3.out.o5.fr FB4.out (Rng.out (.inl om)),HI4.out.o0.fr FB5.out (Rng.out (.inl om)),HI4.out.o1.fr FB5.out (Rng.out (.inl om)),HI4.out.o2.fr FB5.out (Rng.out (.inl om)),HI4.out.o3.fr FB5.out (Rng.out (.inl om)),HI4.out.o4.fr FB5.out (Rng.out (.inl om)),HI4.out.o5.fr FB5.out (Rng.out (.inl om)),HI4.out.o6.fr FB5.out (Rng.out (.inl om)),HI4.out.o7.fr FB5.out (Rng.out (.inl om)),HI4.out.o8.fr FB5.out (Rng.out (.inl om)),HI4.out.o9.elim fun r hr=>⟨r,hr.1,hr.2.fr FB5.out (fun _=>Rng.out (.inl om))⟩,HI4.out.o10.fr FB5.out (Rng.out (.inl om)),HI5.out.fr FB6.out (Rng.out (.inl om)),HI6.out.fr FB7.out (Rng.out (.inl om)),HOK.out⟩,FA7.out⟩
theorem Fr.old{B U:Nat}{χ χ2:Nat→Col}{f:Col→Col}{C:Col→Prop}{w w':World}(h:Fr B χ C w w')(g:w.heap.size≤U):Fr B (I7 U χ χ2 f) C w w' :=
 ⟨h.os,h.tape,h.output,h.size,fun b hb hn=>h.block b hb (fun e=>hn ⟨e.1,by rw[I7,if_pos om];exact e.2⟩)⟩
theorem d7.more{B B':Nat}{w w':World}(h:d7 B w w')(g:B≤B'):d7 B' w w':=⟨h.size,fun b h1 h2=>h.block b (Nat.le_trans g h1) h2⟩
theorem Fr.keepsU{B U:Nat}{χ:Nat→Col}{C:Col→Prop}{w w':World}(h:Fr B (I7 U χ (fun _=>(0,0)) (fun _=>(1000,0))) C w w')(hC:¬ C (1000,0)):d7 U w w' :=
 ⟨h.size,fun b h1 h2=>h.block b h2 (fun e=>hC (by have:=e.2;rwa[I7,if_neg om]at this))⟩
theorem aC6{U:Nat}{χ:Nat→Col}(h:U≤w.heap.size):ar2 (I7 U χ (fun _=>(0,0)) (fun _=>(1000,0))) w:=fun b hb=>by rw[I7,if_neg om];exact Nat.le_refl _
theorem d7.ofU{U:Nat}{w w':World}(h:d7 U w w'):∀ b cs T,U≤b→j5 w b cs T→j5 w' b cs T:=fun b cs T hb H=>by
 unfold j5
 rw[h.block b hb H.lt];exact H
theorem D9.put2{B o:Nat}{χ:Nat→Col}{w w2:World}{A:I1}{x:f7}(h:D9 B χ o w A x){a:Option Addr}{c:Nat}{l:List k5}(f:Fr B χ (·=(o+2,0)) w w2)(k:B6 B χ (o+2,0) w2 a c l):D9 B χ o w2 { A with a2:=a,c2:=c } { x with Downs:=l } :=
 ⟨h.o0.fr f si,h.o1.fr f si,k,h.o3.fr f si,h.o4.fr f si,h.o5.fr f si,h.o6.fr f si,h.o7.elim fun r hr=>⟨r,hr.1,hr.2.fr f si⟩,h.o8.fr f si,h.o9.fr f si,h.o10.fr f si,h.o11.fr f si,h.o12.fr f si,h.o13.fr f si,h.o14.fr f si,h.o15.fr f si,h.o16.fr f si,h.o17.fr f si,h.o18.elim fun r hr=>⟨r,hr.1,hr.2.fr f si⟩,h.o19.fr f si,h.o20.fr f si,h.o21.fr f si,h.ok⟩
theorem D9.put5{B o:Nat}{χ:Nat→Col}{w w2:World}{A:I1}{x:f7}(h:D9 B χ o w A x){a:Option Addr}{c:Nat}{l:List X1}(f:Fr B χ (·=(o+5,0)) w w2)(k:B6 B χ (o+5,0) w2 a c l):D9 B χ o w2 { A with a5:=a,c5:=c } { x with Ground.Pairs:=l } :=
 ⟨h.o0.fr f si,h.o1.fr f si,h.o2.fr f si,h.o3.fr f si,h.o4.fr f si,k,h.o6.fr f si,h.o7.elim fun r hr=>⟨r,hr.1,hr.2.fr f si⟩,h.o8.fr f si,h.o9.fr f si,h.o10.fr f si,h.o11.fr f si,h.o12.fr f si,h.o13.fr f si,h.o14.fr f si,h.o15.fr f si,h.o16.fr f si,h.o17.fr f si,h.o18.elim fun r hr=>⟨r,hr.1,hr.2.fr f si⟩,h.o19.fr f si,h.o20.fr f si,h.o21.fr f si,h.ok⟩
theorem D9.put6{B o:Nat}{χ:Nat→Col}{w w2:World}{A:I1}{x:f7}(h:D9 B χ o w A x){a:Option Addr}{c:Nat}{l:List s8}(f:Fr B χ (·=(o+6,0)) w w2)(k:B6 B χ (o+6,0) w2 a c l):D9 B χ o w2 { A with a6:=a,c6:=c } { x with Ground.Records:=l } :=
 ⟨h.o0.fr f si,h.o1.fr f si,h.o2.fr f si,h.o3.fr f si,h.o4.fr f si,h.o5.fr f si,k,h.o7.elim fun r hr=>⟨r,hr.1,hr.2.fr f si⟩,h.o8.fr f si,h.o9.fr f si,h.o10.fr f si,h.o11.fr f si,h.o12.fr f si,h.o13.fr f si,h.o14.fr f si,h.o15.fr f si,h.o16.fr f si,h.o17.fr f si,h.o18.elim fun r hr=>⟨r,hr.1,hr.2.fr f si⟩,h.o19.fr f si,h.o20.fr f si,h.o21.fr f si,h.ok⟩
