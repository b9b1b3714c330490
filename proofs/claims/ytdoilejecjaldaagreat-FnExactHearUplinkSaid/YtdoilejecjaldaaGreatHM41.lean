/- What walks of functions from a mission to a mission share. No condition but on sizes. -/
import Derived.Test.YtdoilejecjaldaaGreatHCopyMI
import Derived.Test.YtdoilejecjaldaaGreatHCopyMS
import Derived.Test.YtdoilejecjaldaaGreatHM38
import Derived.Test.YtdoilejecjaldaaGreatHM22
import Derived.Test.YtdoilejecjaldaaGreatHM26
import Derived.Test.YtdoilejecjaldaaGreatHLto3
import Derived.Test.YtdoilejecjaldaaGreatHM31
namespace Go.Proofs.YtdoilejecjaldaaGreat
set_option maxRecDepth 100000
set_option maxHeartbeats 2000000
set_option linter.unusedVariables false
open Go.ChangeShapes Go.WideShapes Go.ChangeAt Go.RowKit
theorem bx8{B o:Nat}{χ:Nat→Col}{w w2:World}{vs:List Value}{m:f5}(h:R8.O B χ o w vs m)(g:d5 w w2):R8.O B χ o w2 vs m:=by
 obtain⟨A,h0,h1⟩:=h
 exact⟨A,h0,h1.to g⟩
theorem bq9{B o:Nat}{χ:Nat→Col}{w w2:World}{vs:List Value}{m:f5}(h:R8.O B χ o w vs m)(g:b8 B w w2):R8.O B χ o w2 vs m:=by
 obtain⟨A,h0,h1⟩:=h
 exact⟨A,h0,h1.keep g⟩
theorem ab7{B:Nat}{w:World}{vs:List Value}{m:f5}(h:Enc.Rd B w vs m):vs.length=61:=Enc.len h
class ah4(α:Type)[E:D9 α] where
 one:Int→Nat→α
 good:∀ k i,0≤k→k≤1000000000000→i≤100000000→E.good (one k i)
section
variable {α:Type} [E:D9 α] [M:ah4 α]
def mkL(l:List α)(k:Int):List α:=(List.range l.length).map (M.one k)
theorem J3(l:List α)(k:Int):(mkL l k).length=l.length:=by simp[mkL]
def ak2(B:Nat)(χ:Nat→Col)(i:Col)(w:World)(a:Option Addr)(c:Nat)(l:List α)(k:Int):Ending→World→Prop:=fun e w' =>
 e=.returned (.int .i64 (k+l.length*(E.size:Nat)))∧D0 B χ i w' a c (mkL l k)∧Fr B χ (·=i) w w'
theorem ag0.mk{B n:Nat}{χ:Nat→Col}{i:Col}{w w':World}{a:Option Addr}{c:Nat}{l:List α}{k k2:Int}{e:Ending}(h:D0 B χ i w a c l)(hm:l.length≤100000000)(h1:0≤k)(h2:k≤1000000000000)(g:ag0 E.enc E.ty E.size B w a n c (mkL l k) k2 e w')(hk:k2=k+l.length*(E.size:Nat)):ak2 B χ i w a c l k e w':=by
 obtain⟨he,hg,ho⟩:=g
 refine⟨by rw[he,hk],⟨ho,h.col,fun x hx=>?_⟩,h.wrote hg⟩
 obtain⟨j,hj,rfl⟩:=List.mem_map.1 hx
 have:=List.mem_range.1 hj
 exact M.good k j h1 h2 (by omega)
end
theorem bk0:∀ (k:Nat) (acc:ByteArray),(aQ2 k acc).size≤acc.size+k
 | 0,acc=>by rw[aQ2,dif_pos rfl];omega
 | k+1,acc=>by
  rw[aQ2,dif_neg (by omega)]
  have:=bk0 ((k+1) / 10) (strOfNums [48+((k+1:Nat):Int) % 10]++acc)
  rw[ByteArray.size_append,show(strOfNums [48+((k+1:Nat):Int) % 10]).size=1 by simp[strOfNums_size]]at this
  omega
termination_by k=>k
decreasing_by omega
theorem V2{k:Int}(h0:0≤k)(h:k≤2000000000000):(N4 k).size≤9223372036854775807:=by
 unfold N4
 split
 ·decide
 ·have:=bk0 k.toNat ⟨#[]⟩
  rw[ByteArray.size_append]
  have h1:(⟨#[109]⟩:ByteArray).size=1:=rfl
  have h2:(⟨#[]⟩:ByteArray).size=0:=rfl
  omega
theorem bE0(k:Int)(i:Nat)(h0:0≤k)(h1:k≤1000000000000)(h2:i≤100000000):(aT2 k i).size≤9223372036854775807:=V2 (by omega) (by omega)
instance ah4.iInt:ah4 Int where
 one:=bb7
 good:=fun k i h0 h1 h2=>by show i64 (k+i);unfold i64;omega
theorem aq3{B:Nat}{χ:Nat→Col}{i:Col}{a:Option Addr}{c:Nat}{k:Int}{l:List Int}{w:World}(h:D0 B χ i w a c l)(hm:l.length≤100000000)(h1:0≤k)(h2:k≤1000000000000) :
  Calls Tryz.prog 230 #[.slice a l.length c,.int .i64 k] w (ak2 B χ i w a c l k) :=
 (bs9 h.own rfl hm h1 h2).mono fun _ _ g=>ag0.mk h hm h1 h2 g (by show _=k+(l.length:Int)*((1:Nat):Int);omega)
theorem al5{B:Nat}{a:Option Addr}{c:Nat}{k:Int}{l:List Int}{w:World}(hs:RdS B w a c (mkL l k))(hm:l.length≤100000000)(h1:0≤k)(h2:k≤1000000000000) :
  Calls Tryz.prog 236 #[.slice a l.length c,.int .i64 k] w (b4 w (.int .i64 (k+l.length*(Enc.size Int:Nat)))) :=
 (bs7 (c:=c) hs.slF hm h1 h2).mono fun _ _ g=>by have e:(k+l.length*((Enc.size Int:Nat):Int))=k+l.length*((1:Nat):Int):=rfl;rw[e];simpa using g
def bw9(k0:Int)(i:Nat):Bool:=decide ((k0+i) % 3=0)
theorem bs8{a:Option Addr}{n c B:Nat}{k0:Int}{l:List Bool}{w:World}(hown0:Own av5 4 1 B w a c l)(hn:l.length=n)(hm:n≤100000000)(h1:0≤k0)(h2:k0≤1000000000000) :
  Calls Tryz.prog 147 #[.slice a n c,.int .i64 k0] w (ag0 av5 4 1 B w a n c ((List.range n).map (bw9 k0)) (k0+n*1)):=by
 go_enter Tryz.func147,Tryz.ntmps147
 go_wp2_with (fail)
 go_loopw [1,5] (fun u v wr=>∃ j:Nat,v=.int .i64 j∧u=.int .i64 (k0+j*1)∧j≤n∧w.grownBy wr (Value.ownBlock (.slice a n c))∧Own av5 4 1 B wr a c (ag5 (bw9 k0) l j)) (fun _ v _=>(n - intOf v).toNat)
 case atStart=>exact⟨0,rfl,by simp,by omega,U8 _ _,by rw[Y7];exact hown0⟩
 case round =>
  obtain⟨j,rfl,rfl,hj,hgr,hown⟩:=hrel
  by_cases h:j<n
  ·obtain⟨g,rfl,hB,hlt⟩:=hown.open (n:=n) (by rw[s7 (by omega)];omega)
   obtain⟨o0,g0⟩:=hown.cells (j:=j) (by rw[s7 (by omega)];omega)
   have f0:=hown.free j
   have HG:=lH hgr;clear hgr
   have ht:Int.tmod (k0+j*1) 3=(k0+j) % 3:=by rw[Int.tmod_eq_emod_of_nonneg (by omega)];simp
   go_wp2_with (fail)
   go_roundw
   case rel =>
    have hp:=hown.put1 (j:=j) (y:=bw9 k0 j) (by rw[s7 (by omega)];omega) rfl
    refine⟨j+1,by go_num,by go_num,by omega,?_,?_⟩
    ·exact B3 HG.out hp.2
    ·rw[← ae4 (by omega)];exact hp.1
   case measure=>simp[intOf];omega
  ·go_wp2_with (fail)
   go_ret
   obtain rfl:j=n:=by omega
   refine⟨rfl,hgr,?_⟩
   rw[← hn,ae3]at hown
   rw[← hn];exact hown
instance ah4.iBool:ah4 Bool where
 one:=bw9
 good:=fun k i h0 h1 h2=>trivial
theorem bq1{B:Nat}{χ:Nat→Col}{i:Col}{a:Option Addr}{c:Nat}{k:Int}{l:List Bool}{w:World}(h:D0 B χ i w a c l)(hm:l.length≤100000000)(h1:0≤k)(h2:k≤1000000000000) :
  Calls Tryz.prog 147 #[.slice a l.length c,.int .i64 k] w (ak2 B χ i w a c l k) :=
 (bs8 h.own rfl hm h1 h2).mono fun _ _ g=>ag0.mk h hm h1 h2 g (by show _=k+(l.length:Int)*((1:Nat):Int);omega)
theorem bs6{a:Option Addr}{n c:Nat}{k0:Int}{w:World}(hs:RdS 0 w a c ((List.range n).map (bw9 k0)))(hm:n≤100000000)(h1:0≤k0)(h2:k0≤1000000000000) :
  Calls Tryz.prog 155 #[.slice a n c,.int .i64 k0] w (b4 w (.int .i64 (k0+n*1))):=by
 go_enter Tryz.func155,Tryz.ntmps155
 go_wp2_with (fail)
 go_loopw [1,5] (fun u v wr=>∃ j:Nat,v=.int .i64 j∧u=.int .i64 (k0+j*1)∧j≤n∧∃ x:b5 w,wr=x.w) (fun _ v _=>(n - intOf v).toNat)
 case atStart=>exact⟨0,rfl,by simp,by omega,b5.of⟩
 case round =>
  obtain⟨j,rfl,rfl,hj,x0,rfl⟩:=hrel
  by_cases h:j<n
  ·obtain⟨b,off,x,rfl,hb,hd,e0⟩:=hs.atBool (k:=j) (by simpa using h)
   have hx:x=decide ((k0+j) % 3=0):=by
    have:=congrArg (fun m=>m[0]?) hd.out
    simp[h]at this
    rw[← this];rfl
   have ht:Int.tmod (k0+j*1) 3=(k0+j) % 3:=by rw[Int.tmod_eq_emod_of_nonneg (by omega)];simp
   have ht2:Int.tmod (k0+j) 3=(k0+j) % 3:=by rw[Int.tmod_eq_emod_of_nonneg (by omega)]
   by_cases h3:(k0+j) % 3=0
   ·have hx2:x=true:=by rw[hx];simpa using h3
    clear hx;subst hx2
    go_wp2_with (fail)
    go_roundw
    case rel=>exact⟨j+1,by go_num,by go_num,by omega,b5.of⟩
    case measure=>simp[intOf];omega
   ·have hx2:x=false:=by rw[hx];simpa using h3
    clear hx;subst hx2
    go_wp2_with (fail)
    go_roundw
    case rel=>exact⟨j+1,by go_num,by go_num,by omega,b5.of⟩
    case measure=>simp[intOf];omega
  ·go_wp2_with (fail)
   go_ret
   obtain rfl:j=n:=by omega
   exact b4.mk rfl
theorem bp4{B:Nat}{a:Option Addr}{c:Nat}{k:Int}{l:List Bool}{w:World}(hs:RdS B w a c (mkL l k))(hm:l.length≤100000000)(h1:0≤k)(h2:k≤1000000000000) :
  Calls Tryz.prog 155 #[.slice a l.length c,.int .i64 k] w (b4 w (.int .i64 (k+l.length*(Enc.size Bool:Nat)))) :=
 (bs6 (c:=c) (hs.mono (Nat.zero_le _)) hm h1 h2).mono fun _ _ g=>by have e:(k+l.length*((Enc.size Bool:Nat):Int))=k+l.length*((1:Nat):Int):=rfl;rw[e];simpa using g
instance ah4.iByteArray:ah4 ByteArray where
 one:=aT2
 good:=fun k i h0 h1 h2=>bE0 _ _ h0 h1 h2
theorem ah9{B:Nat}{χ:Nat→Col}{i:Col}{a:Option Addr}{c:Nat}{k:Int}{l:List ByteArray}{w:World}(h:D0 B χ i w a c l)(hm:l.length≤100000000)(h1:0≤k)(h2:k≤1000000000000) :
  Calls Tryz.prog 52 #[.slice a l.length c,.int .i64 k] w (ak2 B χ i w a c l k) :=
 (aZ3 h.own rfl hm h1 h2).mono fun _ _ g=>ag0.mk h hm h1 h2 g (by show _=k+(l.length:Int)*((1:Nat):Int);omega)
theorem ah8{B:Nat}{a:Option Addr}{c:Nat}{k:Int}{l:List ByteArray}{w:World}(hs:RdS B w a c (mkL l k))(hm:l.length≤100000000)(h1:0≤k)(h2:k≤1000000000000) :
  Calls Tryz.prog 57 #[.slice a l.length c,.int .i64 k] w (b4 w (.int .i64 (k+l.length*(Enc.size ByteArray:Nat)))) :=
 (aZ1 (c:=c) hs.slF hm h1 h2).mono fun _ _ g=>by have e:(k+l.length*((Enc.size ByteArray:Nat):Int))=k+l.length*((1:Nat):Int):=rfl;rw[e];simpa using g
instance ah4.iSlot:ah4 ao3 where
 one:=av9
 good:=fun k i h0 h1 h2=>by
  show aX7 (av9 k i)
  refine⟨?_,?_,trivial⟩<;>first|(unfold i64 av9;dsimp only;omega)|(unfold av9;dsimp only;exact V2 (by omega) (by omega))
theorem bq5{B:Nat}{χ:Nat→Col}{i:Col}{a:Option Addr}{c:Nat}{k:Int}{l:List ao3}{w:World}(h:D0 B χ i w a c l)(hm:l.length≤100000000)(h1:0≤k)(h2:k≤1000000000000) :
  Calls Tryz.prog 48 #[.slice a l.length c,.int .i64 k] w (ak2 B χ i w a c l k) :=
 (bm7 h.own rfl hm h1 h2).mono fun _ _ g=>ag0.mk h hm h1 h2 g (by show _=k+(l.length:Int)*((2:Nat):Int);omega)
theorem bp8{B:Nat}{a:Option Addr}{c:Nat}{k:Int}{l:List ao3}{w:World}(hs:RdS B w a c (mkL l k))(hm:l.length≤100000000)(h1:0≤k)(h2:k≤1000000000000) :
  Calls Tryz.prog 53 #[.slice a l.length c,.int .i64 k] w (b4 w (.int .i64 (k+l.length*(Enc.size ao3:Nat)))) :=
 (bm5 (c:=c) hs.slF hm h1 h2).mono fun _ _ g=>by have e:(k+l.length*((Enc.size ao3:Nat):Int))=k+l.length*((2:Nat):Int):=rfl;rw[e];simpa using g
instance ah4.iPair:ah4 af2 where
 one:=av8
 good:=fun k i h0 h1 h2=>by
  show aX6 (av8 k i)
  refine⟨?_,?_,trivial⟩<;>first|(unfold i64 av8;dsimp only;omega)|(unfold av8;dsimp only;exact V2 (by omega) (by omega))
theorem bq3{B:Nat}{χ:Nat→Col}{i:Col}{a:Option Addr}{c:Nat}{k:Int}{l:List af2}{w:World}(h:D0 B χ i w a c l)(hm:l.length≤100000000)(h1:0≤k)(h2:k≤1000000000000) :
  Calls Tryz.prog 144 #[.slice a l.length c,.int .i64 k] w (ak2 B χ i w a c l k) :=
 (bm6 h.own rfl hm h1 h2).mono fun _ _ g=>ag0.mk h hm h1 h2 g (by show _=k+(l.length:Int)*((2:Nat):Int);omega)
theorem bp6{B:Nat}{a:Option Addr}{c:Nat}{k:Int}{l:List af2}{w:World}(hs:RdS B w a c (mkL l k))(hm:l.length≤100000000)(h1:0≤k)(h2:k≤1000000000000) :
  Calls Tryz.prog 152 #[.slice a l.length c,.int .i64 k] w (b4 w (.int .i64 (k+l.length*(Enc.size af2:Nat)))) :=
 (bm4 (c:=c) hs.slF hm h1 h2).mono fun _ _ g=>by have e:(k+l.length*((Enc.size af2:Nat):Int))=k+l.length*((2:Nat):Int):=rfl;rw[e];simpa using g
instance ah4.iTFlight:ah4 s6 where
 one:=ae5
 good:=fun k i h0 h1 h2=>by
  show ai0 (ae5 k i)
  refine⟨?_,?_,trivial⟩<;>first|(unfold i64 ae5;dsimp only;omega)|(unfold ae5;dsimp only;exact V2 (by omega) (by omega))
theorem aD3{B:Nat}{χ:Nat→Col}{i:Col}{a:Option Addr}{c:Nat}{k:Int}{l:List s6}{w:World}(h:D0 B χ i w a c l)(hm:l.length≤100000000)(h1:0≤k)(h2:k≤1000000000000) :
  Calls Tryz.prog 49 #[.slice a l.length c,.int .i64 k] w (ak2 B χ i w a c l k) :=
 (aV6 h.own rfl hm h1 h2).mono fun _ _ g=>ag0.mk h hm h1 h2 g (by show _=k+(l.length:Int)*((2:Nat):Int);omega)
theorem aD2{B:Nat}{a:Option Addr}{c:Nat}{k:Int}{l:List s6}{w:World}(hs:RdS B w a c (mkL l k))(hm:l.length≤100000000)(h1:0≤k)(h2:k≤1000000000000) :
  Calls Tryz.prog 54 #[.slice a l.length c,.int .i64 k] w (b4 w (.int .i64 (k+l.length*(Enc.size s6:Nat)))) :=
 (aV4 (c:=c) hs.slF hm h1 h2).mono fun _ _ g=>by have e:(k+l.length*((Enc.size s6:Nat):Int))=k+l.length*((2:Nat):Int):=rfl;rw[e];simpa using g
instance ah4.iTRecord:ah4 B4 where
 one:=ae6
 good:=fun k i h0 h1 h2=>by
  show az1 (ae6 k i)
  refine⟨?_,?_,?_,?_,trivial⟩<;>first|(unfold i64 ae6;dsimp only;omega)|(unfold ae6;dsimp only;exact V2 (by omega) (by omega))
theorem at6{B:Nat}{χ:Nat→Col}{i:Col}{a:Option Addr}{c:Nat}{k:Int}{l:List B4}{w:World}(h:D0 B χ i w a c l)(hm:l.length≤100000000)(h1:0≤k)(h2:k≤1000000000000) :
  Calls Tryz.prog 145 #[.slice a l.length c,.int .i64 k] w (ak2 B χ i w a c l k) :=
 (aV7 h.own rfl hm h1 h2).mono fun _ _ g=>ag0.mk h hm h1 h2 g (by show _=k+(l.length:Int)*((4:Nat):Int);omega)
theorem at5{B:Nat}{a:Option Addr}{c:Nat}{k:Int}{l:List B4}{w:World}(hs:RdS B w a c (mkL l k))(hm:l.length≤100000000)(h1:0≤k)(h2:k≤1000000000000) :
  Calls Tryz.prog 153 #[.slice a l.length c,.int .i64 k] w (b4 w (.int .i64 (k+l.length*(Enc.size B4:Nat)))) :=
 (aV5 (c:=c) hs.slF hm h1 h2).mono fun _ _ g=>by have e:(k+l.length*((Enc.size B4:Nat):Int))=k+l.length*((4:Nat):Int):=rfl;rw[e];simpa using g
instance ah4.iTWaiting:ah4 A4 where
 one:=ad4
 good:=fun k i h0 h1 h2=>by
  show al7 (ad4 k i)
  refine⟨?_,⟨?_,?_,?_,?_,trivial⟩,trivial⟩<;>first|(unfold i64 ad4;dsimp only;omega)|(unfold ad4;dsimp only;exact V2 (by omega) (by omega))
theorem aW6{B:Nat}{χ:Nat→Col}{i:Col}{a:Option Addr}{c:Nat}{k:Int}{l:List A4}{w:World}(h:D0 B χ i w a c l)(hm:l.length≤100000000)(h1:0≤k)(h2:k≤1000000000000) :
  Calls Tryz.prog 232 #[.slice a l.length c,.int .i64 k] w (ak2 B χ i w a c l k) :=
 (aP8 h.own rfl hm h1 h2).mono fun _ _ g=>ag0.mk h hm h1 h2 g (by show _=k+(l.length:Int)*((5:Nat):Int);omega)
theorem aW2{B:Nat}{a:Option Addr}{c:Nat}{k:Int}{l:List A4}{w:World}(hs:RdS B w a c (mkL l k))(hm:l.length≤100000000)(h1:0≤k)(h2:k≤1000000000000) :
  Calls Tryz.prog 238 #[.slice a l.length c,.int .i64 k] w (b4 w (.int .i64 (k+l.length*(Enc.size A4:Nat)))) :=
 (aP7 (c:=c) hs.slF hm h1 h2).mono fun _ _ g=>by have e:(k+l.length*((Enc.size A4:Nat):Int))=k+l.length*((5:Nat):Int):=rfl;rw[e];simpa using g
instance ah4.iTLimit:ah4 V3 where
 one:=aj9
 good:=fun k i h0 h1 h2=>by
  show aF0 (aj9 k i)
  refine⟨?_,?_,?_,trivial⟩<;>first|(unfold i64 aj9;dsimp only;omega)|(unfold aj9;dsimp only;exact V2 (by omega) (by omega))
theorem bi2{B:Nat}{χ:Nat→Col}{i:Col}{a:Option Addr}{c:Nat}{k:Int}{l:List V3}{w:World}(h:D0 B χ i w a c l)(hm:l.length≤100000000)(h1:0≤k)(h2:k≤1000000000000) :
  Calls Tryz.prog 231 #[.slice a l.length c,.int .i64 k] w (ak2 B χ i w a c l k) :=
 (aZ4 h.own rfl hm h1 h2).mono fun _ _ g=>ag0.mk h hm h1 h2 g (by show _=k+(l.length:Int)*((3:Nat):Int);omega)
theorem bh8{B:Nat}{a:Option Addr}{c:Nat}{k:Int}{l:List V3}{w:World}(hs:RdS B w a c (mkL l k))(hm:l.length≤100000000)(h1:0≤k)(h2:k≤1000000000000) :
  Calls Tryz.prog 237 #[.slice a l.length c,.int .i64 k] w (b4 w (.int .i64 (k+l.length*(Enc.size V3:Nat)))) :=
 (aZ2 (c:=c) hs.slF hm h1 h2).mono fun _ _ g=>by have e:(k+l.length*((Enc.size V3:Nat):Int))=k+l.length*((3:Nat):Int):=rfl;rw[e];simpa using g
instance ah4.iTDone:ah4 aa5 where
 one:=ap4
 good:=fun k i h0 h1 h2=>by
  show aN7 (ap4 k i)
  refine⟨?_,?_,?_,trivial⟩<;>first|(unfold i64 ap4;dsimp only;omega)|(unfold ap4;dsimp only;exact V2 (by omega) (by omega))
theorem bq2{B:Nat}{χ:Nat→Col}{i:Col}{a:Option Addr}{c:Nat}{k:Int}{l:List aa5}{w:World}(h:D0 B χ i w a c l)(hm:l.length≤100000000)(h1:0≤k)(h2:k≤1000000000000) :
  Calls Tryz.prog 233 #[.slice a l.length c,.int .i64 k] w (ak2 B χ i w a c l k) :=
 (bf2 h.own rfl hm h1 h2).mono fun _ _ g=>ag0.mk h hm h1 h2 g (by show _=k+(l.length:Int)*((3:Nat):Int);omega)
theorem bp5{B:Nat}{a:Option Addr}{c:Nat}{k:Int}{l:List aa5}{w:World}(hs:RdS B w a c (mkL l k))(hm:l.length≤100000000)(h1:0≤k)(h2:k≤1000000000000) :
  Calls Tryz.prog 239 #[.slice a l.length c,.int .i64 k] w (b4 w (.int .i64 (k+l.length*(Enc.size aa5:Nat)))) :=
 (bf0 (c:=c) hs.slF hm h1 h2).mono fun _ _ g=>by have e:(k+l.length*((Enc.size aa5:Nat):Int))=k+l.length*((3:Nat):Int):=rfl;rw[e];simpa using g
instance ah4.iTSent:ah4 Z1 where
 one:=an0
 good:=fun k i h0 h1 h2=>by
  show aN9 (an0 k i)
  refine⟨?_,?_,trivial⟩<;>first|(unfold i64 an0;dsimp only;omega)|(unfold an0;dsimp only;exact V2 (by omega) (by omega))
theorem bq4{B:Nat}{χ:Nat→Col}{i:Col}{a:Option Addr}{c:Nat}{k:Int}{l:List Z1}{w:World}(h:D0 B χ i w a c l)(hm:l.length≤100000000)(h1:0≤k)(h2:k≤1000000000000) :
  Calls Tryz.prog 229 #[.slice a l.length c,.int .i64 k] w (ak2 B χ i w a c l k) :=
 (bf3 h.own rfl hm h1 h2).mono fun _ _ g=>ag0.mk h hm h1 h2 g (by show _=k+(l.length:Int)*((2:Nat):Int);omega)
theorem bp7{B:Nat}{a:Option Addr}{c:Nat}{k:Int}{l:List Z1}{w:World}(hs:RdS B w a c (mkL l k))(hm:l.length≤100000000)(h1:0≤k)(h2:k≤1000000000000) :
  Calls Tryz.prog 235 #[.slice a l.length c,.int .i64 k] w (b4 w (.int .i64 (k+l.length*(Enc.size Z1:Nat)))) :=
 (bf1 (c:=c) hs.slF hm h1 h2).mono fun _ _ g=>by have e:(k+l.length*((Enc.size Z1:Nat):Int))=k+l.length*((2:Nat):Int):=rfl;rw[e];simpa using g
def aa1(x:D4)(k:Int):D4:={ x with File:=k,Size:=k+1,Check:=k+1+1,Parts:=mkL x.Parts (k+1+1+1) }
def I2(x:D4)(k:Int):Int:=k+1+1+1+(x.Parts.length:Int)*((1:Nat):Int)
def ad3(x:j7)(k:Int):j7:={ x with File:=k,Data:=N4 (k+1),Queue:=mkL x.Queue (k+1+1),Done:=decide ((k+1+1+(x.Queue.length:Int)*((1:Nat):Int)) % 3=0) }
def I4(x:j7)(k:Int):Int:=k+1+1+(x.Queue.length:Int)*((1:Nat):Int)+1
def mkN{α:Type}(f:α→Int→α)(g:α→Int→Int):List α→Int→List α
 | [],_=>[]
 | x::r,k=>f x k::mkN f g r (g x k)
def mnN{α:Type}(g:α→Int→Int):List α→Int→Int
 | [],k=>k
 | x::r,k=>mnN g r (g x k)
theorem at0{α:Type}(f:α→Int→α)(g:α→Int→Int):∀ (l:List α) (k:Int),(mkN f g l k).length=l.length
 | [],_=>rfl
 | x::r,k=>by simp[mkN,at0 f g r]
theorem bb8{α:Type}(f:α→Int→α)(g:α→Int→Int)(y:α):∀ (l:List α) (k:Int),mkN f g (l++[y]) k=mkN f g l k++[f y (mnN g l k)]
 | [],_=>rfl
 | x::r,k=>by simp[mkN,mnN,bb8 f g y r]
theorem aN2{α:Type}(g:α→Int→Int)(y:α):∀ (l:List α) (k:Int),mnN g (l++[y]) k=g y (mnN g l k)
 | [],_=>rfl
 | x::r,k=>by simp[mnN,aN2 g y r]
theorem at2{α:Type}[Enc α](g:α→Int→Int)(hg:∀ x k,k≤g x k∧g x k≤k+5*(1+Enc.tot x)):∀ (l:List α) (k:Int),k≤mnN g l k∧mnN g l k≤k+5*d7 l
 | [],k=>by simp[mnN,d7]
 | x::r,k=>by
  have h1:=hg x k
  have h2:=at2 g hg r (g x k)
  simp only[mnN,d7]
  omega
theorem an1(x:D4)(k:Int):k≤I2 x k∧I2 x k≤k+5*(1+Enc.tot x):=by
 have h1:=d9 x.Parts
 have h2:Enc.tot x=d7 x.Parts:=rfl
 unfold I2
 omega
theorem ak0(x:j7)(k:Int):k≤I4 x k∧I4 x k≤k+5*(1+Enc.tot x):=by
 have h1:=d9 x.Queue
 have h2:Enc.tot x=(x.Data.size:Int)+d7 x.Queue:=rfl
 unfold I4
 omega
theorem bO8{α:Type}(l:List α)(i:Nat)(v:α)(h:l[i]?=some v):l.set i v=l:=by
 refine List.ext_getElem? fun k=>?_
 rw[List.getElem?_set]
 split
 ·rename_i e
  subst e
  have hi:=(List.getElem?_eq_some_iff.1 h).1
  first|(rw[if_pos hi,h])|(simp[hi,h])
 ·rfl
theorem Own.put3of4{α:Type}{enc:α→List Value}{T B g:Nat}{w:World}{c:Nat}{l:List α}(h:Own enc T 4 B w (some ⟨g,0,none⟩) c l){j:Nat}{x y:α}(hx:l[j]?=some x){u0 u1 u2 v0 v1 v2 v3:Value}(hex:enc x=[u0,u1,u2,v3])(hy:enc y=[v0,v1,v2,v3]) :
  Own enc T 4 B (((w.setCell ⟨g,j*4,none⟩ v0).setCell ⟨g,j*4+1,none⟩ v1).setCell ⟨g,j*4+2,none⟩ v2) (some ⟨g,0,none⟩) c (l.set j y)∧w.grownBy (((w.setCell ⟨g,j*4,none⟩ v0).setCell ⟨g,j*4+1,none⟩ v1).setCell ⟨g,j*4+2,none⟩ v2) (some g) ∧
  (((w.setCell ⟨g,j*4,none⟩ v0).setCell ⟨g,j*4+1,none⟩ v1).setCell ⟨g,j*4+2,none⟩ v2).cell? ⟨g,j*4+3,none⟩=some v3:=by
 have hj:j<l.length:=(List.getElem?_eq_some_iff.1 hx).1
 have s0:=(h.2).stored (j*4) v0
 have s1:=(s0.1).stored (j*4+1) v1
 have s2:=(s1.1).stored (j*4+2) v2
 have h3:(l.flatMap enc)[j*4+3]?=some v3:=af6 h.1 l _ _ _ _ hx (by rw[hex];rfl)
 have hL:(((l.flatMap enc).set (j*4) v0).set (j*4+1) v1).set (j*4+2) v2=(l.set j y).flatMap enc:=by
  rw[← bG8 h.1 hy l j hj]
  exact(bO8 ((((l.flatMap enc).set (j*4) v0).set (j*4+1) v1).set (j*4+2) v2) (j*4+3) v3 (by rw[List.getElem?_set_ne (by omega),List.getElem?_set_ne (by omega),List.getElem?_set_ne (by omega)];exact h3)).symm
 have hO:Own enc T 4 B (((w.setCell ⟨g,j*4,none⟩ v0).setCell ⟨g,j*4+1,none⟩ v1).setCell ⟨g,j*4+2,none⟩ v2) (some ⟨g,0,none⟩) c (l.set j y):=by
  refine⟨h.1,?_⟩
  rw[← hL,List.length_set]
  exact s2.1
 refine⟨hO,B3 (B3 s0.2 s1.2) s2.2,?_⟩
 have:=hO.2.cellAt (n:=(l.set j y).length) (j*4+3) (by rw[List.length_set];omega)
 rw[this]
 exact af6 h.1 (l.set j y) _ _ _ _ (List.getElem?_set_self hj) (by rw[hy];rfl)
section
variable {α β:Type} [N:ao2 α β] [F:D9 β] {B o g c j:Nat} {χ:Nat→Col} {w W3 w4:World} {rows:List (N7 α)} {r:N7 α} {x:α}
theorem M9.wrote(h:M9 B χ o w (some ⟨g,0,none⟩) c rows)(hg:w.grownBy W3 (some g)):Fr B χ (·=(o,0)) w W3 :=
 ⟨hg.os,hg.tape,hg.output,hg.size,fun b h2 h3=>hg.block b h2 (fun e=>h3 ⟨by cases e;exact(h.own.blk g rfl).1,by cases e;exact h.col g rfl⟩)⟩
theorem aO8{γ:Type}(p q:List γ)(r y:γ)(j:Nat)(hj:p.length=j):(p++r::q).set j y=p++[y]++q:=by
 subst hj
 simp[List.set_append_right]
theorem ay4{γ:Type}(p q:List γ)(r:γ)(j:Nat)(hj:p.length=j):(p++r::q)[j]?=some r:=by
 subst hj
 simp
theorem au4{γ:Type}[Enc γ]:∀ (p q:List γ),d7 (p++q)=d7 p+d7 q
 | [],q=>by simp[d7]
 | x::p,q=>by simp only[List.cons_append,d7,au4 p q];omega
theorem M9.row(h:M9 B χ o w (some ⟨g,0,none⟩) c rows)(hr:rows[j]?=some r)(hown3:Own (Z0 (α:=α)) N.ty N.size B W3 (some ⟨g,0,none⟩) c (rows.set j ⟨x,r.a,r.c⟩))(F3:Fr B χ (·=(o,0)) w W3)(hgd:N.good x)
  (hi:D0 B χ (o,j+1) w4 r.a r.c (N.inner x)) (F4:Fr B χ (·=(o,j+1)) W3 w4):M9 B χ o w4 (some ⟨g,0,none⟩) c (rows.set j ⟨x,r.a,r.c⟩):=by
 have hj:j<rows.length:=(List.getElem?_eq_some_iff.1 hr).1
 refine⟨hown3.same (fun k hk h1 h2=>F4.block k h2 (fun e=>?_)),h.col,fun i q hq=>?_⟩
 ·have:=h.col k hk
  rw[this]at e
  simp at e
 ·by_cases hi2:i=j
  ·subst hi2
   rw[List.getElem?_set_self hj]at hq
   cases hq
   exact⟨hgd,hi⟩
  ·rw[List.getElem?_set_ne (by omega)]at hq
   obtain⟨h1,h2⟩:=h.each i q hq
   exact⟨h1,(h2.fr F3 (by simp)).fr F4 (by simp;omega)⟩
theorem aS8{γ:Type}{enc:γ→List Value}{size:Nat}(hsz:∀ x:γ,(enc x).length=size){y:γ}{i:Nat}{v:Value}(hi:i<size):∀ (l:List γ) (j:Nat) (x:γ),l[j]?=some x→enc y=(enc x).set i v→(l.flatMap enc).set (j*size+i) v=(l.set j y).flatMap enc
 | [],j,x,h,_=>by simp at h
 | z::l,0,x,h,hy=>by
  simp only[List.getElem?_cons_zero,Option.some.injEq]at h
  subst h
  simp only[List.flatMap_cons,List.set_cons_zero,Nat.zero_mul,Nat.zero_add]
  rw[List.set_append_left _ _ (by rw[hsz];exact hi),hy]
 | z::l,j+1,x,h,hy=>by
  simp only[List.flatMap_cons,List.set_cons_succ]
  rw[List.set_append_right _ _ (by rw[hsz,Nat.succ_mul];omega),hsz,show(j+1)*size+i - size=j*size+i by rw[Nat.succ_mul];omega,aS8 hsz hi l j x (by simpa using h) hy]
theorem M9.setCell{i:Nat}{v:Value}(h:M9 B χ o w (some ⟨g,0,none⟩) c rows)(hr:rows[j]?=some r)(hi:i<N.size)(henc:N.cells x r.a r.c=(N.cells r.x r.a r.c).set i v)(hin:N.inner x=N.inner r.x)(hgd:N.good x) :
  M9 B χ o (w.setCell ⟨g,j*N.size+i,none⟩ v) (some ⟨g,0,none⟩) c (rows.set j ⟨x,r.a,r.c⟩)∧w.grownBy (w.setCell ⟨g,j*N.size+i,none⟩ v) (some g):=by
 have hj:j<rows.length:=(List.getElem?_eq_some_iff.1 hr).1
 have s0:=(h.own.2).stored (j*N.size+i) v
 have hO:Own (Z0 (α:=α)) N.ty N.size B (w.setCell ⟨g,j*N.size+i,none⟩ v) (some ⟨g,0,none⟩) c (rows.set j ⟨x,r.a,r.c⟩):=by
  refine⟨h.own.1,?_⟩
  rw[← aS8 (y:=(⟨x,r.a,r.c⟩:N7 α)) h.own.1 hi rows j r hr (show Z0 (⟨x,r.a,r.c⟩:N7 α)=(Z0 r).set i v from henc),List.length_set]
  exact s0.1
 have F:=h.wrote s0.2
 refine⟨⟨hO,h.col,fun q s hs=>?_⟩,s0.2⟩
 by_cases hq:q=j
 ·subst hq
  rw[List.getElem?_set_self hj]at hs
  cases hs
  refine⟨hgd,?_⟩
  show D0 B χ (o,q+1) _ r.a r.c (N.inner x)
  rw[hin]
  exact((h.each q r hr).2).fr F (by simp)
 ·rw[List.getElem?_set_ne (by omega)]at hs
  obtain⟨h1,h2⟩:=h.each q s hs
  exact⟨h1,h2.fr F (by simp)⟩
end
def br7{α β:Type}[N:ao2 α β][F:D9 β](f:α→Int→α)(g:α→Int→Int)(B:Nat)(χ:Nat→Col)(o:Nat)(w:World)(a:Option Addr)(c:Nat)(l:List α)(k:Int):Ending→World→Prop:=fun e w' =>
 ∃ rows:List (N7 α),e=.returned (.int .i64 (mnN g l k))∧rows.map (·.x)=mkN f g l k∧M9 B χ o w' a c rows∧Fr B χ (fun i=>i.1=o) w w'
theorem aL6{γ:Type}{f:γ→List Value}{y:γ}:∀ (l:List γ) (j:Nat) (x:γ),l[j]?=some x→f y=f x→(l.set j y).flatMap f=l.flatMap f
 | [],_,_,h,_=>by simp at h
 | z::l,0,x,h,e=>by
  simp only[List.getElem?_cons_zero,Option.some.injEq]at h
  subst h
  simp only[List.set_cons_zero,List.flatMap_cons,e]
 | z::l,j+1,x,h,e=>by
  simp only[List.set_cons_succ,List.flatMap_cons]
  rw[aL6 l j x (by simpa using h) e]
theorem M9.within{α β:Type}[N:ao2 α β][F:D9 β]{B o g c j:Nat}{χ:Nat→Col}{w w4:World}{rows:List (N7 α)}{r:N7 α}{x:α}(h:M9 B χ o w (some ⟨g,0,none⟩) c rows)(hr:rows[j]?=some r)(henc:N.cells x r.a r.c=N.cells r.x r.a r.c)(hgd:N.good x)(hi:D0 B χ (o,j+1) w4 r.a r.c (N.inner x))(F4:Fr B χ (·=(o,j+1)) w w4):M9 B χ o w4 (some ⟨g,0,none⟩) c (rows.set j ⟨x,r.a,r.c⟩):=by
 refine h.row hr ⟨h.own.1,?_⟩ (Fr.refl _ _ _ _) hgd hi F4
 rw[List.length_set,aL6 (f:=Z0) (y:=(⟨x,r.a,r.c⟩:N7 α)) rows j r hr (show Z0 (⟨x,r.a,r.c⟩:N7 α)=Z0 r from henc)]
 exact h.own.2
theorem bo8{α:Type}(f:α→Int→α)(g:α→Int→Int):∀ (l:List α) (k:Int) (j:Nat),(mkN f g l k)[j]?=(l[j]?).map (fun x=>f x (mnN g (l.take j) k))
 | [],_,_=>by simp[mkN]
 | x::r,k,0=>by simp[mkN,mnN]
 | x::r,k,j+1=>by simp[mkN,mnN,bo8 f g r (g x k) j]
theorem bb9{α:Type}(g:α→Int→Int)(l:List α)(k:Int){j:Nat}{x:α}(h:l[j]?=some x):mnN g (l.take (j+1)) k=g x (mnN g (l.take j) k):=by
 rw[List.take_add_one,h]
 exact aN2 g x _ k
theorem bl4{α:Type}[Enc α](l:List α)(j:Nat):d7 (l.take j)≤d7 l:=by
 have h:=au4 (l.take j) (l.drop j)
 rw[List.take_append_drop]at h
 have:=b7 (l.drop j)
 omega
theorem bc7{B o:Nat}{χ:Nat→Col}{a:Option Addr}{c:Nat}{k0:Int}{rows0:List (N7 D4)}{w:World}(h0:M9 B χ o w a c rows0)(ht:d7 (rows0.map (·.x))≤100000000)(h1:0≤k0)(h2:k0≤500000000000) :
  Calls Tryz.prog 146 #[.slice a rows0.length c,.int .i64 k0] w (br7 aa1 I2 B χ o w a c (rows0.map (·.x)) k0):=by
 obtain⟨n,hn⟩:∃ n,rows0.length=n:=⟨_,rfl⟩
 have hln:=d9 (rows0.map (·.x))
 have hm:n≤100000000:=by simp at hln;omega
 have HN:=lH hn
 have HT:=lH ht
 have HK:=lH (show ∀ (p:List D4),d7 p≤100000000→k0≤mnN I2 p k0∧mnN I2 p k0≤600000000000 from fun p hp=>by have:=at2 I2 an1 p k0;omega)
 clear ht hln
 rw[hn];clear hn
 go_enter Tryz.func146,Tryz.ntmps146
 go_wp2_with fail
 go_loopw [1,5] (fun u v wr=>∃ (j:Nat) (p p0 q:List (N7 D4)) (kj:Int),v=.int .i64 j∧u=.int .i64 kj∧j≤n∧Hid (rows0=p0++q)∧Hid (p.length=j∧p0.length=j)∧Hid (p.map (fun r=>r.x)=mkN aa1 I2 (p0.map (fun r=>r.x)) k0)∧Hid (kj=mnN I2 (p0.map (fun r=>r.x)) k0)∧Hid (M9 B χ o wr a c (p++q))∧Hid (Fr B χ (fun i=>i.1=o) w wr)) (fun _ v _=>(n - intOf v).toNat)
 case atStart=>exact⟨0,[],[],rows0,k0,rfl,rfl,by omega,rfl,⟨rfl,rfl⟩,rfl,rfl,h0,Fr.refl _ _ _ _⟩
 case round =>
  obtain⟨j,p,p0,q,kj,rfl,rfl,hj,hR,hL,hP,hK,hO,hF⟩:=hrel
  by_cases h:j<n
  ·obtain⟨r,q',rfl⟩:∃ r q',q=r::q':=by
    cases q with
    | nil=>have h8:=congrArg List.length hR.out;have h9:=HN.out;have h7:=hL.out.2;simp at h8;omega
    | cons r q'=>exact⟨r,q',rfl⟩
   have hr:=ay4 p q' r j hL.out.1
   have hE:=hO.out.each j r hr
   obtain⟨g,rfl,hg1,hg2⟩:=hO.out.own.open (n:=0) (by simp;omega)
   have hlen:(p++r::q').length=n:=by
    have h8:=congrArg List.length hR.out;have h9:=HN.out;have h7:=hL.out;simp at h8 ⊢;omega
   obtain⟨o0,g0⟩:=hO.out.own.cells (j:=j*4) (show j*4<(p++r::q').length*4 by rw[hlen];omega)
   obtain⟨o1,g1⟩:=hO.out.own.cells (j:=j*4+1) (show j*4+1<(p++r::q').length*4 by rw[hlen];omega)
   obtain⟨o2,g2⟩:=hO.out.own.cells (j:=j*4+2) (show j*4+2<(p++r::q').length*4 by rw[hlen];omega)
   have f0:=hO.out.own.free (j*4);have f1:=hO.out.own.free (j*4+1);have f2:=hO.out.own.free (j*4+2)
   have hkb:=HK.out (p0.map (fun r=>r.x)) (by have:=HT.out;rw[hR.out,List.map_append,au4]at this;have:=b7 ((r::q').map (fun r=>r.x));omega)
   rw[← hK.out]at hkb
   have hpt:r.x.Parts.length≤100000000:=by
    have h8:=HT.out;rw[hR.out,List.map_append,au4]at h8
    have h9:=b7 (p0.map (fun r=>r.x))
    have h7:=ae9 (l:=(r::q').map (fun r=>r.x)) (x:=r.x) (by simp)
    have h6:=d9 r.x.Parts
    have h5:Enc.tot r.x=d7 r.x.Parts:=rfl
    omega
   have P3:=hO.out.own.put3of4 hr (y:=⟨aa1 r.x kj,r.a,r.c⟩) (v0:=.int .i64 kj) (v1:=.int .i64 (kj+1)) (v2:=.int .i64 (kj+1+1)) rfl (by show[_,_,_,Value.slice r.a (mkL r.x.Parts (kj+1+1+1)).length r.c]=_;rw[J3];rfl)
   have H3:=lH P3.1;have F3:=lH (hO.out.wrote P3.2.1);have C3:=P3.2.2;clear P3
   have HI:=lH (hE.2.fr F3.out (by simp));have HGd:=lH hE.1;clear hE
   have HR:=lH hr;clear hr
   go_wp2_with fail
   refine(ah9 HI.out hpt (by omega) (by omega)).mono ?_
   rintro _ w4 ⟨rfl,hi,F4⟩
   have HI4:=lH hi;have HF4:=lH F4;clear hi F4
   go_wp2_with fail
   go_roundw
   case rel =>
    refine⟨j+1,p++[⟨aa1 r.x kj,r.a,r.c⟩],p0++[r],q',I2 r.x kj,by go_num,rfl,by omega,?_,⟨by simp[hL.out.1],by simp[hL.out.2]⟩,?_,?_,?_,?_⟩
    ·show rows0=_
     rw[hR.out];simp
    ·show List.map _ _=_
     rw[List.map_append,List.map_append]
     show _++[aa1 r.x kj]=mkN _ _ (_++[r.x]) _
     rw[bb8,hP.out,← hK.out]
    ·show I2 r.x kj=mnN _ (List.map _ (p0++[r])) _
     rw[List.map_append]
     show _=mnN _ (_++[r.x]) _
     rw[aN2,← hK.out]
    ·have:=hO.out.row HR.out H3.out F3.out (by show at7 _;refine⟨?_,?_,?_,trivial⟩<;>(unfold i64 aa1;dsimp only;omega)) HI4.out HF4.out
     rw[aO8 p q' r _ j hL.out.1]at this
     exact this
    ·exact(hF.out.trans (F3.out.wide (fun i e=>by rw[e]))).trans (HF4.out.wide (fun i e=>by rw[e]))
   case measure=>simp[intOf];omega
  ·have hjn:j=n:=by omega
   have hq:q=[]:=by
    have h8:=congrArg List.length hR.out;have h9:=HN.out;have h7:=hL.out.2;simp at h8
    exact List.length_eq_zero_iff.1 (by omega)
   have HQ:=lH hq;clear hq hjn
   go_wp2_with fail
   go_ret
   have hR2:=hR.out;have hO2:=hO.out
   rw[HQ.out,List.append_nil]at hR2 hO2
   exact⟨p,by rw[hK.out,hR2];rfl,by rw[hP.out,hR2],hO2,hF.out⟩
theorem aW3{B o:Nat}{χ:Nat→Col}{a:Option Addr}{c:Nat}{k0:Int}{rows0:List (N7 j7)}{w:World}(h0:M9 B χ o w a c rows0)(ht:d7 (rows0.map (·.x))≤100000000)(h1:0≤k0)(h2:k0≤500000000000) :
  Calls Tryz.prog 150 #[.slice a rows0.length c,.int .i64 k0] w (br7 ad3 I4 B χ o w a c (rows0.map (·.x)) k0):=by
 obtain⟨n,hn⟩:∃ n,rows0.length=n:=⟨_,rfl⟩
 have hln:=d9 (rows0.map (·.x))
 have hm:n≤100000000:=by simp at hln;omega
 have HN:=lH hn
 have HT:=lH ht
 have HK:=lH (show ∀ (p:List j7),d7 p≤100000000→k0≤mnN I4 p k0∧mnN I4 p k0≤600000000000 from fun p hp=>by have:=at2 I4 ak0 p k0;omega)
 clear ht hln
 rw[hn];clear hn
 go_enter Tryz.func150,Tryz.ntmps150
 go_wp2_with fail
 go_loopw [1,5] (fun u v wr=>∃ (j:Nat) (p p0 q:List (N7 j7)) (kj:Int),v=.int .i64 j∧u=.int .i64 kj∧j≤n∧Hid (rows0=p0++q)∧Hid (p.length=j∧p0.length=j)∧Hid (p.map (fun r=>r.x)=mkN ad3 I4 (p0.map (fun r=>r.x)) k0)∧Hid (kj=mnN I4 (p0.map (fun r=>r.x)) k0)∧Hid (M9 B χ o wr a c (p++q))∧Hid (Fr B χ (fun i=>i.1=o) w wr)) (fun _ v _=>(n - intOf v).toNat)
 case atStart=>exact⟨0,[],[],rows0,k0,rfl,rfl,by omega,rfl,⟨rfl,rfl⟩,rfl,rfl,h0,Fr.refl _ _ _ _⟩
 case round =>
  obtain⟨j,p,p0,q,kj,rfl,rfl,hj,hR,hL,hP,hK,hO,hF⟩:=hrel
  by_cases h:j<n
  ·obtain⟨r,q',rfl⟩:∃ r q',q=r::q':=by
    cases q with
    | nil=>have h8:=congrArg List.length hR.out;have h9:=HN.out;have h7:=hL.out.2;simp at h8;omega
    | cons r q'=>exact⟨r,q',rfl⟩
   have hr:=ay4 p q' r j hL.out.1
   obtain⟨g,rfl,hg1,hg2⟩:=hO.out.own.open (n:=0) (by simp;omega)
   have hlen:(p++r::q').length=n:=by
    have h8:=congrArg List.length hR.out;have h9:=HN.out;have h7:=hL.out;simp at h8 ⊢;omega
   have hkb:=HK.out (p0.map (fun r=>r.x)) (by have:=HT.out;rw[hR.out,List.map_append,au4]at this;have:=b7 ((r::q').map (fun r=>r.x));omega)
   rw[← hK.out]at hkb
   have hpt:r.x.Queue.length≤100000000:=by
    have h8:=HT.out;rw[hR.out,List.map_append,au4]at h8
    have h9:=b7 (p0.map (fun r=>r.x))
    have h7:=ae9 (l:=(r::q').map (fun r=>r.x)) (x:=r.x) (by simp)
    have h6:=d9 r.x.Queue
    have h5:Enc.tot r.x=(r.x.Data.size:Int)+d7 r.x.Queue:=rfl
    omega
   obtain⟨o0,g0⟩:=hO.out.own.cells (j:=j*4) (show j*4<(p++r::q').length*4 by rw[hlen];omega)
   have f0:=hO.out.own.free (j*4)
   have hgd:=(hO.out.each j r hr).1
   have HGd:=lH hgd;clear hgd
   have S1:=lH (hO.out.setCell (i:=0) (v:=.int .i64 kj) (x:={ r.x with File:=kj }) hr (by decide) rfl rfl (by show ac2 _;exact⟨by unfold i64;dsimp only;omega,HGd.out.2⟩))
   have HR:=lH hr;clear hr
   go_wp2_with fail
   refine gm (M2 (by omega)) ?_
   intro y
   have S1c:M9 B χ o (wr.setCell ⟨g,j*4,none⟩ (.int .i64 kj)) (some ⟨g,0,none⟩) c (p++(⟨{ r.x with File:=kj },r.a,r.c⟩:N7 j7)::q'):=by have:=S1.out.1;rw[aO8 p q' r _ j hL.out.1,List.append_assoc]at this;exact this
   have F1:Fr B χ (fun i=>i.1=o) wr y.w:=((hO.out.wrote S1.out.2).wide (fun i e=>by rw[e])).trans (Fr.grows _ _ _ _ _)
   have T1:=lH (S1c.to (ii:d5 _ y.w));have HF1:=lH F1;clear S1 S1c F1
   have hlen1:(p++(⟨{ r.x with File:=kj },r.a,r.c⟩:N7 j7)::q').length=n:=by rw[← hlen];simp
   obtain⟨o1,g1⟩:=T1.out.own.cells (j:=j*4+1) (show j*4+1<_*4 by rw[hlen1];omega)
   have f1:=T1.out.own.free (j*4+1)
   have S2:=T1.out.setCell (i:=1) (v:=.string (N4 (kj+1))) (x:={ r.x with File:=kj,Data:=N4 (kj+1) }) (ay4 p q' _ j hL.out.1) (by decide) rfl rfl (by show ac2 _;exact⟨by unfold i64;dsimp only;omega,V2 (by omega) (by omega),trivial⟩)
   have T2:=lH (show M9 B χ o (y.w.setCell ⟨g,j*4+1,none⟩ (.string (N4 (kj+1)))) (some ⟨g,0,none⟩) c (p++(⟨{ r.x with File:=kj,Data:=N4 (kj+1) },r.a,r.c⟩:N7 j7)::q')by have:=S2.1;rw[aO8 p q' _ _ j hL.out.1,List.append_assoc]at this;exact this)
   have HF2:=lH (show Fr B χ (fun i=>i.1=o) wr (y.w.setCell ⟨g,j*4+1,none⟩ (.string (N4 (kj+1))))from HF1.out.trans ((T1.out.wrote S2.2).wide (fun i e=>by rw[e])));clear S2
   obtain⟨b1,off1,r1,hb1,hb2,hd,e0,e1,e2,e3⟩:=T2.out.own.sl.nFileOut (k:=j) (by have h8:=hlen1;simp at h8 ⊢;omega)
   cases hb1
   have hr1:r1=⟨{ r.x with File:=kj,Data:=N4 (kj+1) },r.a,r.c⟩:=by
    have h8:=congrArg (fun m=>m[0]?) hd.out
    simp only[List.getElem?_drop,Nat.add_zero,ay4 p q' _ j hL.out.1,List.getElem?_cons_zero,Option.some.injEq]at h8
    exact h8.symm
   subst hr1
   simp only[Nat.zero_add]at e0 e1 e2 e3
   have E2:(y.set ⟨g,j*4+1,none⟩ (.string (N4 (kj+1)))).w.cell? ⟨g,j*4+2,none⟩=some (.slice r.a r.x.Queue.length r.c):=e2 (y.w.setCell ⟨g,j*4+1,none⟩ (.string (N4 (kj+1))))
   have HI:=lH (show D0 B χ (o,j+1) (y.w.setCell ⟨g,j*4+1,none⟩ (.string (N4 (kj+1)))) r.a r.c r.x.Queue from(T2.out.each j _ (ay4 p q' _ j hL.out.1)).2)
   clear e0 e1 e2 e3 hd hb2
   go_wp2_with fail
   refine(aq3 HI.out hpt (by omega) (by omega)).mono ?_
   intro e w4 hq
   obtain⟨he,hi,F4⟩:=hq
   obtain⟨K,hK2⟩:∃ K:Int,K=kj+1+1+(r.x.Queue.length:Int)*((1:Nat):Int):=⟨_,rfl⟩
   obtain rfl:e=.returned (.int .i64 K):=he.trans (by rw[hK2];rfl)
   have hKb:0≤K∧K≤900000000000:=by omega
   have HK2:=lH hK2;have HI4:=lH hi;have HF4:=lH F4
   clear he hK2 hi F4 E2 g1 f1
   have T3:=lH (show M9 B χ o w4 (some ⟨g,0,none⟩) c (p++(⟨{ r.x with File:=kj,Data:=N4 (kj+1),Queue:=mkL r.x.Queue (kj+1+1) },r.a,r.c⟩:N7 j7)::q')by
    have:=T2.out.within (x:={ r.x with File:=kj,Data:=N4 (kj+1),Queue:=mkL r.x.Queue (kj+1+1) }) (ay4 p q' _ j hL.out.1) (by show[_,_,Value.slice r.a (mkL r.x.Queue (kj+1+1)).length r.c,_]=_;rw[J3];rfl) (by show ac2 _;exact⟨by unfold i64;dsimp only;omega,V2 (by omega) (by omega),trivial⟩) HI4.out HF4.out
    rw[aO8 p q' _ _ j hL.out.1,List.append_assoc]at this;exact this)
   have hlen3:(p++(⟨{ r.x with File:=kj,Data:=N4 (kj+1),Queue:=mkL r.x.Queue (kj+1+1) },r.a,r.c⟩:N7 j7)::q').length=n:=by rw[← hlen];simp
   obtain⟨o3,g3⟩:=T3.out.own.cells (j:=j*4+3) (show j*4+3<_*4 by rw[hlen3];omega)
   have f3:=T3.out.own.free (j*4+3)
   have S4:=T3.out.setCell (i:=3) (v:=.bool (decide (K % 3=0))) (x:={ r.x with File:=kj,Data:=N4 (kj+1),Queue:=mkL r.x.Queue (kj+1+1),Done:=decide (K % 3=0) }) (ay4 p q' _ j hL.out.1) (by decide) rfl rfl (by show ac2 _;exact⟨by unfold i64;dsimp only;omega,V2 (by omega) (by omega),trivial⟩)
   have T4:=lH (show M9 B χ o (w4.setCell ⟨g,j*4+3,none⟩ (.bool (decide (K % 3=0)))) (some ⟨g,0,none⟩) c (p++(⟨{ r.x with File:=kj,Data:=N4 (kj+1),Queue:=mkL r.x.Queue (kj+1+1),Done:=decide (K % 3=0) },r.a,r.c⟩:N7 j7)::q')by have:=S4.1;rw[aO8 p q' _ _ j hL.out.1,List.append_assoc]at this;exact this)
   have HF5:=lH (show Fr B χ (fun i=>i.1=o) w4 (w4.setCell ⟨g,j*4+3,none⟩ (.bool (decide (K % 3=0))))from(T3.out.wrote S4.2).wide (fun i e=>by rw[e]))
   clear S4 hlen3 hlen1
   have ht:Int.tmod K 3=K % 3:=Int.tmod_eq_emod_of_nonneg (by omega)
   go_wp2_with fail
   go_roundw
   case rel =>
    have eK:=HK2.out
    refine⟨j+1,p++[⟨ad3 r.x kj,r.a,r.c⟩],p0++[r],q',K+1,by go_num,rfl,by omega,?_,⟨by simp[hL.out.1],by simp[hL.out.2]⟩,?_,?_,?_,?_⟩
    ·show rows0=_
     rw[hR.out];simp
    ·show List.map _ _=_
     rw[List.map_append,List.map_append]
     show _++[ad3 r.x kj]=mkN _ _ (_++[r.x]) _
     rw[bb8,hP.out,← hK.out]
    ·show K+1=mnN _ (List.map _ (p0++[r])) _
     rw[List.map_append]
     show _=mnN _ (_++[r.x]) _
     rw[aN2,← hK.out,eK];rfl
    ·have:=T4.out
     rw[eK]at this ⊢
     rw[List.append_assoc]
     exact this
    ·exact(hF.out.trans HF2.out).trans ((HF4.out.wide (fun i e=>by rw[e])).trans HF5.out)
   case measure=>simp[intOf];omega
  ·have hjn:j=n:=by omega
   have hq:q=[]:=by
    have h8:=congrArg List.length hR.out;have h9:=HN.out;have h7:=hL.out.2;simp at h8
    exact List.length_eq_zero_iff.1 (by omega)
   have HQ:=lH hq;clear hq hjn
   go_wp2_with fail
   go_ret
   have hR2:=hR.out;have hO2:=hO.out
   rw[HQ.out,List.append_nil]at hR2 hO2
   exact⟨p,by rw[hK.out,hR2];rfl,by rw[hP.out,hR2],hO2,hF.out⟩
theorem bc5{B:Nat}{a:Option Addr}{c:Nat}{k0:Int}{l:List D4}{w:World}(hs:RdS B w a c (mkN aa1 I2 l k0))(ht:d7 l≤100000000)(h1:0≤k0)(h2:k0≤500000000000) :
  Calls Tryz.prog 154 #[.slice a l.length c,.int .i64 k0] w (b4 w (.int .i64 (mnN I2 l k0))):=by
 obtain⟨n,hn⟩:∃ n,l.length=n:=⟨_,rfl⟩
 have hln:=d9 l
 have hm:n≤100000000:=by omega
 have HN:=lH hn
 have HT:=lH ht
 have HK:=lH (show ∀ (p:List D4),d7 p≤100000000→k0≤mnN I2 p k0∧mnN I2 p k0≤600000000000 from fun p hp=>by have:=at2 I2 an1 p k0;omega)
 have HS:=lH hs
 clear ht hln hs
 rw[hn];clear hn
 go_enter Tryz.func154,Tryz.ntmps154
 go_wp2_with fail
 go_loopw [1,5] (fun u v wr=>∃ (j:Nat) (kj:Int),v=.int .i64 j∧u=.int .i64 kj∧j≤n∧Hid (kj=mnN I2 (l.take j) k0)∧∃ x:b5 w,wr=x.w) (fun _ v _=>(n - intOf v).toNat)
 case atStart=>exact⟨0,k0,rfl,rfl,by omega,rfl,b5.of⟩
 case round =>
  obtain⟨j,kj,rfl,rfl,hj,hK,x0,rfl⟩:=hrel
  by_cases h:j<n
  ·have hlj:j<l.length:=by rw[HN.out];exact h
   obtain⟨eb,eoff,ex,ea0,ec0,rfl,ehb,ehd,eq0,eok,eh0,eh1,eh2,eh3⟩:=HS.out.atTFileIn (k:=j) (by rw[at0];exact hlj)
   have hy:=List.getElem?_eq_getElem hlj
   obtain⟨y,hY⟩:∃ y,y=l[j]:=⟨_,rfl⟩
   rw[← hY]at hy
   have hex:ex=aa1 y kj:=by
    have h8:=congrArg (fun m=>m[0]?) ehd.out
    simp only[List.getElem?_drop,Nat.add_zero,bo8,hy,Option.map_some,List.getElem?_cons_zero,Option.some.injEq]at h8
    rw[hK.out];exact h8.symm
   subst hex
   have hkb:=HK.out (l.take j) (by have:=bl4 l j;have:=HT.out;omega)
   rw[← hK.out]at hkb
   have hpt:y.Parts.length≤100000000:=by
    have h7:=ae9 (List.mem_of_getElem? hy);have h8:=HT.out;have h6:=d9 y.Parts;have h5:Enc.tot y=d7 y.Parts:=rfl;omega
   have HY:=lH hy
   have EQ:=lH (show RdS B w ea0 ec0 (mkL y.Parts (kj+1+1+1))from eq0)
   simp only[aa1,J3]at eh0 eh1 eh2 eh3
   clear hY hy ehd eok eq0
   go_wp2_with fail
   refine(ah8 (EQ.out.keep ii) hpt (by omega) (by omega)).mono ?_
   intro e w4 hq
   obtain⟨he,y4,hw4⟩:=hq
   obtain⟨K,hK2⟩:∃ K:Int,K=I2 y kj:=⟨_,rfl⟩
   obtain rfl:e=.returned (.int .i64 K):=he.trans (by rw[hK2];rfl)
   have hKb:0≤K∧K≤900000000000:=by unfold I2 at hK2;omega
   have HK2:=lH hK2;clear he hK2
   subst hw4
   go_wp2_with fail
   go_roundw
   case rel=>exact⟨j+1,K,by go_num,rfl,by omega,(show K=_ by rw[bb9 _ _ _ HY.out,← hK.out];exact HK2.out),b5.of⟩
   case measure=>simp[intOf];omega
  ·go_wp2_with fail
   go_ret
   have e:=hK.out
   rw[List.take_of_length_le (by have:=HN.out;omega)]at e
   exact b4.mk (by rw[e];rfl)
theorem aW0{B:Nat}{a:Option Addr}{c:Nat}{k0:Int}{l:List j7}{w:World}(hs:RdS B w a c (mkN ad3 I4 l k0))(ht:d7 l≤100000000)(h1:0≤k0)(h2:k0≤500000000000) :
  Calls Tryz.prog 158 #[.slice a l.length c,.int .i64 k0] w (b4 w (.int .i64 (mnN I4 l k0))):=by
 obtain⟨n,hn⟩:∃ n,l.length=n:=⟨_,rfl⟩
 have hln:=d9 l
 have hm:n≤100000000:=by omega
 have HN:=lH hn
 have HT:=lH ht
 have HK:=lH (show ∀ (p:List j7),d7 p≤100000000→k0≤mnN I4 p k0∧mnN I4 p k0≤600000000000 from fun p hp=>by have:=at2 I4 ak0 p k0;omega)
 have HS:=lH hs
 clear ht hln hs
 rw[hn];clear hn
 go_enter Tryz.func158,Tryz.ntmps158
 go_wp2_with fail
 go_loopw [1,5] (fun u v wr=>∃ (j:Nat) (kj:Int),v=.int .i64 j∧u=.int .i64 kj∧j≤n∧Hid (kj=mnN I4 (l.take j) k0)∧∃ x:b5 w,wr=x.w) (fun _ v _=>(n - intOf v).toNat)
 case atStart=>exact⟨0,k0,rfl,rfl,by omega,rfl,b5.of⟩
 case round =>
  obtain⟨j,kj,rfl,rfl,hj,hK,x0,rfl⟩:=hrel
  by_cases h:j<n
  ·have hlj:j<l.length:=by rw[HN.out];exact h
   obtain⟨eb,eoff,ex,ea0,ec0,rfl,ehb,ehd,eq0,eok,eh0,eh1,eh2,eh3⟩:=HS.out.atTFileOut (k:=j) (by rw[at0];exact hlj)
   have hy:=List.getElem?_eq_getElem hlj
   obtain⟨y,hY⟩:∃ y,y=l[j]:=⟨_,rfl⟩
   rw[← hY]at hy
   have hex:ex=ad3 y kj:=by
    have h8:=congrArg (fun m=>m[0]?) ehd.out
    simp only[List.getElem?_drop,Nat.add_zero,bo8,hy,Option.map_some,List.getElem?_cons_zero,Option.some.injEq]at h8
    rw[hK.out];exact h8.symm
   subst hex
   have hkb:=HK.out (l.take j) (by have:=bl4 l j;have:=HT.out;omega)
   rw[← hK.out]at hkb
   have hpt:y.Queue.length≤100000000:=by
    have h7:=ae9 (List.mem_of_getElem? hy);have h8:=HT.out;have h6:=d9 y.Queue;have h5:Enc.tot y=(y.Data.size:Int)+d7 y.Queue:=rfl;omega
   have HY:=lH hy
   have EQ:=lH (show RdS B w ea0 ec0 (mkL y.Queue (kj+1+1))from eq0)
   obtain⟨K,hK2⟩:∃ K:Int,K=kj+1+1+(y.Queue.length:Int)*((1:Nat):Int):=⟨_,rfl⟩
   have hKb:0≤K∧K≤900000000000:=by omega
   have E3:∀ (W:World) [d5 w W],W.cell? ⟨eb,eoff+j*4+3,none⟩=some (.bool (decide (K % 3=0))):=by rw[hK2];exact eh3
   have HK2:=lH hK2;clear hK2 eh3
   simp only[ad3,J3]at eh0 eh1 eh2
   clear hY hy ehd eok eq0
   have ht:Int.tmod K 3=K % 3:=Int.tmod_eq_emod_of_nonneg (by omega)
   have hx:((N4 (kj+1)).toList != (N4 (kj+1)).toList)=false:=by simp
   by_cases h3:K % 3=0
   ·have hD:decide (K % 3=0)=true:=by simpa using h3
    rw[hD]at E3;clear hD
    go_wp2_with (first|((with_reducible refine rl ?_);(repeat(first|go_big_quiet_step (first|(go_at_call 142;exact b4.quiet (M2 (by omega))))|simp only[hx]|simp only[ht]|simp only[h3]));refine wpQuiet_nil ?_;intro x)|(go_at_call 142;refine gm (M2 (by omega)) ?_;intro x))
    refine(al5 (EQ.out.keep ii) hpt (by omega) (by omega)).mono ?_
    intro e w4 hq
    obtain⟨he,y4,hw4⟩:=hq
    obtain rfl:e=.returned (.int .i64 K):=he.trans (by rw[HK2.out];rfl)
    clear he
    subst hw4
    go_wp2_with fail
    go_roundw
    case rel=>exact⟨j+1,K+1,by go_num,rfl,by omega,(show K+1=_ by rw[bb9 _ _ _ HY.out,← hK.out,HK2.out];rfl),b5.of⟩
    case measure=>simp[intOf];omega
   ·have hD:decide (K % 3=0)=false:=by simpa using h3
    rw[hD]at E3;clear hD
    go_wp2_with (first|((with_reducible refine rl ?_);(repeat(first|go_big_quiet_step (first|(go_at_call 142;exact b4.quiet (M2 (by omega))))|simp only[hx]|simp only[ht]|simp only[h3]));refine wpQuiet_nil ?_;intro x)|(go_at_call 142;refine gm (M2 (by omega)) ?_;intro x))
    refine(al5 (EQ.out.keep ii) hpt (by omega) (by omega)).mono ?_
    intro e w4 hq
    obtain⟨he,y4,hw4⟩:=hq
    obtain rfl:e=.returned (.int .i64 K):=he.trans (by rw[HK2.out];rfl)
    clear he
    subst hw4
    go_wp2_with fail
    go_roundw
    case rel=>exact⟨j+1,K+1,by go_num,rfl,by omega,(show K+1=_ by rw[bb9 _ _ _ HY.out,← hK.out,HK2.out];rfl),b5.of⟩
    case measure=>simp[intOf];omega
  ·go_wp2_with fail
   go_ret
   have e:=hK.out
   rw[List.take_of_length_le (by have:=HN.out;omega)]at e
   exact b4.mk (by rw[e];rfl)
def Rng(a b:Nat):Col→Prop:=fun i=>a≤i.1∧i.1<b
theorem Rng.out{a b j k:Nat}(h:j<a∨b≤j):¬ Rng a b (j,k):=fun e=>by have h1:a≤j:=e.1;have h2:j<b:=e.2;omega
def ap5(χ:Nat→Col)(w:World):Prop:=∀ b,w.heap.size≤b→1000≤(χ b).1
theorem ap5.mono{χ:Nat→Col}{w w':World}(h:ap5 χ w)(g:w.heap.size≤w'.heap.size):ap5 χ w':=fun b hb=>h b (Nat.le_trans g hb)
section
variable {B:Nat} {χ:Nat→Col} {w w1 w2:World} {a b c j:Nat}
theorem Fr.rng0(h:Fr B χ (·=(j,0)) w w1):Fr B χ (Rng j (j+1)) w w1:=h.wide fun i e=>by subst e;exact⟨Nat.le_refl _,Nat.lt_succ_self _⟩
theorem Fr.rngN(h:Fr B χ (fun i=>i.1=j) w w1):Fr B χ (Rng j (j+1)) w w1:=h.wide fun i e=>by subst e;exact⟨Nat.le_refl _,Nat.lt_succ_self _⟩
theorem Fr.tr(h:Fr B χ (Rng a b) w w1)(k:Fr B χ (Rng b c) w1 w2)(h1:a≤b)(h2:b≤c):Fr B χ (Rng a c) w w2 :=
 (h.wide (C':=Rng a c) fun i e=>⟨e.1,Nat.lt_of_lt_of_le e.2 h2⟩).trans (k.wide fun i e=>⟨Nat.le_trans h1 e.1,e.2⟩)
theorem i9.frm{cs:List Value}{T:TypeId}{q:Nat}(h:i9 w q cs T)(f:Fr B χ (Rng a b) w w1)(hb:b≤1000)(hq:1000≤(χ q).1):i9 w1 q cs T:=by
 unfold i9
 rw[f.block q h.lt (fun e=>by have:=e.2.2;omega)];exact h
end
def Mkd(K:Int)(G H:World→Prop):Ending→World→Prop:=fun e w'=>e=.returned (.int .i64 K)∧G w'∧H w'
theorem bc8{B o:Nat}{χ:Nat→Col}{a:Option Addr}{c:Nat}{k:Int}{l:List D4}{w:World}(h0:∃ rows:List (N7 D4),rows.map (·.x)=l∧M9 B χ o w a c rows)(ht:d7 l≤100000000)(h1:0≤k)(h2:k≤500000000000) :
  Calls Tryz.prog 146 #[.slice a l.length c,.int .i64 k] w (Mkd (mnN I2 l k) (fun w'=>∃ rows:List (N7 D4),rows.map (·.x)=mkN aa1 I2 l k∧M9 B χ o w' a c rows) (Fr B χ (Rng o (o+1)) w)):=by
 obtain⟨rows,rfl,h⟩:=h0
 have:=bc7 (k0:=k) h ht h1 h2
 rw[show rows.length=(rows.map (·.x)).length by simp]at this
 exact this.mono fun _ _ ⟨r,he,hr,ho,hf⟩=>⟨he,⟨r,hr,ho⟩,hf.rngN⟩
theorem aW4{B o:Nat}{χ:Nat→Col}{a:Option Addr}{c:Nat}{k:Int}{l:List j7}{w:World}(h0:∃ rows:List (N7 j7),rows.map (·.x)=l∧M9 B χ o w a c rows)(ht:d7 l≤100000000)(h1:0≤k)(h2:k≤500000000000) :
  Calls Tryz.prog 150 #[.slice a l.length c,.int .i64 k] w (Mkd (mnN I4 l k) (fun w'=>∃ rows:List (N7 j7),rows.map (·.x)=mkN ad3 I4 l k∧M9 B χ o w' a c rows) (Fr B χ (Rng o (o+1)) w)):=by
 obtain⟨rows,rfl,h⟩:=h0
 have:=aW3 (k0:=k) h ht h1 h2
 rw[show rows.length=(rows.map (·.x)).length by simp]at this
 exact this.mono fun _ _ ⟨r,he,hr,ho,hf⟩=>⟨he,⟨r,hr,ho⟩,hf.rngN⟩
def aa3(x:R5)(k:Int):Int:=k+(x.Starts.length:Int)*((1:Nat):Int)
def aE8(x:R5)(k:Int):R5:={ x with Starts:=mkL x.Starts (k) }
theorem ay8(x:R5)(k:Int):k≤aa3 x k∧aa3 x k≤k+5*Enc.tot x:=by
 have t:Enc.tot x=(x.Rest.size:Int)+d7 x.Starts:=rfl
 have a0:=d9 x.Starts
 unfold aa3;omega
def Y4(x:R6)(k:Int):Int:=k+(x.Waiting.length:Int)*((2:Nat):Int)
def aE9(x:R6)(k:Int):R6:={ x with Waiting:=mkL x.Waiting (k) }
theorem ay9(x:R6)(k:Int):k≤Y4 x k∧Y4 x k≤k+5*Enc.tot x:=by
 have t:Enc.tot x=d7 x.Waiting:=rfl
 have a0:=d9 x.Waiting
 unfold Y4;omega
def ab9(x:J0)(k:Int):Int:=k+(x.Records.length:Int)*((4:Nat):Int)+(x.Dropped.length:Int)*((1:Nat):Int)
def al3(x:J0)(k:Int):J0:={ x with Records:=mkL x.Records (k),Dropped:=mkL x.Dropped (k+(x.Records.length:Int)*((4:Nat):Int)) }
theorem at1(x:J0)(k:Int):k≤ab9 x k∧ab9 x k≤k+5*Enc.tot x:=by
 have t:Enc.tot x=d7 x.Records+d7 x.Dropped:=rfl
 have a0:=d9 x.Records
 have a1:=d9 x.Dropped
 unfold ab9;omega
def ab8(x:D5)(k:Int):Int:=ab9 x.Recorder (k+(x.Params.length:Int)*((1:Nat):Int)+(x.Limits.length:Int)*((3:Nat):Int)+(x.Orders.length:Int)*((5:Nat):Int)+(x.Done.length:Int)*((3:Nat):Int))+(x.Asked.length:Int)*((1:Nat):Int)
def aN0(x:D5)(k:Int):D5:={ x with Params:=mkL x.Params (k),Limits:=mkL x.Limits (k+(x.Params.length:Int)*((1:Nat):Int)),Orders:=mkL x.Orders (k+(x.Params.length:Int)*((1:Nat):Int)+(x.Limits.length:Int)*((3:Nat):Int)),Done:=mkL x.Done (k+(x.Params.length:Int)*((1:Nat):Int)+(x.Limits.length:Int)*((3:Nat):Int)+(x.Orders.length:Int)*((5:Nat):Int)),Recorder:=al3 x.Recorder (k+(x.Params.length:Int)*((1:Nat):Int)+(x.Limits.length:Int)*((3:Nat):Int)+(x.Orders.length:Int)*((5:Nat):Int)+(x.Done.length:Int)*((3:Nat):Int)),Asked:=mkL x.Asked (ab9 x.Recorder (k+(x.Params.length:Int)*((1:Nat):Int)+(x.Limits.length:Int)*((3:Nat):Int)+(x.Orders.length:Int)*((5:Nat):Int)+(x.Done.length:Int)*((3:Nat):Int))) }
theorem aC9(x:D5)(k:Int):k≤ab8 x k∧ab8 x k≤k+5*Enc.tot x:=by
 have t:Enc.tot x=d7 x.Params+d7 x.Limits+d7 x.Orders+d7 x.Done+Enc.tot x.Recorder+d7 x.Asked:=rfl
 have a0:=d9 x.Params
 have a1:=d9 x.Limits
 have a2:=d9 x.Orders
 have a3:=d9 x.Done
 have a4:=at1 x.Recorder (k+(x.Params.length:Int)*((1:Nat):Int)+(x.Limits.length:Int)*((3:Nat):Int)+(x.Orders.length:Int)*((5:Nat):Int)+(x.Done.length:Int)*((3:Nat):Int))
 have a5:=d9 x.Asked
 have b6:=Enc.tot_nonneg x.Recorder
 unfold ab8;omega
def aa2(x:I8)(k:Int):Int:=mnN I2 x.Files (Y4 x.Sender (k+(x.Offers.length:Int)*((1:Nat):Int))+(x.Pairs.length:Int)*((2:Nat):Int)+(x.Records.length:Int)*((4:Nat):Int))+(x.Told.length:Int)*((1:Nat):Int)
def aE7(x:I8)(k:Int):I8:={ x with Offers:=mkL x.Offers (k),Sender:=aE9 x.Sender (k+(x.Offers.length:Int)*((1:Nat):Int)),Pairs:=mkL x.Pairs (Y4 x.Sender (k+(x.Offers.length:Int)*((1:Nat):Int))),Records:=mkL x.Records (Y4 x.Sender (k+(x.Offers.length:Int)*((1:Nat):Int))+(x.Pairs.length:Int)*((2:Nat):Int)),Files:=mkN aa1 I2 x.Files (Y4 x.Sender (k+(x.Offers.length:Int)*((1:Nat):Int))+(x.Pairs.length:Int)*((2:Nat):Int)+(x.Records.length:Int)*((4:Nat):Int)),Told:=mkL x.Told (mnN I2 x.Files (Y4 x.Sender (k+(x.Offers.length:Int)*((1:Nat):Int))+(x.Pairs.length:Int)*((2:Nat):Int)+(x.Records.length:Int)*((4:Nat):Int))) }
theorem ay7(x:I8)(k:Int):k≤aa2 x k∧aa2 x k≤k+5*Enc.tot x:=by
 have t:Enc.tot x=d7 x.Offers+Enc.tot x.Sender+Enc.tot x.Unpacker+d7 x.Pairs+d7 x.Records+d7 x.Files+d7 x.Told:=rfl
 have a0:=d9 x.Offers
 have a1:=ay9 x.Sender (k+(x.Offers.length:Int)*((1:Nat):Int))
 have a2:=d9 x.Pairs
 have a3:=d9 x.Records
 have a4:=at2 I2 an1 x.Files (Y4 x.Sender (k+(x.Offers.length:Int)*((1:Nat):Int))+(x.Pairs.length:Int)*((2:Nat):Int)+(x.Records.length:Int)*((4:Nat):Int))
 have a5:=d9 x.Told
 have b1:=Enc.tot_nonneg x.Sender
 have b3:=Enc.tot_nonneg x.Unpacker
 unfold aa2;omega
def ak1(x:M7)(k:Int):Int:=mnN I4 x.Outs (aa3 x.Packer (ab8 x.Board (k))+(x.Files.length:Int)*((1:Nat):Int))+(x.Sent.length:Int)*((4:Nat):Int)
def aN1(x:M7)(k:Int):M7:={ x with Board:=aN0 x.Board (k),Packer:=aE8 x.Packer (ab8 x.Board (k)),Files:=mkL x.Files (aa3 x.Packer (ab8 x.Board (k))),Outs:=mkN ad3 I4 x.Outs (aa3 x.Packer (ab8 x.Board (k))+(x.Files.length:Int)*((1:Nat):Int)),Sent:=mkL x.Sent (mnN I4 x.Outs (aa3 x.Packer (ab8 x.Board (k))+(x.Files.length:Int)*((1:Nat):Int))) }
theorem aD0(x:M7)(k:Int):k≤ak1 x k∧ak1 x k≤k+5*Enc.tot x:=by
 have t:Enc.tot x=Enc.tot x.Board+Enc.tot x.Packer+d7 x.Files+d7 x.Outs+d7 x.Sent:=rfl
 have a0:=aC9 x.Board (k)
 have a1:=ay8 x.Packer (ab8 x.Board (k))
 have a2:=d9 x.Files
 have a3:=at2 I4 ak0 x.Outs (aa3 x.Packer (ab8 x.Board (k))+(x.Files.length:Int)*((1:Nat):Int))
 have a4:=d9 x.Sent
 have b1:=Enc.tot_nonneg x.Board
 have b2:=Enc.tot_nonneg x.Packer
 unfold ak1;omega
def af8(x:f5)(k:Int):Int:=ak1 x.Space (aa2 x.Ground (k+(x.Plan.length:Int)*((2:Nat):Int)+(x.Ups.length:Int)*((2:Nat):Int)+(x.Downs.length:Int)*((2:Nat):Int)))+(x.Offered.length:Int)*((1:Nat):Int)+(x.Took.length:Int)*((1:Nat):Int)
def f9(x:f5)(k:Int):f5:={ x with Plan:=mkL x.Plan (k),Ups:=mkL x.Ups (k+(x.Plan.length:Int)*((2:Nat):Int)),Downs:=mkL x.Downs (k+(x.Plan.length:Int)*((2:Nat):Int)+(x.Ups.length:Int)*((2:Nat):Int)),Ground:=aE7 x.Ground (k+(x.Plan.length:Int)*((2:Nat):Int)+(x.Ups.length:Int)*((2:Nat):Int)+(x.Downs.length:Int)*((2:Nat):Int)),Space:=aN1 x.Space (aa2 x.Ground (k+(x.Plan.length:Int)*((2:Nat):Int)+(x.Ups.length:Int)*((2:Nat):Int)+(x.Downs.length:Int)*((2:Nat):Int))),Offered:=mkL x.Offered (ak1 x.Space (aa2 x.Ground (k+(x.Plan.length:Int)*((2:Nat):Int)+(x.Ups.length:Int)*((2:Nat):Int)+(x.Downs.length:Int)*((2:Nat):Int)))),Took:=mkL x.Took (ak1 x.Space (aa2 x.Ground (k+(x.Plan.length:Int)*((2:Nat):Int)+(x.Ups.length:Int)*((2:Nat):Int)+(x.Downs.length:Int)*((2:Nat):Int)))+(x.Offered.length:Int)*((1:Nat):Int)) }
theorem aH9(x:f5)(k:Int):k≤af8 x k∧af8 x k≤k+5*Enc.tot x:=by
 have t:Enc.tot x=d7 x.Plan+d7 x.Ups+d7 x.Downs+Enc.tot x.Ground+Enc.tot x.Space+d7 x.Offered+d7 x.Took:=rfl
 have a0:=d9 x.Plan
 have a1:=d9 x.Ups
 have a2:=d9 x.Downs
 have a3:=ay7 x.Ground (k+(x.Plan.length:Int)*((2:Nat):Int)+(x.Ups.length:Int)*((2:Nat):Int)+(x.Downs.length:Int)*((2:Nat):Int))
 have a4:=aD0 x.Space (aa2 x.Ground (k+(x.Plan.length:Int)*((2:Nat):Int)+(x.Ups.length:Int)*((2:Nat):Int)+(x.Downs.length:Int)*((2:Nat):Int)))
 have a5:=d9 x.Offered
 have a6:=d9 x.Took
 have b9:=Enc.tot_nonneg x.Ground
 have b10:=Enc.tot_nonneg x.Space
 unfold af8;omega
theorem bh9{B:Nat}{a0:Option Addr}{c0:Nat}{x:R5}{k:Int}{w:World}(q0:RdS B w a0 c0 (aE8 x k).Starts)(ht:Enc.tot x≤100000000)(h1:0≤k)(h2:k≤400000000000) :
  Calls Tryz.prog 157 #[.agg #[.int .i64 x.Channel,.int .i64 x.Count,.string x.Rest,.slice a0 x.Starts.length c0],.int .i64 k] w (b4 w (.int .i64 (aa3 x k))):=by
 have htot:Enc.tot x=(x.Rest.size:Int)+d7 x.Starts:=rfl
 have t3:=b7 x.Starts;have l3:=d9 x.Starts
 obtain⟨K1,hk1⟩:∃ K:Int,K=k+(x.Starts.length:Int)*((1:Nat):Int):=⟨_,rfl⟩
 have hK1:k≤K1∧K1≤k+5*d7 x.Starts:=by omega
 have hp1:0≤K1:=by omega
 have hn1:¬ K1<0:=by omega
 have Q0:=lH (show RdS B w a0 c0 (mkL x.Starts (k))by exact q0)
 have HK1:=lH hk1
 clear hk1 q0
 have HB:=lH (i9.new w [.int .i64 x.Channel,.int .i64 x.Count,.string x.Rest,.slice a0 x.Starts.length c0] 85 w.heap.size rfl)
 go_enter Tryz.func157,Tryz.ntmps157
 go_wp2_with (first|(refine f8 rfl _ _ rfl w.heap.size 3 rfl (HB.out.to ii) _ rfl _ Tryz.underlying46 rfl ?_))
 refine(al5 (Q0.out.keep ii) (by omega) (by omega) (by omega)).mono ?_
 intro e0 w1 hq0
 obtain⟨he,y0,hw⟩:=hq0
 obtain rfl:e0=.returned (.int .i64 K1):=he.trans (by rw[HK1.out]<;>rfl)
 clear he;subst hw
 go_wp2_with (fail)
 go_ret
 have E1:=HK1.out
 exact b4.mk (by rw[E1];rfl)
theorem bi0{B:Nat}{a0:Option Addr}{c0:Nat}{x:R6}{k:Int}{w:World}(q0:RdS B w a0 c0 (aE9 x k).Waiting)(ht:Enc.tot x≤100000000)(h1:0≤k)(h2:k≤400000000000) :
  Calls Tryz.prog 151 #[.agg #[.int .i64 x.Next,.int .i64 x.Window,.slice a0 x.Waiting.length c0,.int .i64 x.Done],.int .i64 k] w (b4 w (.int .i64 (Y4 x k))):=by
 have htot:Enc.tot x=d7 x.Waiting:=rfl
 have t2:=b7 x.Waiting;have l2:=d9 x.Waiting
 obtain⟨K1,hk1⟩:∃ K:Int,K=k+(x.Waiting.length:Int)*((2:Nat):Int):=⟨_,rfl⟩
 have hK1:k≤K1∧K1≤k+5*d7 x.Waiting:=by omega
 have hp1:0≤K1:=by omega
 have hn1:¬ K1<0:=by omega
 have Q0:=lH (show RdS B w a0 c0 (mkL x.Waiting (k))by exact q0)
 have HK1:=lH hk1
 clear hk1 q0
 have HB:=lH (i9.new w [.int .i64 x.Next,.int .i64 x.Window,.slice a0 x.Waiting.length c0,.int .i64 x.Done] 69 w.heap.size rfl)
 go_enter Tryz.func151,Tryz.ntmps151
 go_wp2_with (first|(refine f8 rfl _ _ rfl w.heap.size 2 rfl (HB.out.to ii) _ rfl _ Tryz.underlying67 rfl ?_))
 refine(bp7 (Q0.out.keep ii) (by omega) (by omega) (by omega)).mono ?_
 intro e0 w1 hq0
 obtain⟨he,y0,hw⟩:=hq0
 obtain rfl:e0=.returned (.int .i64 K1):=he.trans (by rw[HK1.out]<;>rfl)
 clear he;subst hw
 go_wp2_with (fail)
 go_ret
 have E1:=HK1.out
 exact b4.mk (by rw[E1];rfl)
theorem aW1{B:Nat}{a0:Option Addr}{c0:Nat}{a1:Option Addr}{c1:Nat}{x:J0}{k:Int}{w:World}(q0:RdS B w a0 c0 (al3 x k).Records)(q1:RdS B w a1 c1 (al3 x k).Dropped)(ht:Enc.tot x≤100000000)(h1:0≤k)(h2:k≤400000000000) :
  Calls Tryz.prog 240 #[.agg #[.int .i64 x.Room,.slice a0 x.Records.length c0,.slice a1 x.Dropped.length c1],.int .i64 k] w (b4 w (.int .i64 (ab9 x k))):=by
 have htot:Enc.tot x=d7 x.Records+d7 x.Dropped:=rfl
 have t1:=b7 x.Records;have l1:=d9 x.Records
 have t2:=b7 x.Dropped;have l2:=d9 x.Dropped
 obtain⟨K1,hk1⟩:∃ K:Int,K=k+(x.Records.length:Int)*((4:Nat):Int):=⟨_,rfl⟩
 have hK1:k≤K1∧K1≤k+5*d7 x.Records:=by omega
 have hp1:0≤K1:=by omega
 have hn1:¬ K1<0:=by omega
 have Q0:=lH (show RdS B w a0 c0 (mkL x.Records (k))by exact q0)
 obtain⟨K2,hk2⟩:∃ K:Int,K=K1+(x.Dropped.length:Int)*((1:Nat):Int):=⟨_,rfl⟩
 have hK2:K1≤K2∧K2≤K1+5*d7 x.Dropped:=by omega
 have hp2:0≤K2:=by omega
 have hn2:¬ K2<0:=by omega
 have Q1:=lH (show RdS B w a1 c1 (mkL x.Dropped (K1))by rw[hk1];exact q1)
 have HK1:=lH hk1
 have HK2:=lH hk2
 clear hk1 hk2 q0 q1
 have HB:=lH (i9.new w [.int .i64 x.Room,.slice a0 x.Records.length c0,.slice a1 x.Dropped.length c1] 82 w.heap.size rfl)
 go_enter Tryz.func240,Tryz.ntmps240
 go_wp2_with (first|(refine f8 rfl _ _ rfl w.heap.size 1 rfl (HB.out.to ii) _ rfl _ Tryz.underlying73 rfl ?_))
 refine(at5 (Q0.out.keep ii) (by omega) (by omega) (by omega)).mono ?_
 intro e0 w1 hq0
 obtain⟨he,y0,hw⟩:=hq0
 obtain rfl:e0=.returned (.int .i64 K1):=he.trans (by rw[HK1.out]<;>rfl)
 clear he;subst hw
 go_wp2_with (first|(refine f8 rfl _ _ rfl w.heap.size 2 rfl (HB.out.to ii) _ rfl _ Tryz.underlying46 rfl ?_))
 refine(al5 (Q1.out.keep ii) (by omega) (by omega) (by omega)).mono ?_
 intro e1 w2 hq1
 obtain⟨he,y1,hw⟩:=hq1
 obtain rfl:e1=.returned (.int .i64 K2):=he.trans (by rw[HK2.out]<;>rfl)
 clear he;subst hw
 go_wp2_with (fail)
 go_ret
 have E1:=HK1.out
 have E2:=HK2.out
 exact b4.mk (by rw[E2,E1];rfl)
theorem bp3{B:Nat}{A:af3}{x:D5}{k:Int}{w:World}(F:am1 B w A (aN0 x k))(ht:Enc.tot x≤100000000)(h1:0≤k)(h2:k≤300000000000) :
  Calls Tryz.prog 156 #[.agg (I0 x A).toArray,.int .i64 k] w (b4 w (.int .i64 (ab8 x k))):=by
 have htot:Enc.tot x=d7 x.Params+d7 x.Limits+d7 x.Orders+d7 x.Done+Enc.tot x.Recorder+d7 x.Asked:=rfl
 have t1:=b7 x.Params;have l1:=d9 x.Params
 have t3:=b7 x.Limits;have l3:=d9 x.Limits
 have t4:=b7 x.Orders;have l4:=d9 x.Orders
 have t5:=b7 x.Done;have l5:=d9 x.Done
 have t6:=Enc.tot_nonneg x.Recorder
 have t9:=b7 x.Asked;have l9:=d9 x.Asked
 obtain⟨K1,hk1⟩:∃ K:Int,K=k+(x.Params.length:Int)*((1:Nat):Int):=⟨_,rfl⟩
 have hK1:k≤K1∧K1≤k+5*d7 x.Params:=by omega
 have hp1:0≤K1:=by omega
 have hn1:¬ K1<0:=by omega
 have Q0:=lH (show RdS B w A.a0 A.c0 (mkL x.Params (k))by exact F.q0)
 obtain⟨K2,hk2⟩:∃ K:Int,K=K1+(x.Limits.length:Int)*((3:Nat):Int):=⟨_,rfl⟩
 have hK2:K1≤K2∧K2≤K1+5*d7 x.Limits:=by omega
 have hp2:0≤K2:=by omega
 have hn2:¬ K2<0:=by omega
 have Q1:=lH (show RdS B w A.a1 A.c1 (mkL x.Limits (K1))by rw[hk1];exact F.q1)
 obtain⟨K3,hk3⟩:∃ K:Int,K=K2+(x.Orders.length:Int)*((5:Nat):Int):=⟨_,rfl⟩
 have hK3:K2≤K3∧K3≤K2+5*d7 x.Orders:=by omega
 have hp3:0≤K3:=by omega
 have hn3:¬ K3<0:=by omega
 have Q2:=lH (show RdS B w A.a2 A.c2 (mkL x.Orders (K2))by rw[hk2,hk1];exact F.q2)
 obtain⟨K4,hk4⟩:∃ K:Int,K=K3+(x.Done.length:Int)*((3:Nat):Int):=⟨_,rfl⟩
 have hK4:K3≤K4∧K4≤K3+5*d7 x.Done:=by omega
 have hp4:0≤K4:=by omega
 have hn4:¬ K4<0:=by omega
 have Q3:=lH (show RdS B w A.a3 A.c3 (mkL x.Done (K3))by rw[hk3,hk2,hk1];exact F.q3)
 obtain⟨K5,hk5⟩:∃ K:Int,K=ab9 x.Recorder (K4):=⟨_,rfl⟩
 have hb:=at1 x.Recorder K4
 have hK5:K4≤K5∧K5≤K4+5*Enc.tot x.Recorder:=by omega
 clear hb
 have hp5:0≤K5:=by omega
 have hn5:¬ K5<0:=by omega
 have Q4_0:=lH (show RdS B w A.a4 A.c4 (al3 x.Recorder (K4)).Records by rw[hk4,hk3,hk2,hk1];exact F.q4)
 have Q4_1:=lH (show RdS B w A.a5 A.c5 (al3 x.Recorder (K4)).Dropped by rw[hk4,hk3,hk2,hk1];exact F.q5)
 obtain⟨K6,hk6⟩:∃ K:Int,K=K5+(x.Asked.length:Int)*((1:Nat):Int):=⟨_,rfl⟩
 have hK6:K5≤K6∧K6≤K5+5*d7 x.Asked:=by omega
 have hp6:0≤K6:=by omega
 have hn6:¬ K6<0:=by omega
 have Q5:=lH (show RdS B w A.a6 A.c6 (mkL x.Asked (K5))by rw[hk5,hk4,hk3,hk2,hk1];exact F.q6)
 have HK1:=lH hk1
 have HK2:=lH hk2
 have HK3:=lH hk3
 have HK4:=lH hk4
 have HK5:=lH hk5
 have HK6:=lH hk6
 clear hk1 hk2 hk3 hk4 hk5 hk6 F
 have HB:=lH (i9.new w (I0 x A) 84 w.heap.size rfl)
 go_enter Tryz.func156,Tryz.ntmps156
 go_wp2_with (first|(refine f8 rfl _ _ rfl w.heap.size 1 rfl (HB.out.to ii) _ rfl _ Tryz.underlying46 rfl ?_))
 refine(al5 (Q0.out.keep ii) (by omega) (by omega) (by omega)).mono ?_
 intro e0 w1 hq0
 obtain⟨he,y0,hw⟩:=hq0
 obtain rfl:e0=.returned (.int .i64 K1):=he.trans (by rw[HK1.out]<;>rfl)
 clear he;subst hw
 go_wp2_with (first|(refine f8 rfl _ _ rfl w.heap.size 3 rfl (HB.out.to ii) _ rfl _ Tryz.underlying78 rfl ?_))
 refine(bh8 (Q1.out.keep ii) (by omega) (by omega) (by omega)).mono ?_
 intro e1 w2 hq1
 obtain⟨he,y1,hw⟩:=hq1
 obtain rfl:e1=.returned (.int .i64 K2):=he.trans (by rw[HK2.out]<;>rfl)
 clear he;subst hw
 go_wp2_with (first|(refine f8 rfl _ _ rfl w.heap.size 4 rfl (HB.out.to ii) _ rfl _ Tryz.underlying79 rfl ?_))
 refine(aW2 (Q2.out.keep ii) (by omega) (by omega) (by omega)).mono ?_
 intro e2 w3 hq2
 obtain⟨he,y2,hw⟩:=hq2
 obtain rfl:e2=.returned (.int .i64 K3):=he.trans (by rw[HK3.out]<;>rfl)
 clear he;subst hw
 go_wp2_with (first|(refine f8 rfl _ _ rfl w.heap.size 5 rfl (HB.out.to ii) _ rfl _ Tryz.underlying80 rfl ?_))
 refine(bp5 (Q3.out.keep ii) (by omega) (by omega) (by omega)).mono ?_
 intro e3 w4 hq3
 obtain⟨he,y3,hw⟩:=hq3
 obtain rfl:e3=.returned (.int .i64 K4):=he.trans (by rw[HK4.out]<;>rfl)
 clear he;subst hw
 go_wp2_with (first|(refine f7 rfl _ _ rfl (w.heap.size) 6 rfl (row:=[.int .i64 x.Recorder.Room,.slice A.a4 x.Recorder.Records.length A.c4,.slice A.a5 x.Recorder.Dropped.length A.c5]) (HB.out.to ii) _ Tryz.underlying82 rfl kr kr ?_))
 refine(aW1 (x:=x.Recorder) (Q4_0.out.keep ii) (Q4_1.out.keep ii) (by omega) (by omega) (by omega)).mono ?_
 intro e4 w5 hq4
 obtain⟨he,y4,hw⟩:=hq4
 obtain rfl:e4=.returned (.int .i64 K5):=he.trans (by rw[HK5.out]<;>rfl)
 clear he;subst hw
 go_wp2_with (first|(refine f8 rfl _ _ rfl w.heap.size 11 rfl (HB.out.to ii) _ rfl _ Tryz.underlying46 rfl ?_))
 refine(al5 (Q5.out.keep ii) (by omega) (by omega) (by omega)).mono ?_
 intro e5 w6 hq5
 obtain⟨he,y5,hw⟩:=hq5
 obtain rfl:e5=.returned (.int .i64 K6):=he.trans (by rw[HK6.out]<;>rfl)
 clear he;subst hw
 go_wp2_with (fail)
 go_ret
 have E1:=HK1.out
 have E2:=HK2.out
 have E3:=HK3.out
 have E4:=HK4.out
 have E5:=HK5.out
 have E6:=HK6.out
 exact b4.mk (by rw[E6,E5,E4,E3,E2,E1];rfl)
theorem bh7{B:Nat}{A:aa6}{x:I8}{k:Int}{w:World}(F:aj6 B w A (aE7 x k))(ht:Enc.tot x≤100000000)(h1:0≤k)(h2:k≤200000000000) :
  Calls Tryz.prog 55 #[.agg (M8 x A).toArray,.int .i64 k] w (b4 w (.int .i64 (aa2 x k))):=by
 have htot:Enc.tot x=d7 x.Offers+Enc.tot x.Sender+Enc.tot x.Unpacker+d7 x.Pairs+d7 x.Records+d7 x.Files+d7 x.Told:=rfl
 have t0:=b7 x.Offers;have l0:=d9 x.Offers
 have t1:=Enc.tot_nonneg x.Sender
 have t3:=Enc.tot_nonneg x.Unpacker
 have t4:=b7 x.Pairs;have l4:=d9 x.Pairs
 have t5:=b7 x.Records;have l5:=d9 x.Records
 have t6:=b7 x.Files;have l6:=d9 x.Files
 have t7:=b7 x.Told;have l7:=d9 x.Told
 obtain⟨K1,hk1⟩:∃ K:Int,K=k+(x.Offers.length:Int)*((1:Nat):Int):=⟨_,rfl⟩
 have hK1:k≤K1∧K1≤k+5*d7 x.Offers:=by omega
 have hp1:0≤K1:=by omega
 have hn1:¬ K1<0:=by omega
 have Q0:=lH (show RdS B w A.a0 A.c0 (mkL x.Offers (k))by exact F.q0)
 obtain⟨K2,hk2⟩:∃ K:Int,K=Y4 x.Sender (K1):=⟨_,rfl⟩
 have hb:=ay9 x.Sender K1
 have hK2:K1≤K2∧K2≤K1+5*Enc.tot x.Sender:=by omega
 clear hb
 have hp2:0≤K2:=by omega
 have hn2:¬ K2<0:=by omega
 have Q1_0:=lH (show RdS B w A.a1 A.c1 (aE9 x.Sender (K1)).Waiting by rw[hk1];exact F.q1)
 obtain⟨K3,hk3⟩:∃ K:Int,K=K2+(x.Pairs.length:Int)*((2:Nat):Int):=⟨_,rfl⟩
 have hK3:K2≤K3∧K3≤K2+5*d7 x.Pairs:=by omega
 have hp3:0≤K3:=by omega
 have hn3:¬ K3<0:=by omega
 have Q2:=lH (show RdS B w A.a2 A.c2 (mkL x.Pairs (K2))by rw[hk2,hk1];exact F.q2)
 obtain⟨K4,hk4⟩:∃ K:Int,K=K3+(x.Records.length:Int)*((4:Nat):Int):=⟨_,rfl⟩
 have hK4:K3≤K4∧K4≤K3+5*d7 x.Records:=by omega
 have hp4:0≤K4:=by omega
 have hn4:¬ K4<0:=by omega
 have Q3:=lH (show RdS B w A.a3 A.c3 (mkL x.Records (K3))by rw[hk3,hk2,hk1];exact F.q3)
 obtain⟨K5,hk5⟩:∃ K:Int,K=mnN I2 x.Files (K4):=⟨_,rfl⟩
 have hb:=at2 I2 an1 x.Files K4
 have hK5:K4≤K5∧K5≤K4+5*d7 x.Files:=by omega
 clear hb
 have hp5:0≤K5:=by omega
 have hn5:¬ K5<0:=by omega
 have Q4:=lH (show RdS B w A.a4 A.c4 (mkN aa1 I2 x.Files (K4))by rw[hk4,hk3,hk2,hk1];exact F.q4)
 obtain⟨K6,hk6⟩:∃ K:Int,K=K5+(x.Told.length:Int)*((1:Nat):Int):=⟨_,rfl⟩
 have hK6:K5≤K6∧K6≤K5+5*d7 x.Told:=by omega
 have hp6:0≤K6:=by omega
 have hn6:¬ K6<0:=by omega
 have Q5:=lH (show RdS B w A.a5 A.c5 (mkL x.Told (K5))by rw[hk5,hk4,hk3,hk2,hk1];exact F.q5)
 have HK1:=lH hk1
 have HK2:=lH hk2
 have HK3:=lH hk3
 have HK4:=lH hk4
 have HK5:=lH hk5
 have HK6:=lH hk6
 clear hk1 hk2 hk3 hk4 hk5 hk6 F
 have HB:=lH (i9.new w (M8 x A) 76 w.heap.size rfl)
 go_enter Tryz.func55,Tryz.ntmps55
 go_wp2_with (first|(refine f8 rfl _ _ rfl w.heap.size 0 rfl (HB.out.to ii) _ rfl _ Tryz.underlying30 rfl ?_))
 refine(ah8 (Q0.out.keep ii) (by omega) (by omega) (by omega)).mono ?_
 intro e0 w1 hq0
 obtain⟨he,y0,hw⟩:=hq0
 obtain rfl:e0=.returned (.int .i64 K1):=he.trans (by rw[HK1.out]<;>rfl)
 clear he;subst hw
 go_wp2_with (first|(refine f7 rfl _ _ rfl (w.heap.size) 1 rfl (row:=[.int .i64 x.Sender.Next,.int .i64 x.Sender.Window,.slice A.a1 x.Sender.Waiting.length A.c1,.int .i64 x.Sender.Done]) (HB.out.to ii) _ Tryz.underlying69 rfl kr kr ?_))
 refine(bi0 (x:=x.Sender) (Q1_0.out.keep ii) (by omega) (by omega) (by omega)).mono ?_
 intro e1 w2 hq1
 obtain⟨he,y1,hw⟩:=hq1
 obtain rfl:e1=.returned (.int .i64 K2):=he.trans (by rw[HK2.out]<;>rfl)
 clear he;subst hw
 go_wp2_with (first|(refine f8 rfl _ _ rfl w.heap.size 13 rfl (HB.out.to ii) _ rfl _ Tryz.underlying72 rfl ?_))
 refine(bp6 (Q2.out.keep ii) (by omega) (by omega) (by omega)).mono ?_
 intro e2 w3 hq2
 obtain⟨he,y2,hw⟩:=hq2
 obtain rfl:e2=.returned (.int .i64 K3):=he.trans (by rw[HK3.out]<;>rfl)
 clear he;subst hw
 go_wp2_with (first|(refine f8 rfl _ _ rfl w.heap.size 14 rfl (HB.out.to ii) _ rfl _ Tryz.underlying73 rfl ?_))
 refine(at5 (Q3.out.keep ii) (by omega) (by omega) (by omega)).mono ?_
 intro e3 w4 hq3
 obtain⟨he,y3,hw⟩:=hq3
 obtain rfl:e3=.returned (.int .i64 K4):=he.trans (by rw[HK4.out]<;>rfl)
 clear he;subst hw
 go_wp2_with (first|(refine f8 rfl _ _ rfl w.heap.size 15 rfl (HB.out.to ii) _ rfl _ Tryz.underlying74 rfl ?_))
 refine(bc5 (Q4.out.keep ii) (by omega) (by omega) (by omega)).mono ?_
 intro e4 w5 hq4
 obtain⟨he,y4,hw⟩:=hq4
 obtain rfl:e4=.returned (.int .i64 K5):=he.trans (by rw[HK5.out]<;>rfl)
 clear he;subst hw
 go_wp2_with (first|(refine f8 rfl _ _ rfl w.heap.size 16 rfl (HB.out.to ii) _ rfl _ Tryz.underlying41 rfl ?_))
 refine(bp4 (Q5.out.keep ii) (by omega) (by omega) (by omega)).mono ?_
 intro e5 w6 hq5
 obtain⟨he,y5,hw⟩:=hq5
 obtain rfl:e5=.returned (.int .i64 K6):=he.trans (by rw[HK6.out]<;>rfl)
 clear he;subst hw
 go_wp2_with (fail)
 go_ret
 have E1:=HK1.out
 have E2:=HK2.out
 have E3:=HK3.out
 have E4:=HK4.out
 have E5:=HK5.out
 have E6:=HK6.out
 exact b4.mk (by rw[E6,E5,E4,E3,E2,E1];rfl)
theorem bp9{B:Nat}{A:ag9}{x:M7}{k:Int}{w:World}(F:ap0 B w A (aN1 x k))(ht:Enc.tot x≤100000000)(h1:0≤k)(h2:k≤200000000000) :
  Calls Tryz.prog 56 #[.agg (U3 x A).toArray,.int .i64 k] w (b4 w (.int .i64 (ak1 x k))):=by
 have htot:Enc.tot x=Enc.tot x.Board+Enc.tot x.Packer+d7 x.Files+d7 x.Outs+d7 x.Sent:=rfl
 have t1:=Enc.tot_nonneg x.Board
 have t2:=Enc.tot_nonneg x.Packer
 have t4:=b7 x.Files;have l4:=d9 x.Files
 have t5:=b7 x.Outs;have l5:=d9 x.Outs
 have t7:=b7 x.Sent;have l7:=d9 x.Sent
 obtain⟨K1,hk1⟩:∃ K:Int,K=ab8 x.Board (k):=⟨_,rfl⟩
 have hb:=aC9 x.Board k
 have hK1:k≤K1∧K1≤k+5*Enc.tot x.Board:=by omega
 clear hb
 have hp1:0≤K1:=by omega
 have hn1:¬ K1<0:=by omega
 have Q0:=lH (show am1 B w ⟨A.a0,A.c0,A.a1,A.c1,A.a2,A.c2,A.a3,A.c3,A.a4,A.c4,A.a5,A.c5,A.a6,A.c6⟩ (aN0 x.Board (k))by exact⟨F.q0,F.q1,F.q2,F.q3,F.q4,F.q5,F.q6,F.ok.2.1⟩)
 obtain⟨K2,hk2⟩:∃ K:Int,K=aa3 x.Packer (K1):=⟨_,rfl⟩
 have hb:=ay8 x.Packer K1
 have hK2:K1≤K2∧K2≤K1+5*Enc.tot x.Packer:=by omega
 clear hb
 have hp2:0≤K2:=by omega
 have hn2:¬ K2<0:=by omega
 have Q1_0:=lH (show RdS B w A.a7 A.c7 (aE8 x.Packer (K1)).Starts by rw[hk1];exact F.q7)
 obtain⟨K3,hk3⟩:∃ K:Int,K=K2+(x.Files.length:Int)*((1:Nat):Int):=⟨_,rfl⟩
 have hK3:K2≤K3∧K3≤K2+5*d7 x.Files:=by omega
 have hp3:0≤K3:=by omega
 have hn3:¬ K3<0:=by omega
 have Q2:=lH (show RdS B w A.a8 A.c8 (mkL x.Files (K2))by rw[hk2,hk1];exact F.q8)
 obtain⟨K4,hk4⟩:∃ K:Int,K=mnN I4 x.Outs (K3):=⟨_,rfl⟩
 have hb:=at2 I4 ak0 x.Outs K3
 have hK4:K3≤K4∧K4≤K3+5*d7 x.Outs:=by omega
 clear hb
 have hp4:0≤K4:=by omega
 have hn4:¬ K4<0:=by omega
 have Q3:=lH (show RdS B w A.a9 A.c9 (mkN ad3 I4 x.Outs (K3))by rw[hk3,hk2,hk1];exact F.q9)
 obtain⟨K5,hk5⟩:∃ K:Int,K=K4+(x.Sent.length:Int)*((4:Nat):Int):=⟨_,rfl⟩
 have hK5:K4≤K5∧K5≤K4+5*d7 x.Sent:=by omega
 have hp5:0≤K5:=by omega
 have hn5:¬ K5<0:=by omega
 have Q4:=lH (show RdS B w A.a10 A.c10 (mkL x.Sent (K4))by rw[hk4,hk3,hk2,hk1];exact F.q10)
 have HK1:=lH hk1
 have HK2:=lH hk2
 have HK3:=lH hk3
 have HK4:=lH hk4
 have HK5:=lH hk5
 clear hk1 hk2 hk3 hk4 hk5 F
 have HB:=lH (i9.new w (U3 x A) 88 w.heap.size rfl)
 go_enter Tryz.func56,Tryz.ntmps56
 go_wp2_with (first|(refine f7 rfl _ _ rfl (w.heap.size) 4 rfl (row:=(I0 x.Board A)) (HB.out.to ii) _ Tryz.underlying84 rfl kr kr ?_))
 refine(bp3 (x:=x.Board) (Q0.out.keep ii) (by omega) (by omega) (by omega)).mono ?_
 intro e0 w1 hq0
 obtain⟨he,y0,hw⟩:=hq0
 obtain rfl:e0=.returned (.int .i64 K1):=he.trans (by rw[HK1.out]<;>rfl)
 clear he;subst hw
 go_wp2_with (first|(refine f7 rfl _ _ rfl (w.heap.size) 16 rfl (row:=[.int .i64 x.Packer.Channel,.int .i64 x.Packer.Count,.string x.Packer.Rest,.slice A.a7 x.Packer.Starts.length A.c7]) (HB.out.to ii) _ Tryz.underlying85 rfl kr kr ?_))
 refine(bh9 (x:=x.Packer) (Q1_0.out.keep ii) (by omega) (by omega) (by omega)).mono ?_
 intro e1 w2 hq1
 obtain⟨he,y1,hw⟩:=hq1
 obtain rfl:e1=.returned (.int .i64 K2):=he.trans (by rw[HK2.out]<;>rfl)
 clear he;subst hw
 go_wp2_with (first|(refine f8 rfl _ _ rfl w.heap.size 21 rfl (HB.out.to ii) _ rfl _ Tryz.underlying30 rfl ?_))
 refine(ah8 (Q2.out.keep ii) (by omega) (by omega) (by omega)).mono ?_
 intro e2 w3 hq2
 obtain⟨he,y2,hw⟩:=hq2
 obtain rfl:e2=.returned (.int .i64 K3):=he.trans (by rw[HK3.out]<;>rfl)
 clear he;subst hw
 go_wp2_with (first|(refine f8 rfl _ _ rfl w.heap.size 22 rfl (HB.out.to ii) _ rfl _ Tryz.underlying86 rfl ?_))
 refine(aW0 (Q3.out.keep ii) (by omega) (by omega) (by omega)).mono ?_
 intro e3 w4 hq3
 obtain⟨he,y3,hw⟩:=hq3
 obtain rfl:e3=.returned (.int .i64 K4):=he.trans (by rw[HK4.out]<;>rfl)
 clear he;subst hw
 go_wp2_with (first|(refine f8 rfl _ _ rfl w.heap.size 24 rfl (HB.out.to ii) _ rfl _ Tryz.underlying73 rfl ?_))
 refine(at5 (Q4.out.keep ii) (by omega) (by omega) (by omega)).mono ?_
 intro e4 w5 hq4
 obtain⟨he,y4,hw⟩:=hq4
 obtain rfl:e4=.returned (.int .i64 K5):=he.trans (by rw[HK5.out]<;>rfl)
 clear he;subst hw
 go_wp2_with (fail)
 go_ret
 have E1:=HK1.out
 have E2:=HK2.out
 have E3:=HK3.out
 have E4:=HK4.out
 have E5:=HK5.out
 exact b4.mk (by rw[E5,E4,E3,E2,E1];rfl)
theorem bc6{B:Nat}{A:I9}{x:f5}{k:Int}{w:World}(F:ad8 B w A (f9 x k))(ht:Enc.tot x≤100000000)(h1:0≤k)(h2:k≤100000000000) :
  Calls Tryz.prog 10 #[.agg (A0 x A).toArray,.int .i64 k] w (b4 w (.int .i64 (af8 x k))):=by
 have htot:Enc.tot x=d7 x.Plan+d7 x.Ups+d7 x.Downs+Enc.tot x.Ground+Enc.tot x.Space+d7 x.Offered+d7 x.Took:=rfl
 have t4:=b7 x.Plan;have l4:=d9 x.Plan
 have t7:=b7 x.Ups;have l7:=d9 x.Ups
 have t8:=b7 x.Downs;have l8:=d9 x.Downs
 have t9:=Enc.tot_nonneg x.Ground
 have t10:=Enc.tot_nonneg x.Space
 have t11:=b7 x.Offered;have l11:=d9 x.Offered
 have t12:=b7 x.Took;have l12:=d9 x.Took
 obtain⟨K1,hk1⟩:∃ K:Int,K=k+(x.Plan.length:Int)*((2:Nat):Int):=⟨_,rfl⟩
 have hK1:k≤K1∧K1≤k+5*d7 x.Plan:=by omega
 have hp1:0≤K1:=by omega
 have hn1:¬ K1<0:=by omega
 have Q0:=lH (show RdS B w A.a0 A.c0 (mkL x.Plan (k))by exact F.q0)
 obtain⟨K2,hk2⟩:∃ K:Int,K=K1+(x.Ups.length:Int)*((2:Nat):Int):=⟨_,rfl⟩
 have hK2:K1≤K2∧K2≤K1+5*d7 x.Ups:=by omega
 have hp2:0≤K2:=by omega
 have hn2:¬ K2<0:=by omega
 have Q1:=lH (show RdS B w A.a1 A.c1 (mkL x.Ups (K1))by rw[hk1];exact F.q1)
 obtain⟨K3,hk3⟩:∃ K:Int,K=K2+(x.Downs.length:Int)*((2:Nat):Int):=⟨_,rfl⟩
 have hK3:K2≤K3∧K3≤K2+5*d7 x.Downs:=by omega
 have hp3:0≤K3:=by omega
 have hn3:¬ K3<0:=by omega
 have Q2:=lH (show RdS B w A.a2 A.c2 (mkL x.Downs (K2))by rw[hk2,hk1];exact F.q2)
 obtain⟨K4,hk4⟩:∃ K:Int,K=aa2 x.Ground (K3):=⟨_,rfl⟩
 have hb:=ay7 x.Ground K3
 have hK4:K3≤K4∧K4≤K3+5*Enc.tot x.Ground:=by omega
 clear hb
 have hp4:0≤K4:=by omega
 have hn4:¬ K4<0:=by omega
 have Q3:=lH (show aj6 B w ⟨A.a3,A.c3,A.a4,A.c4,A.a5,A.c5,A.a6,A.c6,A.a7,A.c7,A.a8,A.c8⟩ (aE7 x.Ground (K3))by rw[hk3,hk2,hk1];exact⟨F.q3,F.q4,F.q5,F.q6,F.q7,F.q8,F.ok.2.2.2.2.2.2.1⟩)
 obtain⟨K5,hk5⟩:∃ K:Int,K=ak1 x.Space (K4):=⟨_,rfl⟩
 have hb:=aD0 x.Space K4
 have hK5:K4≤K5∧K5≤K4+5*Enc.tot x.Space:=by omega
 clear hb
 have hp5:0≤K5:=by omega
 have hn5:¬ K5<0:=by omega
 have Q4:=lH (show ap0 B w ⟨A.a9,A.c9,A.a10,A.c10,A.a11,A.c11,A.a12,A.c12,A.a13,A.c13,A.a14,A.c14,A.a15,A.c15,A.a16,A.c16,A.a17,A.c17,A.a18,A.c18,A.a19,A.c19⟩ (aN1 x.Space (K4))by rw[hk4,hk3,hk2,hk1];exact⟨F.q9,F.q10,F.q11,F.q12,F.q13,F.q14,F.q15,F.q16,F.q17,F.q18,F.q19,F.ok.2.2.2.2.2.2.2.1⟩)
 obtain⟨K6,hk6⟩:∃ K:Int,K=K5+(x.Offered.length:Int)*((1:Nat):Int):=⟨_,rfl⟩
 have hK6:K5≤K6∧K6≤K5+5*d7 x.Offered:=by omega
 have hp6:0≤K6:=by omega
 have hn6:¬ K6<0:=by omega
 have Q5:=lH (show RdS B w A.a20 A.c20 (mkL x.Offered (K5))by rw[hk5,hk4,hk3,hk2,hk1];exact F.q20)
 obtain⟨K7,hk7⟩:∃ K:Int,K=K6+(x.Took.length:Int)*((1:Nat):Int):=⟨_,rfl⟩
 have hK7:K6≤K7∧K7≤K6+5*d7 x.Took:=by omega
 have hp7:0≤K7:=by omega
 have hn7:¬ K7<0:=by omega
 have Q6:=lH (show RdS B w A.a21 A.c21 (mkL x.Took (K6))by rw[hk6,hk5,hk4,hk3,hk2,hk1];exact F.q21)
 have HK1:=lH hk1
 have HK2:=lH hk2
 have HK3:=lH hk3
 have HK4:=lH hk4
 have HK5:=lH hk5
 have HK6:=lH hk6
 have HK7:=lH hk7
 clear hk1 hk2 hk3 hk4 hk5 hk6 hk7 F
 have HB:=lH (i9.new w (A0 x A) 90 w.heap.size rfl)
 go_enter Tryz.func10,Tryz.ntmps10
 go_wp2_with (first|(refine f8 rfl _ _ rfl w.heap.size 7 rfl (HB.out.to ii) _ rfl _ Tryz.underlying64 rfl ?_))
 refine(bp8 (Q0.out.keep ii) (by omega) (by omega) (by omega)).mono ?_
 intro e0 w1 hq0
 obtain⟨he,y0,hw⟩:=hq0
 obtain rfl:e0=.returned (.int .i64 K1):=he.trans (by rw[HK1.out]<;>rfl)
 clear he;subst hw
 go_wp2_with (first|(refine f8 rfl _ _ rfl w.heap.size 14 rfl (HB.out.to ii) _ rfl _ Tryz.underlying66 rfl ?_))
 refine(aD2 (Q1.out.keep ii) (by omega) (by omega) (by omega)).mono ?_
 intro e1 w2 hq1
 obtain⟨he,y1,hw⟩:=hq1
 obtain rfl:e1=.returned (.int .i64 K2):=he.trans (by rw[HK2.out]<;>rfl)
 clear he;subst hw
 go_wp2_with (first|(refine f8 rfl _ _ rfl w.heap.size 15 rfl (HB.out.to ii) _ rfl _ Tryz.underlying66 rfl ?_))
 refine(aD2 (Q2.out.keep ii) (by omega) (by omega) (by omega)).mono ?_
 intro e2 w3 hq2
 obtain⟨he,y2,hw⟩:=hq2
 obtain rfl:e2=.returned (.int .i64 K3):=he.trans (by rw[HK3.out]<;>rfl)
 clear he;subst hw
 go_wp2_with (first|(refine f7 rfl _ _ rfl (w.heap.size) 16 rfl (row:=(X0 x.Ground A.a3 A.c3 A.a4 A.c4 A.a5 A.c5 A.a6 A.c6 A.a7 A.c7 A.a8 A.c8)) (HB.out.to ii) _ Tryz.underlying76 rfl kr kr ?_))
 refine(bh7 (x:=x.Ground) (Q3.out.keep ii) (by omega) (by omega) (by omega)).mono ?_
 intro e3 w4 hq3
 obtain⟨he,y3,hw⟩:=hq3
 obtain rfl:e3=.returned (.int .i64 K4):=he.trans (by rw[HK4.out]<;>rfl)
 clear he;subst hw
 go_wp2_with (first|(refine f7 rfl _ _ rfl (w.heap.size) 33 rfl (row:=(ad9 x.Space A.a9 A.c9 A.a10 A.c10 A.a11 A.c11 A.a12 A.c12 A.a13 A.c13 A.a14 A.c14 A.a15 A.c15 A.a16 A.c16 A.a17 A.c17 A.a18 A.c18 A.a19 A.c19)) (HB.out.to ii) _ Tryz.underlying88 rfl kr kr ?_))
 refine(bp9 (x:=x.Space) (Q4.out.keep ii) (by omega) (by omega) (by omega)).mono ?_
 intro e4 w5 hq4
 obtain⟨he,y4,hw⟩:=hq4
 obtain rfl:e4=.returned (.int .i64 K5):=he.trans (by rw[HK5.out]<;>rfl)
 clear he;subst hw
 go_wp2_with (first|(refine f8 rfl _ _ rfl w.heap.size 58 rfl (HB.out.to ii) _ rfl _ Tryz.underlying30 rfl ?_))
 refine(ah8 (Q5.out.keep ii) (by omega) (by omega) (by omega)).mono ?_
 intro e5 w6 hq5
 obtain⟨he,y5,hw⟩:=hq5
 obtain rfl:e5=.returned (.int .i64 K6):=he.trans (by rw[HK6.out]<;>rfl)
 clear he;subst hw
 go_wp2_with (first|(refine f8 rfl _ _ rfl w.heap.size 59 rfl (HB.out.to ii) _ rfl _ Tryz.underlying30 rfl ?_))
 refine(ah8 (Q6.out.keep ii) (by omega) (by omega) (by omega)).mono ?_
 intro e6 w7 hq6
 obtain⟨he,y6,hw⟩:=hq6
 obtain rfl:e6=.returned (.int .i64 K7):=he.trans (by rw[HK7.out]<;>rfl)
 clear he;subst hw
 go_wp2_with (fail)
 go_ret
 have E1:=HK1.out
 have E2:=HK2.out
 have E3:=HK3.out
 have E4:=HK4.out
 have E5:=HK5.out
 have E6:=HK6.out
 have E7:=HK7.out
 exact b4.mk (by rw[E7,E6,E5,E4,E3,E2,E1];rfl)
