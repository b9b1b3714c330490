/- What walks of functions from a mission to a mission share. No condition but on sizes. -/
import Derived.Test.YthbepablpaldgaaGreatSCopyMI
import Derived.Test.YthbepablpaldgaaGreatSCopyMS
import Derived.Test.YthbepablpaldgaaGreatSM41
import Derived.Test.YthbepablpaldgaaGreatSM22
import Derived.Test.YthbepablpaldgaaGreatSOwnM
import Derived.Test.YthbepablpaldgaaGreatSLto3
import Derived.Test.YthbepablpaldgaaGreatSOwnS
namespace Go.Proofs.YthbepablpaldgaaGreat
set_option maxRecDepth 100000
set_option maxHeartbeats 2000000
set_option linter.unusedVariables false
open Go.ChangeShapes Go.WideShapes Go.ChangeAt Go.RowKit
theorem om_to{B o:Nat}{χ:Nat→Col}{w w2:World}{vs:List Value}{m:TMission}(h:EncO.O B χ o w vs m)(g:Grows w w2):EncO.O B χ o w2 vs m:=by
 obtain⟨A,h0,h1⟩:=h
 exact⟨A,h0,h1.to g⟩
theorem om_keep{B o:Nat}{χ:Nat→Col}{w w2:World}{vs:List Value}{m:TMission}(h:EncO.O B χ o w vs m)(g:Keeps B w w2):EncO.O B χ o w2 vs m:=by
 obtain⟨A,h0,h1⟩:=h
 exact⟨A,h0,h1.keep g⟩
theorem len_mission{B:Nat}{w:World}{vs:List Value}{m:TMission}(h:Enc.Rd B w vs m):vs.length=61:=Enc.len h
class MarkF(α:Type)[E:Flat α] where
 one:Int→Nat→α
 good:∀ k i,0≤k→k≤1000000000000→i≤100000000→E.good (one k i)
section
variable {α:Type} [E:Flat α] [M:MarkF α]
def mkL(l:List α)(k:Int):List α:=(List.range l.length).map (M.one k)
theorem mkL_length(l:List α)(k:Int):(mkL l k).length=l.length:=by simp[mkL]
def GivesMk(B:Nat)(χ:Nat→Col)(i:Col)(w:World)(a:Option Addr)(c:Nat)(l:List α)(k:Int):Ending→World→Prop:=fun e w' =>
 e=.returned (.int .i64 (k+l.length*(E.size:Nat)))∧OwnC B χ i w' a c (mkL l k)∧Fr B χ (·=i) w w'
theorem Marks.mk{B n:Nat}{χ:Nat→Col}{i:Col}{w w':World}{a:Option Addr}{c:Nat}{l:List α}{k k2:Int}{e:Ending}(h:OwnC B χ i w a c l)(hm:l.length≤100000000)(h1:0≤k)(h2:k≤1000000000000)(g:Marks E.enc E.ty E.size B w a n c (mkL l k) k2 e w')(hk:k2=k+l.length*(E.size:Nat)):GivesMk B χ i w a c l k e w':=by
 obtain⟨he,hg,ho⟩:=g
 refine⟨by rw[he,hk],⟨ho,h.col,fun x hx=>?_⟩,h.wrote hg⟩
 obtain⟨j,hj,rfl⟩:=List.mem_map.1 hx
 have:=List.mem_range.1 hj
 exact M.good k j h1 h2 (by omega)
end
theorem digs_size:∀ (k:Nat) (acc:ByteArray),(digs k acc).size≤acc.size+k
 | 0,acc=>by rw[digs,dif_pos rfl];omega
 | k+1,acc=>by
  rw[digs,dif_neg (by omega)]
  have:=digs_size ((k+1) / 10) (strOfNums [48+((k+1:Nat):Int) % 10]++acc)
  rw[ByteArray.size_append,show(strOfNums [48+((k+1:Nat):Int) % 10]).size=1 by simp[strOfNums_size]]at this
  omega
termination_by k=>k
decreasing_by omega
theorem markTx_size{k:Int}(h0:0≤k)(h:k≤2000000000000):(markTx k).size≤9223372036854775807:=by
 unfold markTx
 split
 ·decide
 ·have:=digs_size k.toNat ⟨#[]⟩
  rw[ByteArray.size_append]
  have h1:(⟨#[109]⟩:ByteArray).size=1:=rfl
  have h2:(⟨#[]⟩:ByteArray).size=0:=rfl
  omega
theorem mkStr_size(k:Int)(i:Nat)(h0:0≤k)(h1:k≤1000000000000)(h2:i≤100000000):(mkStr k i).size≤9223372036854775807:=markTx_size (by omega) (by omega)
instance MarkF.iInt:MarkF Int where
 one:=mkInt
 good:=fun k i h0 h1 h2=>by show i64 (k+i);unfold i64;omega
theorem o_lmarkIntS{B:Nat}{χ:Nat→Col}{i:Col}{a:Option Addr}{c:Nat}{k:Int}{l:List Int}{w:World}(h:OwnC B χ i w a c l)(hm:l.length≤100000000)(h1:0≤k)(h2:k≤1000000000000) :
  Calls Tryz.prog 238 #[.slice a l.length c,.int .i64 k] w (GivesMk B χ i w a c l k) :=
 (c_lmarkIntS h.own rfl hm h1 h2).mono fun _ _ g=>Marks.mk h hm h1 h2 g (by show _=k+(l.length:Int)*((1:Nat):Int);omega)
theorem o_lheldIntS{B:Nat}{a:Option Addr}{c:Nat}{k:Int}{l:List Int}{w:World}(hs:RdS B w a c (mkL l k))(hm:l.length≤100000000)(h1:0≤k)(h2:k≤1000000000000) :
  Calls Tryz.prog 244 #[.slice a l.length c,.int .i64 k] w (Gives w (.int .i64 (k+l.length*(Enc.size Int:Nat)))) :=
 (c_lheldIntS (c:=c) hs.slF hm h1 h2).mono fun _ _ g=>by have e:(k+l.length*((Enc.size Int:Nat):Int))=k+l.length*((1:Nat):Int):=rfl;rw[e];simpa using g
def mkBoo(k0:Int)(i:Nat):Bool:=decide ((k0+i) % 3=0)
theorem c_lmarkBooS{a:Option Addr}{n c B:Nat}{k0:Int}{l:List Bool}{w:World}(hown0:Own encBoo 4 1 B w a c l)(hn:l.length=n)(hm:n≤100000000)(h1:0≤k0)(h2:k0≤1000000000000) :
  Calls Tryz.prog 151 #[.slice a n c,.int .i64 k0] w (Marks encBoo 4 1 B w a n c ((List.range n).map (mkBoo k0)) (k0+n*1)):=by
 go_enter Tryz.func151,Tryz.ntmps151
 go_wp2_with (fail)
 go_loopw [1,5] (fun u v wr=>∃ j:Nat,v=.int .i64 j∧u=.int .i64 (k0+j*1)∧j≤n∧w.grownBy wr (Value.ownBlock (.slice a n c))∧Own encBoo 4 1 B wr a c (mixed (mkBoo k0) l j)) (fun _ v _=>(n - intOf v).toNat)
 case atStart=>exact⟨0,rfl,by simp,by omega,grownBy_refl _ _,by rw[mixed_zero];exact hown0⟩
 case round =>
  obtain⟨j,rfl,rfl,hj,hgr,hown⟩:=hrel
  by_cases h:j<n
  ·obtain⟨g,rfl,hB,hlt⟩:=hown.open (n:=n) (by rw[mixed_length (by omega)];omega)
   obtain⟨o0,g0⟩:=hown.cells (j:=j) (by rw[mixed_length (by omega)];omega)
   have f0:=hown.free j
   have HG:=lH hgr;clear hgr
   have ht:Int.tmod (k0+j*1) 3=(k0+j) % 3:=by rw[Int.tmod_eq_emod_of_nonneg (by omega)];simp
   go_wp2_with (fail)
   go_roundw
   case rel =>
    have hp:=hown.put1 (j:=j) (y:=mkBoo k0 j) (by rw[mixed_length (by omega)];omega) rfl
    refine⟨j+1,by go_num,by go_num,by omega,?_,?_⟩
    ·exact grownBy_trans HG.out hp.2
    ·rw[← mixed_set (by omega)];exact hp.1
   case measure=>simp[intOf];omega
  ·go_wp2_with (fail)
   go_ret
   obtain rfl:j=n:=by omega
   refine⟨rfl,hgr,?_⟩
   rw[← hn,mixed_all]at hown
   rw[← hn];exact hown
instance MarkF.iBool:MarkF Bool where
 one:=mkBoo
 good:=fun k i h0 h1 h2=>trivial
theorem o_lmarkBoolS{B:Nat}{χ:Nat→Col}{i:Col}{a:Option Addr}{c:Nat}{k:Int}{l:List Bool}{w:World}(h:OwnC B χ i w a c l)(hm:l.length≤100000000)(h1:0≤k)(h2:k≤1000000000000) :
  Calls Tryz.prog 151 #[.slice a l.length c,.int .i64 k] w (GivesMk B χ i w a c l k) :=
 (c_lmarkBooS h.own rfl hm h1 h2).mono fun _ _ g=>Marks.mk h hm h1 h2 g (by show _=k+(l.length:Int)*((1:Nat):Int);omega)
theorem c_lheldBooS{a:Option Addr}{n c:Nat}{k0:Int}{w:World}(hs:RdS 0 w a c ((List.range n).map (mkBoo k0)))(hm:n≤100000000)(h1:0≤k0)(h2:k0≤1000000000000) :
  Calls Tryz.prog 159 #[.slice a n c,.int .i64 k0] w (Gives w (.int .i64 (k0+n*1))):=by
 go_enter Tryz.func159,Tryz.ntmps159
 go_wp2_with (fail)
 go_loopw [1,5] (fun u v wr=>∃ j:Nat,v=.int .i64 j∧u=.int .i64 (k0+j*1)∧j≤n∧∃ x:Later w,wr=x.w) (fun _ v _=>(n - intOf v).toNat)
 case atStart=>exact⟨0,rfl,by simp,by omega,Later.of⟩
 case round =>
  obtain⟨j,rfl,rfl,hj,x0,rfl⟩:=hrel
  by_cases h:j<n
  ·obtain⟨b,off,x,rfl,hb,hd,e0⟩:=hs.atBool (k:=j) (by simpa using h)
   have hx:x=decide ((k0+j) % 3=0):=by
    have:=congrArg (fun m=>m[0]?) hd.out
    simp[h]at this
    rw[← this];rfl
   have ht:Int.tmod (k0+j*1) 3=(k0+j) % 3:=by rw[Int.tmod_eq_emod_of_nonneg (by omega)];simp
   have ht2:Int.tmod (k0+j) 3=(k0+j) % 3:=by rw[Int.tmod_eq_emod_of_nonneg (by omega)]
   by_cases h3:(k0+j) % 3=0
   ·have hx2:x=true:=by rw[hx];simpa using h3
    clear hx;subst hx2
    go_wp2_with (fail)
    go_roundw
    case rel=>exact⟨j+1,by go_num,by go_num,by omega,Later.of⟩
    case measure=>simp[intOf];omega
   ·have hx2:x=false:=by rw[hx];simpa using h3
    clear hx;subst hx2
    go_wp2_with (fail)
    go_roundw
    case rel=>exact⟨j+1,by go_num,by go_num,by omega,Later.of⟩
    case measure=>simp[intOf];omega
  ·go_wp2_with (fail)
   go_ret
   obtain rfl:j=n:=by omega
   exact Gives.mk rfl
theorem o_lheldBoolS{B:Nat}{a:Option Addr}{c:Nat}{k:Int}{l:List Bool}{w:World}(hs:RdS B w a c (mkL l k))(hm:l.length≤100000000)(h1:0≤k)(h2:k≤1000000000000) :
  Calls Tryz.prog 159 #[.slice a l.length c,.int .i64 k] w (Gives w (.int .i64 (k+l.length*(Enc.size Bool:Nat)))) :=
 (c_lheldBooS (c:=c) (hs.mono (Nat.zero_le _)) hm h1 h2).mono fun _ _ g=>by have e:(k+l.length*((Enc.size Bool:Nat):Int))=k+l.length*((1:Nat):Int):=rfl;rw[e];simpa using g
instance MarkF.iByteArray:MarkF ByteArray where
 one:=mkStr
 good:=fun k i h0 h1 h2=>mkStr_size _ _ h0 h1 h2
theorem o_lmarkStringS{B:Nat}{χ:Nat→Col}{i:Col}{a:Option Addr}{c:Nat}{k:Int}{l:List ByteArray}{w:World}(h:OwnC B χ i w a c l)(hm:l.length≤100000000)(h1:0≤k)(h2:k≤1000000000000) :
  Calls Tryz.prog 49 #[.slice a l.length c,.int .i64 k] w (GivesMk B χ i w a c l k) :=
 (c_lmarkStringS h.own rfl hm h1 h2).mono fun _ _ g=>Marks.mk h hm h1 h2 g (by show _=k+(l.length:Int)*((1:Nat):Int);omega)
theorem o_lheldStringS{B:Nat}{a:Option Addr}{c:Nat}{k:Int}{l:List ByteArray}{w:World}(hs:RdS B w a c (mkL l k))(hm:l.length≤100000000)(h1:0≤k)(h2:k≤1000000000000) :
  Calls Tryz.prog 54 #[.slice a l.length c,.int .i64 k] w (Gives w (.int .i64 (k+l.length*(Enc.size ByteArray:Nat)))) :=
 (c_lheldStringS (c:=c) hs.slF hm h1 h2).mono fun _ _ g=>by have e:(k+l.length*((Enc.size ByteArray:Nat):Int))=k+l.length*((1:Nat):Int):=rfl;rw[e];simpa using g
instance MarkF.iSlot:MarkF Slot where
 one:=mkSlot
 good:=fun k i h0 h1 h2=>by
  show okDSlot (mkSlot k i)
  refine⟨?_,?_,trivial⟩<;>first|(unfold i64 mkSlot;dsimp only;omega)|(unfold mkSlot;dsimp only;exact markTx_size (by omega) (by omega))
theorem o_lmarkSlotS{B:Nat}{χ:Nat→Col}{i:Col}{a:Option Addr}{c:Nat}{k:Int}{l:List Slot}{w:World}(h:OwnC B χ i w a c l)(hm:l.length≤100000000)(h1:0≤k)(h2:k≤1000000000000) :
  Calls Tryz.prog 45 #[.slice a l.length c,.int .i64 k] w (GivesMk B χ i w a c l k) :=
 (c_lmarkSlotS h.own rfl hm h1 h2).mono fun _ _ g=>Marks.mk h hm h1 h2 g (by show _=k+(l.length:Int)*((2:Nat):Int);omega)
theorem o_lheldSlotS{B:Nat}{a:Option Addr}{c:Nat}{k:Int}{l:List Slot}{w:World}(hs:RdS B w a c (mkL l k))(hm:l.length≤100000000)(h1:0≤k)(h2:k≤1000000000000) :
  Calls Tryz.prog 50 #[.slice a l.length c,.int .i64 k] w (Gives w (.int .i64 (k+l.length*(Enc.size Slot:Nat)))) :=
 (c_lheldSlotS (c:=c) hs.slF hm h1 h2).mono fun _ _ g=>by have e:(k+l.length*((Enc.size Slot:Nat):Int))=k+l.length*((2:Nat):Int):=rfl;rw[e];simpa using g
instance MarkF.iPair:MarkF Pair where
 one:=mkPair
 good:=fun k i h0 h1 h2=>by
  show okDPair (mkPair k i)
  refine⟨?_,?_,trivial⟩<;>first|(unfold i64 mkPair;dsimp only;omega)|(unfold mkPair;dsimp only;exact markTx_size (by omega) (by omega))
theorem o_lmarkPairS{B:Nat}{χ:Nat→Col}{i:Col}{a:Option Addr}{c:Nat}{k:Int}{l:List Pair}{w:World}(h:OwnC B χ i w a c l)(hm:l.length≤100000000)(h1:0≤k)(h2:k≤1000000000000) :
  Calls Tryz.prog 148 #[.slice a l.length c,.int .i64 k] w (GivesMk B χ i w a c l k) :=
 (c_lmarkPairS h.own rfl hm h1 h2).mono fun _ _ g=>Marks.mk h hm h1 h2 g (by show _=k+(l.length:Int)*((2:Nat):Int);omega)
theorem o_lheldPairS{B:Nat}{a:Option Addr}{c:Nat}{k:Int}{l:List Pair}{w:World}(hs:RdS B w a c (mkL l k))(hm:l.length≤100000000)(h1:0≤k)(h2:k≤1000000000000) :
  Calls Tryz.prog 156 #[.slice a l.length c,.int .i64 k] w (Gives w (.int .i64 (k+l.length*(Enc.size Pair:Nat)))) :=
 (c_lheldPairS (c:=c) hs.slF hm h1 h2).mono fun _ _ g=>by have e:(k+l.length*((Enc.size Pair:Nat):Int))=k+l.length*((2:Nat):Int):=rfl;rw[e];simpa using g
instance MarkF.iTFlight:MarkF TFlight where
 one:=mkTFlight
 good:=fun k i h0 h1 h2=>by
  show okDTFlight (mkTFlight k i)
  refine⟨?_,?_,trivial⟩<;>first|(unfold i64 mkTFlight;dsimp only;omega)|(unfold mkTFlight;dsimp only;exact markTx_size (by omega) (by omega))
theorem o_lmarkFlightS{B:Nat}{χ:Nat→Col}{i:Col}{a:Option Addr}{c:Nat}{k:Int}{l:List TFlight}{w:World}(h:OwnC B χ i w a c l)(hm:l.length≤100000000)(h1:0≤k)(h2:k≤1000000000000) :
  Calls Tryz.prog 46 #[.slice a l.length c,.int .i64 k] w (GivesMk B χ i w a c l k) :=
 (c_lmarkTFlightS h.own rfl hm h1 h2).mono fun _ _ g=>Marks.mk h hm h1 h2 g (by show _=k+(l.length:Int)*((2:Nat):Int);omega)
theorem o_lheldFlightS{B:Nat}{a:Option Addr}{c:Nat}{k:Int}{l:List TFlight}{w:World}(hs:RdS B w a c (mkL l k))(hm:l.length≤100000000)(h1:0≤k)(h2:k≤1000000000000) :
  Calls Tryz.prog 51 #[.slice a l.length c,.int .i64 k] w (Gives w (.int .i64 (k+l.length*(Enc.size TFlight:Nat)))) :=
 (c_lheldTFlightS (c:=c) hs.slF hm h1 h2).mono fun _ _ g=>by have e:(k+l.length*((Enc.size TFlight:Nat):Int))=k+l.length*((2:Nat):Int):=rfl;rw[e];simpa using g
instance MarkF.iTRecord:MarkF TRecord where
 one:=mkTRecord
 good:=fun k i h0 h1 h2=>by
  show okDTRecord (mkTRecord k i)
  refine⟨?_,?_,?_,?_,trivial⟩<;>first|(unfold i64 mkTRecord;dsimp only;omega)|(unfold mkTRecord;dsimp only;exact markTx_size (by omega) (by omega))
theorem o_lmarkRecordS{B:Nat}{χ:Nat→Col}{i:Col}{a:Option Addr}{c:Nat}{k:Int}{l:List TRecord}{w:World}(h:OwnC B χ i w a c l)(hm:l.length≤100000000)(h1:0≤k)(h2:k≤1000000000000) :
  Calls Tryz.prog 149 #[.slice a l.length c,.int .i64 k] w (GivesMk B χ i w a c l k) :=
 (c_lmarkTRecordS h.own rfl hm h1 h2).mono fun _ _ g=>Marks.mk h hm h1 h2 g (by show _=k+(l.length:Int)*((4:Nat):Int);omega)
theorem o_lheldRecordS{B:Nat}{a:Option Addr}{c:Nat}{k:Int}{l:List TRecord}{w:World}(hs:RdS B w a c (mkL l k))(hm:l.length≤100000000)(h1:0≤k)(h2:k≤1000000000000) :
  Calls Tryz.prog 157 #[.slice a l.length c,.int .i64 k] w (Gives w (.int .i64 (k+l.length*(Enc.size TRecord:Nat)))) :=
 (c_lheldTRecordS (c:=c) hs.slF hm h1 h2).mono fun _ _ g=>by have e:(k+l.length*((Enc.size TRecord:Nat):Int))=k+l.length*((4:Nat):Int):=rfl;rw[e];simpa using g
instance MarkF.iTWaiting:MarkF TWaiting where
 one:=mkTWaiting
 good:=fun k i h0 h1 h2=>by
  show okDTWaiting (mkTWaiting k i)
  refine⟨?_,⟨?_,?_,?_,?_,trivial⟩,trivial⟩<;>first|(unfold i64 mkTWaiting;dsimp only;omega)|(unfold mkTWaiting;dsimp only;exact markTx_size (by omega) (by omega))
theorem o_lmarkWaitingS{B:Nat}{χ:Nat→Col}{i:Col}{a:Option Addr}{c:Nat}{k:Int}{l:List TWaiting}{w:World}(h:OwnC B χ i w a c l)(hm:l.length≤100000000)(h1:0≤k)(h2:k≤1000000000000) :
  Calls Tryz.prog 240 #[.slice a l.length c,.int .i64 k] w (GivesMk B χ i w a c l k) :=
 (c_lmarkTWaitingS h.own rfl hm h1 h2).mono fun _ _ g=>Marks.mk h hm h1 h2 g (by show _=k+(l.length:Int)*((5:Nat):Int);omega)
theorem o_lheldWaitingS{B:Nat}{a:Option Addr}{c:Nat}{k:Int}{l:List TWaiting}{w:World}(hs:RdS B w a c (mkL l k))(hm:l.length≤100000000)(h1:0≤k)(h2:k≤1000000000000) :
  Calls Tryz.prog 246 #[.slice a l.length c,.int .i64 k] w (Gives w (.int .i64 (k+l.length*(Enc.size TWaiting:Nat)))) :=
 (c_lheldTWaitingS (c:=c) hs.slF hm h1 h2).mono fun _ _ g=>by have e:(k+l.length*((Enc.size TWaiting:Nat):Int))=k+l.length*((5:Nat):Int):=rfl;rw[e];simpa using g
instance MarkF.iTLimit:MarkF TLimit where
 one:=mkTLimit
 good:=fun k i h0 h1 h2=>by
  show okDTLimit (mkTLimit k i)
  refine⟨?_,?_,?_,trivial⟩<;>first|(unfold i64 mkTLimit;dsimp only;omega)|(unfold mkTLimit;dsimp only;exact markTx_size (by omega) (by omega))
theorem o_lmarkLimitS{B:Nat}{χ:Nat→Col}{i:Col}{a:Option Addr}{c:Nat}{k:Int}{l:List TLimit}{w:World}(h:OwnC B χ i w a c l)(hm:l.length≤100000000)(h1:0≤k)(h2:k≤1000000000000) :
  Calls Tryz.prog 239 #[.slice a l.length c,.int .i64 k] w (GivesMk B χ i w a c l k) :=
 (c_lmarkTLimitS h.own rfl hm h1 h2).mono fun _ _ g=>Marks.mk h hm h1 h2 g (by show _=k+(l.length:Int)*((3:Nat):Int);omega)
theorem o_lheldLimitS{B:Nat}{a:Option Addr}{c:Nat}{k:Int}{l:List TLimit}{w:World}(hs:RdS B w a c (mkL l k))(hm:l.length≤100000000)(h1:0≤k)(h2:k≤1000000000000) :
  Calls Tryz.prog 245 #[.slice a l.length c,.int .i64 k] w (Gives w (.int .i64 (k+l.length*(Enc.size TLimit:Nat)))) :=
 (c_lheldTLimitS (c:=c) hs.slF hm h1 h2).mono fun _ _ g=>by have e:(k+l.length*((Enc.size TLimit:Nat):Int))=k+l.length*((3:Nat):Int):=rfl;rw[e];simpa using g
instance MarkF.iTDone:MarkF TDone where
 one:=mkTDone
 good:=fun k i h0 h1 h2=>by
  show okDTDone (mkTDone k i)
  refine⟨?_,?_,?_,trivial⟩<;>first|(unfold i64 mkTDone;dsimp only;omega)|(unfold mkTDone;dsimp only;exact markTx_size (by omega) (by omega))
theorem o_lmarkDoneS{B:Nat}{χ:Nat→Col}{i:Col}{a:Option Addr}{c:Nat}{k:Int}{l:List TDone}{w:World}(h:OwnC B χ i w a c l)(hm:l.length≤100000000)(h1:0≤k)(h2:k≤1000000000000) :
  Calls Tryz.prog 241 #[.slice a l.length c,.int .i64 k] w (GivesMk B χ i w a c l k) :=
 (c_lmarkTDoneS h.own rfl hm h1 h2).mono fun _ _ g=>Marks.mk h hm h1 h2 g (by show _=k+(l.length:Int)*((3:Nat):Int);omega)
theorem o_lheldDoneS{B:Nat}{a:Option Addr}{c:Nat}{k:Int}{l:List TDone}{w:World}(hs:RdS B w a c (mkL l k))(hm:l.length≤100000000)(h1:0≤k)(h2:k≤1000000000000) :
  Calls Tryz.prog 247 #[.slice a l.length c,.int .i64 k] w (Gives w (.int .i64 (k+l.length*(Enc.size TDone:Nat)))) :=
 (c_lheldTDoneS (c:=c) hs.slF hm h1 h2).mono fun _ _ g=>by have e:(k+l.length*((Enc.size TDone:Nat):Int))=k+l.length*((3:Nat):Int):=rfl;rw[e];simpa using g
instance MarkF.iTSent:MarkF TSent where
 one:=mkTSent
 good:=fun k i h0 h1 h2=>by
  show okDTSent (mkTSent k i)
  refine⟨?_,?_,trivial⟩<;>first|(unfold i64 mkTSent;dsimp only;omega)|(unfold mkTSent;dsimp only;exact markTx_size (by omega) (by omega))
theorem o_lmarkSentS{B:Nat}{χ:Nat→Col}{i:Col}{a:Option Addr}{c:Nat}{k:Int}{l:List TSent}{w:World}(h:OwnC B χ i w a c l)(hm:l.length≤100000000)(h1:0≤k)(h2:k≤1000000000000) :
  Calls Tryz.prog 237 #[.slice a l.length c,.int .i64 k] w (GivesMk B χ i w a c l k) :=
 (c_lmarkTSentS h.own rfl hm h1 h2).mono fun _ _ g=>Marks.mk h hm h1 h2 g (by show _=k+(l.length:Int)*((2:Nat):Int);omega)
theorem o_lheldSentS{B:Nat}{a:Option Addr}{c:Nat}{k:Int}{l:List TSent}{w:World}(hs:RdS B w a c (mkL l k))(hm:l.length≤100000000)(h1:0≤k)(h2:k≤1000000000000) :
  Calls Tryz.prog 243 #[.slice a l.length c,.int .i64 k] w (Gives w (.int .i64 (k+l.length*(Enc.size TSent:Nat)))) :=
 (c_lheldTSentS (c:=c) hs.slF hm h1 h2).mono fun _ _ g=>by have e:(k+l.length*((Enc.size TSent:Nat):Int))=k+l.length*((2:Nat):Int):=rfl;rw[e];simpa using g
def mk1FileIn(x:TFileIn)(k:Int):TFileIn:={ x with File:=k,Size:=k+1,Check:=k+1+1,Parts:=mkL x.Parts (k+1+1+1) }
def mn1FileIn(x:TFileIn)(k:Int):Int:=k+1+1+1+(x.Parts.length:Int)*((1:Nat):Int)
def mk1FileOut(x:TFileOut)(k:Int):TFileOut:={ x with File:=k,Data:=markTx (k+1),Queue:=mkL x.Queue (k+1+1),Done:=decide ((k+1+1+(x.Queue.length:Int)*((1:Nat):Int)) % 3=0) }
def mn1FileOut(x:TFileOut)(k:Int):Int:=k+1+1+(x.Queue.length:Int)*((1:Nat):Int)+1
def mkN{α:Type}(f:α→Int→α)(g:α→Int→Int):List α→Int→List α
 | [],_=>[]
 | x::r,k=>f x k::mkN f g r (g x k)
def mnN{α:Type}(g:α→Int→Int):List α→Int→Int
 | [],k=>k
 | x::r,k=>mnN g r (g x k)
theorem mkN_length{α:Type}(f:α→Int→α)(g:α→Int→Int):∀ (l:List α) (k:Int),(mkN f g l k).length=l.length
 | [],_=>rfl
 | x::r,k=>by simp[mkN,mkN_length f g r]
theorem mkN_snoc{α:Type}(f:α→Int→α)(g:α→Int→Int)(y:α):∀ (l:List α) (k:Int),mkN f g (l++[y]) k=mkN f g l k++[f y (mnN g l k)]
 | [],_=>rfl
 | x::r,k=>by simp[mkN,mnN,mkN_snoc f g y r]
theorem mnN_snoc{α:Type}(g:α→Int→Int)(y:α):∀ (l:List α) (k:Int),mnN g (l++[y]) k=g y (mnN g l k)
 | [],_=>rfl
 | x::r,k=>by simp[mnN,mnN_snoc g y r]
theorem mnN_le{α:Type}[Enc α](g:α→Int→Int)(hg:∀ x k,k≤g x k∧g x k≤k+5*(1+Enc.tot x)):∀ (l:List α) (k:Int),k≤mnN g l k∧mnN g l k≤k+5*totL l
 | [],k=>by simp[mnN,totL]
 | x::r,k=>by
  have h1:=hg x k
  have h2:=mnN_le g hg r (g x k)
  simp only[mnN,totL]
  omega
theorem mn1FileIn_le(x:TFileIn)(k:Int):k≤mn1FileIn x k∧mn1FileIn x k≤k+5*(1+Enc.tot x):=by
 have h1:=totL_len x.Parts
 have h2:Enc.tot x=totL x.Parts:=rfl
 unfold mn1FileIn
 omega
theorem mn1FileOut_le(x:TFileOut)(k:Int):k≤mn1FileOut x k∧mn1FileOut x k≤k+5*(1+Enc.tot x):=by
 have h1:=totL_len x.Queue
 have h2:Enc.tot x=(x.Data.size:Int)+totL x.Queue:=rfl
 unfold mn1FileOut
 omega
theorem set_same{α:Type}(l:List α)(i:Nat)(v:α)(h:l[i]?=some v):l.set i v=l:=by
 refine List.ext_getElem? fun k=>?_
 rw[List.getElem?_set]
 split
 ·rename_i e
  subst e
  have hi:=(List.getElem?_eq_some_iff.1 h).1
  first|(rw[if_pos hi,h])|(simp[hi,h])
 ·rfl
theorem Own.put3of4{α:Type}{enc:α→List Value}{T B g:Nat}{w:World}{c:Nat}{l:List α}(h:Own enc T 4 B w (some ⟨g,0,none⟩) c l){j:Nat}{x y:α}(hx:l[j]?=some x){u0 u1 u2 v0 v1 v2 v3:Value}(hex:enc x=[u0,u1,u2,v3])(hy:enc y=[v0,v1,v2,v3]) :
  Own enc T 4 B (((w.setCell ⟨g,j*4,none⟩ v0).setCell ⟨g,j*4+1,none⟩ v1).setCell ⟨g,j*4+2,none⟩ v2) (some ⟨g,0,none⟩) c (l.set j y)∧w.grownBy (((w.setCell ⟨g,j*4,none⟩ v0).setCell ⟨g,j*4+1,none⟩ v1).setCell ⟨g,j*4+2,none⟩ v2) (some g) ∧
  (((w.setCell ⟨g,j*4,none⟩ v0).setCell ⟨g,j*4+1,none⟩ v1).setCell ⟨g,j*4+2,none⟩ v2).cell? ⟨g,j*4+3,none⟩=some v3:=by
 have hj:j<l.length:=(List.getElem?_eq_some_iff.1 hx).1
 have s0:=(h.2).stored (j*4) v0
 have s1:=(s0.1).stored (j*4+1) v1
 have s2:=(s1.1).stored (j*4+2) v2
 have h3:(l.flatMap enc)[j*4+3]?=some v3:=flatMap_at h.1 l _ _ _ _ hx (by rw[hex];rfl)
 have hL:(((l.flatMap enc).set (j*4) v0).set (j*4+1) v1).set (j*4+2) v2=(l.set j y).flatMap enc:=by
  rw[← fset4 h.1 hy l j hj]
  exact(set_same ((((l.flatMap enc).set (j*4) v0).set (j*4+1) v1).set (j*4+2) v2) (j*4+3) v3 (by rw[List.getElem?_set_ne (by omega),List.getElem?_set_ne (by omega),List.getElem?_set_ne (by omega)];exact h3)).symm
 have hO:Own enc T 4 B (((w.setCell ⟨g,j*4,none⟩ v0).setCell ⟨g,j*4+1,none⟩ v1).setCell ⟨g,j*4+2,none⟩ v2) (some ⟨g,0,none⟩) c (l.set j y):=by
  refine⟨h.1,?_⟩
  rw[← hL,List.length_set]
  exact s2.1
 refine⟨hO,grownBy_trans (grownBy_trans s0.2 s1.2) s2.2,?_⟩
 have:=hO.2.cellAt (n:=(l.set j y).length) (j*4+3) (by rw[List.length_set];omega)
 rw[this]
 exact flatMap_at h.1 (l.set j y) _ _ _ _ (List.getElem?_set_self hj) (by rw[hy];rfl)
section
variable {α β:Type} [N:Nest α β] [F:Flat β] {B o g c j:Nat} {χ:Nat→Col} {w W3 w4:World} {rows:List (NRow α)} {r:NRow α} {x:α}
theorem OwnN.wrote(h:OwnN B χ o w (some ⟨g,0,none⟩) c rows)(hg:w.grownBy W3 (some g)):Fr B χ (·=(o,0)) w W3 :=
 ⟨hg.os,hg.tape,hg.output,hg.size,fun b h2 h3=>hg.block b h2 (fun e=>h3 ⟨by cases e;exact(h.own.blk g rfl).1,by cases e;exact h.col g rfl⟩)⟩
theorem set_mid{γ:Type}(p q:List γ)(r y:γ)(j:Nat)(hj:p.length=j):(p++r::q).set j y=p++[y]++q:=by
 subst hj
 simp[List.set_append_right]
theorem get_mid{γ:Type}(p q:List γ)(r:γ)(j:Nat)(hj:p.length=j):(p++r::q)[j]?=some r:=by
 subst hj
 simp
theorem totL_app{γ:Type}[Enc γ]:∀ (p q:List γ),totL (p++q)=totL p+totL q
 | [],q=>by simp[totL]
 | x::p,q=>by simp only[List.cons_append,totL,totL_app p q];omega
theorem OwnN.row(h:OwnN B χ o w (some ⟨g,0,none⟩) c rows)(hr:rows[j]?=some r)(hown3:Own (encN (α:=α)) N.ty N.size B W3 (some ⟨g,0,none⟩) c (rows.set j ⟨x,r.a,r.c⟩))(F3:Fr B χ (·=(o,0)) w W3)(hgd:N.good x)
  (hi:OwnC B χ (o,j+1) w4 r.a r.c (N.inner x)) (F4:Fr B χ (·=(o,j+1)) W3 w4):OwnN B χ o w4 (some ⟨g,0,none⟩) c (rows.set j ⟨x,r.a,r.c⟩):=by
 have hj:j<rows.length:=(List.getElem?_eq_some_iff.1 hr).1
 refine⟨hown3.same (fun k hk h1 h2=>F4.block k h2 (fun e=>?_)),h.col,fun i q hq=>?_⟩
 ·have:=h.col k hk
  rw[this]at e
  simp at e
 ·by_cases hi2:i=j
  ·subst hi2
   rw[List.getElem?_set_self hj]at hq
   cases hq
   exact⟨hgd,hi⟩
  ·rw[List.getElem?_set_ne (by omega)]at hq
   obtain⟨h1,h2⟩:=h.each i q hq
   exact⟨h1,(h2.fr F3 (by simp)).fr F4 (by simp;omega)⟩
theorem flatMap_set{γ:Type}{enc:γ→List Value}{size:Nat}(hsz:∀ x:γ,(enc x).length=size){y:γ}{i:Nat}{v:Value}(hi:i<size):∀ (l:List γ) (j:Nat) (x:γ),l[j]?=some x→enc y=(enc x).set i v→(l.flatMap enc).set (j*size+i) v=(l.set j y).flatMap enc
 | [],j,x,h,_=>by simp at h
 | z::l,0,x,h,hy=>by
  simp only[List.getElem?_cons_zero,Option.some.injEq]at h
  subst h
  simp only[List.flatMap_cons,List.set_cons_zero,Nat.zero_mul,Nat.zero_add]
  rw[List.set_append_left _ _ (by rw[hsz];exact hi),hy]
 | z::l,j+1,x,h,hy=>by
  simp only[List.flatMap_cons,List.set_cons_succ]
  rw[List.set_append_right _ _ (by rw[hsz,Nat.succ_mul];omega),hsz,show(j+1)*size+i - size=j*size+i by rw[Nat.succ_mul];omega,flatMap_set hsz hi l j x (by simpa using h) hy]
theorem OwnN.setCell{i:Nat}{v:Value}(h:OwnN B χ o w (some ⟨g,0,none⟩) c rows)(hr:rows[j]?=some r)(hi:i<N.size)(henc:N.cells x r.a r.c=(N.cells r.x r.a r.c).set i v)(hin:N.inner x=N.inner r.x)(hgd:N.good x) :
  OwnN B χ o (w.setCell ⟨g,j*N.size+i,none⟩ v) (some ⟨g,0,none⟩) c (rows.set j ⟨x,r.a,r.c⟩)∧w.grownBy (w.setCell ⟨g,j*N.size+i,none⟩ v) (some g):=by
 have hj:j<rows.length:=(List.getElem?_eq_some_iff.1 hr).1
 have s0:=(h.own.2).stored (j*N.size+i) v
 have hO:Own (encN (α:=α)) N.ty N.size B (w.setCell ⟨g,j*N.size+i,none⟩ v) (some ⟨g,0,none⟩) c (rows.set j ⟨x,r.a,r.c⟩):=by
  refine⟨h.own.1,?_⟩
  rw[← flatMap_set (y:=(⟨x,r.a,r.c⟩:NRow α)) h.own.1 hi rows j r hr (show encN (⟨x,r.a,r.c⟩:NRow α)=(encN r).set i v from henc),List.length_set]
  exact s0.1
 have F:=h.wrote s0.2
 refine⟨⟨hO,h.col,fun q s hs=>?_⟩,s0.2⟩
 by_cases hq:q=j
 ·subst hq
  rw[List.getElem?_set_self hj]at hs
  cases hs
  refine⟨hgd,?_⟩
  show OwnC B χ (o,q+1) _ r.a r.c (N.inner x)
  rw[hin]
  exact((h.each q r hr).2).fr F (by simp)
 ·rw[List.getElem?_set_ne (by omega)]at hs
  obtain⟨h1,h2⟩:=h.each q s hs
  exact⟨h1,h2.fr F (by simp)⟩
end
def GivesMkN{α β:Type}[N:Nest α β][F:Flat β](f:α→Int→α)(g:α→Int→Int)(B:Nat)(χ:Nat→Col)(o:Nat)(w:World)(a:Option Addr)(c:Nat)(l:List α)(k:Int):Ending→World→Prop:=fun e w' =>
 ∃ rows:List (NRow α),e=.returned (.int .i64 (mnN g l k))∧rows.map (·.x)=mkN f g l k∧OwnN B χ o w' a c rows∧Fr B χ (fun i=>i.1=o) w w'
theorem flatMap_same{γ:Type}{f:γ→List Value}{y:γ}:∀ (l:List γ) (j:Nat) (x:γ),l[j]?=some x→f y=f x→(l.set j y).flatMap f=l.flatMap f
 | [],_,_,h,_=>by simp at h
 | z::l,0,x,h,e=>by
  simp only[List.getElem?_cons_zero,Option.some.injEq]at h
  subst h
  simp only[List.set_cons_zero,List.flatMap_cons,e]
 | z::l,j+1,x,h,e=>by
  simp only[List.set_cons_succ,List.flatMap_cons]
  rw[flatMap_same l j x (by simpa using h) e]
theorem OwnN.within{α β:Type}[N:Nest α β][F:Flat β]{B o g c j:Nat}{χ:Nat→Col}{w w4:World}{rows:List (NRow α)}{r:NRow α}{x:α}(h:OwnN B χ o w (some ⟨g,0,none⟩) c rows)(hr:rows[j]?=some r)(henc:N.cells x r.a r.c=N.cells r.x r.a r.c)(hgd:N.good x)(hi:OwnC B χ (o,j+1) w4 r.a r.c (N.inner x))(F4:Fr B χ (·=(o,j+1)) w w4):OwnN B χ o w4 (some ⟨g,0,none⟩) c (rows.set j ⟨x,r.a,r.c⟩):=by
 refine h.row hr ⟨h.own.1,?_⟩ (Fr.refl _ _ _ _) hgd hi F4
 rw[List.length_set,flatMap_same (f:=encN) (y:=(⟨x,r.a,r.c⟩:NRow α)) rows j r hr (show encN (⟨x,r.a,r.c⟩:NRow α)=encN r from henc)]
 exact h.own.2
theorem mkN_get{α:Type}(f:α→Int→α)(g:α→Int→Int):∀ (l:List α) (k:Int) (j:Nat),(mkN f g l k)[j]?=(l[j]?).map (fun x=>f x (mnN g (l.take j) k))
 | [],_,_=>by simp[mkN]
 | x::r,k,0=>by simp[mkN,mnN]
 | x::r,k,j+1=>by simp[mkN,mnN,mkN_get f g r (g x k) j]
theorem mnN_take{α:Type}(g:α→Int→Int)(l:List α)(k:Int){j:Nat}{x:α}(h:l[j]?=some x):mnN g (l.take (j+1)) k=g x (mnN g (l.take j) k):=by
 rw[List.take_add_one,h]
 exact mnN_snoc g x _ k
theorem totL_take{α:Type}[Enc α](l:List α)(j:Nat):totL (l.take j)≤totL l:=by
 have h:=totL_app (l.take j) (l.drop j)
 rw[List.take_append_drop]at h
 have:=totL_nonneg (l.drop j)
 omega
theorem o_lmarkFileInS{B o:Nat}{χ:Nat→Col}{a:Option Addr}{c:Nat}{k0:Int}{rows0:List (NRow TFileIn)}{w:World}(h0:OwnN B χ o w a c rows0)(ht:totL (rows0.map (·.x))≤100000000)(h1:0≤k0)(h2:k0≤500000000000) :
  Calls Tryz.prog 150 #[.slice a rows0.length c,.int .i64 k0] w (GivesMkN mk1FileIn mn1FileIn B χ o w a c (rows0.map (·.x)) k0):=by
 obtain⟨n,hn⟩:∃ n,rows0.length=n:=⟨_,rfl⟩
 have hln:=totL_len (rows0.map (·.x))
 have hm:n≤100000000:=by simp at hln;omega
 have HN:=lH hn
 have HT:=lH ht
 have HK:=lH (show ∀ (p:List TFileIn),totL p≤100000000→k0≤mnN mn1FileIn p k0∧mnN mn1FileIn p k0≤600000000000 from fun p hp=>by have:=mnN_le mn1FileIn mn1FileIn_le p k0;omega)
 clear ht hln
 rw[hn];clear hn
 go_enter Tryz.func150,Tryz.ntmps150
 go_wp2_with fail
 go_loopw [1,5] (fun u v wr=>∃ (j:Nat) (p p0 q:List (NRow TFileIn)) (kj:Int),v=.int .i64 j∧u=.int .i64 kj∧j≤n∧Hid (rows0=p0++q)∧Hid (p.length=j∧p0.length=j)∧Hid (p.map (fun r=>r.x)=mkN mk1FileIn mn1FileIn (p0.map (fun r=>r.x)) k0)∧Hid (kj=mnN mn1FileIn (p0.map (fun r=>r.x)) k0)∧Hid (OwnN B χ o wr a c (p++q))∧Hid (Fr B χ (fun i=>i.1=o) w wr)) (fun _ v _=>(n - intOf v).toNat)
 case atStart=>exact⟨0,[],[],rows0,k0,rfl,rfl,by omega,rfl,⟨rfl,rfl⟩,rfl,rfl,h0,Fr.refl _ _ _ _⟩
 case round =>
  obtain⟨j,p,p0,q,kj,rfl,rfl,hj,hR,hL,hP,hK,hO,hF⟩:=hrel
  by_cases h:j<n
  ·obtain⟨r,q',rfl⟩:∃ r q',q=r::q':=by
    cases q with
    | nil=>have h8:=congrArg List.length hR.out;have h9:=HN.out;have h7:=hL.out.2;simp at h8;omega
    | cons r q'=>exact⟨r,q',rfl⟩
   have hr:=get_mid p q' r j hL.out.1
   have hE:=hO.out.each j r hr
   obtain⟨g,rfl,hg1,hg2⟩:=hO.out.own.open (n:=0) (by simp;omega)
   have hlen:(p++r::q').length=n:=by
    have h8:=congrArg List.length hR.out;have h9:=HN.out;have h7:=hL.out;simp at h8 ⊢;omega
   obtain⟨o0,g0⟩:=hO.out.own.cells (j:=j*4) (show j*4<(p++r::q').length*4 by rw[hlen];omega)
   obtain⟨o1,g1⟩:=hO.out.own.cells (j:=j*4+1) (show j*4+1<(p++r::q').length*4 by rw[hlen];omega)
   obtain⟨o2,g2⟩:=hO.out.own.cells (j:=j*4+2) (show j*4+2<(p++r::q').length*4 by rw[hlen];omega)
   have f0:=hO.out.own.free (j*4);have f1:=hO.out.own.free (j*4+1);have f2:=hO.out.own.free (j*4+2)
   have hkb:=HK.out (p0.map (fun r=>r.x)) (by have:=HT.out;rw[hR.out,List.map_append,totL_app]at this;have:=totL_nonneg ((r::q').map (fun r=>r.x));omega)
   rw[← hK.out]at hkb
   have hpt:r.x.Parts.length≤100000000:=by
    have h8:=HT.out;rw[hR.out,List.map_append,totL_app]at h8
    have h9:=totL_nonneg (p0.map (fun r=>r.x))
    have h7:=totL_mem (l:=(r::q').map (fun r=>r.x)) (x:=r.x) (by simp)
    have h6:=totL_len r.x.Parts
    have h5:Enc.tot r.x=totL r.x.Parts:=rfl
    omega
   have P3:=hO.out.own.put3of4 hr (y:=⟨mk1FileIn r.x kj,r.a,r.c⟩) (v0:=.int .i64 kj) (v1:=.int .i64 (kj+1)) (v2:=.int .i64 (kj+1+1)) rfl (by show[_,_,_,Value.slice r.a (mkL r.x.Parts (kj+1+1+1)).length r.c]=_;rw[mkL_length];rfl)
   have H3:=lH P3.1;have F3:=lH (hO.out.wrote P3.2.1);have C3:=P3.2.2;clear P3
   have HI:=lH (hE.2.fr F3.out (by simp));have HGd:=lH hE.1;clear hE
   have HR:=lH hr;clear hr
   go_wp2_with fail
   refine(o_lmarkStringS HI.out hpt (by omega) (by omega)).mono ?_
   rintro _ w4 ⟨rfl,hi,F4⟩
   have HI4:=lH hi;have HF4:=lH F4;clear hi F4
   go_wp2_with fail
   go_roundw
   case rel =>
    refine⟨j+1,p++[⟨mk1FileIn r.x kj,r.a,r.c⟩],p0++[r],q',mn1FileIn r.x kj,by go_num,rfl,by omega,?_,⟨by simp[hL.out.1],by simp[hL.out.2]⟩,?_,?_,?_,?_⟩
    ·show rows0=_
     rw[hR.out];simp
    ·show List.map _ _=_
     rw[List.map_append,List.map_append]
     show _++[mk1FileIn r.x kj]=mkN _ _ (_++[r.x]) _
     rw[mkN_snoc,hP.out,← hK.out]
    ·show mn1FileIn r.x kj=mnN _ (List.map _ (p0++[r])) _
     rw[List.map_append]
     show _=mnN _ (_++[r.x]) _
     rw[mnN_snoc,← hK.out]
    ·have:=hO.out.row HR.out H3.out F3.out (by show okDTFileIn _;refine⟨?_,?_,?_,trivial⟩<;>(unfold i64 mk1FileIn;dsimp only;omega)) HI4.out HF4.out
     rw[set_mid p q' r _ j hL.out.1]at this
     exact this
    ·exact(hF.out.trans (F3.out.wide (fun i e=>by rw[e]))).trans (HF4.out.wide (fun i e=>by rw[e]))
   case measure=>simp[intOf];omega
  ·have hjn:j=n:=by omega
   have hq:q=[]:=by
    have h8:=congrArg List.length hR.out;have h9:=HN.out;have h7:=hL.out.2;simp at h8
    exact List.length_eq_zero_iff.1 (by omega)
   have HQ:=lH hq;clear hq hjn
   go_wp2_with fail
   go_ret
   have hR2:=hR.out;have hO2:=hO.out
   rw[HQ.out,List.append_nil]at hR2 hO2
   exact⟨p,by rw[hK.out,hR2];rfl,by rw[hP.out,hR2],hO2,hF.out⟩
theorem o_lmarkFileOutS{B o:Nat}{χ:Nat→Col}{a:Option Addr}{c:Nat}{k0:Int}{rows0:List (NRow TFileOut)}{w:World}(h0:OwnN B χ o w a c rows0)(ht:totL (rows0.map (·.x))≤100000000)(h1:0≤k0)(h2:k0≤500000000000) :
  Calls Tryz.prog 154 #[.slice a rows0.length c,.int .i64 k0] w (GivesMkN mk1FileOut mn1FileOut B χ o w a c (rows0.map (·.x)) k0):=by
 obtain⟨n,hn⟩:∃ n,rows0.length=n:=⟨_,rfl⟩
 have hln:=totL_len (rows0.map (·.x))
 have hm:n≤100000000:=by simp at hln;omega
 have HN:=lH hn
 have HT:=lH ht
 have HK:=lH (show ∀ (p:List TFileOut),totL p≤100000000→k0≤mnN mn1FileOut p k0∧mnN mn1FileOut p k0≤600000000000 from fun p hp=>by have:=mnN_le mn1FileOut mn1FileOut_le p k0;omega)
 clear ht hln
 rw[hn];clear hn
 go_enter Tryz.func154,Tryz.ntmps154
 go_wp2_with fail
 go_loopw [1,5] (fun u v wr=>∃ (j:Nat) (p p0 q:List (NRow TFileOut)) (kj:Int),v=.int .i64 j∧u=.int .i64 kj∧j≤n∧Hid (rows0=p0++q)∧Hid (p.length=j∧p0.length=j)∧Hid (p.map (fun r=>r.x)=mkN mk1FileOut mn1FileOut (p0.map (fun r=>r.x)) k0)∧Hid (kj=mnN mn1FileOut (p0.map (fun r=>r.x)) k0)∧Hid (OwnN B χ o wr a c (p++q))∧Hid (Fr B χ (fun i=>i.1=o) w wr)) (fun _ v _=>(n - intOf v).toNat)
 case atStart=>exact⟨0,[],[],rows0,k0,rfl,rfl,by omega,rfl,⟨rfl,rfl⟩,rfl,rfl,h0,Fr.refl _ _ _ _⟩
 case round =>
  obtain⟨j,p,p0,q,kj,rfl,rfl,hj,hR,hL,hP,hK,hO,hF⟩:=hrel
  by_cases h:j<n
  ·obtain⟨r,q',rfl⟩:∃ r q',q=r::q':=by
    cases q with
    | nil=>have h8:=congrArg List.length hR.out;have h9:=HN.out;have h7:=hL.out.2;simp at h8;omega
    | cons r q'=>exact⟨r,q',rfl⟩
   have hr:=get_mid p q' r j hL.out.1
   obtain⟨g,rfl,hg1,hg2⟩:=hO.out.own.open (n:=0) (by simp;omega)
   have hlen:(p++r::q').length=n:=by
    have h8:=congrArg List.length hR.out;have h9:=HN.out;have h7:=hL.out;simp at h8 ⊢;omega
   have hkb:=HK.out (p0.map (fun r=>r.x)) (by have:=HT.out;rw[hR.out,List.map_append,totL_app]at this;have:=totL_nonneg ((r::q').map (fun r=>r.x));omega)
   rw[← hK.out]at hkb
   have hpt:r.x.Queue.length≤100000000:=by
    have h8:=HT.out;rw[hR.out,List.map_append,totL_app]at h8
    have h9:=totL_nonneg (p0.map (fun r=>r.x))
    have h7:=totL_mem (l:=(r::q').map (fun r=>r.x)) (x:=r.x) (by simp)
    have h6:=totL_len r.x.Queue
    have h5:Enc.tot r.x=(r.x.Data.size:Int)+totL r.x.Queue:=rfl
    omega
   obtain⟨o0,g0⟩:=hO.out.own.cells (j:=j*4) (show j*4<(p++r::q').length*4 by rw[hlen];omega)
   have f0:=hO.out.own.free (j*4)
   have hgd:=(hO.out.each j r hr).1
   have HGd:=lH hgd;clear hgd
   have S1:=lH (hO.out.setCell (i:=0) (v:=.int .i64 kj) (x:={ r.x with File:=kj }) hr (by decide) rfl rfl (by show okDTFileOut _;exact⟨by unfold i64;dsimp only;omega,HGd.out.2⟩))
   have HR:=lH hr;clear hr
   go_wp2_with fail
   refine gm (c_lmarkText (by omega)) ?_
   intro y
   have S1c:OwnN B χ o (wr.setCell ⟨g,j*4,none⟩ (.int .i64 kj)) (some ⟨g,0,none⟩) c (p++(⟨{ r.x with File:=kj },r.a,r.c⟩:NRow TFileOut)::q'):=by have:=S1.out.1;rw[set_mid p q' r _ j hL.out.1,List.append_assoc]at this;exact this
   have F1:Fr B χ (fun i=>i.1=o) wr y.w:=((hO.out.wrote S1.out.2).wide (fun i e=>by rw[e])).trans (Fr.grows _ _ _ _ _)
   have T1:=lH (S1c.to (ii:Grows _ y.w));have HF1:=lH F1;clear S1 S1c F1
   have hlen1:(p++(⟨{ r.x with File:=kj },r.a,r.c⟩:NRow TFileOut)::q').length=n:=by rw[← hlen];simp
   obtain⟨o1,g1⟩:=T1.out.own.cells (j:=j*4+1) (show j*4+1<_*4 by rw[hlen1];omega)
   have f1:=T1.out.own.free (j*4+1)
   have S2:=T1.out.setCell (i:=1) (v:=.string (markTx (kj+1))) (x:={ r.x with File:=kj,Data:=markTx (kj+1) }) (get_mid p q' _ j hL.out.1) (by decide) rfl rfl (by show okDTFileOut _;exact⟨by unfold i64;dsimp only;omega,markTx_size (by omega) (by omega),trivial⟩)
   have T2:=lH (show OwnN B χ o (y.w.setCell ⟨g,j*4+1,none⟩ (.string (markTx (kj+1)))) (some ⟨g,0,none⟩) c (p++(⟨{ r.x with File:=kj,Data:=markTx (kj+1) },r.a,r.c⟩:NRow TFileOut)::q')by have:=S2.1;rw[set_mid p q' _ _ j hL.out.1,List.append_assoc]at this;exact this)
   have HF2:=lH (show Fr B χ (fun i=>i.1=o) wr (y.w.setCell ⟨g,j*4+1,none⟩ (.string (markTx (kj+1))))from HF1.out.trans ((T1.out.wrote S2.2).wide (fun i e=>by rw[e])));clear S2
   obtain⟨b1,off1,r1,hb1,hb2,hd,e0,e1,e2,e3⟩:=T2.out.own.sl.nFileOut (k:=j) (by have h8:=hlen1;simp at h8 ⊢;omega)
   cases hb1
   have hr1:r1=⟨{ r.x with File:=kj,Data:=markTx (kj+1) },r.a,r.c⟩:=by
    have h8:=congrArg (fun m=>m[0]?) hd.out
    simp only[List.getElem?_drop,Nat.add_zero,get_mid p q' _ j hL.out.1,List.getElem?_cons_zero,Option.some.injEq]at h8
    exact h8.symm
   subst hr1
   simp only[Nat.zero_add]at e0 e1 e2 e3
   have E2:(y.set ⟨g,j*4+1,none⟩ (.string (markTx (kj+1)))).w.cell? ⟨g,j*4+2,none⟩=some (.slice r.a r.x.Queue.length r.c):=e2 (y.w.setCell ⟨g,j*4+1,none⟩ (.string (markTx (kj+1))))
   have HI:=lH (show OwnC B χ (o,j+1) (y.w.setCell ⟨g,j*4+1,none⟩ (.string (markTx (kj+1)))) r.a r.c r.x.Queue from(T2.out.each j _ (get_mid p q' _ j hL.out.1)).2)
   clear e0 e1 e2 e3 hd hb2
   go_wp2_with fail
   refine(o_lmarkIntS HI.out hpt (by omega) (by omega)).mono ?_
   intro e w4 hq
   obtain⟨he,hi,F4⟩:=hq
   obtain⟨K,hK2⟩:∃ K:Int,K=kj+1+1+(r.x.Queue.length:Int)*((1:Nat):Int):=⟨_,rfl⟩
   obtain rfl:e=.returned (.int .i64 K):=he.trans (by rw[hK2];rfl)
   have hKb:0≤K∧K≤900000000000:=by omega
   have HK2:=lH hK2;have HI4:=lH hi;have HF4:=lH F4
   clear he hK2 hi F4 E2 g1 f1
   have T3:=lH (show OwnN B χ o w4 (some ⟨g,0,none⟩) c (p++(⟨{ r.x with File:=kj,Data:=markTx (kj+1),Queue:=mkL r.x.Queue (kj+1+1) },r.a,r.c⟩:NRow TFileOut)::q')by
    have:=T2.out.within (x:={ r.x with File:=kj,Data:=markTx (kj+1),Queue:=mkL r.x.Queue (kj+1+1) }) (get_mid p q' _ j hL.out.1) (by show[_,_,Value.slice r.a (mkL r.x.Queue (kj+1+1)).length r.c,_]=_;rw[mkL_length];rfl) (by show okDTFileOut _;exact⟨by unfold i64;dsimp only;omega,markTx_size (by omega) (by omega),trivial⟩) HI4.out HF4.out
    rw[set_mid p q' _ _ j hL.out.1,List.append_assoc]at this;exact this)
   have hlen3:(p++(⟨{ r.x with File:=kj,Data:=markTx (kj+1),Queue:=mkL r.x.Queue (kj+1+1) },r.a,r.c⟩:NRow TFileOut)::q').length=n:=by rw[← hlen];simp
   obtain⟨o3,g3⟩:=T3.out.own.cells (j:=j*4+3) (show j*4+3<_*4 by rw[hlen3];omega)
   have f3:=T3.out.own.free (j*4+3)
   have S4:=T3.out.setCell (i:=3) (v:=.bool (decide (K % 3=0))) (x:={ r.x with File:=kj,Data:=markTx (kj+1),Queue:=mkL r.x.Queue (kj+1+1),Done:=decide (K % 3=0) }) (get_mid p q' _ j hL.out.1) (by decide) rfl rfl (by show okDTFileOut _;exact⟨by unfold i64;dsimp only;omega,markTx_size (by omega) (by omega),trivial⟩)
   have T4:=lH (show OwnN B χ o (w4.setCell ⟨g,j*4+3,none⟩ (.bool (decide (K % 3=0)))) (some ⟨g,0,none⟩) c (p++(⟨{ r.x with File:=kj,Data:=markTx (kj+1),Queue:=mkL r.x.Queue (kj+1+1),Done:=decide (K % 3=0) },r.a,r.c⟩:NRow TFileOut)::q')by have:=S4.1;rw[set_mid p q' _ _ j hL.out.1,List.append_assoc]at this;exact this)
   have HF5:=lH (show Fr B χ (fun i=>i.1=o) w4 (w4.setCell ⟨g,j*4+3,none⟩ (.bool (decide (K % 3=0))))from(T3.out.wrote S4.2).wide (fun i e=>by rw[e]))
   clear S4 hlen3 hlen1
   have ht:Int.tmod K 3=K % 3:=Int.tmod_eq_emod_of_nonneg (by omega)
   go_wp2_with fail
   go_roundw
   case rel =>
    have eK:=HK2.out
    refine⟨j+1,p++[⟨mk1FileOut r.x kj,r.a,r.c⟩],p0++[r],q',K+1,by go_num,rfl,by omega,?_,⟨by simp[hL.out.1],by simp[hL.out.2]⟩,?_,?_,?_,?_⟩
    ·show rows0=_
     rw[hR.out];simp
    ·show List.map _ _=_
     rw[List.map_append,List.map_append]
     show _++[mk1FileOut r.x kj]=mkN _ _ (_++[r.x]) _
     rw[mkN_snoc,hP.out,← hK.out]
    ·show K+1=mnN _ (List.map _ (p0++[r])) _
     rw[List.map_append]
     show _=mnN _ (_++[r.x]) _
     rw[mnN_snoc,← hK.out,eK];rfl
    ·have:=T4.out
     rw[eK]at this ⊢
     rw[List.append_assoc]
     exact this
    ·exact(hF.out.trans HF2.out).trans ((HF4.out.wide (fun i e=>by rw[e])).trans HF5.out)
   case measure=>simp[intOf];omega
  ·have hjn:j=n:=by omega
   have hq:q=[]:=by
    have h8:=congrArg List.length hR.out;have h9:=HN.out;have h7:=hL.out.2;simp at h8
    exact List.length_eq_zero_iff.1 (by omega)
   have HQ:=lH hq;clear hq hjn
   go_wp2_with fail
   go_ret
   have hR2:=hR.out;have hO2:=hO.out
   rw[HQ.out,List.append_nil]at hR2 hO2
   exact⟨p,by rw[hK.out,hR2];rfl,by rw[hP.out,hR2],hO2,hF.out⟩
theorem o_lheldFileInS{B:Nat}{a:Option Addr}{c:Nat}{k0:Int}{l:List TFileIn}{w:World}(hs:RdS B w a c (mkN mk1FileIn mn1FileIn l k0))(ht:totL l≤100000000)(h1:0≤k0)(h2:k0≤500000000000) :
  Calls Tryz.prog 158 #[.slice a l.length c,.int .i64 k0] w (Gives w (.int .i64 (mnN mn1FileIn l k0))):=by
 obtain⟨n,hn⟩:∃ n,l.length=n:=⟨_,rfl⟩
 have hln:=totL_len l
 have hm:n≤100000000:=by omega
 have HN:=lH hn
 have HT:=lH ht
 have HK:=lH (show ∀ (p:List TFileIn),totL p≤100000000→k0≤mnN mn1FileIn p k0∧mnN mn1FileIn p k0≤600000000000 from fun p hp=>by have:=mnN_le mn1FileIn mn1FileIn_le p k0;omega)
 have HS:=lH hs
 clear ht hln hs
 rw[hn];clear hn
 go_enter Tryz.func158,Tryz.ntmps158
 go_wp2_with fail
 go_loopw [1,5] (fun u v wr=>∃ (j:Nat) (kj:Int),v=.int .i64 j∧u=.int .i64 kj∧j≤n∧Hid (kj=mnN mn1FileIn (l.take j) k0)∧∃ x:Later w,wr=x.w) (fun _ v _=>(n - intOf v).toNat)
 case atStart=>exact⟨0,k0,rfl,rfl,by omega,rfl,Later.of⟩
 case round =>
  obtain⟨j,kj,rfl,rfl,hj,hK,x0,rfl⟩:=hrel
  by_cases h:j<n
  ·have hlj:j<l.length:=by rw[HN.out];exact h
   obtain⟨eb,eoff,ex,ea0,ec0,rfl,ehb,ehd,eq0,eok,eh0,eh1,eh2,eh3⟩:=HS.out.atTFileIn (k:=j) (by rw[mkN_length];exact hlj)
   have hy:=List.getElem?_eq_getElem hlj
   obtain⟨y,hY⟩:∃ y,y=l[j]:=⟨_,rfl⟩
   rw[← hY]at hy
   have hex:ex=mk1FileIn y kj:=by
    have h8:=congrArg (fun m=>m[0]?) ehd.out
    simp only[List.getElem?_drop,Nat.add_zero,mkN_get,hy,Option.map_some,List.getElem?_cons_zero,Option.some.injEq]at h8
    rw[hK.out];exact h8.symm
   subst hex
   have hkb:=HK.out (l.take j) (by have:=totL_take l j;have:=HT.out;omega)
   rw[← hK.out]at hkb
   have hpt:y.Parts.length≤100000000:=by
    have h7:=totL_mem (List.mem_of_getElem? hy);have h8:=HT.out;have h6:=totL_len y.Parts;have h5:Enc.tot y=totL y.Parts:=rfl;omega
   have HY:=lH hy
   have EQ:=lH (show RdS B w ea0 ec0 (mkL y.Parts (kj+1+1+1))from eq0)
   simp only[mk1FileIn,mkL_length]at eh0 eh1 eh2 eh3
   clear hY hy ehd eok eq0
   go_wp2_with fail
   refine(o_lheldStringS (EQ.out.keep ii) hpt (by omega) (by omega)).mono ?_
   intro e w4 hq
   obtain⟨he,y4,hw4⟩:=hq
   obtain⟨K,hK2⟩:∃ K:Int,K=mn1FileIn y kj:=⟨_,rfl⟩
   obtain rfl:e=.returned (.int .i64 K):=he.trans (by rw[hK2];rfl)
   have hKb:0≤K∧K≤900000000000:=by unfold mn1FileIn at hK2;omega
   have HK2:=lH hK2;clear he hK2
   subst hw4
   go_wp2_with fail
   go_roundw
   case rel=>exact⟨j+1,K,by go_num,rfl,by omega,(show K=_ by rw[mnN_take _ _ _ HY.out,← hK.out];exact HK2.out),Later.of⟩
   case measure=>simp[intOf];omega
  ·go_wp2_with fail
   go_ret
   have e:=hK.out
   rw[List.take_of_length_le (by have:=HN.out;omega)]at e
   exact Gives.mk (by rw[e];rfl)
theorem o_lheldFileOutS{B:Nat}{a:Option Addr}{c:Nat}{k0:Int}{l:List TFileOut}{w:World}(hs:RdS B w a c (mkN mk1FileOut mn1FileOut l k0))(ht:totL l≤100000000)(h1:0≤k0)(h2:k0≤500000000000) :
  Calls Tryz.prog 162 #[.slice a l.length c,.int .i64 k0] w (Gives w (.int .i64 (mnN mn1FileOut l k0))):=by
 obtain⟨n,hn⟩:∃ n,l.length=n:=⟨_,rfl⟩
 have hln:=totL_len l
 have hm:n≤100000000:=by omega
 have HN:=lH hn
 have HT:=lH ht
 have HK:=lH (show ∀ (p:List TFileOut),totL p≤100000000→k0≤mnN mn1FileOut p k0∧mnN mn1FileOut p k0≤600000000000 from fun p hp=>by have:=mnN_le mn1FileOut mn1FileOut_le p k0;omega)
 have HS:=lH hs
 clear ht hln hs
 rw[hn];clear hn
 go_enter Tryz.func162,Tryz.ntmps162
 go_wp2_with fail
 go_loopw [1,5] (fun u v wr=>∃ (j:Nat) (kj:Int),v=.int .i64 j∧u=.int .i64 kj∧j≤n∧Hid (kj=mnN mn1FileOut (l.take j) k0)∧∃ x:Later w,wr=x.w) (fun _ v _=>(n - intOf v).toNat)
 case atStart=>exact⟨0,k0,rfl,rfl,by omega,rfl,Later.of⟩
 case round =>
  obtain⟨j,kj,rfl,rfl,hj,hK,x0,rfl⟩:=hrel
  by_cases h:j<n
  ·have hlj:j<l.length:=by rw[HN.out];exact h
   obtain⟨eb,eoff,ex,ea0,ec0,rfl,ehb,ehd,eq0,eok,eh0,eh1,eh2,eh3⟩:=HS.out.atTFileOut (k:=j) (by rw[mkN_length];exact hlj)
   have hy:=List.getElem?_eq_getElem hlj
   obtain⟨y,hY⟩:∃ y,y=l[j]:=⟨_,rfl⟩
   rw[← hY]at hy
   have hex:ex=mk1FileOut y kj:=by
    have h8:=congrArg (fun m=>m[0]?) ehd.out
    simp only[List.getElem?_drop,Nat.add_zero,mkN_get,hy,Option.map_some,List.getElem?_cons_zero,Option.some.injEq]at h8
    rw[hK.out];exact h8.symm
   subst hex
   have hkb:=HK.out (l.take j) (by have:=totL_take l j;have:=HT.out;omega)
   rw[← hK.out]at hkb
   have hpt:y.Queue.length≤100000000:=by
    have h7:=totL_mem (List.mem_of_getElem? hy);have h8:=HT.out;have h6:=totL_len y.Queue;have h5:Enc.tot y=(y.Data.size:Int)+totL y.Queue:=rfl;omega
   have HY:=lH hy
   have EQ:=lH (show RdS B w ea0 ec0 (mkL y.Queue (kj+1+1))from eq0)
   obtain⟨K,hK2⟩:∃ K:Int,K=kj+1+1+(y.Queue.length:Int)*((1:Nat):Int):=⟨_,rfl⟩
   have hKb:0≤K∧K≤900000000000:=by omega
   have E3:∀ (W:World) [Grows w W],W.cell? ⟨eb,eoff+j*4+3,none⟩=some (.bool (decide (K % 3=0))):=by rw[hK2];exact eh3
   have HK2:=lH hK2;clear hK2 eh3
   simp only[mk1FileOut,mkL_length]at eh0 eh1 eh2
   clear hY hy ehd eok eq0
   have ht:Int.tmod K 3=K % 3:=Int.tmod_eq_emod_of_nonneg (by omega)
   have hx:((markTx (kj+1)).toList != (markTx (kj+1)).toList)=false:=by simp
   by_cases h3:K % 3=0
   ·have hD:decide (K % 3=0)=true:=by simpa using h3
    rw[hD]at E3;clear hD
    go_wp2_with (first|((with_reducible refine rl ?_);(repeat(first|go_big_quiet_step (first|(go_at_call 146;exact Gives.quiet (c_lmarkText (by omega))))|simp only[hx]|simp only[ht]|simp only[h3]));refine wpQuiet_nil ?_;intro x)|(go_at_call 146;refine gm (c_lmarkText (by omega)) ?_;intro x))
    refine(o_lheldIntS (EQ.out.keep ii) hpt (by omega) (by omega)).mono ?_
    intro e w4 hq
    obtain⟨he,y4,hw4⟩:=hq
    obtain rfl:e=.returned (.int .i64 K):=he.trans (by rw[HK2.out];rfl)
    clear he
    subst hw4
    go_wp2_with fail
    go_roundw
    case rel=>exact⟨j+1,K+1,by go_num,rfl,by omega,(show K+1=_ by rw[mnN_take _ _ _ HY.out,← hK.out,HK2.out];rfl),Later.of⟩
    case measure=>simp[intOf];omega
   ·have hD:decide (K % 3=0)=false:=by simpa using h3
    rw[hD]at E3;clear hD
    go_wp2_with (first|((with_reducible refine rl ?_);(repeat(first|go_big_quiet_step (first|(go_at_call 146;exact Gives.quiet (c_lmarkText (by omega))))|simp only[hx]|simp only[ht]|simp only[h3]));refine wpQuiet_nil ?_;intro x)|(go_at_call 146;refine gm (c_lmarkText (by omega)) ?_;intro x))
    refine(o_lheldIntS (EQ.out.keep ii) hpt (by omega) (by omega)).mono ?_
    intro e w4 hq
    obtain⟨he,y4,hw4⟩:=hq
    obtain rfl:e=.returned (.int .i64 K):=he.trans (by rw[HK2.out];rfl)
    clear he
    subst hw4
    go_wp2_with fail
    go_roundw
    case rel=>exact⟨j+1,K+1,by go_num,rfl,by omega,(show K+1=_ by rw[mnN_take _ _ _ HY.out,← hK.out,HK2.out];rfl),Later.of⟩
    case measure=>simp[intOf];omega
  ·go_wp2_with fail
   go_ret
   have e:=hK.out
   rw[List.take_of_length_le (by have:=HN.out;omega)]at e
   exact Gives.mk (by rw[e];rfl)
def Rng(a b:Nat):Col→Prop:=fun i=>a≤i.1∧i.1<b
theorem Rng.out{a b j k:Nat}(h:j<a∨b≤j):¬ Rng a b (j,k):=fun e=>by have h1:a≤j:=e.1;have h2:j<b:=e.2;omega
def Fresh(χ:Nat→Col)(w:World):Prop:=∀ b,w.heap.size≤b→1000≤(χ b).1
theorem Fresh.mono{χ:Nat→Col}{w w':World}(h:Fresh χ w)(g:w.heap.size≤w'.heap.size):Fresh χ w':=fun b hb=>h b (Nat.le_trans g hb)
section
variable {B:Nat} {χ:Nat→Col} {w w1 w2:World} {a b c j:Nat}
theorem Fr.rng0(h:Fr B χ (·=(j,0)) w w1):Fr B χ (Rng j (j+1)) w w1:=h.wide fun i e=>by subst e;exact⟨Nat.le_refl _,Nat.lt_succ_self _⟩
theorem Fr.rngN(h:Fr B χ (fun i=>i.1=j) w w1):Fr B χ (Rng j (j+1)) w w1:=h.wide fun i e=>by subst e;exact⟨Nat.le_refl _,Nat.lt_succ_self _⟩
theorem Fr.tr(h:Fr B χ (Rng a b) w w1)(k:Fr B χ (Rng b c) w1 w2)(h1:a≤b)(h2:b≤c):Fr B χ (Rng a c) w w2 :=
 (h.wide (C':=Rng a c) fun i e=>⟨e.1,Nat.lt_of_lt_of_le e.2 h2⟩).trans (k.wide fun i e=>⟨Nat.le_trans h1 e.1,e.2⟩)
theorem Held.frm{cs:List Value}{T:TypeId}{q:Nat}(h:Held w q cs T)(f:Fr B χ (Rng a b) w w1)(hb:b≤1000)(hq:1000≤(χ q).1):Held w1 q cs T:=by
 unfold Held
 rw[f.block q h.lt (fun e=>by have:=e.2.2;omega)];exact h
end
def Mkd(K:Int)(G H:World→Prop):Ending→World→Prop:=fun e w'=>e=.returned (.int .i64 K)∧G w'∧H w'
theorem o_lmarkFileInX{B o:Nat}{χ:Nat→Col}{a:Option Addr}{c:Nat}{k:Int}{l:List TFileIn}{w:World}(h0:∃ rows:List (NRow TFileIn),rows.map (·.x)=l∧OwnN B χ o w a c rows)(ht:totL l≤100000000)(h1:0≤k)(h2:k≤500000000000) :
  Calls Tryz.prog 150 #[.slice a l.length c,.int .i64 k] w (Mkd (mnN mn1FileIn l k) (fun w'=>∃ rows:List (NRow TFileIn),rows.map (·.x)=mkN mk1FileIn mn1FileIn l k∧OwnN B χ o w' a c rows) (Fr B χ (Rng o (o+1)) w)):=by
 obtain⟨rows,rfl,h⟩:=h0
 have:=o_lmarkFileInS (k0:=k) h ht h1 h2
 rw[show rows.length=(rows.map (·.x)).length by simp]at this
 exact this.mono fun _ _ ⟨r,he,hr,ho,hf⟩=>⟨he,⟨r,hr,ho⟩,hf.rngN⟩
theorem o_lmarkFileOutX{B o:Nat}{χ:Nat→Col}{a:Option Addr}{c:Nat}{k:Int}{l:List TFileOut}{w:World}(h0:∃ rows:List (NRow TFileOut),rows.map (·.x)=l∧OwnN B χ o w a c rows)(ht:totL l≤100000000)(h1:0≤k)(h2:k≤500000000000) :
  Calls Tryz.prog 154 #[.slice a l.length c,.int .i64 k] w (Mkd (mnN mn1FileOut l k) (fun w'=>∃ rows:List (NRow TFileOut),rows.map (·.x)=mkN mk1FileOut mn1FileOut l k∧OwnN B χ o w' a c rows) (Fr B χ (Rng o (o+1)) w)):=by
 obtain⟨rows,rfl,h⟩:=h0
 have:=o_lmarkFileOutS (k0:=k) h ht h1 h2
 rw[show rows.length=(rows.map (·.x)).length by simp]at this
 exact this.mono fun _ _ ⟨r,he,hr,ho,hf⟩=>⟨he,⟨r,hr,ho⟩,hf.rngN⟩
def mnMPacker(x:TPacker)(k:Int):Int:=k+(x.Starts.length:Int)*((1:Nat):Int)
def mkMPacker(x:TPacker)(k:Int):TPacker:={ x with Starts:=mkL x.Starts (k) }
theorem mnMPacker_le(x:TPacker)(k:Int):k≤mnMPacker x k∧mnMPacker x k≤k+5*Enc.tot x:=by
 have t:Enc.tot x=(x.Rest.size:Int)+totL x.Starts:=rfl
 have a0:=totL_len x.Starts
 unfold mnMPacker;omega
def mnMSender(x:TSender)(k:Int):Int:=k+(x.Waiting.length:Int)*((2:Nat):Int)
def mkMSender(x:TSender)(k:Int):TSender:={ x with Waiting:=mkL x.Waiting (k) }
theorem mnMSender_le(x:TSender)(k:Int):k≤mnMSender x k∧mnMSender x k≤k+5*Enc.tot x:=by
 have t:Enc.tot x=totL x.Waiting:=rfl
 have a0:=totL_len x.Waiting
 unfold mnMSender;omega
def mnMRecorder(x:TRecorder)(k:Int):Int:=k+(x.Records.length:Int)*((4:Nat):Int)+(x.Dropped.length:Int)*((1:Nat):Int)
def mkMRecorder(x:TRecorder)(k:Int):TRecorder:={ x with Records:=mkL x.Records (k),Dropped:=mkL x.Dropped (k+(x.Records.length:Int)*((4:Nat):Int)) }
theorem mnMRecorder_le(x:TRecorder)(k:Int):k≤mnMRecorder x k∧mnMRecorder x k≤k+5*Enc.tot x:=by
 have t:Enc.tot x=totL x.Records+totL x.Dropped:=rfl
 have a0:=totL_len x.Records
 have a1:=totL_len x.Dropped
 unfold mnMRecorder;omega
def mnMBoard(x:TBoard)(k:Int):Int:=mnMRecorder x.Recorder (k+(x.Params.length:Int)*((1:Nat):Int)+(x.Limits.length:Int)*((3:Nat):Int)+(x.Orders.length:Int)*((5:Nat):Int)+(x.Done.length:Int)*((3:Nat):Int))+(x.Asked.length:Int)*((1:Nat):Int)
def mkMBoard(x:TBoard)(k:Int):TBoard:={ x with Params:=mkL x.Params (k),Limits:=mkL x.Limits (k+(x.Params.length:Int)*((1:Nat):Int)),Orders:=mkL x.Orders (k+(x.Params.length:Int)*((1:Nat):Int)+(x.Limits.length:Int)*((3:Nat):Int)),Done:=mkL x.Done (k+(x.Params.length:Int)*((1:Nat):Int)+(x.Limits.length:Int)*((3:Nat):Int)+(x.Orders.length:Int)*((5:Nat):Int)),Recorder:=mkMRecorder x.Recorder (k+(x.Params.length:Int)*((1:Nat):Int)+(x.Limits.length:Int)*((3:Nat):Int)+(x.Orders.length:Int)*((5:Nat):Int)+(x.Done.length:Int)*((3:Nat):Int)),Asked:=mkL x.Asked (mnMRecorder x.Recorder (k+(x.Params.length:Int)*((1:Nat):Int)+(x.Limits.length:Int)*((3:Nat):Int)+(x.Orders.length:Int)*((5:Nat):Int)+(x.Done.length:Int)*((3:Nat):Int))) }
theorem mnMBoard_le(x:TBoard)(k:Int):k≤mnMBoard x k∧mnMBoard x k≤k+5*Enc.tot x:=by
 have t:Enc.tot x=totL x.Params+totL x.Limits+totL x.Orders+totL x.Done+Enc.tot x.Recorder+totL x.Asked:=rfl
 have a0:=totL_len x.Params
 have a1:=totL_len x.Limits
 have a2:=totL_len x.Orders
 have a3:=totL_len x.Done
 have a4:=mnMRecorder_le x.Recorder (k+(x.Params.length:Int)*((1:Nat):Int)+(x.Limits.length:Int)*((3:Nat):Int)+(x.Orders.length:Int)*((5:Nat):Int)+(x.Done.length:Int)*((3:Nat):Int))
 have a5:=totL_len x.Asked
 have b6:=Enc.tot_nonneg x.Recorder
 unfold mnMBoard;omega
def mnMGround(x:TGround)(k:Int):Int:=mnN mn1FileIn x.Files (mnMSender x.Sender (k+(x.Offers.length:Int)*((1:Nat):Int))+(x.Pairs.length:Int)*((2:Nat):Int)+(x.Records.length:Int)*((4:Nat):Int))+(x.Told.length:Int)*((1:Nat):Int)
def mkMGround(x:TGround)(k:Int):TGround:={ x with Offers:=mkL x.Offers (k),Sender:=mkMSender x.Sender (k+(x.Offers.length:Int)*((1:Nat):Int)),Pairs:=mkL x.Pairs (mnMSender x.Sender (k+(x.Offers.length:Int)*((1:Nat):Int))),Records:=mkL x.Records (mnMSender x.Sender (k+(x.Offers.length:Int)*((1:Nat):Int))+(x.Pairs.length:Int)*((2:Nat):Int)),Files:=mkN mk1FileIn mn1FileIn x.Files (mnMSender x.Sender (k+(x.Offers.length:Int)*((1:Nat):Int))+(x.Pairs.length:Int)*((2:Nat):Int)+(x.Records.length:Int)*((4:Nat):Int)),Told:=mkL x.Told (mnN mn1FileIn x.Files (mnMSender x.Sender (k+(x.Offers.length:Int)*((1:Nat):Int))+(x.Pairs.length:Int)*((2:Nat):Int)+(x.Records.length:Int)*((4:Nat):Int))) }
theorem mnMGround_le(x:TGround)(k:Int):k≤mnMGround x k∧mnMGround x k≤k+5*Enc.tot x:=by
 have t:Enc.tot x=totL x.Offers+Enc.tot x.Sender+Enc.tot x.Unpacker+totL x.Pairs+totL x.Records+totL x.Files+totL x.Told:=rfl
 have a0:=totL_len x.Offers
 have a1:=mnMSender_le x.Sender (k+(x.Offers.length:Int)*((1:Nat):Int))
 have a2:=totL_len x.Pairs
 have a3:=totL_len x.Records
 have a4:=mnN_le mn1FileIn mn1FileIn_le x.Files (mnMSender x.Sender (k+(x.Offers.length:Int)*((1:Nat):Int))+(x.Pairs.length:Int)*((2:Nat):Int)+(x.Records.length:Int)*((4:Nat):Int))
 have a5:=totL_len x.Told
 have b1:=Enc.tot_nonneg x.Sender
 have b3:=Enc.tot_nonneg x.Unpacker
 unfold mnMGround;omega
def mnMSpace(x:TSpace)(k:Int):Int:=mnN mn1FileOut x.Outs (mnMPacker x.Packer (mnMBoard x.Board (k))+(x.Files.length:Int)*((1:Nat):Int))+(x.Sent.length:Int)*((4:Nat):Int)
def mkMSpace(x:TSpace)(k:Int):TSpace:={ x with Board:=mkMBoard x.Board (k),Packer:=mkMPacker x.Packer (mnMBoard x.Board (k)),Files:=mkL x.Files (mnMPacker x.Packer (mnMBoard x.Board (k))),Outs:=mkN mk1FileOut mn1FileOut x.Outs (mnMPacker x.Packer (mnMBoard x.Board (k))+(x.Files.length:Int)*((1:Nat):Int)),Sent:=mkL x.Sent (mnN mn1FileOut x.Outs (mnMPacker x.Packer (mnMBoard x.Board (k))+(x.Files.length:Int)*((1:Nat):Int))) }
theorem mnMSpace_le(x:TSpace)(k:Int):k≤mnMSpace x k∧mnMSpace x k≤k+5*Enc.tot x:=by
 have t:Enc.tot x=Enc.tot x.Board+Enc.tot x.Packer+totL x.Files+totL x.Outs+totL x.Sent:=rfl
 have a0:=mnMBoard_le x.Board (k)
 have a1:=mnMPacker_le x.Packer (mnMBoard x.Board (k))
 have a2:=totL_len x.Files
 have a3:=mnN_le mn1FileOut mn1FileOut_le x.Outs (mnMPacker x.Packer (mnMBoard x.Board (k))+(x.Files.length:Int)*((1:Nat):Int))
 have a4:=totL_len x.Sent
 have b1:=Enc.tot_nonneg x.Board
 have b2:=Enc.tot_nonneg x.Packer
 unfold mnMSpace;omega
def mnMMission(x:TMission)(k:Int):Int:=mnMSpace x.Space (mnMGround x.Ground (k+(x.Plan.length:Int)*((2:Nat):Int)+(x.Ups.length:Int)*((2:Nat):Int)+(x.Downs.length:Int)*((2:Nat):Int)))+(x.Offered.length:Int)*((1:Nat):Int)+(x.Took.length:Int)*((1:Nat):Int)
def mkMMission(x:TMission)(k:Int):TMission:={ x with Plan:=mkL x.Plan (k),Ups:=mkL x.Ups (k+(x.Plan.length:Int)*((2:Nat):Int)),Downs:=mkL x.Downs (k+(x.Plan.length:Int)*((2:Nat):Int)+(x.Ups.length:Int)*((2:Nat):Int)),Ground:=mkMGround x.Ground (k+(x.Plan.length:Int)*((2:Nat):Int)+(x.Ups.length:Int)*((2:Nat):Int)+(x.Downs.length:Int)*((2:Nat):Int)),Space:=mkMSpace x.Space (mnMGround x.Ground (k+(x.Plan.length:Int)*((2:Nat):Int)+(x.Ups.length:Int)*((2:Nat):Int)+(x.Downs.length:Int)*((2:Nat):Int))),Offered:=mkL x.Offered (mnMSpace x.Space (mnMGround x.Ground (k+(x.Plan.length:Int)*((2:Nat):Int)+(x.Ups.length:Int)*((2:Nat):Int)+(x.Downs.length:Int)*((2:Nat):Int)))),Took:=mkL x.Took (mnMSpace x.Space (mnMGround x.Ground (k+(x.Plan.length:Int)*((2:Nat):Int)+(x.Ups.length:Int)*((2:Nat):Int)+(x.Downs.length:Int)*((2:Nat):Int)))+(x.Offered.length:Int)*((1:Nat):Int)) }
theorem mnMMission_le(x:TMission)(k:Int):k≤mnMMission x k∧mnMMission x k≤k+5*Enc.tot x:=by
 have t:Enc.tot x=totL x.Plan+totL x.Ups+totL x.Downs+Enc.tot x.Ground+Enc.tot x.Space+totL x.Offered+totL x.Took:=rfl
 have a0:=totL_len x.Plan
 have a1:=totL_len x.Ups
 have a2:=totL_len x.Downs
 have a3:=mnMGround_le x.Ground (k+(x.Plan.length:Int)*((2:Nat):Int)+(x.Ups.length:Int)*((2:Nat):Int)+(x.Downs.length:Int)*((2:Nat):Int))
 have a4:=mnMSpace_le x.Space (mnMGround x.Ground (k+(x.Plan.length:Int)*((2:Nat):Int)+(x.Ups.length:Int)*((2:Nat):Int)+(x.Downs.length:Int)*((2:Nat):Int)))
 have a5:=totL_len x.Offered
 have a6:=totL_len x.Took
 have b9:=Enc.tot_nonneg x.Ground
 have b10:=Enc.tot_nonneg x.Space
 unfold mnMMission;omega
theorem Fr.old{B U:Nat}{χ χ2:Nat→Col}{f:Col→Col}{C:Col→Prop}{w w':World}(h:Fr B χ C w w')(g:w.heap.size≤U):Fr B (paint U χ χ2 f) C w w' :=
 ⟨h.os,h.tape,h.output,h.size,fun b hb hn=>h.block b hb (fun e=>hn ⟨e.1,by rw[paint,if_pos (by omega)];exact e.2⟩)⟩
theorem Keeps.more{B B':Nat}{w w':World}(h:Keeps B w w')(g:B≤B'):Keeps B' w w':=⟨h.size,fun b h1 h2=>h.block b (Nat.le_trans g h1) h2⟩
theorem Fr.keepsU{B U:Nat}{χ:Nat→Col}{C:Col→Prop}{w w':World}(h:Fr B (paint U χ (fun _=>(0,0)) (fun _=>(1000,0))) C w w')(hC:¬ C (1000,0)):Keeps U w w' :=
 ⟨h.size,fun b h1 h2=>h.block b h2 (fun e=>hC (by have:=e.2;rwa[paint,if_neg (by omega)]at this))⟩
theorem freshU{U:Nat}{χ:Nat→Col}{w:World}(h:U≤w.heap.size):Fresh (paint U χ (fun _=>(0,0)) (fun _=>(1000,0))) w:=fun b hb=>by rw[paint,if_neg (by omega)];exact Nat.le_refl _
theorem Keeps.ofU{U:Nat}{w w':World}(h:Keeps U w w'):∀ b cs T,U≤b→Held w b cs T→Held w' b cs T:=fun b cs T hb H=>by
 unfold Held
 rw[h.block b hb H.lt];exact H
theorem TMissionO.put1{B o:Nat}{χ:Nat→Col}{w w2:World}{A:TMissionA}{x:TMission}(h:TMissionO B χ o w A x){a:Option Addr}{c:Nat}{l:List TFlight}(f:Fr B χ (·=(o+1,0)) w w2)(k:OwnC B χ (o+1,0) w2 a c l):TMissionO B χ o w2 { A with a1:=a,c1:=c } { x with Ups:=l } :=
 ⟨h.o0.fr f (by simp),k,h.o2.fr f (by simp),h.o3.fr f (by simp),h.o4.fr f (by simp),h.o5.fr f (by simp),h.o6.fr f (by simp),h.o7.elim fun r hr=>⟨r,hr.1,hr.2.fr f (by simp)⟩,h.o8.fr f (by simp),h.o9.fr f (by simp),h.o10.fr f (by simp),h.o11.fr f (by simp),h.o12.fr f (by simp),h.o13.fr f (by simp),h.o14.fr f (by simp),h.o15.fr f (by simp),h.o16.fr f (by simp),h.o17.fr f (by simp),h.o18.elim fun r hr=>⟨r,hr.1,hr.2.fr f (by simp)⟩,h.o19.fr f (by simp),h.o20.fr f (by simp),h.o21.fr f (by simp),h.ok⟩
theorem TMissionO.put3{B o:Nat}{χ:Nat→Col}{w w2:World}{A:TMissionA}{x:TMission}(h:TMissionO B χ o w A x){a:Option Addr}{c:Nat}{l:List ByteArray}(f:Fr B χ (·=(o+3,0)) w w2)(k:OwnC B χ (o+3,0) w2 a c l):TMissionO B χ o w2 { A with a3:=a,c3:=c } { x with Ground.Offers:=l } :=
 ⟨h.o0.fr f (by simp),h.o1.fr f (by simp),h.o2.fr f (by simp),k,h.o4.fr f (by simp),h.o5.fr f (by simp),h.o6.fr f (by simp),h.o7.elim fun r hr=>⟨r,hr.1,hr.2.fr f (by simp)⟩,h.o8.fr f (by simp),h.o9.fr f (by simp),h.o10.fr f (by simp),h.o11.fr f (by simp),h.o12.fr f (by simp),h.o13.fr f (by simp),h.o14.fr f (by simp),h.o15.fr f (by simp),h.o16.fr f (by simp),h.o17.fr f (by simp),h.o18.elim fun r hr=>⟨r,hr.1,hr.2.fr f (by simp)⟩,h.o19.fr f (by simp),h.o20.fr f (by simp),h.o21.fr f (by simp),h.ok⟩
theorem TMissionO.put20{B o:Nat}{χ:Nat→Col}{w w2:World}{A:TMissionA}{x:TMission}(h:TMissionO B χ o w A x){a:Option Addr}{c:Nat}{l:List ByteArray}(f:Fr B χ (·=(o+20,0)) w w2)(k:OwnC B χ (o+20,0) w2 a c l):TMissionO B χ o w2 { A with a20:=a,c20:=c } { x with Offered:=l } :=
 ⟨h.o0.fr f (by simp),h.o1.fr f (by simp),h.o2.fr f (by simp),h.o3.fr f (by simp),h.o4.fr f (by simp),h.o5.fr f (by simp),h.o6.fr f (by simp),h.o7.elim fun r hr=>⟨r,hr.1,hr.2.fr f (by simp)⟩,h.o8.fr f (by simp),h.o9.fr f (by simp),h.o10.fr f (by simp),h.o11.fr f (by simp),h.o12.fr f (by simp),h.o13.fr f (by simp),h.o14.fr f (by simp),h.o15.fr f (by simp),h.o16.fr f (by simp),h.o17.fr f (by simp),h.o18.elim fun r hr=>⟨r,hr.1,hr.2.fr f (by simp)⟩,h.o19.fr f (by simp),k,h.o21.fr f (by simp),h.ok⟩
