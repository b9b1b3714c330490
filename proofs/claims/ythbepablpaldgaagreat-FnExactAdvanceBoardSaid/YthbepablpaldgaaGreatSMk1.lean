/- Marks in slices of flat elements of a colour. No condition but on sizes. -/
import Derived.Test.YthbepablpaldgaaGreatSM26
import Derived.Test.YthbepablpaldgaaGreatSM32
namespace Go.Proofs.YthbepablpaldgaaGreat
set_option maxRecDepth 100000
set_option maxHeartbeats 2000000
set_option linter.unusedVariables false
open Go.ChangeShapes Go.WideShapes Go.ChangeAt Go.RowKit
class MarkF(α:Type)[E:Flat α] where
 one:Int→Nat→α
 good:∀ k i,0≤k→k≤1000000000000→i≤100000000→E.good (one k i)
section
variable {α:Type} [E:Flat α] [M:MarkF α]
def mkL(l:List α)(k:Int):List α:=(List.range l.length).map (M.one k)
theorem mkL_length(l:List α)(k:Int):(mkL l k).length=l.length:=by simp[mkL]
def GivesMk(B:Nat)(χ:Nat→Col)(i:Col)(w:World)(a:Option Addr)(c:Nat)(l:List α)(k:Int):Ending→World→Prop:=fun e w' =>
 e=.returned (.int .i64 (k+l.length*(E.size:Nat)))∧OwnC B χ i w' a c (mkL l k)∧Fr B χ (·=i) w w'
theorem Marks.mk{B n:Nat}{χ:Nat→Col}{i:Col}{w w':World}{a:Option Addr}{c:Nat}{l:List α}{k k2:Int}{e:Ending}(h:OwnC B χ i w a c l)(hm:l.length≤100000000)(h1:0≤k)(h2:k≤1000000000000)(g:Marks E.enc E.ty E.size B w a n c (mkL l k) k2 e w')(hk:k2=k+l.length*(E.size:Nat)):GivesMk B χ i w a c l k e w':=by
 obtain⟨he,hg,ho⟩:=g
 refine⟨by rw[he,hk],⟨ho,h.col,fun x hx=>?_⟩,h.wrote hg⟩
 obtain⟨j,hj,rfl⟩:=List.mem_map.1 hx
 have:=List.mem_range.1 hj
 exact M.good k j h1 h2 (by omega)
end
theorem digs_size:∀ (k:Nat) (acc:ByteArray),(digs k acc).size≤acc.size+k
 | 0,acc=>by rw[digs,dif_pos rfl];omega
 | k+1,acc=>by
  rw[digs,dif_neg (by omega)]
  have:=digs_size ((k+1) / 10) (strOfNums [48+((k+1:Nat):Int) % 10]++acc)
  rw[ByteArray.size_append,show(strOfNums [48+((k+1:Nat):Int) % 10]).size=1 by simp[strOfNums_size]]at this
  omega
termination_by k=>k
decreasing_by omega
theorem markTx_size{k:Int}(h0:0≤k)(h:k≤2000000000000):(markTx k).size≤9223372036854775807:=by
 unfold markTx
 split
 ·decide
 ·have:=digs_size k.toNat ⟨#[]⟩
  rw[ByteArray.size_append]
  have h1:(⟨#[109]⟩:ByteArray).size=1:=rfl
  have h2:(⟨#[]⟩:ByteArray).size=0:=rfl
  omega
theorem mkStr_size(k:Int)(i:Nat)(h0:0≤k)(h1:k≤1000000000000)(h2:i≤100000000):(mkStr k i).size≤9223372036854775807:=markTx_size (by omega) (by omega)
instance MarkF.iInt:MarkF Int where
 one:=mkInt
 good:=fun k i h0 h1 h2=>by show i64 (k+i);unfold i64;omega
theorem o_lmarkIntS{B:Nat}{χ:Nat→Col}{i:Col}{a:Option Addr}{c:Nat}{k:Int}{l:List Int}{w:World}(h:OwnC B χ i w a c l)(hm:l.length≤100000000)(h1:0≤k)(h2:k≤1000000000000) :
  Calls Tryz.prog 238 #[.slice a l.length c,.int .i64 k] w (GivesMk B χ i w a c l k) :=
 (c_lmarkIntS h.own rfl hm h1 h2).mono fun _ _ g=>Marks.mk h hm h1 h2 g (by show _=k+(l.length:Int)*((1:Nat):Int);omega)
theorem o_lheldIntS{B:Nat}{a:Option Addr}{c:Nat}{k:Int}{l:List Int}{w:World}(hs:RdS B w a c (mkL l k))(hm:l.length≤100000000)(h1:0≤k)(h2:k≤1000000000000) :
  Calls Tryz.prog 244 #[.slice a l.length c,.int .i64 k] w (Gives w (.int .i64 (k+l.length*(Enc.size Int:Nat)))) :=
 (c_lheldIntS (c:=c) hs.slF hm h1 h2).mono fun _ _ g=>by have e:(k+l.length*((Enc.size Int:Nat):Int))=k+l.length*((1:Nat):Int):=rfl;rw[e];simpa using g
def mkBoo(k0:Int)(i:Nat):Bool:=decide ((k0+i) % 3=0)
theorem c_lmarkBooS{a:Option Addr}{n c B:Nat}{k0:Int}{l:List Bool}{w:World}(hown0:Own encBoo 4 1 B w a c l)(hn:l.length=n)(hm:n≤100000000)(h1:0≤k0)(h2:k0≤1000000000000) :
  Calls Tryz.prog 151 #[.slice a n c,.int .i64 k0] w (Marks encBoo 4 1 B w a n c ((List.range n).map (mkBoo k0)) (k0+n*1)):=by
 go_enter Tryz.func151,Tryz.ntmps151
 go_wp2_with (fail)
 go_loopw [1,5] (fun u v wr=>∃ j:Nat,v=.int .i64 j∧u=.int .i64 (k0+j*1)∧j≤n∧w.grownBy wr (Value.ownBlock (.slice a n c))∧Own encBoo 4 1 B wr a c (mixed (mkBoo k0) l j)) (fun _ v _=>(n - intOf v).toNat)
 case atStart=>exact⟨0,rfl,by simp,by omega,grownBy_refl _ _,by rw[mixed_zero];exact hown0⟩
 case round =>
  obtain⟨j,rfl,rfl,hj,hgr,hown⟩:=hrel
  by_cases h:j<n
  ·obtain⟨g,rfl,hB,hlt⟩:=hown.open (n:=n) (by rw[mixed_length (by omega)];omega)
   obtain⟨o0,g0⟩:=hown.cells (j:=j) (by rw[mixed_length (by omega)];omega)
   have f0:=hown.free j
   have HG:=lH hgr;clear hgr
   have ht:Int.tmod (k0+j*1) 3=(k0+j) % 3:=by rw[Int.tmod_eq_emod_of_nonneg (by omega)];simp
   go_wp2_with (fail)
   go_roundw
   case rel =>
    have hp:=hown.put1 (j:=j) (y:=mkBoo k0 j) (by rw[mixed_length (by omega)];omega) rfl
    refine⟨j+1,by go_num,by go_num,by omega,?_,?_⟩
    ·exact grownBy_trans HG.out hp.2
    ·rw[← mixed_set (by omega)];exact hp.1
   case measure=>simp[intOf];omega
  ·go_wp2_with (fail)
   go_ret
   obtain rfl:j=n:=by omega
   refine⟨rfl,hgr,?_⟩
   rw[← hn,mixed_all]at hown
   rw[← hn];exact hown
instance MarkF.iBool:MarkF Bool where
 one:=mkBoo
 good:=fun k i h0 h1 h2=>trivial
theorem o_lmarkBoolS{B:Nat}{χ:Nat→Col}{i:Col}{a:Option Addr}{c:Nat}{k:Int}{l:List Bool}{w:World}(h:OwnC B χ i w a c l)(hm:l.length≤100000000)(h1:0≤k)(h2:k≤1000000000000) :
  Calls Tryz.prog 151 #[.slice a l.length c,.int .i64 k] w (GivesMk B χ i w a c l k) :=
 (c_lmarkBooS h.own rfl hm h1 h2).mono fun _ _ g=>Marks.mk h hm h1 h2 g (by show _=k+(l.length:Int)*((1:Nat):Int);omega)
theorem c_lheldBooS{a:Option Addr}{n c:Nat}{k0:Int}{w:World}(hs:RdS 0 w a c ((List.range n).map (mkBoo k0)))(hm:n≤100000000)(h1:0≤k0)(h2:k0≤1000000000000) :
  Calls Tryz.prog 159 #[.slice a n c,.int .i64 k0] w (Gives w (.int .i64 (k0+n*1))):=by
 go_enter Tryz.func159,Tryz.ntmps159
 go_wp2_with (fail)
 go_loopw [1,5] (fun u v wr=>∃ j:Nat,v=.int .i64 j∧u=.int .i64 (k0+j*1)∧j≤n∧∃ x:Later w,wr=x.w) (fun _ v _=>(n - intOf v).toNat)
 case atStart=>exact⟨0,rfl,by simp,by omega,Later.of⟩
 case round =>
  obtain⟨j,rfl,rfl,hj,x0,rfl⟩:=hrel
  by_cases h:j<n
  ·obtain⟨b,off,x,rfl,hb,hd,e0⟩:=hs.atBool (k:=j) (by simpa using h)
   have hx:x=decide ((k0+j) % 3=0):=by
    have:=congrArg (fun m=>m[0]?) hd.out
    simp[h]at this
    rw[← this];rfl
   have ht:Int.tmod (k0+j*1) 3=(k0+j) % 3:=by rw[Int.tmod_eq_emod_of_nonneg (by omega)];simp
   have ht2:Int.tmod (k0+j) 3=(k0+j) % 3:=by rw[Int.tmod_eq_emod_of_nonneg (by omega)]
   by_cases h3:(k0+j) % 3=0
   ·have hx2:x=true:=by rw[hx];simpa using h3
    clear hx;subst hx2
    go_wp2_with (fail)
    go_roundw
    case rel=>exact⟨j+1,by go_num,by go_num,by omega,Later.of⟩
    case measure=>simp[intOf];omega
   ·have hx2:x=false:=by rw[hx];simpa using h3
    clear hx;subst hx2
    go_wp2_with (fail)
    go_roundw
    case rel=>exact⟨j+1,by go_num,by go_num,by omega,Later.of⟩
    case measure=>simp[intOf];omega
  ·go_wp2_with (fail)
   go_ret
   obtain rfl:j=n:=by omega
   exact Gives.mk rfl
theorem o_lheldBoolS{B:Nat}{a:Option Addr}{c:Nat}{k:Int}{l:List Bool}{w:World}(hs:RdS B w a c (mkL l k))(hm:l.length≤100000000)(h1:0≤k)(h2:k≤1000000000000) :
  Calls Tryz.prog 159 #[.slice a l.length c,.int .i64 k] w (Gives w (.int .i64 (k+l.length*(Enc.size Bool:Nat)))) :=
 (c_lheldBooS (c:=c) (hs.mono (Nat.zero_le _)) hm h1 h2).mono fun _ _ g=>by have e:(k+l.length*((Enc.size Bool:Nat):Int))=k+l.length*((1:Nat):Int):=rfl;rw[e];simpa using g
instance MarkF.iByteArray:MarkF ByteArray where
 one:=mkStr
 good:=fun k i h0 h1 h2=>mkStr_size _ _ h0 h1 h2
theorem o_lmarkStringS{B:Nat}{χ:Nat→Col}{i:Col}{a:Option Addr}{c:Nat}{k:Int}{l:List ByteArray}{w:World}(h:OwnC B χ i w a c l)(hm:l.length≤100000000)(h1:0≤k)(h2:k≤1000000000000) :
  Calls Tryz.prog 49 #[.slice a l.length c,.int .i64 k] w (GivesMk B χ i w a c l k) :=
 (c_lmarkStringS h.own rfl hm h1 h2).mono fun _ _ g=>Marks.mk h hm h1 h2 g (by show _=k+(l.length:Int)*((1:Nat):Int);omega)
theorem o_lheldStringS{B:Nat}{a:Option Addr}{c:Nat}{k:Int}{l:List ByteArray}{w:World}(hs:RdS B w a c (mkL l k))(hm:l.length≤100000000)(h1:0≤k)(h2:k≤1000000000000) :
  Calls Tryz.prog 54 #[.slice a l.length c,.int .i64 k] w (Gives w (.int .i64 (k+l.length*(Enc.size ByteArray:Nat)))) :=
 (c_lheldStringS (c:=c) hs.slF hm h1 h2).mono fun _ _ g=>by have e:(k+l.length*((Enc.size ByteArray:Nat):Int))=k+l.length*((1:Nat):Int):=rfl;rw[e];simpa using g
instance MarkF.iSlot:MarkF Slot where
 one:=mkSlot
 good:=fun k i h0 h1 h2=>by
  show okDSlot (mkSlot k i)
  refine⟨?_,?_,trivial⟩<;>first|(unfold i64 mkSlot;dsimp only;omega)|(unfold mkSlot;dsimp only;exact markTx_size (by omega) (by omega))
theorem o_lmarkSlotS{B:Nat}{χ:Nat→Col}{i:Col}{a:Option Addr}{c:Nat}{k:Int}{l:List Slot}{w:World}(h:OwnC B χ i w a c l)(hm:l.length≤100000000)(h1:0≤k)(h2:k≤1000000000000) :
  Calls Tryz.prog 45 #[.slice a l.length c,.int .i64 k] w (GivesMk B χ i w a c l k) :=
 (c_lmarkSlotS h.own rfl hm h1 h2).mono fun _ _ g=>Marks.mk h hm h1 h2 g (by show _=k+(l.length:Int)*((2:Nat):Int);omega)
theorem o_lheldSlotS{B:Nat}{a:Option Addr}{c:Nat}{k:Int}{l:List Slot}{w:World}(hs:RdS B w a c (mkL l k))(hm:l.length≤100000000)(h1:0≤k)(h2:k≤1000000000000) :
  Calls Tryz.prog 50 #[.slice a l.length c,.int .i64 k] w (Gives w (.int .i64 (k+l.length*(Enc.size Slot:Nat)))) :=
 (c_lheldSlotS (c:=c) hs.slF hm h1 h2).mono fun _ _ g=>by have e:(k+l.length*((Enc.size Slot:Nat):Int))=k+l.length*((2:Nat):Int):=rfl;rw[e];simpa using g
instance MarkF.iPair:MarkF Pair where
 one:=mkPair
 good:=fun k i h0 h1 h2=>by
  show okDPair (mkPair k i)
  refine⟨?_,?_,trivial⟩<;>first|(unfold i64 mkPair;dsimp only;omega)|(unfold mkPair;dsimp only;exact markTx_size (by omega) (by omega))
theorem o_lmarkPairS{B:Nat}{χ:Nat→Col}{i:Col}{a:Option Addr}{c:Nat}{k:Int}{l:List Pair}{w:World}(h:OwnC B χ i w a c l)(hm:l.length≤100000000)(h1:0≤k)(h2:k≤1000000000000) :
  Calls Tryz.prog 148 #[.slice a l.length c,.int .i64 k] w (GivesMk B χ i w a c l k) :=
 (c_lmarkPairS h.own rfl hm h1 h2).mono fun _ _ g=>Marks.mk h hm h1 h2 g (by show _=k+(l.length:Int)*((2:Nat):Int);omega)
theorem o_lheldPairS{B:Nat}{a:Option Addr}{c:Nat}{k:Int}{l:List Pair}{w:World}(hs:RdS B w a c (mkL l k))(hm:l.length≤100000000)(h1:0≤k)(h2:k≤1000000000000) :
  Calls Tryz.prog 156 #[.slice a l.length c,.int .i64 k] w (Gives w (.int .i64 (k+l.length*(Enc.size Pair:Nat)))) :=
 (c_lheldPairS (c:=c) hs.slF hm h1 h2).mono fun _ _ g=>by have e:(k+l.length*((Enc.size Pair:Nat):Int))=k+l.length*((2:Nat):Int):=rfl;rw[e];simpa using g
instance MarkF.iTFlight:MarkF TFlight where
 one:=mkTFlight
 good:=fun k i h0 h1 h2=>by
  show okDTFlight (mkTFlight k i)
  refine⟨?_,?_,trivial⟩<;>first|(unfold i64 mkTFlight;dsimp only;omega)|(unfold mkTFlight;dsimp only;exact markTx_size (by omega) (by omega))
theorem o_lmarkFlightS{B:Nat}{χ:Nat→Col}{i:Col}{a:Option Addr}{c:Nat}{k:Int}{l:List TFlight}{w:World}(h:OwnC B χ i w a c l)(hm:l.length≤100000000)(h1:0≤k)(h2:k≤1000000000000) :
  Calls Tryz.prog 46 #[.slice a l.length c,.int .i64 k] w (GivesMk B χ i w a c l k) :=
 (c_lmarkTFlightS h.own rfl hm h1 h2).mono fun _ _ g=>Marks.mk h hm h1 h2 g (by show _=k+(l.length:Int)*((2:Nat):Int);omega)
theorem o_lheldFlightS{B:Nat}{a:Option Addr}{c:Nat}{k:Int}{l:List TFlight}{w:World}(hs:RdS B w a c (mkL l k))(hm:l.length≤100000000)(h1:0≤k)(h2:k≤1000000000000) :
  Calls Tryz.prog 51 #[.slice a l.length c,.int .i64 k] w (Gives w (.int .i64 (k+l.length*(Enc.size TFlight:Nat)))) :=
 (c_lheldTFlightS (c:=c) hs.slF hm h1 h2).mono fun _ _ g=>by have e:(k+l.length*((Enc.size TFlight:Nat):Int))=k+l.length*((2:Nat):Int):=rfl;rw[e];simpa using g
instance MarkF.iTRecord:MarkF TRecord where
 one:=mkTRecord
 good:=fun k i h0 h1 h2=>by
  show okDTRecord (mkTRecord k i)
  refine⟨?_,?_,?_,?_,trivial⟩<;>first|(unfold i64 mkTRecord;dsimp only;omega)|(unfold mkTRecord;dsimp only;exact markTx_size (by omega) (by omega))
theorem o_lmarkRecordS{B:Nat}{χ:Nat→Col}{i:Col}{a:Option Addr}{c:Nat}{k:Int}{l:List TRecord}{w:World}(h:OwnC B χ i w a c l)(hm:l.length≤100000000)(h1:0≤k)(h2:k≤1000000000000) :
  Calls Tryz.prog 149 #[.slice a l.length c,.int .i64 k] w (GivesMk B χ i w a c l k) :=
 (c_lmarkTRecordS h.own rfl hm h1 h2).mono fun _ _ g=>Marks.mk h hm h1 h2 g (by show _=k+(l.length:Int)*((4:Nat):Int);omega)
theorem o_lheldRecordS{B:Nat}{a:Option Addr}{c:Nat}{k:Int}{l:List TRecord}{w:World}(hs:RdS B w a c (mkL l k))(hm:l.length≤100000000)(h1:0≤k)(h2:k≤1000000000000) :
  Calls Tryz.prog 157 #[.slice a l.length c,.int .i64 k] w (Gives w (.int .i64 (k+l.length*(Enc.size TRecord:Nat)))) :=
 (c_lheldTRecordS (c:=c) hs.slF hm h1 h2).mono fun _ _ g=>by have e:(k+l.length*((Enc.size TRecord:Nat):Int))=k+l.length*((4:Nat):Int):=rfl;rw[e];simpa using g
instance MarkF.iTWaiting:MarkF TWaiting where
 one:=mkTWaiting
 good:=fun k i h0 h1 h2=>by
  show okDTWaiting (mkTWaiting k i)
  refine⟨?_,⟨?_,?_,?_,?_,trivial⟩,trivial⟩<;>first|(unfold i64 mkTWaiting;dsimp only;omega)|(unfold mkTWaiting;dsimp only;exact markTx_size (by omega) (by omega))
theorem o_lmarkWaitingS{B:Nat}{χ:Nat→Col}{i:Col}{a:Option Addr}{c:Nat}{k:Int}{l:List TWaiting}{w:World}(h:OwnC B χ i w a c l)(hm:l.length≤100000000)(h1:0≤k)(h2:k≤1000000000000) :
  Calls Tryz.prog 240 #[.slice a l.length c,.int .i64 k] w (GivesMk B χ i w a c l k) :=
 (c_lmarkTWaitingS h.own rfl hm h1 h2).mono fun _ _ g=>Marks.mk h hm h1 h2 g (by show _=k+(l.length:Int)*((5:Nat):Int);omega)
theorem o_lheldWaitingS{B:Nat}{a:Option Addr}{c:Nat}{k:Int}{l:List TWaiting}{w:World}(hs:RdS B w a c (mkL l k))(hm:l.length≤100000000)(h1:0≤k)(h2:k≤1000000000000) :
  Calls Tryz.prog 246 #[.slice a l.length c,.int .i64 k] w (Gives w (.int .i64 (k+l.length*(Enc.size TWaiting:Nat)))) :=
 (c_lheldTWaitingS (c:=c) hs.slF hm h1 h2).mono fun _ _ g=>by have e:(k+l.length*((Enc.size TWaiting:Nat):Int))=k+l.length*((5:Nat):Int):=rfl;rw[e];simpa using g
instance MarkF.iTLimit:MarkF TLimit where
 one:=mkTLimit
 good:=fun k i h0 h1 h2=>by
  show okDTLimit (mkTLimit k i)
  refine⟨?_,?_,?_,trivial⟩<;>first|(unfold i64 mkTLimit;dsimp only;omega)|(unfold mkTLimit;dsimp only;exact markTx_size (by omega) (by omega))
theorem o_lmarkLimitS{B:Nat}{χ:Nat→Col}{i:Col}{a:Option Addr}{c:Nat}{k:Int}{l:List TLimit}{w:World}(h:OwnC B χ i w a c l)(hm:l.length≤100000000)(h1:0≤k)(h2:k≤1000000000000) :
  Calls Tryz.prog 239 #[.slice a l.length c,.int .i64 k] w (GivesMk B χ i w a c l k) :=
 (c_lmarkTLimitS h.own rfl hm h1 h2).mono fun _ _ g=>Marks.mk h hm h1 h2 g (by show _=k+(l.length:Int)*((3:Nat):Int);omega)
theorem o_lheldLimitS{B:Nat}{a:Option Addr}{c:Nat}{k:Int}{l:List TLimit}{w:World}(hs:RdS B w a c (mkL l k))(hm:l.length≤100000000)(h1:0≤k)(h2:k≤1000000000000) :
  Calls Tryz.prog 245 #[.slice a l.length c,.int .i64 k] w (Gives w (.int .i64 (k+l.length*(Enc.size TLimit:Nat)))) :=
 (c_lheldTLimitS (c:=c) hs.slF hm h1 h2).mono fun _ _ g=>by have e:(k+l.length*((Enc.size TLimit:Nat):Int))=k+l.length*((3:Nat):Int):=rfl;rw[e];simpa using g
instance MarkF.iTDone:MarkF TDone where
 one:=mkTDone
 good:=fun k i h0 h1 h2=>by
  show okDTDone (mkTDone k i)
  refine⟨?_,?_,?_,trivial⟩<;>first|(unfold i64 mkTDone;dsimp only;omega)|(unfold mkTDone;dsimp only;exact markTx_size (by omega) (by omega))
theorem o_lmarkDoneS{B:Nat}{χ:Nat→Col}{i:Col}{a:Option Addr}{c:Nat}{k:Int}{l:List TDone}{w:World}(h:OwnC B χ i w a c l)(hm:l.length≤100000000)(h1:0≤k)(h2:k≤1000000000000) :
  Calls Tryz.prog 241 #[.slice a l.length c,.int .i64 k] w (GivesMk B χ i w a c l k) :=
 (c_lmarkTDoneS h.own rfl hm h1 h2).mono fun _ _ g=>Marks.mk h hm h1 h2 g (by show _=k+(l.length:Int)*((3:Nat):Int);omega)
theorem o_lheldDoneS{B:Nat}{a:Option Addr}{c:Nat}{k:Int}{l:List TDone}{w:World}(hs:RdS B w a c (mkL l k))(hm:l.length≤100000000)(h1:0≤k)(h2:k≤1000000000000) :
  Calls Tryz.prog 247 #[.slice a l.length c,.int .i64 k] w (Gives w (.int .i64 (k+l.length*(Enc.size TDone:Nat)))) :=
 (c_lheldTDoneS (c:=c) hs.slF hm h1 h2).mono fun _ _ g=>by have e:(k+l.length*((Enc.size TDone:Nat):Int))=k+l.length*((3:Nat):Int):=rfl;rw[e];simpa using g
instance MarkF.iTSent:MarkF TSent where
 one:=mkTSent
 good:=fun k i h0 h1 h2=>by
  show okDTSent (mkTSent k i)
  refine⟨?_,?_,trivial⟩<;>first|(unfold i64 mkTSent;dsimp only;omega)|(unfold mkTSent;dsimp only;exact markTx_size (by omega) (by omega))
theorem o_lmarkSentS{B:Nat}{χ:Nat→Col}{i:Col}{a:Option Addr}{c:Nat}{k:Int}{l:List TSent}{w:World}(h:OwnC B χ i w a c l)(hm:l.length≤100000000)(h1:0≤k)(h2:k≤1000000000000) :
  Calls Tryz.prog 237 #[.slice a l.length c,.int .i64 k] w (GivesMk B χ i w a c l k) :=
 (c_lmarkTSentS h.own rfl hm h1 h2).mono fun _ _ g=>Marks.mk h hm h1 h2 g (by show _=k+(l.length:Int)*((2:Nat):Int);omega)
theorem o_lheldSentS{B:Nat}{a:Option Addr}{c:Nat}{k:Int}{l:List TSent}{w:World}(hs:RdS B w a c (mkL l k))(hm:l.length≤100000000)(h1:0≤k)(h2:k≤1000000000000) :
  Calls Tryz.prog 243 #[.slice a l.length c,.int .i64 k] w (Gives w (.int .i64 (k+l.length*(Enc.size TSent:Nat)))) :=
 (c_lheldTSentS (c:=c) hs.slF hm h1 h2).mono fun _ _ g=>by have e:(k+l.length*((Enc.size TSent:Nat):Int))=k+l.length*((2:Nat):Int):=rfl;rw[e];simpa using g
