/- Marks in slices of flat elements of a colour. No condition but on lengths and numbers. Marks in slices of files: the outer cells, then the slice within. No condition but on lengths and numbers. -/
import Derived.Test.YtbaffippdifbpaaGreatWOwnM
import Derived.Test.YtbaffippdifbpaaGreatWLto3
namespace Go.Proofs.YtbaffippdifbpaaGreat
set_option linter.unusedVariables false
open Go.ChangeShapes Go.WideShapes Go.ChangeAt Go.RowKit
class MarkF(α:Type)[E:Flat α] where
 one:Int→Nat→α
 good:∀ k i,0≤k→k≤1000000000000→i≤100000000→E.good (one k i)
section
variable {α:Type} [E:Flat α] [M:MarkF α]
def mkL(l:List α)(k:Int):List α:=(List.range l.length).map (M.one k)
theorem mkL_length(l:List α)(k:Int):(mkL l k).length=l.length:=by simp[mkL]
def GivesMk(B:Nat)(χ:Nat→Col)(i:Col)(w:World)(a:Option Addr)(c:Nat)(l:List α)(k:Int):Ending→World→Prop:=fun e w' =>
 e=.returned (.int .i64 (k+l.length*(E.size:Nat)))∧OwnC B χ i w' a c (mkL l k)∧Fr B χ (·=i) w w'
theorem Marks.mk{B n:Nat}{χ:Nat→Col}{i:Col}{w w':World}{a:Option Addr}{c:Nat}{l:List α}{k k2:Int}{e:Ending}(h:OwnC B χ i w a c l)(hm:l.length≤100000000)(h1:0≤k)(h2:k≤1000000000000)(g:Marks E.enc E.ty E.size B w a n c (mkL l k) k2 e w')(hk:k2=k+l.length*(E.size:Nat)):GivesMk B χ i w a c l k e w':=by
 obtain⟨he,hg,ho⟩:=g
 refine⟨by rw[he,hk],⟨ho,h.col,fun x hx=>?_⟩,h.wrote hg⟩
 obtain⟨j,hj,rfl⟩:=List.mem_map.1 hx
 have:=List.mem_range.1 hj
 exact M.good k j h1 h2 (by omega)
end
theorem digs_size:∀ (k:Nat) (acc:ByteArray),(digs k acc).size≤acc.size+k
 | 0,acc=>by rw[digs,dif_pos rfl];omega
 | k+1,acc=>by
  rw[digs,dif_neg (by omega)]
  have:=digs_size ((k+1) / 10) (strOfNums [48+((k+1:Nat):Int) % 10]++acc)
  rw[ByteArray.size_append,show(strOfNums [48+((k+1:Nat):Int) % 10]).size=1 by simp[strOfNums_size]]at this
  omega
termination_by k=>k
decreasing_by omega
theorem markTx_size{k:Int}(h0:0≤k)(h:k≤2000000000000):(markTx k).size≤9223372036854775807:=by
 unfold markTx
 split
 ·decide
 ·have:=digs_size k.toNat ⟨#[]⟩
  rw[ByteArray.size_append]
  have h1:(⟨#[109]⟩:ByteArray).size=1:=rfl
  have h2:(⟨#[]⟩:ByteArray).size=0:=rfl
  omega
theorem mkStr_size(k:Int)(i:Nat)(h0:0≤k)(h1:k≤1000000000000)(h2:i≤100000000):(mkStr k i).size≤9223372036854775807:=markTx_size (by omega) (by omega)
instance MarkF.iInt:MarkF Int where
 one:=mkInt
 good:=fun k i h0 h1 h2=>by show i64 (k+i);unfold i64;omega
theorem o_lmarkIntS{B:Nat}{χ:Nat→Col}{i:Col}{a:Option Addr}{c:Nat}{k:Int}{l:List Int}{w:World}(h:OwnC B χ i w a c l)(hm:l.length≤100000000)(h1:0≤k)(h2:k≤1000000000000) :
  Calls Tryz.prog 263 #[.slice a l.length c,.int .i64 k] w (GivesMk B χ i w a c l k) :=
 (c_lmarkIntS h.own rfl hm h1 h2).mono fun _ _ g=>Marks.mk h hm h1 h2 g (by show _=k+(l.length:Int)*((1:Nat):Int);omega)
theorem o_lheldIntS{B:Nat}{a:Option Addr}{c:Nat}{k:Int}{l:List Int}{w:World}(hs:RdS B w a c (mkL l k))(hm:l.length≤100000000)(h1:0≤k)(h2:k≤1000000000000) :
  Calls Tryz.prog 268 #[.slice a l.length c,.int .i64 k] w (Gives w (.int .i64 (k+l.length*(Enc.size Int:Nat)))) :=
 (c_lheldIntS (c:=c) hs.slF hm h1 h2).mono fun _ _ g=>by have e:(k+l.length*((Enc.size Int:Nat):Int))=k+l.length*((1:Nat):Int):=rfl;rw[e];simpa using g
def mkBoo(k0:Int)(i:Nat):Bool:=decide ((k0+i) % 3=0)
set_option maxRecDepth 100000 in
set_option maxHeartbeats 2000000 in
theorem c_lmarkBooS{a:Option Addr}{n c B:Nat}{k0:Int}{l:List Bool}{w:World}(hown0:Own encBoo 4 1 B w a c l)(hn:l.length=n)(hm:n≤100000000)(h1:0≤k0)(h2:k0≤1000000000000) :
  Calls Tryz.prog 175 #[.slice a n c,.int .i64 k0] w (Marks encBoo 4 1 B w a n c ((List.range n).map (mkBoo k0)) (k0+n*1)):=by
 go_enter Tryz.func175,Tryz.ntmps175
 go_wp2_with fail
 go_loopw [1,5] (fun u v wr=>∃ j:Nat,v=.int .i64 j∧u=.int .i64 (k0+j*1)∧j≤n∧w.grownBy wr (Value.ownBlock (.slice a n c))∧Own encBoo 4 1 B wr a c (mixed (mkBoo k0) l j)) (fun _ v _=>(n - intOf v).toNat)
 case atStart=>exact⟨0,rfl,by simp,by omega,grownBy_refl _ _,by rw[mixed_zero];exact hown0⟩
 case round =>
  obtain⟨j,rfl,rfl,hj,hgr,hown⟩:=hrel
  by_cases h:j<n
  ·obtain⟨g,rfl,hB,hlt⟩:=hown.open (n:=n) (by rw[mixed_length (by omega)];omega)
   obtain⟨o0,g0⟩:=hown.cells (j:=j) (by rw[mixed_length (by omega)];omega)
   have f0:=hown.free j
   have HG:=lH hgr;clear hgr
   have ht:Int.tmod (k0+j*1) 3=(k0+j) % 3:=by rw[Int.tmod_eq_emod_of_nonneg (by omega)];simp
   go_wp2_with (first|((with_reducible refine wp_region_later (by kernel_rfl) (by kernel_rfl) ?_);(repeat(first|go_big_quiet_step (first|fail)|simp only[ht]));refine wpQuiet_nil ?_;rintro _ ⟨x,rfl⟩))
   go_roundw
   case rel =>
    have hp:=hown.put1 (j:=j) (y:=mkBoo k0 j) (by rw[mixed_length (by omega)];omega) rfl
    refine⟨j+1,by go_num,by go_num,by omega,?_,?_⟩
    ·exact grownBy_trans HG.out hp.2
    ·rw[← mixed_set (by omega)];exact hp.1
   case measure=>simp[intOf];omega
  ·go_wp2_with fail
   go_ret
   obtain rfl:j=n:=by omega
   refine⟨rfl,hgr,?_⟩
   rw[← hn,mixed_all]at hown
   rw[← hn];exact hown
instance MarkF.iBool:MarkF Bool where
 one:=mkBoo
 good:=fun k i h0 h1 h2=>trivial
theorem o_lmarkBoolS{B:Nat}{χ:Nat→Col}{i:Col}{a:Option Addr}{c:Nat}{k:Int}{l:List Bool}{w:World}(h:OwnC B χ i w a c l)(hm:l.length≤100000000)(h1:0≤k)(h2:k≤1000000000000) :
  Calls Tryz.prog 175 #[.slice a l.length c,.int .i64 k] w (GivesMk B χ i w a c l k) :=
 (c_lmarkBooS h.own rfl hm h1 h2).mono fun _ _ g=>Marks.mk h hm h1 h2 g (by show _=k+(l.length:Int)*((1:Nat):Int);omega)
set_option maxRecDepth 100000 in
set_option maxHeartbeats 2000000 in
theorem c_lheldBooS{a:Option Addr}{n c:Nat}{k0:Int}{w:World}(hs:RdS 0 w a c ((List.range n).map (mkBoo k0)))(hm:n≤100000000)(h1:0≤k0)(h2:k0≤1000000000000) :
  Calls Tryz.prog 183 #[.slice a n c,.int .i64 k0] w (Gives w (.int .i64 (k0+n*1))):=by
 go_enter Tryz.func183,Tryz.ntmps183
 go_wp2_with fail
 go_loopw [1,5] (fun u v wr=>∃ j:Nat,v=.int .i64 j∧u=.int .i64 (k0+j*1)∧j≤n∧∃ x:Later w,wr=x.w) (fun _ v _=>(n - intOf v).toNat)
 case atStart=>exact⟨0,rfl,by simp,by omega,Later.of⟩
 case round =>
  obtain⟨j,rfl,rfl,hj,x0,rfl⟩:=hrel
  by_cases h:j<n
  ·obtain⟨b,off,x,rfl,hb,hd,e0⟩:=hs.atBool (k:=j) (by simpa using h)
   have hx:x=decide ((k0+j) % 3=0):=by
    have:=congrArg (fun m=>m[0]?) hd.out
    simp[h]at this
    rw[← this];rfl
   have ht:Int.tmod (k0+j*1) 3=(k0+j) % 3:=by rw[Int.tmod_eq_emod_of_nonneg (by omega)];simp
   have ht2:Int.tmod (k0+j) 3=(k0+j) % 3:=by rw[Int.tmod_eq_emod_of_nonneg (by omega)]
   by_cases h3:(k0+j) % 3=0
   ·have hx2:x=true:=by rw[hx];simpa using h3
    clear hx;subst hx2
    go_wp2_with (first|((with_reducible refine wp_region_later (by kernel_rfl) (by kernel_rfl) ?_);(repeat(first|go_big_quiet_step (first|fail)|simp only[ht]|simp only[ht2]|simp only[h3]));refine wpQuiet_nil ?_;rintro _ ⟨x,rfl⟩))
    go_roundw
    case rel=>exact⟨j+1,by go_num,by go_num,by omega,Later.of⟩
    case measure=>simp[intOf];omega
   ·have hx2:x=false:=by rw[hx];simpa using h3
    clear hx;subst hx2
    go_wp2_with (first|((with_reducible refine wp_region_later (by kernel_rfl) (by kernel_rfl) ?_);(repeat(first|go_big_quiet_step (first|fail)|simp only[ht]|simp only[ht2]|simp only[h3]));refine wpQuiet_nil ?_;rintro _ ⟨x,rfl⟩))
    go_roundw
    case rel=>exact⟨j+1,by go_num,by go_num,by omega,Later.of⟩
    case measure=>simp[intOf];omega
  ·go_wp2_with fail
   go_ret
   obtain rfl:j=n:=by omega
   exact Gives.mk rfl
theorem o_lheldBoolS{B:Nat}{a:Option Addr}{c:Nat}{k:Int}{l:List Bool}{w:World}(hs:RdS B w a c (mkL l k))(hm:l.length≤100000000)(h1:0≤k)(h2:k≤1000000000000) :
  Calls Tryz.prog 183 #[.slice a l.length c,.int .i64 k] w (Gives w (.int .i64 (k+l.length*(Enc.size Bool:Nat)))) :=
 (c_lheldBooS (c:=c) (hs.mono (Nat.zero_le _)) hm h1 h2).mono fun _ _ g=>by have e:(k+l.length*((Enc.size Bool:Nat):Int))=k+l.length*((1:Nat):Int):=rfl;rw[e];simpa using g
instance MarkF.iByteArray:MarkF ByteArray where
 one:=mkStr
 good:=fun k i h0 h1 h2=>mkStr_size _ _ h0 h1 h2
theorem o_lmarkStringS{B:Nat}{χ:Nat→Col}{i:Col}{a:Option Addr}{c:Nat}{k:Int}{l:List ByteArray}{w:World}(h:OwnC B χ i w a c l)(hm:l.length≤100000000)(h1:0≤k)(h2:k≤1000000000000) :
  Calls Tryz.prog 30 #[.slice a l.length c,.int .i64 k] w (GivesMk B χ i w a c l k) :=
 (c_lmarkStringS h.own rfl hm h1 h2).mono fun _ _ g=>Marks.mk h hm h1 h2 g (by show _=k+(l.length:Int)*((1:Nat):Int);omega)
theorem o_lheldStringS{B:Nat}{a:Option Addr}{c:Nat}{k:Int}{l:List ByteArray}{w:World}(hs:RdS B w a c (mkL l k))(hm:l.length≤100000000)(h1:0≤k)(h2:k≤1000000000000) :
  Calls Tryz.prog 88 #[.slice a l.length c,.int .i64 k] w (Gives w (.int .i64 (k+l.length*(Enc.size ByteArray:Nat)))) :=
 (c_lheldStringS (c:=c) hs.slF hm h1 h2).mono fun _ _ g=>by have e:(k+l.length*((Enc.size ByteArray:Nat):Int))=k+l.length*((1:Nat):Int):=rfl;rw[e];simpa using g
instance MarkF.iSlot:MarkF Slot where
 one:=mkSlot
 good:=fun k i h0 h1 h2=>by
  show okDSlot (mkSlot k i)
  refine⟨?_,?_,trivial⟩<;>first|(unfold i64 mkSlot;dsimp only;omega)|(unfold mkSlot;dsimp only;exact markTx_size (by omega) (by omega))
theorem o_lmarkSlotS{B:Nat}{χ:Nat→Col}{i:Col}{a:Option Addr}{c:Nat}{k:Int}{l:List Slot}{w:World}(h:OwnC B χ i w a c l)(hm:l.length≤100000000)(h1:0≤k)(h2:k≤1000000000000) :
  Calls Tryz.prog 80 #[.slice a l.length c,.int .i64 k] w (GivesMk B χ i w a c l k) :=
 (c_lmarkSlotS h.own rfl hm h1 h2).mono fun _ _ g=>Marks.mk h hm h1 h2 g (by show _=k+(l.length:Int)*((2:Nat):Int);omega)
theorem o_lheldSlotS{B:Nat}{a:Option Addr}{c:Nat}{k:Int}{l:List Slot}{w:World}(hs:RdS B w a c (mkL l k))(hm:l.length≤100000000)(h1:0≤k)(h2:k≤1000000000000) :
  Calls Tryz.prog 84 #[.slice a l.length c,.int .i64 k] w (Gives w (.int .i64 (k+l.length*(Enc.size Slot:Nat)))) :=
 (c_lheldSlotS (c:=c) hs.slF hm h1 h2).mono fun _ _ g=>by have e:(k+l.length*((Enc.size Slot:Nat):Int))=k+l.length*((2:Nat):Int):=rfl;rw[e];simpa using g
instance MarkF.iPair:MarkF Pair where
 one:=mkPair
 good:=fun k i h0 h1 h2=>by
  show okDPair (mkPair k i)
  refine⟨?_,?_,trivial⟩<;>first|(unfold i64 mkPair;dsimp only;omega)|(unfold mkPair;dsimp only;exact markTx_size (by omega) (by omega))
theorem o_lmarkPairS{B:Nat}{χ:Nat→Col}{i:Col}{a:Option Addr}{c:Nat}{k:Int}{l:List Pair}{w:World}(h:OwnC B χ i w a c l)(hm:l.length≤100000000)(h1:0≤k)(h2:k≤1000000000000) :
  Calls Tryz.prog 172 #[.slice a l.length c,.int .i64 k] w (GivesMk B χ i w a c l k) :=
 (c_lmarkPairS h.own rfl hm h1 h2).mono fun _ _ g=>Marks.mk h hm h1 h2 g (by show _=k+(l.length:Int)*((2:Nat):Int);omega)
theorem o_lheldPairS{B:Nat}{a:Option Addr}{c:Nat}{k:Int}{l:List Pair}{w:World}(hs:RdS B w a c (mkL l k))(hm:l.length≤100000000)(h1:0≤k)(h2:k≤1000000000000) :
  Calls Tryz.prog 180 #[.slice a l.length c,.int .i64 k] w (Gives w (.int .i64 (k+l.length*(Enc.size Pair:Nat)))) :=
 (c_lheldPairS (c:=c) hs.slF hm h1 h2).mono fun _ _ g=>by have e:(k+l.length*((Enc.size Pair:Nat):Int))=k+l.length*((2:Nat):Int):=rfl;rw[e];simpa using g
instance MarkF.iTFlight:MarkF TFlight where
 one:=mkTFlight
 good:=fun k i h0 h1 h2=>by
  show okDTFlight (mkTFlight k i)
  refine⟨?_,?_,trivial⟩<;>first|(unfold i64 mkTFlight;dsimp only;omega)|(unfold mkTFlight;dsimp only;exact markTx_size (by omega) (by omega))
theorem o_lmarkFlightS{B:Nat}{χ:Nat→Col}{i:Col}{a:Option Addr}{c:Nat}{k:Int}{l:List TFlight}{w:World}(h:OwnC B χ i w a c l)(hm:l.length≤100000000)(h1:0≤k)(h2:k≤1000000000000) :
  Calls Tryz.prog 81 #[.slice a l.length c,.int .i64 k] w (GivesMk B χ i w a c l k) :=
 (c_lmarkTFlightS h.own rfl hm h1 h2).mono fun _ _ g=>Marks.mk h hm h1 h2 g (by show _=k+(l.length:Int)*((2:Nat):Int);omega)
theorem o_lheldFlightS{B:Nat}{a:Option Addr}{c:Nat}{k:Int}{l:List TFlight}{w:World}(hs:RdS B w a c (mkL l k))(hm:l.length≤100000000)(h1:0≤k)(h2:k≤1000000000000) :
  Calls Tryz.prog 85 #[.slice a l.length c,.int .i64 k] w (Gives w (.int .i64 (k+l.length*(Enc.size TFlight:Nat)))) :=
 (c_lheldTFlightS (c:=c) hs.slF hm h1 h2).mono fun _ _ g=>by have e:(k+l.length*((Enc.size TFlight:Nat):Int))=k+l.length*((2:Nat):Int):=rfl;rw[e];simpa using g
instance MarkF.iTRecord:MarkF TRecord where
 one:=mkTRecord
 good:=fun k i h0 h1 h2=>by
  show okDTRecord (mkTRecord k i)
  refine⟨?_,?_,?_,?_,trivial⟩<;>first|(unfold i64 mkTRecord;dsimp only;omega)|(unfold mkTRecord;dsimp only;exact markTx_size (by omega) (by omega))
theorem o_lmarkRecordS{B:Nat}{χ:Nat→Col}{i:Col}{a:Option Addr}{c:Nat}{k:Int}{l:List TRecord}{w:World}(h:OwnC B χ i w a c l)(hm:l.length≤100000000)(h1:0≤k)(h2:k≤1000000000000) :
  Calls Tryz.prog 173 #[.slice a l.length c,.int .i64 k] w (GivesMk B χ i w a c l k) :=
 (c_lmarkTRecordS h.own rfl hm h1 h2).mono fun _ _ g=>Marks.mk h hm h1 h2 g (by show _=k+(l.length:Int)*((4:Nat):Int);omega)
theorem o_lheldRecordS{B:Nat}{a:Option Addr}{c:Nat}{k:Int}{l:List TRecord}{w:World}(hs:RdS B w a c (mkL l k))(hm:l.length≤100000000)(h1:0≤k)(h2:k≤1000000000000) :
  Calls Tryz.prog 181 #[.slice a l.length c,.int .i64 k] w (Gives w (.int .i64 (k+l.length*(Enc.size TRecord:Nat)))) :=
 (c_lheldTRecordS (c:=c) hs.slF hm h1 h2).mono fun _ _ g=>by have e:(k+l.length*((Enc.size TRecord:Nat):Int))=k+l.length*((4:Nat):Int):=rfl;rw[e];simpa using g
instance MarkF.iTWaiting:MarkF TWaiting where
 one:=mkTWaiting
 good:=fun k i h0 h1 h2=>by
  show okDTWaiting (mkTWaiting k i)
  refine⟨?_,⟨?_,?_,?_,?_,trivial⟩,trivial⟩<;>first|(unfold i64 mkTWaiting;dsimp only;omega)|(unfold mkTWaiting;dsimp only;exact markTx_size (by omega) (by omega))
theorem o_lmarkWaitingS{B:Nat}{χ:Nat→Col}{i:Col}{a:Option Addr}{c:Nat}{k:Int}{l:List TWaiting}{w:World}(h:OwnC B χ i w a c l)(hm:l.length≤100000000)(h1:0≤k)(h2:k≤1000000000000) :
  Calls Tryz.prog 264 #[.slice a l.length c,.int .i64 k] w (GivesMk B χ i w a c l k) :=
 (c_lmarkTWaitingS h.own rfl hm h1 h2).mono fun _ _ g=>Marks.mk h hm h1 h2 g (by show _=k+(l.length:Int)*((5:Nat):Int);omega)
theorem o_lheldWaitingS{B:Nat}{a:Option Addr}{c:Nat}{k:Int}{l:List TWaiting}{w:World}(hs:RdS B w a c (mkL l k))(hm:l.length≤100000000)(h1:0≤k)(h2:k≤1000000000000) :
  Calls Tryz.prog 270 #[.slice a l.length c,.int .i64 k] w (Gives w (.int .i64 (k+l.length*(Enc.size TWaiting:Nat)))) :=
 (c_lheldTWaitingS (c:=c) hs.slF hm h1 h2).mono fun _ _ g=>by have e:(k+l.length*((Enc.size TWaiting:Nat):Int))=k+l.length*((5:Nat):Int):=rfl;rw[e];simpa using g
instance MarkF.iTLimit:MarkF TLimit where
 one:=mkTLimit
 good:=fun k i h0 h1 h2=>by
  show okDTLimit (mkTLimit k i)
  refine⟨?_,?_,?_,trivial⟩<;>first|(unfold i64 mkTLimit;dsimp only;omega)|(unfold mkTLimit;dsimp only;exact markTx_size (by omega) (by omega))
theorem o_lmarkLimitS{B:Nat}{χ:Nat→Col}{i:Col}{a:Option Addr}{c:Nat}{k:Int}{l:List TLimit}{w:World}(h:OwnC B χ i w a c l)(hm:l.length≤100000000)(h1:0≤k)(h2:k≤1000000000000) :
  Calls Tryz.prog 29 #[.slice a l.length c,.int .i64 k] w (GivesMk B χ i w a c l k) :=
 (c_lmarkTLimitS h.own rfl hm h1 h2).mono fun _ _ g=>Marks.mk h hm h1 h2 g (by show _=k+(l.length:Int)*((3:Nat):Int);omega)
theorem o_lheldLimitS{B:Nat}{a:Option Addr}{c:Nat}{k:Int}{l:List TLimit}{w:World}(hs:RdS B w a c (mkL l k))(hm:l.length≤100000000)(h1:0≤k)(h2:k≤1000000000000) :
  Calls Tryz.prog 269 #[.slice a l.length c,.int .i64 k] w (Gives w (.int .i64 (k+l.length*(Enc.size TLimit:Nat)))) :=
 (c_lheldTLimitS (c:=c) hs.slF hm h1 h2).mono fun _ _ g=>by have e:(k+l.length*((Enc.size TLimit:Nat):Int))=k+l.length*((3:Nat):Int):=rfl;rw[e];simpa using g
instance MarkF.iTDone:MarkF TDone where
 one:=mkTDone
 good:=fun k i h0 h1 h2=>by
  show okDTDone (mkTDone k i)
  refine⟨?_,?_,?_,trivial⟩<;>first|(unfold i64 mkTDone;dsimp only;omega)|(unfold mkTDone;dsimp only;exact markTx_size (by omega) (by omega))
theorem o_lmarkDoneS{B:Nat}{χ:Nat→Col}{i:Col}{a:Option Addr}{c:Nat}{k:Int}{l:List TDone}{w:World}(h:OwnC B χ i w a c l)(hm:l.length≤100000000)(h1:0≤k)(h2:k≤1000000000000) :
  Calls Tryz.prog 265 #[.slice a l.length c,.int .i64 k] w (GivesMk B χ i w a c l k) :=
 (c_lmarkTDoneS h.own rfl hm h1 h2).mono fun _ _ g=>Marks.mk h hm h1 h2 g (by show _=k+(l.length:Int)*((3:Nat):Int);omega)
theorem o_lheldDoneS{B:Nat}{a:Option Addr}{c:Nat}{k:Int}{l:List TDone}{w:World}(hs:RdS B w a c (mkL l k))(hm:l.length≤100000000)(h1:0≤k)(h2:k≤1000000000000) :
  Calls Tryz.prog 271 #[.slice a l.length c,.int .i64 k] w (Gives w (.int .i64 (k+l.length*(Enc.size TDone:Nat)))) :=
 (c_lheldTDoneS (c:=c) hs.slF hm h1 h2).mono fun _ _ g=>by have e:(k+l.length*((Enc.size TDone:Nat):Int))=k+l.length*((3:Nat):Int):=rfl;rw[e];simpa using g
instance MarkF.iTSent:MarkF TSent where
 one:=mkTSent
 good:=fun k i h0 h1 h2=>by
  show okDTSent (mkTSent k i)
  refine⟨?_,?_,trivial⟩<;>first|(unfold i64 mkTSent;dsimp only;omega)|(unfold mkTSent;dsimp only;exact markTx_size (by omega) (by omega))
theorem o_lmarkSentS{B:Nat}{χ:Nat→Col}{i:Col}{a:Option Addr}{c:Nat}{k:Int}{l:List TSent}{w:World}(h:OwnC B χ i w a c l)(hm:l.length≤100000000)(h1:0≤k)(h2:k≤1000000000000) :
  Calls Tryz.prog 262 #[.slice a l.length c,.int .i64 k] w (GivesMk B χ i w a c l k) :=
 (c_lmarkTSentS h.own rfl hm h1 h2).mono fun _ _ g=>Marks.mk h hm h1 h2 g (by show _=k+(l.length:Int)*((2:Nat):Int);omega)
theorem o_lheldSentS{B:Nat}{a:Option Addr}{c:Nat}{k:Int}{l:List TSent}{w:World}(hs:RdS B w a c (mkL l k))(hm:l.length≤100000000)(h1:0≤k)(h2:k≤1000000000000) :
  Calls Tryz.prog 267 #[.slice a l.length c,.int .i64 k] w (Gives w (.int .i64 (k+l.length*(Enc.size TSent:Nat)))) :=
 (c_lheldTSentS (c:=c) hs.slF hm h1 h2).mono fun _ _ g=>by have e:(k+l.length*((Enc.size TSent:Nat):Int))=k+l.length*((2:Nat):Int):=rfl;rw[e];simpa using g
end Go.Proofs.YtbaffippdifbpaaGreat
namespace Go.Proofs.YtbaffippdifbpaaGreat
set_option linter.unusedVariables false
open Go.ChangeShapes Go.WideShapes Go.ChangeAt Go.RowKit
def mk1FileIn(x:TFileIn)(k:Int):TFileIn:={ x with File:=k,Size:=k+1,Check:=k+1+1,Parts:=mkL x.Parts (k+1+1+1) }
def mn1FileIn(x:TFileIn)(k:Int):Int:=k+1+1+1+(x.Parts.length:Int)*((1:Nat):Int)
def mk1FileOut(x:TFileOut)(k:Int):TFileOut:={ x with File:=k,Data:=markTx (k+1),Queue:=mkL x.Queue (k+1+1),Done:=decide ((k+1+1+(x.Queue.length:Int)*((1:Nat):Int)) % 3=0) }
def mn1FileOut(x:TFileOut)(k:Int):Int:=k+1+1+(x.Queue.length:Int)*((1:Nat):Int)+1
def mkN{α:Type}(f:α→Int→α)(g:α→Int→Int):List α→Int→List α
 | [],_=>[]
 | x::r,k=>f x k::mkN f g r (g x k)
def mnN{α:Type}(g:α→Int→Int):List α→Int→Int
 | [],k=>k
 | x::r,k=>mnN g r (g x k)
theorem mkN_length{α:Type}(f:α→Int→α)(g:α→Int→Int):∀ (l:List α) (k:Int),(mkN f g l k).length=l.length
 | [],_=>rfl
 | x::r,k=>by simp[mkN,mkN_length f g r]
theorem mkN_snoc{α:Type}(f:α→Int→α)(g:α→Int→Int)(y:α):∀ (l:List α) (k:Int),mkN f g (l++[y]) k=mkN f g l k++[f y (mnN g l k)]
 | [],_=>rfl
 | x::r,k=>by simp[mkN,mnN,mkN_snoc f g y r]
theorem mnN_snoc{α:Type}(g:α→Int→Int)(y:α):∀ (l:List α) (k:Int),mnN g (l++[y]) k=g y (mnN g l k)
 | [],_=>rfl
 | x::r,k=>by simp[mnN,mnN_snoc g y r]
theorem mnN_le{α:Type}[Enc α](g:α→Int→Int)(hg:∀ x k,k≤g x k∧g x k≤k+5*(1+Enc.tot x)):∀ (l:List α) (k:Int),k≤mnN g l k∧mnN g l k≤k+5*totL l
 | [],k=>by simp[mnN,totL]
 | x::r,k=>by
  have h1:=hg x k
  have h2:=mnN_le g hg r (g x k)
  simp only[mnN,totL]
  omega
theorem mn1FileIn_le(x:TFileIn)(k:Int):k≤mn1FileIn x k∧mn1FileIn x k≤k+5*(1+Enc.tot x):=by
 have h1:=totL_len x.Parts
 have h2:Enc.tot x=totL x.Parts:=rfl
 unfold mn1FileIn
 omega
theorem mn1FileOut_le(x:TFileOut)(k:Int):k≤mn1FileOut x k∧mn1FileOut x k≤k+5*(1+Enc.tot x):=by
 have h1:=totL_len x.Queue
 have h2:Enc.tot x=(x.Data.size:Int)+totL x.Queue:=rfl
 unfold mn1FileOut
 omega
theorem set_same{α:Type}(l:List α)(i:Nat)(v:α)(h:l[i]?=some v):l.set i v=l:=by
 refine List.ext_getElem? fun k=>?_
 rw[List.getElem?_set]
 split
 ·rename_i e
  subst e
  have hi:=(List.getElem?_eq_some_iff.1 h).1
  first|(rw[if_pos hi,h])|(simp[hi,h])
 ·rfl
theorem Own.put3of4{α:Type}{enc:α→List Value}{T B g:Nat}{w:World}{c:Nat}{l:List α}(h:Own enc T 4 B w (some ⟨g,0,none⟩) c l){j:Nat}{x y:α}(hx:l[j]?=some x){u0 u1 u2 v0 v1 v2 v3:Value}(hex:enc x=[u0,u1,u2,v3])(hy:enc y=[v0,v1,v2,v3]) :
  Own enc T 4 B (((w.setCell ⟨g,j*4,none⟩ v0).setCell ⟨g,j*4+1,none⟩ v1).setCell ⟨g,j*4+2,none⟩ v2) (some ⟨g,0,none⟩) c (l.set j y)∧w.grownBy (((w.setCell ⟨g,j*4,none⟩ v0).setCell ⟨g,j*4+1,none⟩ v1).setCell ⟨g,j*4+2,none⟩ v2) (some g) ∧
  (((w.setCell ⟨g,j*4,none⟩ v0).setCell ⟨g,j*4+1,none⟩ v1).setCell ⟨g,j*4+2,none⟩ v2).cell? ⟨g,j*4+3,none⟩=some v3:=by
 have hj:j<l.length:=(List.getElem?_eq_some_iff.1 hx).1
 have s0:=(h.2).stored (j*4) v0
 have s1:=(s0.1).stored (j*4+1) v1
 have s2:=(s1.1).stored (j*4+2) v2
 have h3:(l.flatMap enc)[j*4+3]?=some v3:=flatMap_at h.1 l _ _ _ _ hx (by rw[hex];rfl)
 have hL:(((l.flatMap enc).set (j*4) v0).set (j*4+1) v1).set (j*4+2) v2=(l.set j y).flatMap enc:=by
  rw[← fset4 h.1 hy l j hj]
  exact(set_same ((((l.flatMap enc).set (j*4) v0).set (j*4+1) v1).set (j*4+2) v2) (j*4+3) v3 (by rw[List.getElem?_set_ne (by omega),List.getElem?_set_ne (by omega),List.getElem?_set_ne (by omega)];exact h3)).symm
 have hO:Own enc T 4 B (((w.setCell ⟨g,j*4,none⟩ v0).setCell ⟨g,j*4+1,none⟩ v1).setCell ⟨g,j*4+2,none⟩ v2) (some ⟨g,0,none⟩) c (l.set j y):=by
  refine⟨h.1,?_⟩
  rw[← hL,List.length_set]
  exact s2.1
 refine⟨hO,grownBy_trans (grownBy_trans s0.2 s1.2) s2.2,?_⟩
 have:=hO.2.cellAt (n:=(l.set j y).length) (j*4+3) (by rw[List.length_set];omega)
 rw[this]
 exact flatMap_at h.1 (l.set j y) _ _ _ _ (List.getElem?_set_self hj) (by rw[hy];rfl)
section
variable {α β:Type} [N:Nest α β] [F:Flat β] {B o g c j:Nat} {χ:Nat→Col} {w W3 w4:World} {rows:List (NRow α)} {r:NRow α} {x:α}
theorem OwnN.wrote(h:OwnN B χ o w (some ⟨g,0,none⟩) c rows)(hg:w.grownBy W3 (some g)):Fr B χ (·=(o,0)) w W3 :=
 ⟨hg.os,hg.tape,hg.output,hg.size,fun b h2 h3=>hg.block b h2 (fun e=>h3 ⟨by cases e;exact(h.own.blk g rfl).1,by cases e;exact h.col g rfl⟩)⟩
theorem set_mid{γ:Type}(p q:List γ)(r y:γ)(j:Nat)(hj:p.length=j):(p++r::q).set j y=p++[y]++q:=by
 subst hj
 simp[List.set_append_right]
theorem get_mid{γ:Type}(p q:List γ)(r:γ)(j:Nat)(hj:p.length=j):(p++r::q)[j]?=some r:=by
 subst hj
 simp
theorem totL_app{γ:Type}[Enc γ]:∀ (p q:List γ),totL (p++q)=totL p+totL q
 | [],q=>by simp[totL]
 | x::p,q=>by simp only[List.cons_append,totL,totL_app p q];omega
theorem OwnN.row(h:OwnN B χ o w (some ⟨g,0,none⟩) c rows)(hr:rows[j]?=some r)(hown3:Own (encN (α:=α)) N.ty N.size B W3 (some ⟨g,0,none⟩) c (rows.set j ⟨x,r.a,r.c⟩))(F3:Fr B χ (·=(o,0)) w W3)(hgd:N.good x)
  (hi:OwnC B χ (o,j+1) w4 r.a r.c (N.inner x)) (F4:Fr B χ (·=(o,j+1)) W3 w4):OwnN B χ o w4 (some ⟨g,0,none⟩) c (rows.set j ⟨x,r.a,r.c⟩):=by
 have hj:j<rows.length:=(List.getElem?_eq_some_iff.1 hr).1
 refine⟨hown3.same (fun k hk h1 h2=>F4.block k h2 (fun e=>?_)),h.col,fun i q hq=>?_⟩
 ·have:=h.col k hk
  rw[this]at e
  simp at e
 ·by_cases hi2:i=j
  ·subst hi2
   rw[List.getElem?_set_self hj]at hq
   cases hq
   exact⟨hgd,hi⟩
  ·rw[List.getElem?_set_ne (by omega)]at hq
   obtain⟨h1,h2⟩:=h.each i q hq
   exact⟨h1,(h2.fr F3 (by simp)).fr F4 (by simp;omega)⟩
theorem flatMap_set{γ:Type}{enc:γ→List Value}{size:Nat}(hsz:∀ x:γ,(enc x).length=size){y:γ}{i:Nat}{v:Value}(hi:i<size):∀ (l:List γ) (j:Nat) (x:γ),l[j]?=some x→enc y=(enc x).set i v→(l.flatMap enc).set (j*size+i) v=(l.set j y).flatMap enc
 | [],j,x,h,_=>by simp at h
 | z::l,0,x,h,hy=>by
  simp only[List.getElem?_cons_zero,Option.some.injEq]at h
  subst h
  simp only[List.flatMap_cons,List.set_cons_zero,Nat.zero_mul,Nat.zero_add]
  rw[List.set_append_left _ _ (by rw[hsz];exact hi),hy]
 | z::l,j+1,x,h,hy=>by
  simp only[List.flatMap_cons,List.set_cons_succ]
  rw[List.set_append_right _ _ (by rw[hsz,Nat.succ_mul];omega),hsz,show(j+1)*size+i - size=j*size+i by rw[Nat.succ_mul];omega,flatMap_set hsz hi l j x (by simpa using h) hy]
theorem OwnN.setCell{i:Nat}{v:Value}(h:OwnN B χ o w (some ⟨g,0,none⟩) c rows)(hr:rows[j]?=some r)(hi:i<N.size)(henc:N.cells x r.a r.c=(N.cells r.x r.a r.c).set i v)(hin:N.inner x=N.inner r.x)(hgd:N.good x) :
  OwnN B χ o (w.setCell ⟨g,j*N.size+i,none⟩ v) (some ⟨g,0,none⟩) c (rows.set j ⟨x,r.a,r.c⟩)∧w.grownBy (w.setCell ⟨g,j*N.size+i,none⟩ v) (some g):=by
 have hj:j<rows.length:=(List.getElem?_eq_some_iff.1 hr).1
 have s0:=(h.own.2).stored (j*N.size+i) v
 have hO:Own (encN (α:=α)) N.ty N.size B (w.setCell ⟨g,j*N.size+i,none⟩ v) (some ⟨g,0,none⟩) c (rows.set j ⟨x,r.a,r.c⟩):=by
  refine⟨h.own.1,?_⟩
  rw[← flatMap_set (y:=(⟨x,r.a,r.c⟩:NRow α)) h.own.1 hi rows j r hr (show encN (⟨x,r.a,r.c⟩:NRow α)=(encN r).set i v from henc),List.length_set]
  exact s0.1
 have F:=h.wrote s0.2
 refine⟨⟨hO,h.col,fun q s hs=>?_⟩,s0.2⟩
 by_cases hq:q=j
 ·subst hq
  rw[List.getElem?_set_self hj]at hs
  cases hs
  refine⟨hgd,?_⟩
  show OwnC B χ (o,q+1) _ r.a r.c (N.inner x)
  rw[hin]
  exact((h.each q r hr).2).fr F (by simp)
 ·rw[List.getElem?_set_ne (by omega)]at hs
  obtain⟨h1,h2⟩:=h.each q s hs
  exact⟨h1,h2.fr F (by simp)⟩
end
end Go.Proofs.YtbaffippdifbpaaGreat
