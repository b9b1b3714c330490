/- The contracts on marks that are texts. No condition but on sizes. -/
import Derived.Test.YthbepablpaldgaaGreatSStr
import Derived.Test.YthbepablpaldgaaGreatSWord
import Derived.Test.YthbepablpaldgaaGreatSM0
namespace Go.Proofs.YthbepablpaldgaaGreat
set_option maxRecDepth 100000
set_option maxHeartbeats 2000000
set_option linter.unusedVariables false
open Go.ChangeShapes Go.WideShapes Go.ChangeAt Go.RowKit
def digs(k:Nat)(acc:ByteArray):ByteArray:=if h:k=0 then acc else digs (k / 10) (strOfNums [48+(k:Int) % 10]++acc)
termination_by k
decreasing_by omega
def markTx(k:Int):ByteArray:=if k≤0 then⟨#[109,48]⟩else⟨#[109]⟩++digs k.toNat ⟨#[]⟩
theorem c_lmarkText{k:Int}{w:World}(h2:k≤2000000000000) :
  Calls Tryz.prog 146 #[.int .i64 k] w (Gives w (.string (markTx k))):=by
 by_cases h0:k≤0
 ·have HV:=lH (show markTx k=⟨#[109,48]⟩from if_pos h0)
  go_enter Tryz.func146,Tryz.ntmps146
  go_wp2_with fail
  go_ret
  exact Gives.mk (by rw[HV.out];rfl)
 ·obtain⟨K,rfl⟩:∃ K:Nat,k=K:=⟨k.toNat,by omega⟩
  have HV:=lH (show markTx K=⟨#[109]⟩++digs K ⟨#[]⟩by unfold markTx;rw[if_neg h0];rfl)
  go_enter Tryz.func146,Tryz.ntmps146
  go_wp2_with fail
  go_loopw [0,3] (fun u v wr=>∃ (k:Nat) (acc:ByteArray),u=.int .i64 k∧v=.string acc∧acc.size+k≤2000000000000∧Hid (digs k acc=digs K ⟨#[]⟩)∧∃ x:Later w,wr=x.w) (fun u _ _=>(intOf u).toNat)
  case atStart=>exact⟨K,_,rfl,rfl,by simp[ByteArray.size];omega,rfl,Later.of⟩
  case round =>
   obtain⟨k,acc,rfl,rfl,hk,hf,x,rfl⟩:=hrel
   by_cases h3:0<k
   ·have hd:k % 10<10:=Nat.mod_lt _ (by omega)
    have HF:=lH (show digs (k / 10) (strOfNums [48+(k:Int) % 10]++acc)=digs K ⟨#[]⟩by have:=hf.out;rw[digs,dif_neg (by omega)]at this;exact this)
    have hcv:=conv_str (P:=Tryz.prog) (n:=1) (c:=1) Tryz.underlying287 Tryz.underlying5 Tryz.underlying9 (Sl.lit (enc:=encByte) (W:=x.w) (cs:=#[.int .u8 (48+(k:Int) % 10)]) (T:=5) (l:=[48+(k:Int) % 10]) (fun _=>rfl) rfl) rfl (by simp)
    have hs1:(strOfNums [48+(k:Int) % 10]).size=1:=by simp[strOfNums_size]
    go_wp2_with fail
    go_roundw
    case rel=>exact⟨k / 10,_,by go_num,rfl,by rw[ByteArray.size_append,hs1];omega,HF,Later.of⟩
    case measure=>simp[intOf];omega
   ·have hk0:k=0:=by omega
    have HF:=lH (show acc=digs K ⟨#[]⟩by have:=hf.out;rw[digs,dif_pos hk0]at this;exact this)
    clear hk0
    go_wp2_with fail
    go_ret
    exact Gives.mk (by rw[HV.out,← HF.out];rfl)
def mkStr(k0:Int)(i:Nat):ByteArray:=markTx (k0+i)
theorem grownBy_laterR{w:World}(x:Later w)(row:Option Nat):w.grownBy x.w row:=⟨x.h.os,x.h.tape,x.h.output,x.h.size,fun i hi _=>x.h.block i hi⟩
theorem c_lmarkStringS{a:Option Addr}{n c B:Nat}{k0:Int}{l:List ByteArray}{w:World}(hown0:Own encStr 9 1 B w a c l)(hn:l.length=n)(hm:n≤100000000)(h1:0≤k0)(h2:k0≤1000000000000) :
  Calls Tryz.prog 49 #[.slice a n c,.int .i64 k0] w (Marks encStr 9 1 B w a n c ((List.range n).map (mkStr k0)) (k0+n)):=by
 go_enter Tryz.func49,Tryz.ntmps49
 go_wp2_with fail
 go_loopw [1,5] (fun u v wr=>∃ j:Nat,v=.int .i64 j∧u=.int .i64 (k0+j)∧j≤n∧w.grownBy wr (Value.ownBlock (.slice a n c))∧Own encStr 9 1 B wr a c (mixed (mkStr k0) l j)) (fun _ v _=>(n - intOf v).toNat)
 case atStart=>exact⟨0,rfl,by simp,by omega,grownBy_refl _ _,by rw[mixed_zero];exact hown0⟩
 case round =>
  obtain⟨j,rfl,rfl,hj,hgr,hown⟩:=hrel
  by_cases h:j<n
  ·obtain⟨g,rfl,hB,hlt⟩:=hown.open (n:=n) (by rw[mixed_length (by omega)];omega)
   have HG:=lH hgr;clear hgr
   have HO:=lH hown;clear hown hlt
   go_wp2_with fail
   refine gm (c_lmarkText (by omega)) ?_
   intro y
   have hown:=HO.out.to (ii:Grows wr y.w)
   obtain⟨o0,g0⟩:=hown.cells (j:=j) (by rw[mixed_length (by omega)];omega)
   have f0:=hown.free j
   have HO2:=lH hown;clear hown HO
   have HG2:=lH (grownBy_trans HG.out (grownBy_laterR y _));clear HG
   go_wp2_with fail
   go_roundw
   case rel =>
    have hp:=HO2.out.put1 (j:=j) (y:=mkStr k0 j) (by rw[mixed_length (by omega)];omega) rfl
    exact⟨j+1,by go_num,by go_num,by omega,grownBy_trans HG2.out hp.2,by rw[← mixed_set (by omega)];exact hp.1⟩
   case measure=>simp[intOf];omega
  ·go_wp2_with fail
   go_ret
   obtain rfl:j=n:=by omega
   refine⟨rfl,hgr,?_⟩
   rw[← hn,mixed_all]at hown
   rw[← hn];exact hown
theorem c_lheldStringS{a:Option Addr}{n c:Nat}{k0:Int}{w:World}(hs:Sl encStr w a ((List.range n).map (mkStr k0)))(hm:n≤100000000)(h1:0≤k0)(h2:k0≤1000000000000) :
  Calls Tryz.prog 54 #[.slice a n c,.int .i64 k0] w (Gives w (.int .i64 (k0+n))):=by
 go_enter Tryz.func54,Tryz.ntmps54
 go_wp2_with fail
 go_loopw [1,5] (fun u v wr=>∃ j:Nat,v=.int .i64 j∧u=.int .i64 (k0+j)∧j≤n∧∃ x:Later w,wr=x.w) (fun _ v _=>(n - intOf v).toNat)
 case atStart=>exact⟨0,rfl,by simp,by omega,Later.of⟩
 case round =>
  obtain⟨j,rfl,rfl,hj,x0,rfl⟩:=hrel
  by_cases h:j<n
  ·obtain⟨b,off,s,rfl,hb,hd,e0⟩:=hs.str (k:=j) (by simpa using h)
   obtain rfl:s=mkStr k0 j:=by
    have:=congrArg (fun m=>m[0]?) hd.out
    simpa[h]using this.symm
   simp only[mkStr]at e0
   clear hd
   go_wp2_with (first|((with_reducible refine rl ?_);(repeat(first|go_big_quiet_step (first|(go_at_call 146;exact Gives.quiet (c_lmarkText (by omega))))));refine wpQuiet_nil ?_;intro x)|(go_at_call 146;refine gm (c_lmarkText (by omega)) ?_;intro x))
   go_roundw
   case rel=>exact⟨j+1,by go_num,by go_num,by omega,Later.of⟩
   case measure=>simp[intOf];omega
  ·go_wp2_with fail
   go_ret
   obtain rfl:j=n:=by omega
   exact Gives.mk rfl
