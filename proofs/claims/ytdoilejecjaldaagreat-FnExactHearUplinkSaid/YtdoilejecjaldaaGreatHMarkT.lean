/- The contracts on marks that are texts. No condition but on sizes. -/
import Derived.Test.YtdoilejecjaldaaGreatHM0
import Derived.Test.YtdoilejecjaldaaGreatHWord
namespace Go.Proofs.YtdoilejecjaldaaGreat
set_option maxRecDepth 100000
set_option maxHeartbeats 2000000
set_option linter.unusedVariables false
open Go.ChangeShapes Go.WideShapes Go.ChangeAt Go.RowKit
def aQ2(k:Nat)(acc:ByteArray):ByteArray:=if h:k=0 then acc else aQ2 (k / 10) (strOfNums [48+(k:Int) % 10]++acc)
termination_by k
decreasing_by omega
def N4(k:Int):ByteArray:=if k≤0 then⟨#[109,48]⟩else⟨#[109]⟩++aQ2 k.toNat ⟨#[]⟩
theorem M2{k:Int}{w:World}(h2:k≤2000000000000) :
  Calls Tryz.prog 142 #[.int .i64 k] w (b4 w (.string (N4 k))):=by
 by_cases h0:k≤0
 ·have HV:=lH (show N4 k=⟨#[109,48]⟩from if_pos h0)
  go_enter Tryz.func142,Tryz.ntmps142
  go_wp2_with fail
  go_ret
  exact b4.mk (by rw[HV.out];rfl)
 ·obtain⟨K,rfl⟩:∃ K:Nat,k=K:=⟨k.toNat,by omega⟩
  have HV:=lH (show N4 K=⟨#[109]⟩++aQ2 K ⟨#[]⟩by unfold N4;rw[if_neg h0];rfl)
  go_enter Tryz.func142,Tryz.ntmps142
  go_wp2_with fail
  go_loopw [0,3] (fun u v wr=>∃ (k:Nat) (acc:ByteArray),u=.int .i64 k∧v=.string acc∧acc.size+k≤2000000000000∧Hid (aQ2 k acc=aQ2 K ⟨#[]⟩)∧∃ x:b5 w,wr=x.w) (fun u _ _=>(intOf u).toNat)
  case atStart=>exact⟨K,_,rfl,rfl,by simp[ByteArray.size];omega,rfl,b5.of⟩
  case round =>
   obtain⟨k,acc,rfl,rfl,hk,hf,x,rfl⟩:=hrel
   by_cases h3:0<k
   ·have hd:k % 10<10:=Nat.mod_lt _ (by omega)
    have HF:=lH (show aQ2 (k / 10) (strOfNums [48+(k:Int) % 10]++acc)=aQ2 K ⟨#[]⟩by have:=hf.out;rw[aQ2,dif_neg (by omega)]at this;exact this)
    have hcv:=ap8 (P:=Tryz.prog) (n:=1) (c:=1) Tryz.underlying289 Tryz.underlying5 Tryz.underlying9 (Sl.lit (enc:=V7) (W:=x.w) (cs:=#[.int .u8 (48+(k:Int) % 10)]) (T:=5) (l:=[48+(k:Int) % 10]) (fun _=>rfl) rfl) rfl (by simp)
    have hs1:(strOfNums [48+(k:Int) % 10]).size=1:=by simp[strOfNums_size]
    go_wp2_with fail
    go_roundw
    case rel=>exact⟨k / 10,_,by go_num,rfl,by rw[ByteArray.size_append,hs1];omega,HF,b5.of⟩
    case measure=>simp[intOf];omega
   ·have hk0:k=0:=by omega
    have HF:=lH (show acc=aQ2 K ⟨#[]⟩by have:=hf.out;rw[aQ2,dif_pos hk0]at this;exact this)
    clear hk0
    go_wp2_with fail
    go_ret
    exact b4.mk (by rw[HV.out,← HF.out];rfl)
def aT2(k0:Int)(i:Nat):ByteArray:=N4 (k0+i)
theorem am8{w:World}(x:b5 w)(row:Option Nat):w.grownBy x.w row:=⟨x.h.os,x.h.tape,x.h.output,x.h.size,fun i hi _=>x.h.block i hi⟩
theorem aZ3{a:Option Addr}{n c B:Nat}{k0:Int}{l:List ByteArray}{w:World}(hown0:Own R3 9 1 B w a c l)(hn:l.length=n)(hm:n≤100000000)(h1:0≤k0)(h2:k0≤1000000000000) :
  Calls Tryz.prog 52 #[.slice a n c,.int .i64 k0] w (ag0 R3 9 1 B w a n c ((List.range n).map (aT2 k0)) (k0+n)):=by
 go_enter Tryz.func52,Tryz.ntmps52
 go_wp2_with fail
 go_loopw [1,5] (fun u v wr=>∃ j:Nat,v=.int .i64 j∧u=.int .i64 (k0+j)∧j≤n∧w.grownBy wr (Value.ownBlock (.slice a n c))∧Own R3 9 1 B wr a c (ag5 (aT2 k0) l j)) (fun _ v _=>(n - intOf v).toNat)
 case atStart=>exact⟨0,rfl,by simp,by omega,U8 _ _,by rw[Y7];exact hown0⟩
 case round =>
  obtain⟨j,rfl,rfl,hj,hgr,hown⟩:=hrel
  by_cases h:j<n
  ·obtain⟨g,rfl,hB,hlt⟩:=hown.open (n:=n) (by rw[s7 (by omega)];omega)
   have HG:=lH hgr;clear hgr
   have HO:=lH hown;clear hown hlt
   go_wp2_with fail
   refine gm (M2 (by omega)) ?_
   intro y
   have hown:=HO.out.to (ii:d5 wr y.w)
   obtain⟨o0,g0⟩:=hown.cells (j:=j) (by rw[s7 (by omega)];omega)
   have f0:=hown.free j
   have HO2:=lH hown;clear hown HO
   have HG2:=lH (B3 HG.out (am8 y _));clear HG
   go_wp2_with fail
   go_roundw
   case rel =>
    have hp:=HO2.out.put1 (j:=j) (y:=aT2 k0 j) (by rw[s7 (by omega)];omega) rfl
    exact⟨j+1,by go_num,by go_num,by omega,B3 HG2.out hp.2,by rw[← ae4 (by omega)];exact hp.1⟩
   case measure=>simp[intOf];omega
  ·go_wp2_with fail
   go_ret
   obtain rfl:j=n:=by omega
   refine⟨rfl,hgr,?_⟩
   rw[← hn,ae3]at hown
   rw[← hn];exact hown
theorem aZ1{a:Option Addr}{n c:Nat}{k0:Int}{w:World}(hs:Sl R3 w a ((List.range n).map (aT2 k0)))(hm:n≤100000000)(h1:0≤k0)(h2:k0≤1000000000000) :
  Calls Tryz.prog 57 #[.slice a n c,.int .i64 k0] w (b4 w (.int .i64 (k0+n))):=by
 go_enter Tryz.func57,Tryz.ntmps57
 go_wp2_with fail
 go_loopw [1,5] (fun u v wr=>∃ j:Nat,v=.int .i64 j∧u=.int .i64 (k0+j)∧j≤n∧∃ x:b5 w,wr=x.w) (fun _ v _=>(n - intOf v).toNat)
 case atStart=>exact⟨0,rfl,by simp,by omega,b5.of⟩
 case round =>
  obtain⟨j,rfl,rfl,hj,x0,rfl⟩:=hrel
  by_cases h:j<n
  ·obtain⟨b,off,s,rfl,hb,hd,e0⟩:=hs.str (k:=j) (by simpa using h)
   obtain rfl:s=aT2 k0 j:=by
    have:=congrArg (fun m=>m[0]?) hd.out
    simpa[h]using this.symm
   simp only[aT2]at e0
   clear hd
   go_wp2_with (first|((with_reducible refine rl ?_);(repeat(first|go_big_quiet_step (first|(go_at_call 142;exact b4.quiet (M2 (by omega))))));refine wpQuiet_nil ?_;intro x)|(go_at_call 142;refine gm (M2 (by omega)) ?_;intro x))
   go_roundw
   case rel=>exact⟨j+1,by go_num,by go_num,by omega,b5.of⟩
   case measure=>simp[intOf];omega
  ·go_wp2_with fail
   go_ret
   obtain rfl:j=n:=by omega
   exact b4.mk rfl
