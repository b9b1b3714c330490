/- The contracts on marks that are texts. No condition but on sizes. -/
import Derived.Test.YtdijmbipcgalfaaGreatHM0
import Derived.Test.YtdijmbipcgalfaaGreatHWord
namespace Go.Proofs.YtdijmbipcgalfaaGreat
set_option maxRecDepth 100000
set_option maxHeartbeats 2000000
set_option linter.unusedVariables false
open Go.ChangeShapes Go.WideShapes Go.ChangeAt Go.RowKit
variable {w:World}
def aR5(k:Nat)(acc:ByteArray):ByteArray:=if h:k=0 then acc else aR5 (k / 10) (strOfNums [48+(k:Int) % 10]++acc)
termination_by k
decreasing_by omega
def N1(k:Int):ByteArray:=if k≤0 then⟨#[109,48]⟩else⟨#[109]⟩++aR5 k.toNat ⟨#[]⟩
theorem L5{k:Int}(h2:k≤2000000000000) :
  Calls Tryz.prog 179 #[I k] w (b5 w (.string (N1 k))):=by
 by_cases h0:k≤0
 ·have HV:=lH (show N1 k=⟨#[109,48]⟩from if_pos h0)
  go_enter Tryz.func179,Tryz.ntmps179
  go_wp2_with fail
  go_ret
  exact b5.mk (by rw[HV.out];rfl)
 ·obtain⟨K,rfl⟩:∃ K:Nat,k=K:=⟨k.toNat,by omega⟩
  have HV:=lH (show N1 K=⟨#[109]⟩++aR5 K ⟨#[]⟩by unfold N1;rw[if_neg h0];rfl)
  go_enter Tryz.func179,Tryz.ntmps179
  go_wp2_with fail
  go_loopw [0,3] (fun u v wr=>∃ (k:Nat) (acc:ByteArray),u=I k∧v=.string acc∧acc.size+k≤2000000000000∧Hid (aR5 k acc=aR5 K ⟨#[]⟩)∧∃ x:b7 w,wr=x.w) (fun u _ _=>(intOf u).toNat)
  case atStart=>exact⟨K,_,rfl,rfl,by simp[ByteArray.size];omega,rfl,b7.of⟩
  case round =>
   obtain⟨k,acc,rfl,rfl,hk,hf,x,rfl⟩:=hrel
   by_cases h3:0<k
   ·have hd:k % 10<10:=Nat.mod_lt _ om
    have HF:=lH (show aR5 (k / 10) (strOfNums [48+(k:Int) % 10]++acc)=aR5 K ⟨#[]⟩by have:=hf.out;rw[aR5,dif_neg om]at this;exact this)
    have hcv:=at7 (P:=Tryz.prog) (n:=1) (c:=1) Tryz.underlying258 Tryz.underlying5 Tryz.underlying9 (Sl.lit (enc:=Y1) (W:=x.w) (cs:=#[.int .u8 (48+(k:Int) % 10)]) (T:=5) (l:=[48+(k:Int) % 10]) (fun _=>rfl) rfl) rfl si
    have hs1:(strOfNums [48+(k:Int) % 10]).size=1:=by simp[strOfNums_size]
    go_wp2_with fail
    go_roundw
    case rel=>exact⟨k / 10,_,by go_num,rfl,by rw[ByteArray.size_append,hs1];omega,HF,b7.of⟩
    case measure=>simp[intOf];omega
   ·have hk0:k=0:=by omega
    have HF:=lH (show acc=aR5 K ⟨#[]⟩by have:=hf.out;rw[aR5,dif_pos hk0]at this;exact this)
    clear hk0
    go_wp2_with fail
    go_ret
    exact b5.mk (by rw[HV.out,← HF.out];rfl)
def aV1(k0:Int)(i:Nat):ByteArray:=N1 (k0+i)
theorem ao2(x:b7 w)(row:Option Nat):w.grownBy x.w row:=⟨x.h.os,x.h.tape,x.h.output,x.h.size,fun i hi _=>x.h.block i hi⟩
theorem bb4{a:Option Addr}{n c B:Nat}{k0:Int}{l:List ByteArray}(hown0:Own L4 9 1 B w a c l)(hn:l.length=n)(hm:n≤100000000)(h1:0≤k0)(h2:k0≤1000000000000) :
  Calls Tryz.prog 55 #[.slice a n c,I k0] w (ah6 L4 9 1 B w a n c ((List.range n).map (aV1 k0)) (k0+n)):=by
 go_enter Tryz.func55,Tryz.ntmps55
 go_wp2_with fail
 go_loopw [1,5] (fun u v wr=>∃ j:Nat,v=I j∧u=I (k0+j)∧j≤n∧w.grownBy wr (Value.ownBlock (.slice a n c))∧Own L4 9 1 B wr a c (ah8 (aV1 k0) l j)) (fun _ v _=>(n - intOf v).toNat)
 case atStart=>exact⟨0,rfl,by simp,by omega,V0 _ _,by rw[Z2];exact hown0⟩
 case round =>
  obtain⟨j,rfl,rfl,hj,hgr,hown⟩:=hrel
  by_cases h:j<n
  ·obtain⟨g,rfl,hB,hlt⟩:=hown.open (n:=n) (by rw[k7 om];omega)
   have HG:=lH hgr;clear hgr
   have HO:=lH hown;clear hown hlt
   go_wp2_with fail
   refine gm (L5 om) ?_
   intro y
   have hown:=HO.out.to (ii:b8 wr y.w)
   obtain⟨o0,g0⟩:=hown.cells (j:=j) (by rw[k7 om];omega)
   have f0:=hown.free j
   have HO2:=lH hown;clear hown HO
   have HG2:=lH (A9 HG.out (ao2 y _));clear HG
   go_wp2_with fail
   go_roundw
   case rel =>
    have hp:=HO2.out.put1 (j:=j) (y:=aV1 k0 j) (by rw[k7 om];omega) rfl
    exact⟨j+1,by go_num,by go_num,by omega,A9 HG2.out hp.2,by rw[← ae5 om];exact hp.1⟩
   case measure=>simp[intOf];omega
  ·go_wp2_with fail
   go_ret
   obtain rfl:j=n:=by omega
   refine⟨rfl,hgr,?_⟩
   rw[← hn,ae4]at hown
   rw[← hn];exact hown
theorem bb2{a:Option Addr}{n c:Nat}{k0:Int}(hs:Sl L4 w a ((List.range n).map (aV1 k0)))(hm:n≤100000000)(h1:0≤k0)(h2:k0≤1000000000000) :
  Calls Tryz.prog 60 #[.slice a n c,I k0] w (b5 w (I (k0+n))):=by
 go_enter Tryz.func60,Tryz.ntmps60
 go_wp2_with fail
 go_loopw [1,5] (fun u v wr=>∃ j:Nat,v=I j∧u=I (k0+j)∧j≤n∧∃ x:b7 w,wr=x.w) (fun _ v _=>(n - intOf v).toNat)
 case atStart=>exact⟨0,rfl,by simp,by omega,b7.of⟩
 case round =>
  obtain⟨j,rfl,rfl,hj,x0,rfl⟩:=hrel
  by_cases h:j<n
  ·obtain⟨b,off,s,rfl,hb,hd,e0⟩:=hs.str (k:=j) (by simpa using h)
   obtain rfl:s=aV1 k0 j:=by
    have:=congrArg (fun m=>m[0]?) hd.out
    simpa[h]using this.symm
   simp only[aV1]at e0
   clear hd
   go_wp2_with (first|((with_reducible refine rl ?_);(repeat(first|go_big_quiet_step (first|(go_at_call 179;exact b5.quiet (L5 om)))));refine wpQuiet_nil ?_;intro x)|(go_at_call 179;refine gm (L5 om) ?_;intro x))
   go_roundw
   case rel=>exact⟨j+1,by go_num,by go_num,by omega,b7.of⟩
   case measure=>simp[intOf];omega
  ·go_wp2_with fail
   go_ret
   obtain rfl:j=n:=by omega
   exact b5.mk rfl
