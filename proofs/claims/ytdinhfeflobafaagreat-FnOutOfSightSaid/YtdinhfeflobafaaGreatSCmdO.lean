/- The contracts of CommandsOnce, both sides. No condition but on sizes. -/
import Derived.Test.YtdinhfeflobafaaGreatSM5
namespace Go.Proofs.YtdinhfeflobafaaGreat
set_option linter.unusedVariables false
open Go.ChangeShapes Go.WideShapes Go.ChangeAt Go.RowKit
theorem RdS.toSlStr{B:Nat}{w:World}{a:Option Addr}{c:Nat}{l:List ByteArray}(h:RdS B w a c l):Sl encStr w a l:=fun i x hx=>by
 obtain⟨b,off,vs,h0,-,h2,h3,h4⟩:=h.2.2.2 i x hx
 exact⟨b,off,h0,h2,fun j v hv=>by
  obtain⟨rfl,-⟩:=h3
  have:=h4 j v hv
  rw[show Enc.size ByteArray=(encStr x).length from rfl]at this
  exact this⟩
theorem RdS.take{α:Type}[E:Enc α]{B:Nat}{w:World}{a:Option Addr}{c:Nat}{l:List α}(h:RdS B w a c l)(n:Nat):RdS B w a c (l.take n):=by
 refine⟨by have:=h.1;simp;omega,h.2.1,h.2.2.1,fun i x hx=>?_⟩
 refine h.2.2.2 i x ?_
 rw[List.getElem?_take]at hx
 split at hx
 ·exact hx
 ·cases hx
theorem mcell{B:Nat}{w:World}{vs:List Value}{m:TMission}(h:Enc.Rd B w vs m):∃ A:TMissionA,vs=(dMission m A)∧TMissionF B w A m:=h
set_option maxRecDepth 100000 in
set_option maxHeartbeats 2000000 in
theorem c_equalStr{a a':Option Addr}{n n' c c':Nat}{l l':List ByteArray}{w:World}(hs:Sl encStr w a l)(hs':Sl encStr w a' l')(hn:l.length=n)(hn':l'.length=n')(hm:n≤4611686018427387904)(hm':n'≤4611686018427387904) :
  Calls Tryz.prog 91 #[.slice a n c,.slice a' n' c'] w (Gives w (.bool ((n == n') && eqAll eqStr l l'))):=by
 by_cases hnn:n=n'
 ·subst hnn
  have kn:((n:Int) != (n:Int))=false:=by simp
  go_enter Tryz.func91,Tryz.ntmps91
  go_wp2_with (first|((with_reducible refine wp_region_later (by kernel_rfl) (by kernel_rfl) ?_);(repeat(first|go_big_quiet_step (first|fail)|simp only[kn]));refine wpQuiet_nil ?_;rintro _ ⟨x,rfl⟩))
  go_loopw [13] (fun v wr=>∃ k:Nat,v=.int .i64 k∧k≤n∧Hid (eqAll eqStr (l.drop k) (l'.drop k)=eqAll eqStr l l')∧∃ x:Later w,wr=x.w) (fun v _=>(n - intOf v).toNat)
  case atStart=>exact⟨0,rfl,by omega,rfl,Later.here w,rfl⟩
  case round =>
   obtain⟨k,rfl,hk,hf,x,rfl⟩:=hrel
   by_cases h:k<n
   ·obtain⟨b,off,s,rfl,hb,hd,h0⟩:=hs.str (show k<l.length by omega)
    obtain⟨b',off',s',rfl,hb',hd',h0'⟩:=hs'.str (show k<l'.length by omega)
    cases he:(s.toList == s'.toList)
    ·have he2:(s.toList != s'.toList)=true:=by simp[bne,he]
     go_wp2_with (first|((with_reducible refine wp_region_later (by kernel_rfl) (by kernel_rfl) ?_);(repeat(first|go_big_quiet_step (first|fail)|simp only[he2]));refine wpQuiet_nil ?_;rintro _ ⟨x,rfl⟩))
     go_ret
     exact Gives.mk (by have:=hf.out;rw[hd.out,hd'.out,eqAll,eqStr,he]at this;simp[← this])
    ·have he2:(s.toList != s'.toList)=false:=by simp[bne,he]
     go_wp2_with (first|((with_reducible refine wp_region_later (by kernel_rfl) (by kernel_rfl) ?_);(repeat(first|go_big_quiet_step (first|fail)|simp only[he2]));refine wpQuiet_nil ?_;rintro _ ⟨x,rfl⟩))
     go_roundw
     case rel=>exact⟨k+1,by go_num,by omega,by have:=hf.out;rw[hd.out,hd'.out,eqAll,eqStr,he,Bool.true_and]at this;exact this,Later.of⟩
     case measure=>simp[intOf];omega
   ·go_wp2_with (first|((with_reducible refine wp_region_later (by kernel_rfl) (by kernel_rfl) ?_);(repeat(first|go_big_quiet_step (first|fail)));refine wpQuiet_nil ?_;rintro _ ⟨x,rfl⟩))
    go_ret
    exact Gives.mk (by have:=hf.out;rw[List.drop_of_length_le (by omega),List.drop_of_length_le (by omega)]at this;simp[← this,eqAll])
 ·have kn:((n:Int) != (n':Int))=true:=by simp;omega
  go_enter Tryz.func91,Tryz.ntmps91
  go_wp2_with (first|((with_reducible refine wp_region_later (by kernel_rfl) (by kernel_rfl) ?_);(repeat(first|go_big_quiet_step (first|fail)|simp only[kn]));refine wpQuiet_nil ?_;rintro _ ⟨x,rfl⟩))
  go_ret
  exact Gives.mk (by simp[hnn])
def commandsOnce(m:TMission):Bool:=decide (m.Took.length≤m.Offered.length) && (eqAll eqStr m.Took (m.Offered.take m.Took.length) && (m.Space.Receiver.Taken == (m.Took.length:Int)))
set_option maxRecDepth 100000 in
set_option maxHeartbeats 2000000 in
theorem c_iCommandsOnce{B:Nat}{vs:List Value}{m:TMission}{w:World}(h:Enc.Rd B w vs m)(ht:Enc.tot m≤1048576) :
  Calls Tryz.prog 21 #[.agg vs.toArray] w (Gives w (.bool (commandsOnce m))):=by
 obtain⟨A,hvs,F⟩:=mcell h
 have hb:=mbounds ht
 have hb1:=totL_len m.Took;have hb2:=totL_len m.Offered
 clear ht h
 have HB:=Held.new w vs 90 w.heap.size rfl
 have e20:=HB.cellG 58 (.slice A.a20 m.Offered.length A.c20) (by rw[hvs];rfl)
 have e21:=HB.cellG 59 (.slice A.a21 m.Took.length A.c21) (by rw[hvs];rfl)
 have eT:=HB.cellG 36 (.int .i64 m.Space.Receiver.Taken) (by rw[hvs];rfl)
 clear HB hvs
 have hm1:m.Offered.length≤1048576:=by omega
 have hm2:m.Took.length≤1048576:=by omega
 clear hb hb1 hb2
 have hc1:=F.q20.cap
 have q1:=lH (And.intro F.q20.cap F.q20.nilcap)
 have HQ:=lH (And.intro F.q21.toSlStr (F.q20.take m.Took.length).toSlStr)
 clear F
 obtain⟨n,hn⟩:∃ n,m.Took.length=n:=⟨_,rfl⟩
 obtain⟨n2,hn2⟩:∃ n,m.Offered.length=n:=⟨_,rfl⟩
 obtain⟨t,htk⟩:∃ t,m.Space.Receiver.Taken=t:=⟨_,rfl⟩
 have HV:=lH (show commandsOnce m=(decide (n≤n2) && (eqAll eqStr m.Took (m.Offered.take n) && (t == (n:Int))))by rw[commandsOnce,hn,hn2,htk])
 rw[hn]at e21 hm2 HQ;rw[hn2]at e20 hm1 hc1 q1
 rw[htk]at eT
 have HN:=lH (And.intro hn hn2);clear hn hn2 htk
 by_cases hle:n≤n2
 ·have k1:decide ((n:Int)≤(n2:Int))=true:=by simp;omega
  have hle1:(n:Int)≤(A.c20:Int):=by omega
  have hle2:n≤A.c20:=by omega
  obtain⟨e,he⟩:∃ e,eqAll eqStr m.Took (m.Offered.take n)=e:=⟨_,rfl⟩
  have ce:∀ {W:World} [Grows w W],Calls Tryz.prog 91 #[.slice A.a21 n A.c21,.slice A.a20 n A.c20] W (Gives W (.bool e)):=fun {W} _=>by
   have:=c_equalStr (w:=W) (n:=n) (n':=n) (c:=A.c21) (c':=A.c20) (HQ.out.1.to inferInstance) (HQ.out.2.to inferInstance) HN.out.1 (by have:=HN.out.2;rw[List.length_take];omega) (by omega) (by omega)
   rw[he]at this
   simpa using this
  have HV2:=lH (show commandsOnce m=(e && (t == (n:Int)))by rw[HV.out,he,decide_eq_true hle];rfl)
  clear he HV q1
  cases e
  ·go_enter Tryz.func21,Tryz.ntmps21
   go_wp2_with (first|((with_reducible refine wp_region_later (by kernel_rfl) (by kernel_rfl) ?_);(repeat(first|go_big_quiet_step (first|(go_at_call 91;exact Gives.quiet (ce)))|simp only[k1]));refine wpQuiet_nil ?_;rintro _ ⟨x,rfl⟩)|(go_at_call 91;refine(ce).mono ?_;rintro _ _ ⟨rfl,x,rfl⟩))
   go_ret
   exact Gives.mk (by rw[HV2.out];rfl)
  ·go_enter Tryz.func21,Tryz.ntmps21
   go_wp2_with (first|((with_reducible refine wp_region_later (by kernel_rfl) (by kernel_rfl) ?_);(repeat(first|go_big_quiet_step (first|(go_at_call 91;exact Gives.quiet (ce)))|simp only[k1]));refine wpQuiet_nil ?_;rintro _ ⟨x,rfl⟩)|(go_at_call 91;refine(ce).mono ?_;rintro _ _ ⟨rfl,x,rfl⟩))
   go_ret
   exact Gives.mk (by rw[HV2.out];rfl)
 ·have k1:decide ((n:Int)≤(n2:Int))=false:=by simp;omega
  have HV2:=lH (show commandsOnce m=false by rw[HV.out,decide_eq_false hle];rfl)
  clear HV
  go_enter Tryz.func21,Tryz.ntmps21
  go_wp2_with (first|((with_reducible refine wp_region_later (by kernel_rfl) (by kernel_rfl) ?_);(repeat(first|go_big_quiet_step (first|fail)|simp only[k1]));refine wpQuiet_nil ?_;rintro _ ⟨x,rfl⟩))
  go_ret
  exact Gives.mk (by rw[HV2.out];rfl)
end Go.Proofs.YtdinhfeflobafaaGreat
