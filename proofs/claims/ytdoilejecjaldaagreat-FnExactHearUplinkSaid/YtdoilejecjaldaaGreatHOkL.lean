/- The contracts of what says whether lists of flights and of records are valid, both sides. No condition but on sizes. -/
import Derived.Test.YtdoilejecjaldaaGreatHOkF
namespace Go.Proofs.YtdoilejecjaldaaGreat
set_option linter.unusedVariables false
open Go.ChangeShapes Go.WideShapes Go.ChangeAt Go.RowKit
def N2(x:s6):Bool:=inB x.At 0 1000050 && inB x.Data.size 1 404
def Q8(l:List s6):Bool:=decide (l.length≤1000) && l.all N2
def R9(l:List B4):Bool:=decide (l.length≤5000) && l.all A3
theorem bo3{B:Nat}{a:Option Addr}{c:Nat}{l:List s6}{w:World}(hs:RdS B w a c l)(hm:l.length≤100000000) :
  Calls Tryz.prog 118 #[.slice a l.length c] w (b4 w (.bool (Q8 l))):=by
 obtain⟨n,hn⟩:∃ n,l.length=n:=⟨_,rfl⟩
 have HN:=lH hn
 have HD:=lH (show Q8 l=(decide (n≤1000) && l.all N2)by rw[Q8,hn])
 rw[hn]at hm ⊢
 clear hn
 by_cases hmx:n≤1000
 ·go_enter Tryz.func118,Tryz.ntmps118
  go_wp2_with fail
  go_loopw [10] (fun v wr=>∃ k:Nat,v=.int .i64 k∧k≤n∧Hid ((l.drop k).all N2=l.all N2)∧∃ x:b5 w,wr=x.w) (fun v _=>(n - intOf v).toNat)
  case atStart=>exact⟨0,rfl,by omega,rfl,b5.of⟩
  case round =>
   obtain⟨k,rfl,hk,HV,x,rfl⟩:=hrel
   by_cases h:k<n
   ·have hkl:k<l.length:=by have:=HN.out;omega
    obtain⟨eb,eoff,ex,rfl,ehb,ehd,eok,eh0,eh1⟩:=hs.atTFlight hkl
    have hz:ex.Data.size≤9223372036854775807:=eok.2.1
    have EOK:=lH eok;clear eok hkl
    cases hg:N2 ex
    ·have HF:=lH (show l.all N2=false by have:=HV.out;rw[ehd.out,List.all_cons,hg]at this;rw[← this];rfl)
     cases c1:inB ex.At 0 1000050
     ·clear hg
      go_wp2_with (first|(go_at_call 114;refine gm (d6) ?_;intro x))
      go_ret
      exact b4.mk (by rw[HD.out,HF.out,Bool.and_false];rfl)
     ·have c2:inB ex.Data.size 1 404=false:=by rw[N2,c1]at hg;exact hg
      clear hg
      go_wp2_with (first|(go_at_call 114;refine gm (d6) ?_;intro x))
      go_ret
      exact b4.mk (by rw[HD.out,HF.out,Bool.and_false];rfl)
    ·have HF:=lH (show(l.drop (k+1)).all N2=l.all N2 by have:=HV.out;rw[ehd.out,List.all_cons,hg,Bool.true_and]at this;exact this)
     have c1:inB ex.At 0 1000050=true:=by simp only[N2,Bool.and_eq_true]at hg;exact hg.1
     have c2:inB ex.Data.size 1 404=true:=by simp only[N2,Bool.and_eq_true]at hg;exact hg.2
     clear hg
     go_wp2_with (first|(go_at_call 114;refine gm (d6) ?_;intro x))
     go_roundw
     case rel=>exact⟨k+1,by go_num,by omega,HF,b5.of⟩
     case measure=>simp[intOf];omega
   ·have HF:=lH (show l.all N2=true by have:=HV.out;rw[List.drop_of_length_le (by have:=HN.out;omega)]at this;rw[← this];rfl)
    go_wp2_with fail
    go_ret
    exact b4.mk (by rw[HD.out,HF.out,decide_eq_true hmx];rfl)
 ·go_enter Tryz.func118,Tryz.ntmps118
  go_wp2_with fail
  go_ret
  exact b4.mk (by rw[HD.out,decide_eq_false hmx];rfl)
theorem bo4{B:Nat}{a:Option Addr}{c:Nat}{l:List B4}{w:World}(hs:RdS B w a c l)(hm:l.length≤100000000) :
  Calls Tryz.prog 205 #[.slice a l.length c] w (b4 w (.bool (R9 l))):=by
 obtain⟨n,hn⟩:∃ n,l.length=n:=⟨_,rfl⟩
 have HN:=lH hn
 have HD:=lH (show R9 l=(decide (n≤5000) && l.all A3)by rw[R9,hn])
 rw[hn]at hm ⊢
 clear hn
 by_cases hmx:n≤5000
 ·go_enter Tryz.func205,Tryz.ntmps205
  go_wp2_with fail
  go_loopw [10] (fun v wr=>∃ k:Nat,v=.int .i64 k∧k≤n∧Hid ((l.drop k).all A3=l.all A3)∧∃ x:b5 w,wr=x.w) (fun v _=>(n - intOf v).toNat)
  case atStart=>exact⟨0,rfl,by omega,rfl,b5.of⟩
  case round =>
   obtain⟨k,rfl,hk,HV,x,rfl⟩:=hrel
   by_cases h:k<n
   ·have hkl:k<l.length:=by have:=HN.out;omega
    obtain⟨eb,eoff,ex,rfl,ehb,ehd,eok,eh0,eh1,eh2,eh3⟩:=hs.atTRecord hkl
    have hz:ex.Data.size≤9223372036854775807:=eok.2.2.2.1
    have EOK:=lH eok;clear eok hkl
    cases hg:A3 ex
    ·have HF:=lH (show l.all A3=false by have:=HV.out;rw[ehd.out,List.all_cons,hg]at this;rw[← this];rfl)
     go_wp2_with (first|(go_at_call 251;refine gm (Y0 (by omega)) ?_;intro x))
     go_ret
     exact b4.mk (by rw[HD.out,HF.out,Bool.and_false];rfl)
    ·have HF:=lH (show(l.drop (k+1)).all A3=l.all A3 by have:=HV.out;rw[ehd.out,List.all_cons,hg,Bool.true_and]at this;exact this)
     go_wp2_with (first|(go_at_call 251;refine gm (Y0 (by omega)) ?_;intro x))
     go_roundw
     case rel=>exact⟨k+1,by go_num,by omega,HF,b5.of⟩
     case measure=>simp[intOf];omega
   ·have HF:=lH (show l.all A3=true by have:=HV.out;rw[List.drop_of_length_le (by have:=HN.out;omega)]at this;rw[← this];rfl)
    go_wp2_with fail
    go_ret
    exact b4.mk (by rw[HD.out,HF.out,decide_eq_true hmx];rfl)
 ·go_enter Tryz.func205,Tryz.ntmps205
  go_wp2_with fail
  go_ret
  exact b4.mk (by rw[HD.out,decide_eq_false hmx];rfl)
theorem bo5{B:Nat}{a:Option Addr}{c:Nat}{l:List s6}{w:World}(hs:RdS B w a c l)(hm:l.length≤100000000) :
  Calls Tryz.prog 77 #[.slice a l.length c] w (b4 w (.bool (Q8 l))):=by
 obtain⟨n,hn⟩:∃ n,l.length=n:=⟨_,rfl⟩
 have HN:=lH hn
 have HD:=lH (show Q8 l=(decide (n≤1000) && l.all N2)by rw[Q8,hn])
 rw[hn]at hm ⊢
 clear hn
 go_enter Tryz.func77,Tryz.ntmps77
 go_wp2_with fail
 go_loopw [3] (fun v wr=>∃ k:Nat,v=.int .i64 k∧k≤n∧Hid ((l.drop k).all N2=l.all N2)∧∃ x:b5 w,wr=x.w) (fun v _=>(n - intOf v).toNat)
 case atStart=>exact⟨0,rfl,by omega,rfl,b5.of⟩
 case round =>
  obtain⟨k,rfl,hk,HV,x,rfl⟩:=hrel
  by_cases h:k<n
  ·have hkl:k<l.length:=by have:=HN.out;omega
   obtain⟨eb,eoff,ex,rfl,ehb,ehd,eok,eh0,eh1⟩:=hs.atTFlight hkl
   have hz:ex.Data.size≤9223372036854775807:=eok.2.1
   have EOK:=lH eok;clear eok hkl
   cases hg:N2 ex
   ·have HF:=lH (show l.all N2=false by have:=HV.out;rw[ehd.out,List.all_cons,hg]at this;rw[← this];rfl)
    cases c1:inB ex.At 0 1000050
    ·clear hg
     go_wp2_with (first|(go_at_call 73;refine gm (d8) ?_;intro x))
     go_ret
     exact b4.mk (by rw[HD.out,HF.out,Bool.and_false];rfl)
    ·have c2:inB ex.Data.size 1 404=false:=by rw[N2,c1]at hg;exact hg
     clear hg
     go_wp2_with (first|(go_at_call 73;refine gm (d8) ?_;intro x))
     go_ret
     exact b4.mk (by rw[HD.out,HF.out,Bool.and_false];rfl)
   ·have HF:=lH (show(l.drop (k+1)).all N2=l.all N2 by have:=HV.out;rw[ehd.out,List.all_cons,hg,Bool.true_and]at this;exact this)
    have c1:inB ex.At 0 1000050=true:=by simp only[N2,Bool.and_eq_true]at hg;exact hg.1
    have c2:inB ex.Data.size 1 404=true:=by simp only[N2,Bool.and_eq_true]at hg;exact hg.2
    clear hg
    go_wp2_with (first|(go_at_call 73;refine gm (d8) ?_;intro x))
    go_roundw
    case rel=>exact⟨k+1,by go_num,by omega,HF,b5.of⟩
    case measure=>simp[intOf];omega
  ·have HF:=lH (show l.all N2=true by have:=HV.out;rw[List.drop_of_length_le (by have:=HN.out;omega)]at this;rw[← this];rfl)
   by_cases hmx:n≤1000
   ·have kx:decide ((n:Int)≤1000)=true:=by simp;omega
    go_wp2_with fail
    go_ret
    exact b4.mk (by rw[HD.out,HF.out,decide_eq_true hmx];rfl)
   ·have kx:decide ((n:Int)≤1000)=false:=by simp;omega
    go_wp2_with fail
    go_ret
    exact b4.mk (by rw[HD.out,HF.out,decide_eq_false hmx];rfl)
theorem bo7{B:Nat}{a:Option Addr}{c:Nat}{l:List B4}{w:World}(hs:RdS B w a c l)(hm:l.length≤100000000) :
  Calls Tryz.prog 172 #[.slice a l.length c] w (b4 w (.bool (R9 l))):=by
 obtain⟨n,hn⟩:∃ n,l.length=n:=⟨_,rfl⟩
 have HN:=lH hn
 have HD:=lH (show R9 l=(decide (n≤5000) && l.all A3)by rw[R9,hn])
 rw[hn]at hm ⊢
 clear hn
 go_enter Tryz.func172,Tryz.ntmps172
 go_wp2_with fail
 go_loopw [3] (fun v wr=>∃ k:Nat,v=.int .i64 k∧k≤n∧Hid ((l.drop k).all A3=l.all A3)∧∃ x:b5 w,wr=x.w) (fun v _=>(n - intOf v).toNat)
 case atStart=>exact⟨0,rfl,by omega,rfl,b5.of⟩
 case round =>
  obtain⟨k,rfl,hk,HV,x,rfl⟩:=hrel
  by_cases h:k<n
  ·have hkl:k<l.length:=by have:=HN.out;omega
   obtain⟨eb,eoff,ex,rfl,ehb,ehd,eok,eh0,eh1,eh2,eh3⟩:=hs.atTRecord hkl
   have hz:ex.Data.size≤9223372036854775807:=eok.2.2.2.1
   have EOK:=lH eok;clear eok hkl
   cases hg:A3 ex
   ·have HF:=lH (show l.all A3=false by have:=HV.out;rw[ehd.out,List.all_cons,hg]at this;rw[← this];rfl)
    go_wp2_with (first|(go_at_call 242;refine gm (Y2 (by omega)) ?_;intro x))
    go_ret
    exact b4.mk (by rw[HD.out,HF.out,Bool.and_false];rfl)
   ·have HF:=lH (show(l.drop (k+1)).all A3=l.all A3 by have:=HV.out;rw[ehd.out,List.all_cons,hg,Bool.true_and]at this;exact this)
    go_wp2_with (first|(go_at_call 242;refine gm (Y2 (by omega)) ?_;intro x))
    go_roundw
    case rel=>exact⟨k+1,by go_num,by omega,HF,b5.of⟩
    case measure=>simp[intOf];omega
  ·have HF:=lH (show l.all A3=true by have:=HV.out;rw[List.drop_of_length_le (by have:=HN.out;omega)]at this;rw[← this];rfl)
   by_cases hmx:n≤5000
   ·have kx:decide ((n:Int)≤5000)=true:=by simp;omega
    go_wp2_with fail
    go_ret
    exact b4.mk (by rw[HD.out,HF.out,decide_eq_true hmx];rfl)
   ·have kx:decide ((n:Int)≤5000)=false:=by simp;omega
    go_wp2_with fail
    go_ret
    exact b4.mk (by rw[HD.out,HF.out,decide_eq_false hmx];rfl)
