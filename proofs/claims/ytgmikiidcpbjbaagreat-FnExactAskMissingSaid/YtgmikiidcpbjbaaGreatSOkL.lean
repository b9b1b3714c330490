/- The contracts of what says whether lists of flights and of records are valid, both sides. No condition but on sizes. -/
import Derived.Test.YtgmikiidcpbjbaaGreatSOkF
namespace Go.Proofs.YtgmikiidcpbjbaaGreat
set_option linter.unusedVariables false
open Go.ChangeShapes Go.WideShapes Go.ChangeAt Go.RowKit
def flightOk(x:TFlight):Bool:=inB x.At 0 1000050 && inB x.Data.size 1 404
def flightsOk(l:List TFlight):Bool:=decide (l.length≤1000) && l.all flightOk
def recordsOk(l:List TRecord):Bool:=decide (l.length≤5000) && l.all recordOk
theorem k_iflightsOk{B:Nat}{a:Option Addr}{c:Nat}{l:List TFlight}{w:World}(hs:RdS B w a c l)(hm:l.length≤100000000) :
  Calls Tryz.prog 179 #[.slice a l.length c] w (Gives w (.bool (flightsOk l))):=by
 obtain⟨n,hn⟩:∃ n,l.length=n:=⟨_,rfl⟩
 have HN:=lH hn
 have HD:=lH (show flightsOk l=(decide (n≤1000) && l.all flightOk)by rw[flightsOk,hn])
 rw[hn]at hm ⊢
 clear hn
 by_cases hmx:n≤1000
 ·go_enter Tryz.func179,Tryz.ntmps179
  go_wp2_with fail
  go_loopw [10] (fun v wr=>∃ k:Nat,v=.int .i64 k∧k≤n∧Hid ((l.drop k).all flightOk=l.all flightOk)∧∃ x:Later w,wr=x.w) (fun v _=>(n - intOf v).toNat)
  case atStart=>exact⟨0,rfl,by omega,rfl,Later.of⟩
  case round =>
   obtain⟨k,rfl,hk,HV,x,rfl⟩:=hrel
   by_cases h:k<n
   ·have hkl:k<l.length:=by have:=HN.out;omega
    obtain⟨eb,eoff,ex,rfl,ehb,ehd,eok,eh0,eh1⟩:=hs.atTFlight hkl
    have hz:ex.Data.size≤9223372036854775807:=eok.2.1
    have EOK:=lH eok;clear eok hkl
    cases hg:flightOk ex
    ·have HF:=lH (show l.all flightOk=false by have:=HV.out;rw[ehd.out,List.all_cons,hg]at this;rw[← this];rfl)
     cases c1:inB ex.At 0 1000050
     ·clear hg
      go_wp2_with (first|(go_at_call 156;refine(c_ibetween).mono ?_;rintro _ _ ⟨rfl,x,rfl⟩))
      go_ret
      exact Gives.mk (by rw[HD.out,HF.out,Bool.and_false];rfl)
     ·have c2:inB ex.Data.size 1 404=false:=by rw[flightOk,c1]at hg;exact hg
      clear hg
      go_wp2_with (first|(go_at_call 156;refine(c_ibetween).mono ?_;rintro _ _ ⟨rfl,x,rfl⟩))
      go_ret
      exact Gives.mk (by rw[HD.out,HF.out,Bool.and_false];rfl)
    ·have HF:=lH (show(l.drop (k+1)).all flightOk=l.all flightOk by have:=HV.out;rw[ehd.out,List.all_cons,hg,Bool.true_and]at this;exact this)
     have c1:inB ex.At 0 1000050=true:=by simp only[flightOk,Bool.and_eq_true]at hg;exact hg.1
     have c2:inB ex.Data.size 1 404=true:=by simp only[flightOk,Bool.and_eq_true]at hg;exact hg.2
     clear hg
     go_wp2_with (first|(go_at_call 156;refine(c_ibetween).mono ?_;rintro _ _ ⟨rfl,x,rfl⟩))
     go_roundw
     case rel=>exact⟨k+1,by go_num,by omega,HF,Later.of⟩
     case measure=>simp[intOf];omega
   ·have HF:=lH (show l.all flightOk=true by have:=HV.out;rw[List.drop_of_length_le (by have:=HN.out;omega)]at this;rw[← this];rfl)
    go_wp2_with fail
    go_ret
    exact Gives.mk (by rw[HD.out,HF.out,decide_eq_true hmx];rfl)
 ·go_enter Tryz.func179,Tryz.ntmps179
  go_wp2_with fail
  go_ret
  exact Gives.mk (by rw[HD.out,decide_eq_false hmx];rfl)
theorem k_irecordsOk{B:Nat}{a:Option Addr}{c:Nat}{l:List TRecord}{w:World}(hs:RdS B w a c l)(hm:l.length≤100000000) :
  Calls Tryz.prog 348 #[.slice a l.length c] w (Gives w (.bool (recordsOk l))):=by
 obtain⟨n,hn⟩:∃ n,l.length=n:=⟨_,rfl⟩
 have HN:=lH hn
 have HD:=lH (show recordsOk l=(decide (n≤5000) && l.all recordOk)by rw[recordsOk,hn])
 rw[hn]at hm ⊢
 clear hn
 by_cases hmx:n≤5000
 ·go_enter Tryz.func348,Tryz.ntmps348
  go_wp2_with fail
  go_loopw [10] (fun v wr=>∃ k:Nat,v=.int .i64 k∧k≤n∧Hid ((l.drop k).all recordOk=l.all recordOk)∧∃ x:Later w,wr=x.w) (fun v _=>(n - intOf v).toNat)
  case atStart=>exact⟨0,rfl,by omega,rfl,Later.of⟩
  case round =>
   obtain⟨k,rfl,hk,HV,x,rfl⟩:=hrel
   by_cases h:k<n
   ·have hkl:k<l.length:=by have:=HN.out;omega
    obtain⟨eb,eoff,ex,rfl,ehb,ehd,eok,eh0,eh1,eh2,eh3⟩:=hs.atTRecord hkl
    have hz:ex.Data.size≤9223372036854775807:=eok.2.2.2.1
    have EOK:=lH eok;clear eok hkl
    cases hg:recordOk ex
    ·have HF:=lH (show l.all recordOk=false by have:=HV.out;rw[ehd.out,List.all_cons,hg]at this;rw[← this];rfl)
     go_wp2_with (first|(go_at_call 420;refine(k_iRecordOk (by omega)).mono ?_;rintro _ _ ⟨rfl,x,rfl⟩))
     go_ret
     exact Gives.mk (by rw[HD.out,HF.out,Bool.and_false];rfl)
    ·have HF:=lH (show(l.drop (k+1)).all recordOk=l.all recordOk by have:=HV.out;rw[ehd.out,List.all_cons,hg,Bool.true_and]at this;exact this)
     go_wp2_with (first|(go_at_call 420;refine(k_iRecordOk (by omega)).mono ?_;rintro _ _ ⟨rfl,x,rfl⟩))
     go_roundw
     case rel=>exact⟨k+1,by go_num,by omega,HF,Later.of⟩
     case measure=>simp[intOf];omega
   ·have HF:=lH (show l.all recordOk=true by have:=HV.out;rw[List.drop_of_length_le (by have:=HN.out;omega)]at this;rw[← this];rfl)
    go_wp2_with fail
    go_ret
    exact Gives.mk (by rw[HD.out,HF.out,decide_eq_true hmx];rfl)
 ·go_enter Tryz.func348,Tryz.ntmps348
  go_wp2_with fail
  go_ret
  exact Gives.mk (by rw[HD.out,decide_eq_false hmx];rfl)
theorem k_sflightsOk{B:Nat}{a:Option Addr}{c:Nat}{l:List TFlight}{w:World}(hs:RdS B w a c l)(hm:l.length≤100000000) :
  Calls Tryz.prog 198 #[.slice a l.length c] w (Gives w (.bool (flightsOk l))):=by
 obtain⟨n,hn⟩:∃ n,l.length=n:=⟨_,rfl⟩
 have HN:=lH hn
 have HD:=lH (show flightsOk l=(decide (n≤1000) && l.all flightOk)by rw[flightsOk,hn])
 rw[hn]at hm ⊢
 clear hn
 go_enter Tryz.func198,Tryz.ntmps198
 go_wp2_with fail
 go_loopw [3] (fun v wr=>∃ k:Nat,v=.int .i64 k∧k≤n∧Hid ((l.drop k).all flightOk=l.all flightOk)∧∃ x:Later w,wr=x.w) (fun v _=>(n - intOf v).toNat)
 case atStart=>exact⟨0,rfl,by omega,rfl,Later.of⟩
 case round =>
  obtain⟨k,rfl,hk,HV,x,rfl⟩:=hrel
  by_cases h:k<n
  ·have hkl:k<l.length:=by have:=HN.out;omega
   obtain⟨eb,eoff,ex,rfl,ehb,ehd,eok,eh0,eh1⟩:=hs.atTFlight hkl
   have hz:ex.Data.size≤9223372036854775807:=eok.2.1
   have EOK:=lH eok;clear eok hkl
   cases hg:flightOk ex
   ·have HF:=lH (show l.all flightOk=false by have:=HV.out;rw[ehd.out,List.all_cons,hg]at this;rw[← this];rfl)
    cases c1:inB ex.At 0 1000050
    ·clear hg
     go_wp2_with (first|(go_at_call 158;refine(c_sl01In).mono ?_;rintro _ _ ⟨rfl,x,rfl⟩))
     go_ret
     exact Gives.mk (by rw[HD.out,HF.out,Bool.and_false];rfl)
    ·have c2:inB ex.Data.size 1 404=false:=by rw[flightOk,c1]at hg;exact hg
     clear hg
     go_wp2_with (first|(go_at_call 158;refine(c_sl01In).mono ?_;rintro _ _ ⟨rfl,x,rfl⟩))
     go_ret
     exact Gives.mk (by rw[HD.out,HF.out,Bool.and_false];rfl)
   ·have HF:=lH (show(l.drop (k+1)).all flightOk=l.all flightOk by have:=HV.out;rw[ehd.out,List.all_cons,hg,Bool.true_and]at this;exact this)
    have c1:inB ex.At 0 1000050=true:=by simp only[flightOk,Bool.and_eq_true]at hg;exact hg.1
    have c2:inB ex.Data.size 1 404=true:=by simp only[flightOk,Bool.and_eq_true]at hg;exact hg.2
    clear hg
    go_wp2_with (first|(go_at_call 158;refine(c_sl01In).mono ?_;rintro _ _ ⟨rfl,x,rfl⟩))
    go_roundw
    case rel=>exact⟨k+1,by go_num,by omega,HF,Later.of⟩
    case measure=>simp[intOf];omega
  ·have HF:=lH (show l.all flightOk=true by have:=HV.out;rw[List.drop_of_length_le (by have:=HN.out;omega)]at this;rw[← this];rfl)
   by_cases hmx:n≤1000
   ·have kx:decide ((n:Int)≤1000)=true:=by simp;omega
    go_wp2_with fail
    go_ret
    exact Gives.mk (by rw[HD.out,HF.out,decide_eq_true hmx];rfl)
   ·have kx:decide ((n:Int)≤1000)=false:=by simp;omega
    go_wp2_with fail
    go_ret
    exact Gives.mk (by rw[HD.out,HF.out,decide_eq_false hmx];rfl)
theorem k_srecordsOk{B:Nat}{a:Option Addr}{c:Nat}{l:List TRecord}{w:World}(hs:RdS B w a c l)(hm:l.length≤100000000) :
  Calls Tryz.prog 358 #[.slice a l.length c] w (Gives w (.bool (recordsOk l))):=by
 obtain⟨n,hn⟩:∃ n,l.length=n:=⟨_,rfl⟩
 have HN:=lH hn
 have HD:=lH (show recordsOk l=(decide (n≤5000) && l.all recordOk)by rw[recordsOk,hn])
 rw[hn]at hm ⊢
 clear hn
 go_enter Tryz.func358,Tryz.ntmps358
 go_wp2_with fail
 go_loopw [3] (fun v wr=>∃ k:Nat,v=.int .i64 k∧k≤n∧Hid ((l.drop k).all recordOk=l.all recordOk)∧∃ x:Later w,wr=x.w) (fun v _=>(n - intOf v).toNat)
 case atStart=>exact⟨0,rfl,by omega,rfl,Later.of⟩
 case round =>
  obtain⟨k,rfl,hk,HV,x,rfl⟩:=hrel
  by_cases h:k<n
  ·have hkl:k<l.length:=by have:=HN.out;omega
   obtain⟨eb,eoff,ex,rfl,ehb,ehd,eok,eh0,eh1,eh2,eh3⟩:=hs.atTRecord hkl
   have hz:ex.Data.size≤9223372036854775807:=eok.2.2.2.1
   have EOK:=lH eok;clear eok hkl
   cases hg:recordOk ex
   ·have HF:=lH (show l.all recordOk=false by have:=HV.out;rw[ehd.out,List.all_cons,hg]at this;rw[← this];rfl)
    go_wp2_with (first|(go_at_call 321;refine(k_sRecordOk (by omega)).mono ?_;rintro _ _ ⟨rfl,x,rfl⟩))
    go_ret
    exact Gives.mk (by rw[HD.out,HF.out,Bool.and_false];rfl)
   ·have HF:=lH (show(l.drop (k+1)).all recordOk=l.all recordOk by have:=HV.out;rw[ehd.out,List.all_cons,hg,Bool.true_and]at this;exact this)
    go_wp2_with (first|(go_at_call 321;refine(k_sRecordOk (by omega)).mono ?_;rintro _ _ ⟨rfl,x,rfl⟩))
    go_roundw
    case rel=>exact⟨k+1,by go_num,by omega,HF,Later.of⟩
    case measure=>simp[intOf];omega
  ·have HF:=lH (show l.all recordOk=true by have:=HV.out;rw[List.drop_of_length_le (by have:=HN.out;omega)]at this;rw[← this];rfl)
   by_cases hmx:n≤5000
   ·have kx:decide ((n:Int)≤5000)=true:=by simp;omega
    go_wp2_with fail
    go_ret
    exact Gives.mk (by rw[HD.out,HF.out,decide_eq_true hmx];rfl)
   ·have kx:decide ((n:Int)≤5000)=false:=by simp;omega
    go_wp2_with fail
    go_ret
    exact Gives.mk (by rw[HD.out,HF.out,decide_eq_false hmx];rfl)
end Go.Proofs.YtgmikiidcpbjbaaGreat
