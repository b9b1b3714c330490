/- The contracts of what says whether a sender is valid, both sides. No condition but on sizes. -/
import Derived.Test.YtbaffippdifbpaaGreatMM21
namespace Go.Proofs.YtbaffippdifbpaaGreat
set_option linter.unusedVariables false
open Go.ChangeShapes Go.WideShapes Go.ChangeAt Go.RowKit
def sentGood(next n:Int)(k:Nat)(x:TSent):Bool:=inB x.Data.size 1 40 && (x.Seq == (next - n+k+256) % 256)
def sentGo(next n:Int):Nat→List TSent→Bool
 | _,[]=>true
 | k,x::r=>sentGood next n k x && sentGo next n (k+1) r
def senderOk(s:TSender):Bool:=inB s.Next 0 255 && (inB s.Window 1 20 && (inB s.Done 0 1000000 && (decide ((s.Waiting.length:Int)≤s.Window) && sentGo s.Next s.Waiting.length 0 s.Waiting)))
theorem k_iSenderOk{B:Nat}{a:Option Addr}{c:Nat}{sd:TSender}{w:World}(hs:RdS B w a c sd.Waiting)(hm:sd.Waiting.length≤100000000)(hi:okDTSender sd) :
  Calls Tryz.prog 134 #[.agg #[.int .i64 sd.Next,.int .i64 sd.Window,.slice a sd.Waiting.length c,.int .i64 sd.Done]] w (Gives w (.bool (senderOk sd))):=by
 obtain⟨n,hn⟩:∃ n,sd.Waiting.length=n:=⟨_,rfl⟩
 have HN:=lH hn
 have HI:=lH hi;clear hi
 have HD:=lH (show senderOk sd=(inB sd.Next 0 255 && (inB sd.Window 1 20 && (inB sd.Done 0 1000000 && (decide ((n:Int)≤sd.Window) && sentGo sd.Next n 0 sd.Waiting))))by rw[senderOk,hn])
 rw[hn]at hm ⊢
 clear hn
 cases c0:inB sd.Next 0 255
 ·skip
  go_enter Tryz.func134,Tryz.ntmps134
  go_wp2_with (first|(go_at_call 127;refine(c_ibetween).mono ?_;rintro _ _ ⟨rfl,x,rfl⟩))
  go_ret
  exact Gives.mk (by rw[HD.out,c0];rfl)
 cases c1:inB sd.Window 1 20
 ·skip
  go_enter Tryz.func134,Tryz.ntmps134
  go_wp2_with (first|(go_at_call 127;refine(c_ibetween).mono ?_;rintro _ _ ⟨rfl,x,rfl⟩))
  go_ret
  exact Gives.mk (by rw[HD.out,c0,c1];rfl)
 cases c2:inB sd.Done 0 1000000
 ·skip
  go_enter Tryz.func134,Tryz.ntmps134
  go_wp2_with (first|(go_at_call 127;refine(c_ibetween).mono ?_;rintro _ _ ⟨rfl,x,rfl⟩))
  go_ret
  exact Gives.mk (by rw[HD.out,c0,c1,c2];rfl)
 have⟨hx1,hx2⟩:=inB_iff.1 c0
 have⟨hw1,hw2⟩:=inB_iff.1 c1
 by_cases hnw:(n:Int)≤sd.Window
 ·have kw:decide (sd.Window<(n:Int))=false:=by simp;omega
  have hn20:n≤20:=by omega
  have HD2:=lH (show senderOk sd=sentGo sd.Next n 0 sd.Waiting by rw[HD.out,c0,c1,c2,decide_eq_true hnw];rfl)
  clear HD
  go_enter Tryz.func134,Tryz.ntmps134
  go_wp2_with (first|(go_at_call 127;refine(c_ibetween).mono ?_;rintro _ _ ⟨rfl,x,rfl⟩))
  go_loopw [32] (fun v wr=>∃ k:Nat,v=.int .i64 k∧k≤n∧Hid (sentGo sd.Next n k (sd.Waiting.drop k)=sentGo sd.Next n 0 sd.Waiting)∧∃ X:Later (w.alloc (.cells #[.int .i64 sd.Next,.int .i64 sd.Window,.slice a n c,.int .i64 sd.Done] 35)),wr=X.w) (fun v _=>(n - intOf v).toNat)
  case atStart=>exact⟨0,rfl,by omega,rfl,Later.of⟩
  case round =>
   obtain⟨k,rfl,hk,HV,X,rfl⟩:=hrel
   by_cases h:k<n
   ·have hkl:k<sd.Waiting.length:=by have:=HN.out;omega
    obtain⟨eb,eoff,ex,rfl,ehb,ehd,eok,eh0,eh1⟩:=hs.atTSent hkl
    have hz:ex.Data.size≤9223372036854775807:=eok.2.1
    have EOK:=lH eok;clear eok hkl
    have EM:(sd.Next - n+k+256) % 256=(sd.Next - n+k) % 256:=Int.add_emod_right ..
    have EH:=lH EM;clear EM
    cases d1:inB ex.Data.size 1 40
    ·have HF:=lH (show senderOk sd=false by have:=HV.out;rw[ehd.out,sentGo,sentGood,d1]at this;rw[HD2.out,← this];rfl)
     cases d2:(ex.Seq == (sd.Next - n+k+256) % 256)
     ·have d3:(ex.Seq != (sd.Next - n+k+256) % 256)=true:=by rw[bne,d2];rfl
      go_wp2_with (first|(go_at_call 127;refine(c_ibetween).mono ?_;rintro _ _ ⟨rfl,x,rfl⟩))
      go_ret
      exact Gives.mk (by rw[HF.out];rfl)
     ·have d3:(ex.Seq != (sd.Next - n+k+256) % 256)=false:=by rw[bne,d2];rfl
      have D2:=lH d2;clear d2
      go_wp2_with (first|(go_at_call 127;refine(c_ibetween).mono ?_;rintro _ _ ⟨rfl,x,rfl⟩))
      go_ret
      exact Gives.mk (by rw[HF.out];rfl)
    ·cases d2:(ex.Seq == (sd.Next - n+k+256) % 256)
     ·have d3:(ex.Seq != (sd.Next - n+k+256) % 256)=true:=by rw[bne,d2];rfl
      have HF:=lH (show senderOk sd=false by have:=HV.out;rw[ehd.out,sentGo,sentGood,d1,d2]at this;rw[HD2.out,← this];rfl)
      go_wp2_with (first|(go_at_call 127;refine(c_ibetween).mono ?_;rintro _ _ ⟨rfl,x,rfl⟩))
      go_ret
      exact Gives.mk (by rw[HF.out];rfl)
     ·have d3:(ex.Seq != (sd.Next - n+k+256) % 256)=false:=by rw[bne,d2];rfl
      have HF:=lH (show sentGo sd.Next n (k+1) (sd.Waiting.drop (k+1))=sentGo sd.Next n 0 sd.Waiting by have:=HV.out;rw[ehd.out,sentGo,sentGood,d1,d2]at this;exact this)
      have D2:=lH d2;clear d2
      go_wp2_with (first|(go_at_call 127;refine(c_ibetween).mono ?_;rintro _ _ ⟨rfl,x,rfl⟩))
      go_roundw
      case rel=>exact⟨k+1,by go_num,by omega,HF,Later.of⟩
      case measure=>simp[intOf];omega
   ·have HF:=lH (show senderOk sd=true by have:=HV.out;rw[List.drop_of_length_le (by have:=HN.out;omega),sentGo]at this;rw[HD2.out,← this])
    go_wp2_with fail
    go_ret
    exact Gives.mk (by rw[HF.out];rfl)
 ·have kw:decide (sd.Window<(n:Int))=true:=by simp;omega
  have HD2:=lH (show senderOk sd=false by rw[HD.out,c0,c1,c2,decide_eq_false hnw];rfl)
  clear HD
  go_enter Tryz.func134,Tryz.ntmps134
  go_wp2_with (first|(go_at_call 127;refine(c_ibetween).mono ?_;rintro _ _ ⟨rfl,x,rfl⟩))
  go_ret
  exact Gives.mk (by rw[HD2.out];rfl)
theorem k_sSenderOk{B:Nat}{a:Option Addr}{c:Nat}{sd:TSender}{w:World}(hs:RdS B w a c sd.Waiting)(hm:sd.Waiting.length≤100000000)(hi:okDTSender sd) :
  Calls Tryz.prog 153 #[.agg #[.int .i64 sd.Next,.int .i64 sd.Window,.slice a sd.Waiting.length c,.int .i64 sd.Done]] w (Gives w (.bool (senderOk sd))):=by
 obtain⟨n,hn⟩:∃ n,sd.Waiting.length=n:=⟨_,rfl⟩
 have HN:=lH hn
 have HI:=lH hi;clear hi
 have HD:=lH (show senderOk sd=(inB sd.Next 0 255 && (inB sd.Window 1 20 && (inB sd.Done 0 1000000 && (decide ((n:Int)≤sd.Window) && sentGo sd.Next n 0 sd.Waiting))))by rw[senderOk,hn])
 rw[hn]at hm ⊢
 clear hn
 cases c0:inB sd.Next 0 255
 ·skip
  go_enter Tryz.func153,Tryz.ntmps153
  go_wp2_with (first|(go_at_call 151;refine(c_sl01In).mono ?_;rintro _ _ ⟨rfl,x,rfl⟩))
  go_ret
  exact Gives.mk (by rw[HD.out,c0];rfl)
 cases c1:inB sd.Window 1 20
 ·skip
  go_enter Tryz.func153,Tryz.ntmps153
  go_wp2_with (first|(go_at_call 151;refine(c_sl01In).mono ?_;rintro _ _ ⟨rfl,x,rfl⟩))
  go_ret
  exact Gives.mk (by rw[HD.out,c0,c1];rfl)
 cases c2:inB sd.Done 0 1000000
 ·skip
  go_enter Tryz.func153,Tryz.ntmps153
  go_wp2_with (first|(go_at_call 151;refine(c_sl01In).mono ?_;rintro _ _ ⟨rfl,x,rfl⟩))
  go_ret
  exact Gives.mk (by rw[HD.out,c0,c1,c2];rfl)
 have⟨hx1,hx2⟩:=inB_iff.1 c0
 have⟨hw1,hw2⟩:=inB_iff.1 c1
 by_cases hnw:(n:Int)≤sd.Window
 ·have kw:decide (sd.Window<(n:Int))=false:=by simp;omega
  have hn20:n≤20:=by omega
  have HD2:=lH (show senderOk sd=sentGo sd.Next n 0 sd.Waiting by rw[HD.out,c0,c1,c2,decide_eq_true hnw];rfl)
  clear HD
  go_enter Tryz.func153,Tryz.ntmps153
  go_wp2_with (first|(go_at_call 151;refine(c_sl01In).mono ?_;rintro _ _ ⟨rfl,x,rfl⟩))
  go_loopw [4] (fun v wr=>∃ k:Nat,v=.int .i64 k∧k≤n∧Hid (sentGo sd.Next n k (sd.Waiting.drop k)=sentGo sd.Next n 0 sd.Waiting)∧∃ X:Later (w.alloc (.cells #[.int .i64 sd.Next,.int .i64 sd.Window,.slice a n c,.int .i64 sd.Done] 35)),wr=X.w) (fun v _=>(n - intOf v).toNat)
  case atStart=>exact⟨0,rfl,by omega,rfl,Later.of⟩
  case round =>
   obtain⟨k,rfl,hk,HV,X,rfl⟩:=hrel
   by_cases h:k<n
   ·have hkl:k<sd.Waiting.length:=by have:=HN.out;omega
    obtain⟨eb,eoff,ex,rfl,ehb,ehd,eok,eh0,eh1⟩:=hs.atTSent hkl
    have hz:ex.Data.size≤9223372036854775807:=eok.2.1
    have EOK:=lH eok;clear eok hkl
    have EM:(sd.Next - n+k+256) % 256=(sd.Next - n+k) % 256:=Int.add_emod_right ..
    have EH:=lH EM;clear EM
    cases d1:inB ex.Data.size 1 40
    ·have HF:=lH (show senderOk sd=false by have:=HV.out;rw[ehd.out,sentGo,sentGood,d1]at this;rw[HD2.out,← this];rfl)
     cases d2:(ex.Seq == (sd.Next - n+k) % 256)
     ·have d3:(ex.Seq != (sd.Next - n+k) % 256)=true:=by rw[bne,d2];rfl
      go_wp2_with (first|(go_at_call 151;refine(c_sl01In).mono ?_;rintro _ _ ⟨rfl,x,rfl⟩))
      go_ret
      exact Gives.mk (by rw[HF.out];rfl)
     ·have d3:(ex.Seq != (sd.Next - n+k) % 256)=false:=by rw[bne,d2];rfl
      have D2:=lH d2;clear d2
      go_wp2_with (first|(go_at_call 151;refine(c_sl01In).mono ?_;rintro _ _ ⟨rfl,x,rfl⟩))
      go_ret
      exact Gives.mk (by rw[HF.out];rfl)
    ·cases d2:(ex.Seq == (sd.Next - n+k) % 256)
     ·have d3:(ex.Seq != (sd.Next - n+k) % 256)=true:=by rw[bne,d2];rfl
      have HF:=lH (show senderOk sd=false by have:=HV.out;rw[ehd.out,sentGo,sentGood,EH.out,d1,d2]at this;rw[HD2.out,← this];rfl)
      go_wp2_with (first|(go_at_call 151;refine(c_sl01In).mono ?_;rintro _ _ ⟨rfl,x,rfl⟩))
      go_ret
      exact Gives.mk (by rw[HF.out];rfl)
     ·have d3:(ex.Seq != (sd.Next - n+k) % 256)=false:=by rw[bne,d2];rfl
      have HF:=lH (show sentGo sd.Next n (k+1) (sd.Waiting.drop (k+1))=sentGo sd.Next n 0 sd.Waiting by have:=HV.out;rw[ehd.out,sentGo,sentGood,EH.out,d1,d2]at this;exact this)
      have D2:=lH d2;clear d2
      go_wp2_with (first|(go_at_call 151;refine(c_sl01In).mono ?_;rintro _ _ ⟨rfl,x,rfl⟩))
      go_roundw
      case rel=>exact⟨k+1,by go_num,by omega,HF,Later.of⟩
      case measure=>simp[intOf];omega
   ·have HF:=lH (show senderOk sd=true by have:=HV.out;rw[List.drop_of_length_le (by have:=HN.out;omega),sentGo]at this;rw[HD2.out,← this])
    go_wp2_with fail
    go_ret
    exact Gives.mk (by rw[HF.out];rfl)
 ·have kw:decide (sd.Window<(n:Int))=true:=by simp;omega
  have HD2:=lH (show senderOk sd=false by rw[HD.out,c0,c1,c2,decide_eq_false hnw];rfl)
  clear HD
  go_enter Tryz.func153,Tryz.ntmps153
  go_wp2_with (first|(go_at_call 151;refine(c_sl01In).mono ?_;rintro _ _ ⟨rfl,x,rfl⟩))
  go_ret
  exact Gives.mk (by rw[HD2.out];rfl)
end Go.Proofs.YtbaffippdifbpaaGreat
