/- The contracts of what says whether a sender is valid, both sides. No condition but on sizes. -/
import Derived.Test.YthbepablpaldgaaGreatSM16
namespace Go.Proofs.YthbepablpaldgaaGreat
set_option linter.unusedVariables false
open Go.ChangeShapes Go.WideShapes Go.ChangeAt Go.RowKit
def sentGood(next n:Int)(k:Nat)(x:TSent):Bool:=inB x.Data.size 1 40 && (x.Seq == (next - n+k+256) % 256)
def sentGo(next n:Int):Nat→List TSent→Bool
 | _,[]=>true
 | k,x::r=>sentGood next n k x && sentGo next n (k+1) r
def senderOk(s:TSender):Bool:=inB s.Next 0 255 && (inB s.Window 1 20 && (inB s.Done 0 1000000 && (decide ((s.Waiting.length:Int)≤s.Window) && sentGo s.Next s.Waiting.length 0 s.Waiting)))
theorem k_iSenderOk{B:Nat}{a:Option Addr}{c:Nat}{sD:TSender}{w:World}(hs:RdS B w a c sD.Waiting)(hm:sD.Waiting.length≤100000000)(hi:okDTSender sD) :
  Calls Tryz.prog 170 #[.agg #[.int .i64 sD.Next,.int .i64 sD.Window,.slice a sD.Waiting.length c,.int .i64 sD.Done]] w (Gives w (.bool (senderOk sD))):=by
 obtain⟨n,hn⟩:∃ n,sD.Waiting.length=n:=⟨_,rfl⟩
 have HN:=lH hn
 have HI:=lH hi;clear hi
 have HD:=lH (show senderOk sD=(inB sD.Next 0 255 && (inB sD.Window 1 20 && (inB sD.Done 0 1000000 && (decide ((n:Int)≤sD.Window) && sentGo sD.Next n 0 sD.Waiting))))by rw[senderOk,hn])
 rw[hn]at hm ⊢
 clear hn
 cases c0:inB sD.Next 0 255
 ·skip
  go_enter Tryz.func170,Tryz.ntmps170
  go_wp2_with (first|(go_at_call 120;refine gm (c_ibetween) ?_;intro x))
  go_ret
  exact Gives.mk (by rw[HD.out,c0];rfl)
 cases c1:inB sD.Window 1 20
 ·skip
  go_enter Tryz.func170,Tryz.ntmps170
  go_wp2_with (first|(go_at_call 120;refine gm (c_ibetween) ?_;intro x))
  go_ret
  exact Gives.mk (by rw[HD.out,c0,c1];rfl)
 cases c2:inB sD.Done 0 1000000
 ·skip
  go_enter Tryz.func170,Tryz.ntmps170
  go_wp2_with (first|(go_at_call 120;refine gm (c_ibetween) ?_;intro x))
  go_ret
  exact Gives.mk (by rw[HD.out,c0,c1,c2];rfl)
 have⟨hx1,hx2⟩:=inB_iff.1 c0
 have⟨hw1,hw2⟩:=inB_iff.1 c1
 by_cases hnw:(n:Int)≤sD.Window
 ·have kw:decide (sD.Window<(n:Int))=false:=by simp;omega
  have hn20:n≤20:=by omega
  have HD2:=lH (show senderOk sD=sentGo sD.Next n 0 sD.Waiting by rw[HD.out,c0,c1,c2,decide_eq_true hnw];rfl)
  clear HD
  go_enter Tryz.func170,Tryz.ntmps170
  go_wp2_with (first|(go_at_call 120;refine gm (c_ibetween) ?_;intro x))
  go_loopw [32] (fun v wr=>∃ k:Nat,v=.int .i64 k∧k≤n∧Hid (sentGo sD.Next n k (sD.Waiting.drop k)=sentGo sD.Next n 0 sD.Waiting)∧∃ X:Later (w.alloc (.cells #[.int .i64 sD.Next,.int .i64 sD.Window,.slice a n c,.int .i64 sD.Done] 69)),wr=X.w) (fun v _=>(n - intOf v).toNat)
  case atStart=>exact⟨0,rfl,by omega,rfl,Later.of⟩
  case round =>
   obtain⟨k,rfl,hk,HV,X,rfl⟩:=hrel
   by_cases h:k<n
   ·have hkl:k<sD.Waiting.length:=by have:=HN.out;omega
    obtain⟨eb,eoff,ex,rfl,ehb,ehd,eok,eh0,eh1⟩:=hs.atTSent hkl
    have hz:ex.Data.size≤9223372036854775807:=eok.2.1
    have EOK:=lH eok;clear eok hkl
    have EM:(sD.Next - n+k+256) % 256=(sD.Next - n+k) % 256:=Int.add_emod_right ..
    have EH:=lH EM;clear EM
    cases d1:inB ex.Data.size 1 40
    ·have HF:=lH (show senderOk sD=false by have:=HV.out;rw[ehd.out,sentGo,sentGood,d1]at this;rw[HD2.out,← this];rfl)
     cases d2:(ex.Seq == (sD.Next - n+k+256) % 256)
     ·have d3:(ex.Seq != (sD.Next - n+k+256) % 256)=true:=by rw[bne,d2];rfl
      go_wp2_with (first|(go_at_call 120;refine gm (c_ibetween) ?_;intro x))
      go_ret
      exact Gives.mk (by rw[HF.out];rfl)
     ·have d3:(ex.Seq != (sD.Next - n+k+256) % 256)=false:=by rw[bne,d2];rfl
      have D2:=lH d2;clear d2
      go_wp2_with (first|(go_at_call 120;refine gm (c_ibetween) ?_;intro x))
      go_ret
      exact Gives.mk (by rw[HF.out];rfl)
    ·cases d2:(ex.Seq == (sD.Next - n+k+256) % 256)
     ·have d3:(ex.Seq != (sD.Next - n+k+256) % 256)=true:=by rw[bne,d2];rfl
      have HF:=lH (show senderOk sD=false by have:=HV.out;rw[ehd.out,sentGo,sentGood,d1,d2]at this;rw[HD2.out,← this];rfl)
      go_wp2_with (first|(go_at_call 120;refine gm (c_ibetween) ?_;intro x))
      go_ret
      exact Gives.mk (by rw[HF.out];rfl)
     ·have d3:(ex.Seq != (sD.Next - n+k+256) % 256)=false:=by rw[bne,d2];rfl
      have HF:=lH (show sentGo sD.Next n (k+1) (sD.Waiting.drop (k+1))=sentGo sD.Next n 0 sD.Waiting by have:=HV.out;rw[ehd.out,sentGo,sentGood,d1,d2]at this;exact this)
      have D2:=lH d2;clear d2
      go_wp2_with (first|(go_at_call 120;refine gm (c_ibetween) ?_;intro x))
      go_roundw
      case rel=>exact⟨k+1,by go_num,by omega,HF,Later.of⟩
      case measure=>simp[intOf];omega
   ·have HF:=lH (show senderOk sD=true by have:=HV.out;rw[List.drop_of_length_le (by have:=HN.out;omega),sentGo]at this;rw[HD2.out,← this])
    go_wp2_with fail
    go_ret
    exact Gives.mk (by rw[HF.out];rfl)
 ·have kw:decide (sD.Window<(n:Int))=true:=by simp;omega
  have HD2:=lH (show senderOk sD=false by rw[HD.out,c0,c1,c2,decide_eq_false hnw];rfl)
  clear HD
  go_enter Tryz.func170,Tryz.ntmps170
  go_wp2_with (first|(go_at_call 120;refine gm (c_ibetween) ?_;intro x))
  go_ret
  exact Gives.mk (by rw[HD2.out];rfl)
theorem k_sSenderOk{B:Nat}{a:Option Addr}{c:Nat}{sD:TSender}{w:World}(hs:RdS B w a c sD.Waiting)(hm:sD.Waiting.length≤100000000)(hi:okDTSender sD) :
  Calls Tryz.prog 163 #[.agg #[.int .i64 sD.Next,.int .i64 sD.Window,.slice a sD.Waiting.length c,.int .i64 sD.Done]] w (Gives w (.bool (senderOk sD))):=by
 obtain⟨n,hn⟩:∃ n,sD.Waiting.length=n:=⟨_,rfl⟩
 have HN:=lH hn
 have HI:=lH hi;clear hi
 have HD:=lH (show senderOk sD=(inB sD.Next 0 255 && (inB sD.Window 1 20 && (inB sD.Done 0 1000000 && (decide ((n:Int)≤sD.Window) && sentGo sD.Next n 0 sD.Waiting))))by rw[senderOk,hn])
 rw[hn]at hm ⊢
 clear hn
 cases c0:inB sD.Next 0 255
 ·skip
  go_enter Tryz.func163,Tryz.ntmps163
  go_wp2_with (first|(go_at_call 82;refine gm (c_sl01In) ?_;intro x))
  go_ret
  exact Gives.mk (by rw[HD.out,c0];rfl)
 cases c1:inB sD.Window 1 20
 ·skip
  go_enter Tryz.func163,Tryz.ntmps163
  go_wp2_with (first|(go_at_call 82;refine gm (c_sl01In) ?_;intro x))
  go_ret
  exact Gives.mk (by rw[HD.out,c0,c1];rfl)
 cases c2:inB sD.Done 0 1000000
 ·skip
  go_enter Tryz.func163,Tryz.ntmps163
  go_wp2_with (first|(go_at_call 82;refine gm (c_sl01In) ?_;intro x))
  go_ret
  exact Gives.mk (by rw[HD.out,c0,c1,c2];rfl)
 have⟨hx1,hx2⟩:=inB_iff.1 c0
 have⟨hw1,hw2⟩:=inB_iff.1 c1
 by_cases hnw:(n:Int)≤sD.Window
 ·have kw:decide (sD.Window<(n:Int))=false:=by simp;omega
  have hn20:n≤20:=by omega
  have HD2:=lH (show senderOk sD=sentGo sD.Next n 0 sD.Waiting by rw[HD.out,c0,c1,c2,decide_eq_true hnw];rfl)
  clear HD
  go_enter Tryz.func163,Tryz.ntmps163
  go_wp2_with (first|(go_at_call 82;refine gm (c_sl01In) ?_;intro x))
  go_loopw [4] (fun v wr=>∃ k:Nat,v=.int .i64 k∧k≤n∧Hid (sentGo sD.Next n k (sD.Waiting.drop k)=sentGo sD.Next n 0 sD.Waiting)∧∃ X:Later (w.alloc (.cells #[.int .i64 sD.Next,.int .i64 sD.Window,.slice a n c,.int .i64 sD.Done] 69)),wr=X.w) (fun v _=>(n - intOf v).toNat)
  case atStart=>exact⟨0,rfl,by omega,rfl,Later.of⟩
  case round =>
   obtain⟨k,rfl,hk,HV,X,rfl⟩:=hrel
   by_cases h:k<n
   ·have hkl:k<sD.Waiting.length:=by have:=HN.out;omega
    obtain⟨eb,eoff,ex,rfl,ehb,ehd,eok,eh0,eh1⟩:=hs.atTSent hkl
    have hz:ex.Data.size≤9223372036854775807:=eok.2.1
    have EOK:=lH eok;clear eok hkl
    have EM:(sD.Next - n+k+256) % 256=(sD.Next - n+k) % 256:=Int.add_emod_right ..
    have EH:=lH EM;clear EM
    cases d1:inB ex.Data.size 1 40
    ·have HF:=lH (show senderOk sD=false by have:=HV.out;rw[ehd.out,sentGo,sentGood,d1]at this;rw[HD2.out,← this];rfl)
     cases d2:(ex.Seq == (sD.Next - n+k) % 256)
     ·have d3:(ex.Seq != (sD.Next - n+k) % 256)=true:=by rw[bne,d2];rfl
      go_wp2_with (first|(go_at_call 82;refine gm (c_sl01In) ?_;intro x))
      go_ret
      exact Gives.mk (by rw[HF.out];rfl)
     ·have d3:(ex.Seq != (sD.Next - n+k) % 256)=false:=by rw[bne,d2];rfl
      have D2:=lH d2;clear d2
      go_wp2_with (first|(go_at_call 82;refine gm (c_sl01In) ?_;intro x))
      go_ret
      exact Gives.mk (by rw[HF.out];rfl)
    ·cases d2:(ex.Seq == (sD.Next - n+k) % 256)
     ·have d3:(ex.Seq != (sD.Next - n+k) % 256)=true:=by rw[bne,d2];rfl
      have HF:=lH (show senderOk sD=false by have:=HV.out;rw[ehd.out,sentGo,sentGood,EH.out,d1,d2]at this;rw[HD2.out,← this];rfl)
      go_wp2_with (first|(go_at_call 82;refine gm (c_sl01In) ?_;intro x))
      go_ret
      exact Gives.mk (by rw[HF.out];rfl)
     ·have d3:(ex.Seq != (sD.Next - n+k) % 256)=false:=by rw[bne,d2];rfl
      have HF:=lH (show sentGo sD.Next n (k+1) (sD.Waiting.drop (k+1))=sentGo sD.Next n 0 sD.Waiting by have:=HV.out;rw[ehd.out,sentGo,sentGood,EH.out,d1,d2]at this;exact this)
      have D2:=lH d2;clear d2
      go_wp2_with (first|(go_at_call 82;refine gm (c_sl01In) ?_;intro x))
      go_roundw
      case rel=>exact⟨k+1,by go_num,by omega,HF,Later.of⟩
      case measure=>simp[intOf];omega
   ·have HF:=lH (show senderOk sD=true by have:=HV.out;rw[List.drop_of_length_le (by have:=HN.out;omega),sentGo]at this;rw[HD2.out,← this])
    go_wp2_with fail
    go_ret
    exact Gives.mk (by rw[HF.out];rfl)
 ·have kw:decide (sD.Window<(n:Int))=true:=by simp;omega
  have HD2:=lH (show senderOk sD=false by rw[HD.out,c0,c1,c2,decide_eq_false hnw];rfl)
  clear HD
  go_enter Tryz.func163,Tryz.ntmps163
  go_wp2_with (first|(go_at_call 82;refine gm (c_sl01In) ?_;intro x))
  go_ret
  exact Gives.mk (by rw[HD2.out];rfl)
