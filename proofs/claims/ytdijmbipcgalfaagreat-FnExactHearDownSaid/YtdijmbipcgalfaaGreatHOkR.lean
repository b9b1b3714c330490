/- The contracts of what says whether a recorder is valid, both sides. No condition but on sizes. -/
import Derived.Test.YtdijmbipcgalfaaGreatHM18
import Derived.Test.YtdijmbipcgalfaaGreatHFileO
namespace Go.Proofs.YtdijmbipcgalfaaGreat
set_option linter.unusedVariables false
open Go.ChangeShapes Go.WideShapes Go.ChangeAt Go.RowKit
variable {B c:Nat}{a:Option Addr}{w:World}
theorem RdS.toSlInt{B:Nat}{w:World}{a:Option Addr}{c:Nat}{l:List Int}(h:RdS B w a c l):Sl ae0 w a l:=fun i s hx=>by
 obtain⟨b,off,vs,h0,-,h2,h3,h4⟩:=h.2.2.2 i s hx
 exact⟨b,off,h0,h2,fun j v hv=>by
  obtain⟨rfl,-⟩:=h3
  have:=h4 j v hv
  rw[show Enc.size Int=(ae0 s).length from rfl]at this
  exact this⟩
def as2:List s8→Int
 | []=>0
 | s::r=>6+s.Data.size+as2 r
def J7(r:I9):Bool:=inB r.Room 0 4000 && (decide ((r.Dropped.length:Int)≤65536) && (J2 s6 s8.Id none r.Records && (decide (as2 r.Records≤r.Room) && X2 0 65535 r.Dropped)))
theorem ao4{α:Type}{l r:List α}{s:α}{k:Nat}(h:l.drop k=s::r):s∈l:=by
 have:s∈l.drop k:=by rw[h];simp
 exact List.mem_of_mem_drop this
theorem aJ9{s:s8}(h:s6 s=true):s.Data.size≤34:=by
 simp only[s6,Bool.and_eq_true,decide_eq_true_eq]at h;omega
theorem aQ8{α:Type}{good:α→Bool}{key:α→Int}:∀ {l:List α} {q:Option α},J2 good key q l=true→l.all good=true
 | [],_,_=>rfl
 | s::r,none,h=>by simp only[J2,Bool.and_eq_true]at h;simp only[List.all_cons,Bool.and_eq_true];exact⟨h.1,aQ8 h.2⟩
 | s::r,some q,h=>by simp only[J2,Bool.and_eq_true]at h;simp only[List.all_cons,Bool.and_eq_true];exact⟨h.1,aQ8 h.2.2⟩
theorem Y5{s:s8}(hz:s.Data.size≤34) :
  Calls Tryz.prog 337 #[.agg #[I s.Id,I s.Priority,I s.Time,.string s.Data]] w (b5 w (I (6+(s.Data.size:Int)))):=by
 have hz9:s.Data.size≤9223372036854775807:=by omega
 go_enter Tryz.func337,Tryz.ntmps337
 go_wp2_with fail
 go_ret
 exact b5.mk rfl
theorem az3{n:Nat}{l:List s8}{w0:World}(hs0:RdS B w0 a c l:=by exact sd)[g:d7 B w0 w](hn:l.length=n:=by exact sd)(hm:n≤100000000:=by exact sd)(hall:l.all s6=true:=by exact sd) :
  Calls Tryz.prog 298 #[.slice a n c] w (b5 w (I (as2 l))):=by
 have HN:=lH hn
 have HA:=lH hall;clear hall
 have hs:=hs0.to g;clear hs0
 clear hn
 go_enter Tryz.func298,Tryz.ntmps298
 go_wp2_with fail
 go_loopw [3,4] (fun u v wr=>∃ (k:Nat) (m:Int),v=I k∧u=I m∧k≤n∧0≤m∧m≤40*k∧Hid (m+as2 (l.drop k)=as2 l)∧∃ y:b7 w,wr=y.w) (fun _ v _=>(n - intOf v).toNat)
 case atStart=>exact⟨0,0,rfl,rfl,by omega,by omega,by omega,by rw[Hid];simp,b7.of⟩
 case round =>
  obtain⟨k,m,rfl,rfl,hk,hm0,hm1,HV,y,rfl⟩:=hrel
  by_cases h:k<n
  ·have hkl:k<l.length:=by have:=HN.out;omega
   obtain⟨eb,eoff,es,rfl,ehb,ehd,eok,eh0,eh1,eh2,eh3⟩:=hs.atTRecord hkl
   have hz:es.Data.size≤34:=aJ9 (List.all_eq_true.1 HA.out es (ao4 ehd.out))
   have hz9:es.Data.size≤9223372036854775807:=by omega
   have EOK:=lH eok;clear eok hkl
   have HF:=lH (show m+6+es.Data.size+as2 (l.drop (k+1))=as2 l by have:=HV.out;rw[ehd.out,as2]at this;omega)
   go_wp2_with fail
   go_roundw
   case rel=>exact⟨k+1,m+6+es.Data.size,by go_num,by go_num,by omega,by omega,by omega,HF,b7.of⟩
   case measure=>simp[intOf];omega
  ·have HF:=lH (show m=as2 l by have:=HV.out;rw[List.drop_of_length_le (by have:=HN.out;omega),as2]at this;omega)
   go_wp2_with fail
   go_ret
   exact b5.mk (by rw[HF.out];rfl)
theorem bi4{a2:Option Addr}{c2:Nat}{rr:I9}(hs:RdS B w a c rr.Records)(hs2:RdS B w a2 c2 rr.Dropped)(hm:rr.Records.length≤100000000)(hm2:rr.Dropped.length≤100000000) :
  Calls Tryz.prog 306 #[.agg #[I rr.Room,.slice a rr.Records.length c,.slice a2 rr.Dropped.length c2]] w (b5 w (.bool (J7 rr))):=by
 obtain⟨n,hn⟩:∃ n,rr.Records.length=n:=⟨_,rfl⟩
 obtain⟨nd,hnd⟩:∃ nd,rr.Dropped.length=nd:=⟨_,rfl⟩
 have HN:=lH hn
 have HND:=lH hnd
 have HD:=lH (show J7 rr=(inB rr.Room 0 4000 && (decide ((nd:Int)≤65536) && (J2 s6 s8.Id none rr.Records && (decide (as2 rr.Records≤rr.Room) && X2 0 65535 rr.Dropped))))by rw[J7,hnd])
 rw[hn]at hm ⊢
 rw[hnd]at hm2 ⊢
 clear hn hnd
 cases c0:inB rr.Room 0 4000
 ·go_enter Tryz.func306,Tryz.ntmps306
  go_wp2_with (first|(go_at_call 146;refine gm (d8) ?_;intro x))
  go_ret
  exact b5.mk (by rw[HD.out,c0];rfl)
 by_cases hr:nd≤65536
 ·have kr:decide (65536<(nd:Int))=false:=by simp;omega
  have hd3:decide ((nd:Int)≤65536)=true:=by simp;omega
  have⟨hro1,hro2⟩:=D8.1 c0
  have HD2:=lH (show J7 rr=(J2 s6 s8.Id none rr.Records && (decide (as2 rr.Records≤rr.Room) && X2 0 65535 rr.Dropped))by rw[HD.out,c0,hd3];rfl)
  clear HD hd3
  go_enter Tryz.func306,Tryz.ntmps306
  go_wp2_with (first|(go_at_call 146;refine gm (d8) ?_;intro x))
  clear c0 kr
  go_loopw [3,19] (fun u v wr=>∃ (k:Nat) (m:Int),v=I k∧k≤n∧Hid (J2 s6 s8.Id (N5 rr.Records k) (rr.Records.drop k)=J2 s6 s8.Id none rr.Records)∧u=I m∧0≤m∧m≤40*k∧Hid (m+as2 (rr.Records.drop k)=as2 rr.Records)∧∃ X:b7 (w.alloc (.cells #[I rr.Room,.slice a n c,.slice a2 nd c2] 82)),wr=X.w) (fun _ v _=>(n - intOf v).toNat)
  case atStart=>exact⟨0,0,rfl,by omega,rfl,rfl,by omega,by omega,by rw[Hid];simp,b7.of⟩
  case round =>
   obtain⟨k,m,rfl,hk,HV,rfl,hm0,hm1,HU,X,rfl⟩:=hrel
   by_cases h:k<n
   ·have hkl:k<rr.Records.length:=by have:=HN.out;omega
    obtain⟨eb,eoff,es,rfl,ehb,ehd,eok,eh0,eh1,eh2,eh3⟩:=hs.atTRecord hkl
    have hx1:es.Data.size≤9223372036854775807:=eok.2.2.2.1
    have EOK:=lH eok;clear eok hkl
    cases d1:s6 es
    ·have HF:=lH (show J2 s6 s8.Id none rr.Records=false by have:=HV.out;rw[ehd.out]at this;rw[← this];cases N5 rr.Records k<;>simp[J2,d1])
     go_wp2_with (first|((with_reducible refine rl ?_);(repeat(first|go_big_quiet_step (first|(go_at_call 270;exact b5.quiet (W8 om))|(go_at_call 337;exact b5.quiet (Y5 om)))|simp only[d1]));refine wpQuiet_nil ?_;intro x)|(go_at_call 270;refine gm (W8 om) ?_;intro x)|(go_at_call 337;refine gm (Y5 om) ?_;intro x))
     go_ret
     exact b5.mk (by rw[HD2.out,HF.out];rfl)
    ·have hz34:=aJ9 d1
     have HG:=lH (show m+(6+(es.Data.size:Int))+as2 (rr.Records.drop (k+1))=as2 rr.Records by have:=HU.out;rw[ehd.out,as2]at this;omega)
     by_cases hz0:k=0
     ·have HF:=lH (show J2 s6 s8.Id (N5 rr.Records (k+1)) (rr.Records.drop (k+1))=J2 s6 s8.Id none rr.Records by have:=HV.out;rw[ehd.out,hz0]at this;rw[R2 ehd.out,← this];simp[J2,N5,d1,hz0])
      have hz':decide (0<(k:Int))=false:=by simp;omega
      have hz2:decide (0<k)=false:=by simp;omega
      clear hz0
      go_wp2_with (first|((with_reducible refine rl ?_);(repeat(first|go_big_quiet_step (first|(go_at_call 270;exact b5.quiet (W8 om))|(go_at_call 337;exact b5.quiet (Y5 om)))|simp only[d1]|simp only[hz']|simp only[hz2]));refine wpQuiet_nil ?_;intro x)|(go_at_call 270;refine gm (W8 om) ?_;intro x)|(go_at_call 337;refine gm (Y5 om) ?_;intro x))
      go_roundw
      case rel=>exact⟨k+1,m+(6+es.Data.size),by go_num,by omega,HF,by go_num,by omega,by omega,HG,b7.of⟩
      case measure=>simp[intOf];omega
     ·obtain⟨fb,foff,fs,hbo,fhb,fhd,fok,fh0,fh1,fh2,fh3⟩:=hs.atTRecord (show k - 1<rr.Records.length by have:=HN.out;omega)
      simp only[Option.some.injEq,Addr.mk.injEq,and_true]at hbo
      obtain⟨rfl,rfl⟩:=hbo
      have FOK:=lH fok;clear fok
      have hz':decide (0<(k:Int))=true:=by simp;omega
      have hz2:decide (0<k)=true:=by simp;omega
      have hp:N5 rr.Records k=some fs:=by have:=R2 fhd.out;rwa[show k - 1+1=k from by omega]at this
      have HP:=lH hp;clear hp
      cases d2:decide (es.Id≤fs.Id)
      ·have HF:=lH (show J2 s6 s8.Id (N5 rr.Records (k+1)) (rr.Records.drop (k+1))=J2 s6 s8.Id none rr.Records by have:=HV.out;rw[ehd.out,HP.out]at this;rw[R2 ehd.out,← this];have h2:decide (fs.Id<es.Id)=true:=(by simp at d2 ⊢;omega);simp only[J2,d1,h2,Bool.true_and])
       go_wp2_with (first|((with_reducible refine rl ?_);(repeat(first|go_big_quiet_step (first|(go_at_call 270;exact b5.quiet (W8 om))|(go_at_call 337;exact b5.quiet (Y5 om)))|simp only[d1]|simp only[d2]|simp only[hz']|simp only[hz2]));refine wpQuiet_nil ?_;intro x)|(go_at_call 270;refine gm (W8 om) ?_;intro x)|(go_at_call 337;refine gm (Y5 om) ?_;intro x))
       go_roundw
       case rel=>exact⟨k+1,m+(6+es.Data.size),by go_num,by omega,HF,by go_num,by omega,by omega,HG,b7.of⟩
       case measure=>simp[intOf];omega
      ·have HF:=lH (show J2 s6 s8.Id none rr.Records=false by have:=HV.out;rw[ehd.out,HP.out]at this;rw[← this];have h2:decide (fs.Id<es.Id)=false:=(by simp at d2 ⊢;omega);simp only[J2,d1,h2,Bool.true_and,Bool.false_and])
       go_wp2_with (first|((with_reducible refine rl ?_);(repeat(first|go_big_quiet_step (first|(go_at_call 270;exact b5.quiet (W8 om))|(go_at_call 337;exact b5.quiet (Y5 om)))|simp only[d1]|simp only[d2]|simp only[hz']|simp only[hz2]));refine wpQuiet_nil ?_;intro x)|(go_at_call 270;refine gm (W8 om) ?_;intro x)|(go_at_call 337;refine gm (Y5 om) ?_;intro x))
       go_ret
       exact b5.mk (by rw[HD2.out,HF.out];rfl)
   ·have HALL:=lH (show J2 s6 s8.Id none rr.Records=true by have:=HV.out;rw[List.drop_of_length_le (by have:=HN.out;omega)]at this;rw[← this];cases N5 rr.Records k<;>rfl)
    have HM:=lH (show m=as2 rr.Records by have:=HU.out;rw[List.drop_of_length_le (by have:=HN.out;omega),as2]at this;omega)
    have hsl:=hs2.toSlInt
    have hln:rr.Dropped.length=nd:=HND.out
    cases d1:decide (rr.Room<m)
    ·have hu:decide (as2 rr.Records≤rr.Room)=true:=by rw[← HM.out];simp at d1 ⊢;omega
     have HE:=lH (show J7 rr=X2 0 65535 rr.Dropped by rw[HD2.out,HALL.out,hu];rfl)
     clear hu
     go_wp2_with (first|(go_at_call 146;refine gm (d8) ?_;intro x)|(go_at_call 325;refine gm (ac7) ?_;intro x))
     go_ret
     exact b5.mk (by rw[HE.out];rfl)
    ·have hu:decide (as2 rr.Records≤rr.Room)=false:=by rw[← HM.out];simp at d1 ⊢;omega
     have HE:=lH (show J7 rr=false by rw[HD2.out,HALL.out,hu];rfl)
     clear hu
     go_wp2_with (first|(go_at_call 146;refine gm (d8) ?_;intro x))
     go_ret
     exact b5.mk (by rw[HE.out];rfl)
 ·have kr:decide (65536<(nd:Int))=true:=by simp;omega
  have hd3:decide ((nd:Int)≤65536)=false:=by simp;omega
  go_enter Tryz.func306,Tryz.ntmps306
  go_wp2_with (first|(go_at_call 146;refine gm (d8) ?_;intro x))
  go_ret
  exact b5.mk (by rw[HD.out,c0,hd3];rfl)
theorem bi5{a2:Option Addr}{c2:Nat}{rr:I9}(hs:RdS B w a c rr.Records)(hs2:RdS B w a2 c2 rr.Dropped)(hm:rr.Records.length≤100000000)(hm2:rr.Dropped.length≤100000000) :
  Calls Tryz.prog 200 #[.agg #[I rr.Room,.slice a rr.Records.length c,.slice a2 rr.Dropped.length c2]] w (b5 w (.bool (J7 rr))):=by
 obtain⟨n,hn⟩:∃ n,rr.Records.length=n:=⟨_,rfl⟩
 obtain⟨nd,hnd⟩:∃ nd,rr.Dropped.length=nd:=⟨_,rfl⟩
 have HN:=lH hn
 have HND:=lH hnd
 have HD:=lH (show J7 rr=(inB rr.Room 0 4000 && (decide ((nd:Int)≤65536) && (J2 s6 s8.Id none rr.Records && (decide (as2 rr.Records≤rr.Room) && X2 0 65535 rr.Dropped))))by rw[J7,hnd])
 rw[hn]at hm ⊢
 rw[hnd]at hm2 ⊢
 clear hn hnd
 cases c0:inB rr.Room 0 4000
 ·go_enter Tryz.func200,Tryz.ntmps200
  go_wp2_with (first|(go_at_call 101;refine gm (f5) ?_;intro x))
  go_ret
  exact b5.mk (by rw[HD.out,c0];rfl)
 by_cases hr:nd≤65536
 ·have kr:decide (65536<(nd:Int))=false:=by simp;omega
  have hd3:decide ((nd:Int)≤65536)=true:=by simp;omega
  have⟨hro1,hro2⟩:=D8.1 c0
  have HD2:=lH (show J7 rr=(J2 s6 s8.Id none rr.Records && (decide (as2 rr.Records≤rr.Room) && X2 0 65535 rr.Dropped))by rw[HD.out,c0,hd3];rfl)
  clear HD hd3
  go_enter Tryz.func200,Tryz.ntmps200
  go_wp2_with (first|(go_at_call 101;refine gm (f5) ?_;intro x))
  clear c0 kr
  go_loopw [3] (fun v wr=>∃ k:Nat,v=I k∧k≤nd∧Hid (X2 0 65535 (rr.Dropped.drop k)=X2 0 65535 rr.Dropped)∧∃ X:b7 (w.alloc (.cells #[I rr.Room,.slice a n c,.slice a2 nd c2] 82)),wr=X.w) (fun v _=>(nd - intOf v).toNat)
  case atStart=>exact⟨0,rfl,by omega,rfl,b7.of⟩
  case round =>
   obtain⟨k,rfl,hk,HV,X,rfl⟩:=hrel
   by_cases h:k<nd
   ·have hkl:k<rr.Dropped.length:=by have:=HND.out;omega
    obtain⟨eb,eoff,es,rfl,ehb,ehd,eok,eh0⟩:=hs2.atInt hkl
    have EOK:=lH eok;clear eok hkl
    cases d1:inB es 0 65535
    ·have HF:=lH (show X2 0 65535 rr.Dropped=false by have:=HV.out;rw[ehd.out,X2,d1]at this;rw[← this];rfl)
     go_wp2_with (first|(go_at_call 101;refine gm (f5) ?_;intro x))
     go_ret
     exact b5.mk (by rw[HD2.out,HF.out];simp)
    ·have HF:=lH (show X2 0 65535 (rr.Dropped.drop (k+1))=X2 0 65535 rr.Dropped by have:=HV.out;rw[ehd.out,X2,d1]at this;exact this)
     go_wp2_with (first|(go_at_call 101;refine gm (f5) ?_;intro x))
     go_roundw
     case rel=>exact⟨k+1,by go_num,by omega,HF,b7.of⟩
     case measure=>simp[intOf];omega
   ·have HB:=lH (show X2 0 65535 rr.Dropped=true by have:=HV.out;rw[List.drop_of_length_le (by have:=HND.out;omega),X2]at this;rw[← this])
    clear HV
    go_wp2_with fail
    go_loopw [4] (fun v wr=>∃ (k:Nat),v=I k∧k≤n∧Hid (J2 s6 s8.Id (N5 rr.Records k) (rr.Records.drop k)=J2 s6 s8.Id none rr.Records)∧∃ X:b7 (w.alloc (.cells #[I rr.Room,.slice a n c,.slice a2 nd c2] 82)),wr=X.w) (fun v _=>(n - intOf v).toNat)
    case atStart=>exact⟨0,rfl,by omega,rfl,b7.of⟩
    case round =>
     obtain⟨k,rfl,hk,HV,X,rfl⟩:=hrel
     by_cases h:k<n
     ·have hkl:k<rr.Records.length:=by have:=HN.out;omega
      obtain⟨eb,eoff,es,rfl,ehb,ehd,eok,eh0,eh1,eh2,eh3⟩:=hs.atTRecord hkl
      have hx1:es.Data.size≤9223372036854775807:=eok.2.2.2.1
      have EOK:=lH eok;clear eok hkl
      cases d1:s6 es
      ·have HF:=lH (show J2 s6 s8.Id none rr.Records=false by have:=HV.out;rw[ehd.out]at this;rw[← this];cases N5 rr.Records k<;>simp[J2,d1])
       go_wp2_with (first|((with_reducible refine rl ?_);(repeat(first|go_big_quiet_step (first|(go_at_call 201;exact b5.quiet (X0 om)))|simp only[d1]));refine wpQuiet_nil ?_;intro x)|(go_at_call 201;refine gm (X0 om) ?_;intro x))
       go_ret
       exact b5.mk (by rw[HD2.out,HF.out];rfl)
      ·skip
       by_cases hz0:k=0
       ·have HF:=lH (show J2 s6 s8.Id (N5 rr.Records (k+1)) (rr.Records.drop (k+1))=J2 s6 s8.Id none rr.Records by have:=HV.out;rw[ehd.out,hz0]at this;rw[R2 ehd.out,← this];simp[J2,N5,d1,hz0])
        have hz':decide (0<(k:Int))=false:=by simp;omega
        have hz2:decide (0<k)=false:=by simp;omega
        clear hz0
        go_wp2_with (first|((with_reducible refine rl ?_);(repeat(first|go_big_quiet_step (first|(go_at_call 201;exact b5.quiet (X0 om)))|simp only[d1]|simp only[hz']|simp only[hz2]));refine wpQuiet_nil ?_;intro x)|(go_at_call 201;refine gm (X0 om) ?_;intro x))
        go_roundw
        case rel=>exact⟨k+1,by go_num,by omega,HF,b7.of⟩
        case measure=>simp[intOf];omega
       ·obtain⟨fb,foff,fs,hbo,fhb,fhd,fok,fh0,fh1,fh2,fh3⟩:=hs.atTRecord (show k - 1<rr.Records.length by have:=HN.out;omega)
        simp only[Option.some.injEq,Addr.mk.injEq,and_true]at hbo
        obtain⟨rfl,rfl⟩:=hbo
        have FOK:=lH fok;clear fok
        have hz':decide (0<(k:Int))=true:=by simp;omega
        have hz2:decide (0<k)=true:=by simp;omega
        have hp:N5 rr.Records k=some fs:=by have:=R2 fhd.out;rwa[show k - 1+1=k from by omega]at this
        have HP:=lH hp;clear hp
        cases d2:decide (es.Id≤fs.Id)
        ·have HF:=lH (show J2 s6 s8.Id (N5 rr.Records (k+1)) (rr.Records.drop (k+1))=J2 s6 s8.Id none rr.Records by have:=HV.out;rw[ehd.out,HP.out]at this;rw[R2 ehd.out,← this];have h2:decide (fs.Id<es.Id)=true:=(by simp at d2 ⊢;omega);simp only[J2,d1,h2,Bool.true_and])
         go_wp2_with (first|((with_reducible refine rl ?_);(repeat(first|go_big_quiet_step (first|(go_at_call 201;exact b5.quiet (X0 om)))|simp only[d1]|simp only[d2]|simp only[hz']|simp only[hz2]));refine wpQuiet_nil ?_;intro x)|(go_at_call 201;refine gm (X0 om) ?_;intro x))
         go_roundw
         case rel=>exact⟨k+1,by go_num,by omega,HF,b7.of⟩
         case measure=>simp[intOf];omega
        ·have HF:=lH (show J2 s6 s8.Id none rr.Records=false by have:=HV.out;rw[ehd.out,HP.out]at this;rw[← this];have h2:decide (fs.Id<es.Id)=false:=(by simp at d2 ⊢;omega);simp only[J2,d1,h2,Bool.true_and,Bool.false_and])
         go_wp2_with (first|((with_reducible refine rl ?_);(repeat(first|go_big_quiet_step (first|(go_at_call 201;exact b5.quiet (X0 om)))|simp only[d1]|simp only[d2]|simp only[hz']|simp only[hz2]));refine wpQuiet_nil ?_;intro x)|(go_at_call 201;refine gm (X0 om) ?_;intro x))
         go_ret
         exact b5.mk (by rw[HD2.out,HF.out];rfl)
     ·have HALL:=lH (show J2 s6 s8.Id none rr.Records=true by have:=HV.out;rw[List.drop_of_length_le (by have:=HN.out;omega)]at this;rw[← this];cases N5 rr.Records k<;>rfl)
      have hall:=aQ8 HALL.out
      have hln:rr.Records.length=n:=HN.out
      cases d1:decide (as2 rr.Records≤rr.Room)
      ·have HE:=lH (show J7 rr=false by rw[HD2.out,HALL.out,d1];rfl)
       go_wp2_with (first|((with_reducible refine rl ?_);(repeat(first|go_big_quiet_step (first|(go_at_call 298;exact b5.quiet (az3)))|simp only[d1]));refine wpQuiet_nil ?_;intro x)|(go_at_call 298;refine gm (az3) ?_;intro x))
       go_ret
       exact b5.mk (by rw[HE.out];first|rfl|(rw[d1]))
      ·have HE:=lH (show J7 rr=true by rw[HD2.out,HALL.out,d1,HB.out];rfl)
       go_wp2_with (first|((with_reducible refine rl ?_);(repeat(first|go_big_quiet_step (first|(go_at_call 298;exact b5.quiet (az3)))|simp only[d1]));refine wpQuiet_nil ?_;intro x)|(go_at_call 298;refine gm (az3) ?_;intro x))
       go_ret
       exact b5.mk (by rw[HE.out];first|rfl|(rw[d1]))
 ·have kr:decide (65536<(nd:Int))=true:=by simp;omega
  have hd3:decide ((nd:Int)≤65536)=false:=by simp;omega
  go_enter Tryz.func200,Tryz.ntmps200
  go_wp2_with (first|(go_at_call 101;refine gm (f5) ?_;intro x))
  go_ret
  exact b5.mk (by rw[HD.out,c0,hd3];rfl)
