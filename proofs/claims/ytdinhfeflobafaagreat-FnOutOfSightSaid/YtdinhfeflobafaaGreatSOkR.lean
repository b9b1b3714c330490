/- The contracts of what says whether a recorder is valid, both sides. No condition but on sizes. -/
import Derived.Test.YtdinhfeflobafaaGreatSM12
import Derived.Test.YtdinhfeflobafaaGreatSM5
namespace Go.Proofs.YtdinhfeflobafaaGreat
set_option linter.unusedVariables false
open Go.ChangeShapes Go.WideShapes Go.ChangeAt Go.RowKit
theorem RdS.toSlInt{B:Nat}{w:World}{a:Option Addr}{c:Nat}{l:List Int}(h:RdS B w a c l):Sl encInt w a l:=fun i s hx=>by
 obtain⟨b,off,vs,h0,-,h2,h3,h4⟩:=h.2.2.2 i s hx
 exact⟨b,off,h0,h2,fun j v hv=>by
  obtain⟨rfl,-⟩:=h3
  have:=h4 j v hv
  rw[show Enc.size Int=(encInt s).length from rfl]at this
  exact this⟩
def used:List TRecord→Int
 | []=>0
 | s::r=>6+s.Data.size+used r
def recorderOk(r:TRecorder):Bool:=inB r.Room 0 4000 && (decide ((r.Dropped.length:Int)≤65536) && (ascGo recordOk TRecord.Id none r.Records && (decide (used r.Records≤r.Room) && allB 0 65535 r.Dropped)))
theorem memDrop{α:Type}{l r:List α}{s:α}{k:Nat}(h:l.drop k=s::r):s∈l:=by
 have:s∈l.drop k:=by rw[h];simp
 exact List.mem_of_mem_drop this
theorem recordOk_size{s:TRecord}(h:recordOk s=true):s.Data.size≤34:=by
 simp only[recordOk,Bool.and_eq_true,decide_eq_true_eq]at h;omega
theorem ascGo_all{α:Type}{good:α→Bool}{key:α→Int}:∀ {l:List α} {q:Option α},ascGo good key q l=true→l.all good=true
 | [],_,_=>rfl
 | s::r,none,h=>by simp only[ascGo,Bool.and_eq_true]at h;simp only[List.all_cons,Bool.and_eq_true];exact⟨h.1,ascGo_all h.2⟩
 | s::r,some q,h=>by simp only[ascGo,Bool.and_eq_true]at h;simp only[List.all_cons,Bool.and_eq_true];exact⟨h.1,ascGo_all h.2.2⟩
theorem k_irecordSize{s:TRecord}{w:World}(hz:s.Data.size≤34) :
  Calls Tryz.prog 322 #[.agg #[.int .i64 s.Id,.int .i64 s.Priority,.int .i64 s.Time,.string s.Data]] w (Gives w (.int .i64 (6+(s.Data.size:Int)))):=by
 have hz9:s.Data.size≤9223372036854775807:=by omega
 go_enter Tryz.func322,Tryz.ntmps322
 go_wp2_with fail
 go_ret
 exact Gives.mk rfl
theorem k_sl05Used{B n:Nat}{a:Option Addr}{c:Nat}{l:List TRecord}{w0 w:World}(hs0:RdS B w0 a c l:=by first|assumption|(apply Sl.to<;>first|assumption|infer_instance)|omega)[g:Keeps B w0 w](hn:l.length=n:=by first|assumption|(apply Sl.to<;>first|assumption|infer_instance)|omega)(hm:n≤100000000:=by first|assumption|(apply Sl.to<;>first|assumption|infer_instance)|omega)(hall:l.all recordOk=true:=by first|assumption|(apply Sl.to<;>first|assumption|infer_instance)|omega) :
  Calls Tryz.prog 315 #[.slice a n c] w (Gives w (.int .i64 (used l))):=by
 have HN:=lH hn
 have HA:=lH hall;clear hall
 have hs:=hs0.to g;clear hs0
 clear hn
 go_enter Tryz.func315,Tryz.ntmps315
 go_wp2_with fail
 go_loopw [3,4] (fun u v wr=>∃ (k:Nat) (m:Int),v=.int .i64 k∧u=.int .i64 m∧k≤n∧0≤m∧m≤40*k∧Hid (m+used (l.drop k)=used l)∧∃ y:Later w,wr=y.w) (fun _ v _=>(n - intOf v).toNat)
 case atStart=>exact⟨0,0,rfl,rfl,by omega,by omega,by omega,by rw[Hid];simp,Later.of⟩
 case round =>
  obtain⟨k,m,rfl,rfl,hk,hm0,hm1,HV,y,rfl⟩:=hrel
  by_cases h:k<n
  ·have hkl:k<l.length:=by have:=HN.out;omega
   obtain⟨eb,eoff,es,rfl,ehb,ehd,eok,eh0,eh1,eh2,eh3⟩:=hs.atTRecord hkl
   have hz:es.Data.size≤34:=recordOk_size (List.all_eq_true.1 HA.out es (memDrop ehd.out))
   have hz9:es.Data.size≤9223372036854775807:=by omega
   have EOK:=lH eok;clear eok hkl
   have HF:=lH (show m+6+es.Data.size+used (l.drop (k+1))=used l by have:=HV.out;rw[ehd.out,used]at this;omega)
   go_wp2_with fail
   go_roundw
   case rel=>exact⟨k+1,m+6+es.Data.size,by go_num,by go_num,by omega,by omega,by omega,HF,Later.of⟩
   case measure=>simp[intOf];omega
  ·have HF:=lH (show m=used l by have:=HV.out;rw[List.drop_of_length_le (by have:=HN.out;omega),used]at this;omega)
   go_wp2_with fail
   go_ret
   exact Gives.mk (by rw[HF.out];rfl)
theorem k_iRecorderOk{B:Nat}{a a2:Option Addr}{c c2:Nat}{rr:TRecorder}{w:World}(hs:RdS B w a c rr.Records)(hs2:RdS B w a2 c2 rr.Dropped)(hm:rr.Records.length≤100000000)(hm2:rr.Dropped.length≤100000000) :
  Calls Tryz.prog 254 #[.agg #[.int .i64 rr.Room,.slice a rr.Records.length c,.slice a2 rr.Dropped.length c2]] w (Gives w (.bool (recorderOk rr))):=by
 obtain⟨n,hn⟩:∃ n,rr.Records.length=n:=⟨_,rfl⟩
 obtain⟨nd,hnd⟩:∃ nd,rr.Dropped.length=nd:=⟨_,rfl⟩
 have HN:=lH hn
 have HND:=lH hnd
 have HD:=lH (show recorderOk rr=(inB rr.Room 0 4000 && (decide ((nd:Int)≤65536) && (ascGo recordOk TRecord.Id none rr.Records && (decide (used rr.Records≤rr.Room) && allB 0 65535 rr.Dropped))))by rw[recorderOk,hnd])
 rw[hn]at hm ⊢
 rw[hnd]at hm2 ⊢
 clear hn hnd
 cases c0:inB rr.Room 0 4000
 ·go_enter Tryz.func254,Tryz.ntmps254
  go_wp2_with (first|(go_at_call 85;refine(c_ibetween).mono ?_;rintro _ _ ⟨rfl,x,rfl⟩))
  go_ret
  exact Gives.mk (by rw[HD.out,c0];rfl)
 by_cases hr:nd≤65536
 ·have kr:decide (65536<(nd:Int))=false:=by simp;omega
  have hd3:decide ((nd:Int)≤65536)=true:=by simp;omega
  have⟨hro1,hro2⟩:=inB_iff.1 c0
  have HD2:=lH (show recorderOk rr=(ascGo recordOk TRecord.Id none rr.Records && (decide (used rr.Records≤rr.Room) && allB 0 65535 rr.Dropped))by rw[HD.out,c0,hd3];rfl)
  clear HD hd3
  go_enter Tryz.func254,Tryz.ntmps254
  go_wp2_with (first|(go_at_call 85;refine(c_ibetween).mono ?_;rintro _ _ ⟨rfl,x,rfl⟩))
  clear c0 kr
  go_loopw [3,19] (fun u v wr=>∃ (k:Nat) (m:Int),v=.int .i64 k∧k≤n∧Hid (ascGo recordOk TRecord.Id (prevOf rr.Records k) (rr.Records.drop k)=ascGo recordOk TRecord.Id none rr.Records)∧u=.int .i64 m∧0≤m∧m≤40*k∧Hid (m+used (rr.Records.drop k)=used rr.Records)∧∃ X:Later (w.alloc (.cells #[.int .i64 rr.Room,.slice a n c,.slice a2 nd c2] 82)),wr=X.w) (fun _ v _=>(n - intOf v).toNat)
  case atStart=>exact⟨0,0,rfl,by omega,rfl,rfl,by omega,by omega,by rw[Hid];simp,Later.of⟩
  case round =>
   obtain⟨k,m,rfl,hk,HV,rfl,hm0,hm1,HU,X,rfl⟩:=hrel
   by_cases h:k<n
   ·have hkl:k<rr.Records.length:=by have:=HN.out;omega
    obtain⟨eb,eoff,es,rfl,ehb,ehd,eok,eh0,eh1,eh2,eh3⟩:=hs.atTRecord hkl
    have hx1:es.Data.size≤9223372036854775807:=eok.2.2.2.1
    have EOK:=lH eok;clear eok hkl
    cases d1:recordOk es
    ·have HF:=lH (show ascGo recordOk TRecord.Id none rr.Records=false by have:=HV.out;rw[ehd.out]at this;rw[← this];cases prevOf rr.Records k<;>simp[ascGo,d1])
     go_wp2_with (first|((with_reducible refine wp_region_later (by kernel_rfl) (by kernel_rfl) ?_);(repeat(first|go_big_quiet_step (first|(go_at_call 321;exact Gives.quiet (k_iRecordOk (by omega)))|(go_at_call 322;exact Gives.quiet (k_irecordSize (by omega))))|simp only[d1]));refine wpQuiet_nil ?_;rintro _ ⟨x,rfl⟩)|(go_at_call 321;refine(k_iRecordOk (by omega)).mono ?_;rintro _ _ ⟨rfl,x,rfl⟩)|(go_at_call 322;refine(k_irecordSize (by omega)).mono ?_;rintro _ _ ⟨rfl,x,rfl⟩))
     go_ret
     exact Gives.mk (by rw[HD2.out,HF.out];rfl)
    ·have hz34:=recordOk_size d1
     have HG:=lH (show m+(6+(es.Data.size:Int))+used (rr.Records.drop (k+1))=used rr.Records by have:=HU.out;rw[ehd.out,used]at this;omega)
     by_cases hz0:k=0
     ·have HF:=lH (show ascGo recordOk TRecord.Id (prevOf rr.Records (k+1)) (rr.Records.drop (k+1))=ascGo recordOk TRecord.Id none rr.Records by have:=HV.out;rw[ehd.out,hz0]at this;rw[prevOf_succ ehd.out,← this];simp[ascGo,prevOf,d1,hz0])
      have hz':decide (0<(k:Int))=false:=by simp;omega
      have hz2:decide (0<k)=false:=by simp;omega
      clear hz0
      go_wp2_with (first|((with_reducible refine wp_region_later (by kernel_rfl) (by kernel_rfl) ?_);(repeat(first|go_big_quiet_step (first|(go_at_call 321;exact Gives.quiet (k_iRecordOk (by omega)))|(go_at_call 322;exact Gives.quiet (k_irecordSize (by omega))))|simp only[d1]|simp only[hz']|simp only[hz2]));refine wpQuiet_nil ?_;rintro _ ⟨x,rfl⟩)|(go_at_call 321;refine(k_iRecordOk (by omega)).mono ?_;rintro _ _ ⟨rfl,x,rfl⟩)|(go_at_call 322;refine(k_irecordSize (by omega)).mono ?_;rintro _ _ ⟨rfl,x,rfl⟩))
      go_roundw
      case rel=>exact⟨k+1,m+(6+es.Data.size),by go_num,by omega,HF,by go_num,by omega,by omega,HG,Later.of⟩
      case measure=>simp[intOf];omega
     ·obtain⟨fb,foff,fs,hbo,fhb,fhd,fok,fh0,fh1,fh2,fh3⟩:=hs.atTRecord (show k - 1<rr.Records.length by have:=HN.out;omega)
      simp only[Option.some.injEq,Addr.mk.injEq,and_true]at hbo
      obtain⟨rfl,rfl⟩:=hbo
      have FOK:=lH fok;clear fok
      have hz':decide (0<(k:Int))=true:=by simp;omega
      have hz2:decide (0<k)=true:=by simp;omega
      have hp:prevOf rr.Records k=some fs:=by have:=prevOf_succ fhd.out;rwa[show k - 1+1=k from by omega]at this
      have HP:=lH hp;clear hp
      cases d2:decide (es.Id≤fs.Id)
      ·have HF:=lH (show ascGo recordOk TRecord.Id (prevOf rr.Records (k+1)) (rr.Records.drop (k+1))=ascGo recordOk TRecord.Id none rr.Records by have:=HV.out;rw[ehd.out,HP.out]at this;rw[prevOf_succ ehd.out,← this];have h2:decide (fs.Id<es.Id)=true:=(by simp at d2 ⊢;omega);simp only[ascGo,d1,h2,Bool.true_and])
       go_wp2_with (first|((with_reducible refine wp_region_later (by kernel_rfl) (by kernel_rfl) ?_);(repeat(first|go_big_quiet_step (first|(go_at_call 321;exact Gives.quiet (k_iRecordOk (by omega)))|(go_at_call 322;exact Gives.quiet (k_irecordSize (by omega))))|simp only[d1]|simp only[d2]|simp only[hz']|simp only[hz2]));refine wpQuiet_nil ?_;rintro _ ⟨x,rfl⟩)|(go_at_call 321;refine(k_iRecordOk (by omega)).mono ?_;rintro _ _ ⟨rfl,x,rfl⟩)|(go_at_call 322;refine(k_irecordSize (by omega)).mono ?_;rintro _ _ ⟨rfl,x,rfl⟩))
       go_roundw
       case rel=>exact⟨k+1,m+(6+es.Data.size),by go_num,by omega,HF,by go_num,by omega,by omega,HG,Later.of⟩
       case measure=>simp[intOf];omega
      ·have HF:=lH (show ascGo recordOk TRecord.Id none rr.Records=false by have:=HV.out;rw[ehd.out,HP.out]at this;rw[← this];have h2:decide (fs.Id<es.Id)=false:=(by simp at d2 ⊢;omega);simp only[ascGo,d1,h2,Bool.true_and,Bool.false_and])
       go_wp2_with (first|((with_reducible refine wp_region_later (by kernel_rfl) (by kernel_rfl) ?_);(repeat(first|go_big_quiet_step (first|(go_at_call 321;exact Gives.quiet (k_iRecordOk (by omega)))|(go_at_call 322;exact Gives.quiet (k_irecordSize (by omega))))|simp only[d1]|simp only[d2]|simp only[hz']|simp only[hz2]));refine wpQuiet_nil ?_;rintro _ ⟨x,rfl⟩)|(go_at_call 321;refine(k_iRecordOk (by omega)).mono ?_;rintro _ _ ⟨rfl,x,rfl⟩)|(go_at_call 322;refine(k_irecordSize (by omega)).mono ?_;rintro _ _ ⟨rfl,x,rfl⟩))
       go_ret
       exact Gives.mk (by rw[HD2.out,HF.out];rfl)
   ·have HALL:=lH (show ascGo recordOk TRecord.Id none rr.Records=true by have:=HV.out;rw[List.drop_of_length_le (by have:=HN.out;omega)]at this;rw[← this];cases prevOf rr.Records k<;>rfl)
    have HM:=lH (show m=used rr.Records by have:=HU.out;rw[List.drop_of_length_le (by have:=HN.out;omega),used]at this;omega)
    have hsl:=hs2.toSlInt
    have hln:rr.Dropped.length=nd:=HND.out
    cases d1:decide (rr.Room<m)
    ·have hu:decide (used rr.Records≤rr.Room)=true:=by rw[← HM.out];simp at d1 ⊢;omega
     have HE:=lH (show recorderOk rr=allB 0 65535 rr.Dropped by rw[HD2.out,HALL.out,hu];rfl)
     clear hu
     go_wp2_with (first|(go_at_call 85;refine(c_ibetween).mono ?_;rintro _ _ ⟨rfl,x,rfl⟩)|(go_at_call 210;refine(c_iallBetween).mono ?_;rintro _ _ ⟨rfl,x,rfl⟩))
     go_ret
     exact Gives.mk (by rw[HE.out];rfl)
    ·have hu:decide (used rr.Records≤rr.Room)=false:=by rw[← HM.out];simp at d1 ⊢;omega
     have HE:=lH (show recorderOk rr=false by rw[HD2.out,HALL.out,hu];rfl)
     clear hu
     go_wp2_with (first|(go_at_call 85;refine(c_ibetween).mono ?_;rintro _ _ ⟨rfl,x,rfl⟩))
     go_ret
     exact Gives.mk (by rw[HE.out];rfl)
 ·have kr:decide (65536<(nd:Int))=true:=by simp;omega
  have hd3:decide ((nd:Int)≤65536)=false:=by simp;omega
  go_enter Tryz.func254,Tryz.ntmps254
  go_wp2_with (first|(go_at_call 85;refine(c_ibetween).mono ?_;rintro _ _ ⟨rfl,x,rfl⟩))
  go_ret
  exact Gives.mk (by rw[HD.out,c0,hd3];rfl)
theorem k_sRecorderOk{B:Nat}{a a2:Option Addr}{c c2:Nat}{rr:TRecorder}{w:World}(hs:RdS B w a c rr.Records)(hs2:RdS B w a2 c2 rr.Dropped)(hm:rr.Records.length≤100000000)(hm2:rr.Dropped.length≤100000000) :
  Calls Tryz.prog 228 #[.agg #[.int .i64 rr.Room,.slice a rr.Records.length c,.slice a2 rr.Dropped.length c2]] w (Gives w (.bool (recorderOk rr))):=by
 obtain⟨n,hn⟩:∃ n,rr.Records.length=n:=⟨_,rfl⟩
 obtain⟨nd,hnd⟩:∃ nd,rr.Dropped.length=nd:=⟨_,rfl⟩
 have HN:=lH hn
 have HND:=lH hnd
 have HD:=lH (show recorderOk rr=(inB rr.Room 0 4000 && (decide ((nd:Int)≤65536) && (ascGo recordOk TRecord.Id none rr.Records && (decide (used rr.Records≤rr.Room) && allB 0 65535 rr.Dropped))))by rw[recorderOk,hnd])
 rw[hn]at hm ⊢
 rw[hnd]at hm2 ⊢
 clear hn hnd
 cases c0:inB rr.Room 0 4000
 ·go_enter Tryz.func228,Tryz.ntmps228
  go_wp2_with (first|(go_at_call 88;refine(c_sl01In).mono ?_;rintro _ _ ⟨rfl,x,rfl⟩))
  go_ret
  exact Gives.mk (by rw[HD.out,c0];rfl)
 by_cases hr:nd≤65536
 ·have kr:decide (65536<(nd:Int))=false:=by simp;omega
  have hd3:decide ((nd:Int)≤65536)=true:=by simp;omega
  have⟨hro1,hro2⟩:=inB_iff.1 c0
  have HD2:=lH (show recorderOk rr=(ascGo recordOk TRecord.Id none rr.Records && (decide (used rr.Records≤rr.Room) && allB 0 65535 rr.Dropped))by rw[HD.out,c0,hd3];rfl)
  clear HD hd3
  go_enter Tryz.func228,Tryz.ntmps228
  go_wp2_with (first|(go_at_call 88;refine(c_sl01In).mono ?_;rintro _ _ ⟨rfl,x,rfl⟩))
  clear c0 kr
  go_loopw [3] (fun v wr=>∃ k:Nat,v=.int .i64 k∧k≤nd∧Hid (allB 0 65535 (rr.Dropped.drop k)=allB 0 65535 rr.Dropped)∧∃ X:Later (w.alloc (.cells #[.int .i64 rr.Room,.slice a n c,.slice a2 nd c2] 82)),wr=X.w) (fun v _=>(nd - intOf v).toNat)
  case atStart=>exact⟨0,rfl,by omega,rfl,Later.of⟩
  case round =>
   obtain⟨k,rfl,hk,HV,X,rfl⟩:=hrel
   by_cases h:k<nd
   ·have hkl:k<rr.Dropped.length:=by have:=HND.out;omega
    obtain⟨eb,eoff,es,rfl,ehb,ehd,eok,eh0⟩:=hs2.atInt hkl
    have EOK:=lH eok;clear eok hkl
    cases d1:inB es 0 65535
    ·have HF:=lH (show allB 0 65535 rr.Dropped=false by have:=HV.out;rw[ehd.out,allB,d1]at this;rw[← this];rfl)
     go_wp2_with (first|(go_at_call 88;refine(c_sl01In).mono ?_;rintro _ _ ⟨rfl,x,rfl⟩))
     go_ret
     exact Gives.mk (by rw[HD2.out,HF.out];simp)
    ·have HF:=lH (show allB 0 65535 (rr.Dropped.drop (k+1))=allB 0 65535 rr.Dropped by have:=HV.out;rw[ehd.out,allB,d1]at this;exact this)
     go_wp2_with (first|(go_at_call 88;refine(c_sl01In).mono ?_;rintro _ _ ⟨rfl,x,rfl⟩))
     go_roundw
     case rel=>exact⟨k+1,by go_num,by omega,HF,Later.of⟩
     case measure=>simp[intOf];omega
   ·have HB:=lH (show allB 0 65535 rr.Dropped=true by have:=HV.out;rw[List.drop_of_length_le (by have:=HND.out;omega),allB]at this;rw[← this])
    clear HV
    go_wp2_with fail
    go_loopw [4] (fun v wr=>∃ (k:Nat),v=.int .i64 k∧k≤n∧Hid (ascGo recordOk TRecord.Id (prevOf rr.Records k) (rr.Records.drop k)=ascGo recordOk TRecord.Id none rr.Records)∧∃ X:Later (w.alloc (.cells #[.int .i64 rr.Room,.slice a n c,.slice a2 nd c2] 82)),wr=X.w) (fun v _=>(n - intOf v).toNat)
    case atStart=>exact⟨0,rfl,by omega,rfl,Later.of⟩
    case round =>
     obtain⟨k,rfl,hk,HV,X,rfl⟩:=hrel
     by_cases h:k<n
     ·have hkl:k<rr.Records.length:=by have:=HN.out;omega
      obtain⟨eb,eoff,es,rfl,ehb,ehd,eok,eh0,eh1,eh2,eh3⟩:=hs.atTRecord hkl
      have hx1:es.Data.size≤9223372036854775807:=eok.2.2.2.1
      have EOK:=lH eok;clear eok hkl
      cases d1:recordOk es
      ·have HF:=lH (show ascGo recordOk TRecord.Id none rr.Records=false by have:=HV.out;rw[ehd.out]at this;rw[← this];cases prevOf rr.Records k<;>simp[ascGo,d1])
       go_wp2_with (first|((with_reducible refine wp_region_later (by kernel_rfl) (by kernel_rfl) ?_);(repeat(first|go_big_quiet_step (first|(go_at_call 314;exact Gives.quiet (k_sRecordOk (by omega))))|simp only[d1]));refine wpQuiet_nil ?_;rintro _ ⟨x,rfl⟩)|(go_at_call 314;refine(k_sRecordOk (by omega)).mono ?_;rintro _ _ ⟨rfl,x,rfl⟩))
       go_ret
       exact Gives.mk (by rw[HD2.out,HF.out];rfl)
      ·skip
       by_cases hz0:k=0
       ·have HF:=lH (show ascGo recordOk TRecord.Id (prevOf rr.Records (k+1)) (rr.Records.drop (k+1))=ascGo recordOk TRecord.Id none rr.Records by have:=HV.out;rw[ehd.out,hz0]at this;rw[prevOf_succ ehd.out,← this];simp[ascGo,prevOf,d1,hz0])
        have hz':decide (0<(k:Int))=false:=by simp;omega
        have hz2:decide (0<k)=false:=by simp;omega
        clear hz0
        go_wp2_with (first|((with_reducible refine wp_region_later (by kernel_rfl) (by kernel_rfl) ?_);(repeat(first|go_big_quiet_step (first|(go_at_call 314;exact Gives.quiet (k_sRecordOk (by omega))))|simp only[d1]|simp only[hz']|simp only[hz2]));refine wpQuiet_nil ?_;rintro _ ⟨x,rfl⟩)|(go_at_call 314;refine(k_sRecordOk (by omega)).mono ?_;rintro _ _ ⟨rfl,x,rfl⟩))
        go_roundw
        case rel=>exact⟨k+1,by go_num,by omega,HF,Later.of⟩
        case measure=>simp[intOf];omega
       ·obtain⟨fb,foff,fs,hbo,fhb,fhd,fok,fh0,fh1,fh2,fh3⟩:=hs.atTRecord (show k - 1<rr.Records.length by have:=HN.out;omega)
        simp only[Option.some.injEq,Addr.mk.injEq,and_true]at hbo
        obtain⟨rfl,rfl⟩:=hbo
        have FOK:=lH fok;clear fok
        have hz':decide (0<(k:Int))=true:=by simp;omega
        have hz2:decide (0<k)=true:=by simp;omega
        have hp:prevOf rr.Records k=some fs:=by have:=prevOf_succ fhd.out;rwa[show k - 1+1=k from by omega]at this
        have HP:=lH hp;clear hp
        cases d2:decide (es.Id≤fs.Id)
        ·have HF:=lH (show ascGo recordOk TRecord.Id (prevOf rr.Records (k+1)) (rr.Records.drop (k+1))=ascGo recordOk TRecord.Id none rr.Records by have:=HV.out;rw[ehd.out,HP.out]at this;rw[prevOf_succ ehd.out,← this];have h2:decide (fs.Id<es.Id)=true:=(by simp at d2 ⊢;omega);simp only[ascGo,d1,h2,Bool.true_and])
         go_wp2_with (first|((with_reducible refine wp_region_later (by kernel_rfl) (by kernel_rfl) ?_);(repeat(first|go_big_quiet_step (first|(go_at_call 314;exact Gives.quiet (k_sRecordOk (by omega))))|simp only[d1]|simp only[d2]|simp only[hz']|simp only[hz2]));refine wpQuiet_nil ?_;rintro _ ⟨x,rfl⟩)|(go_at_call 314;refine(k_sRecordOk (by omega)).mono ?_;rintro _ _ ⟨rfl,x,rfl⟩))
         go_roundw
         case rel=>exact⟨k+1,by go_num,by omega,HF,Later.of⟩
         case measure=>simp[intOf];omega
        ·have HF:=lH (show ascGo recordOk TRecord.Id none rr.Records=false by have:=HV.out;rw[ehd.out,HP.out]at this;rw[← this];have h2:decide (fs.Id<es.Id)=false:=(by simp at d2 ⊢;omega);simp only[ascGo,d1,h2,Bool.true_and,Bool.false_and])
         go_wp2_with (first|((with_reducible refine wp_region_later (by kernel_rfl) (by kernel_rfl) ?_);(repeat(first|go_big_quiet_step (first|(go_at_call 314;exact Gives.quiet (k_sRecordOk (by omega))))|simp only[d1]|simp only[d2]|simp only[hz']|simp only[hz2]));refine wpQuiet_nil ?_;rintro _ ⟨x,rfl⟩)|(go_at_call 314;refine(k_sRecordOk (by omega)).mono ?_;rintro _ _ ⟨rfl,x,rfl⟩))
         go_ret
         exact Gives.mk (by rw[HD2.out,HF.out];rfl)
     ·have HALL:=lH (show ascGo recordOk TRecord.Id none rr.Records=true by have:=HV.out;rw[List.drop_of_length_le (by have:=HN.out;omega)]at this;rw[← this];cases prevOf rr.Records k<;>rfl)
      have hall:=ascGo_all HALL.out
      have hln:rr.Records.length=n:=HN.out
      cases d1:decide (used rr.Records≤rr.Room)
      ·have HE:=lH (show recorderOk rr=false by rw[HD2.out,HALL.out,d1];rfl)
       go_wp2_with (first|((with_reducible refine wp_region_later (by kernel_rfl) (by kernel_rfl) ?_);(repeat(first|go_big_quiet_step (first|(go_at_call 315;exact Gives.quiet (k_sl05Used)))|simp only[d1]));refine wpQuiet_nil ?_;rintro _ ⟨x,rfl⟩)|(go_at_call 315;refine(k_sl05Used).mono ?_;rintro _ _ ⟨rfl,x,rfl⟩))
       go_ret
       exact Gives.mk (by rw[HE.out];first|rfl|(rw[d1]))
      ·have HE:=lH (show recorderOk rr=true by rw[HD2.out,HALL.out,d1,HB.out];rfl)
       go_wp2_with (first|((with_reducible refine wp_region_later (by kernel_rfl) (by kernel_rfl) ?_);(repeat(first|go_big_quiet_step (first|(go_at_call 315;exact Gives.quiet (k_sl05Used)))|simp only[d1]));refine wpQuiet_nil ?_;rintro _ ⟨x,rfl⟩)|(go_at_call 315;refine(k_sl05Used).mono ?_;rintro _ _ ⟨rfl,x,rfl⟩))
       go_ret
       exact Gives.mk (by rw[HE.out];first|rfl|(rw[d1]))
 ·have kr:decide (65536<(nd:Int))=true:=by simp;omega
  have hd3:decide ((nd:Int)≤65536)=false:=by simp;omega
  go_enter Tryz.func228,Tryz.ntmps228
  go_wp2_with (first|(go_at_call 88;refine(c_sl01In).mono ?_;rintro _ _ ⟨rfl,x,rfl⟩))
  go_ret
  exact Gives.mk (by rw[HD.out,c0,hd3];rfl)
end Go.Proofs.YtdinhfeflobafaaGreat
