/- What the laws on missions share. No condition but on sizes. -/
import Derived.Test.YthbepablpaldgaaGreatSM16
import Derived.Test.YthbepablpaldgaaGreatSDM7
import Derived.Test.YthbepablpaldgaaGreatSM7
import Derived.Test.YthbepablpaldgaaGreatSStr
import Derived.Test.YthbepablpaldgaaGreatSOkS
import Derived.Test.YthbepablpaldgaaGreatSFileO
import Derived.Test.YthbepablpaldgaaGreatSSlots2
import Derived.Test.YthbepablpaldgaaGreatSStab3
import Derived.Laws.ByValue
namespace Go.Proofs.YthbepablpaldgaaGreat
set_option maxRecDepth 100000
set_option maxHeartbeats 2000000
set_option linter.unusedVariables false
open Go.ChangeShapes Go.WideShapes Go.ChangeAt Go.RowKit
theorem mbounds{m:TMission}{N:Int}(ht:Enc.tot m≤N):totL m.Took≤N∧totL m.Offered≤N∧Enc.tot m.Ground≤N∧Enc.tot m.Space≤N∧totL m.Plan≤N∧totL m.Ups≤N∧totL m.Downs≤N:=by
 have h:totL m.Plan+totL m.Ups+totL m.Downs+Enc.tot m.Ground+Enc.tot m.Space+totL m.Offered+totL m.Took≤N:=ht
 have h1:=totL_nonneg m.Plan;have h2:=totL_nonneg m.Ups;have h3:=totL_nonneg m.Downs;have h4:=Enc.tot_nonneg m.Ground;have h5:=Enc.tot_nonneg m.Space;have h6:=totL_nonneg m.Offered;have h7:=totL_nonneg m.Took
 omega
theorem one_mission{B:Nat}{w:World}{vs:List Value}{m:TMission}(h:Enc.Rd B w vs m):vs.all (·.oneCell')=true:=by
 obtain⟨A,h,-⟩:=h
 rw[h];rfl
def ascGo{α:Type}(good:α→Bool)(key:α→Int):Option α→List α→Bool
 | _,[]=>true
 | none,s::r=>good s && ascGo good key (some s) r
 | some q,s::r=>good s && (decide (key q<key s) && ascGo good key (some s) r)
def prevOf{α:Type}(l:List α)(k:Nat):Option α:=if k=0 then none else l[k - 1]?
theorem prevOf_succ{α:Type}{l r:List α}{k:Nat}{s:α}(h:l.drop k=s::r):prevOf l (k+1)=some s:=by
 have h0:(l.drop k)[0]?=some s:=by rw[h];rfl
 rw[List.getElem?_drop]at h0
 simpa[prevOf]using h0
def startOk(n:Nat)(s:Int):Bool:=inB s 0 (n - 1)
def packerOk(p:TPacker):Bool:=inB p.Channel 0 2 && (inB p.Count 0 255 && (decide ((p.Rest.size:Int)≤5000) && ascGo (startOk p.Rest.size) (fun s=>s) none p.Starts))
theorem k_iPackerOk{B:Nat}{a:Option Addr}{c:Nat}{p:TPacker}{w:World}(hs:RdS B w a c p.Starts)(hm:p.Starts.length≤100000000)(hz:p.Rest.size≤100000000) :
  Calls Tryz.prog 218 #[.agg #[.int .i64 p.Channel,.int .i64 p.Count,.string p.Rest,.slice a p.Starts.length c]] w (Gives w (.bool (packerOk p))):=by
 obtain⟨n,hn⟩:∃ n,p.Starts.length=n:=⟨_,rfl⟩
 have HN:=lH hn
 have HD:=lH (show packerOk p=(inB p.Channel 0 2 && (inB p.Count 0 255 && (decide ((p.Rest.size:Int)≤5000) && ascGo (startOk p.Rest.size) (fun s=>s) none p.Starts)))from rfl)
 rw[hn]at hm ⊢
 clear hn
 have hz9:p.Rest.size≤9223372036854775807:=by omega
 cases c0:inB p.Channel 0 2
 ·go_enter Tryz.func218,Tryz.ntmps218
  go_wp2_with (first|(go_at_call 120;refine gm (c_ibetween) ?_;intro x))
  go_ret
  exact Gives.mk (by rw[HD.out,c0];rfl)
 cases c1:inB p.Count 0 255
 ·go_enter Tryz.func218,Tryz.ntmps218
  go_wp2_with (first|(go_at_call 120;refine gm (c_ibetween) ?_;intro x))
  go_ret
  exact Gives.mk (by rw[HD.out,c0,c1];rfl)
 by_cases hr:p.Rest.size≤5000
 ·have kr:decide (5000<(p.Rest.size:Int))=false:=by simp;omega
  have hd3:decide ((p.Rest.size:Int)≤5000)=true:=by simp;omega
  have HD2:=lH hd3;clear hd3
  have HC:=lH (And.intro c0 c1)
  go_enter Tryz.func218,Tryz.ntmps218
  go_wp2_with (first|(go_at_call 120;refine gm (c_ibetween) ?_;intro x))
  clear c0 c1
  go_loopw [24] (fun v wr=>∃ k:Nat,v=.int .i64 k∧k≤n∧Hid (ascGo (startOk p.Rest.size) (fun s=>s) (prevOf p.Starts k) (p.Starts.drop k)=ascGo (startOk p.Rest.size) (fun s=>s) none p.Starts)∧∃ X:Later (w.alloc (.cells #[.int .i64 p.Channel,.int .i64 p.Count,.string p.Rest,.slice a n c] 85)),wr=X.w) (fun v _=>(n - intOf v).toNat)
  case atStart=>exact⟨0,rfl,by omega,rfl,Later.of⟩
  case round =>
   obtain⟨k,rfl,hk,HV,X,rfl⟩:=hrel
   by_cases h:k<n
   ·have hkl:k<p.Starts.length:=by have:=HN.out;omega
    obtain⟨eb,eoff,es,rfl,ehb,ehd,eok,eh0⟩:=hs.atInt hkl
    have EOK:=lH eok;clear eok hkl
    cases d1:inB es 0 (p.Rest.size - 1)
    ·have HF:=lH (show ascGo (startOk p.Rest.size) (fun s=>s) none p.Starts=false by have:=HV.out;rw[ehd.out]at this;rw[← this];cases prevOf p.Starts k<;>simp[ascGo,startOk,d1])
     go_wp2_with (first|(go_at_call 120;refine gm (c_ibetween) ?_;intro x))
     go_ret
     exact Gives.mk (by rw[HD.out,HF.out];simp)
    ·by_cases hz0:k=0
     ·have HF:=lH (show ascGo (startOk p.Rest.size) (fun s=>s) (prevOf p.Starts (k+1)) (p.Starts.drop (k+1))=ascGo (startOk p.Rest.size) (fun s=>s) none p.Starts by have:=HV.out;rw[ehd.out,hz0]at this;rw[prevOf_succ ehd.out,← this];simp[ascGo,prevOf,startOk,d1,hz0])
      have hz':decide (0<(k:Int))=false:=by simp;omega
      have hz2:decide (0<k)=false:=by simp;omega
      clear hz0
      go_wp2_with (first|(go_at_call 120;refine gm (c_ibetween) ?_;intro x))
      go_roundw
      case rel=>exact⟨k+1,by go_num,by omega,HF,Later.of⟩
      case measure=>simp[intOf];omega
     ·obtain⟨fb,foff,fs,hbo,fhb,fhd,fok,fh0⟩:=hs.atInt (show k - 1<p.Starts.length by have:=HN.out;omega)
      simp only[Option.some.injEq,Addr.mk.injEq,and_true]at hbo
      obtain⟨rfl,rfl⟩:=hbo
      have FOK:=lH fok;clear fok
      have hz':decide (0<(k:Int))=true:=by simp;omega
      have hz2:decide (0<k)=true:=by simp;omega
      have hp:prevOf p.Starts k=some fs:=by have:=prevOf_succ fhd.out;rwa[show k - 1+1=k from by omega]at this
      have HP:=lH hp;clear hp
      cases d2:decide (es≤fs)
      ·have HF:=lH (show ascGo (startOk p.Rest.size) (fun s=>s) (prevOf p.Starts (k+1)) (p.Starts.drop (k+1))=ascGo (startOk p.Rest.size) (fun s=>s) none p.Starts by have:=HV.out;rw[ehd.out,HP.out]at this;rw[prevOf_succ ehd.out,← this];have h2:decide (fs<es)=true:=(by simp at d2 ⊢;omega);simp only[ascGo,startOk,d1,h2,Bool.true_and])
       go_wp2_with (first|(go_at_call 120;refine gm (c_ibetween) ?_;intro x))
       go_roundw
       case rel=>exact⟨k+1,by go_num,by omega,HF,Later.of⟩
       case measure=>simp[intOf];omega
      ·have HF:=lH (show ascGo (startOk p.Rest.size) (fun s=>s) none p.Starts=false by have:=HV.out;rw[ehd.out,HP.out]at this;rw[← this];have h2:decide (fs<es)=false:=(by simp at d2 ⊢;omega);simp only[ascGo,startOk,d1,h2,Bool.true_and,Bool.false_and])
       go_wp2_with (first|(go_at_call 120;refine gm (c_ibetween) ?_;intro x))
       go_ret
       exact Gives.mk (by rw[HD.out,HF.out];simp)
   ·have HF:=lH (show ascGo (startOk p.Rest.size) (fun s=>s) none p.Starts=true by have:=HV.out;rw[List.drop_of_length_le (by have:=HN.out;omega)]at this;rw[← this];cases prevOf p.Starts k<;>rfl)
    go_wp2_with fail
    go_ret
    exact Gives.mk (by rw[HD.out,HF.out,HD2.out,HC.out.1,HC.out.2];rfl)
 ·have kr:decide (5000<(p.Rest.size:Int))=true:=by simp;omega
  have hd3:decide ((p.Rest.size:Int)≤5000)=false:=by simp;omega
  have HD2:=lH hd3;clear hd3
  go_enter Tryz.func218,Tryz.ntmps218
  go_wp2_with (first|(go_at_call 120;refine gm (c_ibetween) ?_;intro x))
  go_ret
  exact Gives.mk (by rw[HD.out,HD2.out];simp)
theorem k_sPackerOk{B:Nat}{a:Option Addr}{c:Nat}{p:TPacker}{w:World}(hs:RdS B w a c p.Starts)(hm:p.Starts.length≤100000000)(hz:p.Rest.size≤100000000) :
  Calls Tryz.prog 190 #[.agg #[.int .i64 p.Channel,.int .i64 p.Count,.string p.Rest,.slice a p.Starts.length c]] w (Gives w (.bool (packerOk p))):=by
 obtain⟨n,hn⟩:∃ n,p.Starts.length=n:=⟨_,rfl⟩
 have HN:=lH hn
 have HD:=lH (show packerOk p=(inB p.Channel 0 2 && (inB p.Count 0 255 && (decide ((p.Rest.size:Int)≤5000) && ascGo (startOk p.Rest.size) (fun s=>s) none p.Starts)))from rfl)
 rw[hn]at hm ⊢
 clear hn
 have hz9:p.Rest.size≤9223372036854775807:=by omega
 go_enter Tryz.func190,Tryz.ntmps190
 go_wp2_with fail
 go_loopw [3] (fun v wr=>∃ k:Nat,v=.int .i64 k∧k≤n∧Hid (ascGo (startOk p.Rest.size) (fun s=>s) (prevOf p.Starts k) (p.Starts.drop k)=ascGo (startOk p.Rest.size) (fun s=>s) none p.Starts)∧∃ X:Later (w.alloc (.cells #[.int .i64 p.Channel,.int .i64 p.Count,.string p.Rest,.slice a n c] 85)),wr=X.w) (fun v _=>(n - intOf v).toNat)
 case atStart=>exact⟨0,rfl,by omega,rfl,Later.of⟩
 case round =>
  obtain⟨k,rfl,hk,HV,X,rfl⟩:=hrel
  by_cases h:k<n
  ·have hkl:k<p.Starts.length:=by have:=HN.out;omega
   obtain⟨eb,eoff,es,rfl,ehb,ehd,eok,eh0⟩:=hs.atInt hkl
   have EOK:=lH eok;clear eok hkl
   cases d1:inB es 0 (p.Rest.size - 1)
   ·have HF:=lH (show ascGo (startOk p.Rest.size) (fun s=>s) none p.Starts=false by have:=HV.out;rw[ehd.out]at this;rw[← this];cases prevOf p.Starts k<;>simp[ascGo,startOk,d1])
    go_wp2_with (first|((with_reducible refine rl ?_);(repeat(first|go_big_quiet_step (first|(go_at_call 82;exact Gives.quiet (c_sl01In)))|simp only[d1]));refine wpQuiet_nil ?_;intro x)|(go_at_call 82;refine gm (c_sl01In) ?_;intro x))
    go_ret
    exact Gives.mk (by rw[HD.out,HF.out];simp)
   ·by_cases hz0:k=0
    ·have HF:=lH (show ascGo (startOk p.Rest.size) (fun s=>s) (prevOf p.Starts (k+1)) (p.Starts.drop (k+1))=ascGo (startOk p.Rest.size) (fun s=>s) none p.Starts by have:=HV.out;rw[ehd.out,hz0]at this;rw[prevOf_succ ehd.out,← this];simp[ascGo,prevOf,startOk,d1,hz0])
     have hz':decide (0<(k:Int))=false:=by simp;omega
     have hz2:decide (0<k)=false:=by simp;omega
     clear hz0
     go_wp2_with (first|((with_reducible refine rl ?_);(repeat(first|go_big_quiet_step (first|(go_at_call 82;exact Gives.quiet (c_sl01In)))|simp only[d1]|simp only[hz']|simp only[hz2]));refine wpQuiet_nil ?_;intro x)|(go_at_call 82;refine gm (c_sl01In) ?_;intro x))
     go_roundw
     case rel=>exact⟨k+1,by go_num,by omega,HF,Later.of⟩
     case measure=>simp[intOf];omega
    ·obtain⟨fb,foff,fs,hbo,fhb,fhd,fok,fh0⟩:=hs.atInt (show k - 1<p.Starts.length by have:=HN.out;omega)
     simp only[Option.some.injEq,Addr.mk.injEq,and_true]at hbo
     obtain⟨rfl,rfl⟩:=hbo
     have FOK:=lH fok;clear fok
     have hz':decide (0<(k:Int))=true:=by simp;omega
     have hz2:decide (0<k)=true:=by simp;omega
     have hp:prevOf p.Starts k=some fs:=by have:=prevOf_succ fhd.out;rwa[show k - 1+1=k from by omega]at this
     have HP:=lH hp;clear hp
     cases d2:decide (es≤fs)
     ·have HF:=lH (show ascGo (startOk p.Rest.size) (fun s=>s) (prevOf p.Starts (k+1)) (p.Starts.drop (k+1))=ascGo (startOk p.Rest.size) (fun s=>s) none p.Starts by have:=HV.out;rw[ehd.out,HP.out]at this;rw[prevOf_succ ehd.out,← this];have h2:decide (fs<es)=true:=(by simp at d2 ⊢;omega);simp only[ascGo,startOk,d1,h2,Bool.true_and])
      go_wp2_with (first|((with_reducible refine rl ?_);(repeat(first|go_big_quiet_step (first|(go_at_call 82;exact Gives.quiet (c_sl01In)))|simp only[d1]|simp only[d2]|simp only[hz']|simp only[hz2]));refine wpQuiet_nil ?_;intro x)|(go_at_call 82;refine gm (c_sl01In) ?_;intro x))
      go_roundw
      case rel=>exact⟨k+1,by go_num,by omega,HF,Later.of⟩
      case measure=>simp[intOf];omega
     ·have HF:=lH (show ascGo (startOk p.Rest.size) (fun s=>s) none p.Starts=false by have:=HV.out;rw[ehd.out,HP.out]at this;rw[← this];have h2:decide (fs<es)=false:=(by simp at d2 ⊢;omega);simp only[ascGo,startOk,d1,h2,Bool.true_and,Bool.false_and])
      go_wp2_with (first|((with_reducible refine rl ?_);(repeat(first|go_big_quiet_step (first|(go_at_call 82;exact Gives.quiet (c_sl01In)))|simp only[d1]|simp only[d2]|simp only[hz']|simp only[hz2]));refine wpQuiet_nil ?_;intro x)|(go_at_call 82;refine gm (c_sl01In) ?_;intro x))
      go_ret
      exact Gives.mk (by rw[HD.out,HF.out];simp)
  ·have HF:=lH (show ascGo (startOk p.Rest.size) (fun s=>s) none p.Starts=true by have:=HV.out;rw[List.drop_of_length_le (by have:=HN.out;omega)]at this;rw[← this];cases prevOf p.Starts k<;>rfl)
   cases c0:inB p.Channel 0 2
   ·go_wp2_with (first|(go_at_call 82;refine gm (c_sl01In) ?_;intro x))
    go_ret
    exact Gives.mk (by rw[HD.out,c0];rfl)
   cases c1:inB p.Count 0 255
   ·go_wp2_with (first|(go_at_call 82;refine gm (c_sl01In) ?_;intro x))
    go_ret
    exact Gives.mk (by rw[HD.out,c0,c1];rfl)
   cases kr:decide ((p.Rest.size:Int)≤5000)
   ·go_wp2_with (first|(go_at_call 82;refine gm (c_sl01In) ?_;intro x))
    go_ret
    exact Gives.mk (by rw[HD.out,c0,c1,kr];rfl)
   ·go_wp2_with (first|(go_at_call 82;refine gm (c_sl01In) ?_;intro x))
    go_ret
    exact Gives.mk (by rw[HD.out,c0,c1,kr,HF.out];rfl)
theorem RdS.toSlInt{B:Nat}{w:World}{a:Option Addr}{c:Nat}{l:List Int}(h:RdS B w a c l):Sl encInt w a l:=fun i s hx=>by
 obtain⟨b,off,vs,h0,-,h2,h3,h4⟩:=h.2.2.2 i s hx
 exact⟨b,off,h0,h2,fun j v hv=>by
  obtain⟨rfl,-⟩:=h3
  have:=h4 j v hv
  rw[show Enc.size Int=(encInt s).length from rfl]at this
  exact this⟩
def used:List TRecord→Int
 | []=>0
 | s::r=>6+s.Data.size+used r
def recorderOk(r:TRecorder):Bool:=inB r.Room 0 4000 && (decide ((r.Dropped.length:Int)≤65536) && (ascGo recordOk TRecord.Id none r.Records && (decide (used r.Records≤r.Room) && allB 0 65535 r.Dropped)))
theorem memDrop{α:Type}{l r:List α}{s:α}{k:Nat}(h:l.drop k=s::r):s∈l:=by
 have:s∈l.drop k:=by rw[h];simp
 exact List.mem_of_mem_drop this
theorem recordOk_size{s:TRecord}(h:recordOk s=true):s.Data.size≤34:=by
 simp only[recordOk,Bool.and_eq_true,decide_eq_true_eq]at h;omega
theorem ascGo_all{α:Type}{good:α→Bool}{key:α→Int}:∀ {l:List α} {q:Option α},ascGo good key q l=true→l.all good=true
 | [],_,_=>rfl
 | s::r,none,h=>by simp only[ascGo,Bool.and_eq_true]at h;simp only[List.all_cons,Bool.and_eq_true];exact⟨h.1,ascGo_all h.2⟩
 | s::r,some q,h=>by simp only[ascGo,Bool.and_eq_true]at h;simp only[List.all_cons,Bool.and_eq_true];exact⟨h.1,ascGo_all h.2.2⟩
theorem k_irecordSize{s:TRecord}{w:World}(hz:s.Data.size≤34) :
  Calls Tryz.prog 268 #[.agg #[.int .i64 s.Id,.int .i64 s.Priority,.int .i64 s.Time,.string s.Data]] w (Gives w (.int .i64 (6+(s.Data.size:Int)))):=by
 have hz9:s.Data.size≤9223372036854775807:=by omega
 go_enter Tryz.func268,Tryz.ntmps268
 go_wp2_with fail
 go_ret
 exact Gives.mk rfl
theorem k_sl05Used{B n:Nat}{a:Option Addr}{c:Nat}{l:List TRecord}{w0 w:World}(hs0:RdS B w0 a c l:=by exact sd)[g:Keeps B w0 w](hn:l.length=n:=by exact sd)(hm:n≤100000000:=by exact sd)(hall:l.all recordOk=true:=by exact sd) :
  Calls Tryz.prog 261 #[.slice a n c] w (Gives w (.int .i64 (used l))):=by
 have HN:=lH hn
 have HA:=lH hall;clear hall
 have hs:=hs0.to g;clear hs0
 clear hn
 go_enter Tryz.func261,Tryz.ntmps261
 go_wp2_with fail
 go_loopw [3,4] (fun u v wr=>∃ (k:Nat) (m:Int),v=.int .i64 k∧u=.int .i64 m∧k≤n∧0≤m∧m≤40*k∧Hid (m+used (l.drop k)=used l)∧∃ y:Later w,wr=y.w) (fun _ v _=>(n - intOf v).toNat)
 case atStart=>exact⟨0,0,rfl,rfl,by omega,by omega,by omega,by rw[Hid];simp,Later.of⟩
 case round =>
  obtain⟨k,m,rfl,rfl,hk,hm0,hm1,HV,y,rfl⟩:=hrel
  by_cases h:k<n
  ·have hkl:k<l.length:=by have:=HN.out;omega
   obtain⟨eb,eoff,es,rfl,ehb,ehd,eok,eh0,eh1,eh2,eh3⟩:=hs.atTRecord hkl
   have hz:es.Data.size≤34:=recordOk_size (List.all_eq_true.1 HA.out es (memDrop ehd.out))
   have hz9:es.Data.size≤9223372036854775807:=by omega
   have EOK:=lH eok;clear eok hkl
   have HF:=lH (show m+6+es.Data.size+used (l.drop (k+1))=used l by have:=HV.out;rw[ehd.out,used]at this;omega)
   go_wp2_with fail
   go_roundw
   case rel=>exact⟨k+1,m+6+es.Data.size,by go_num,by go_num,by omega,by omega,by omega,HF,Later.of⟩
   case measure=>simp[intOf];omega
  ·have HF:=lH (show m=used l by have:=HV.out;rw[List.drop_of_length_le (by have:=HN.out;omega),used]at this;omega)
   go_wp2_with fail
   go_ret
   exact Gives.mk (by rw[HF.out];rfl)
theorem k_iRecorderOk{B:Nat}{a a2:Option Addr}{c c2:Nat}{rr:TRecorder}{w:World}(hs:RdS B w a c rr.Records)(hs2:RdS B w a2 c2 rr.Dropped)(hm:rr.Records.length≤100000000)(hm2:rr.Dropped.length≤100000000) :
  Calls Tryz.prog 222 #[.agg #[.int .i64 rr.Room,.slice a rr.Records.length c,.slice a2 rr.Dropped.length c2]] w (Gives w (.bool (recorderOk rr))):=by
 obtain⟨n,hn⟩:∃ n,rr.Records.length=n:=⟨_,rfl⟩
 obtain⟨nd,hnd⟩:∃ nd,rr.Dropped.length=nd:=⟨_,rfl⟩
 have HN:=lH hn
 have HND:=lH hnd
 have HD:=lH (show recorderOk rr=(inB rr.Room 0 4000 && (decide ((nd:Int)≤65536) && (ascGo recordOk TRecord.Id none rr.Records && (decide (used rr.Records≤rr.Room) && allB 0 65535 rr.Dropped))))by rw[recorderOk,hnd])
 rw[hn]at hm ⊢
 rw[hnd]at hm2 ⊢
 clear hn hnd
 cases c0:inB rr.Room 0 4000
 ·go_enter Tryz.func222,Tryz.ntmps222
  go_wp2_with (first|(go_at_call 120;refine gm (c_ibetween) ?_;intro x))
  go_ret
  exact Gives.mk (by rw[HD.out,c0];rfl)
 by_cases hr:nd≤65536
 ·have kr:decide (65536<(nd:Int))=false:=by simp;omega
  have hd3:decide ((nd:Int)≤65536)=true:=by simp;omega
  have⟨hro1,hro2⟩:=inB_iff.1 c0
  have HD2:=lH (show recorderOk rr=(ascGo recordOk TRecord.Id none rr.Records && (decide (used rr.Records≤rr.Room) && allB 0 65535 rr.Dropped))by rw[HD.out,c0,hd3];rfl)
  clear HD hd3
  go_enter Tryz.func222,Tryz.ntmps222
  go_wp2_with (first|(go_at_call 120;refine gm (c_ibetween) ?_;intro x))
  clear c0 kr
  go_loopw [3,19] (fun u v wr=>∃ (k:Nat) (m:Int),v=.int .i64 k∧k≤n∧Hid (ascGo recordOk TRecord.Id (prevOf rr.Records k) (rr.Records.drop k)=ascGo recordOk TRecord.Id none rr.Records)∧u=.int .i64 m∧0≤m∧m≤40*k∧Hid (m+used (rr.Records.drop k)=used rr.Records)∧∃ X:Later (w.alloc (.cells #[.int .i64 rr.Room,.slice a n c,.slice a2 nd c2] 82)),wr=X.w) (fun _ v _=>(n - intOf v).toNat)
  case atStart=>exact⟨0,0,rfl,by omega,rfl,rfl,by omega,by omega,by rw[Hid];simp,Later.of⟩
  case round =>
   obtain⟨k,m,rfl,hk,HV,rfl,hm0,hm1,HU,X,rfl⟩:=hrel
   by_cases h:k<n
   ·have hkl:k<rr.Records.length:=by have:=HN.out;omega
    obtain⟨eb,eoff,es,rfl,ehb,ehd,eok,eh0,eh1,eh2,eh3⟩:=hs.atTRecord hkl
    have hx1:es.Data.size≤9223372036854775807:=eok.2.2.2.1
    have EOK:=lH eok;clear eok hkl
    cases d1:recordOk es
    ·have HF:=lH (show ascGo recordOk TRecord.Id none rr.Records=false by have:=HV.out;rw[ehd.out]at this;rw[← this];cases prevOf rr.Records k<;>simp[ascGo,d1])
     go_wp2_with (first|((with_reducible refine rl ?_);(repeat(first|go_big_quiet_step (first|(go_at_call 267;exact Gives.quiet (k_iRecordOk (by omega)))|(go_at_call 268;exact Gives.quiet (k_irecordSize (by omega))))|simp only[d1]));refine wpQuiet_nil ?_;intro x)|(go_at_call 267;refine gm (k_iRecordOk (by omega)) ?_;intro x)|(go_at_call 268;refine gm (k_irecordSize (by omega)) ?_;intro x))
     go_ret
     exact Gives.mk (by rw[HD2.out,HF.out];rfl)
    ·have hz34:=recordOk_size d1
     have HG:=lH (show m+(6+(es.Data.size:Int))+used (rr.Records.drop (k+1))=used rr.Records by have:=HU.out;rw[ehd.out,used]at this;omega)
     by_cases hz0:k=0
     ·have HF:=lH (show ascGo recordOk TRecord.Id (prevOf rr.Records (k+1)) (rr.Records.drop (k+1))=ascGo recordOk TRecord.Id none rr.Records by have:=HV.out;rw[ehd.out,hz0]at this;rw[prevOf_succ ehd.out,← this];simp[ascGo,prevOf,d1,hz0])
      have hz':decide (0<(k:Int))=false:=by simp;omega
      have hz2:decide (0<k)=false:=by simp;omega
      clear hz0
      go_wp2_with (first|((with_reducible refine rl ?_);(repeat(first|go_big_quiet_step (first|(go_at_call 267;exact Gives.quiet (k_iRecordOk (by omega)))|(go_at_call 268;exact Gives.quiet (k_irecordSize (by omega))))|simp only[d1]|simp only[hz']|simp only[hz2]));refine wpQuiet_nil ?_;intro x)|(go_at_call 267;refine gm (k_iRecordOk (by omega)) ?_;intro x)|(go_at_call 268;refine gm (k_irecordSize (by omega)) ?_;intro x))
      go_roundw
      case rel=>exact⟨k+1,m+(6+es.Data.size),by go_num,by omega,HF,by go_num,by omega,by omega,HG,Later.of⟩
      case measure=>simp[intOf];omega
     ·obtain⟨fb,foff,fs,hbo,fhb,fhd,fok,fh0,fh1,fh2,fh3⟩:=hs.atTRecord (show k - 1<rr.Records.length by have:=HN.out;omega)
      simp only[Option.some.injEq,Addr.mk.injEq,and_true]at hbo
      obtain⟨rfl,rfl⟩:=hbo
      have FOK:=lH fok;clear fok
      have hz':decide (0<(k:Int))=true:=by simp;omega
      have hz2:decide (0<k)=true:=by simp;omega
      have hp:prevOf rr.Records k=some fs:=by have:=prevOf_succ fhd.out;rwa[show k - 1+1=k from by omega]at this
      have HP:=lH hp;clear hp
      cases d2:decide (es.Id≤fs.Id)
      ·have HF:=lH (show ascGo recordOk TRecord.Id (prevOf rr.Records (k+1)) (rr.Records.drop (k+1))=ascGo recordOk TRecord.Id none rr.Records by have:=HV.out;rw[ehd.out,HP.out]at this;rw[prevOf_succ ehd.out,← this];have h2:decide (fs.Id<es.Id)=true:=(by simp at d2 ⊢;omega);simp only[ascGo,d1,h2,Bool.true_and])
       go_wp2_with (first|((with_reducible refine rl ?_);(repeat(first|go_big_quiet_step (first|(go_at_call 267;exact Gives.quiet (k_iRecordOk (by omega)))|(go_at_call 268;exact Gives.quiet (k_irecordSize (by omega))))|simp only[d1]|simp only[d2]|simp only[hz']|simp only[hz2]));refine wpQuiet_nil ?_;intro x)|(go_at_call 267;refine gm (k_iRecordOk (by omega)) ?_;intro x)|(go_at_call 268;refine gm (k_irecordSize (by omega)) ?_;intro x))
       go_roundw
       case rel=>exact⟨k+1,m+(6+es.Data.size),by go_num,by omega,HF,by go_num,by omega,by omega,HG,Later.of⟩
       case measure=>simp[intOf];omega
      ·have HF:=lH (show ascGo recordOk TRecord.Id none rr.Records=false by have:=HV.out;rw[ehd.out,HP.out]at this;rw[← this];have h2:decide (fs.Id<es.Id)=false:=(by simp at d2 ⊢;omega);simp only[ascGo,d1,h2,Bool.true_and,Bool.false_and])
       go_wp2_with (first|((with_reducible refine rl ?_);(repeat(first|go_big_quiet_step (first|(go_at_call 267;exact Gives.quiet (k_iRecordOk (by omega)))|(go_at_call 268;exact Gives.quiet (k_irecordSize (by omega))))|simp only[d1]|simp only[d2]|simp only[hz']|simp only[hz2]));refine wpQuiet_nil ?_;intro x)|(go_at_call 267;refine gm (k_iRecordOk (by omega)) ?_;intro x)|(go_at_call 268;refine gm (k_irecordSize (by omega)) ?_;intro x))
       go_ret
       exact Gives.mk (by rw[HD2.out,HF.out];rfl)
   ·have HALL:=lH (show ascGo recordOk TRecord.Id none rr.Records=true by have:=HV.out;rw[List.drop_of_length_le (by have:=HN.out;omega)]at this;rw[← this];cases prevOf rr.Records k<;>rfl)
    have HM:=lH (show m=used rr.Records by have:=HU.out;rw[List.drop_of_length_le (by have:=HN.out;omega),used]at this;omega)
    have hsl:=hs2.toSlInt
    have hln:rr.Dropped.length=nd:=HND.out
    cases d1:decide (rr.Room<m)
    ·have hu:decide (used rr.Records≤rr.Room)=true:=by rw[← HM.out];simp at d1 ⊢;omega
     have HE:=lH (show recorderOk rr=allB 0 65535 rr.Dropped by rw[HD2.out,HALL.out,hu];rfl)
     clear hu
     go_wp2_with (first|(go_at_call 120;refine gm (c_ibetween) ?_;intro x)|(go_at_call 220;refine gm (c_iallBetween) ?_;intro x))
     go_ret
     exact Gives.mk (by rw[HE.out];rfl)
    ·have hu:decide (used rr.Records≤rr.Room)=false:=by rw[← HM.out];simp at d1 ⊢;omega
     have HE:=lH (show recorderOk rr=false by rw[HD2.out,HALL.out,hu];rfl)
     clear hu
     go_wp2_with (first|(go_at_call 120;refine gm (c_ibetween) ?_;intro x))
     go_ret
     exact Gives.mk (by rw[HE.out];rfl)
 ·have kr:decide (65536<(nd:Int))=true:=by simp;omega
  have hd3:decide ((nd:Int)≤65536)=false:=by simp;omega
  go_enter Tryz.func222,Tryz.ntmps222
  go_wp2_with (first|(go_at_call 120;refine gm (c_ibetween) ?_;intro x))
  go_ret
  exact Gives.mk (by rw[HD.out,c0,hd3];rfl)
theorem k_sRecorderOk{B:Nat}{a a2:Option Addr}{c c2:Nat}{rr:TRecorder}{w:World}(hs:RdS B w a c rr.Records)(hs2:RdS B w a2 c2 rr.Dropped)(hm:rr.Records.length≤100000000)(hm2:rr.Dropped.length≤100000000) :
  Calls Tryz.prog 192 #[.agg #[.int .i64 rr.Room,.slice a rr.Records.length c,.slice a2 rr.Dropped.length c2]] w (Gives w (.bool (recorderOk rr))):=by
 obtain⟨n,hn⟩:∃ n,rr.Records.length=n:=⟨_,rfl⟩
 obtain⟨nd,hnd⟩:∃ nd,rr.Dropped.length=nd:=⟨_,rfl⟩
 have HN:=lH hn
 have HND:=lH hnd
 have HD:=lH (show recorderOk rr=(inB rr.Room 0 4000 && (decide ((nd:Int)≤65536) && (ascGo recordOk TRecord.Id none rr.Records && (decide (used rr.Records≤rr.Room) && allB 0 65535 rr.Dropped))))by rw[recorderOk,hnd])
 rw[hn]at hm ⊢
 rw[hnd]at hm2 ⊢
 clear hn hnd
 cases c0:inB rr.Room 0 4000
 ·go_enter Tryz.func192,Tryz.ntmps192
  go_wp2_with (first|(go_at_call 82;refine gm (c_sl01In) ?_;intro x))
  go_ret
  exact Gives.mk (by rw[HD.out,c0];rfl)
 by_cases hr:nd≤65536
 ·have kr:decide (65536<(nd:Int))=false:=by simp;omega
  have hd3:decide ((nd:Int)≤65536)=true:=by simp;omega
  have⟨hro1,hro2⟩:=inB_iff.1 c0
  have HD2:=lH (show recorderOk rr=(ascGo recordOk TRecord.Id none rr.Records && (decide (used rr.Records≤rr.Room) && allB 0 65535 rr.Dropped))by rw[HD.out,c0,hd3];rfl)
  clear HD hd3
  go_enter Tryz.func192,Tryz.ntmps192
  go_wp2_with (first|(go_at_call 82;refine gm (c_sl01In) ?_;intro x))
  clear c0 kr
  go_loopw [3] (fun v wr=>∃ k:Nat,v=.int .i64 k∧k≤nd∧Hid (allB 0 65535 (rr.Dropped.drop k)=allB 0 65535 rr.Dropped)∧∃ X:Later (w.alloc (.cells #[.int .i64 rr.Room,.slice a n c,.slice a2 nd c2] 82)),wr=X.w) (fun v _=>(nd - intOf v).toNat)
  case atStart=>exact⟨0,rfl,by omega,rfl,Later.of⟩
  case round =>
   obtain⟨k,rfl,hk,HV,X,rfl⟩:=hrel
   by_cases h:k<nd
   ·have hkl:k<rr.Dropped.length:=by have:=HND.out;omega
    obtain⟨eb,eoff,es,rfl,ehb,ehd,eok,eh0⟩:=hs2.atInt hkl
    have EOK:=lH eok;clear eok hkl
    cases d1:inB es 0 65535
    ·have HF:=lH (show allB 0 65535 rr.Dropped=false by have:=HV.out;rw[ehd.out,allB,d1]at this;rw[← this];rfl)
     go_wp2_with (first|(go_at_call 82;refine gm (c_sl01In) ?_;intro x))
     go_ret
     exact Gives.mk (by rw[HD2.out,HF.out];simp)
    ·have HF:=lH (show allB 0 65535 (rr.Dropped.drop (k+1))=allB 0 65535 rr.Dropped by have:=HV.out;rw[ehd.out,allB,d1]at this;exact this)
     go_wp2_with (first|(go_at_call 82;refine gm (c_sl01In) ?_;intro x))
     go_roundw
     case rel=>exact⟨k+1,by go_num,by omega,HF,Later.of⟩
     case measure=>simp[intOf];omega
   ·have HB:=lH (show allB 0 65535 rr.Dropped=true by have:=HV.out;rw[List.drop_of_length_le (by have:=HND.out;omega),allB]at this;rw[← this])
    clear HV
    go_wp2_with fail
    go_loopw [4] (fun v wr=>∃ (k:Nat),v=.int .i64 k∧k≤n∧Hid (ascGo recordOk TRecord.Id (prevOf rr.Records k) (rr.Records.drop k)=ascGo recordOk TRecord.Id none rr.Records)∧∃ X:Later (w.alloc (.cells #[.int .i64 rr.Room,.slice a n c,.slice a2 nd c2] 82)),wr=X.w) (fun v _=>(n - intOf v).toNat)
    case atStart=>exact⟨0,rfl,by omega,rfl,Later.of⟩
    case round =>
     obtain⟨k,rfl,hk,HV,X,rfl⟩:=hrel
     by_cases h:k<n
     ·have hkl:k<rr.Records.length:=by have:=HN.out;omega
      obtain⟨eb,eoff,es,rfl,ehb,ehd,eok,eh0,eh1,eh2,eh3⟩:=hs.atTRecord hkl
      have hx1:es.Data.size≤9223372036854775807:=eok.2.2.2.1
      have EOK:=lH eok;clear eok hkl
      cases d1:recordOk es
      ·have HF:=lH (show ascGo recordOk TRecord.Id none rr.Records=false by have:=HV.out;rw[ehd.out]at this;rw[← this];cases prevOf rr.Records k<;>simp[ascGo,d1])
       go_wp2_with (first|((with_reducible refine rl ?_);(repeat(first|go_big_quiet_step (first|(go_at_call 260;exact Gives.quiet (k_sRecordOk (by omega))))|simp only[d1]));refine wpQuiet_nil ?_;intro x)|(go_at_call 260;refine gm (k_sRecordOk (by omega)) ?_;intro x))
       go_ret
       exact Gives.mk (by rw[HD2.out,HF.out];rfl)
      ·skip
       by_cases hz0:k=0
       ·have HF:=lH (show ascGo recordOk TRecord.Id (prevOf rr.Records (k+1)) (rr.Records.drop (k+1))=ascGo recordOk TRecord.Id none rr.Records by have:=HV.out;rw[ehd.out,hz0]at this;rw[prevOf_succ ehd.out,← this];simp[ascGo,prevOf,d1,hz0])
        have hz':decide (0<(k:Int))=false:=by simp;omega
        have hz2:decide (0<k)=false:=by simp;omega
        clear hz0
        go_wp2_with (first|((with_reducible refine rl ?_);(repeat(first|go_big_quiet_step (first|(go_at_call 260;exact Gives.quiet (k_sRecordOk (by omega))))|simp only[d1]|simp only[hz']|simp only[hz2]));refine wpQuiet_nil ?_;intro x)|(go_at_call 260;refine gm (k_sRecordOk (by omega)) ?_;intro x))
        go_roundw
        case rel=>exact⟨k+1,by go_num,by omega,HF,Later.of⟩
        case measure=>simp[intOf];omega
       ·obtain⟨fb,foff,fs,hbo,fhb,fhd,fok,fh0,fh1,fh2,fh3⟩:=hs.atTRecord (show k - 1<rr.Records.length by have:=HN.out;omega)
        simp only[Option.some.injEq,Addr.mk.injEq,and_true]at hbo
        obtain⟨rfl,rfl⟩:=hbo
        have FOK:=lH fok;clear fok
        have hz':decide (0<(k:Int))=true:=by simp;omega
        have hz2:decide (0<k)=true:=by simp;omega
        have hp:prevOf rr.Records k=some fs:=by have:=prevOf_succ fhd.out;rwa[show k - 1+1=k from by omega]at this
        have HP:=lH hp;clear hp
        cases d2:decide (es.Id≤fs.Id)
        ·have HF:=lH (show ascGo recordOk TRecord.Id (prevOf rr.Records (k+1)) (rr.Records.drop (k+1))=ascGo recordOk TRecord.Id none rr.Records by have:=HV.out;rw[ehd.out,HP.out]at this;rw[prevOf_succ ehd.out,← this];have h2:decide (fs.Id<es.Id)=true:=(by simp at d2 ⊢;omega);simp only[ascGo,d1,h2,Bool.true_and])
         go_wp2_with (first|((with_reducible refine rl ?_);(repeat(first|go_big_quiet_step (first|(go_at_call 260;exact Gives.quiet (k_sRecordOk (by omega))))|simp only[d1]|simp only[d2]|simp only[hz']|simp only[hz2]));refine wpQuiet_nil ?_;intro x)|(go_at_call 260;refine gm (k_sRecordOk (by omega)) ?_;intro x))
         go_roundw
         case rel=>exact⟨k+1,by go_num,by omega,HF,Later.of⟩
         case measure=>simp[intOf];omega
        ·have HF:=lH (show ascGo recordOk TRecord.Id none rr.Records=false by have:=HV.out;rw[ehd.out,HP.out]at this;rw[← this];have h2:decide (fs.Id<es.Id)=false:=(by simp at d2 ⊢;omega);simp only[ascGo,d1,h2,Bool.true_and,Bool.false_and])
         go_wp2_with (first|((with_reducible refine rl ?_);(repeat(first|go_big_quiet_step (first|(go_at_call 260;exact Gives.quiet (k_sRecordOk (by omega))))|simp only[d1]|simp only[d2]|simp only[hz']|simp only[hz2]));refine wpQuiet_nil ?_;intro x)|(go_at_call 260;refine gm (k_sRecordOk (by omega)) ?_;intro x))
         go_ret
         exact Gives.mk (by rw[HD2.out,HF.out];rfl)
     ·have HALL:=lH (show ascGo recordOk TRecord.Id none rr.Records=true by have:=HV.out;rw[List.drop_of_length_le (by have:=HN.out;omega)]at this;rw[← this];cases prevOf rr.Records k<;>rfl)
      have hall:=ascGo_all HALL.out
      have hln:rr.Records.length=n:=HN.out
      cases d1:decide (used rr.Records≤rr.Room)
      ·have HE:=lH (show recorderOk rr=false by rw[HD2.out,HALL.out,d1];rfl)
       go_wp2_with (first|((with_reducible refine rl ?_);(repeat(first|go_big_quiet_step (first|(go_at_call 261;exact Gives.quiet (k_sl05Used)))|simp only[d1]));refine wpQuiet_nil ?_;intro x)|(go_at_call 261;refine gm (k_sl05Used) ?_;intro x))
       go_ret
       exact Gives.mk (by rw[HE.out];first|rfl|(rw[d1]))
      ·have HE:=lH (show recorderOk rr=true by rw[HD2.out,HALL.out,d1,HB.out];rfl)
       go_wp2_with (first|((with_reducible refine rl ?_);(repeat(first|go_big_quiet_step (first|(go_at_call 261;exact Gives.quiet (k_sl05Used)))|simp only[d1]));refine wpQuiet_nil ?_;intro x)|(go_at_call 261;refine gm (k_sl05Used) ?_;intro x))
       go_ret
       exact Gives.mk (by rw[HE.out];first|rfl|(rw[d1]))
 ·have kr:decide (65536<(nd:Int))=true:=by simp;omega
  have hd3:decide ((nd:Int)≤65536)=false:=by simp;omega
  go_enter Tryz.func192,Tryz.ntmps192
  go_wp2_with (first|(go_at_call 82;refine gm (c_sl01In) ?_;intro x))
  go_ret
  exact Gives.mk (by rw[HD.out,c0,hd3];rfl)
theorem RdS.slStr{B:Nat}{w:World}{a:Option Addr}{c:Nat}{l:List ByteArray}(h:RdS B w a c l):Sl encStr w a l:=fun i s hx=>by
 obtain⟨b,off,vs,h0,-,h2,h3,h4⟩:=h.2.2.2 i s hx
 exact⟨b,off,h0,h2,fun j v hv=>by
  obtain⟨rfl,-⟩:=h3
  have:=h4 j v hv
  rw[show Enc.size ByteArray=(encStr s).length from rfl]at this
  exact this⟩
def fileOutOkT(f:TFileOut):Bool:=fileOutOk f.File f.Data.size f.Queue
def fileInOkT(f:TFileIn):Bool:=fileInOk f.File f.Size f.Check f.Parts
theorem k_iFileOutOk{B n:Nat}{a:Option Addr}{c:Nat}{f:TFileOut}{w0 w:World}(hs0:RdS B w0 a c f.Queue:=by exact sd)[g:Keeps B w0 w](hn:f.Queue.length=n:=by exact sd)(hm:n≤100000000:=by exact sd)(hz:f.Data.size≤100000000:=by exact sd) :
  Calls Tryz.prog 132 #[.agg #[.int .i64 f.File,.string f.Data,.slice a n c,.bool f.Done]] w (Gives w (.bool (fileOutOkT f))) :=
 c_iFileOutOk (hs0.to g).toSlInt hn (by omega) hz
theorem k_sFileOutOk{B n:Nat}{a:Option Addr}{c:Nat}{f:TFileOut}{w0 w:World}(hs0:RdS B w0 a c f.Queue:=by exact sd)[g:Keeps B w0 w](hn:f.Queue.length=n:=by exact sd)(hm:n≤100000000:=by exact sd)(hz:f.Data.size≤100000000:=by exact sd) :
  Calls Tryz.prog 93 #[.agg #[.int .i64 f.File,.string f.Data,.slice a n c,.bool f.Done]] w (Gives w (.bool (fileOutOkT f))) :=
 c_sFileOutOk (hs0.to g).toSlInt hn (by omega) hz
theorem k_iFileInOk{B n:Nat}{a:Option Addr}{c:Nat}{f:TFileIn}{w0 w:World}(hs0:RdS B w0 a c f.Parts:=by exact sd)[g:Keeps B w0 w](hn:f.Parts.length=n:=by exact sd)(hm:n≤100000000:=by exact sd)(hz:∀ s∈f.Parts,s.size≤100000000:=by exact sd) :
  Calls Tryz.prog 216 #[.agg #[.int .i64 f.File,.int .i64 f.Size,.int .i64 f.Check,.slice a n c]] w (Gives w (.bool (fileInOkT f))) :=
 c_iFileInOk (hs0.to g).slStr hn (by omega) hz
theorem k_sFileInOk{B n:Nat}{a:Option Addr}{c:Nat}{f:TFileIn}{w0 w:World}(hs0:RdS B w0 a c f.Parts:=by exact sd)[g:Keeps B w0 w](hn:f.Parts.length=n:=by exact sd)(hm:n≤100000000:=by exact sd)(hz:∀ s∈f.Parts,s.size≤100000000:=by exact sd) :
  Calls Tryz.prog 188 #[.agg #[.int .i64 f.File,.int .i64 f.Size,.int .i64 f.Check,.slice a n c]] w (Gives w (.bool (fileInOkT f))) :=
 c_sFileInOk (hs0.to g).slStr hn (by omega) hz
theorem RdS.toSlPair{B:Nat}{w:World}{a:Option Addr}{c:Nat}{l:List Pair}(h:RdS B w a c l):Sl encPair w a l:=fun i s hx=>by
 obtain⟨b,off,vs,h0,-,h2,h3,h4⟩:=h.2.2.2 i s hx
 exact⟨b,off,h0,h2,fun j v hv=>by
  obtain⟨rfl,-⟩:=h3
  have:=h4 j v hv
  rw[show Enc.size Pair=(encPair s).length from rfl]at this
  exact this⟩
def driftOkT(x:TDrift):Bool:=driftOk x.Rate x.Offset
def orbitOkT(x:TOrbit):Bool:=orbitOk x.Period x.Start x.Length
theorem k_iDriftOk{x:TDrift}{w:World}:Calls Tryz.prog 121 #[.agg #[.int .i64 x.Rate,.int .i64 x.Offset]] w (Gives w (.bool (driftOkT x))):=c_iDriftOk
theorem k_iOrbitOk{x:TOrbit}{w:World}:Calls Tryz.prog 122 #[.agg #[.int .i64 x.Period,.int .i64 x.Start,.int .i64 x.Length]] w (Gives w (.bool (orbitOkT x))):=c_iOrbitOk
theorem k_iPairsOk{B n:Nat}{a:Option Addr}{c:Nat}{l:List Pair}{w0 w:World}(hs0:RdS B w0 a c l:=by exact sd)[g:Keeps B w0 w](hn:l.length=n:=by exact sd)(hm:n≤100000000:=by exact sd) :
  Calls Tryz.prog 214 #[.slice a n c] w (Gives w (.bool (pairsOk l))):=c_iPairsOk (hs0.to g).toSlPair hn (by omega)
theorem k_iflightsOkN{B n:Nat}{a:Option Addr}{c:Nat}{l:List TFlight}{w0 w:World}(hs0:RdS B w0 a c l)[g:Keeps B w0 w](hn:l.length=n)(hm:n≤100000000) :
  Calls Tryz.prog 124 #[.slice a n c] w (Gives w (.bool (flightsOk l))):=by
 subst hn;exact k_iflightsOk (hs0.to g) hm
theorem k_irecordsOkN{B n:Nat}{a:Option Addr}{c:Nat}{l:List TRecord}{w0 w:World}(hs0:RdS B w0 a c l:=by exact sd)[g:Keeps B w0 w](hn:l.length=n:=by exact sd)(hm:n≤100000000:=by exact sd) :
  Calls Tryz.prog 215 #[.slice a n c] w (Gives w (.bool (recordsOk l))):=by
 subst hn;exact k_irecordsOk (hs0.to g) hm
theorem k_iSenderOkN{B n:Nat}{a:Option Addr}{c:Nat}{sD:TSender}{w0 w:World}(hs0:RdS B w0 a c sD.Waiting:=by exact sd)[g:Keeps B w0 w](hn:sD.Waiting.length=n:=by exact sd)(hm:n≤100000000:=by exact sd)(hi:okDTSender sD:=by exact sd) :
  Calls Tryz.prog 170 #[.agg #[.int .i64 sD.Next,.int .i64 sD.Window,.slice a n c,.int .i64 sD.Done]] w (Gives w (.bool (senderOk sD))):=by
 subst hn;exact k_iSenderOk (hs0.to g) hm hi
theorem k_iPackerOkN{B n:Nat}{a:Option Addr}{c:Nat}{p:TPacker}{w0 w:World}(hs0:RdS B w0 a c p.Starts:=by exact sd)[g:Keeps B w0 w](hn:p.Starts.length=n:=by exact sd)(hm:n≤100000000:=by exact sd)(hz:p.Rest.size≤100000000:=by exact sd) :
  Calls Tryz.prog 218 #[.agg #[.int .i64 p.Channel,.int .i64 p.Count,.string p.Rest,.slice a n c]] w (Gives w (.bool (packerOk p))):=by
 subst hn;exact k_iPackerOk (hs0.to g) hm hz
theorem k_sDriftOk{x:TDrift}{w:World}:Calls Tryz.prog 83 #[.agg #[.int .i64 x.Rate,.int .i64 x.Offset]] w (Gives w (.bool (driftOkT x))):=c_sDriftOk
theorem k_sOrbitOk{x:TOrbit}{w:World}:Calls Tryz.prog 84 #[.agg #[.int .i64 x.Period,.int .i64 x.Start,.int .i64 x.Length]] w (Gives w (.bool (orbitOkT x))):=c_sOrbitOk
theorem k_sPairsOk{B n:Nat}{a:Option Addr}{c:Nat}{l:List Pair}{w0 w:World}(hs0:RdS B w0 a c l:=by exact sd)[g:Keeps B w0 w](hn:l.length=n:=by exact sd)(hm:n≤100000000:=by exact sd) :
  Calls Tryz.prog 186 #[.slice a n c] w (Gives w (.bool (pairsOk l))):=c_sPairsOk (hs0.to g).toSlPair hn (by omega)
theorem k_sflightsOkN{B n:Nat}{a:Option Addr}{c:Nat}{l:List TFlight}{w0 w:World}(hs0:RdS B w0 a c l)[g:Keeps B w0 w](hn:l.length=n)(hm:n≤100000000) :
  Calls Tryz.prog 86 #[.slice a n c] w (Gives w (.bool (flightsOk l))):=by
 subst hn;exact k_sflightsOk (hs0.to g) hm
theorem k_srecordsOkN{B n:Nat}{a:Option Addr}{c:Nat}{l:List TRecord}{w0 w:World}(hs0:RdS B w0 a c l:=by exact sd)[g:Keeps B w0 w](hn:l.length=n:=by exact sd)(hm:n≤100000000:=by exact sd) :
  Calls Tryz.prog 187 #[.slice a n c] w (Gives w (.bool (recordsOk l))):=by
 subst hn;exact k_srecordsOk (hs0.to g) hm
theorem k_sSenderOkN{B n:Nat}{a:Option Addr}{c:Nat}{sD:TSender}{w0 w:World}(hs0:RdS B w0 a c sD.Waiting:=by exact sd)[g:Keeps B w0 w](hn:sD.Waiting.length=n:=by exact sd)(hm:n≤100000000:=by exact sd)(hi:okDTSender sD:=by exact sd) :
  Calls Tryz.prog 163 #[.agg #[.int .i64 sD.Next,.int .i64 sD.Window,.slice a n c,.int .i64 sD.Done]] w (Gives w (.bool (senderOk sD))):=by
 subst hn;exact k_sSenderOk (hs0.to g) hm hi
theorem k_sPackerOkN{B n:Nat}{a:Option Addr}{c:Nat}{p:TPacker}{w0 w:World}(hs0:RdS B w0 a c p.Starts:=by exact sd)[g:Keeps B w0 w](hn:p.Starts.length=n:=by exact sd)(hm:n≤100000000:=by exact sd)(hz:p.Rest.size≤100000000:=by exact sd) :
  Calls Tryz.prog 190 #[.agg #[.int .i64 p.Channel,.int .i64 p.Count,.string p.Rest,.slice a n c]] w (Gives w (.bool (packerOk p))):=by
 subst hn;exact k_sPackerOk (hs0.to g) hm hz
def firstAt(q:Int):Nat→List TWaiting→Int
 | _,[]=>-1
 | k,s::r=>if s.Number=q then(k:Int)else firstAt q (k+1) r
theorem firstAt_is{q:Int}{s:TWaiting}{r:List TWaiting}(hs:s.Number=q):∀ (l:List TWaiting) (k j:Nat),l.drop j=s::r→(firstAt q k l=((k+j:Nat):Int)↔∀ y∈l.take j,y.Number≠q)
 | [],_,j,h=>by simp at h
 | y::t,k,0,h=>by
  rw[List.drop_zero]at h
  injection h with h1 h2
  rw[firstAt,h1,if_pos hs]
  simp
 | y::t,k,j+1,h=>by
  rw[List.drop_succ_cons]at h
  rw[firstAt,List.take_succ_cons]
  by_cases hy:y.Number=q
  ·rw[if_pos hy]
   constructor
   ·intro e;omega
   ·intro e;exact absurd hy (e y (by simp))
  ·rw[if_neg hy,show((k+(j+1):Nat):Int)=((k+1+j:Nat):Int)from by omega,firstAt_is hs t (k+1) j h]
   constructor
   ·intro e z hz
    rcases List.mem_cons.1 hz with h1|h1
    ·rw[h1];exact hy
    ·exact e z h1
   ·intro e z hz
    exact e z (List.mem_cons_of_mem _ hz)
theorem k_iindexOfOrder{B n:Nat}{a:Option Addr}{c:Nat}{q:Int}{l:List TWaiting}{w0 w:World}(hs0:RdS B w0 a c l:=by exact sd)[g:Keeps B w0 w](hn:l.length=n:=by exact sd)(hm:n≤100000000:=by exact sd) :
  Calls Tryz.prog 224 #[.slice a n c,.int .i64 q] w (Gives w (.int .i64 (firstAt q 0 l))):=by
 have HN:=lH hn
 have hs:=hs0.to g;clear hs0
 clear hn
 go_enter Tryz.func224,Tryz.ntmps224
 go_wp2_with (fail)
 go_loopw [9] (fun v wr=>∃ k:Nat,v=.int .i64 k∧k≤n∧Hid (firstAt q k (l.drop k)=firstAt q 0 l)∧∃ y:Later w,wr=y.w) (fun v _=>(n - intOf v).toNat)
 case atStart=>exact⟨0,rfl,by omega,rfl,Later.of⟩
 case round =>
  obtain⟨k,rfl,hk,HV,y,rfl⟩:=hrel
  by_cases h:k<n
  ·have hkl:k<l.length:=by have:=HN.out;omega
   obtain⟨eb,eoff,es,rfl,ehb,ehd,eok,eh0,eh1,eh2,eh3,eh4⟩:=hs.atTWaiting hkl
   have EOK:=lH eok;clear eok hkl
   by_cases hq:es.Number=q
   ·have kq:(es.Number == q)=true:=by simp[hq]
    have HF:=lH (show(k:Int)=firstAt q 0 l by have:=HV.out;rw[ehd.out,firstAt,if_pos hq]at this;exact this)
    clear hq
    go_wp2_with (fail)
    go_ret
    exact Gives.mk (by rw[← HF.out];rfl)
   ·have kq:(es.Number == q)=false:=by simp[hq]
    have HF:=lH (show firstAt q (k+1) (l.drop (k+1))=firstAt q 0 l by have:=HV.out;rw[ehd.out,firstAt,if_neg hq]at this;exact this)
    clear hq
    go_wp2_with (fail)
    go_roundw
    case rel=>exact⟨k+1,by go_num,by omega,HF,Later.of⟩
    case measure=>simp[intOf];omega
  ·have HF:=lH (show -1=firstAt q 0 l by have:=HV.out;rw[List.drop_of_length_le (by have:=HN.out;omega),firstAt]at this;exact this)
   go_wp2_with (fail)
   go_ret
   exact Gives.mk (by rw[← HF.out];rfl)
def waitAsc(s:TWaiting):Option TWaiting→Bool
 | none=>true
 | some q=>!(decide (s.Order.At<q.Order.At) || (s.Order.At == q.Order.At && decide (s.Number<q.Number)))
def waitOk(taken:Int)(L:List TWaiting)(k:Nat)(s:TWaiting):Bool :=
 orderOk s.Order && (inB s.Number 0 (taken - 1) && ((L.take k).all (fun y=>y.Number != s.Number) && waitAsc s (prevOf L k)))
def ordersFrom(taken:Int)(L:List TWaiting):Nat→List TWaiting→Bool
 | _,[]=>true
 | k,s::r=>waitOk taken L k s && ordersFrom taken L (k+1) r
def ordersOk(taken:Int)(L:List TWaiting):Bool:=decide ((L.length:Int)≤40) && ordersFrom taken L 0 L
theorem firstAt_no{L r:List TWaiting}{s:TWaiting}{k:Nat}(h:L.drop k=s::r):(firstAt s.Number 0 L=(k:Int))↔(L.take k).all (fun y=>y.Number != s.Number)=true:=by
 have:=firstAt_is (q:=s.Number) rfl L 0 k h
 rw[Nat.zero_add]at this
 rw[this,List.all_eq_true]
 simp
theorem k_iordersOk{B n:Nat}{a:Option Addr}{c:Nat}{taken:Int}{l:List TWaiting}{w0 w:World}(hs0:RdS B w0 a c l:=by exact sd)[g:Keeps B w0 w](hn:l.length=n:=by exact sd)(hm:n≤100000000:=by exact sd)(ht0:0≤taken:=by exact sd)(ht1:taken≤65535:=by exact sd) :
  Calls Tryz.prog 221 #[.slice a n c,.int .i64 taken] w (Gives w (.bool (ordersOk taken l))):=by
 have HN:=lH hn
 have hs:=hs0.to g;clear hs0
 have HD:=lH (show ordersOk taken l=(decide ((n:Int)≤40) && ordersFrom taken l 0 l)by rw[ordersOk,hn])
 by_cases h40:n≤40
 ·have k40:decide (40<(n:Int))=false:=by simp;omega
  have HD2:=lH (show ordersOk taken l=ordersFrom taken l 0 l by rw[HD.out,decide_eq_true (by omega)];rfl)
  clear HD
  go_enter Tryz.func221,Tryz.ntmps221
  go_wp2_with fail
  go_loopw [13] (fun v wr=>∃ k:Nat,v=.int .i64 k∧k≤n∧Hid (ordersFrom taken l k (l.drop k)=ordersFrom taken l 0 l)∧∃ y:Later w,wr=y.w) (fun v _=>(n - intOf v).toNat)
  case atStart=>exact⟨0,rfl,by omega,rfl,Later.of⟩
  case round =>
   obtain⟨k,rfl,hk,HV,y,rfl⟩:=hrel
   by_cases h:k<n
   ·have hkl:k<l.length:=by have:=HN.out;omega
    obtain⟨eb,eoff,es,rfl,ehb,ehd,eok,eh0,eh1,eh2,eh3,eh4⟩:=hs.atTWaiting hkl
    have EOK:=lH eok;clear eok hkl
    cases d1:orderOk es.Order
    ·have HF:=lH (show ordersOk taken l=false by have:=HV.out;rw[ehd.out,ordersFrom,waitOk,d1]at this;rw[HD2.out,← this];rfl)
     go_wp2_with (first|(go_at_call 223;refine gm (k_iOrderOk) ?_;intro x))
     go_ret
     exact Gives.mk (by rw[HF.out];rfl)
    cases d2:inB es.Number 0 (taken - 1)
    ·have HF:=lH (show ordersOk taken l=false by have:=HV.out;rw[ehd.out,ordersFrom,waitOk,d1,d2]at this;rw[HD2.out,← this];rfl)
     go_wp2_with (first|(go_at_call 120;refine gm (c_ibetween) ?_;intro x)|(go_at_call 223;refine gm (k_iOrderOk) ?_;intro x))
     go_ret
     exact Gives.mk (by rw[HF.out];rfl)
    cases d3:(l.take k).all (fun y=>y.Number != es.Number)
    ·have HF:=lH (show ordersOk taken l=false by have:=HV.out;rw[ehd.out,ordersFrom,waitOk,d1,d2,d3]at this;rw[HD2.out,← this];rfl)
     have e3:(firstAt es.Number 0 l == (k:Int))=false:=by
      have:=(not_congr (firstAt_no ehd.out)).2 (by rw[d3];simp)
      simp[this]
     have e4:(firstAt es.Number 0 l != (k:Int))=true:=by rw[bne,e3];rfl
     clear d3
     go_wp2_with (first|(go_at_call 120;refine gm (c_ibetween) ?_;intro x)|(go_at_call 223;refine gm (k_iOrderOk) ?_;intro x)|(go_at_call 224;refine gm (k_iindexOfOrder) ?_;intro x))
     go_ret
     exact Gives.mk (by rw[HF.out];rfl)
    have e3:(firstAt es.Number 0 l == (k:Int))=true:=by
     have:=(firstAt_no ehd.out).2 d3
     simp[this]
    have e4:(firstAt es.Number 0 l != (k:Int))=false:=by rw[bne,e3];rfl
    by_cases hz0:k=0
    ·have HF:=lH (show ordersFrom taken l (k+1) (l.drop (k+1))=ordersFrom taken l 0 l by have:=HV.out;rw[ehd.out,ordersFrom,waitOk,d1,d2,d3]at this;rw[← this];simp[prevOf,hz0,waitAsc])
     have hz':((k:Int) == 0)=true:=by simp[hz0]
     clear d3 hz0
     go_wp2_with (first|(go_at_call 120;refine gm (c_ibetween) ?_;intro x)|(go_at_call 223;refine gm (k_iOrderOk) ?_;intro x)|(go_at_call 224;refine gm (k_iindexOfOrder) ?_;intro x))
     go_roundw
     case rel=>exact⟨k+1,by go_num,by omega,HF,Later.of⟩
     case measure=>simp[intOf];omega
    ·obtain⟨fb,foff,fs,hbo,fhb,fhd,fok,fh0,fh1,fh2,fh3,fh4⟩:=hs.atTWaiting (show k - 1<l.length by have:=HN.out;omega)
     simp only[Option.some.injEq,Addr.mk.injEq,and_true]at hbo
     obtain⟨rfl,rfl⟩:=hbo
     have FOK:=lH fok;clear fok
     have hz':((k:Int) == 0)=false:=by simp;omega
     have hp:prevOf l k=some fs:=by have:=prevOf_succ fhd.out;rwa[show k - 1+1=k from by omega]at this
     have HP:=lH hp;clear hp
     cases f1:decide (es.Order.At<fs.Order.At)
     ·cases f2:(es.Order.At == fs.Order.At)
      ·have HF:=lH (show ordersFrom taken l (k+1) (l.drop (k+1))=ordersFrom taken l 0 l by have:=HV.out;rw[ehd.out,ordersFrom,waitOk,d1,d2,d3,HP.out,waitAsc,f1,f2]at this;exact this)
       clear d3
       go_wp2_with (first|(go_at_call 120;refine gm (c_ibetween) ?_;intro x)|(go_at_call 223;refine gm (k_iOrderOk) ?_;intro x)|(go_at_call 224;refine gm (k_iindexOfOrder) ?_;intro x))
       go_roundw
       case rel=>exact⟨k+1,by go_num,by omega,HF,Later.of⟩
       case measure=>simp[intOf];omega
      ·cases f3:decide (es.Number<fs.Number)
       ·have HF:=lH (show ordersFrom taken l (k+1) (l.drop (k+1))=ordersFrom taken l 0 l by have:=HV.out;rw[ehd.out,ordersFrom,waitOk,d1,d2,d3,HP.out,waitAsc,f1,f2,f3]at this;exact this)
        have F2:=lH f2
        clear d3
        go_wp2_with (first|(go_at_call 120;refine gm (c_ibetween) ?_;intro x)|(go_at_call 223;refine gm (k_iOrderOk) ?_;intro x)|(go_at_call 224;refine gm (k_iindexOfOrder) ?_;intro x))
        go_roundw
        case rel=>exact⟨k+1,by go_num,by omega,HF,Later.of⟩
        case measure=>simp[intOf];omega
       ·have HF:=lH (show ordersOk taken l=false by have:=HV.out;rw[ehd.out,ordersFrom,waitOk,d1,d2,d3,HP.out,waitAsc,f1,f2,f3]at this;rw[HD2.out,← this];rfl)
        clear d3
        go_wp2_with (first|(go_at_call 120;refine gm (c_ibetween) ?_;intro x)|(go_at_call 223;refine gm (k_iOrderOk) ?_;intro x)|(go_at_call 224;refine gm (k_iindexOfOrder) ?_;intro x))
        go_ret
        exact Gives.mk (by rw[HF.out];rfl)
     ·have HF:=lH (show ordersOk taken l=false by have:=HV.out;rw[ehd.out,ordersFrom,waitOk,d1,d2,d3,HP.out,waitAsc,f1]at this;rw[HD2.out,← this];rfl)
      clear d3
      go_wp2_with (first|(go_at_call 120;refine gm (c_ibetween) ?_;intro x)|(go_at_call 223;refine gm (k_iOrderOk) ?_;intro x)|(go_at_call 224;refine gm (k_iindexOfOrder) ?_;intro x))
      go_ret
      exact Gives.mk (by rw[HF.out];rfl)
   ·have HF:=lH (show ordersOk taken l=true by have:=HV.out;rw[List.drop_of_length_le (by have:=HN.out;omega),ordersFrom]at this;rw[HD2.out,← this])
    go_wp2_with fail
    go_ret
    exact Gives.mk (by rw[HF.out];rfl)
 ·have k40:decide (40<(n:Int))=true:=by simp;omega
  have HD2:=lH (show ordersOk taken l=false by rw[HD.out,decide_eq_false (by omega)];rfl)
  go_enter Tryz.func221,Tryz.ntmps221
  go_wp2_with fail
  go_ret
  exact Gives.mk (by rw[HD2.out];rfl)
theorem k_sl05Orders{B:Nat}{A:TBoardA}{bd:TBoard}{w0 w:World}(F0:TBoardF B w0 A bd)[g:Keeps B w0 w](hm:bd.Orders.length≤100000000)(ht0:0≤bd.Taken)(ht1:bd.Taken≤65535) :
  Calls Tryz.prog 193 #[.agg #[.int .i64 bd.Clock,.slice A.a0 bd.Params.length A.c0,.bool bd.Safe,.slice A.a1 bd.Limits.length A.c1,.slice A.a2 bd.Orders.length A.c2,.slice A.a3 bd.Done.length A.c3,.int .i64 bd.Recorder.Room,.slice A.a4 bd.Recorder.Records.length A.c4,.slice A.a5 bd.Recorder.Dropped.length A.c5,.int .i64 bd.Made,.int .i64 bd.Taken,.slice A.a6 bd.Asked.length A.c6]] w (Gives w (.bool (ordersOk bd.Taken bd.Orders))):=by
 have hs:=F0.q2.to g;clear F0
 obtain⟨l,hl⟩:∃ l,bd.Orders=l:=⟨_,rfl⟩
 obtain⟨taken,htk⟩:∃ t,bd.Taken=t:=⟨_,rfl⟩
 obtain⟨a,ha⟩:∃ a,A.a2=a:=⟨_,rfl⟩
 obtain⟨n,hn⟩:∃ n,l.length=n:=⟨_,rfl⟩
 rw[hl,ha]at hs
 rw[hl,hn]at hm
 rw[htk]at ht0 ht1
 rw[hl,htk,ha,hn]
 have HN:=lH hn
 clear hl htk ha hn
 have HD:=lH (show ordersOk taken l=(decide ((n:Int)≤40) && ordersFrom taken l 0 l)by rw[ordersOk,HN.out])
 by_cases h40:n≤40
 ·have k40:decide (40<(n:Int))=false:=by simp;omega
  have HD2:=lH (show ordersOk taken l=ordersFrom taken l 0 l by rw[HD.out,decide_eq_true (by omega)];rfl)
  clear HD
  go_enter Tryz.func193,Tryz.ntmps193
  go_wp2_with fail
  go_loopw [3] (fun v wr=>∃ k:Nat,v=.int .i64 k∧k≤n∧Hid (ordersFrom taken l k (l.drop k)=ordersFrom taken l 0 l)∧∃ y:Later (w.alloc (.cells #[.int .i64 bd.Clock,.slice A.a0 bd.Params.length A.c0,.bool bd.Safe,.slice A.a1 bd.Limits.length A.c1,.slice a n A.c2,.slice A.a3 bd.Done.length A.c3,.int .i64 bd.Recorder.Room,.slice A.a4 bd.Recorder.Records.length A.c4,.slice A.a5 bd.Recorder.Dropped.length A.c5,.int .i64 bd.Made,.int .i64 taken,.slice A.a6 bd.Asked.length A.c6] 84)),wr=y.w) (fun v _=>(n - intOf v).toNat)
  case atStart=>exact⟨0,rfl,by omega,rfl,Later.of⟩
  case round =>
   obtain⟨k,rfl,hk,HV,y,rfl⟩:=hrel
   by_cases h:k<n
   ·have hkl:k<l.length:=by have:=HN.out;omega
    obtain⟨eb,eoff,es,rfl,ehb,ehd,eok,eh0,eh1,eh2,eh3,eh4⟩:=hs.atTWaiting hkl
    have EOK:=lH eok;clear eok hkl
    cases d1:orderOk es.Order
    ·have HF:=lH (show ordersOk taken l=false by have:=HV.out;rw[ehd.out,ordersFrom,waitOk,d1]at this;rw[HD2.out,← this];rfl)
     go_wp2_with (first|(go_at_call 194;refine gm (k_sOrderOk) ?_;intro x))
     go_ret
     exact Gives.mk (by rw[HF.out];rfl)
    cases d2:inB es.Number 0 (taken - 1)
    ·have HF:=lH (show ordersOk taken l=false by have:=HV.out;rw[ehd.out,ordersFrom,waitOk,d1,d2]at this;rw[HD2.out,← this];rfl)
     go_wp2_with (first|(go_at_call 82;refine gm (c_sl01In) ?_;intro x)|(go_at_call 194;refine gm (k_sOrderOk) ?_;intro x))
     go_ret
     exact Gives.mk (by rw[HF.out];rfl)
    go_wp2_with (first|(go_at_call 82;refine gm (c_sl01In) ?_;intro x)|(go_at_call 194;refine gm (k_sOrderOk) ?_;intro x))
    go_loopw [5] (fun v wr=>∃ j:Nat,v=.int .i64 j∧j≤k∧Hid ((l.take j).all (fun z=>z.Number != es.Number)=true)∧∃ z:Later (y.w.alloc (.cells #[.int .i64 es.Number,.int .i64 es.Order.Kind,.int .i64 es.Order.At,.int .i64 es.Order.A,.int .i64 es.Order.B] 169)),wr=z.w) (fun v _=>(k - intOf v).toNat)
    case atStart=>exact⟨0,rfl,by omega,by rw[Hid];rfl,Later.of⟩
    case round =>
     obtain⟨j,rfl,hj,HJ,z,rfl⟩:=hrel
     by_cases hjk:j<k
     ·obtain⟨gb,goff,gs,hbo,ghb,ghd,gok,gh0,gh1,gh2,gh3,gh4⟩:=hs.atTWaiting (show j<l.length by have:=HN.out;omega)
      simp only[Option.some.injEq,Addr.mk.injEq,and_true]at hbo
      obtain⟨rfl,rfl⟩:=hbo
      have GOK:=lH gok;clear gok
      have hT:=lH (show l.take (j+1)=l.take j++[gs]by rw[List.take_succ_eq_append_getElem (by have:=HN.out;omega)];congr 1;have h0:(l.drop j)[0]?=some gs:=(by rw[ghd.out];rfl);rw[List.getElem?_drop]at h0;simp at h0;obtain⟨_,h0⟩:=List.getElem?_eq_some_iff.1 h0;rw[h0])
      cases e1:(gs.Number == es.Number)
      ·have HJ2:=lH (show(l.take (j+1)).all (fun z=>z.Number != es.Number)=true by rw[hT.out,List.all_append,HJ.out];simp only[List.all_cons,List.all_nil,bne,e1];rfl)
       go_wp2_with (first|((with_reducible refine rl ?_);(repeat(first|go_big_quiet_step (first|fail)|simp only[e1]));refine wpQuiet_nil ?_;intro x))
       go_roundw
       case rel=>exact⟨j+1,by go_num,by omega,HJ2,Later.of⟩
       case measure=>simp[intOf];omega
      ·have HJ2:=lH (show(l.take k).all (fun z=>z.Number != es.Number)=false by have h1:gs∈l.take k:=(List.take_subset_take_left _ (show j+1≤k by omega)) (by rw[hT.out];simp);rw[Bool.eq_false_iff];intro hh;have:=List.all_eq_true.1 hh gs h1;rw[bne,e1]at this;cases this)
       have HF:=lH (show ordersOk taken l=false by have:=HV.out;rw[ehd.out,ordersFrom,waitOk,d1,d2,HJ2.out]at this;rw[HD2.out,← this];rfl)
       go_wp2_with (first|((with_reducible refine rl ?_);(repeat(first|go_big_quiet_step (first|fail)|simp only[e1]));refine wpQuiet_nil ?_;intro x))
       go_ret
       exact Gives.mk (by rw[HF.out];rfl)
     have ejk:j=k:=by omega
     subst ejk
     have d3:(l.take j).all (fun z=>z.Number != es.Number)=true:=HJ.out
     have EK:=lH d1
     by_cases hz0:j=0
     ·have HF:=lH (show ordersFrom taken l (j+1) (l.drop (j+1))=ordersFrom taken l 0 l by have:=HV.out;rw[ehd.out,ordersFrom,waitOk,d1,d2,d3]at this;rw[← this];simp[prevOf,hz0,waitAsc])
      have hz':decide (0<(j:Int))=false:=by simp;omega
      have hz2:decide (0<j)=false:=by simp;omega
      clear d3 hz0
      go_wp2_with (first|((with_reducible refine rl ?_);(repeat(first|go_big_quiet_step (first|fail)|simp only[hz']|simp only[hz2]));refine wpQuiet_nil ?_;intro x))
      go_roundw
      case rel=>exact⟨j+1,by go_num,by omega,HF,Later.of⟩
      case measure=>simp[intOf];omega
     ·obtain⟨fb,foff,fs,hbo,fhb,fhd,fok,fh0,fh1,fh2,fh3,fh4⟩:=hs.atTWaiting (show j - 1<l.length by have:=HN.out;omega)
      simp only[Option.some.injEq,Addr.mk.injEq,and_true]at hbo
      obtain⟨rfl,rfl⟩:=hbo
      have FOK:=lH fok;clear fok
      have hz':decide (0<(j:Int))=true:=by simp;omega
      have hz2:decide (0<j)=true:=by simp;omega
      have hp:prevOf l j=some fs:=by have:=prevOf_succ fhd.out;rwa[show j - 1+1=j from by omega]at this
      have HP:=lH hp;clear hp
      cases f1:decide (es.Order.At<fs.Order.At)
      ·cases f2:(es.Order.At == fs.Order.At)
       ·have HF:=lH (show ordersFrom taken l (j+1) (l.drop (j+1))=ordersFrom taken l 0 l by have:=HV.out;rw[ehd.out,ordersFrom,waitOk,d1,d2,d3,HP.out,waitAsc,f1,f2]at this;exact this)
        clear d3
        go_wp2_with (first|((with_reducible refine rl ?_);(repeat(first|go_big_quiet_step (first|fail)|simp only[hz']|simp only[hz2]|simp only[f1]|simp only[f2]));refine wpQuiet_nil ?_;intro x))
        go_roundw
        case rel=>exact⟨j+1,by go_num,by omega,HF,Later.of⟩
        case measure=>simp[intOf];omega
       ·cases f3:decide (es.Number<fs.Number)
        ·have HF:=lH (show ordersFrom taken l (j+1) (l.drop (j+1))=ordersFrom taken l 0 l by have:=HV.out;rw[ehd.out,ordersFrom,waitOk,d1,d2,d3,HP.out,waitAsc,f1,f2,f3]at this;exact this)
         have F2:=lH f2
         clear d3
         go_wp2_with (first|((with_reducible refine rl ?_);(repeat(first|go_big_quiet_step (first|fail)|simp only[hz']|simp only[hz2]|simp only[f1]|simp only[f2]|simp only[f3]));refine wpQuiet_nil ?_;intro x))
         go_roundw
         case rel=>exact⟨j+1,by go_num,by omega,HF,Later.of⟩
         case measure=>simp[intOf];omega
        ·have HF:=lH (show ordersOk taken l=false by have:=HV.out;rw[ehd.out,ordersFrom,waitOk,d1,d2,d3,HP.out,waitAsc,f1,f2,f3]at this;rw[HD2.out,← this];rfl)
         clear d3
         go_wp2_with (first|((with_reducible refine rl ?_);(repeat(first|go_big_quiet_step (first|fail)|simp only[hz']|simp only[hz2]|simp only[f1]|simp only[f2]|simp only[f3]));refine wpQuiet_nil ?_;intro x))
         go_ret
         exact Gives.mk (by rw[HF.out];rfl)
      ·have HF:=lH (show ordersOk taken l=false by have:=HV.out;rw[ehd.out,ordersFrom,waitOk,d1,d2,d3,HP.out,waitAsc,f1]at this;rw[HD2.out,← this];rfl)
       clear d3
       go_wp2_with (first|((with_reducible refine rl ?_);(repeat(first|go_big_quiet_step (first|fail)|simp only[hz']|simp only[hz2]|simp only[f1]));refine wpQuiet_nil ?_;intro x))
       go_ret
       exact Gives.mk (by rw[HF.out];rfl)
   ·have HF:=lH (show ordersOk taken l=true by have:=HV.out;rw[List.drop_of_length_le (by have:=HN.out;omega),ordersFrom]at this;rw[HD2.out,← this])
    go_wp2_with fail
    go_ret
    exact Gives.mk (by rw[HF.out];rfl)
 ·have k40:decide (40<(n:Int))=true:=by simp;omega
  have HD2:=lH (show ordersOk taken l=false by rw[HD.out,decide_eq_false (by omega)];rfl)
  go_enter Tryz.func193,Tryz.ntmps193
  go_wp2_with fail
  go_ret
  exact Gives.mk (by rw[HD2.out];rfl)
def limitOk(x:TLimit):Bool:=inB x.Param 0 7 && (inB x.Low 0 65535 && inB x.High 0 65535)
def doneOk(t:Int)(x:TDone):Bool:=inB x.Number 0 (t - 1) && (inB x.Time 0 1000000 && inB x.Result 0 1)
def idOk(t:Int)(x:TRecord):Bool:=!decide (t≤x.Id)
def offerOk(s:ByteArray):Bool:=inB s.size 1 40
def filesFrom:Nat→List TFileIn→Bool
 | _,[]=>true
 | k,y::r=>(fileInOkT y && (y.File == (k:Int))) && filesFrom (k+1) r
def outOk(s:ByteArray)(k:Nat)(y:TFileOut):Bool:=!decide (600<(s.size:Int)) && (fileOutOkT y && ((y.File == (k:Int)) && (y.Data.toList == s.toList)))
def outsFrom(files:List ByteArray):Nat→List TFileOut→Bool
 | _,[]=>true
 | k,y::r=>outOk (files.getD k ByteArray.empty) k y && outsFrom files (k+1) r
def boardOk(b:TBoard):Bool:=inB b.Clock 0 1000000 && (((b.Params.length:Int) == 8) && (allB 0 65535 b.Params && (decide ((b.Limits.length:Int)≤8) && (b.Limits.all limitOk && (inB b.Made 0 65535 && (inB b.Taken 0 65535 && (ordersOk b.Taken b.Orders && (decide ((b.Done.length:Int)≤5000) && (b.Done.all (doneOk b.Taken) && (recorderOk b.Recorder && (b.Recorder.Records.all (idOk b.Made) && (decide ((b.Asked.length:Int)≤5000) && (allB 0 7 b.Asked)))))))))))))
theorem boardOk_no1{b:TBoard}(h:inB b.Clock 0 1000000=false):boardOk b=false:=by rw[boardOk,h];simp
theorem boardOk_no2{b:TBoard}(h:((b.Params.length:Int) == 8)=false):boardOk b=false:=by rw[boardOk,h];simp
theorem boardOk_no3{b:TBoard}(h:allB 0 65535 b.Params=false):boardOk b=false:=by rw[boardOk,h];simp
theorem boardOk_no4{b:TBoard}(h:decide ((b.Limits.length:Int)≤8)=false):boardOk b=false:=by rw[boardOk,h];simp
theorem boardOk_no5{b:TBoard}(h:b.Limits.all limitOk=false):boardOk b=false:=by rw[boardOk,h];simp
theorem boardOk_no6{b:TBoard}(h:inB b.Made 0 65535=false):boardOk b=false:=by rw[boardOk,h];simp
theorem boardOk_no7{b:TBoard}(h:inB b.Taken 0 65535=false):boardOk b=false:=by rw[boardOk,h];simp
theorem boardOk_no8{b:TBoard}(h:ordersOk b.Taken b.Orders=false):boardOk b=false:=by rw[boardOk,h];simp
theorem boardOk_no9{b:TBoard}(h:decide ((b.Done.length:Int)≤5000)=false):boardOk b=false:=by rw[boardOk,h];simp
theorem boardOk_no10{b:TBoard}(h:b.Done.all (doneOk b.Taken)=false):boardOk b=false:=by rw[boardOk,h];simp
theorem boardOk_no11{b:TBoard}(h:recorderOk b.Recorder=false):boardOk b=false:=by rw[boardOk,h];simp
theorem boardOk_no12{b:TBoard}(h:b.Recorder.Records.all (idOk b.Made)=false):boardOk b=false:=by rw[boardOk,h];simp
theorem boardOk_no13{b:TBoard}(h:decide ((b.Asked.length:Int)≤5000)=false):boardOk b=false:=by rw[boardOk,h];simp
theorem boardOk_no14{b:TBoard}(h:allB 0 7 b.Asked=false):boardOk b=false:=by rw[boardOk,h];simp
theorem boardOk_yes{b:TBoard}(h1:inB b.Clock 0 1000000=true)(h2:((b.Params.length:Int) == 8)=true)(h3:allB 0 65535 b.Params=true)(h4:decide ((b.Limits.length:Int)≤8)=true)(h5:b.Limits.all limitOk=true)(h6:inB b.Made 0 65535=true)(h7:inB b.Taken 0 65535=true)(h8:ordersOk b.Taken b.Orders=true)(h9:decide ((b.Done.length:Int)≤5000)=true)(h10:b.Done.all (doneOk b.Taken)=true)(h11:recorderOk b.Recorder=true)(h12:b.Recorder.Records.all (idOk b.Made)=true)(h13:decide ((b.Asked.length:Int)≤5000)=true)(h14:allB 0 7 b.Asked=true):boardOk b=true:=by rw[boardOk,h1,h2,h3,h4,h5,h6,h7,h8,h9,h10,h11,h12,h13,h14];rfl
def groundOk(b:TGround):Bool:=senderOk b.Sender && (unpackerOk b.Unpacker && (pairsOk b.Pairs && ((b.Unpacker.Channel == 0) && (inB b.Notice.Expect 0 255 && (decide ((b.Offers.length:Int)≤200) && (recordsOk b.Records && (b.Offers.all offerOk && (((b.Files.length:Int) == 8) && (((b.Told.length:Int) == 8) && (filesFrom 0 b.Files))))))))))
theorem groundOk_no1{b:TGround}(h:senderOk b.Sender=false):groundOk b=false:=by rw[groundOk,h];simp
theorem groundOk_no2{b:TGround}(h:unpackerOk b.Unpacker=false):groundOk b=false:=by rw[groundOk,h];simp
theorem groundOk_no3{b:TGround}(h:pairsOk b.Pairs=false):groundOk b=false:=by rw[groundOk,h];simp
theorem groundOk_no4{b:TGround}(h:(b.Unpacker.Channel == 0)=false):groundOk b=false:=by rw[groundOk,h];simp
theorem groundOk_no5{b:TGround}(h:inB b.Notice.Expect 0 255=false):groundOk b=false:=by rw[groundOk,h];simp
theorem groundOk_no6{b:TGround}(h:decide ((b.Offers.length:Int)≤200)=false):groundOk b=false:=by rw[groundOk,h];simp
theorem groundOk_no7{b:TGround}(h:recordsOk b.Records=false):groundOk b=false:=by rw[groundOk,h];simp
theorem groundOk_no8{b:TGround}(h:b.Offers.all offerOk=false):groundOk b=false:=by rw[groundOk,h];simp
theorem groundOk_no9{b:TGround}(h:((b.Files.length:Int) == 8)=false):groundOk b=false:=by rw[groundOk,h];simp
theorem groundOk_no10{b:TGround}(h:((b.Told.length:Int) == 8)=false):groundOk b=false:=by rw[groundOk,h];simp
theorem groundOk_no11{b:TGround}(h:filesFrom 0 b.Files=false):groundOk b=false:=by rw[groundOk,h];simp
theorem groundOk_yes{b:TGround}(h1:senderOk b.Sender=true)(h2:unpackerOk b.Unpacker=true)(h3:pairsOk b.Pairs=true)(h4:(b.Unpacker.Channel == 0)=true)(h5:inB b.Notice.Expect 0 255=true)(h6:decide ((b.Offers.length:Int)≤200)=true)(h7:recordsOk b.Records=true)(h8:b.Offers.all offerOk=true)(h9:((b.Files.length:Int) == 8)=true)(h10:((b.Told.length:Int) == 8)=true)(h11:filesFrom 0 b.Files=true):groundOk b=true:=by rw[groundOk,h1,h2,h3,h4,h5,h6,h7,h8,h9,h10,h11];rfl
def spaceOk(b:TSpace):Bool:=receiverOk b.Receiver && (boardOk b.Board && (packerOk b.Packer && ((b.Packer.Channel == 0) && (inB b.Seq 0 65535 && (inB b.Begun 0 b.Board.Asked.length && (recordsOk b.Sent && (((b.Files.length:Int) == 8) && (((b.Outs.length:Int) == 8) && (outsFrom b.Files 0 b.Outs)))))))))
theorem spaceOk_no1{b:TSpace}(h:receiverOk b.Receiver=false):spaceOk b=false:=by rw[spaceOk,h];simp
theorem spaceOk_no2{b:TSpace}(h:boardOk b.Board=false):spaceOk b=false:=by rw[spaceOk,h];simp
theorem spaceOk_no3{b:TSpace}(h:packerOk b.Packer=false):spaceOk b=false:=by rw[spaceOk,h];simp
theorem spaceOk_no4{b:TSpace}(h:(b.Packer.Channel == 0)=false):spaceOk b=false:=by rw[spaceOk,h];simp
theorem spaceOk_no5{b:TSpace}(h:inB b.Seq 0 65535=false):spaceOk b=false:=by rw[spaceOk,h];simp
theorem spaceOk_no6{b:TSpace}(h:inB b.Begun 0 b.Board.Asked.length=false):spaceOk b=false:=by rw[spaceOk,h];simp
theorem spaceOk_no7{b:TSpace}(h:recordsOk b.Sent=false):spaceOk b=false:=by rw[spaceOk,h];simp
theorem spaceOk_no8{b:TSpace}(h:((b.Files.length:Int) == 8)=false):spaceOk b=false:=by rw[spaceOk,h];simp
theorem spaceOk_no9{b:TSpace}(h:((b.Outs.length:Int) == 8)=false):spaceOk b=false:=by rw[spaceOk,h];simp
theorem spaceOk_no10{b:TSpace}(h:outsFrom b.Files 0 b.Outs=false):spaceOk b=false:=by rw[spaceOk,h];simp
theorem spaceOk_yes{b:TSpace}(h1:receiverOk b.Receiver=true)(h2:boardOk b.Board=true)(h3:packerOk b.Packer=true)(h4:(b.Packer.Channel == 0)=true)(h5:inB b.Seq 0 65535=true)(h6:inB b.Begun 0 b.Board.Asked.length=true)(h7:recordsOk b.Sent=true)(h8:((b.Files.length:Int) == 8)=true)(h9:((b.Outs.length:Int) == 8)=true)(h10:outsFrom b.Files 0 b.Outs=true):spaceOk b=true:=by rw[spaceOk,h1,h2,h3,h4,h5,h6,h7,h8,h9,h10];rfl
theorem boardOk_taken{b:TBoard}(h:inB b.Taken 0 65535=true):0≤b.Taken∧b.Taken≤65535:=inB_iff.1 h
theorem k_iRecorderOkN{B n n2:Nat}{a a2:Option Addr}{c c2:Nat}{rr:TRecorder}{w0 w:World}(hs0:RdS B w0 a c rr.Records:=by exact sd)(hs20:RdS B w0 a2 c2 rr.Dropped:=by exact sd)[g:Keeps B w0 w](hn:rr.Records.length=n:=by exact sd)(hn2:rr.Dropped.length=n2:=by exact sd)(hm:n≤100000000:=by exact sd)(hm2:n2≤100000000:=by exact sd) :
  Calls Tryz.prog 222 #[.agg #[.int .i64 rr.Room,.slice a n c,.slice a2 n2 c2]] w (Gives w (.bool (recorderOk rr))):=by
 subst hn;subst hn2;exact k_iRecorderOk (hs0.to g) (hs20.to g) hm hm2
theorem k_sRecorderOkN{B n n2:Nat}{a a2:Option Addr}{c c2:Nat}{rr:TRecorder}{w0 w:World}(hs0:RdS B w0 a c rr.Records:=by exact sd)(hs20:RdS B w0 a2 c2 rr.Dropped:=by exact sd)[g:Keeps B w0 w](hn:rr.Records.length=n:=by exact sd)(hn2:rr.Dropped.length=n2:=by exact sd)(hm:n≤100000000:=by exact sd)(hm2:n2≤100000000:=by exact sd) :
  Calls Tryz.prog 192 #[.agg #[.int .i64 rr.Room,.slice a n c,.slice a2 n2 c2]] w (Gives w (.bool (recorderOk rr))):=by
 subst hn;subst hn2;exact k_sRecorderOk (hs0.to g) (hs20.to g) hm hm2
theorem k_sl05OrdersN{B n0 n1 n2 n3 n4 n5 n6:Nat}{a0 a1 a2 a3 a4 a5 a6:Option Addr}{c0 c1 c2 c3 c4 c5 c6:Nat}{bd:TBoard}{w0 w:World}(hq0:RdS B w0 a0 c0 bd.Params:=by exact sd)(hq1:RdS B w0 a1 c1 bd.Limits:=by exact sd)(hq2:RdS B w0 a2 c2 bd.Orders:=by exact sd)(hq3:RdS B w0 a3 c3 bd.Done:=by exact sd)(hq4:RdS B w0 a4 c4 bd.Recorder.Records:=by exact sd)(hq5:RdS B w0 a5 c5 bd.Recorder.Dropped:=by exact sd)(hq6:RdS B w0 a6 c6 bd.Asked:=by exact sd)[g:Keeps B w0 w](ok:okDTBoard bd:=by exact sd)(hn0:bd.Params.length=n0:=by exact sd)(hn1:bd.Limits.length=n1:=by exact sd)(hn2:bd.Orders.length=n2:=by exact sd)(hn3:bd.Done.length=n3:=by exact sd)(hn4:bd.Recorder.Records.length=n4:=by exact sd)(hn5:bd.Recorder.Dropped.length=n5:=by exact sd)(hn6:bd.Asked.length=n6:=by exact sd)(hm0:n0≤100000000:=by exact sd)(hm1:n1≤100000000:=by exact sd)(hm2:n2≤100000000:=by exact sd)(hm3:n3≤100000000:=by exact sd)(hm4:n4≤100000000:=by exact sd)(hm5:n5≤100000000:=by exact sd)(hm6:n6≤100000000:=by exact sd)  (ht0:0≤bd.Taken:=by exact sd)(ht1:bd.Taken≤65535:=by exact sd) :
  Calls Tryz.prog 193 #[.agg #[.int .i64 bd.Clock,.slice a0 n0 c0,.bool bd.Safe,.slice a1 n1 c1,.slice a2 n2 c2,.slice a3 n3 c3,.int .i64 bd.Recorder.Room,.slice a4 n4 c4,.slice a5 n5 c5,.int .i64 bd.Made,.int .i64 bd.Taken,.slice a6 n6 c6]] w (Gives w (.bool (ordersOk bd.Taken bd.Orders))):=by
 subst hn0;subst hn1;subst hn2;subst hn3;subst hn4;subst hn5;subst hn6
 exact k_sl05Orders (A:=⟨a0,c0,a1,c1,a2,c2,a3,c3,a4,c4,a5,c5,a6,c6⟩) ⟨hq0,hq1,hq2,hq3,hq4,hq5,hq6,ok⟩ hm2 ht0 ht1
def missionOk(b:TMission):Bool:=inB b.Time 0 1000000 && (inB b.Light 0 50 && (inB b.Bad 0 1000000 && (driftOkT b.Drift && (orbitOkT b.Orbit && (channelOk b.Up && (channelOk b.Down && (decide ((b.Plan.length:Int)≤1500) && (flightsOk b.Ups && (flightsOk b.Downs && (groundOk b.Ground && (spaceOk b.Space && (decide ((b.Offered.length:Int)≤5000) && (decide ((b.Took.length:Int)≤5000))))))))))))))
theorem missionOk_no1{b:TMission}(h:inB b.Time 0 1000000=false):missionOk b=false:=by rw[missionOk,h];simp
theorem missionOk_no2{b:TMission}(h:inB b.Light 0 50=false):missionOk b=false:=by rw[missionOk,h];simp
theorem missionOk_no3{b:TMission}(h:inB b.Bad 0 1000000=false):missionOk b=false:=by rw[missionOk,h];simp
theorem missionOk_no4{b:TMission}(h:driftOkT b.Drift=false):missionOk b=false:=by rw[missionOk,h];simp
theorem missionOk_no5{b:TMission}(h:orbitOkT b.Orbit=false):missionOk b=false:=by rw[missionOk,h];simp
theorem missionOk_no6{b:TMission}(h:channelOk b.Up=false):missionOk b=false:=by rw[missionOk,h];simp
theorem missionOk_no7{b:TMission}(h:channelOk b.Down=false):missionOk b=false:=by rw[missionOk,h];simp
theorem missionOk_no8{b:TMission}(h:decide ((b.Plan.length:Int)≤1500)=false):missionOk b=false:=by rw[missionOk,h];simp
theorem missionOk_no9{b:TMission}(h:flightsOk b.Ups=false):missionOk b=false:=by rw[missionOk,h];simp
theorem missionOk_no10{b:TMission}(h:flightsOk b.Downs=false):missionOk b=false:=by rw[missionOk,h];simp
theorem missionOk_no11{b:TMission}(h:groundOk b.Ground=false):missionOk b=false:=by rw[missionOk,h];simp
theorem missionOk_no12{b:TMission}(h:spaceOk b.Space=false):missionOk b=false:=by rw[missionOk,h];simp
theorem missionOk_no13{b:TMission}(h:decide ((b.Offered.length:Int)≤5000)=false):missionOk b=false:=by rw[missionOk,h];simp
theorem missionOk_no14{b:TMission}(h:decide ((b.Took.length:Int)≤5000)=false):missionOk b=false:=by rw[missionOk,h];simp
theorem missionOk_yes{b:TMission}(h1:inB b.Time 0 1000000=true)(h2:inB b.Light 0 50=true)(h3:inB b.Bad 0 1000000=true)(h4:driftOkT b.Drift=true)(h5:orbitOkT b.Orbit=true)(h6:channelOk b.Up=true)(h7:channelOk b.Down=true)(h8:decide ((b.Plan.length:Int)≤1500)=true)(h9:flightsOk b.Ups=true)(h10:flightsOk b.Downs=true)(h11:groundOk b.Ground=true)(h12:spaceOk b.Space=true)(h13:decide ((b.Offered.length:Int)≤5000)=true)(h14:decide ((b.Took.length:Int)≤5000)=true):missionOk b=true:=by rw[missionOk,h1,h2,h3,h4,h5,h6,h7,h8,h9,h10,h11,h12,h13,h14];rfl
section
variable {P:Program} {ops:Array Oper} {rest:List Oper} {op:Oper} {a:Act} {w:World} {Q:Exit→Act→World→Prop}
theorem stepLoadW(hw:Region.wanted op (yielded ops a.tmps)=true)(ty:TypeId)(x:Operand)(ho:op.op=.load ty x)(b o:Nat)(hx:a.eval x=.pointer (some ⟨b,o,none⟩)){cs row:List Value}{T:TypeId}(H:Held w b cs T)
  (d:TypeDesc) (hu:P.underlying ty=some d) (hd:d.isRow=true) (hi:(P.info? ty).map (·.size)=some row.length) (hr:(cs.drop o).take row.length=row)
  (h:wpList P ops Q rest (a.put op.dst (.agg row.toArray)) w):wpList P ops Q (op::rest) a w :=
 BigFrame.wpList_want hw fun _ hK=>wp_load_mid ty x ho b o hx row d (H.range hr) hu hd hi (hK _ _ h)
end
structure MSmall(bd:TMission):Prop where
 m0:bd.Plan.length≤100000000
 m1:bd.Ups.length≤100000000
 m2:bd.Downs.length≤100000000
 m3:bd.Ground.Offers.length≤100000000
 m4:bd.Ground.Sender.Waiting.length≤100000000
 m5:bd.Ground.Pairs.length≤100000000
 m6:bd.Ground.Records.length≤100000000
 m7:bd.Ground.Files.length≤100000000
 m8:bd.Ground.Told.length≤100000000
 m9:bd.Space.Board.Params.length≤100000000
 m10:bd.Space.Board.Limits.length≤100000000
 m11:bd.Space.Board.Orders.length≤100000000
 m12:bd.Space.Board.Done.length≤100000000
 m13:bd.Space.Board.Recorder.Records.length≤100000000
 m14:bd.Space.Board.Recorder.Dropped.length≤100000000
 m15:bd.Space.Board.Asked.length≤100000000
 m16:bd.Space.Packer.Starts.length≤100000000
 m17:bd.Space.Files.length≤100000000
 m18:bd.Space.Outs.length≤100000000
 m19:bd.Space.Sent.length≤100000000
 m20:bd.Offered.length≤100000000
 m21:bd.Took.length≤100000000
 hxf:∀ y∈bd.Ground.Files,y.Parts.length≤100000000∧∀ s∈y.Parts,s.size≤100000000
 hzr:bd.Space.Packer.Rest.size≤100000000
 hxo:∀ y∈bd.Space.Outs,y.Queue.length≤100000000∧y.Data.size≤100000000
 hxs:∀ s∈bd.Space.Files,s.size≤100000000
theorem mission_small{m:TMission}(ht:Enc.tot m≤100000000):MSmall m:=by
 have h:=mbounds ht
 have hg:totL m.Ground.Offers+totL m.Ground.Sender.Waiting+(m.Ground.Unpacker.Rest.size:Int)+totL m.Ground.Pairs+totL m.Ground.Records+totL m.Ground.Files+totL m.Ground.Told≤100000000:=h.2.2.1
 have hsp:(totL m.Space.Board.Params+totL m.Space.Board.Limits+totL m.Space.Board.Orders+totL m.Space.Board.Done+(totL m.Space.Board.Recorder.Records+totL m.Space.Board.Recorder.Dropped)+totL m.Space.Board.Asked)+((m.Space.Packer.Rest.size:Int)+totL m.Space.Packer.Starts)+totL m.Space.Files+totL m.Space.Outs+totL m.Space.Sent≤100000000:=h.2.2.2.1
 have l0:=totL_len m.Plan
 have l1:=totL_len m.Ups
 have l2:=totL_len m.Downs
 have l3:=totL_len m.Ground.Offers
 have l4:=totL_len m.Ground.Sender.Waiting
 have l5:=totL_len m.Ground.Pairs
 have l6:=totL_len m.Ground.Records
 have l7:=totL_len m.Ground.Files
 have l8:=totL_len m.Ground.Told
 have l9:=totL_len m.Space.Board.Params
 have l10:=totL_len m.Space.Board.Limits
 have l11:=totL_len m.Space.Board.Orders
 have l12:=totL_len m.Space.Board.Done
 have l13:=totL_len m.Space.Board.Recorder.Records
 have l14:=totL_len m.Space.Board.Recorder.Dropped
 have l15:=totL_len m.Space.Board.Asked
 have l16:=totL_len m.Space.Packer.Starts
 have l17:=totL_len m.Space.Files
 have l18:=totL_len m.Space.Outs
 have l19:=totL_len m.Space.Sent
 have l20:=totL_len m.Offered
 have l21:=totL_len m.Took
 refine⟨by omega,by omega,by omega,by omega,by omega,by omega,by omega,by omega,by omega,by omega,by omega,by omega,by omega,by omega,by omega,by omega,by omega,by omega,by omega,by omega,by omega,by omega,fun y hy=>?_,by omega,fun y hy=>?_,fun s hs=>?_⟩
 ·have hx1:Enc.tot y≤totL m.Ground.Files:=totL_mem hy
  have hx2:totL y.Parts≤totL m.Ground.Files:=hx1
  have hx3:=totL_len y.Parts
  refine⟨by omega,fun s hs=>?_⟩
  have hs1:(s.size:Int)≤totL y.Parts:=totL_mem hs
  omega
 ·have hx1:Enc.tot y≤totL m.Space.Outs:=totL_mem hy
  have hx2:(y.Data.size:Int)+totL y.Queue≤totL m.Space.Outs:=hx1
  have hx3:=totL_len y.Queue
  exact⟨by omega,by omega⟩
 ·have hs1:(s.size:Int)≤totL m.Space.Files:=totL_mem hs
  omega
theorem chain0{R:World→World→Prop}{Fs:EntL R}{w:World}{G:(Nat→Value)→Prop}{val:Nat→Value}(h:G val):chain Fs w G [] val:=h
theorem chain1{R:World→World→Prop}{Fs:EntL R}{w:World}{G:(Nat→Value)→Prop}{val:Nat→Value}{i:Nat}{r:List Nat}(h:∀ v,(entAt Fs i).p v w→chain Fs w G r (upd i v val)):chain Fs w G (i::r) val:=h
