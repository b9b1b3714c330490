/- RoomLeft and leastRecord of the program. No condition but on sizes. -/
import Derived.Test.YthbepablpaldgaaGreatSM38
import Derived.Test.YthbepablpaldgaaGreatSM20
namespace Go.Proofs.YthbepablpaldgaaGreat
set_option maxRecDepth 100000
set_option maxHeartbeats 2000000
set_option linter.unusedVariables false
open Go.ChangeShapes Go.WideShapes Go.ChangeAt Go.RowKit
def roomLeft(r:TRecorder):Int:=if recorderOk r=true then r.Room - used r.Records else 0
theorem recorderOk_parts{r:TRecorder}(h:recorderOk r=true):0≤r.Room∧r.Room≤4000∧r.Dropped.length≤65536∧used r.Records≤r.Room∧r.Records.all recordOk=true:=by
 simp only[recorderOk,Bool.and_eq_true,decide_eq_true_eq]at h
 have:=inB_iff.1 h.1
 exact⟨this.1,this.2,by omega,h.2.2.2.1,ascGo_all h.2.2.1⟩
theorem c_iRoomLeft{B:Nat}{a a2:Option Addr}{c c2:Nat}{rr:TRecorder}{w:World}(hs:RdS B w a c rr.Records)(hs2:RdS B w a2 c2 rr.Dropped)(hm:rr.Records.length≤100000000)(hm2:rr.Dropped.length≤100000000) :
  Calls Tryz.prog 280 #[.agg #[.int .i64 rr.Room,.slice a rr.Records.length c,.slice a2 rr.Dropped.length c2]] w (Gives w (.int .i64 (roomLeft rr))):=by
 have HS:=lH hs;have HS2:=lH hs2;clear hs hs2
 cases c0:recorderOk rr
 ·have HF:=lH (show roomLeft rr=0 by rw[roomLeft,c0];rfl)
  go_enter Tryz.func280,Tryz.ntmps280
  go_wp2_with (fail)
  refine gm (k_iRecorderOk (rr:=rr) (HS.out.keep ii) (HS2.out.keep ii) hm hm2) ?_
  intro y0
  rw[c0]
  go_wp2_with (fail)
  go_ret
  exact Gives.mk (by rw[HF.out];rfl)
 have⟨q1,q2,q3,q4,q5⟩:=recorderOk_parts c0
 have HF:=lH (show roomLeft rr=rr.Room - used rr.Records by rw[roomLeft,c0];rfl)
 have HQ:=lH q4;have HA:=lH q5;clear q4 q5
 go_enter Tryz.func280,Tryz.ntmps280
 go_wp2_with (fail)
 refine gm (k_iRecorderOk (rr:=rr) (HS.out.keep ii) (HS2.out.keep ii) hm hm2) ?_
 intro y0
 rw[c0]
 clear c0
 go_wp2_with (fail)
 go_loopw [3,14] (fun u v wr=>∃ (k:Nat) (m:Int),v=.int .i64 k∧u=.int .i64 m∧k≤rr.Records.length∧0≤m∧m≤4000∧Hid (m - used (rr.Records.drop k)=rr.Room - used rr.Records)∧∃ y:Later w,wr=y.w) (fun _ v _=>(rr.Records.length - intOf v).toNat)
 case atStart=>exact⟨0,rr.Room,rfl,rfl,by omega,q1,q2,by rw[Hid];simp,Later.of⟩
 case round =>
  obtain⟨k,m,rfl,rfl,hk,hm0,hm1,HV,y,rfl⟩:=hrel
  by_cases h:k<rr.Records.length
  ·obtain⟨eb,eoff,es,rfl,ehb,ehd,eok,eh0,eh1,eh2,eh3⟩:=HS.out.atTRecord h
   have hz:es.Data.size≤34:=recordOk_size (List.all_eq_true.1 HA.out es (memDrop ehd.out))
   have EOK:=lH eok;clear eok
   have hm2':6+(es.Data.size:Int)≤m:=by have h1:=HV.out;have h2:=HQ.out;rw[ehd.out,used]at h1;have:=used_nonneg (rr.Records.drop (k+1));omega
   have HF2:=lH (show m - (6+(es.Data.size:Int)) - used (rr.Records.drop (k+1))=rr.Room - used rr.Records by have:=HV.out;rw[ehd.out,used]at this;omega)
   go_wp2_with (first|(go_at_call 268;refine gm (k_irecordSize (by omega)) ?_;intro x))
   go_roundw
   case rel=>exact⟨k+1,m - (6+(es.Data.size:Int)),by go_num,by go_num,by omega,by omega,by omega,HF2,Later.of⟩
   case measure=>simp[intOf];omega
  ·have HF3:=lH (show m=rr.Room - used rr.Records by have:=HV.out;rw[List.drop_of_length_le (by omega),used]at this;omega)
   go_wp2_with (fail)
   go_ret
   exact Gives.mk (by rw[HF.out,← HF3.out];rfl)
theorem c_ileastRecord{B:Nat}{a:Option Addr}{c:Nat}{l:List TRecord}{w:World}(hs:RdS B w a c l)(hm:l.length≤100000000) :
  Calls Tryz.prog 281 #[.slice a l.length c] w (Gives w (.int .i64 (minTo l l.length))):=by
 obtain⟨n,hn⟩:∃ n,l.length=n:=⟨_,rfl⟩
 rw[hn]at hm ⊢
 have HN:=lH hn
 go_enter Tryz.func281,Tryz.ntmps281
 go_wp2_with (first|((with_reducible refine rl ?_);refine rq ?_;intro x))
 go_loopw [3,8] (fun u v wr=>∃ (k q:Nat),v=.int .i64 k∧u=.int .i64 q∧k≤n∧q≤k∧Hid (q=minTo l k)∧∃ y:Later w,wr=y.w) (fun _ v _=>(n - intOf v).toNat)
 case atStart=>exact⟨0,0,rfl,rfl,by omega,Nat.le_refl _,rfl,Later.of⟩
 case round =>
  obtain⟨k,q,rfl,rfl,hk,hq,HV,y,rfl⟩:=hrel
  by_cases h:k<n
  ·obtain⟨eb,eoff,es,rfl,ehb,ehd,eok,eh0,eh1,eh2,eh3⟩:=hs.atTRecord (show k<l.length by have:=HN.out;omega)
   obtain⟨fb,foff,fs,hfe,fhb,fhd,fok,fh0,fh1,fh2,fh3⟩:=hs.atTRecord (show q<l.length by have:=HN.out;omega)
   simp only[Option.some.injEq,Addr.mk.injEq,and_true]at hfe
   obtain⟨rfl,rfl⟩:=hfe
   clear fh0 fh2 fh3 fok
   have hqn:q<n:=by omega
   have EOK:=lH eok;clear eok
   cases c1:decide (es.Priority<fs.Priority)
   ·have HF:=lH (show q=minTo l (k+1)by rw[minTo,← HV.out,pr_at ehd.out,pr_at fhd.out,if_neg (of_decide_eq_false c1)])
    go_wp2_with (first|((with_reducible refine rl ?_);(repeat(first|go_big_quiet_step (first|fail)|simp only[c1]));refine wpQuiet_nil ?_;intro x))
    go_roundw
    case rel=>exact⟨k+1,q,by go_num,rfl,by omega,by omega,HF,Later.of⟩
    case measure=>simp[intOf];omega
   ·have HF:=lH (show k=minTo l (k+1)by rw[minTo,← HV.out,pr_at ehd.out,pr_at fhd.out,if_pos (of_decide_eq_true c1)])
    go_wp2_with (first|((with_reducible refine rl ?_);(repeat(first|go_big_quiet_step (first|fail)|simp only[c1]));refine wpQuiet_nil ?_;intro x))
    go_roundw
    case rel=>exact⟨k+1,k,by go_num,rfl,by omega,by omega,HF,Later.of⟩
    case measure=>simp[intOf];omega
  ·have HF:=lH (show q=minTo l n by rw[HV.out,show k=n by omega])
   go_wp2_with (first|((with_reducible refine rl ?_);refine rq ?_;intro x))
   go_ret
   exact Gives.mk (by rw[HF.out];rfl)
