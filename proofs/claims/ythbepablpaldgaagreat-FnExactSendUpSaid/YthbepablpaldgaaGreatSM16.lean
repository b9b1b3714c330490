/- The contracts of the mirrors, sizes and equalities of waiting orders. No condition but on sizes. -/
import Derived.Test.YthbepablpaldgaaGreatSDF1
import Derived.Test.YthbepablpaldgaaGreatSDPl
import Derived.Test.YthbepablpaldgaaGreatSDF2
import Derived.Test.YthbepablpaldgaaGreatSM7
import Derived.Test.YthbepablpaldgaaGreatSMarkT
import Derived.Test.YthbepablpaldgaaGreatSFileO
import Derived.Test.YthbepablpaldgaaGreatSFar
import Derived.Test.YthbepablpaldgaaGreatSOkF
import Derived.Laws.StructEq
import Derived.MapKept
import Derived.Maps.Own
namespace Go.Proofs.YthbepablpaldgaaGreat
set_option maxRecDepth 100000
set_option maxHeartbeats 2000000
set_option linter.unusedVariables false
open Go.ChangeShapes Go.WideShapes Go.ChangeAt Go.RowKit
theorem d_ltoWaiting{B:Nat}{vs:List Value}{x:TWaiting}{w:World}(h:Enc.Rd B w vs x)(ht:Enc.tot x≤1048576) :
  Calls Tryz.prog 265 #[.agg vs.toArray] w (GivesD w x):=by
 obtain⟨rfl,hok⟩:=h
 clear ht
 have HOK:=lH hok;clear hok
 go_enter Tryz.func265,Tryz.ntmps265
 go_wp2_with fail
 refine(d_ltoOrder (B:=0) (x:=x.Order) ⟨rfl,HOK.out.2.1⟩ (show(0:Int)≤1048576 by omega)).mono ?_
 rintro _ _ ⟨_,rfl,⟨rfl,-⟩,y0,rfl⟩
 go_wp2_with fail
 refine bodyPost_ret (v:=.agg #[.int .i64 x.Number,.int .i64 x.Order.Kind,.int .i64 x.Order.At,.int .i64 x.Order.A,.int .i64 x.Order.B]) ?_ rfl ⟨[.int .i64 x.Number,.int .i64 x.Order.Kind,.int .i64 x.Order.At,.int .i64 x.Order.A,.int .i64 x.Order.B],rfl,⟨rfl,HOK.out⟩,Later.of⟩
 simp[results,Tryz.results265,go_sem]
theorem d_leqWaiting{B B2:Nat}{vs vs2:List Value}{x:TWaiting}{w:World}(h:Enc.Rd B w vs x)(h2:Enc.Rd B2 w vs2 x) :
  Calls Tryz.prog 272 #[.agg vs.toArray,.agg vs2.toArray] w (Gives w (.bool true)):=by
 obtain⟨rfl,hok⟩:=h
 obtain⟨rfl,-⟩:=h2
 have HOK:=lH hok;clear hok
 go_enter Tryz.func272,Tryz.ntmps272
 go_wp2_with fail
 refine gm (d_leqOrder (B:=0) (B2:=0) (x:=x.Order) ⟨rfl,HOK.out.2.1⟩ ⟨rfl,HOK.out.2.1⟩) ?_
 intro y0
 go_wp2_with fail
 go_ret
 exact Gives.mk rfl
theorem d_lszWaitingS{B:Nat}{a:Option Addr}{c:Nat}{l:List TWaiting}{left:Int}{w:World}(hs:RdS B w a c l)(hl:0≤left)(hl2:left≤1048576) :
  Calls Tryz.prog 180 #[.slice a l.length c,.int .i64 left] w (Gives w (.int .i64 (szD left (totL l)))):=by
 have hmx:=hs.max
 have hln:=totL_len l
 obtain⟨n,hn⟩:∃ n,l.length=n:=⟨_,rfl⟩
 rw[hn]at hln hmx
 rw[hn]
 have HN:=lH hn;clear hn
 have htl:totL l=n:=by rw[← HN.out];clear hs HN hmx hln;induction l with|nil=>rfl|cons x r ih=>simp only[totL,List.length_cons,ih];show 1+0+_=_;omega
 rw[htl];clear htl hln hs
 by_cases h:left - n<0
 ·rw[szD_neg h]
  go_enter Tryz.func180,Tryz.ntmps180
  go_wp2_with fail
  go_ret
  exact Gives.mk rfl
 ·rw[szD_pos h]
  go_enter Tryz.func180,Tryz.ntmps180
  go_wp2_with fail
  go_ret
  exact Gives.mk rfl
theorem d_leqWaitingS{B B2:Nat}{a a2:Option Addr}{c c2:Nat}{l:List TWaiting}{w:World}(hs:RdS B w a c l)(hs2:RdS B2 w a2 c2 l) :
  Calls Tryz.prog 233 #[.slice a l.length c,.slice a2 l.length c2] w (Gives w (.bool true)):=by
 have hmx:=hs.max
 obtain⟨n,hn⟩:∃ n,l.length=n:=⟨_,rfl⟩
 rw[hn]at hmx
 rw[hn]
 have HN:=lH hn;clear hn
 have kn:((n:Int) != (n:Int))=false:=by simp
 go_enter Tryz.func233,Tryz.ntmps233
 go_wp2_with fail
 go_loopw [5] (fun v wr=>∃ k:Nat,v=.int .i64 k∧k≤n∧∃ x:Later w,wr=x.w) (fun v _=>(n - intOf v).toNat)
 case atStart=>exact⟨0,rfl,by omega,Later.of⟩
 case round =>
  obtain⟨k,rfl,hk,x,rfl⟩:=hrel
  by_cases h:k<n
  ·have hlk:k<l.length:=by have:=HN.out;omega
   obtain⟨eb,eoff,ex,rfl,ehb,ehd,eok,eh0,eh1,eh2,eh3,eh4⟩:=hs.atTWaiting (show k<l.length by omega)
   obtain⟨fb,foff,fx,rfl,fhb,fhd,fok,fh0,fh1,fh2,fh3,fh4⟩:=hs2.atTWaiting (show k<l.length by omega)
   obtain rfl:ex=fx:=by have:=ehd.out.symm.trans fhd.out;simpa using this
   clear ehd fhd hlk hs hs2
   have ce:∀ {W:World} [Grows w W],Calls Tryz.prog 272 #[.agg #[.int .i64 ex.Number,.int .i64 ex.Order.Kind,.int .i64 ex.Order.At,.int .i64 ex.Order.A,.int .i64 ex.Order.B],.agg #[.int .i64 ex.Number,.int .i64 ex.Order.Kind,.int .i64 ex.Order.At,.int .i64 ex.Order.A,.int .i64 ex.Order.B]] W (Gives W (.bool true)):=fun {W} _=>d_leqWaiting (B:=0) (B2:=0) (x:=ex) ⟨rfl,eok⟩ ⟨rfl,fok⟩
   clear eok fok
   go_wp2_with (first|((with_reducible refine rl ?_);(repeat(first|go_big_quiet_step (first|(go_at_call 272;exact Gives.quiet (ce)))));refine wpQuiet_nil ?_;intro x)|(go_at_call 272;refine gm (ce) ?_;intro x))
   go_roundw
   case rel=>exact⟨k+1,by go_num,by omega,Later.of⟩
   case measure=>simp[intOf];omega
  ·go_wp2_with fail
   go_ret
   exact Gives.mk rfl
theorem d_lszPacker{B:Nat}{vs:List Value}{x:TPacker}{left:Int}{w:World}(h:Enc.Rd B w vs x)(hl:0≤left)(hl2:left≤1048576) :
  Calls Tryz.prog 75 #[.agg vs.toArray,.int .i64 left] w (Gives w (.int .i64 (szD left (Enc.tot x)))):=by
 obtain⟨a0,c0,rfl,q0,hok⟩:=h
 have n0:(0:Int)≤x.Rest.size:=by omega
 have z0:x.Rest.size≤9223372036854775807:=hok.2.2.1
 have n1:=totL_nonneg x.Starts
 have HOK:=lH hok;clear hok
 have htot:Enc.tot x=(x.Rest.size:Int)+totL x.Starts:=rfl
 have HTOT:=lH htot;clear htot
 go_enter Tryz.func75,Tryz.ntmps75
 by_cases h0:left - (x.Rest.size:Int)<0
 ·have HV:=lH (show szD left (Enc.tot x)=-1 from szD_neg (by rw[HTOT.out];omega))
  go_wp2_with (fail)
  go_ret
  exact Gives.mk (by rw[HV.out];rfl)
 go_wp2_with (fail)
 refine gm (d_lszIntS (q0.keep ii) (by omega) (by omega)) ?_
 intro y1
 by_cases h1:left - (x.Rest.size:Int) - totL x.Starts<0
 ·have HV:=lH (show szD left (Enc.tot x)=-1 from szD_neg (by rw[HTOT.out];omega))
  rw[szD_neg h1]
  go_wp2_with (fail)
  go_ret
  exact Gives.mk (by rw[HV.out];rfl)
 rw[szD_pos h1]
 have HV:=lH (show szD left (Enc.tot x)=left - (x.Rest.size:Int) - totL x.Starts by rw[szD_pos (by rw[HTOT.out];omega),HTOT.out]<;>omega)
 go_wp2_with (fail)
 go_ret
 exact Gives.mk (by rw[HV.out];rfl)
theorem d_leqPacker{B B2:Nat}{vs vs2:List Value}{x:TPacker}{w:World}(h:Enc.Rd B w vs x)(h2:Enc.Rd B2 w vs2 x) :
  Calls Tryz.prog 144 #[.agg vs.toArray,.agg vs2.toArray] w (Gives w (.bool true)):=by
 obtain⟨a0,c0,rfl,q0,hok⟩:=h
 obtain⟨ma0,mc0,rfl,mq0,-⟩:=h2
 have HOK:=lH hok;clear hok
 go_enter Tryz.func144,Tryz.ntmps144
 go_wp2_with (fail)
 refine gm (d_leqIntS (q0.keep ii) (mq0.keep ii)) ?_
 intro y0
 go_wp2_with (fail)
 go_ret
 exact Gives.mk rfl
theorem d_lszSender{B:Nat}{vs:List Value}{x:TSender}{left:Int}{w:World}(h:Enc.Rd B w vs x)(hl:0≤left)(hl2:left≤1048576) :
  Calls Tryz.prog 68 #[.agg vs.toArray,.int .i64 left] w (Gives w (.int .i64 (szD left (Enc.tot x)))):=by
 obtain⟨a0,c0,rfl,q0,hok⟩:=h
 have n0:=totL_nonneg x.Waiting
 have HOK:=lH hok;clear hok
 have htot:Enc.tot x=totL x.Waiting:=rfl
 have HTOT:=lH htot;clear htot
 go_enter Tryz.func68,Tryz.ntmps68
 go_wp2_with (fail)
 refine gm (d_lszSentS (q0.keep ii) (by omega) (by omega)) ?_
 intro y0
 by_cases h0:left - totL x.Waiting<0
 ·have HV:=lH (show szD left (Enc.tot x)=-1 from szD_neg (by rw[HTOT.out];omega))
  rw[szD_neg h0]
  go_wp2_with (fail)
  go_ret
  exact Gives.mk (by rw[HV.out];rfl)
 rw[szD_pos h0]
 have HV:=lH (show szD left (Enc.tot x)=left - totL x.Waiting by rw[szD_pos (by rw[HTOT.out];omega),HTOT.out]<;>omega)
 go_wp2_with (fail)
 go_ret
 exact Gives.mk (by rw[HV.out];rfl)
theorem d_leqSender{B B2:Nat}{vs vs2:List Value}{x:TSender}{w:World}(h:Enc.Rd B w vs x)(h2:Enc.Rd B2 w vs2 x) :
  Calls Tryz.prog 135 #[.agg vs.toArray,.agg vs2.toArray] w (Gives w (.bool true)):=by
 obtain⟨a0,c0,rfl,q0,hok⟩:=h
 obtain⟨ma0,mc0,rfl,mq0,-⟩:=h2
 have HOK:=lH hok;clear hok
 go_enter Tryz.func135,Tryz.ntmps135
 go_wp2_with (fail)
 refine gm (d_leqSentS (q0.keep ii) (mq0.keep ii)) ?_
 intro y0
 go_wp2_with (fail)
 go_ret
 exact Gives.mk rfl
theorem d_lszRecorder{B:Nat}{vs:List Value}{x:TRecorder}{left:Int}{w:World}(h:Enc.Rd B w vs x)(hl:0≤left)(hl2:left≤1048576) :
  Calls Tryz.prog 182 #[.agg vs.toArray,.int .i64 left] w (Gives w (.int .i64 (szD left (Enc.tot x)))):=by
 obtain⟨a0,c0,a1,c1,rfl,q0,q1,hok⟩:=h
 have n0:=totL_nonneg x.Records
 have n1:=totL_nonneg x.Dropped
 have HOK:=lH hok;clear hok
 have htot:Enc.tot x=totL x.Records+totL x.Dropped:=rfl
 have HTOT:=lH htot;clear htot
 go_enter Tryz.func182,Tryz.ntmps182
 go_wp2_with (fail)
 refine gm (d_lszRecordS (q0.keep ii) (by omega) (by omega)) ?_
 intro y0
 by_cases h0:left - totL x.Records<0
 ·have HV:=lH (show szD left (Enc.tot x)=-1 from szD_neg (by rw[HTOT.out];omega))
  rw[szD_neg h0]
  go_wp2_with (fail)
  go_ret
  exact Gives.mk (by rw[HV.out];rfl)
 rw[szD_pos h0]
 go_wp2_with (fail)
 refine gm (d_lszIntS (q1.keep ii) (by omega) (by omega)) ?_
 intro y1
 by_cases h1:left - totL x.Records - totL x.Dropped<0
 ·have HV:=lH (show szD left (Enc.tot x)=-1 from szD_neg (by rw[HTOT.out];omega))
  rw[szD_neg h1]
  go_wp2_with (fail)
  go_ret
  exact Gives.mk (by rw[HV.out];rfl)
 rw[szD_pos h1]
 have HV:=lH (show szD left (Enc.tot x)=left - totL x.Records - totL x.Dropped by rw[szD_pos (by rw[HTOT.out];omega),HTOT.out]<;>omega)
 go_wp2_with (fail)
 go_ret
 exact Gives.mk (by rw[HV.out];rfl)
theorem d_leqRecorder{B B2:Nat}{vs vs2:List Value}{x:TRecorder}{w:World}(h:Enc.Rd B w vs x)(h2:Enc.Rd B2 w vs2 x) :
  Calls Tryz.prog 235 #[.agg vs.toArray,.agg vs2.toArray] w (Gives w (.bool true)):=by
 obtain⟨a0,c0,a1,c1,rfl,q0,q1,hok⟩:=h
 obtain⟨ma0,mc0,ma1,mc1,rfl,mq0,mq1,-⟩:=h2
 have HOK:=lH hok;clear hok
 go_enter Tryz.func235,Tryz.ntmps235
 go_wp2_with (fail)
 refine gm (d_leqRecordS (q0.keep ii) (mq0.keep ii)) ?_
 intro y0
 go_wp2_with (fail)
 refine gm (d_leqIntS (q1.keep ii) (mq1.keep ii)) ?_
 intro y1
 go_wp2_with (fail)
 go_ret
 exact Gives.mk rfl
theorem d_lszFileIn{B:Nat}{vs:List Value}{x:TFileIn}{left:Int}{w:World}(h:Enc.Rd B w vs x)(hl:0≤left)(hl2:left≤1048576) :
  Calls Tryz.prog 177 #[.agg vs.toArray,.int .i64 left] w (Gives w (.int .i64 (szD left (Enc.tot x)))):=by
 obtain⟨a0,c0,rfl,q0,hok⟩:=h
 have n0:=totL_nonneg x.Parts
 have HOK:=lH hok;clear hok
 have htot:Enc.tot x=totL x.Parts:=rfl
 have HTOT:=lH htot;clear htot
 go_enter Tryz.func177,Tryz.ntmps177
 go_wp2_with fail
 refine gm (d_lszStringS (q0.keep ii) (by omega) (by omega)) ?_
 intro y0
 by_cases h0:left - totL x.Parts<0
 ·have HV:=lH (show szD left (Enc.tot x)=-1 from szD_neg (by rw[HTOT.out];omega))
  rw[szD_neg h0]
  go_wp2_with fail
  go_ret
  exact Gives.mk (by rw[HV.out];rfl)
 rw[szD_pos h0]
 have HV:=lH (show szD left (Enc.tot x)=left - totL x.Parts by rw[szD_pos (by rw[HTOT.out];omega),HTOT.out]<;>omega)
 go_wp2_with fail
 go_ret
 exact Gives.mk (by rw[HV.out];rfl)
theorem d_leqFileIn{B B2:Nat}{vs vs2:List Value}{x:TFileIn}{w:World}(h:Enc.Rd B w vs x)(h2:Enc.Rd B2 w vs2 x) :
  Calls Tryz.prog 230 #[.agg vs.toArray,.agg vs2.toArray] w (Gives w (.bool true)):=by
 obtain⟨a0,c0,rfl,q0,hok⟩:=h
 obtain⟨ma0,mc0,rfl,mq0,-⟩:=h2
 have HOK:=lH hok;clear hok
 go_enter Tryz.func230,Tryz.ntmps230
 go_wp2_with fail
 refine gm (d_leqStringS (q0.keep ii) (mq0.keep ii)) ?_
 intro y0
 go_wp2_with fail
 go_ret
 exact Gives.mk rfl
theorem d_lszFileInS{B:Nat}{a:Option Addr}{c:Nat}{l:List TFileIn}{left:Int}{w:World}(hs:RdS B w a c l)(hl:0≤left)(hl2:left≤1048576) :
  Calls Tryz.prog 72 #[.slice a l.length c,.int .i64 left] w (Gives w (.int .i64 (szD left (totL l)))):=by
 have hmx:=hs.max
 have hln:=totL_len l
 obtain⟨n,hn⟩:∃ n,l.length=n:=⟨_,rfl⟩
 rw[hn]at hln hmx
 rw[hn]
 have HN:=lH hn;clear hn
 by_cases h:left - n<0
 ·have HV:=lH (show szD left (totL l)=-1 from szD_neg (by omega))
  go_enter Tryz.func72,Tryz.ntmps72
  go_wp2_with fail
  go_ret
  exact Gives.mk (by rw[HV.out];rfl)
 ·go_enter Tryz.func72,Tryz.ntmps72
  go_wp2_with fail
  go_loopw [1,5] (fun u v wr=>∃ (k:Nat) (r:Int),v=.int .i64 k∧u=.int .i64 r∧k≤n∧0≤r∧r≤1048576∧Hid (r - totL (l.drop k)+(n - k)=left - totL l)∧∃ x:Later w,wr=x.w) (fun _ v _=>(n - intOf v).toNat)
  case atStart=>exact⟨0,left - n,rfl,by go_num,by omega,by omega,by omega,by unfold Hid;rw[List.drop_zero];omega,Later.of⟩
  case round =>
   obtain⟨k,r,rfl,rfl,hk,hr,hr2,hf,x,rfl⟩:=hrel
   by_cases h2:k<n
   ·have hlk:k<l.length:=by have:=HN.out;omega
    obtain⟨eb,eoff,ex,ea0,ec0,rfl,ehb,ehd,eq0,eok,eh0,eh1,eh2,eh3⟩:=hs.atTFileIn (show k<l.length by omega)
    have hd2:=totL_len (l.drop (k+1))
    have HD2:=lH (show((n:Int) - k - 1≤totL (l.drop (k+1)))by rw[List.length_drop,HN.out]at hd2;omega);clear hd2 hlk
    have ht0:=Enc.tot_nonneg ex
    obtain⟨t,htt⟩:∃ t,Enc.tot ex=t:=⟨_,rfl⟩
    have hf2:Hid (r - (1+t+totL (l.drop (k+1)))+(n - k)=left - totL l):=by
     have:=hf.out;rw[ehd.out]at this;rw[← htt];exact this
    rw[htt]at ht0
    have HTT:=lH htt;clear htt hf
    have HEOK:=lH eok;clear eok
    go_wp2_with fail
    refine gm (d_lszFileIn (x:=ex) ⟨ea0,ec0,rfl,eq0.keep ii,HEOK.out⟩ (by omega) (by omega)) ?_
    intro y
    rw[HTT.out]
    by_cases h3:r - t<0
    ·have HV:=lH (show szD left (totL l)=-1 from szD_neg (by have h7:=hf2.out;have h8:=HD2.out;omega))
     rw[szD_neg h3]
     go_wp2_with fail
     go_ret
     exact Gives.mk (by rw[HV.out];rfl)
    ·rw[szD_pos h3]
     go_wp2_with fail
     go_roundw
     case rel=>exact⟨k+1,r - t,by go_num,by go_num,by omega,by omega,by omega,by have h7:=hf2.out;unfold Hid;omega,Later.of⟩
     case measure=>simp[intOf];omega
   ·have HV:=lH (show szD left (totL l)=r by
     have h7:=hf.out
     rw[List.drop_of_length_le (by have:=HN.out;omega)]at h7
     simp only[totL]at h7
     rw[szD_pos (by omega)];omega)
    go_wp2_with fail
    go_ret
    exact Gives.mk (by rw[HV.out];rfl)
theorem d_leqFileInS{B B2:Nat}{a a2:Option Addr}{c c2:Nat}{l:List TFileIn}{w:World}(hs:RdS B w a c l)(hs2:RdS B2 w a2 c2 l) :
  Calls Tryz.prog 140 #[.slice a l.length c,.slice a2 l.length c2] w (Gives w (.bool true)):=by
 have hmx:=hs.max
 obtain⟨n,hn⟩:∃ n,l.length=n:=⟨_,rfl⟩
 rw[hn]at hmx
 rw[hn]
 have HN:=lH hn;clear hn
 have kn:((n:Int) != (n:Int))=false:=by simp
 go_enter Tryz.func140,Tryz.ntmps140
 go_wp2_with fail
 go_loopw [5] (fun v wr=>∃ k:Nat,v=.int .i64 k∧k≤n∧∃ x:Later w,wr=x.w) (fun v _=>(n - intOf v).toNat)
 case atStart=>exact⟨0,rfl,by omega,Later.of⟩
 case round =>
  obtain⟨k,rfl,hk,x,rfl⟩:=hrel
  by_cases h:k<n
  ·have hlk:k<l.length:=by have:=HN.out;omega
   obtain⟨eb,eoff,ex,ea0,ec0,rfl,ehb,ehd,eq0,eok,eh0,eh1,eh2,eh3⟩:=hs.atTFileIn (show k<l.length by omega)
   obtain⟨fb,foff,fx,fa0,fc0,rfl,fhb,fhd,fq0,fok,fh0,fh1,fh2,fh3⟩:=hs2.atTFileIn (show k<l.length by omega)
   obtain rfl:ex=fx:=by have:=ehd.out.symm.trans fhd.out;simpa using this
   clear ehd fhd hlk hs hs2
   have ce:∀ {W:World} [Grows w W],Calls Tryz.prog 230 #[.agg #[.int .i64 ex.File,.int .i64 ex.Size,.int .i64 ex.Check,.slice ea0 ex.Parts.length ec0],.agg #[.int .i64 ex.File,.int .i64 ex.Size,.int .i64 ex.Check,.slice fa0 ex.Parts.length fc0]] W (Gives W (.bool true)):=fun {W} _=>d_leqFileIn (x:=ex) ⟨ea0,ec0,rfl,eq0.keep ii,eok⟩ ⟨fa0,fc0,rfl,fq0.keep ii,fok⟩
   clear eok fok eq0 fq0
   go_wp2_with (first|((with_reducible refine rl ?_);(repeat(first|go_big_quiet_step (first|(go_at_call 230;exact Gives.quiet (ce)))));refine wpQuiet_nil ?_;intro x)|(go_at_call 230;refine gm (ce) ?_;intro x))
   go_roundw
   case rel=>exact⟨k+1,by go_num,by omega,Later.of⟩
   case measure=>simp[intOf];omega
  ·go_wp2_with fail
   go_ret
   exact Gives.mk rfl
theorem d_lszFileOut{B:Nat}{vs:List Value}{x:TFileOut}{left:Int}{w:World}(h:Enc.Rd B w vs x)(hl:0≤left)(hl2:left≤1048576) :
  Calls Tryz.prog 183 #[.agg vs.toArray,.int .i64 left] w (Gives w (.int .i64 (szD left (Enc.tot x)))):=by
 obtain⟨a0,c0,rfl,q0,hok⟩:=h
 have n0:(0:Int)≤x.Data.size:=by omega
 have z0:x.Data.size≤9223372036854775807:=hok.2.1
 have n1:=totL_nonneg x.Queue
 have HOK:=lH hok;clear hok
 have htot:Enc.tot x=(x.Data.size:Int)+totL x.Queue:=rfl
 have HTOT:=lH htot;clear htot
 go_enter Tryz.func183,Tryz.ntmps183
 by_cases h0:left - (x.Data.size:Int)<0
 ·have HV:=lH (show szD left (Enc.tot x)=-1 from szD_neg (by rw[HTOT.out];omega))
  go_wp2_with fail
  go_ret
  exact Gives.mk (by rw[HV.out];rfl)
 go_wp2_with fail
 refine gm (d_lszIntS (q0.keep ii) (by omega) (by omega)) ?_
 intro y1
 by_cases h1:left - (x.Data.size:Int) - totL x.Queue<0
 ·have HV:=lH (show szD left (Enc.tot x)=-1 from szD_neg (by rw[HTOT.out];omega))
  rw[szD_neg h1]
  go_wp2_with fail
  go_ret
  exact Gives.mk (by rw[HV.out];rfl)
 rw[szD_pos h1]
 have HV:=lH (show szD left (Enc.tot x)=left - (x.Data.size:Int) - totL x.Queue by rw[szD_pos (by rw[HTOT.out];omega),HTOT.out]<;>omega)
 go_wp2_with fail
 go_ret
 exact Gives.mk (by rw[HV.out];rfl)
theorem d_leqFileOut{B B2:Nat}{vs vs2:List Value}{x:TFileOut}{w:World}(h:Enc.Rd B w vs x)(h2:Enc.Rd B2 w vs2 x) :
  Calls Tryz.prog 236 #[.agg vs.toArray,.agg vs2.toArray] w (Gives w (.bool true)):=by
 obtain⟨a0,c0,rfl,q0,hok⟩:=h
 obtain⟨ma0,mc0,rfl,mq0,-⟩:=h2
 have HOK:=lH hok;clear hok
 go_enter Tryz.func236,Tryz.ntmps236
 go_wp2_with fail
 refine gm (d_leqIntS (q0.keep ii) (mq0.keep ii)) ?_
 intro y0
 go_wp2_with fail
 go_ret
 exact Gives.mk rfl
theorem d_lszFileOutS{B:Nat}{a:Option Addr}{c:Nat}{l:List TFileOut}{left:Int}{w:World}(hs:RdS B w a c l)(hl:0≤left)(hl2:left≤1048576) :
  Calls Tryz.prog 76 #[.slice a l.length c,.int .i64 left] w (Gives w (.int .i64 (szD left (totL l)))):=by
 have hmx:=hs.max
 have hln:=totL_len l
 obtain⟨n,hn⟩:∃ n,l.length=n:=⟨_,rfl⟩
 rw[hn]at hln hmx
 rw[hn]
 have HN:=lH hn;clear hn
 by_cases h:left - n<0
 ·have HV:=lH (show szD left (totL l)=-1 from szD_neg (by omega))
  go_enter Tryz.func76,Tryz.ntmps76
  go_wp2_with fail
  go_ret
  exact Gives.mk (by rw[HV.out];rfl)
 ·go_enter Tryz.func76,Tryz.ntmps76
  go_wp2_with fail
  go_loopw [1,5] (fun u v wr=>∃ (k:Nat) (r:Int),v=.int .i64 k∧u=.int .i64 r∧k≤n∧0≤r∧r≤1048576∧Hid (r - totL (l.drop k)+(n - k)=left - totL l)∧∃ x:Later w,wr=x.w) (fun _ v _=>(n - intOf v).toNat)
  case atStart=>exact⟨0,left - n,rfl,by go_num,by omega,by omega,by omega,by unfold Hid;rw[List.drop_zero];omega,Later.of⟩
  case round =>
   obtain⟨k,r,rfl,rfl,hk,hr,hr2,hf,x,rfl⟩:=hrel
   by_cases h2:k<n
   ·have hlk:k<l.length:=by have:=HN.out;omega
    obtain⟨eb,eoff,ex,ea0,ec0,rfl,ehb,ehd,eq0,eok,eh0,eh1,eh2,eh3⟩:=hs.atTFileOut (show k<l.length by omega)
    have hd2:=totL_len (l.drop (k+1))
    have HD2:=lH (show((n:Int) - k - 1≤totL (l.drop (k+1)))by rw[List.length_drop,HN.out]at hd2;omega);clear hd2 hlk
    have ht0:=Enc.tot_nonneg ex
    obtain⟨t,htt⟩:∃ t,Enc.tot ex=t:=⟨_,rfl⟩
    have hf2:Hid (r - (1+t+totL (l.drop (k+1)))+(n - k)=left - totL l):=by
     have:=hf.out;rw[ehd.out]at this;rw[← htt];exact this
    rw[htt]at ht0
    have HTT:=lH htt;clear htt hf
    have HEOK:=lH eok;clear eok
    go_wp2_with fail
    refine gm (d_lszFileOut (x:=ex) ⟨ea0,ec0,rfl,eq0.keep ii,HEOK.out⟩ (by omega) (by omega)) ?_
    intro y
    rw[HTT.out]
    by_cases h3:r - t<0
    ·have HV:=lH (show szD left (totL l)=-1 from szD_neg (by have h7:=hf2.out;have h8:=HD2.out;omega))
     rw[szD_neg h3]
     go_wp2_with fail
     go_ret
     exact Gives.mk (by rw[HV.out];rfl)
    ·rw[szD_pos h3]
     go_wp2_with fail
     go_roundw
     case rel=>exact⟨k+1,r - t,by go_num,by go_num,by omega,by omega,by omega,by have h7:=hf2.out;unfold Hid;omega,Later.of⟩
     case measure=>simp[intOf];omega
   ·have HV:=lH (show szD left (totL l)=r by
     have h7:=hf.out
     rw[List.drop_of_length_le (by have:=HN.out;omega)]at h7
     simp only[totL]at h7
     rw[szD_pos (by omega)];omega)
    go_wp2_with fail
    go_ret
    exact Gives.mk (by rw[HV.out];rfl)
theorem d_leqFileOutS{B B2:Nat}{a a2:Option Addr}{c c2:Nat}{l:List TFileOut}{w:World}(hs:RdS B w a c l)(hs2:RdS B2 w a2 c2 l) :
  Calls Tryz.prog 145 #[.slice a l.length c,.slice a2 l.length c2] w (Gives w (.bool true)):=by
 have hmx:=hs.max
 obtain⟨n,hn⟩:∃ n,l.length=n:=⟨_,rfl⟩
 rw[hn]at hmx
 rw[hn]
 have HN:=lH hn;clear hn
 have kn:((n:Int) != (n:Int))=false:=by simp
 go_enter Tryz.func145,Tryz.ntmps145
 go_wp2_with fail
 go_loopw [5] (fun v wr=>∃ k:Nat,v=.int .i64 k∧k≤n∧∃ x:Later w,wr=x.w) (fun v _=>(n - intOf v).toNat)
 case atStart=>exact⟨0,rfl,by omega,Later.of⟩
 case round =>
  obtain⟨k,rfl,hk,x,rfl⟩:=hrel
  by_cases h:k<n
  ·have hlk:k<l.length:=by have:=HN.out;omega
   obtain⟨eb,eoff,ex,ea0,ec0,rfl,ehb,ehd,eq0,eok,eh0,eh1,eh2,eh3⟩:=hs.atTFileOut (show k<l.length by omega)
   obtain⟨fb,foff,fx,fa0,fc0,rfl,fhb,fhd,fq0,fok,fh0,fh1,fh2,fh3⟩:=hs2.atTFileOut (show k<l.length by omega)
   obtain rfl:ex=fx:=by have:=ehd.out.symm.trans fhd.out;simpa using this
   clear ehd fhd hlk hs hs2
   have ce:∀ {W:World} [Grows w W],Calls Tryz.prog 236 #[.agg #[.int .i64 ex.File,.string ex.Data,.slice ea0 ex.Queue.length ec0,.bool ex.Done],.agg #[.int .i64 ex.File,.string ex.Data,.slice fa0 ex.Queue.length fc0,.bool ex.Done]] W (Gives W (.bool true)):=fun {W} _=>d_leqFileOut (x:=ex) ⟨ea0,ec0,rfl,eq0.keep ii,eok⟩ ⟨fa0,fc0,rfl,fq0.keep ii,fok⟩
   clear eok fok eq0 fq0
   go_wp2_with (first|((with_reducible refine rl ?_);(repeat(first|go_big_quiet_step (first|(go_at_call 236;exact Gives.quiet (ce)))));refine wpQuiet_nil ?_;intro x)|(go_at_call 236;refine gm (ce) ?_;intro x))
   go_roundw
   case rel=>exact⟨k+1,by go_num,by omega,Later.of⟩
   case measure=>simp[intOf];omega
  ·go_wp2_with fail
   go_ret
   exact Gives.mk rfl
theorem d_lszGround{B:Nat}{vs:List Value}{x:TGround}{left:Int}{w:World}(h:Enc.Rd B w vs x)(hl:0≤left)(hl2:left≤1048576) :
  Calls Tryz.prog 16 #[.agg vs.toArray,.int .i64 left] w (Gives w (.int .i64 (szD left (Enc.tot x)))):=by
 obtain⟨A,rfl,F⟩:=h
 have n0:=totL_nonneg x.Offers
 have n1:=Enc.tot_nonneg x.Sender
 have n2:=Enc.tot_nonneg x.Unpacker
 have n3:=totL_nonneg x.Pairs
 have n4:=totL_nonneg x.Records
 have n5:=totL_nonneg x.Files
 have n6:=totL_nonneg x.Told
 have HOK:=lH F.ok
 have htot:Enc.tot x=totL x.Offers+Enc.tot x.Sender+Enc.tot x.Unpacker+totL x.Pairs+totL x.Records+totL x.Files+totL x.Told:=rfl
 have HTOT:=lH htot;clear htot
 have HB:=lH (Held.new w (dGround x A) 43 w.heap.size rfl)
 have HFF:=lH F;clear F
 go_enter Tryz.func16,Tryz.ntmps16
 go_wp2_with (fail)
 refine gm (d_lszStringS (HFF.out.q0.keep ii) (by omega) (by omega)) ?_
 intro y0
 by_cases h0:left - totL x.Offers<0
 ·have HV:=lH (show szD left (Enc.tot x)=-1 from szD_neg (by rw[HTOT.out];omega))
  rw[szD_neg h0]
  go_wp2_with (fail)
  go_ret
  exact Gives.mk (by rw[HV.out];rfl)
 rw[szD_pos h0]
 go_wp2_with (first|(refine stepLoad rfl _ _ rfl (w.heap.size) 1 rfl (row:=[.int .i64 x.Sender.Next,.int .i64 x.Sender.Window,.slice A.a1 x.Sender.Waiting.length A.c1,.int .i64 x.Sender.Done]) (HB.out.to ii) _ Tryz.underlying33 rfl kr kr ?_))
 refine gm (d_lszSender (x:=x.Sender) ⟨A.a1,A.c1,rfl,HFF.out.q1.keep ii,HOK.out.1⟩ (by omega) (by omega)) ?_
 intro y1
 by_cases h1:left - totL x.Offers - Enc.tot x.Sender<0
 ·have HV:=lH (show szD left (Enc.tot x)=-1 from szD_neg (by rw[HTOT.out];omega))
  rw[szD_neg h1]
  go_wp2_with (fail)
  go_ret
  exact Gives.mk (by rw[HV.out];rfl)
 rw[szD_pos h1]
 go_wp2_with (first|(refine stepLoad rfl _ _ rfl (w.heap.size) 8 rfl (row:=[.int .i64 x.Unpacker.Channel,.int .i64 x.Unpacker.Next,.bool x.Unpacker.Synced,.string x.Unpacker.Rest,.int .i64 x.Unpacker.Lost]) (HB.out.to ii) _ Tryz.underlying37 rfl kr kr ?_))
 refine gm (d_lszUnpacker (B:=0) (x:=x.Unpacker) ⟨rfl,HOK.out.2.2.1⟩ (by omega) (by omega)) ?_
 intro y2
 by_cases h2:left - totL x.Offers - Enc.tot x.Sender - Enc.tot x.Unpacker<0
 ·have HV:=lH (show szD left (Enc.tot x)=-1 from szD_neg (by rw[HTOT.out];omega))
  rw[szD_neg h2]
  go_wp2_with (fail)
  go_ret
  exact Gives.mk (by rw[HV.out];rfl)
 rw[szD_pos h2]
 go_wp2_with (fail)
 refine gm (d_lszPairS (HFF.out.q2.keep ii) (by omega) (by omega)) ?_
 intro y3
 by_cases h3:left - totL x.Offers - Enc.tot x.Sender - Enc.tot x.Unpacker - totL x.Pairs<0
 ·have HV:=lH (show szD left (Enc.tot x)=-1 from szD_neg (by rw[HTOT.out];omega))
  rw[szD_neg h3]
  go_wp2_with (fail)
  go_ret
  exact Gives.mk (by rw[HV.out];rfl)
 rw[szD_pos h3]
 go_wp2_with (fail)
 refine gm (d_lszRecordS (HFF.out.q3.keep ii) (by omega) (by omega)) ?_
 intro y4
 by_cases h4:left - totL x.Offers - Enc.tot x.Sender - Enc.tot x.Unpacker - totL x.Pairs - totL x.Records<0
 ·have HV:=lH (show szD left (Enc.tot x)=-1 from szD_neg (by rw[HTOT.out];omega))
  rw[szD_neg h4]
  go_wp2_with (fail)
  go_ret
  exact Gives.mk (by rw[HV.out];rfl)
 rw[szD_pos h4]
 go_wp2_with (fail)
 refine gm (d_lszFileInS (HFF.out.q4.keep ii) (by omega) (by omega)) ?_
 intro y5
 by_cases h5:left - totL x.Offers - Enc.tot x.Sender - Enc.tot x.Unpacker - totL x.Pairs - totL x.Records - totL x.Files<0
 ·have HV:=lH (show szD left (Enc.tot x)=-1 from szD_neg (by rw[HTOT.out];omega))
  rw[szD_neg h5]
  go_wp2_with (fail)
  go_ret
  exact Gives.mk (by rw[HV.out];rfl)
 rw[szD_pos h5]
 go_wp2_with (fail)
 refine gm (d_lszBoolS (HFF.out.q5.keep ii) (by omega) (by omega)) ?_
 intro y6
 by_cases h6:left - totL x.Offers - Enc.tot x.Sender - Enc.tot x.Unpacker - totL x.Pairs - totL x.Records - totL x.Files - totL x.Told<0
 ·have HV:=lH (show szD left (Enc.tot x)=-1 from szD_neg (by rw[HTOT.out];omega))
  rw[szD_neg h6]
  go_wp2_with (fail)
  go_ret
  exact Gives.mk (by rw[HV.out];rfl)
 rw[szD_pos h6]
 have HV:=lH (show szD left (Enc.tot x)=left - totL x.Offers - Enc.tot x.Sender - Enc.tot x.Unpacker - totL x.Pairs - totL x.Records - totL x.Files - totL x.Told by rw[szD_pos (by rw[HTOT.out];omega),HTOT.out]<;>omega)
 go_wp2_with (fail)
 go_ret
 exact Gives.mk (by rw[HV.out];rfl)
theorem d_leqGround{B B2:Nat}{vs vs2:List Value}{x:TGround}{w:World}(h:Enc.Rd B w vs x)(h2:Enc.Rd B2 w vs2 x) :
  Calls Tryz.prog 42 #[.agg vs.toArray,.agg vs2.toArray] w (Gives w (.bool true)):=by
 obtain⟨A,rfl,F⟩:=h
 obtain⟨mA,rfl,mF⟩:=h2
 have HOK:=lH F.ok
 have HB:=lH ((Held.new w (dGround x A) 76 w.heap.size rfl).to (ii:Grows _ ((w.alloc (.cells (dGround x A).toArray 76)).alloc (.cells (dGround x mA).toArray 76))))
 have HC:=lH (Held.new (w.alloc (.cells (dGround x A).toArray 76)) (dGround x mA) 76 (w.heap.size+1) (by simp))
 have HFF:=lH F;clear F
 have HMF:=lH mF;clear mF
 go_enter Tryz.func42,Tryz.ntmps42
 go_wp2_with (fail)
 refine gm (d_leqStringS (HFF.out.q0.keep ii) (HMF.out.q0.keep ii)) ?_
 intro y0
 go_wp2_with (first|(refine stepLoad rfl _ _ rfl (w.heap.size) 1 rfl (row:=[.int .i64 x.Sender.Next,.int .i64 x.Sender.Window,.slice A.a1 x.Sender.Waiting.length A.c1,.int .i64 x.Sender.Done]) (HB.out.to ii) _ Tryz.underlying69 rfl kr kr ?_)|(refine stepLoad rfl _ _ rfl (w.heap.size+1) 1 rfl (row:=[.int .i64 x.Sender.Next,.int .i64 x.Sender.Window,.slice mA.a1 x.Sender.Waiting.length mA.c1,.int .i64 x.Sender.Done]) (HC.out.to ii) _ Tryz.underlying69 rfl kr kr ?_))
 refine gm (d_leqSender (x:=x.Sender) ⟨A.a1,A.c1,rfl,HFF.out.q1.keep ii,HOK.out.1⟩ ⟨mA.a1,mA.c1,rfl,HMF.out.q1.keep ii,HOK.out.1⟩) ?_
 intro y1
 go_wp2_with (first|(refine stepLoad rfl _ _ rfl (w.heap.size) 5 rfl (row:=[.int .i64 x.Notice.Expect,.bool x.Notice.Locked,.bool x.Notice.Again]) (HB.out.to ii) _ Tryz.underlying70 rfl kr kr ?_)|(refine stepLoad rfl _ _ rfl (w.heap.size+1) 5 rfl (row:=[.int .i64 x.Notice.Expect,.bool x.Notice.Locked,.bool x.Notice.Again]) (HC.out.to ii) _ Tryz.underlying70 rfl kr kr ?_))
 refine gm (d_leqNotice (B:=0) (B2:=0) (x:=x.Notice) ⟨rfl,HOK.out.2.1⟩ ⟨rfl,HOK.out.2.1⟩) ?_
 intro y2
 go_wp2_with (first|(refine stepLoad rfl _ _ rfl (w.heap.size) 8 rfl (row:=[.int .i64 x.Unpacker.Channel,.int .i64 x.Unpacker.Next,.bool x.Unpacker.Synced,.string x.Unpacker.Rest,.int .i64 x.Unpacker.Lost]) (HB.out.to ii) _ Tryz.underlying71 rfl kr kr ?_)|(refine stepLoad rfl _ _ rfl (w.heap.size+1) 8 rfl (row:=[.int .i64 x.Unpacker.Channel,.int .i64 x.Unpacker.Next,.bool x.Unpacker.Synced,.string x.Unpacker.Rest,.int .i64 x.Unpacker.Lost]) (HC.out.to ii) _ Tryz.underlying71 rfl kr kr ?_))
 refine gm (d_leqUnpacker (B:=0) (B2:=0) (x:=x.Unpacker) ⟨rfl,HOK.out.2.2.1⟩ ⟨rfl,HOK.out.2.2.1⟩) ?_
 intro y3
 go_wp2_with (fail)
 refine gm (d_leqPairS (HFF.out.q2.keep ii) (HMF.out.q2.keep ii)) ?_
 intro y4
 go_wp2_with (fail)
 refine gm (d_leqRecordS (HFF.out.q3.keep ii) (HMF.out.q3.keep ii)) ?_
 intro y5
 go_wp2_with (fail)
 refine gm (d_leqFileInS (HFF.out.q4.keep ii) (HMF.out.q4.keep ii)) ?_
 intro y6
 go_wp2_with (fail)
 refine gm (d_leqBoolS (HFF.out.q5.keep ii) (HMF.out.q5.keep ii)) ?_
 intro y7
 go_wp2_with (fail)
 go_ret
 exact Gives.mk rfl
theorem d_lszBoard{B:Nat}{vs:List Value}{x:TBoard}{left:Int}{w:World}(h:Enc.Rd B w vs x)(hl:0≤left)(hl2:left≤1048576) :
  Calls Tryz.prog 74 #[.agg vs.toArray,.int .i64 left] w (Gives w (.int .i64 (szD left (Enc.tot x)))):=by
 obtain⟨A,rfl,F⟩:=h
 have n0:=totL_nonneg x.Params
 have n1:=totL_nonneg x.Limits
 have n2:=totL_nonneg x.Orders
 have n3:=totL_nonneg x.Done
 have n4:=Enc.tot_nonneg x.Recorder
 have n5:=totL_nonneg x.Asked
 have HOK:=lH F.ok
 have htot:Enc.tot x=totL x.Params+totL x.Limits+totL x.Orders+totL x.Done+Enc.tot x.Recorder+totL x.Asked:=rfl
 have HTOT:=lH htot;clear htot
 have HB:=lH (Held.new w (dBoard x A) 53 w.heap.size rfl)
 have HFF:=lH F;clear F
 go_enter Tryz.func74,Tryz.ntmps74
 go_wp2_with (fail)
 refine gm (d_lszIntS (HFF.out.q0.keep ii) (by omega) (by omega)) ?_
 intro y0
 by_cases h0:left - totL x.Params<0
 ·have HV:=lH (show szD left (Enc.tot x)=-1 from szD_neg (by rw[HTOT.out];omega))
  rw[szD_neg h0]
  go_wp2_with (fail)
  go_ret
  exact Gives.mk (by rw[HV.out];rfl)
 rw[szD_pos h0]
 go_wp2_with (fail)
 refine gm (d_lszLimitS (HFF.out.q1.keep ii) (by omega) (by omega)) ?_
 intro y1
 by_cases h1:left - totL x.Params - totL x.Limits<0
 ·have HV:=lH (show szD left (Enc.tot x)=-1 from szD_neg (by rw[HTOT.out];omega))
  rw[szD_neg h1]
  go_wp2_with (fail)
  go_ret
  exact Gives.mk (by rw[HV.out];rfl)
 rw[szD_pos h1]
 go_wp2_with (fail)
 refine gm (d_lszWaitingS (HFF.out.q2.keep ii) (by omega) (by omega)) ?_
 intro y2
 by_cases h2:left - totL x.Params - totL x.Limits - totL x.Orders<0
 ·have HV:=lH (show szD left (Enc.tot x)=-1 from szD_neg (by rw[HTOT.out];omega))
  rw[szD_neg h2]
  go_wp2_with (fail)
  go_ret
  exact Gives.mk (by rw[HV.out];rfl)
 rw[szD_pos h2]
 go_wp2_with (fail)
 refine gm (d_lszDoneS (HFF.out.q3.keep ii) (by omega) (by omega)) ?_
 intro y3
 by_cases h3:left - totL x.Params - totL x.Limits - totL x.Orders - totL x.Done<0
 ·have HV:=lH (show szD left (Enc.tot x)=-1 from szD_neg (by rw[HTOT.out];omega))
  rw[szD_neg h3]
  go_wp2_with (fail)
  go_ret
  exact Gives.mk (by rw[HV.out];rfl)
 rw[szD_pos h3]
 go_wp2_with (first|(refine stepLoad rfl _ _ rfl (w.heap.size) 6 rfl (row:=[.int .i64 x.Recorder.Room,.slice A.a4 x.Recorder.Records.length A.c4,.slice A.a5 x.Recorder.Dropped.length A.c5]) (HB.out.to ii) _ Tryz.underlying51 rfl kr kr ?_))
 refine gm (d_lszRecorder (x:=x.Recorder) ⟨A.a4,A.c4,A.a5,A.c5,rfl,HFF.out.q4.keep ii,HFF.out.q5.keep ii,HOK.out.2.1⟩ (by omega) (by omega)) ?_
 intro y4
 by_cases h4:left - totL x.Params - totL x.Limits - totL x.Orders - totL x.Done - Enc.tot x.Recorder<0
 ·have HV:=lH (show szD left (Enc.tot x)=-1 from szD_neg (by rw[HTOT.out];omega))
  rw[szD_neg h4]
  go_wp2_with (fail)
  go_ret
  exact Gives.mk (by rw[HV.out];rfl)
 rw[szD_pos h4]
 go_wp2_with (fail)
 refine gm (d_lszIntS (HFF.out.q6.keep ii) (by omega) (by omega)) ?_
 intro y5
 by_cases h5:left - totL x.Params - totL x.Limits - totL x.Orders - totL x.Done - Enc.tot x.Recorder - totL x.Asked<0
 ·have HV:=lH (show szD left (Enc.tot x)=-1 from szD_neg (by rw[HTOT.out];omega))
  rw[szD_neg h5]
  go_wp2_with (fail)
  go_ret
  exact Gives.mk (by rw[HV.out];rfl)
 rw[szD_pos h5]
 have HV:=lH (show szD left (Enc.tot x)=left - totL x.Params - totL x.Limits - totL x.Orders - totL x.Done - Enc.tot x.Recorder - totL x.Asked by rw[szD_pos (by rw[HTOT.out];omega),HTOT.out]<;>omega)
 go_wp2_with (fail)
 go_ret
 exact Gives.mk (by rw[HV.out];rfl)
theorem d_leqBoard{B B2:Nat}{vs vs2:List Value}{x:TBoard}{w:World}(h:Enc.Rd B w vs x)(h2:Enc.Rd B2 w vs2 x) :
  Calls Tryz.prog 143 #[.agg vs.toArray,.agg vs2.toArray] w (Gives w (.bool true)):=by
 obtain⟨A,rfl,F⟩:=h
 obtain⟨mA,rfl,mF⟩:=h2
 have HOK:=lH F.ok
 have HB:=lH ((Held.new w (dBoard x A) 84 w.heap.size rfl).to (ii:Grows _ ((w.alloc (.cells (dBoard x A).toArray 84)).alloc (.cells (dBoard x mA).toArray 84))))
 have HC:=lH (Held.new (w.alloc (.cells (dBoard x A).toArray 84)) (dBoard x mA) 84 (w.heap.size+1) (by simp))
 have HFF:=lH F;clear F
 have HMF:=lH mF;clear mF
 go_enter Tryz.func143,Tryz.ntmps143
 go_wp2_with (fail)
 refine gm (d_leqIntS (HFF.out.q0.keep ii) (HMF.out.q0.keep ii)) ?_
 intro y0
 go_wp2_with (fail)
 refine gm (d_leqLimitS (HFF.out.q1.keep ii) (HMF.out.q1.keep ii)) ?_
 intro y1
 go_wp2_with (fail)
 refine gm (d_leqWaitingS (HFF.out.q2.keep ii) (HMF.out.q2.keep ii)) ?_
 intro y2
 go_wp2_with (fail)
 refine gm (d_leqDoneS (HFF.out.q3.keep ii) (HMF.out.q3.keep ii)) ?_
 intro y3
 go_wp2_with (first|(refine stepLoad rfl _ _ rfl (w.heap.size) 6 rfl (row:=[.int .i64 x.Recorder.Room,.slice A.a4 x.Recorder.Records.length A.c4,.slice A.a5 x.Recorder.Dropped.length A.c5]) (HB.out.to ii) _ Tryz.underlying82 rfl kr kr ?_)|(refine stepLoad rfl _ _ rfl (w.heap.size+1) 6 rfl (row:=[.int .i64 x.Recorder.Room,.slice mA.a4 x.Recorder.Records.length mA.c4,.slice mA.a5 x.Recorder.Dropped.length mA.c5]) (HC.out.to ii) _ Tryz.underlying82 rfl kr kr ?_))
 refine gm (d_leqRecorder (x:=x.Recorder) ⟨A.a4,A.c4,A.a5,A.c5,rfl,HFF.out.q4.keep ii,HFF.out.q5.keep ii,HOK.out.2.1⟩ ⟨mA.a4,mA.c4,mA.a5,mA.c5,rfl,HMF.out.q4.keep ii,HMF.out.q5.keep ii,HOK.out.2.1⟩) ?_
 intro y4
 go_wp2_with (fail)
 refine gm (d_leqIntS (HFF.out.q6.keep ii) (HMF.out.q6.keep ii)) ?_
 intro y5
 go_wp2_with (fail)
 go_ret
 exact Gives.mk rfl
theorem d_lszSpace{B:Nat}{vs:List Value}{x:TSpace}{left:Int}{w:World}(h:Enc.Rd B w vs x)(hl:0≤left)(hl2:left≤1048576) :
  Calls Tryz.prog 17 #[.agg vs.toArray,.int .i64 left] w (Gives w (.int .i64 (szD left (Enc.tot x)))):=by
 obtain⟨A,rfl,F⟩:=h
 have n0:=Enc.tot_nonneg x.Board
 have n1:=Enc.tot_nonneg x.Packer
 have n2:=totL_nonneg x.Files
 have n3:=totL_nonneg x.Outs
 have n4:=totL_nonneg x.Sent
 have HOK:=lH F.ok
 have htot:Enc.tot x=Enc.tot x.Board+Enc.tot x.Packer+totL x.Files+totL x.Outs+totL x.Sent:=rfl
 have HTOT:=lH htot;clear htot
 have HB:=lH (Held.new w (dSpace x A) 58 w.heap.size rfl)
 have HFF:=lH F;clear F
 go_enter Tryz.func17,Tryz.ntmps17
 go_wp2_with (first|(refine stepLoad rfl _ _ rfl (w.heap.size) 4 rfl (row:=(dBoard x.Board A)) (HB.out.to ii) _ Tryz.underlying53 rfl kr kr ?_))
 refine gm (d_lszBoard (x:=x.Board) ⟨⟨A.a0,A.c0,A.a1,A.c1,A.a2,A.c2,A.a3,A.c3,A.a4,A.c4,A.a5,A.c5,A.a6,A.c6⟩,rfl,⟨HFF.out.q0.keep ii,HFF.out.q1.keep ii,HFF.out.q2.keep ii,HFF.out.q3.keep ii,HFF.out.q4.keep ii,HFF.out.q5.keep ii,HFF.out.q6.keep ii,HOK.out.2.1⟩⟩ (by omega) (by omega)) ?_
 intro y0
 by_cases h0:left - Enc.tot x.Board<0
 ·have HV:=lH (show szD left (Enc.tot x)=-1 from szD_neg (by rw[HTOT.out];omega))
  rw[szD_neg h0]
  go_wp2_with (fail)
  go_ret
  exact Gives.mk (by rw[HV.out];rfl)
 rw[szD_pos h0]
 go_wp2_with (first|(refine stepLoad rfl _ _ rfl (w.heap.size) 16 rfl (row:=[.int .i64 x.Packer.Channel,.int .i64 x.Packer.Count,.string x.Packer.Rest,.slice A.a7 x.Packer.Starts.length A.c7]) (HB.out.to ii) _ Tryz.underlying55 rfl kr kr ?_))
 refine gm (d_lszPacker (x:=x.Packer) ⟨A.a7,A.c7,rfl,HFF.out.q7.keep ii,HOK.out.2.2.1⟩ (by omega) (by omega)) ?_
 intro y1
 by_cases h1:left - Enc.tot x.Board - Enc.tot x.Packer<0
 ·have HV:=lH (show szD left (Enc.tot x)=-1 from szD_neg (by rw[HTOT.out];omega))
  rw[szD_neg h1]
  go_wp2_with (fail)
  go_ret
  exact Gives.mk (by rw[HV.out];rfl)
 rw[szD_pos h1]
 go_wp2_with (fail)
 refine gm (d_lszStringS (HFF.out.q8.keep ii) (by omega) (by omega)) ?_
 intro y2
 by_cases h2:left - Enc.tot x.Board - Enc.tot x.Packer - totL x.Files<0
 ·have HV:=lH (show szD left (Enc.tot x)=-1 from szD_neg (by rw[HTOT.out];omega))
  rw[szD_neg h2]
  go_wp2_with (fail)
  go_ret
  exact Gives.mk (by rw[HV.out];rfl)
 rw[szD_pos h2]
 go_wp2_with (fail)
 refine gm (d_lszFileOutS (HFF.out.q9.keep ii) (by omega) (by omega)) ?_
 intro y3
 by_cases h3:left - Enc.tot x.Board - Enc.tot x.Packer - totL x.Files - totL x.Outs<0
 ·have HV:=lH (show szD left (Enc.tot x)=-1 from szD_neg (by rw[HTOT.out];omega))
  rw[szD_neg h3]
  go_wp2_with (fail)
  go_ret
  exact Gives.mk (by rw[HV.out];rfl)
 rw[szD_pos h3]
 go_wp2_with (fail)
 refine gm (d_lszRecordS (HFF.out.q10.keep ii) (by omega) (by omega)) ?_
 intro y4
 by_cases h4:left - Enc.tot x.Board - Enc.tot x.Packer - totL x.Files - totL x.Outs - totL x.Sent<0
 ·have HV:=lH (show szD left (Enc.tot x)=-1 from szD_neg (by rw[HTOT.out];omega))
  rw[szD_neg h4]
  go_wp2_with (fail)
  go_ret
  exact Gives.mk (by rw[HV.out];rfl)
 rw[szD_pos h4]
 have HV:=lH (show szD left (Enc.tot x)=left - Enc.tot x.Board - Enc.tot x.Packer - totL x.Files - totL x.Outs - totL x.Sent by rw[szD_pos (by rw[HTOT.out];omega),HTOT.out]<;>omega)
 go_wp2_with (fail)
 go_ret
 exact Gives.mk (by rw[HV.out];rfl)
theorem d_leqSpace{B B2:Nat}{vs vs2:List Value}{x:TSpace}{w:World}(h:Enc.Rd B w vs x)(h2:Enc.Rd B2 w vs2 x) :
  Calls Tryz.prog 43 #[.agg vs.toArray,.agg vs2.toArray] w (Gives w (.bool true)):=by
 obtain⟨A,rfl,F⟩:=h
 obtain⟨mA,rfl,mF⟩:=h2
 have HOK:=lH F.ok
 have HB:=lH ((Held.new w (dSpace x A) 88 w.heap.size rfl).to (ii:Grows _ ((w.alloc (.cells (dSpace x A).toArray 88)).alloc (.cells (dSpace x mA).toArray 88))))
 have HC:=lH (Held.new (w.alloc (.cells (dSpace x A).toArray 88)) (dSpace x mA) 88 (w.heap.size+1) (by simp))
 have HFF:=lH F;clear F
 have HMF:=lH mF;clear mF
 go_enter Tryz.func43,Tryz.ntmps43
 go_wp2_with (first|(refine stepLoad rfl _ _ rfl (w.heap.size) 0 rfl (row:=[.int .i64 x.Receiver.Expect,.bool x.Receiver.Locked,.bool x.Receiver.Again,.int .i64 x.Receiver.Taken]) (HB.out.to ii) _ Tryz.underlying77 rfl kr kr ?_)|(refine stepLoad rfl _ _ rfl (w.heap.size+1) 0 rfl (row:=[.int .i64 x.Receiver.Expect,.bool x.Receiver.Locked,.bool x.Receiver.Again,.int .i64 x.Receiver.Taken]) (HC.out.to ii) _ Tryz.underlying77 rfl kr kr ?_))
 refine gm (d_leqReceiver (B:=0) (B2:=0) (x:=x.Receiver) ⟨rfl,HOK.out.1⟩ ⟨rfl,HOK.out.1⟩) ?_
 intro y0
 go_wp2_with (first|(refine stepLoad rfl _ _ rfl (w.heap.size) 4 rfl (row:=(dBoard x.Board A)) (HB.out.to ii) _ Tryz.underlying84 rfl kr kr ?_)|(refine stepLoad rfl _ _ rfl (w.heap.size+1) 4 rfl (row:=(dBoard x.Board mA)) (HC.out.to ii) _ Tryz.underlying84 rfl kr kr ?_))
 refine gm (d_leqBoard (x:=x.Board) ⟨⟨A.a0,A.c0,A.a1,A.c1,A.a2,A.c2,A.a3,A.c3,A.a4,A.c4,A.a5,A.c5,A.a6,A.c6⟩,rfl,⟨HFF.out.q0.keep ii,HFF.out.q1.keep ii,HFF.out.q2.keep ii,HFF.out.q3.keep ii,HFF.out.q4.keep ii,HFF.out.q5.keep ii,HFF.out.q6.keep ii,HOK.out.2.1⟩⟩ ⟨⟨mA.a0,mA.c0,mA.a1,mA.c1,mA.a2,mA.c2,mA.a3,mA.c3,mA.a4,mA.c4,mA.a5,mA.c5,mA.a6,mA.c6⟩,rfl,⟨HMF.out.q0.keep ii,HMF.out.q1.keep ii,HMF.out.q2.keep ii,HMF.out.q3.keep ii,HMF.out.q4.keep ii,HMF.out.q5.keep ii,HMF.out.q6.keep ii,HOK.out.2.1⟩⟩) ?_
 intro y1
 go_wp2_with (first|(refine stepLoad rfl _ _ rfl (w.heap.size) 16 rfl (row:=[.int .i64 x.Packer.Channel,.int .i64 x.Packer.Count,.string x.Packer.Rest,.slice A.a7 x.Packer.Starts.length A.c7]) (HB.out.to ii) _ Tryz.underlying85 rfl kr kr ?_)|(refine stepLoad rfl _ _ rfl (w.heap.size+1) 16 rfl (row:=[.int .i64 x.Packer.Channel,.int .i64 x.Packer.Count,.string x.Packer.Rest,.slice mA.a7 x.Packer.Starts.length mA.c7]) (HC.out.to ii) _ Tryz.underlying85 rfl kr kr ?_))
 refine gm (d_leqPacker (x:=x.Packer) ⟨A.a7,A.c7,rfl,HFF.out.q7.keep ii,HOK.out.2.2.1⟩ ⟨mA.a7,mA.c7,rfl,HMF.out.q7.keep ii,HOK.out.2.2.1⟩) ?_
 intro y2
 go_wp2_with (fail)
 refine gm (d_leqStringS (HFF.out.q8.keep ii) (HMF.out.q8.keep ii)) ?_
 intro y3
 go_wp2_with (fail)
 refine gm (d_leqFileOutS (HFF.out.q9.keep ii) (HMF.out.q9.keep ii)) ?_
 intro y4
 go_wp2_with (fail)
 refine gm (d_leqRecordS (HFF.out.q10.keep ii) (HMF.out.q10.keep ii)) ?_
 intro y5
 go_wp2_with (fail)
 go_ret
 exact Gives.mk rfl
theorem d_lszMission{B:Nat}{vs:List Value}{x:TMission}{left:Int}{w:World}(h:Enc.Rd B w vs x)(hl:0≤left)(hl2:left≤1048576) :
  Calls Tryz.prog 5 #[.agg vs.toArray,.int .i64 left] w (Gives w (.int .i64 (szD left (Enc.tot x)))):=by
 obtain⟨A,rfl,F⟩:=h
 have n0:=totL_nonneg x.Plan
 have n1:=totL_nonneg x.Ups
 have n2:=totL_nonneg x.Downs
 have n3:=Enc.tot_nonneg x.Ground
 have n4:=Enc.tot_nonneg x.Space
 have n5:=totL_nonneg x.Offered
 have n6:=totL_nonneg x.Took
 have HOK:=lH F.ok
 have htot:Enc.tot x=totL x.Plan+totL x.Ups+totL x.Downs+Enc.tot x.Ground+Enc.tot x.Space+totL x.Offered+totL x.Took:=rfl
 have HTOT:=lH htot;clear htot
 have HB:=lH (Held.new w (dMission x A) 60 w.heap.size rfl)
 have HFF:=lH F;clear F
 go_enter Tryz.func5,Tryz.ntmps5
 go_wp2_with (fail)
 refine gm (d_lszSlotS (HFF.out.q0.keep ii) (by omega) (by omega)) ?_
 intro y0
 by_cases h0:left - totL x.Plan<0
 ·have HV:=lH (show szD left (Enc.tot x)=-1 from szD_neg (by rw[HTOT.out];omega))
  rw[szD_neg h0]
  go_wp2_with (fail)
  go_ret
  exact Gives.mk (by rw[HV.out];rfl)
 rw[szD_pos h0]
 go_wp2_with (fail)
 refine gm (d_lszFlightS (HFF.out.q1.keep ii) (by omega) (by omega)) ?_
 intro y1
 by_cases h1:left - totL x.Plan - totL x.Ups<0
 ·have HV:=lH (show szD left (Enc.tot x)=-1 from szD_neg (by rw[HTOT.out];omega))
  rw[szD_neg h1]
  go_wp2_with (fail)
  go_ret
  exact Gives.mk (by rw[HV.out];rfl)
 rw[szD_pos h1]
 go_wp2_with (fail)
 refine gm (d_lszFlightS (HFF.out.q2.keep ii) (by omega) (by omega)) ?_
 intro y2
 by_cases h2:left - totL x.Plan - totL x.Ups - totL x.Downs<0
 ·have HV:=lH (show szD left (Enc.tot x)=-1 from szD_neg (by rw[HTOT.out];omega))
  rw[szD_neg h2]
  go_wp2_with (fail)
  go_ret
  exact Gives.mk (by rw[HV.out];rfl)
 rw[szD_pos h2]
 go_wp2_with (first|(refine stepLoad rfl _ _ rfl (w.heap.size) 16 rfl (row:=(cGround x.Ground A.a3 A.c3 A.a4 A.c4 A.a5 A.c5 A.a6 A.c6 A.a7 A.c7 A.a8 A.c8)) (HB.out.to ii) _ Tryz.underlying43 rfl kr kr ?_))
 refine gm (d_lszGround (x:=x.Ground) ⟨⟨A.a3,A.c3,A.a4,A.c4,A.a5,A.c5,A.a6,A.c6,A.a7,A.c7,A.a8,A.c8⟩,rfl,⟨HFF.out.q3.keep ii,HFF.out.q4.keep ii,HFF.out.q5.keep ii,HFF.out.q6.keep ii,HFF.out.q7.keep ii,HFF.out.q8.keep ii,HOK.out.2.2.2.2.2.2.1⟩⟩ (by omega) (by omega)) ?_
 intro y3
 by_cases h3:left - totL x.Plan - totL x.Ups - totL x.Downs - Enc.tot x.Ground<0
 ·have HV:=lH (show szD left (Enc.tot x)=-1 from szD_neg (by rw[HTOT.out];omega))
  rw[szD_neg h3]
  go_wp2_with (fail)
  go_ret
  exact Gives.mk (by rw[HV.out];rfl)
 rw[szD_pos h3]
 go_wp2_with (first|(refine stepLoad rfl _ _ rfl (w.heap.size) 33 rfl (row:=(cSpace x.Space A.a9 A.c9 A.a10 A.c10 A.a11 A.c11 A.a12 A.c12 A.a13 A.c13 A.a14 A.c14 A.a15 A.c15 A.a16 A.c16 A.a17 A.c17 A.a18 A.c18 A.a19 A.c19)) (HB.out.to ii) _ Tryz.underlying58 rfl kr kr ?_))
 refine gm (d_lszSpace (x:=x.Space) ⟨⟨A.a9,A.c9,A.a10,A.c10,A.a11,A.c11,A.a12,A.c12,A.a13,A.c13,A.a14,A.c14,A.a15,A.c15,A.a16,A.c16,A.a17,A.c17,A.a18,A.c18,A.a19,A.c19⟩,rfl,⟨HFF.out.q9.keep ii,HFF.out.q10.keep ii,HFF.out.q11.keep ii,HFF.out.q12.keep ii,HFF.out.q13.keep ii,HFF.out.q14.keep ii,HFF.out.q15.keep ii,HFF.out.q16.keep ii,HFF.out.q17.keep ii,HFF.out.q18.keep ii,HFF.out.q19.keep ii,HOK.out.2.2.2.2.2.2.2.1⟩⟩ (by omega) (by omega)) ?_
 intro y4
 by_cases h4:left - totL x.Plan - totL x.Ups - totL x.Downs - Enc.tot x.Ground - Enc.tot x.Space<0
 ·have HV:=lH (show szD left (Enc.tot x)=-1 from szD_neg (by rw[HTOT.out];omega))
  rw[szD_neg h4]
  go_wp2_with (fail)
  go_ret
  exact Gives.mk (by rw[HV.out];rfl)
 rw[szD_pos h4]
 go_wp2_with (fail)
 refine gm (d_lszStringS (HFF.out.q20.keep ii) (by omega) (by omega)) ?_
 intro y5
 by_cases h5:left - totL x.Plan - totL x.Ups - totL x.Downs - Enc.tot x.Ground - Enc.tot x.Space - totL x.Offered<0
 ·have HV:=lH (show szD left (Enc.tot x)=-1 from szD_neg (by rw[HTOT.out];omega))
  rw[szD_neg h5]
  go_wp2_with (fail)
  go_ret
  exact Gives.mk (by rw[HV.out];rfl)
 rw[szD_pos h5]
 go_wp2_with (fail)
 refine gm (d_lszStringS (HFF.out.q21.keep ii) (by omega) (by omega)) ?_
 intro y6
 by_cases h6:left - totL x.Plan - totL x.Ups - totL x.Downs - Enc.tot x.Ground - Enc.tot x.Space - totL x.Offered - totL x.Took<0
 ·have HV:=lH (show szD left (Enc.tot x)=-1 from szD_neg (by rw[HTOT.out];omega))
  rw[szD_neg h6]
  go_wp2_with (fail)
  go_ret
  exact Gives.mk (by rw[HV.out];rfl)
 rw[szD_pos h6]
 have HV:=lH (show szD left (Enc.tot x)=left - totL x.Plan - totL x.Ups - totL x.Downs - Enc.tot x.Ground - Enc.tot x.Space - totL x.Offered - totL x.Took by rw[szD_pos (by rw[HTOT.out];omega),HTOT.out]<;>omega)
 go_wp2_with (fail)
 go_ret
 exact Gives.mk (by rw[HV.out];rfl)
theorem d_leqMission{B B2:Nat}{vs vs2:List Value}{x:TMission}{w:World}(h:Enc.Rd B w vs x)(h2:Enc.Rd B2 w vs2 x) :
  Calls Tryz.prog 9 #[.agg vs.toArray,.agg vs2.toArray] w (Gives w (.bool true)):=by
 obtain⟨A,rfl,F⟩:=h
 obtain⟨mA,rfl,mF⟩:=h2
 have HOK:=lH F.ok
 have HB:=lH ((Held.new w (dMission x A) 90 w.heap.size rfl).to (ii:Grows _ ((w.alloc (.cells (dMission x A).toArray 90)).alloc (.cells (dMission x mA).toArray 90))))
 have HC:=lH (Held.new (w.alloc (.cells (dMission x A).toArray 90)) (dMission x mA) 90 (w.heap.size+1) (by simp))
 have HFF:=lH F;clear F
 have HMF:=lH mF;clear mF
 go_enter Tryz.func9,Tryz.ntmps9
 go_wp2_with (first|(refine stepLoad rfl _ _ rfl (w.heap.size) 2 rfl (row:=[.int .i64 x.Drift.Rate,.int .i64 x.Drift.Offset]) (HB.out.to ii) _ Tryz.underlying62 rfl kr kr ?_)|(refine stepLoad rfl _ _ rfl (w.heap.size+1) 2 rfl (row:=[.int .i64 x.Drift.Rate,.int .i64 x.Drift.Offset]) (HC.out.to ii) _ Tryz.underlying62 rfl kr kr ?_))
 refine gm (d_leqDrift (B:=0) (B2:=0) (x:=x.Drift) ⟨rfl,HOK.out.2.2.1⟩ ⟨rfl,HOK.out.2.2.1⟩) ?_
 intro y0
 go_wp2_with (first|(refine stepLoad rfl _ _ rfl (w.heap.size) 4 rfl (row:=[.int .i64 x.Orbit.Period,.int .i64 x.Orbit.Start,.int .i64 x.Orbit.Length]) (HB.out.to ii) _ Tryz.underlying63 rfl kr kr ?_)|(refine stepLoad rfl _ _ rfl (w.heap.size+1) 4 rfl (row:=[.int .i64 x.Orbit.Period,.int .i64 x.Orbit.Start,.int .i64 x.Orbit.Length]) (HC.out.to ii) _ Tryz.underlying63 rfl kr kr ?_))
 refine gm (d_leqOrbit (B:=0) (B2:=0) (x:=x.Orbit) ⟨rfl,HOK.out.2.2.2.1⟩ ⟨rfl,HOK.out.2.2.2.1⟩) ?_
 intro y1
 go_wp2_with (fail)
 refine gm (d_leqSlotS (HFF.out.q0.keep ii) (HMF.out.q0.keep ii)) ?_
 intro y2
 go_wp2_with (first|(refine stepLoad rfl _ _ rfl (w.heap.size) 8 rfl (row:=[.int .i64 x.Up.Seed,.int .i64 x.Up.Burst,.int .i64 x.Up.Loss]) (HB.out.to ii) _ Tryz.underlying65 rfl kr kr ?_)|(refine stepLoad rfl _ _ rfl (w.heap.size+1) 8 rfl (row:=[.int .i64 x.Up.Seed,.int .i64 x.Up.Burst,.int .i64 x.Up.Loss]) (HC.out.to ii) _ Tryz.underlying65 rfl kr kr ?_))
 refine gm (d_leqChannel (B:=0) (B2:=0) (x:=x.Up) ⟨rfl,HOK.out.2.2.2.2.1⟩ ⟨rfl,HOK.out.2.2.2.2.1⟩) ?_
 intro y3
 go_wp2_with (first|(refine stepLoad rfl _ _ rfl (w.heap.size) 11 rfl (row:=[.int .i64 x.Down.Seed,.int .i64 x.Down.Burst,.int .i64 x.Down.Loss]) (HB.out.to ii) _ Tryz.underlying65 rfl kr kr ?_)|(refine stepLoad rfl _ _ rfl (w.heap.size+1) 11 rfl (row:=[.int .i64 x.Down.Seed,.int .i64 x.Down.Burst,.int .i64 x.Down.Loss]) (HC.out.to ii) _ Tryz.underlying65 rfl kr kr ?_))
 refine gm (d_leqChannel (B:=0) (B2:=0) (x:=x.Down) ⟨rfl,HOK.out.2.2.2.2.2.1⟩ ⟨rfl,HOK.out.2.2.2.2.2.1⟩) ?_
 intro y4
 go_wp2_with (fail)
 refine gm (d_leqFlightS (HFF.out.q1.keep ii) (HMF.out.q1.keep ii)) ?_
 intro y5
 go_wp2_with (fail)
 refine gm (d_leqFlightS (HFF.out.q2.keep ii) (HMF.out.q2.keep ii)) ?_
 intro y6
 go_wp2_with (first|(refine stepLoad rfl _ _ rfl (w.heap.size) 16 rfl (row:=(cGround x.Ground A.a3 A.c3 A.a4 A.c4 A.a5 A.c5 A.a6 A.c6 A.a7 A.c7 A.a8 A.c8)) (HB.out.to ii) _ Tryz.underlying76 rfl kr kr ?_)|(refine stepLoad rfl _ _ rfl (w.heap.size+1) 16 rfl (row:=(cGround x.Ground mA.a3 mA.c3 mA.a4 mA.c4 mA.a5 mA.c5 mA.a6 mA.c6 mA.a7 mA.c7 mA.a8 mA.c8)) (HC.out.to ii) _ Tryz.underlying76 rfl kr kr ?_))
 refine gm (d_leqGround (x:=x.Ground) ⟨⟨A.a3,A.c3,A.a4,A.c4,A.a5,A.c5,A.a6,A.c6,A.a7,A.c7,A.a8,A.c8⟩,rfl,⟨HFF.out.q3.keep ii,HFF.out.q4.keep ii,HFF.out.q5.keep ii,HFF.out.q6.keep ii,HFF.out.q7.keep ii,HFF.out.q8.keep ii,HOK.out.2.2.2.2.2.2.1⟩⟩ ⟨⟨mA.a3,mA.c3,mA.a4,mA.c4,mA.a5,mA.c5,mA.a6,mA.c6,mA.a7,mA.c7,mA.a8,mA.c8⟩,rfl,⟨HMF.out.q3.keep ii,HMF.out.q4.keep ii,HMF.out.q5.keep ii,HMF.out.q6.keep ii,HMF.out.q7.keep ii,HMF.out.q8.keep ii,HOK.out.2.2.2.2.2.2.1⟩⟩) ?_
 intro y7
 go_wp2_with (first|(refine stepLoad rfl _ _ rfl (w.heap.size) 33 rfl (row:=(cSpace x.Space A.a9 A.c9 A.a10 A.c10 A.a11 A.c11 A.a12 A.c12 A.a13 A.c13 A.a14 A.c14 A.a15 A.c15 A.a16 A.c16 A.a17 A.c17 A.a18 A.c18 A.a19 A.c19)) (HB.out.to ii) _ Tryz.underlying88 rfl kr kr ?_)|(refine stepLoad rfl _ _ rfl (w.heap.size+1) 33 rfl (row:=(cSpace x.Space mA.a9 mA.c9 mA.a10 mA.c10 mA.a11 mA.c11 mA.a12 mA.c12 mA.a13 mA.c13 mA.a14 mA.c14 mA.a15 mA.c15 mA.a16 mA.c16 mA.a17 mA.c17 mA.a18 mA.c18 mA.a19 mA.c19)) (HC.out.to ii) _ Tryz.underlying88 rfl kr kr ?_))
 refine gm (d_leqSpace (x:=x.Space) ⟨⟨A.a9,A.c9,A.a10,A.c10,A.a11,A.c11,A.a12,A.c12,A.a13,A.c13,A.a14,A.c14,A.a15,A.c15,A.a16,A.c16,A.a17,A.c17,A.a18,A.c18,A.a19,A.c19⟩,rfl,⟨HFF.out.q9.keep ii,HFF.out.q10.keep ii,HFF.out.q11.keep ii,HFF.out.q12.keep ii,HFF.out.q13.keep ii,HFF.out.q14.keep ii,HFF.out.q15.keep ii,HFF.out.q16.keep ii,HFF.out.q17.keep ii,HFF.out.q18.keep ii,HFF.out.q19.keep ii,HOK.out.2.2.2.2.2.2.2.1⟩⟩ ⟨⟨mA.a9,mA.c9,mA.a10,mA.c10,mA.a11,mA.c11,mA.a12,mA.c12,mA.a13,mA.c13,mA.a14,mA.c14,mA.a15,mA.c15,mA.a16,mA.c16,mA.a17,mA.c17,mA.a18,mA.c18,mA.a19,mA.c19⟩,rfl,⟨HMF.out.q9.keep ii,HMF.out.q10.keep ii,HMF.out.q11.keep ii,HMF.out.q12.keep ii,HMF.out.q13.keep ii,HMF.out.q14.keep ii,HMF.out.q15.keep ii,HMF.out.q16.keep ii,HMF.out.q17.keep ii,HMF.out.q18.keep ii,HMF.out.q19.keep ii,HOK.out.2.2.2.2.2.2.2.1⟩⟩) ?_
 intro y8
 go_wp2_with (fail)
 refine gm (d_leqStringS (HFF.out.q20.keep ii) (HMF.out.q20.keep ii)) ?_
 intro y9
 go_wp2_with (fail)
 refine gm (d_leqStringS (HFF.out.q21.keep ii) (HMF.out.q21.keep ii)) ?_
 intro y10
 go_wp2_with (fail)
 go_ret
 exact Gives.mk rfl
def shortAll(p:List ByteArray):Bool:=p.all (fun s=>decide (s.size≤24))
def fileInOk(f z k:Int)(p:List ByteArray):Bool:=inB f 0 7 && (inB z (-1) 600 && (inB k (-1) 65535 && (((z == -1) == (k == -1)) && (decide (p.length=25) && shortAll p))))
theorem c_iFileInOk{a:Option Addr}{n c:Nat}{f z k:Int}{p:List ByteArray}{w:World}(hs:Sl encStr w a p)(hn:p.length=n)(hm:n≤4611686018427387904)(hsz:∀ s∈p,s.size≤100000000) :
  Calls Tryz.prog 216 #[.agg #[.int .i64 f,.int .i64 z,.int .i64 k,.slice a n c]] w (Gives w (.bool (fileInOk f z k p))):=by
 have HS:=lH hsz;clear hsz
 have HF:=lH (show fileInOk f z k p=(inB f 0 7 && (inB z (-1) 600 && (inB k (-1) 65535 && (((z == -1) == (k == -1)) && (decide (n=25) && shortAll p)))))by rw[fileInOk,hn])
 cases c1:inB f 0 7
 ·go_enter Tryz.func216,Tryz.ntmps216
  go_wp2_with (first|(go_at_call 120;refine gm (c_ibetween) ?_;intro x))
  go_ret
  exact Gives.mk (by rw[HF.out,c1];rfl)
 cases c2:inB z (-1) 600
 ·go_enter Tryz.func216,Tryz.ntmps216
  go_wp2_with (first|(go_at_call 120;refine gm (c_ibetween) ?_;intro x))
  go_ret
  exact Gives.mk (by rw[HF.out,c1,c2];rfl)
 cases c3:inB k (-1) 65535
 ·go_enter Tryz.func216,Tryz.ntmps216
  go_wp2_with (first|(go_at_call 120;refine gm (c_ibetween) ?_;intro x))
  go_ret
  exact Gives.mk (by rw[HF.out,c1,c2,c3];rfl)
 cases c4:((z == -1) == (k == -1))
 ·have c5:((z == -1) != (k == -1))=true:=by rw[bne,c4];rfl
  go_enter Tryz.func216,Tryz.ntmps216
  go_wp2_with (first|(go_at_call 120;refine gm (c_ibetween) ?_;intro x))
  go_ret
  exact Gives.mk (by rw[HF.out,c1,c2,c3,c4];rfl)
 have c5:((z == -1) != (k == -1))=false:=by rw[bne,c4];rfl
 have HF2:=lH (show fileInOk f z k p=(decide (n=25) && shortAll p)by rw[HF.out,c1,c2,c3,c4];rfl)
 clear HF
 by_cases h6:n=25
 ·have c6:((n:Int) != 25)=false:=by simp;omega
  have HF3:=lH (show fileInOk f z k p=shortAll p by rw[HF2.out,h6];rfl)
  clear HF2 h6
  go_enter Tryz.func216,Tryz.ntmps216
  go_wp2_with (first|(go_at_call 120;refine gm (c_ibetween) ?_;intro x))
  go_loopw [37] (fun v wr=>∃ k:Nat,v=.int .i64 k∧k≤n∧Hid (shortAll (p.drop k)=shortAll p)∧∃ x:Later w,wr=x.w) (fun v _=>(n - intOf v).toNat)
  case atStart=>exact⟨0,rfl,by omega,rfl,Later.of⟩
  case round =>
   obtain⟨k,rfl,hk,hf,x,rfl⟩:=hrel
   by_cases h:k<n
   ·obtain⟨b,off,s,rfl,hb,hd,h0⟩:=hs.str (show k<p.length by omega)
    have hsm:s.size≤100000000:=HS.out s (List.mem_of_mem_drop (by rw[hd.out];exact List.mem_cons_self ..))
    by_cases h7:24<s.size
    ·go_wp2_with (fail)
     go_ret
     exact Gives.mk (by have:=hf.out;rw[hd.out,shortAll,List.all_cons,decide_eq_false (by omega)]at this;rw[HF3.out,← this];rfl)
    ·go_wp2_with (fail)
     go_roundw
     case rel=>exact⟨k+1,by go_num,by omega,by have:=hf.out;rw[hd.out,shortAll,List.all_cons,decide_eq_true (by omega)]at this;exact this,Later.of⟩
     case measure=>simp[intOf];omega
   ·go_wp2_with (fail)
    go_ret
    exact Gives.mk (by have:=hf.out;rw[List.drop_of_length_le (by omega)]at this;rw[HF3.out,← this];rfl)
 ·have c6:((n:Int) != 25)=true:=by simp;omega
  have HF3:=lH (show fileInOk f z k p=false by rw[HF2.out,decide_eq_false h6];rfl)
  clear HF2 h6
  go_enter Tryz.func216,Tryz.ntmps216
  go_wp2_with (first|(go_at_call 120;refine gm (c_ibetween) ?_;intro x))
  go_ret
  exact Gives.mk (by rw[HF3.out];rfl)
theorem c_sFileInOk{a:Option Addr}{n c:Nat}{f z k:Int}{p:List ByteArray}{w:World}(hs:Sl encStr w a p)(hn:p.length=n)(hm:n≤4611686018427387904)(hsz:∀ s∈p,s.size≤100000000) :
  Calls Tryz.prog 188 #[.agg #[.int .i64 f,.int .i64 z,.int .i64 k,.slice a n c]] w (Gives w (.bool (fileInOk f z k p))):=by
 have HS:=lH hsz;clear hsz
 have HF:=lH (show fileInOk f z k p=(inB f 0 7 && (inB z (-1) 600 && (inB k (-1) 65535 && (((z == -1) == (k == -1)) && (decide (n=25) && shortAll p)))))by rw[fileInOk,hn])
 go_enter Tryz.func188,Tryz.ntmps188
 go_wp2_with (fail)
 go_loopw [3] (fun v wr=>∃ j:Nat,v=.int .i64 j∧j≤n∧Hid (shortAll (p.drop j)=shortAll p)∧∃ x:Later (w.alloc (.cells #[.int .i64 f,.int .i64 z,.int .i64 k,.slice a n c] 154)),wr=x.w) (fun v _=>(n - intOf v).toNat)
 case atStart=>exact⟨0,rfl,by omega,rfl,Later.of⟩
 case round =>
  obtain⟨j,rfl,hk,hf,x,rfl⟩:=hrel
  by_cases h:j<n
  ·obtain⟨b,off,s,rfl,hb,hd,h0⟩:=hs.str (show j<p.length by omega)
   have hsm:s.size≤100000000:=HS.out s (List.mem_of_mem_drop (by rw[hd.out];exact List.mem_cons_self ..))
   by_cases h7:24<s.size
   ·go_wp2_with (fail)
    go_ret
    exact Gives.mk (by have:=hf.out;rw[hd.out,shortAll,List.all_cons,decide_eq_false (by omega)]at this;rw[HF.out,← this];simp)
   ·go_wp2_with (fail)
    go_roundw
    case rel=>exact⟨j+1,by go_num,by omega,by have:=hf.out;rw[hd.out,shortAll,List.all_cons,decide_eq_true (by omega)]at this;exact this,Later.of⟩
    case measure=>simp[intOf];omega
  ·have hf':=hf.out
   rw[List.drop_of_length_le (by omega)]at hf'
   have HA:=lH (show shortAll p=true from hf'.symm);clear hf hf'
   cases c1:inB f 0 7
   ·go_wp2_with (first|(go_at_call 82;refine gm (c_sl01In) ?_;intro x))
    go_ret
    exact Gives.mk (by rw[HF.out,c1];rfl)
   cases c2:inB z (-1) 600
   ·go_wp2_with (first|(go_at_call 82;refine gm (c_sl01In) ?_;intro x))
    go_ret
    exact Gives.mk (by rw[HF.out,c1,c2];rfl)
   cases c3:inB k (-1) 65535
   ·go_wp2_with (first|(go_at_call 82;refine gm (c_sl01In) ?_;intro x))
    go_ret
    exact Gives.mk (by rw[HF.out,c1,c2,c3];rfl)
   cases c4:((z == -1) == (k == -1))
   ·go_wp2_with (first|(go_at_call 82;refine gm (c_sl01In) ?_;intro x))
    go_ret
    exact Gives.mk (by rw[HF.out,c1,c2,c3,c4];rfl)
   by_cases h6:n=25
   ·have c6:((n:Int) == 25)=true:=by simp;omega
    have HF3:=lH (show fileInOk f z k p=true by rw[HF.out,c1,c2,c3,c4,h6,HA.out];rfl)
    clear HF h6 HA
    go_wp2_with (first|(go_at_call 82;refine gm (c_sl01In) ?_;intro x))
    go_ret
    exact Gives.mk (by rw[HF3.out];rfl)
   ·have c6:((n:Int) == 25)=false:=by simp;omega
    have HF3:=lH (show fileInOk f z k p=false by rw[HF.out,c1,c2,c3,c4,decide_eq_false h6];rfl)
    clear HF h6 HA
    go_wp2_with (first|(go_at_call 82;refine gm (c_sl01In) ?_;intro x))
    go_ret
    exact Gives.mk (by rw[HF3.out];rfl)
def nib(n:Int):Int:=([0,135,153,30,170,45,51,180,75,204,210,85,225,102,120,255]:List Int).getD n.toNat 0
def encB(l:List Int):List Int:=l.flatMap fun b=>[nib (b / 16),nib (b % 16)]
theorem encB_len:∀ l:List Int,(encB l).length=2*l.length
 | []=>rfl
 | b::l=>by have:=encB_len l;simp only[encB,List.flatMap_cons,List.length_append,List.length_cons,List.length_nil]at this ⊢;omega
theorem nib_bd{n:Int}(h0:0≤n)(h1:n≤15):0≤nib n∧nib n≤255:=by
 obtain⟨k,rfl⟩:∃ k:Nat,n=k:=⟨n.toNat,by omega⟩
 have:∀ k:Fin 16,0≤nib ((k.1:Nat):Int)∧nib ((k.1:Nat):Int)≤255:=by decide
 exact this ⟨k,by omega⟩
def ones(n:Int):Int:=n % 2+n / 2 % 2+n / 4 % 2+n / 8 % 2+n / 16 % 2+n / 32 % 2+n / 64 % 2+n / 128 % 2
theorem ones_half{n:Int}(h0:0≤n)(h1:n≤255):ones n=n % 2+ones (n / 2):=by unfold ones;omega
def up1(f:Int→Int→Int)(D:List Int)(q:Nat × Int):List Int:=D.set q.1 (f (D.getD q.1 0) q.2)
theorem up1_len(f:Int→Int→Int)(D:List Int)(q:Nat × Int):(up1 f D q).length=D.length:=by simp[up1]
theorem ups_len(f:Int→Int→Int):∀ (q:List (Nat × Int)) (D:List Int),(q.foldl (up1 f) D).length=D.length
 | [],_=>rfl
 | x::q,D=>by rw[List.foldl_cons,ups_len f q,up1_len]
theorem up1_comm{f:Int→Int→Int}(hf:∀ a x y,f (f a x) y=f (f a y) x)(D:List Int)(p q:Nat × Int):up1 f (up1 f D p) q=up1 f (up1 f D q) p:=by
 obtain⟨i,x⟩:=p
 obtain⟨j,y⟩:=q
 simp only[up1]
 by_cases h:i=j
 ·subst h
  by_cases hi:i<D.length
  ·simp[List.getD,hi,hf]
  ·simp[List.set_eq_of_length_le (Nat.le_of_not_lt hi)]
 ·rw[List.set_comm _ _ h]
  simp[List.getD,h,Ne.symm h]
theorem rows_perm{f:Int→Int→Int}(hf:∀ a x y,f (f a x) y=f (f a y) x){p q:List (Nat × Int)}(h:p.Perm q)(D:List Int):p.foldl (up1 f) D=q.foldl (up1 f) D :=
 h.foldl_eq' (fun x _ y _ D=>up1_comm hf D x y) D
def spr1(l:List Int)(m k:Nat):Nat × Int:=((k*l.length+m) / 8,IntKind.u8.wrap (l.getD m 0 / 2 ^ k % 2*2 ^ ((k*l.length+m) % 8)))
def orU(a b:Int):Int:=bits .or .u8 a b
def xorU(a b:Int):Int:=bits .xor .u8 a b
theorem orU_comm(a x y:Int):orU (orU a x) y=orU (orU a y) x:=by
 have hw:∀ z:BitVec 8,BitVec.ofInt 8 (IntKind.u8.wrap (z.toNat:Int))=z:=fun z=>by
  apply BitVec.eq_of_toNat_eq
  rw[BitVec.toNat_ofInt]
  have:=z.isLt
  simp[IntKind.wrap,IntKind.bits,IntKind.signed]
  omega
 have h:∀ a b:Int,orU a b=IntKind.u8.wrap ((BitVec.ofInt 8 a ||| BitVec.ofInt 8 b).toNat:Int):=fun a b=>rfl
 rw[h (orU a x),h a x,hw,h (orU a y),h a y,hw,BitVec.or_assoc,BitVec.or_assoc,BitVec.or_comm (BitVec.ofInt 8 x)]
def prow(l:List Int)(m k n:Nat):List (Nat × Int):=(List.range' k n).map (spr1 l m)
def prows(l:List Int)(m n:Nat):List (Nat × Int):=(List.range' m n).flatMap fun m=>prow l m 0 8
def pcol(l:List Int)(k m n:Nat):List (Nat × Int):=(List.range' m n).map fun m=>spr1 l m k
def pcols(l:List Int)(k n:Nat):List (Nat × Int):=(List.range' k n).flatMap fun k=>pcol l k 0 l.length
theorem flatMap_swap{α β γ:Type}(f:α→β→γ):∀ (x:List α) (y:List β),(x.flatMap fun a=>y.map (f a)).Perm (y.flatMap fun b=>x.map fun a=>f a b)
 | [],y=>by
  have:(y.flatMap fun b=>([]:List α).map fun a=>f a b)=[]:=by induction y<;>simp_all
  rw[this];exact .nil
 | a::x,y=>by
  rw[List.flatMap_cons]
  refine(List.Perm.append_left _ (flatMap_swap f x y)).trans ?_
  induction y with
  | nil=>exact .nil
  | cons b y ih =>
   simp only[List.map_cons,List.flatMap_cons,List.cons_append]
   refine .cons _ ?_
   refine List.Perm.trans ?_ (List.Perm.append_left _ ih)
   rw[← List.append_assoc,← List.append_assoc]
   exact List.Perm.append_right _ List.perm_append_comm
theorem pairs_perm(l:List Int):(prows l 0 l.length).Perm (pcols l 0 8):=by
 have:=flatMap_swap (fun m k=>spr1 l m k) (List.range' 0 l.length) (List.range' 0 8)
 exact this
@[irreducible] def spread(l:List Int):List Int:=(prows l 0 l.length).foldl (up1 orU) (List.replicate l.length 0)
theorem spread_rows(l:List Int):(prows l 0 l.length).foldl (up1 orU) (List.replicate l.length 0)=spread l:=by unfold spread;rfl
theorem spread_cols(l:List Int):(pcols l 0 8).foldl (up1 orU) (List.replicate l.length 0)=spread l:=by
 rw[← spread_rows,rows_perm orU_comm (pairs_perm l)]
theorem prows_step(l:List Int){m n:Nat}(h:m<n):prows l m (n - m)=prow l m 0 8++prows l (m+1) (n - (m+1)):=by
 rw[prows,show n - m=n - (m+1)+1 by omega,List.range'_succ,List.flatMap_cons];rfl
theorem prow_step(l:List Int)(m:Nat){k:Nat}(h:k<8):prow l m k (8 - k)=spr1 l m k::prow l m (k+1) (8 - (k+1)):=by
 rw[prow,show 8 - k=8 - (k+1)+1 by omega,List.range'_succ,List.map_cons];rfl
theorem pcols_step(l:List Int){k:Nat}(h:k<8):pcols l k (8 - k)=pcol l k 0 l.length++pcols l (k+1) (8 - (k+1)):=by
 rw[pcols,show 8 - k=8 - (k+1)+1 by omega,List.range'_succ,List.flatMap_cons];rfl
theorem pcol_step(l:List Int)(k:Nat){m n:Nat}(h:m<n):pcol l k m (n - m)=spr1 l m k::pcol l k (m+1) (n - (m+1)):=by
 rw[pcol,show n - m=n - (m+1)+1 by omega,List.range'_succ,List.map_cons];rfl
def lfsr(x:Int):Int:=2*x % 256+(x / 128+x / 16+x / 4+x) % 2
def scr:Int→List Int→List Int
 | _,[]=>[]
 | x,b::l=>xorU b x::scr (lfsr x) l
theorem lfsr_bd{x:Int}(h0:0≤x):0≤lfsr x∧lfsr x≤255:=by unfold lfsr;omega
theorem scr_len:∀ (l:List Int) (x:Int),(scr x l).length=l.length
 | [],_=>rfl
 | _::l,x=>by rw[scr,List.length_cons,scr_len l,List.length_cons]
def syncMark:ByteArray:=⟨#[26,207,252,29]⟩
@[irreducible] def blockOf(s:ByteArray):ByteArray:=syncMark++strOfNums (scr 255 (byteList (strOfNums (spread (byteList (strOfNums (encB (byteList s))))))))
theorem blockOf_eq(s:ByteArray):blockOf s=syncMark++strOfNums (scr 255 (byteList (strOfNums (spread (byteList (strOfNums (encB (byteList s)))))))):=by unfold blockOf;rfl
def makeBlock(s:ByteArray):ByteArray:=if s.size=0∨200<s.size then⟨#[]⟩else blockOf s
theorem spread_len(l:List Int):(spread l).length=l.length:=by rw[← spread_rows,ups_len];simp
theorem blockOf_size(s:ByteArray):(blockOf s).size=4+2*s.size:=by
 unfold blockOf
 rw[ByteArray.size_append,strOfNums_size,scr_len,byteList_len,strOfNums_size,spread_len,byteList_len,strOfNums_size,encB_len,byteList_len];rfl
def nextR(s:Int):Int:=(s*25173+13849) % 65536
def rndB(s n:Int):Int:=nextR s / 16 % n
theorem nextR_bd(s:Int):0≤nextR s∧nextR s≤65535:=by unfold nextR;omega
def flips(p:Nat):Nat→List (Nat × Int)
 | 0=>[]
 | k+1=>(p / 8,IntKind.u8.wrap (1*2 ^ (p % 8)))::flips (p+1) k
def burstOf(s:Int)(l:List Int):List Int:=(flips (rndB s (7*l.length+1)).toNat ((rndB (nextR s) l.length).toNat+1)).foldl (up1 xorU) l
def burst(s:Int)(t:ByteArray):Int × ByteArray:=if inB s 0 65535 && inB t.size 1 400 then(nextR (nextR s),strOfNums (burstOf s (byteList t)))else(s,t)
theorem burstOf_len(s:Int)(l:List Int):(burstOf s l).length=l.length:=ups_len _ _ _
theorem burst_size(s:Int)(t:ByteArray):(burst s t).2.size=t.size:=by
 unfold burst
 split
 ·rw[strOfNums_size,burstOf_len,byteList_len]
 ·rfl
theorem burst_is{z0:Int}{s:ByteArray}{n:Nat}(h0:0≤z0)(h1:z0≤65535)(hn:s.size=n)(h2:1≤n)(h3:n≤400):∃ f m:Nat,f≤7*n∧m<n∧Hid (rndB z0 (7*n+1)=f)∧Hid (rndB (nextR z0) n=m)∧Hid (burst z0 s=(nextR (nextR z0),strOfNums ((flips f (m+1)).foldl (up1 xorU) (byteList s)))):=by
 have a0:=Int.emod_nonneg (nextR z0 / 16) (show(7*n+1:Int)≠0 by omega)
 have a1:=Int.emod_lt_of_pos (nextR z0 / 16) (show(0:Int)<7*n+1 by omega)
 have b0:=Int.emod_nonneg (nextR (nextR z0) / 16) (show(n:Int)≠0 by omega)
 have b1:=Int.emod_lt_of_pos (nextR (nextR z0) / 16) (show(0:Int)<n by omega)
 obtain⟨f,hf⟩:∃ f:Nat,rndB z0 (7*n+1)=f:=⟨(rndB z0 (7*n+1)).toNat,by unfold rndB;omega⟩
 obtain⟨m,hm⟩:∃ m:Nat,rndB (nextR z0) n=m:=⟨(rndB (nextR z0) n).toNat,by unfold rndB;omega⟩
 refine⟨f,m,by unfold rndB at hf;omega,by unfold rndB at hm;omega,hf,hm,?_⟩
 show burst z0 s=_
 rw[burst,if_pos (by rw[inB_iff.2 ⟨h0,h1⟩,inB_iff.2 (by omega)];rfl),burstOf,byteList_len,hn,hf,hm]
 rfl
theorem size_zero{s:ByteArray}(h:s.size=0):s=⟨#[]⟩:=by
 obtain⟨a⟩:=s
 simp only[ByteArray.size]at h
 rw[Array.eq_empty_of_size_eq_zero h]
theorem nonempty_ne{s:ByteArray}(h:¬ s.size=0):s.toList.isEmpty=false:=by
 rw[ByteArray.toList_eq]
 cases e:s.data.toList with
 | nil=>exact absurd (show s.size=0 by rw[ByteArray.size,← Array.length_toList,e];rfl) h
 | cons=>rfl
def sendBlock(c:TChannel)(s:ByteArray):TChannel × ByteArray :=
 if channelOk c && decide (4≤s.size)then
  if rndB c.Seed 100<c.Loss then(⟨nextR c.Seed,c.Burst,c.Loss⟩,⟨#[]⟩)
  else if rndB (nextR c.Seed) 100<c.Burst then(⟨(burst (nextR (nextR c.Seed)) (s.extract 4 s.size)).1,c.Burst,c.Loss⟩,s.extract 0 4++(burst (nextR (nextR c.Seed)) (s.extract 4 s.size)).2)
  else(⟨nextR (nextR c.Seed),c.Burst,c.Loss⟩,s)
 else(c,s)
theorem channelOk_seed{c:TChannel}(h:channelOk c=true):0≤c.Seed∧c.Seed≤65535:=by
 simp only[channelOk,Bool.and_eq_true]at h
 exact inB_iff.1 h.1
def sendFlight(c:TChannel)(l:List TFlight)(s:ByteArray)(t:Int):TChannel × List TFlight :=
 ((sendBlock c s).1,if (sendBlock c s).2.size=0 then l else l++[⟨t,(sendBlock c s).2⟩])
def sealText(s:ByteArray):ByteArray:=s++word2 (checkOf s)
theorem sealText_size(s:ByteArray):(sealText s).size=s.size+2:=by rw[sealText,ByteArray.size_append];rfl
def encCmd(kind seq:Int)(s:ByteArray):ByteArray:=sealText (word1 kind++word1 seq++s)
theorem encCmd_size(kind seq:Int)(s:ByteArray):(encCmd kind seq s).size=s.size+4:=by
 rw[encCmd,sealText_size,ByteArray.size_append,ByteArray.size_append]
 show 1+1+s.size+2=_
 omega
theorem makeBlock_size(s:ByteArray)(h:s.size≤200):(makeBlock s).size=0∨5≤(makeBlock s).size∧(makeBlock s).size≤404:=by
 unfold makeBlock
 split
 ·exact .inl rfl
 ·rename_i h2
  refine .inr ?_
  rw[blockOf_size]
  omega
/-! ### What is missing -/
def flightOk(x:TFlight):Bool:=inB x.At 0 1000050 && inB x.Data.size 1 404
def flightsOk(l:List TFlight):Bool:=decide (l.length≤1000) && l.all flightOk
def recordsOk(l:List TRecord):Bool:=decide (l.length≤5000) && l.all recordOk
theorem k_iflightsOk{B:Nat}{a:Option Addr}{c:Nat}{l:List TFlight}{w:World}(hs:RdS B w a c l)(hm:l.length≤100000000) :
  Calls Tryz.prog 124 #[.slice a l.length c] w (Gives w (.bool (flightsOk l))):=by
 obtain⟨n,hn⟩:∃ n,l.length=n:=⟨_,rfl⟩
 have HN:=lH hn
 have HD:=lH (show flightsOk l=(decide (n≤1000) && l.all flightOk)by rw[flightsOk,hn])
 rw[hn]at hm ⊢
 clear hn
 by_cases hmx:n≤1000
 ·go_enter Tryz.func124,Tryz.ntmps124
  go_wp2_with fail
  go_loopw [10] (fun v wr=>∃ k:Nat,v=.int .i64 k∧k≤n∧Hid ((l.drop k).all flightOk=l.all flightOk)∧∃ x:Later w,wr=x.w) (fun v _=>(n - intOf v).toNat)
  case atStart=>exact⟨0,rfl,by omega,rfl,Later.of⟩
  case round =>
   obtain⟨k,rfl,hk,HV,x,rfl⟩:=hrel
   by_cases h:k<n
   ·have hkl:k<l.length:=by have:=HN.out;omega
    obtain⟨eb,eoff,ex,rfl,ehb,ehd,eok,eh0,eh1⟩:=hs.atTFlight hkl
    have hz:ex.Data.size≤9223372036854775807:=eok.2.1
    have EOK:=lH eok;clear eok hkl
    cases hg:flightOk ex
    ·have HF:=lH (show l.all flightOk=false by have:=HV.out;rw[ehd.out,List.all_cons,hg]at this;rw[← this];rfl)
     cases c1:inB ex.At 0 1000050
     ·clear hg
      go_wp2_with (first|(go_at_call 120;refine gm (c_ibetween) ?_;intro x))
      go_ret
      exact Gives.mk (by rw[HD.out,HF.out,Bool.and_false];rfl)
     ·have c2:inB ex.Data.size 1 404=false:=by rw[flightOk,c1]at hg;exact hg
      clear hg
      go_wp2_with (first|(go_at_call 120;refine gm (c_ibetween) ?_;intro x))
      go_ret
      exact Gives.mk (by rw[HD.out,HF.out,Bool.and_false];rfl)
    ·have HF:=lH (show(l.drop (k+1)).all flightOk=l.all flightOk by have:=HV.out;rw[ehd.out,List.all_cons,hg,Bool.true_and]at this;exact this)
     have c1:inB ex.At 0 1000050=true:=by simp only[flightOk,Bool.and_eq_true]at hg;exact hg.1
     have c2:inB ex.Data.size 1 404=true:=by simp only[flightOk,Bool.and_eq_true]at hg;exact hg.2
     clear hg
     go_wp2_with (first|(go_at_call 120;refine gm (c_ibetween) ?_;intro x))
     go_roundw
     case rel=>exact⟨k+1,by go_num,by omega,HF,Later.of⟩
     case measure=>simp[intOf];omega
   ·have HF:=lH (show l.all flightOk=true by have:=HV.out;rw[List.drop_of_length_le (by have:=HN.out;omega)]at this;rw[← this];rfl)
    go_wp2_with fail
    go_ret
    exact Gives.mk (by rw[HD.out,HF.out,decide_eq_true hmx];rfl)
 ·go_enter Tryz.func124,Tryz.ntmps124
  go_wp2_with fail
  go_ret
  exact Gives.mk (by rw[HD.out,decide_eq_false hmx];rfl)
theorem k_irecordsOk{B:Nat}{a:Option Addr}{c:Nat}{l:List TRecord}{w:World}(hs:RdS B w a c l)(hm:l.length≤100000000) :
  Calls Tryz.prog 215 #[.slice a l.length c] w (Gives w (.bool (recordsOk l))):=by
 obtain⟨n,hn⟩:∃ n,l.length=n:=⟨_,rfl⟩
 have HN:=lH hn
 have HD:=lH (show recordsOk l=(decide (n≤5000) && l.all recordOk)by rw[recordsOk,hn])
 rw[hn]at hm ⊢
 clear hn
 by_cases hmx:n≤5000
 ·go_enter Tryz.func215,Tryz.ntmps215
  go_wp2_with fail
  go_loopw [10] (fun v wr=>∃ k:Nat,v=.int .i64 k∧k≤n∧Hid ((l.drop k).all recordOk=l.all recordOk)∧∃ x:Later w,wr=x.w) (fun v _=>(n - intOf v).toNat)
  case atStart=>exact⟨0,rfl,by omega,rfl,Later.of⟩
  case round =>
   obtain⟨k,rfl,hk,HV,x,rfl⟩:=hrel
   by_cases h:k<n
   ·have hkl:k<l.length:=by have:=HN.out;omega
    obtain⟨eb,eoff,ex,rfl,ehb,ehd,eok,eh0,eh1,eh2,eh3⟩:=hs.atTRecord hkl
    have hz:ex.Data.size≤9223372036854775807:=eok.2.2.2.1
    have EOK:=lH eok;clear eok hkl
    cases hg:recordOk ex
    ·have HF:=lH (show l.all recordOk=false by have:=HV.out;rw[ehd.out,List.all_cons,hg]at this;rw[← this];rfl)
     go_wp2_with (first|(go_at_call 267;refine gm (k_iRecordOk (by omega)) ?_;intro x))
     go_ret
     exact Gives.mk (by rw[HD.out,HF.out,Bool.and_false];rfl)
    ·have HF:=lH (show(l.drop (k+1)).all recordOk=l.all recordOk by have:=HV.out;rw[ehd.out,List.all_cons,hg,Bool.true_and]at this;exact this)
     go_wp2_with (first|(go_at_call 267;refine gm (k_iRecordOk (by omega)) ?_;intro x))
     go_roundw
     case rel=>exact⟨k+1,by go_num,by omega,HF,Later.of⟩
     case measure=>simp[intOf];omega
   ·have HF:=lH (show l.all recordOk=true by have:=HV.out;rw[List.drop_of_length_le (by have:=HN.out;omega)]at this;rw[← this];rfl)
    go_wp2_with fail
    go_ret
    exact Gives.mk (by rw[HD.out,HF.out,decide_eq_true hmx];rfl)
 ·go_enter Tryz.func215,Tryz.ntmps215
  go_wp2_with fail
  go_ret
  exact Gives.mk (by rw[HD.out,decide_eq_false hmx];rfl)
theorem k_sflightsOk{B:Nat}{a:Option Addr}{c:Nat}{l:List TFlight}{w:World}(hs:RdS B w a c l)(hm:l.length≤100000000) :
  Calls Tryz.prog 86 #[.slice a l.length c] w (Gives w (.bool (flightsOk l))):=by
 obtain⟨n,hn⟩:∃ n,l.length=n:=⟨_,rfl⟩
 have HN:=lH hn
 have HD:=lH (show flightsOk l=(decide (n≤1000) && l.all flightOk)by rw[flightsOk,hn])
 rw[hn]at hm ⊢
 clear hn
 go_enter Tryz.func86,Tryz.ntmps86
 go_wp2_with fail
 go_loopw [3] (fun v wr=>∃ k:Nat,v=.int .i64 k∧k≤n∧Hid ((l.drop k).all flightOk=l.all flightOk)∧∃ x:Later w,wr=x.w) (fun v _=>(n - intOf v).toNat)
 case atStart=>exact⟨0,rfl,by omega,rfl,Later.of⟩
 case round =>
  obtain⟨k,rfl,hk,HV,x,rfl⟩:=hrel
  by_cases h:k<n
  ·have hkl:k<l.length:=by have:=HN.out;omega
   obtain⟨eb,eoff,ex,rfl,ehb,ehd,eok,eh0,eh1⟩:=hs.atTFlight hkl
   have hz:ex.Data.size≤9223372036854775807:=eok.2.1
   have EOK:=lH eok;clear eok hkl
   cases hg:flightOk ex
   ·have HF:=lH (show l.all flightOk=false by have:=HV.out;rw[ehd.out,List.all_cons,hg]at this;rw[← this];rfl)
    cases c1:inB ex.At 0 1000050
    ·clear hg
     go_wp2_with (first|(go_at_call 82;refine gm (c_sl01In) ?_;intro x))
     go_ret
     exact Gives.mk (by rw[HD.out,HF.out,Bool.and_false];rfl)
    ·have c2:inB ex.Data.size 1 404=false:=by rw[flightOk,c1]at hg;exact hg
     clear hg
     go_wp2_with (first|(go_at_call 82;refine gm (c_sl01In) ?_;intro x))
     go_ret
     exact Gives.mk (by rw[HD.out,HF.out,Bool.and_false];rfl)
   ·have HF:=lH (show(l.drop (k+1)).all flightOk=l.all flightOk by have:=HV.out;rw[ehd.out,List.all_cons,hg,Bool.true_and]at this;exact this)
    have c1:inB ex.At 0 1000050=true:=by simp only[flightOk,Bool.and_eq_true]at hg;exact hg.1
    have c2:inB ex.Data.size 1 404=true:=by simp only[flightOk,Bool.and_eq_true]at hg;exact hg.2
    clear hg
    go_wp2_with (first|(go_at_call 82;refine gm (c_sl01In) ?_;intro x))
    go_roundw
    case rel=>exact⟨k+1,by go_num,by omega,HF,Later.of⟩
    case measure=>simp[intOf];omega
  ·have HF:=lH (show l.all flightOk=true by have:=HV.out;rw[List.drop_of_length_le (by have:=HN.out;omega)]at this;rw[← this];rfl)
   by_cases hmx:n≤1000
   ·have kx:decide ((n:Int)≤1000)=true:=by simp;omega
    go_wp2_with fail
    go_ret
    exact Gives.mk (by rw[HD.out,HF.out,decide_eq_true hmx];rfl)
   ·have kx:decide ((n:Int)≤1000)=false:=by simp;omega
    go_wp2_with fail
    go_ret
    exact Gives.mk (by rw[HD.out,HF.out,decide_eq_false hmx];rfl)
theorem k_srecordsOk{B:Nat}{a:Option Addr}{c:Nat}{l:List TRecord}{w:World}(hs:RdS B w a c l)(hm:l.length≤100000000) :
  Calls Tryz.prog 187 #[.slice a l.length c] w (Gives w (.bool (recordsOk l))):=by
 obtain⟨n,hn⟩:∃ n,l.length=n:=⟨_,rfl⟩
 have HN:=lH hn
 have HD:=lH (show recordsOk l=(decide (n≤5000) && l.all recordOk)by rw[recordsOk,hn])
 rw[hn]at hm ⊢
 clear hn
 go_enter Tryz.func187,Tryz.ntmps187
 go_wp2_with fail
 go_loopw [3] (fun v wr=>∃ k:Nat,v=.int .i64 k∧k≤n∧Hid ((l.drop k).all recordOk=l.all recordOk)∧∃ x:Later w,wr=x.w) (fun v _=>(n - intOf v).toNat)
 case atStart=>exact⟨0,rfl,by omega,rfl,Later.of⟩
 case round =>
  obtain⟨k,rfl,hk,HV,x,rfl⟩:=hrel
  by_cases h:k<n
  ·have hkl:k<l.length:=by have:=HN.out;omega
   obtain⟨eb,eoff,ex,rfl,ehb,ehd,eok,eh0,eh1,eh2,eh3⟩:=hs.atTRecord hkl
   have hz:ex.Data.size≤9223372036854775807:=eok.2.2.2.1
   have EOK:=lH eok;clear eok hkl
   cases hg:recordOk ex
   ·have HF:=lH (show l.all recordOk=false by have:=HV.out;rw[ehd.out,List.all_cons,hg]at this;rw[← this];rfl)
    go_wp2_with (first|(go_at_call 260;refine gm (k_sRecordOk (by omega)) ?_;intro x))
    go_ret
    exact Gives.mk (by rw[HD.out,HF.out,Bool.and_false];rfl)
   ·have HF:=lH (show(l.drop (k+1)).all recordOk=l.all recordOk by have:=HV.out;rw[ehd.out,List.all_cons,hg,Bool.true_and]at this;exact this)
    go_wp2_with (first|(go_at_call 260;refine gm (k_sRecordOk (by omega)) ?_;intro x))
    go_roundw
    case rel=>exact⟨k+1,by go_num,by omega,HF,Later.of⟩
    case measure=>simp[intOf];omega
  ·have HF:=lH (show l.all recordOk=true by have:=HV.out;rw[List.drop_of_length_le (by have:=HN.out;omega)]at this;rw[← this];rfl)
   by_cases hmx:n≤5000
   ·have kx:decide ((n:Int)≤5000)=true:=by simp;omega
    go_wp2_with fail
    go_ret
    exact Gives.mk (by rw[HD.out,HF.out,decide_eq_true hmx];rfl)
   ·have kx:decide ((n:Int)≤5000)=false:=by simp;omega
    go_wp2_with fail
    go_ret
    exact Gives.mk (by rw[HD.out,HF.out,decide_eq_false hmx];rfl)
