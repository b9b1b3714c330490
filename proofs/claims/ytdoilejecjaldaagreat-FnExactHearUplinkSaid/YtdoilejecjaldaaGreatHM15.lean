/- The contracts of the mirrors, sizes and equalities of waiting orders. No condition but on sizes. -/
import Derived.Test.YtdoilejecjaldaaGreatHDF1
import Derived.Test.YtdoilejecjaldaaGreatHDPl
import Derived.Test.YtdoilejecjaldaaGreatHM6
import Derived.Test.YtdoilejecjaldaaGreatHMarkT
import Derived.Test.YtdoilejecjaldaaGreatHFileO
import Derived.Test.YtdoilejecjaldaaGreatHM0
import Derived.Test.YtdoilejecjaldaaGreatHHearM
import Derived.Test.YtdoilejecjaldaaGreatHOkF
import Derived.Laws.StructEq
import Derived.MapKept
import Derived.Maps.Own
import Derived.Deep.RegionHeld3
import Derived.Test.YtdoilejecjaldaaGreatHStab2
namespace Go.Proofs.YtdoilejecjaldaaGreat
set_option maxRecDepth 100000
set_option maxHeartbeats 2000000
set_option linter.unusedVariables false
open Go.ChangeShapes Go.WideShapes Go.ChangeAt Go.RowKit
theorem bn6{B:Nat}{vs:List Value}{x:A4}{w:World}(h:Enc.Rd B w vs x)(ht:Enc.tot x≤1048576) :
  Calls Tryz.prog 249 #[.agg vs.toArray] w (ah3 w x):=by
 obtain⟨rfl,hok⟩:=h
 clear ht
 have HOK:=lH hok;clear hok
 go_enter Tryz.func249,Tryz.ntmps249
 go_wp2_with fail
 refine(bD0 (B:=0) (x:=x.Order) ⟨rfl,HOK.out.2.1⟩ (show(0:Int)≤1048576 by omega)).mono ?_
 rintro _ _ ⟨_,rfl,⟨rfl,-⟩,y0,rfl⟩
 go_wp2_with fail
 refine bodyPost_ret (v:=.agg #[.int .i64 x.Number,.int .i64 x.Order.Kind,.int .i64 x.Order.At,.int .i64 x.Order.A,.int .i64 x.Order.B]) ?_ rfl ⟨[.int .i64 x.Number,.int .i64 x.Order.Kind,.int .i64 x.Order.At,.int .i64 x.Order.A,.int .i64 x.Order.B],rfl,⟨rfl,HOK.out⟩,b5.of⟩
 simp[results,Tryz.results249,go_sem]
theorem bn3{B B2:Nat}{vs vs2:List Value}{x:A4}{w:World}(h:Enc.Rd B w vs x)(h2:Enc.Rd B2 w vs2 x) :
  Calls Tryz.prog 262 #[.agg vs.toArray,.agg vs2.toArray] w (b4 w (.bool true)):=by
 obtain⟨rfl,hok⟩:=h
 obtain⟨rfl,-⟩:=h2
 have HOK:=lH hok;clear hok
 go_enter Tryz.func262,Tryz.ntmps262
 go_wp2_with fail
 refine gm (bB5 (B:=0) (B2:=0) (x:=x.Order) ⟨rfl,HOK.out.2.1⟩ ⟨rfl,HOK.out.2.1⟩) ?_
 intro y0
 go_wp2_with fail
 go_ret
 exact b4.mk rfl
theorem bg5{B:Nat}{a:Option Addr}{c:Nat}{l:List A4}{left:Int}{w:World}(hs:RdS B w a c l)(hl:0≤left)(hl2:left≤1048576) :
  Calls Tryz.prog 164 #[.slice a l.length c,.int .i64 left] w (b4 w (.int .i64 (szD left (d7 l)))):=by
 have hmx:=hs.max
 have hln:=d9 l
 obtain⟨n,hn⟩:∃ n,l.length=n:=⟨_,rfl⟩
 rw[hn]at hln hmx
 rw[hn]
 have HN:=lH hn;clear hn
 have htl:d7 l=n:=by rw[← HN.out];clear hs HN hmx hln;induction l with|nil=>rfl|cons x r ih=>simp only[d7,List.length_cons,ih];show 1+0+_=_;omega
 rw[htl];clear htl hln hs
 by_cases h:left - n<0
 ·rw[j8 h]
  go_enter Tryz.func164,Tryz.ntmps164
  go_wp2_with fail
  go_ret
  exact b4.mk rfl
 ·rw[B7 h]
  go_enter Tryz.func164,Tryz.ntmps164
  go_wp2_with fail
  go_ret
  exact b4.mk rfl
theorem bg1{B B2:Nat}{a a2:Option Addr}{c c2:Nat}{l:List A4}{w:World}(hs:RdS B w a c l)(hs2:RdS B2 w a2 c2 l) :
  Calls Tryz.prog 225 #[.slice a l.length c,.slice a2 l.length c2] w (b4 w (.bool true)):=by
 have hmx:=hs.max
 obtain⟨n,hn⟩:∃ n,l.length=n:=⟨_,rfl⟩
 rw[hn]at hmx
 rw[hn]
 have HN:=lH hn;clear hn
 have kn:((n:Int) != (n:Int))=false:=by simp
 go_enter Tryz.func225,Tryz.ntmps225
 go_wp2_with fail
 go_loopw [5] (fun v wr=>∃ k:Nat,v=.int .i64 k∧k≤n∧∃ x:b5 w,wr=x.w) (fun v _=>(n - intOf v).toNat)
 case atStart=>exact⟨0,rfl,by omega,b5.of⟩
 case round =>
  obtain⟨k,rfl,hk,x,rfl⟩:=hrel
  by_cases h:k<n
  ·have hlk:k<l.length:=by have:=HN.out;omega
   obtain⟨eb,eoff,ex,rfl,ehb,ehd,eok,eh0,eh1,eh2,eh3,eh4⟩:=hs.atTWaiting (show k<l.length by omega)
   obtain⟨fb,foff,fx,rfl,fhb,fhd,fok,fh0,fh1,fh2,fh3,fh4⟩:=hs2.atTWaiting (show k<l.length by omega)
   obtain rfl:ex=fx:=by have:=ehd.out.symm.trans fhd.out;simpa using this
   clear ehd fhd hlk hs hs2
   have ce:∀ {W:World} [d5 w W],Calls Tryz.prog 262 #[.agg #[.int .i64 ex.Number,.int .i64 ex.Order.Kind,.int .i64 ex.Order.At,.int .i64 ex.Order.A,.int .i64 ex.Order.B],.agg #[.int .i64 ex.Number,.int .i64 ex.Order.Kind,.int .i64 ex.Order.At,.int .i64 ex.Order.A,.int .i64 ex.Order.B]] W (b4 W (.bool true)):=fun {W} _=>bn3 (B:=0) (B2:=0) (x:=ex) ⟨rfl,eok⟩ ⟨rfl,fok⟩
   clear eok fok
   go_wp2_with (first|((with_reducible refine rl ?_);(repeat(first|go_big_quiet_step (first|(go_at_call 262;exact b4.quiet (ce)))));refine wpQuiet_nil ?_;intro x)|(go_at_call 262;refine gm (ce) ?_;intro x))
   go_roundw
   case rel=>exact⟨k+1,by go_num,by omega,b5.of⟩
   case measure=>simp[intOf];omega
  ·go_wp2_with fail
   go_ret
   exact b4.mk rfl
theorem bu5{B:Nat}{vs:List Value}{x:R5}{left:Int}{w:World}(h:Enc.Rd B w vs x)(hl:0≤left)(hl2:left≤1048576) :
  Calls Tryz.prog 66 #[.agg vs.toArray,.int .i64 left] w (b4 w (.int .i64 (szD left (Enc.tot x)))):=by
 obtain⟨a0,c0,rfl,q0,hok⟩:=h
 have n0:(0:Int)≤x.Rest.size:=by omega
 have z0:x.Rest.size≤9223372036854775807:=hok.2.2.1
 have n1:=b7 x.Starts
 have HOK:=lH hok;clear hok
 have htot:Enc.tot x=(x.Rest.size:Int)+d7 x.Starts:=rfl
 have HTOT:=lH htot;clear htot
 go_enter Tryz.func66,Tryz.ntmps66
 by_cases h0:left - (x.Rest.size:Int)<0
 ·have HV:=lH (show szD left (Enc.tot x)=-1 from j8 (by rw[HTOT.out];omega))
  go_wp2_with (fail)
  go_ret
  exact b4.mk (by rw[HV.out];rfl)
 go_wp2_with (fail)
 refine gm (aw2 (q0.keep ii) (by omega) (by omega)) ?_
 intro y1
 by_cases h1:left - (x.Rest.size:Int) - d7 x.Starts<0
 ·have HV:=lH (show szD left (Enc.tot x)=-1 from j8 (by rw[HTOT.out];omega))
  rw[j8 h1]
  go_wp2_with (fail)
  go_ret
  exact b4.mk (by rw[HV.out];rfl)
 rw[B7 h1]
 have HV:=lH (show szD left (Enc.tot x)=left - (x.Rest.size:Int) - d7 x.Starts by rw[B7 (by rw[HTOT.out];omega),HTOT.out]<;>omega)
 go_wp2_with (fail)
 go_ret
 exact b4.mk (by rw[HV.out];rfl)
theorem bt8{B B2:Nat}{vs vs2:List Value}{x:R5}{w:World}(h:Enc.Rd B w vs x)(h2:Enc.Rd B2 w vs2 x) :
  Calls Tryz.prog 140 #[.agg vs.toArray,.agg vs2.toArray] w (b4 w (.bool true)):=by
 obtain⟨a0,c0,rfl,q0,hok⟩:=h
 obtain⟨ma0,mc0,rfl,mq0,-⟩:=h2
 have HOK:=lH hok;clear hok
 go_enter Tryz.func140,Tryz.ntmps140
 go_wp2_with (fail)
 refine gm (aw1 (q0.keep ii) (mq0.keep ii)) ?_
 intro y0
 go_wp2_with (fail)
 go_ret
 exact b4.mk rfl
theorem bu7{B:Nat}{vs:List Value}{x:R6}{left:Int}{w:World}(h:Enc.Rd B w vs x)(hl:0≤left)(hl2:left≤1048576) :
  Calls Tryz.prog 59 #[.agg vs.toArray,.int .i64 left] w (b4 w (.int .i64 (szD left (Enc.tot x)))):=by
 obtain⟨a0,c0,rfl,q0,hok⟩:=h
 have n0:=b7 x.Waiting
 have HOK:=lH hok;clear hok
 have htot:Enc.tot x=d7 x.Waiting:=rfl
 have HTOT:=lH htot;clear htot
 go_enter Tryz.func59,Tryz.ntmps59
 go_wp2_with (fail)
 refine gm (bC4 (q0.keep ii) (by omega) (by omega)) ?_
 intro y0
 by_cases h0:left - d7 x.Waiting<0
 ·have HV:=lH (show szD left (Enc.tot x)=-1 from j8 (by rw[HTOT.out];omega))
  rw[j8 h0]
  go_wp2_with (fail)
  go_ret
  exact b4.mk (by rw[HV.out];rfl)
 rw[B7 h0]
 have HV:=lH (show szD left (Enc.tot x)=left - d7 x.Waiting by rw[B7 (by rw[HTOT.out];omega),HTOT.out]<;>omega)
 go_wp2_with (fail)
 go_ret
 exact b4.mk (by rw[HV.out];rfl)
theorem bu0{B B2:Nat}{vs vs2:List Value}{x:R6}{w:World}(h:Enc.Rd B w vs x)(h2:Enc.Rd B2 w vs2 x) :
  Calls Tryz.prog 131 #[.agg vs.toArray,.agg vs2.toArray] w (b4 w (.bool true)):=by
 obtain⟨a0,c0,rfl,q0,hok⟩:=h
 obtain⟨ma0,mc0,rfl,mq0,-⟩:=h2
 have HOK:=lH hok;clear hok
 go_enter Tryz.func131,Tryz.ntmps131
 go_wp2_with (fail)
 refine gm (bB7 (q0.keep ii) (mq0.keep ii)) ?_
 intro y0
 go_wp2_with (fail)
 go_ret
 exact b4.mk rfl
theorem bg3{B:Nat}{vs:List Value}{x:J0}{left:Int}{w:World}(h:Enc.Rd B w vs x)(hl:0≤left)(hl2:left≤1048576) :
  Calls Tryz.prog 166 #[.agg vs.toArray,.int .i64 left] w (b4 w (.int .i64 (szD left (Enc.tot x)))):=by
 obtain⟨a0,c0,a1,c1,rfl,q0,q1,hok⟩:=h
 have n0:=b7 x.Records
 have n1:=b7 x.Dropped
 have HOK:=lH hok;clear hok
 have htot:Enc.tot x=d7 x.Records+d7 x.Dropped:=rfl
 have HTOT:=lH htot;clear htot
 go_enter Tryz.func166,Tryz.ntmps166
 go_wp2_with (fail)
 refine gm (ax8 (q0.keep ii) (by omega) (by omega)) ?_
 intro y0
 by_cases h0:left - d7 x.Records<0
 ·have HV:=lH (show szD left (Enc.tot x)=-1 from j8 (by rw[HTOT.out];omega))
  rw[j8 h0]
  go_wp2_with (fail)
  go_ret
  exact b4.mk (by rw[HV.out];rfl)
 rw[B7 h0]
 go_wp2_with (fail)
 refine gm (aw2 (q1.keep ii) (by omega) (by omega)) ?_
 intro y1
 by_cases h1:left - d7 x.Records - d7 x.Dropped<0
 ·have HV:=lH (show szD left (Enc.tot x)=-1 from j8 (by rw[HTOT.out];omega))
  rw[j8 h1]
  go_wp2_with (fail)
  go_ret
  exact b4.mk (by rw[HV.out];rfl)
 rw[B7 h1]
 have HV:=lH (show szD left (Enc.tot x)=left - d7 x.Records - d7 x.Dropped by rw[B7 (by rw[HTOT.out];omega),HTOT.out]<;>omega)
 go_wp2_with (fail)
 go_ret
 exact b4.mk (by rw[HV.out];rfl)
theorem bf9{B B2:Nat}{vs vs2:List Value}{x:J0}{w:World}(h:Enc.Rd B w vs x)(h2:Enc.Rd B2 w vs2 x) :
  Calls Tryz.prog 227 #[.agg vs.toArray,.agg vs2.toArray] w (b4 w (.bool true)):=by
 obtain⟨a0,c0,a1,c1,rfl,q0,q1,hok⟩:=h
 obtain⟨ma0,mc0,ma1,mc1,rfl,mq0,mq1,-⟩:=h2
 have HOK:=lH hok;clear hok
 go_enter Tryz.func227,Tryz.ntmps227
 go_wp2_with (fail)
 refine gm (ax7 (q0.keep ii) (mq0.keep ii)) ?_
 intro y0
 go_wp2_with (fail)
 refine gm (aw1 (q1.keep ii) (mq1.keep ii)) ?_
 intro y1
 go_wp2_with (fail)
 go_ret
 exact b4.mk rfl
theorem bu1{B:Nat}{vs:List Value}{x:D4}{left:Int}{w:World}(h:Enc.Rd B w vs x)(hl:0≤left)(hl2:left≤1048576) :
  Calls Tryz.prog 161 #[.agg vs.toArray,.int .i64 left] w (b4 w (.int .i64 (szD left (Enc.tot x)))):=by
 obtain⟨a0,c0,rfl,q0,hok⟩:=h
 have n0:=b7 x.Parts
 have HOK:=lH hok;clear hok
 have htot:Enc.tot x=d7 x.Parts:=rfl
 have HTOT:=lH htot;clear htot
 go_enter Tryz.func161,Tryz.ntmps161
 go_wp2_with fail
 refine gm (am5 (q0.keep ii) (by omega) (by omega)) ?_
 intro y0
 by_cases h0:left - d7 x.Parts<0
 ·have HV:=lH (show szD left (Enc.tot x)=-1 from j8 (by rw[HTOT.out];omega))
  rw[j8 h0]
  go_wp2_with fail
  go_ret
  exact b4.mk (by rw[HV.out];rfl)
 rw[B7 h0]
 have HV:=lH (show szD left (Enc.tot x)=left - d7 x.Parts by rw[B7 (by rw[HTOT.out];omega),HTOT.out]<;>omega)
 go_wp2_with fail
 go_ret
 exact b4.mk (by rw[HV.out];rfl)
theorem bt3{B B2:Nat}{vs vs2:List Value}{x:D4}{w:World}(h:Enc.Rd B w vs x)(h2:Enc.Rd B2 w vs2 x) :
  Calls Tryz.prog 222 #[.agg vs.toArray,.agg vs2.toArray] w (b4 w (.bool true)):=by
 obtain⟨a0,c0,rfl,q0,hok⟩:=h
 obtain⟨ma0,mc0,rfl,mq0,-⟩:=h2
 have HOK:=lH hok;clear hok
 go_enter Tryz.func222,Tryz.ntmps222
 go_wp2_with fail
 refine gm (am4 (q0.keep ii) (mq0.keep ii)) ?_
 intro y0
 go_wp2_with fail
 go_ret
 exact b4.mk rfl
theorem bn4{B:Nat}{a:Option Addr}{c:Nat}{l:List D4}{left:Int}{w:World}(hs:RdS B w a c l)(hl:0≤left)(hl2:left≤1048576) :
  Calls Tryz.prog 63 #[.slice a l.length c,.int .i64 left] w (b4 w (.int .i64 (szD left (d7 l)))):=by
 have hmx:=hs.max
 have hln:=d9 l
 obtain⟨n,hn⟩:∃ n,l.length=n:=⟨_,rfl⟩
 rw[hn]at hln hmx
 rw[hn]
 have HN:=lH hn;clear hn
 by_cases h:left - n<0
 ·have HV:=lH (show szD left (d7 l)=-1 from j8 (by omega))
  go_enter Tryz.func63,Tryz.ntmps63
  go_wp2_with fail
  go_ret
  exact b4.mk (by rw[HV.out];rfl)
 ·go_enter Tryz.func63,Tryz.ntmps63
  go_wp2_with fail
  go_loopw [1,5] (fun u v wr=>∃ (k:Nat) (r:Int),v=.int .i64 k∧u=.int .i64 r∧k≤n∧0≤r∧r≤1048576∧Hid (r - d7 (l.drop k)+(n - k)=left - d7 l)∧∃ x:b5 w,wr=x.w) (fun _ v _=>(n - intOf v).toNat)
  case atStart=>exact⟨0,left - n,rfl,by go_num,by omega,by omega,by omega,by unfold Hid;rw[List.drop_zero];omega,b5.of⟩
  case round =>
   obtain⟨k,r,rfl,rfl,hk,hr,hr2,hf,x,rfl⟩:=hrel
   by_cases h2:k<n
   ·have hlk:k<l.length:=by have:=HN.out;omega
    obtain⟨eb,eoff,ex,ea0,ec0,rfl,ehb,ehd,eq0,eok,eh0,eh1,eh2,eh3⟩:=hs.atTFileIn (show k<l.length by omega)
    have hd2:=d9 (l.drop (k+1))
    have HD2:=lH (show((n:Int) - k - 1≤d7 (l.drop (k+1)))by rw[List.length_drop,HN.out]at hd2;omega);clear hd2 hlk
    have ht0:=Enc.tot_nonneg ex
    obtain⟨t,htt⟩:∃ t,Enc.tot ex=t:=⟨_,rfl⟩
    have hf2:Hid (r - (1+t+d7 (l.drop (k+1)))+(n - k)=left - d7 l):=by
     have:=hf.out;rw[ehd.out]at this;rw[← htt];exact this
    rw[htt]at ht0
    have HTT:=lH htt;clear htt hf
    have HEOK:=lH eok;clear eok
    go_wp2_with fail
    refine gm (bu1 (x:=ex) ⟨ea0,ec0,rfl,eq0.keep ii,HEOK.out⟩ (by omega) (by omega)) ?_
    intro y
    rw[HTT.out]
    by_cases h3:r - t<0
    ·have HV:=lH (show szD left (d7 l)=-1 from j8 (by have h7:=hf2.out;have h8:=HD2.out;omega))
     rw[j8 h3]
     go_wp2_with fail
     go_ret
     exact b4.mk (by rw[HV.out];rfl)
    ·rw[B7 h3]
     go_wp2_with fail
     go_roundw
     case rel=>exact⟨k+1,r - t,by go_num,by go_num,by omega,by omega,by omega,by have h7:=hf2.out;unfold Hid;omega,b5.of⟩
     case measure=>simp[intOf];omega
   ·have HV:=lH (show szD left (d7 l)=r by
     have h7:=hf.out
     rw[List.drop_of_length_le (by have:=HN.out;omega)]at h7
     simp only[d7]at h7
     rw[B7 (by omega)];omega)
    go_wp2_with fail
    go_ret
    exact b4.mk (by rw[HV.out];rfl)
theorem bn1{B B2:Nat}{a a2:Option Addr}{c c2:Nat}{l:List D4}{w:World}(hs:RdS B w a c l)(hs2:RdS B2 w a2 c2 l) :
  Calls Tryz.prog 136 #[.slice a l.length c,.slice a2 l.length c2] w (b4 w (.bool true)):=by
 have hmx:=hs.max
 obtain⟨n,hn⟩:∃ n,l.length=n:=⟨_,rfl⟩
 rw[hn]at hmx
 rw[hn]
 have HN:=lH hn;clear hn
 have kn:((n:Int) != (n:Int))=false:=by simp
 go_enter Tryz.func136,Tryz.ntmps136
 go_wp2_with fail
 go_loopw [5] (fun v wr=>∃ k:Nat,v=.int .i64 k∧k≤n∧∃ x:b5 w,wr=x.w) (fun v _=>(n - intOf v).toNat)
 case atStart=>exact⟨0,rfl,by omega,b5.of⟩
 case round =>
  obtain⟨k,rfl,hk,x,rfl⟩:=hrel
  by_cases h:k<n
  ·have hlk:k<l.length:=by have:=HN.out;omega
   obtain⟨eb,eoff,ex,ea0,ec0,rfl,ehb,ehd,eq0,eok,eh0,eh1,eh2,eh3⟩:=hs.atTFileIn (show k<l.length by omega)
   obtain⟨fb,foff,fx,fa0,fc0,rfl,fhb,fhd,fq0,fok,fh0,fh1,fh2,fh3⟩:=hs2.atTFileIn (show k<l.length by omega)
   obtain rfl:ex=fx:=by have:=ehd.out.symm.trans fhd.out;simpa using this
   clear ehd fhd hlk hs hs2
   have ce:∀ {W:World} [d5 w W],Calls Tryz.prog 222 #[.agg #[.int .i64 ex.File,.int .i64 ex.Size,.int .i64 ex.Check,.slice ea0 ex.Parts.length ec0],.agg #[.int .i64 ex.File,.int .i64 ex.Size,.int .i64 ex.Check,.slice fa0 ex.Parts.length fc0]] W (b4 W (.bool true)):=fun {W} _=>bt3 (x:=ex) ⟨ea0,ec0,rfl,eq0.keep ii,eok⟩ ⟨fa0,fc0,rfl,fq0.keep ii,fok⟩
   clear eok fok eq0 fq0
   go_wp2_with (first|((with_reducible refine rl ?_);(repeat(first|go_big_quiet_step (first|(go_at_call 222;exact b4.quiet (ce)))));refine wpQuiet_nil ?_;intro x)|(go_at_call 222;refine gm (ce) ?_;intro x))
   go_roundw
   case rel=>exact⟨k+1,by go_num,by omega,b5.of⟩
   case measure=>simp[intOf];omega
  ·go_wp2_with fail
   go_ret
   exact b4.mk rfl
theorem bn5{B:Nat}{vs:List Value}{x:j7}{left:Int}{w:World}(h:Enc.Rd B w vs x)(hl:0≤left)(hl2:left≤1048576) :
  Calls Tryz.prog 167 #[.agg vs.toArray,.int .i64 left] w (b4 w (.int .i64 (szD left (Enc.tot x)))):=by
 obtain⟨a0,c0,rfl,q0,hok⟩:=h
 have n0:(0:Int)≤x.Data.size:=by omega
 have z0:x.Data.size≤9223372036854775807:=hok.2.1
 have n1:=b7 x.Queue
 have HOK:=lH hok;clear hok
 have htot:Enc.tot x=(x.Data.size:Int)+d7 x.Queue:=rfl
 have HTOT:=lH htot;clear htot
 go_enter Tryz.func167,Tryz.ntmps167
 by_cases h0:left - (x.Data.size:Int)<0
 ·have HV:=lH (show szD left (Enc.tot x)=-1 from j8 (by rw[HTOT.out];omega))
  go_wp2_with fail
  go_ret
  exact b4.mk (by rw[HV.out];rfl)
 go_wp2_with fail
 refine gm (aw2 (q0.keep ii) (by omega) (by omega)) ?_
 intro y1
 by_cases h1:left - (x.Data.size:Int) - d7 x.Queue<0
 ·have HV:=lH (show szD left (Enc.tot x)=-1 from j8 (by rw[HTOT.out];omega))
  rw[j8 h1]
  go_wp2_with fail
  go_ret
  exact b4.mk (by rw[HV.out];rfl)
 rw[B7 h1]
 have HV:=lH (show szD left (Enc.tot x)=left - (x.Data.size:Int) - d7 x.Queue by rw[B7 (by rw[HTOT.out];omega),HTOT.out]<;>omega)
 go_wp2_with fail
 go_ret
 exact b4.mk (by rw[HV.out];rfl)
theorem bn2{B B2:Nat}{vs vs2:List Value}{x:j7}{w:World}(h:Enc.Rd B w vs x)(h2:Enc.Rd B2 w vs2 x) :
  Calls Tryz.prog 228 #[.agg vs.toArray,.agg vs2.toArray] w (b4 w (.bool true)):=by
 obtain⟨a0,c0,rfl,q0,hok⟩:=h
 obtain⟨ma0,mc0,rfl,mq0,-⟩:=h2
 have HOK:=lH hok;clear hok
 go_enter Tryz.func228,Tryz.ntmps228
 go_wp2_with fail
 refine gm (aw1 (q0.keep ii) (mq0.keep ii)) ?_
 intro y0
 go_wp2_with fail
 go_ret
 exact b4.mk rfl
theorem bg2{B:Nat}{a:Option Addr}{c:Nat}{l:List j7}{left:Int}{w:World}(hs:RdS B w a c l)(hl:0≤left)(hl2:left≤1048576) :
  Calls Tryz.prog 67 #[.slice a l.length c,.int .i64 left] w (b4 w (.int .i64 (szD left (d7 l)))):=by
 have hmx:=hs.max
 have hln:=d9 l
 obtain⟨n,hn⟩:∃ n,l.length=n:=⟨_,rfl⟩
 rw[hn]at hln hmx
 rw[hn]
 have HN:=lH hn;clear hn
 by_cases h:left - n<0
 ·have HV:=lH (show szD left (d7 l)=-1 from j8 (by omega))
  go_enter Tryz.func67,Tryz.ntmps67
  go_wp2_with fail
  go_ret
  exact b4.mk (by rw[HV.out];rfl)
 ·go_enter Tryz.func67,Tryz.ntmps67
  go_wp2_with fail
  go_loopw [1,5] (fun u v wr=>∃ (k:Nat) (r:Int),v=.int .i64 k∧u=.int .i64 r∧k≤n∧0≤r∧r≤1048576∧Hid (r - d7 (l.drop k)+(n - k)=left - d7 l)∧∃ x:b5 w,wr=x.w) (fun _ v _=>(n - intOf v).toNat)
  case atStart=>exact⟨0,left - n,rfl,by go_num,by omega,by omega,by omega,by unfold Hid;rw[List.drop_zero];omega,b5.of⟩
  case round =>
   obtain⟨k,r,rfl,rfl,hk,hr,hr2,hf,x,rfl⟩:=hrel
   by_cases h2:k<n
   ·have hlk:k<l.length:=by have:=HN.out;omega
    obtain⟨eb,eoff,ex,ea0,ec0,rfl,ehb,ehd,eq0,eok,eh0,eh1,eh2,eh3⟩:=hs.atTFileOut (show k<l.length by omega)
    have hd2:=d9 (l.drop (k+1))
    have HD2:=lH (show((n:Int) - k - 1≤d7 (l.drop (k+1)))by rw[List.length_drop,HN.out]at hd2;omega);clear hd2 hlk
    have ht0:=Enc.tot_nonneg ex
    obtain⟨t,htt⟩:∃ t,Enc.tot ex=t:=⟨_,rfl⟩
    have hf2:Hid (r - (1+t+d7 (l.drop (k+1)))+(n - k)=left - d7 l):=by
     have:=hf.out;rw[ehd.out]at this;rw[← htt];exact this
    rw[htt]at ht0
    have HTT:=lH htt;clear htt hf
    have HEOK:=lH eok;clear eok
    go_wp2_with fail
    refine gm (bn5 (x:=ex) ⟨ea0,ec0,rfl,eq0.keep ii,HEOK.out⟩ (by omega) (by omega)) ?_
    intro y
    rw[HTT.out]
    by_cases h3:r - t<0
    ·have HV:=lH (show szD left (d7 l)=-1 from j8 (by have h7:=hf2.out;have h8:=HD2.out;omega))
     rw[j8 h3]
     go_wp2_with fail
     go_ret
     exact b4.mk (by rw[HV.out];rfl)
    ·rw[B7 h3]
     go_wp2_with fail
     go_roundw
     case rel=>exact⟨k+1,r - t,by go_num,by go_num,by omega,by omega,by omega,by have h7:=hf2.out;unfold Hid;omega,b5.of⟩
     case measure=>simp[intOf];omega
   ·have HV:=lH (show szD left (d7 l)=r by
     have h7:=hf.out
     rw[List.drop_of_length_le (by have:=HN.out;omega)]at h7
     simp only[d7]at h7
     rw[B7 (by omega)];omega)
    go_wp2_with fail
    go_ret
    exact b4.mk (by rw[HV.out];rfl)
theorem bf7{B B2:Nat}{a a2:Option Addr}{c c2:Nat}{l:List j7}{w:World}(hs:RdS B w a c l)(hs2:RdS B2 w a2 c2 l) :
  Calls Tryz.prog 141 #[.slice a l.length c,.slice a2 l.length c2] w (b4 w (.bool true)):=by
 have hmx:=hs.max
 obtain⟨n,hn⟩:∃ n,l.length=n:=⟨_,rfl⟩
 rw[hn]at hmx
 rw[hn]
 have HN:=lH hn;clear hn
 have kn:((n:Int) != (n:Int))=false:=by simp
 go_enter Tryz.func141,Tryz.ntmps141
 go_wp2_with fail
 go_loopw [5] (fun v wr=>∃ k:Nat,v=.int .i64 k∧k≤n∧∃ x:b5 w,wr=x.w) (fun v _=>(n - intOf v).toNat)
 case atStart=>exact⟨0,rfl,by omega,b5.of⟩
 case round =>
  obtain⟨k,rfl,hk,x,rfl⟩:=hrel
  by_cases h:k<n
  ·have hlk:k<l.length:=by have:=HN.out;omega
   obtain⟨eb,eoff,ex,ea0,ec0,rfl,ehb,ehd,eq0,eok,eh0,eh1,eh2,eh3⟩:=hs.atTFileOut (show k<l.length by omega)
   obtain⟨fb,foff,fx,fa0,fc0,rfl,fhb,fhd,fq0,fok,fh0,fh1,fh2,fh3⟩:=hs2.atTFileOut (show k<l.length by omega)
   obtain rfl:ex=fx:=by have:=ehd.out.symm.trans fhd.out;simpa using this
   clear ehd fhd hlk hs hs2
   have ce:∀ {W:World} [d5 w W],Calls Tryz.prog 228 #[.agg #[.int .i64 ex.File,.string ex.Data,.slice ea0 ex.Queue.length ec0,.bool ex.Done],.agg #[.int .i64 ex.File,.string ex.Data,.slice fa0 ex.Queue.length fc0,.bool ex.Done]] W (b4 W (.bool true)):=fun {W} _=>bn2 (x:=ex) ⟨ea0,ec0,rfl,eq0.keep ii,eok⟩ ⟨fa0,fc0,rfl,fq0.keep ii,fok⟩
   clear eok fok eq0 fq0
   go_wp2_with (first|((with_reducible refine rl ?_);(repeat(first|go_big_quiet_step (first|(go_at_call 228;exact b4.quiet (ce)))));refine wpQuiet_nil ?_;intro x)|(go_at_call 228;refine gm (ce) ?_;intro x))
   go_roundw
   case rel=>exact⟨k+1,by go_num,by omega,b5.of⟩
   case measure=>simp[intOf];omega
  ·go_wp2_with fail
   go_ret
   exact b4.mk rfl
theorem bu3{B:Nat}{vs:List Value}{x:I8}{left:Int}{w:World}(h:Enc.Rd B w vs x)(hl:0≤left)(hl2:left≤1048576) :
  Calls Tryz.prog 13 #[.agg vs.toArray,.int .i64 left] w (b4 w (.int .i64 (szD left (Enc.tot x)))):=by
 obtain⟨A,rfl,F⟩:=h
 have n0:=b7 x.Offers
 have n1:=Enc.tot_nonneg x.Sender
 have n2:=Enc.tot_nonneg x.Unpacker
 have n3:=b7 x.Pairs
 have n4:=b7 x.Records
 have n5:=b7 x.Files
 have n6:=b7 x.Told
 have HOK:=lH F.ok
 have htot:Enc.tot x=d7 x.Offers+Enc.tot x.Sender+Enc.tot x.Unpacker+d7 x.Pairs+d7 x.Records+d7 x.Files+d7 x.Told:=rfl
 have HTOT:=lH htot;clear htot
 have HB:=lH (i9.new w (M8 x A) 43 w.heap.size rfl)
 have HFF:=lH F;clear F
 go_enter Tryz.func13,Tryz.ntmps13
 go_wp2_with (fail)
 refine gm (am5 (HFF.out.q0.keep ii) (by omega) (by omega)) ?_
 intro y0
 by_cases h0:left - d7 x.Offers<0
 ·have HV:=lH (show szD left (Enc.tot x)=-1 from j8 (by rw[HTOT.out];omega))
  rw[j8 h0]
  go_wp2_with (fail)
  go_ret
  exact b4.mk (by rw[HV.out];rfl)
 rw[B7 h0]
 go_wp2_with (first|(refine f7 rfl _ _ rfl (w.heap.size) 1 rfl (row:=[.int .i64 x.Sender.Next,.int .i64 x.Sender.Window,.slice A.a1 x.Sender.Waiting.length A.c1,.int .i64 x.Sender.Done]) (HB.out.to ii) _ Tryz.underlying33 rfl kr kr ?_))
 refine gm (bu7 (x:=x.Sender) ⟨A.a1,A.c1,rfl,HFF.out.q1.keep ii,HOK.out.1⟩ (by omega) (by omega)) ?_
 intro y1
 by_cases h1:left - d7 x.Offers - Enc.tot x.Sender<0
 ·have HV:=lH (show szD left (Enc.tot x)=-1 from j8 (by rw[HTOT.out];omega))
  rw[j8 h1]
  go_wp2_with (fail)
  go_ret
  exact b4.mk (by rw[HV.out];rfl)
 rw[B7 h1]
 go_wp2_with (first|(refine f7 rfl _ _ rfl (w.heap.size) 8 rfl (row:=[.int .i64 x.Unpacker.Channel,.int .i64 x.Unpacker.Next,.bool x.Unpacker.Synced,.string x.Unpacker.Rest,.int .i64 x.Unpacker.Lost]) (HB.out.to ii) _ Tryz.underlying37 rfl kr kr ?_))
 refine gm (bg4 (B:=0) (x:=x.Unpacker) ⟨rfl,HOK.out.2.2.1⟩ (by omega) (by omega)) ?_
 intro y2
 by_cases h2:left - d7 x.Offers - Enc.tot x.Sender - Enc.tot x.Unpacker<0
 ·have HV:=lH (show szD left (Enc.tot x)=-1 from j8 (by rw[HTOT.out];omega))
  rw[j8 h2]
  go_wp2_with (fail)
  go_ret
  exact b4.mk (by rw[HV.out];rfl)
 rw[B7 h2]
 go_wp2_with (fail)
 refine gm (bC3 (HFF.out.q2.keep ii) (by omega) (by omega)) ?_
 intro y3
 by_cases h3:left - d7 x.Offers - Enc.tot x.Sender - Enc.tot x.Unpacker - d7 x.Pairs<0
 ·have HV:=lH (show szD left (Enc.tot x)=-1 from j8 (by rw[HTOT.out];omega))
  rw[j8 h3]
  go_wp2_with (fail)
  go_ret
  exact b4.mk (by rw[HV.out];rfl)
 rw[B7 h3]
 go_wp2_with (fail)
 refine gm (ax8 (HFF.out.q3.keep ii) (by omega) (by omega)) ?_
 intro y4
 by_cases h4:left - d7 x.Offers - Enc.tot x.Sender - Enc.tot x.Unpacker - d7 x.Pairs - d7 x.Records<0
 ·have HV:=lH (show szD left (Enc.tot x)=-1 from j8 (by rw[HTOT.out];omega))
  rw[j8 h4]
  go_wp2_with (fail)
  go_ret
  exact b4.mk (by rw[HV.out];rfl)
 rw[B7 h4]
 go_wp2_with (fail)
 refine gm (bn4 (HFF.out.q4.keep ii) (by omega) (by omega)) ?_
 intro y5
 by_cases h5:left - d7 x.Offers - Enc.tot x.Sender - Enc.tot x.Unpacker - d7 x.Pairs - d7 x.Records - d7 x.Files<0
 ·have HV:=lH (show szD left (Enc.tot x)=-1 from j8 (by rw[HTOT.out];omega))
  rw[j8 h5]
  go_wp2_with (fail)
  go_ret
  exact b4.mk (by rw[HV.out];rfl)
 rw[B7 h5]
 go_wp2_with (fail)
 refine gm (bC1 (HFF.out.q5.keep ii) (by omega) (by omega)) ?_
 intro y6
 by_cases h6:left - d7 x.Offers - Enc.tot x.Sender - Enc.tot x.Unpacker - d7 x.Pairs - d7 x.Records - d7 x.Files - d7 x.Told<0
 ·have HV:=lH (show szD left (Enc.tot x)=-1 from j8 (by rw[HTOT.out];omega))
  rw[j8 h6]
  go_wp2_with (fail)
  go_ret
  exact b4.mk (by rw[HV.out];rfl)
 rw[B7 h6]
 have HV:=lH (show szD left (Enc.tot x)=left - d7 x.Offers - Enc.tot x.Sender - Enc.tot x.Unpacker - d7 x.Pairs - d7 x.Records - d7 x.Files - d7 x.Told by rw[B7 (by rw[HTOT.out];omega),HTOT.out]<;>omega)
 go_wp2_with (fail)
 go_ret
 exact b4.mk (by rw[HV.out];rfl)
theorem bt5{B B2:Nat}{vs vs2:List Value}{x:I8}{w:World}(h:Enc.Rd B w vs x)(h2:Enc.Rd B2 w vs2 x) :
  Calls Tryz.prog 45 #[.agg vs.toArray,.agg vs2.toArray] w (b4 w (.bool true)):=by
 obtain⟨A,rfl,F⟩:=h
 obtain⟨mA,rfl,mF⟩:=h2
 have HOK:=lH F.ok
 have HB:=lH ((i9.new w (M8 x A) 76 w.heap.size rfl).to (ii:d5 _ ((w.alloc (.cells (M8 x A).toArray 76)).alloc (.cells (M8 x mA).toArray 76))))
 have HC:=lH (i9.new (w.alloc (.cells (M8 x A).toArray 76)) (M8 x mA) 76 (w.heap.size+1) (by simp))
 have HFF:=lH F;clear F
 have HMF:=lH mF;clear mF
 go_enter Tryz.func45,Tryz.ntmps45
 go_wp2_with (fail)
 refine gm (am4 (HFF.out.q0.keep ii) (HMF.out.q0.keep ii)) ?_
 intro y0
 go_wp2_with (first|(refine f7 rfl _ _ rfl (w.heap.size) 1 rfl (row:=[.int .i64 x.Sender.Next,.int .i64 x.Sender.Window,.slice A.a1 x.Sender.Waiting.length A.c1,.int .i64 x.Sender.Done]) (HB.out.to ii) _ Tryz.underlying69 rfl kr kr ?_)|(refine f7 rfl _ _ rfl (w.heap.size+1) 1 rfl (row:=[.int .i64 x.Sender.Next,.int .i64 x.Sender.Window,.slice mA.a1 x.Sender.Waiting.length mA.c1,.int .i64 x.Sender.Done]) (HC.out.to ii) _ Tryz.underlying69 rfl kr kr ?_))
 refine gm (bu0 (x:=x.Sender) ⟨A.a1,A.c1,rfl,HFF.out.q1.keep ii,HOK.out.1⟩ ⟨mA.a1,mA.c1,rfl,HMF.out.q1.keep ii,HOK.out.1⟩) ?_
 intro y1
 go_wp2_with (first|(refine f7 rfl _ _ rfl (w.heap.size) 5 rfl (row:=[.int .i64 x.Notice.Expect,.bool x.Notice.Locked,.bool x.Notice.Again]) (HB.out.to ii) _ Tryz.underlying70 rfl kr kr ?_)|(refine f7 rfl _ _ rfl (w.heap.size+1) 5 rfl (row:=[.int .i64 x.Notice.Expect,.bool x.Notice.Locked,.bool x.Notice.Again]) (HC.out.to ii) _ Tryz.underlying70 rfl kr kr ?_))
 refine gm (bt7 (B:=0) (B2:=0) (x:=x.Notice) ⟨rfl,HOK.out.2.1⟩ ⟨rfl,HOK.out.2.1⟩) ?_
 intro y2
 go_wp2_with (first|(refine f7 rfl _ _ rfl (w.heap.size) 8 rfl (row:=[.int .i64 x.Unpacker.Channel,.int .i64 x.Unpacker.Next,.bool x.Unpacker.Synced,.string x.Unpacker.Rest,.int .i64 x.Unpacker.Lost]) (HB.out.to ii) _ Tryz.underlying71 rfl kr kr ?_)|(refine f7 rfl _ _ rfl (w.heap.size+1) 8 rfl (row:=[.int .i64 x.Unpacker.Channel,.int .i64 x.Unpacker.Next,.bool x.Unpacker.Synced,.string x.Unpacker.Rest,.int .i64 x.Unpacker.Lost]) (HC.out.to ii) _ Tryz.underlying71 rfl kr kr ?_))
 refine gm (bg0 (B:=0) (B2:=0) (x:=x.Unpacker) ⟨rfl,HOK.out.2.2.1⟩ ⟨rfl,HOK.out.2.2.1⟩) ?_
 intro y3
 go_wp2_with (fail)
 refine gm (bB6 (HFF.out.q2.keep ii) (HMF.out.q2.keep ii)) ?_
 intro y4
 go_wp2_with (fail)
 refine gm (ax7 (HFF.out.q3.keep ii) (HMF.out.q3.keep ii)) ?_
 intro y5
 go_wp2_with (fail)
 refine gm (bn1 (HFF.out.q4.keep ii) (HMF.out.q4.keep ii)) ?_
 intro y6
 go_wp2_with (fail)
 refine gm (bB0 (HFF.out.q5.keep ii) (HMF.out.q5.keep ii)) ?_
 intro y7
 go_wp2_with (fail)
 go_ret
 exact b4.mk rfl
theorem bC0{B:Nat}{vs:List Value}{x:D5}{left:Int}{w:World}(h:Enc.Rd B w vs x)(hl:0≤left)(hl2:left≤1048576) :
  Calls Tryz.prog 65 #[.agg vs.toArray,.int .i64 left] w (b4 w (.int .i64 (szD left (Enc.tot x)))):=by
 obtain⟨A,rfl,F⟩:=h
 have n0:=b7 x.Params
 have n1:=b7 x.Limits
 have n2:=b7 x.Orders
 have n3:=b7 x.Done
 have n4:=Enc.tot_nonneg x.Recorder
 have n5:=b7 x.Asked
 have HOK:=lH F.ok
 have htot:Enc.tot x=d7 x.Params+d7 x.Limits+d7 x.Orders+d7 x.Done+Enc.tot x.Recorder+d7 x.Asked:=rfl
 have HTOT:=lH htot;clear htot
 have HB:=lH (i9.new w (I0 x A) 53 w.heap.size rfl)
 have HFF:=lH F;clear F
 go_enter Tryz.func65,Tryz.ntmps65
 go_wp2_with (fail)
 refine gm (aw2 (HFF.out.q0.keep ii) (by omega) (by omega)) ?_
 intro y0
 by_cases h0:left - d7 x.Params<0
 ·have HV:=lH (show szD left (Enc.tot x)=-1 from j8 (by rw[HTOT.out];omega))
  rw[j8 h0]
  go_wp2_with (fail)
  go_ret
  exact b4.mk (by rw[HV.out];rfl)
 rw[B7 h0]
 go_wp2_with (fail)
 refine gm (bu4 (HFF.out.q1.keep ii) (by omega) (by omega)) ?_
 intro y1
 by_cases h1:left - d7 x.Params - d7 x.Limits<0
 ·have HV:=lH (show szD left (Enc.tot x)=-1 from j8 (by rw[HTOT.out];omega))
  rw[j8 h1]
  go_wp2_with (fail)
  go_ret
  exact b4.mk (by rw[HV.out];rfl)
 rw[B7 h1]
 go_wp2_with (fail)
 refine gm (bg5 (HFF.out.q2.keep ii) (by omega) (by omega)) ?_
 intro y2
 by_cases h2:left - d7 x.Params - d7 x.Limits - d7 x.Orders<0
 ·have HV:=lH (show szD left (Enc.tot x)=-1 from j8 (by rw[HTOT.out];omega))
  rw[j8 h2]
  go_wp2_with (fail)
  go_ret
  exact b4.mk (by rw[HV.out];rfl)
 rw[B7 h2]
 go_wp2_with (fail)
 refine gm (bC2 (HFF.out.q3.keep ii) (by omega) (by omega)) ?_
 intro y3
 by_cases h3:left - d7 x.Params - d7 x.Limits - d7 x.Orders - d7 x.Done<0
 ·have HV:=lH (show szD left (Enc.tot x)=-1 from j8 (by rw[HTOT.out];omega))
  rw[j8 h3]
  go_wp2_with (fail)
  go_ret
  exact b4.mk (by rw[HV.out];rfl)
 rw[B7 h3]
 go_wp2_with (first|(refine f7 rfl _ _ rfl (w.heap.size) 6 rfl (row:=[.int .i64 x.Recorder.Room,.slice A.a4 x.Recorder.Records.length A.c4,.slice A.a5 x.Recorder.Dropped.length A.c5]) (HB.out.to ii) _ Tryz.underlying51 rfl kr kr ?_))
 refine gm (bg3 (x:=x.Recorder) ⟨A.a4,A.c4,A.a5,A.c5,rfl,HFF.out.q4.keep ii,HFF.out.q5.keep ii,HOK.out.2.1⟩ (by omega) (by omega)) ?_
 intro y4
 by_cases h4:left - d7 x.Params - d7 x.Limits - d7 x.Orders - d7 x.Done - Enc.tot x.Recorder<0
 ·have HV:=lH (show szD left (Enc.tot x)=-1 from j8 (by rw[HTOT.out];omega))
  rw[j8 h4]
  go_wp2_with (fail)
  go_ret
  exact b4.mk (by rw[HV.out];rfl)
 rw[B7 h4]
 go_wp2_with (fail)
 refine gm (aw2 (HFF.out.q6.keep ii) (by omega) (by omega)) ?_
 intro y5
 by_cases h5:left - d7 x.Params - d7 x.Limits - d7 x.Orders - d7 x.Done - Enc.tot x.Recorder - d7 x.Asked<0
 ·have HV:=lH (show szD left (Enc.tot x)=-1 from j8 (by rw[HTOT.out];omega))
  rw[j8 h5]
  go_wp2_with (fail)
  go_ret
  exact b4.mk (by rw[HV.out];rfl)
 rw[B7 h5]
 have HV:=lH (show szD left (Enc.tot x)=left - d7 x.Params - d7 x.Limits - d7 x.Orders - d7 x.Done - Enc.tot x.Recorder - d7 x.Asked by rw[B7 (by rw[HTOT.out];omega),HTOT.out]<;>omega)
 go_wp2_with (fail)
 go_ret
 exact b4.mk (by rw[HV.out];rfl)
theorem bA9{B B2:Nat}{vs vs2:List Value}{x:D5}{w:World}(h:Enc.Rd B w vs x)(h2:Enc.Rd B2 w vs2 x) :
  Calls Tryz.prog 139 #[.agg vs.toArray,.agg vs2.toArray] w (b4 w (.bool true)):=by
 obtain⟨A,rfl,F⟩:=h
 obtain⟨mA,rfl,mF⟩:=h2
 have HOK:=lH F.ok
 have HB:=lH ((i9.new w (I0 x A) 84 w.heap.size rfl).to (ii:d5 _ ((w.alloc (.cells (I0 x A).toArray 84)).alloc (.cells (I0 x mA).toArray 84))))
 have HC:=lH (i9.new (w.alloc (.cells (I0 x A).toArray 84)) (I0 x mA) 84 (w.heap.size+1) (by simp))
 have HFF:=lH F;clear F
 have HMF:=lH mF;clear mF
 go_enter Tryz.func139,Tryz.ntmps139
 go_wp2_with (fail)
 refine gm (aw1 (HFF.out.q0.keep ii) (HMF.out.q0.keep ii)) ?_
 intro y0
 go_wp2_with (fail)
 refine gm (bt6 (HFF.out.q1.keep ii) (HMF.out.q1.keep ii)) ?_
 intro y1
 go_wp2_with (fail)
 refine gm (bg1 (HFF.out.q2.keep ii) (HMF.out.q2.keep ii)) ?_
 intro y2
 go_wp2_with (fail)
 refine gm (bB1 (HFF.out.q3.keep ii) (HMF.out.q3.keep ii)) ?_
 intro y3
 go_wp2_with (first|(refine f7 rfl _ _ rfl (w.heap.size) 6 rfl (row:=[.int .i64 x.Recorder.Room,.slice A.a4 x.Recorder.Records.length A.c4,.slice A.a5 x.Recorder.Dropped.length A.c5]) (HB.out.to ii) _ Tryz.underlying82 rfl kr kr ?_)|(refine f7 rfl _ _ rfl (w.heap.size+1) 6 rfl (row:=[.int .i64 x.Recorder.Room,.slice mA.a4 x.Recorder.Records.length mA.c4,.slice mA.a5 x.Recorder.Dropped.length mA.c5]) (HC.out.to ii) _ Tryz.underlying82 rfl kr kr ?_))
 refine gm (bf9 (x:=x.Recorder) ⟨A.a4,A.c4,A.a5,A.c5,rfl,HFF.out.q4.keep ii,HFF.out.q5.keep ii,HOK.out.2.1⟩ ⟨mA.a4,mA.c4,mA.a5,mA.c5,rfl,HMF.out.q4.keep ii,HMF.out.q5.keep ii,HOK.out.2.1⟩) ?_
 intro y4
 go_wp2_with (fail)
 refine gm (aw1 (HFF.out.q6.keep ii) (HMF.out.q6.keep ii)) ?_
 intro y5
 go_wp2_with (fail)
 go_ret
 exact b4.mk rfl
theorem bC6{B:Nat}{vs:List Value}{x:M7}{left:Int}{w:World}(h:Enc.Rd B w vs x)(hl:0≤left)(hl2:left≤1048576) :
  Calls Tryz.prog 14 #[.agg vs.toArray,.int .i64 left] w (b4 w (.int .i64 (szD left (Enc.tot x)))):=by
 obtain⟨A,rfl,F⟩:=h
 have n0:=Enc.tot_nonneg x.Board
 have n1:=Enc.tot_nonneg x.Packer
 have n2:=b7 x.Files
 have n3:=b7 x.Outs
 have n4:=b7 x.Sent
 have HOK:=lH F.ok
 have htot:Enc.tot x=Enc.tot x.Board+Enc.tot x.Packer+d7 x.Files+d7 x.Outs+d7 x.Sent:=rfl
 have HTOT:=lH htot;clear htot
 have HB:=lH (i9.new w (U3 x A) 58 w.heap.size rfl)
 have HFF:=lH F;clear F
 go_enter Tryz.func14,Tryz.ntmps14
 go_wp2_with (first|(refine f7 rfl _ _ rfl (w.heap.size) 4 rfl (row:=(I0 x.Board A)) (HB.out.to ii) _ Tryz.underlying53 rfl kr kr ?_))
 refine gm (bC0 (x:=x.Board) ⟨⟨A.a0,A.c0,A.a1,A.c1,A.a2,A.c2,A.a3,A.c3,A.a4,A.c4,A.a5,A.c5,A.a6,A.c6⟩,rfl,⟨HFF.out.q0.keep ii,HFF.out.q1.keep ii,HFF.out.q2.keep ii,HFF.out.q3.keep ii,HFF.out.q4.keep ii,HFF.out.q5.keep ii,HFF.out.q6.keep ii,HOK.out.2.1⟩⟩ (by omega) (by omega)) ?_
 intro y0
 by_cases h0:left - Enc.tot x.Board<0
 ·have HV:=lH (show szD left (Enc.tot x)=-1 from j8 (by rw[HTOT.out];omega))
  rw[j8 h0]
  go_wp2_with (fail)
  go_ret
  exact b4.mk (by rw[HV.out];rfl)
 rw[B7 h0]
 go_wp2_with (first|(refine f7 rfl _ _ rfl (w.heap.size) 16 rfl (row:=[.int .i64 x.Packer.Channel,.int .i64 x.Packer.Count,.string x.Packer.Rest,.slice A.a7 x.Packer.Starts.length A.c7]) (HB.out.to ii) _ Tryz.underlying55 rfl kr kr ?_))
 refine gm (bu5 (x:=x.Packer) ⟨A.a7,A.c7,rfl,HFF.out.q7.keep ii,HOK.out.2.2.1⟩ (by omega) (by omega)) ?_
 intro y1
 by_cases h1:left - Enc.tot x.Board - Enc.tot x.Packer<0
 ·have HV:=lH (show szD left (Enc.tot x)=-1 from j8 (by rw[HTOT.out];omega))
  rw[j8 h1]
  go_wp2_with (fail)
  go_ret
  exact b4.mk (by rw[HV.out];rfl)
 rw[B7 h1]
 go_wp2_with (fail)
 refine gm (am5 (HFF.out.q8.keep ii) (by omega) (by omega)) ?_
 intro y2
 by_cases h2:left - Enc.tot x.Board - Enc.tot x.Packer - d7 x.Files<0
 ·have HV:=lH (show szD left (Enc.tot x)=-1 from j8 (by rw[HTOT.out];omega))
  rw[j8 h2]
  go_wp2_with (fail)
  go_ret
  exact b4.mk (by rw[HV.out];rfl)
 rw[B7 h2]
 go_wp2_with (fail)
 refine gm (bg2 (HFF.out.q9.keep ii) (by omega) (by omega)) ?_
 intro y3
 by_cases h3:left - Enc.tot x.Board - Enc.tot x.Packer - d7 x.Files - d7 x.Outs<0
 ·have HV:=lH (show szD left (Enc.tot x)=-1 from j8 (by rw[HTOT.out];omega))
  rw[j8 h3]
  go_wp2_with (fail)
  go_ret
  exact b4.mk (by rw[HV.out];rfl)
 rw[B7 h3]
 go_wp2_with (fail)
 refine gm (ax8 (HFF.out.q10.keep ii) (by omega) (by omega)) ?_
 intro y4
 by_cases h4:left - Enc.tot x.Board - Enc.tot x.Packer - d7 x.Files - d7 x.Outs - d7 x.Sent<0
 ·have HV:=lH (show szD left (Enc.tot x)=-1 from j8 (by rw[HTOT.out];omega))
  rw[j8 h4]
  go_wp2_with (fail)
  go_ret
  exact b4.mk (by rw[HV.out];rfl)
 rw[B7 h4]
 have HV:=lH (show szD left (Enc.tot x)=left - Enc.tot x.Board - Enc.tot x.Packer - d7 x.Files - d7 x.Outs - d7 x.Sent by rw[B7 (by rw[HTOT.out];omega),HTOT.out]<;>omega)
 go_wp2_with (fail)
 go_ret
 exact b4.mk (by rw[HV.out];rfl)
theorem bB9{B B2:Nat}{vs vs2:List Value}{x:M7}{w:World}(h:Enc.Rd B w vs x)(h2:Enc.Rd B2 w vs2 x) :
  Calls Tryz.prog 46 #[.agg vs.toArray,.agg vs2.toArray] w (b4 w (.bool true)):=by
 obtain⟨A,rfl,F⟩:=h
 obtain⟨mA,rfl,mF⟩:=h2
 have HOK:=lH F.ok
 have HB:=lH ((i9.new w (U3 x A) 88 w.heap.size rfl).to (ii:d5 _ ((w.alloc (.cells (U3 x A).toArray 88)).alloc (.cells (U3 x mA).toArray 88))))
 have HC:=lH (i9.new (w.alloc (.cells (U3 x A).toArray 88)) (U3 x mA) 88 (w.heap.size+1) (by simp))
 have HFF:=lH F;clear F
 have HMF:=lH mF;clear mF
 go_enter Tryz.func46,Tryz.ntmps46
 go_wp2_with (first|(refine f7 rfl _ _ rfl (w.heap.size) 0 rfl (row:=[.int .i64 x.Receiver.Expect,.bool x.Receiver.Locked,.bool x.Receiver.Again,.int .i64 x.Receiver.Taken]) (HB.out.to ii) _ Tryz.underlying77 rfl kr kr ?_)|(refine f7 rfl _ _ rfl (w.heap.size+1) 0 rfl (row:=[.int .i64 x.Receiver.Expect,.bool x.Receiver.Locked,.bool x.Receiver.Again,.int .i64 x.Receiver.Taken]) (HC.out.to ii) _ Tryz.underlying77 rfl kr kr ?_))
 refine gm (bf8 (B:=0) (B2:=0) (x:=x.Receiver) ⟨rfl,HOK.out.1⟩ ⟨rfl,HOK.out.1⟩) ?_
 intro y0
 go_wp2_with (first|(refine f7 rfl _ _ rfl (w.heap.size) 4 rfl (row:=(I0 x.Board A)) (HB.out.to ii) _ Tryz.underlying84 rfl kr kr ?_)|(refine f7 rfl _ _ rfl (w.heap.size+1) 4 rfl (row:=(I0 x.Board mA)) (HC.out.to ii) _ Tryz.underlying84 rfl kr kr ?_))
 refine gm (bA9 (x:=x.Board) ⟨⟨A.a0,A.c0,A.a1,A.c1,A.a2,A.c2,A.a3,A.c3,A.a4,A.c4,A.a5,A.c5,A.a6,A.c6⟩,rfl,⟨HFF.out.q0.keep ii,HFF.out.q1.keep ii,HFF.out.q2.keep ii,HFF.out.q3.keep ii,HFF.out.q4.keep ii,HFF.out.q5.keep ii,HFF.out.q6.keep ii,HOK.out.2.1⟩⟩ ⟨⟨mA.a0,mA.c0,mA.a1,mA.c1,mA.a2,mA.c2,mA.a3,mA.c3,mA.a4,mA.c4,mA.a5,mA.c5,mA.a6,mA.c6⟩,rfl,⟨HMF.out.q0.keep ii,HMF.out.q1.keep ii,HMF.out.q2.keep ii,HMF.out.q3.keep ii,HMF.out.q4.keep ii,HMF.out.q5.keep ii,HMF.out.q6.keep ii,HOK.out.2.1⟩⟩) ?_
 intro y1
 go_wp2_with (first|(refine f7 rfl _ _ rfl (w.heap.size) 16 rfl (row:=[.int .i64 x.Packer.Channel,.int .i64 x.Packer.Count,.string x.Packer.Rest,.slice A.a7 x.Packer.Starts.length A.c7]) (HB.out.to ii) _ Tryz.underlying85 rfl kr kr ?_)|(refine f7 rfl _ _ rfl (w.heap.size+1) 16 rfl (row:=[.int .i64 x.Packer.Channel,.int .i64 x.Packer.Count,.string x.Packer.Rest,.slice mA.a7 x.Packer.Starts.length mA.c7]) (HC.out.to ii) _ Tryz.underlying85 rfl kr kr ?_))
 refine gm (bt8 (x:=x.Packer) ⟨A.a7,A.c7,rfl,HFF.out.q7.keep ii,HOK.out.2.2.1⟩ ⟨mA.a7,mA.c7,rfl,HMF.out.q7.keep ii,HOK.out.2.2.1⟩) ?_
 intro y2
 go_wp2_with (fail)
 refine gm (am4 (HFF.out.q8.keep ii) (HMF.out.q8.keep ii)) ?_
 intro y3
 go_wp2_with (fail)
 refine gm (bf7 (HFF.out.q9.keep ii) (HMF.out.q9.keep ii)) ?_
 intro y4
 go_wp2_with (fail)
 refine gm (ax7 (HFF.out.q10.keep ii) (HMF.out.q10.keep ii)) ?_
 intro y5
 go_wp2_with (fail)
 go_ret
 exact b4.mk rfl
theorem aK9{B:Nat}{vs:List Value}{x:f5}{left:Int}{w:World}(h:Enc.Rd B w vs x)(hl:0≤left)(hl2:left≤1048576) :
  Calls Tryz.prog 4 #[.agg vs.toArray,.int .i64 left] w (b4 w (.int .i64 (szD left (Enc.tot x)))):=by
 obtain⟨A,rfl,F⟩:=h
 have n0:=b7 x.Plan
 have n1:=b7 x.Ups
 have n2:=b7 x.Downs
 have n3:=Enc.tot_nonneg x.Ground
 have n4:=Enc.tot_nonneg x.Space
 have n5:=b7 x.Offered
 have n6:=b7 x.Took
 have HOK:=lH F.ok
 have htot:Enc.tot x=d7 x.Plan+d7 x.Ups+d7 x.Downs+Enc.tot x.Ground+Enc.tot x.Space+d7 x.Offered+d7 x.Took:=rfl
 have HTOT:=lH htot;clear htot
 have HB:=lH (i9.new w (A0 x A) 60 w.heap.size rfl)
 have HFF:=lH F;clear F
 go_enter Tryz.func4,Tryz.ntmps4
 go_wp2_with (fail)
 refine gm (bC5 (HFF.out.q0.keep ii) (by omega) (by omega)) ?_
 intro y0
 by_cases h0:left - d7 x.Plan<0
 ·have HV:=lH (show szD left (Enc.tot x)=-1 from j8 (by rw[HTOT.out];omega))
  rw[j8 h0]
  go_wp2_with (fail)
  go_ret
  exact b4.mk (by rw[HV.out];rfl)
 rw[B7 h0]
 go_wp2_with (fail)
 refine gm (aK8 (HFF.out.q1.keep ii) (by omega) (by omega)) ?_
 intro y1
 by_cases h1:left - d7 x.Plan - d7 x.Ups<0
 ·have HV:=lH (show szD left (Enc.tot x)=-1 from j8 (by rw[HTOT.out];omega))
  rw[j8 h1]
  go_wp2_with (fail)
  go_ret
  exact b4.mk (by rw[HV.out];rfl)
 rw[B7 h1]
 go_wp2_with (fail)
 refine gm (aK8 (HFF.out.q2.keep ii) (by omega) (by omega)) ?_
 intro y2
 by_cases h2:left - d7 x.Plan - d7 x.Ups - d7 x.Downs<0
 ·have HV:=lH (show szD left (Enc.tot x)=-1 from j8 (by rw[HTOT.out];omega))
  rw[j8 h2]
  go_wp2_with (fail)
  go_ret
  exact b4.mk (by rw[HV.out];rfl)
 rw[B7 h2]
 go_wp2_with (first|(refine f7 rfl _ _ rfl (w.heap.size) 16 rfl (row:=(X0 x.Ground A.a3 A.c3 A.a4 A.c4 A.a5 A.c5 A.a6 A.c6 A.a7 A.c7 A.a8 A.c8)) (HB.out.to ii) _ Tryz.underlying43 rfl kr kr ?_))
 refine gm (bu3 (x:=x.Ground) ⟨⟨A.a3,A.c3,A.a4,A.c4,A.a5,A.c5,A.a6,A.c6,A.a7,A.c7,A.a8,A.c8⟩,rfl,⟨HFF.out.q3.keep ii,HFF.out.q4.keep ii,HFF.out.q5.keep ii,HFF.out.q6.keep ii,HFF.out.q7.keep ii,HFF.out.q8.keep ii,HOK.out.2.2.2.2.2.2.1⟩⟩ (by omega) (by omega)) ?_
 intro y3
 by_cases h3:left - d7 x.Plan - d7 x.Ups - d7 x.Downs - Enc.tot x.Ground<0
 ·have HV:=lH (show szD left (Enc.tot x)=-1 from j8 (by rw[HTOT.out];omega))
  rw[j8 h3]
  go_wp2_with (fail)
  go_ret
  exact b4.mk (by rw[HV.out];rfl)
 rw[B7 h3]
 go_wp2_with (first|(refine f7 rfl _ _ rfl (w.heap.size) 33 rfl (row:=(ad9 x.Space A.a9 A.c9 A.a10 A.c10 A.a11 A.c11 A.a12 A.c12 A.a13 A.c13 A.a14 A.c14 A.a15 A.c15 A.a16 A.c16 A.a17 A.c17 A.a18 A.c18 A.a19 A.c19)) (HB.out.to ii) _ Tryz.underlying58 rfl kr kr ?_))
 refine gm (bC6 (x:=x.Space) ⟨⟨A.a9,A.c9,A.a10,A.c10,A.a11,A.c11,A.a12,A.c12,A.a13,A.c13,A.a14,A.c14,A.a15,A.c15,A.a16,A.c16,A.a17,A.c17,A.a18,A.c18,A.a19,A.c19⟩,rfl,⟨HFF.out.q9.keep ii,HFF.out.q10.keep ii,HFF.out.q11.keep ii,HFF.out.q12.keep ii,HFF.out.q13.keep ii,HFF.out.q14.keep ii,HFF.out.q15.keep ii,HFF.out.q16.keep ii,HFF.out.q17.keep ii,HFF.out.q18.keep ii,HFF.out.q19.keep ii,HOK.out.2.2.2.2.2.2.2.1⟩⟩ (by omega) (by omega)) ?_
 intro y4
 by_cases h4:left - d7 x.Plan - d7 x.Ups - d7 x.Downs - Enc.tot x.Ground - Enc.tot x.Space<0
 ·have HV:=lH (show szD left (Enc.tot x)=-1 from j8 (by rw[HTOT.out];omega))
  rw[j8 h4]
  go_wp2_with (fail)
  go_ret
  exact b4.mk (by rw[HV.out];rfl)
 rw[B7 h4]
 go_wp2_with (fail)
 refine gm (am5 (HFF.out.q20.keep ii) (by omega) (by omega)) ?_
 intro y5
 by_cases h5:left - d7 x.Plan - d7 x.Ups - d7 x.Downs - Enc.tot x.Ground - Enc.tot x.Space - d7 x.Offered<0
 ·have HV:=lH (show szD left (Enc.tot x)=-1 from j8 (by rw[HTOT.out];omega))
  rw[j8 h5]
  go_wp2_with (fail)
  go_ret
  exact b4.mk (by rw[HV.out];rfl)
 rw[B7 h5]
 go_wp2_with (fail)
 refine gm (am5 (HFF.out.q21.keep ii) (by omega) (by omega)) ?_
 intro y6
 by_cases h6:left - d7 x.Plan - d7 x.Ups - d7 x.Downs - Enc.tot x.Ground - Enc.tot x.Space - d7 x.Offered - d7 x.Took<0
 ·have HV:=lH (show szD left (Enc.tot x)=-1 from j8 (by rw[HTOT.out];omega))
  rw[j8 h6]
  go_wp2_with (fail)
  go_ret
  exact b4.mk (by rw[HV.out];rfl)
 rw[B7 h6]
 have HV:=lH (show szD left (Enc.tot x)=left - d7 x.Plan - d7 x.Ups - d7 x.Downs - Enc.tot x.Ground - Enc.tot x.Space - d7 x.Offered - d7 x.Took by rw[B7 (by rw[HTOT.out];omega),HTOT.out]<;>omega)
 go_wp2_with (fail)
 go_ret
 exact b4.mk (by rw[HV.out];rfl)
theorem ar2{B B2:Nat}{vs vs2:List Value}{x:f5}{w:World}(h:Enc.Rd B w vs x)(h2:Enc.Rd B2 w vs2 x) :
  Calls Tryz.prog 8 #[.agg vs.toArray,.agg vs2.toArray] w (b4 w (.bool true)):=by
 obtain⟨A,rfl,F⟩:=h
 obtain⟨mA,rfl,mF⟩:=h2
 have HOK:=lH F.ok
 have HB:=lH ((i9.new w (A0 x A) 90 w.heap.size rfl).to (ii:d5 _ ((w.alloc (.cells (A0 x A).toArray 90)).alloc (.cells (A0 x mA).toArray 90))))
 have HC:=lH (i9.new (w.alloc (.cells (A0 x A).toArray 90)) (A0 x mA) 90 (w.heap.size+1) (by simp))
 have HFF:=lH F;clear F
 have HMF:=lH mF;clear mF
 go_enter Tryz.func8,Tryz.ntmps8
 go_wp2_with (first|(refine f7 rfl _ _ rfl (w.heap.size) 2 rfl (row:=[.int .i64 x.Drift.Rate,.int .i64 x.Drift.Offset]) (HB.out.to ii) _ Tryz.underlying62 rfl kr kr ?_)|(refine f7 rfl _ _ rfl (w.heap.size+1) 2 rfl (row:=[.int .i64 x.Drift.Rate,.int .i64 x.Drift.Offset]) (HC.out.to ii) _ Tryz.underlying62 rfl kr kr ?_))
 refine gm (bB2 (B:=0) (B2:=0) (x:=x.Drift) ⟨rfl,HOK.out.2.2.1⟩ ⟨rfl,HOK.out.2.2.1⟩) ?_
 intro y0
 go_wp2_with (first|(refine f7 rfl _ _ rfl (w.heap.size) 4 rfl (row:=[.int .i64 x.Orbit.Period,.int .i64 x.Orbit.Start,.int .i64 x.Orbit.Length]) (HB.out.to ii) _ Tryz.underlying63 rfl kr kr ?_)|(refine f7 rfl _ _ rfl (w.heap.size+1) 4 rfl (row:=[.int .i64 x.Orbit.Period,.int .i64 x.Orbit.Start,.int .i64 x.Orbit.Length]) (HC.out.to ii) _ Tryz.underlying63 rfl kr kr ?_))
 refine gm (bB4 (B:=0) (B2:=0) (x:=x.Orbit) ⟨rfl,HOK.out.2.2.2.1⟩ ⟨rfl,HOK.out.2.2.2.1⟩) ?_
 intro y1
 go_wp2_with (fail)
 refine gm (bB8 (HFF.out.q0.keep ii) (HMF.out.q0.keep ii)) ?_
 intro y2
 go_wp2_with (first|(refine f7 rfl _ _ rfl (w.heap.size) 8 rfl (row:=[.int .i64 x.Up.Seed,.int .i64 x.Up.Burst,.int .i64 x.Up.Loss]) (HB.out.to ii) _ Tryz.underlying65 rfl kr kr ?_)|(refine f7 rfl _ _ rfl (w.heap.size+1) 8 rfl (row:=[.int .i64 x.Up.Seed,.int .i64 x.Up.Burst,.int .i64 x.Up.Loss]) (HC.out.to ii) _ Tryz.underlying65 rfl kr kr ?_))
 refine gm (aK6 (B:=0) (B2:=0) (x:=x.Up) ⟨rfl,HOK.out.2.2.2.2.1⟩ ⟨rfl,HOK.out.2.2.2.2.1⟩) ?_
 intro y3
 go_wp2_with (first|(refine f7 rfl _ _ rfl (w.heap.size) 11 rfl (row:=[.int .i64 x.Down.Seed,.int .i64 x.Down.Burst,.int .i64 x.Down.Loss]) (HB.out.to ii) _ Tryz.underlying65 rfl kr kr ?_)|(refine f7 rfl _ _ rfl (w.heap.size+1) 11 rfl (row:=[.int .i64 x.Down.Seed,.int .i64 x.Down.Burst,.int .i64 x.Down.Loss]) (HC.out.to ii) _ Tryz.underlying65 rfl kr kr ?_))
 refine gm (aK6 (B:=0) (B2:=0) (x:=x.Down) ⟨rfl,HOK.out.2.2.2.2.2.1⟩ ⟨rfl,HOK.out.2.2.2.2.2.1⟩) ?_
 intro y4
 go_wp2_with (fail)
 refine gm (aK7 (HFF.out.q1.keep ii) (HMF.out.q1.keep ii)) ?_
 intro y5
 go_wp2_with (fail)
 refine gm (aK7 (HFF.out.q2.keep ii) (HMF.out.q2.keep ii)) ?_
 intro y6
 go_wp2_with (first|(refine f7 rfl _ _ rfl (w.heap.size) 16 rfl (row:=(X0 x.Ground A.a3 A.c3 A.a4 A.c4 A.a5 A.c5 A.a6 A.c6 A.a7 A.c7 A.a8 A.c8)) (HB.out.to ii) _ Tryz.underlying76 rfl kr kr ?_)|(refine f7 rfl _ _ rfl (w.heap.size+1) 16 rfl (row:=(X0 x.Ground mA.a3 mA.c3 mA.a4 mA.c4 mA.a5 mA.c5 mA.a6 mA.c6 mA.a7 mA.c7 mA.a8 mA.c8)) (HC.out.to ii) _ Tryz.underlying76 rfl kr kr ?_))
 refine gm (bt5 (x:=x.Ground) ⟨⟨A.a3,A.c3,A.a4,A.c4,A.a5,A.c5,A.a6,A.c6,A.a7,A.c7,A.a8,A.c8⟩,rfl,⟨HFF.out.q3.keep ii,HFF.out.q4.keep ii,HFF.out.q5.keep ii,HFF.out.q6.keep ii,HFF.out.q7.keep ii,HFF.out.q8.keep ii,HOK.out.2.2.2.2.2.2.1⟩⟩ ⟨⟨mA.a3,mA.c3,mA.a4,mA.c4,mA.a5,mA.c5,mA.a6,mA.c6,mA.a7,mA.c7,mA.a8,mA.c8⟩,rfl,⟨HMF.out.q3.keep ii,HMF.out.q4.keep ii,HMF.out.q5.keep ii,HMF.out.q6.keep ii,HMF.out.q7.keep ii,HMF.out.q8.keep ii,HOK.out.2.2.2.2.2.2.1⟩⟩) ?_
 intro y7
 go_wp2_with (first|(refine f7 rfl _ _ rfl (w.heap.size) 33 rfl (row:=(ad9 x.Space A.a9 A.c9 A.a10 A.c10 A.a11 A.c11 A.a12 A.c12 A.a13 A.c13 A.a14 A.c14 A.a15 A.c15 A.a16 A.c16 A.a17 A.c17 A.a18 A.c18 A.a19 A.c19)) (HB.out.to ii) _ Tryz.underlying88 rfl kr kr ?_)|(refine f7 rfl _ _ rfl (w.heap.size+1) 33 rfl (row:=(ad9 x.Space mA.a9 mA.c9 mA.a10 mA.c10 mA.a11 mA.c11 mA.a12 mA.c12 mA.a13 mA.c13 mA.a14 mA.c14 mA.a15 mA.c15 mA.a16 mA.c16 mA.a17 mA.c17 mA.a18 mA.c18 mA.a19 mA.c19)) (HC.out.to ii) _ Tryz.underlying88 rfl kr kr ?_))
 refine gm (bB9 (x:=x.Space) ⟨⟨A.a9,A.c9,A.a10,A.c10,A.a11,A.c11,A.a12,A.c12,A.a13,A.c13,A.a14,A.c14,A.a15,A.c15,A.a16,A.c16,A.a17,A.c17,A.a18,A.c18,A.a19,A.c19⟩,rfl,⟨HFF.out.q9.keep ii,HFF.out.q10.keep ii,HFF.out.q11.keep ii,HFF.out.q12.keep ii,HFF.out.q13.keep ii,HFF.out.q14.keep ii,HFF.out.q15.keep ii,HFF.out.q16.keep ii,HFF.out.q17.keep ii,HFF.out.q18.keep ii,HFF.out.q19.keep ii,HOK.out.2.2.2.2.2.2.2.1⟩⟩ ⟨⟨mA.a9,mA.c9,mA.a10,mA.c10,mA.a11,mA.c11,mA.a12,mA.c12,mA.a13,mA.c13,mA.a14,mA.c14,mA.a15,mA.c15,mA.a16,mA.c16,mA.a17,mA.c17,mA.a18,mA.c18,mA.a19,mA.c19⟩,rfl,⟨HMF.out.q9.keep ii,HMF.out.q10.keep ii,HMF.out.q11.keep ii,HMF.out.q12.keep ii,HMF.out.q13.keep ii,HMF.out.q14.keep ii,HMF.out.q15.keep ii,HMF.out.q16.keep ii,HMF.out.q17.keep ii,HMF.out.q18.keep ii,HMF.out.q19.keep ii,HOK.out.2.2.2.2.2.2.2.1⟩⟩) ?_
 intro y8
 go_wp2_with (fail)
 refine gm (am4 (HFF.out.q20.keep ii) (HMF.out.q20.keep ii)) ?_
 intro y9
 go_wp2_with (fail)
 refine gm (am4 (HFF.out.q21.keep ii) (HMF.out.q21.keep ii)) ?_
 intro y10
 go_wp2_with (fail)
 go_ret
 exact b4.mk rfl
def ac4(p:List ByteArray):Bool:=p.all (fun s=>decide (s.size≤24))
def ag3(f z k:Int)(p:List ByteArray):Bool:=inB f 0 7 && (inB z (-1) 600 && (inB k (-1) 65535 && (((z == -1) == (k == -1)) && (decide (p.length=25) && ac4 p))))
theorem bs3{a:Option Addr}{n c:Nat}{f z k:Int}{p:List ByteArray}{w:World}(hs:Sl R3 w a p)(hn:p.length=n)(hm:n≤4611686018427387904)(hsz:∀ s∈p,s.size≤100000000) :
  Calls Tryz.prog 206 #[.agg #[.int .i64 f,.int .i64 z,.int .i64 k,.slice a n c]] w (b4 w (.bool (ag3 f z k p))):=by
 have HS:=lH hsz;clear hsz
 have HF:=lH (show ag3 f z k p=(inB f 0 7 && (inB z (-1) 600 && (inB k (-1) 65535 && (((z == -1) == (k == -1)) && (decide (n=25) && ac4 p)))))by rw[ag3,hn])
 cases c1:inB f 0 7
 ·go_enter Tryz.func206,Tryz.ntmps206
  go_wp2_with (first|(go_at_call 114;refine gm (d6) ?_;intro x))
  go_ret
  exact b4.mk (by rw[HF.out,c1];rfl)
 cases c2:inB z (-1) 600
 ·go_enter Tryz.func206,Tryz.ntmps206
  go_wp2_with (first|(go_at_call 114;refine gm (d6) ?_;intro x))
  go_ret
  exact b4.mk (by rw[HF.out,c1,c2];rfl)
 cases c3:inB k (-1) 65535
 ·go_enter Tryz.func206,Tryz.ntmps206
  go_wp2_with (first|(go_at_call 114;refine gm (d6) ?_;intro x))
  go_ret
  exact b4.mk (by rw[HF.out,c1,c2,c3];rfl)
 cases c4:((z == -1) == (k == -1))
 ·have c5:((z == -1) != (k == -1))=true:=by rw[bne,c4];rfl
  go_enter Tryz.func206,Tryz.ntmps206
  go_wp2_with (first|(go_at_call 114;refine gm (d6) ?_;intro x))
  go_ret
  exact b4.mk (by rw[HF.out,c1,c2,c3,c4];rfl)
 have c5:((z == -1) != (k == -1))=false:=by rw[bne,c4];rfl
 have HF2:=lH (show ag3 f z k p=(decide (n=25) && ac4 p)by rw[HF.out,c1,c2,c3,c4];rfl)
 clear HF
 by_cases h6:n=25
 ·have c6:((n:Int) != 25)=false:=by simp;omega
  have HF3:=lH (show ag3 f z k p=ac4 p by rw[HF2.out,h6];rfl)
  clear HF2 h6
  go_enter Tryz.func206,Tryz.ntmps206
  go_wp2_with (first|(go_at_call 114;refine gm (d6) ?_;intro x))
  go_loopw [37] (fun v wr=>∃ k:Nat,v=.int .i64 k∧k≤n∧Hid (ac4 (p.drop k)=ac4 p)∧∃ x:b5 w,wr=x.w) (fun v _=>(n - intOf v).toNat)
  case atStart=>exact⟨0,rfl,by omega,rfl,b5.of⟩
  case round =>
   obtain⟨k,rfl,hk,hf,x,rfl⟩:=hrel
   by_cases h:k<n
   ·obtain⟨b,off,s,rfl,hb,hd,h0⟩:=hs.str (show k<p.length by omega)
    have hsm:s.size≤100000000:=HS.out s (List.mem_of_mem_drop (by rw[hd.out];exact List.mem_cons_self ..))
    by_cases h7:24<s.size
    ·go_wp2_with (fail)
     go_ret
     exact b4.mk (by have:=hf.out;rw[hd.out,ac4,List.all_cons,decide_eq_false (by omega)]at this;rw[HF3.out,← this];rfl)
    ·go_wp2_with (fail)
     go_roundw
     case rel=>exact⟨k+1,by go_num,by omega,by have:=hf.out;rw[hd.out,ac4,List.all_cons,decide_eq_true (by omega)]at this;exact this,b5.of⟩
     case measure=>simp[intOf];omega
   ·go_wp2_with (fail)
    go_ret
    exact b4.mk (by have:=hf.out;rw[List.drop_of_length_le (by omega)]at this;rw[HF3.out,← this];rfl)
 ·have c6:((n:Int) != 25)=true:=by simp;omega
  have HF3:=lH (show ag3 f z k p=false by rw[HF2.out,decide_eq_false h6];rfl)
  clear HF2 h6
  go_enter Tryz.func206,Tryz.ntmps206
  go_wp2_with (first|(go_at_call 114;refine gm (d6) ?_;intro x))
  go_ret
  exact b4.mk (by rw[HF3.out];rfl)
theorem bt0{a:Option Addr}{n c:Nat}{f z k:Int}{p:List ByteArray}{w:World}(hs:Sl R3 w a p)(hn:p.length=n)(hm:n≤4611686018427387904)(hsz:∀ s∈p,s.size≤100000000) :
  Calls Tryz.prog 173 #[.agg #[.int .i64 f,.int .i64 z,.int .i64 k,.slice a n c]] w (b4 w (.bool (ag3 f z k p))):=by
 have HS:=lH hsz;clear hsz
 have HF:=lH (show ag3 f z k p=(inB f 0 7 && (inB z (-1) 600 && (inB k (-1) 65535 && (((z == -1) == (k == -1)) && (decide (n=25) && ac4 p)))))by rw[ag3,hn])
 go_enter Tryz.func173,Tryz.ntmps173
 go_wp2_with (fail)
 go_loopw [3] (fun v wr=>∃ j:Nat,v=.int .i64 j∧j≤n∧Hid (ac4 (p.drop j)=ac4 p)∧∃ x:b5 (w.alloc (.cells #[.int .i64 f,.int .i64 z,.int .i64 k,.slice a n c] 150)),wr=x.w) (fun v _=>(n - intOf v).toNat)
 case atStart=>exact⟨0,rfl,by omega,rfl,b5.of⟩
 case round =>
  obtain⟨j,rfl,hk,hf,x,rfl⟩:=hrel
  by_cases h:j<n
  ·obtain⟨b,off,s,rfl,hb,hd,h0⟩:=hs.str (show j<p.length by omega)
   have hsm:s.size≤100000000:=HS.out s (List.mem_of_mem_drop (by rw[hd.out];exact List.mem_cons_self ..))
   by_cases h7:24<s.size
   ·go_wp2_with (fail)
    go_ret
    exact b4.mk (by have:=hf.out;rw[hd.out,ac4,List.all_cons,decide_eq_false (by omega)]at this;rw[HF.out,← this];simp)
   ·go_wp2_with (fail)
    go_roundw
    case rel=>exact⟨j+1,by go_num,by omega,by have:=hf.out;rw[hd.out,ac4,List.all_cons,decide_eq_true (by omega)]at this;exact this,b5.of⟩
    case measure=>simp[intOf];omega
  ·have hf':=hf.out
   rw[List.drop_of_length_le (by omega)]at hf'
   have HA:=lH (show ac4 p=true from hf'.symm);clear hf hf'
   cases c1:inB f 0 7
   ·go_wp2_with (first|(go_at_call 73;refine gm (d8) ?_;intro x))
    go_ret
    exact b4.mk (by rw[HF.out,c1];rfl)
   cases c2:inB z (-1) 600
   ·go_wp2_with (first|(go_at_call 73;refine gm (d8) ?_;intro x))
    go_ret
    exact b4.mk (by rw[HF.out,c1,c2];rfl)
   cases c3:inB k (-1) 65535
   ·go_wp2_with (first|(go_at_call 73;refine gm (d8) ?_;intro x))
    go_ret
    exact b4.mk (by rw[HF.out,c1,c2,c3];rfl)
   cases c4:((z == -1) == (k == -1))
   ·go_wp2_with (first|(go_at_call 73;refine gm (d8) ?_;intro x))
    go_ret
    exact b4.mk (by rw[HF.out,c1,c2,c3,c4];rfl)
   by_cases h6:n=25
   ·have c6:((n:Int) == 25)=true:=by simp;omega
    have HF3:=lH (show ag3 f z k p=true by rw[HF.out,c1,c2,c3,c4,h6,HA.out];rfl)
    clear HF h6 HA
    go_wp2_with (first|(go_at_call 73;refine gm (d8) ?_;intro x))
    go_ret
    exact b4.mk (by rw[HF3.out];rfl)
   ·have c6:((n:Int) == 25)=false:=by simp;omega
    have HF3:=lH (show ag3 f z k p=false by rw[HF.out,c1,c2,c3,c4,decide_eq_false h6];rfl)
    clear HF h6 HA
    go_wp2_with (first|(go_at_call 73;refine gm (d8) ?_;intro x))
    go_ret
    exact b4.mk (by rw[HF3.out];rfl)
def bAt(s:ByteArray)(i:Nat):Int:=if h:i<s.size then(s[i].toNat:Int)else 0
theorem ak7{s:ByteArray}{i:Nat}(h:i<s.size):bAt s i=(s[i].toNat:Int):=dif_pos h
theorem W7(s:ByteArray)(i:Nat):0≤bAt s i∧bAt s i≤255:=by
 unfold bAt
 split
 ·rename_i h
  have:=s[i].toNat_lt
  omega
 ·omega
theorem aP4{a b:ByteArray}(h:a.data.toList=b.data.toList):a=b:=by
 cases a;cases b;congr 1;exact Array.ext' h
theorem aN3(x:UInt8):UInt8.ofNat ((x.toNat:Int) % 256).toNat=x:=by
 have:=x.toNat_lt
 rw[show((x.toNat:Int) % 256).toNat=x.toNat by omega];simp
theorem b5.size_set{W:World}(x:b5 W)(a:Addr)(v:Value):(x.set a v).w.heap.size=x.w.heap.size:=by
 show(x.w.setCell a v).heap.size=_
 simp
theorem aZ7{a b:Option Addr}{n n2 c c2:Nat}{f file:Int}{s:ByteArray}{d:Bool}{q l:List Int}{w:World}(hs:Sl K0 w a q)(hs2:Sl K0 w b l)(hnil:a=none→c=0)(hn:q.length=n)(hn2:l.length=n2)(hm:n≤100000000)(hm2:n2≤100000000)(hsz:s.size≤100000000) :
  Calls Tryz.prog 87 #[.agg #[.int .i64 f,.string s,.slice a n c,.bool d],.int .i64 file,.slice b n2 c2] w (aX2 w f s (Y5 f s.size q file l) (af7 f s.size q d file l)):=by
 have HNIL:=lH hnil;clear hnil
 go_enter Tryz.func87,Tryz.ntmps87
 go_wp2_with (first|((with_reducible refine rl ?_);refine rq ?_;intro x))
 refine(aG0 (hs.to ii) HNIL.out hn (by omega)).mono ?_
 rintro _ _ ⟨a1,c1,rfl,o1,y1,rfl⟩
 rw[hn]
 have O1:=lH (o1.mono (B':=w.heap.size+2) (by simp));clear o1
 go_wp2_with (first|((with_reducible refine rl ?_);refine rq ?_;intro x))
 refine gm (ax6 (hs.to ii) hn (by omega) hsz) ?_
 intro y2
 cases q1:L8 f s.size q
 ·have HQ:=lH (show Y5 f s.size q file l=q∧af7 f s.size q d file l=d by simp[Y5,af7,q1])
  go_wp2_with (first|((with_reducible refine rl ?_);(repeat(first|go_big_quiet_step (first|fail)|simp only[q1]));refine wpQuiet_nil ?_;intro x))
  refine bodyPost_ret (v:=.agg #[.int .i64 f,.string s,.slice a1 n c1,.bool d]) ?_ rfl ⟨a1,c1,by rw[HQ.out.1,HQ.out.2,hn],?_,?_⟩
  ·simp[results,Tryz.results87,go_sem]
  ·have O2:=O1.out.to (ii:d5 y1.w y2.w)
   rw[HQ.out.1]
   refine Own.mono (B:=w.heap.size+2) ?_ (by omega)
   repeat(first|(with_reducible exact O2)|(with_reducible refine Own.lowS ?_ (by omega) _ _))
  ·exact b5.of
 ·cases q2:(file == f)
  ·have HQ:=lH (show Y5 f s.size q file l=q∧af7 f s.size q d file l=d by simp[Y5,af7,q1,q2])
   have q3:(file != f)=true:=by simp[bne,q2]
   go_wp2_with (first|((with_reducible refine rl ?_);(repeat(first|go_big_quiet_step (first|fail)|simp only[q1]|simp only[q3]));refine wpQuiet_nil ?_;intro x))
   refine bodyPost_ret (v:=.agg #[.int .i64 f,.string s,.slice a1 n c1,.bool d]) ?_ rfl ⟨a1,c1,by rw[HQ.out.1,HQ.out.2,hn],?_,?_⟩
   ·simp[results,Tryz.results87,go_sem]
   ·have O2:=O1.out.to (ii:d5 y1.w y2.w)
    rw[HQ.out.1]
    refine Own.mono (B:=w.heap.size+2) ?_ (by omega)
    repeat(first|(with_reducible exact O2)|(with_reducible refine Own.lowS ?_ (by omega) _ _))
   ·exact b5.of
  ·have q3:(file != f)=false:=by simp[bne,q2]
   by_cases hz:n2=0
   ·have HQ:=lH (show Y5 f s.size q file l=[]∧af7 f s.size q d file l=true by simp[Y5,af7,q1,q2,hn2,hz])
    have hz2:((n2:Int) == 0)=true:=by simp[hz]
    have HZ:=lH hz;clear hz
    go_wp2_with (first|((with_reducible refine rl ?_);(repeat(first|go_big_quiet_step (first|fail)|simp only[q1]|simp only[q3]|simp only[hz2]));refine wpQuiet_nil ?_;intro x))
    refine bodyPost_ret (v:=.agg #[.int .i64 f,.string s,.slice (some ⟨(y2.set ⟨y1.w.heap.size,3,none⟩ (.bool true)).w.heap.size,0,none⟩) 0 0,.bool true]) ?_ rfl ⟨_,0,by rw[HQ.out.1,HQ.out.2];rfl,?_,?_⟩
    ·simp[results,Tryz.results87,go_sem]
    ·rw[HQ.out.1]
     refine Own.emptyAt ak9 ?_ (by simp only[b5.size_set])
     exact LeN.out
    ·exact b5.of
   ·have hz2:((n2:Int) == 0)=false:=by simp;omega
    have hcs:=ap9 s.size
    have hl0:l≠[]:=by rintro rfl;simp at hn2;omega
    have LT:=i9.new y1.w [.int .i64 f,.string s,.slice a1 n c1,.bool d] 155 y1.w.heap.size rfl
    have HQ:=lH (LT.to (ii:d5 _ y2.w))
    have hown0:=lH (O1.out.to (ii:d5 y1.w y2.w))
    clear LT O1
    have hgb:LeN ((w.alloc (.cells #[.int .i64 f,.string s,.slice a n c,.bool d] 155)).alloc (.cells #[.int .i64 0,.string ⟨#[]⟩,.slice none 0 0,.bool false] 155)).heap.size y1.w.heap.size:=inferInstance
    obtain⟨gb,hge⟩:∃ g,y1.w.heap.size=g:=⟨_,rfl⟩
    obtain⟨Y,hY⟩:=b5.of (w:=(w.alloc (.cells #[.int .i64 f,.string s,.slice a n c,.bool d] 155)).alloc (.cells #[.int .i64 0,.string ⟨#[]⟩,.slice none 0 0,.bool false] 155)) (W:=y2.w)
    rw[hge]at HQ hgb
    rw[hY]at HQ hown0 ⊢
    simp only[hge]
    have hown1:=lH (hown0.out.mono (B':=((w.alloc (.cells #[.int .i64 f,.string s,.slice a n c,.bool d] 155)).alloc (.cells #[.int .i64 0,.string ⟨#[]⟩,.slice none 0 0,.bool false] 155)).heap.size) (by simp))
    clear hown0 hY hge y1 y2
    go_wp2_with (first|((with_reducible refine rl ?_);(repeat(first|go_big_quiet_step (first|fail)|simp only[q1]|simp only[q3]|simp only[hz2]));refine wpQuiet_nil ?_;intro x))
    go_loopw [8] (fun v wr=>∃ (k m:Nat) (acc:List Int) (sa:Option Addr) (sc:Nat),v=.int .i64 k∧k≤n2∧acc.length=m∧m≤n+k∧Hid (acc++af9 (L7 s.size) (l.drop k)=q++af9 (L7 s.size) l)∧Hid (i9 wr gb [.int .i64 f,.string s,.slice sa m sc,.bool d] 155)∧Hid (Own K0 3 1 ((w.alloc (.cells #[.int .i64 f,.string s,.slice a n c,.bool d] 155)).alloc (.cells #[.int .i64 0,.string ⟨#[]⟩,.slice none 0 0,.bool false] 155)).heap.size wr sa sc acc)∧∃ y:b5 ((w.alloc (.cells #[.int .i64 f,.string s,.slice a n c,.bool d] 155)).alloc (.cells #[.int .i64 0,.string ⟨#[]⟩,.slice none 0 0,.bool false] 155)),wr=y.w) (fun v _=>(n2 - intOf v).toNat)
    case atStart=>exact⟨0,n,q,a1,c1,rfl,by omega,hn,by omega,rfl,HQ,hown1,b5.of⟩
    case round =>
     obtain⟨k,m,acc,sa,sc,rfl,hk,hacc,hmk,hf,HQ',HO',y,rfl⟩:=hrel
     clear HQ hown1
     obtain⟨e0,e1,e2,e3,k0,k1,k2,k3⟩:=HQ'.out.four
     have hlt:=HQ'.out.ltN
     by_cases h:k<n2
     ·obtain⟨b1,off,v,rfl,hb,hd,h0⟩:=hs2.int (show k<l.length by omega)
      cases cc:inB v 0 (L7 s.size - 1)
      ·go_wp2_with (first|((with_reducible refine rl ?_);(repeat(first|go_big_quiet_step (first|(go_at_call 185;exact b4.quiet (S8))|(go_at_call 73;exact b4.quiet (d8)))|simp only[cc]));refine wpQuiet_nil ?_;intro x)|(go_at_call 185;refine gm (S8) ?_;intro x)|(go_at_call 73;refine gm (d8) ?_;intro x))
       go_roundw
       case rel=>exact⟨k+1,m,acc,sa,sc,by go_num,by omega,hacc,by omega,by have:=hf.out;rw[hd.out,af9,List.filter_cons_of_neg (by rw[cc];simp)]at this;exact this,HQ'.out.to ii,HO'.out.to ii,b5.of⟩
       case measure=>simp[intOf];omega
      ·have hown:=HO'.out
       go_wp2_with (first|((with_reducible refine rl ?_);(repeat(first|go_big_quiet_step (first|(go_at_call 185;exact b4.quiet (S8))|(go_at_call 73;exact b4.quiet (d8)))|simp only[cc]));refine wpQuiet_nil ?_;intro x)|(go_at_call 185;refine gm (S8) ?_;intro x)|(go_at_call 73;refine gm (d8) ?_;intro x))
       go_region_law (refine bI5 rfl (bI9 (enc:=K0) (w0:=((w.alloc (.cells #[.int .i64 f,.string s,.slice a n c,.bool d] 155)).alloc (.cells #[.int .i64 0,.string ⟨#[]⟩,.slice none 0 0,.bool false] 155))) (B:=((w.alloc (.cells #[.int .i64 f,.string s,.slice a n c,.bool d] 155)).alloc (.cells #[.int .i64 0,.string ⟨#[]⟩,.slice none 0 0,.bool false] 155)).heap.size) (z:=.int .i64 0) (size:=1) (bytes:=8) v (.tmp 45) (.tmp 50) rfl Tryz.underlying46 kr rfl (by decide) (by decide) rfl rfl hacc (Own.to hown ii) bk rfl (af5 _) (by omega) LeN.out ii LeN.out ?_);intro sa1 sc1 x1 hown1 hgr1;have HQ1:=(HQ'.out.to ii).kept (Own.to hown ii) (by decide) hgr1;obtain⟨e0',e1',e2',e3',k0',k1',k2',k3'⟩:=HQ1.four;have hlt1:=HQ1.ltN;have HH1:=lH HQ1;have HOW1:=lH hown1;clear HQ1 hown1 hgr1)
       all_goals
        go_wp2_with (first|((with_reducible refine rl ?_);refine rq ?_;intro x))
        go_roundw
        case rel=>exact⟨k+1,m+1,acc++[v],sa1,sc1,by go_num,by omega,by simp[hacc],by omega,by have:=hf.out;rw[hd.out,af9,List.filter_cons_of_pos (by rw[cc])]at this;simpa[Hid,af9]using this,HH1.out.set 2 _,HOW1.out.set HH1.out (by decide) 2 _,b5.of⟩
        case measure=>simp[intOf];omega
     ·have hf':=hf.out
      rw[List.drop_of_length_le (by omega),af9,List.filter_nil,List.append_nil]at hf'
      have hown:=HO'.out
      have HF:=lH hf';clear hf hf'
      go_wp2_with (first|((with_reducible refine rl ?_);refine rq ?_;intro x)|((at_builtin;refine aE0 (enc:=K0) (w0:=_) (z:=.int .i64 0) (size:=1) (bytes:=8) (-1:Int) rfl (.tmp 54) (.tmp 55) rfl Tryz.underlying46 kr rfl (by decide) (by decide) rfl rfl hacc (Own.to hown ii) rfl (af5 _) (by omega) ?_;intro sa1 sc1 x1 hown1 hgr1);have HQ1:=(HQ'.out.to ii).kept (Own.to hown ii) (by decide) hgr1;obtain⟨e0',e1',e2',e3',k0',k1',k2',k3'⟩:=HQ1.four;have hlt1:=HQ1.ltN;have HQ2:i9 (x1.set ⟨gb,2,none⟩ (.slice sa1 (m+1) sc1)).w gb [.int .i64 f,.string s,.slice sa1 (m+1) sc1,.bool d] 155:=HQ1.set 2 _;have HO2:Own K0 3 1 ((w.alloc (.cells #[.int .i64 f,.string s,.slice a n c,.bool d] 155)).alloc (.cells #[.int .i64 0,.string ⟨#[]⟩,.slice none 0 0,.bool false] 155)).heap.size (x1.set ⟨gb,2,none⟩ (.slice sa1 (m+1) sc1)).w sa1 sc1 (acc++[-1]):=hown1.set HQ1 (by decide) 2 _;obtain⟨i0,i1,i2,i3,j0,j1,j2,j3⟩:=HQ2.four;have HH1:=lH HQ1;have HH2:=lH HQ2;have HOW2:=lH HO2;clear HQ1 HQ2 HO2 hown1 hgr1))
      have hl1:(acc++[-1]).length=m+1:=by simp[hacc]
      refine gm (ax6 HOW2.out.sl hl1 (by omega) hsz) ?_
      intro y5
      have h5:=HOW2.out.to (ii:d5 _ y5.w)
      have h6:=HH2.out.to (ii:d5 _ y5.w)
      obtain⟨Z,hZ⟩:=b5.of (w:=((w.alloc (.cells #[.int .i64 f,.string s,.slice a n c,.bool d] 155)).alloc (.cells #[.int .i64 0,.string ⟨#[]⟩,.slice none 0 0,.bool false] 155))) (W:=y5.w)
      rw[hZ]at h5 h6 ⊢
      clear hZ y5 HOW2 HH2 HH1 HQ' HO' hown e0 e1 e2 e3 k0 k1 k2 k3 e0' e1' e2' e3' k0' k1' k2' k3' i0 i1 i2 i3 j0 j1 j2 j3 hlt hlt1
      obtain⟨e0,e1,e2,e3,k0,k1,k2,k3⟩:=h6.four
      have hlt:=h6.ltN
      have H5:=lH (h5.mono (B':=w.heap.size+2) (by simp));clear h5 h6
      rw[HF.out]at H5 ⊢
      cases q5:L8 f s.size (q++af9 (L7 s.size) l++[-1])
      ·have HQ:=lH (bv9 (d:=d) q1 q2 hl0 q5)
       go_wp2_with (first|((with_reducible refine rl ?_);(repeat(first|go_big_quiet_step (first|fail)|simp only[q5]));refine wpQuiet_nil ?_;intro x))
       refine(aG0 (hs.to ii) HNIL.out hn (by omega)).mono ?_
       rintro _ _ ⟨a9,c9,rfl,o9,y9,rfl⟩
       rw[hn]
       have O1:=lH (o9.mono (B':=w.heap.size+2) (LeN.out (a:=w.heap.size+2)));clear o9
       go_wp2_with (first|((with_reducible refine rl ?_);refine rq ?_;intro x))
       refine bodyPost_ret (v:=.agg #[.int .i64 f,.string s,.slice a9 n c9,.bool d]) ?_ rfl ⟨a9,c9,by rw[HQ.out.1,HQ.out.2,hn],?_,?_⟩
       ·simp[results,Tryz.results87,go_sem]
       ·have O2:Own K0 3 1 (w.heap.size+2) (Z.andThen y9).w a9 c9 q:=O1.out
        rw[HQ.out.1]
        refine Own.mono (B:=w.heap.size+2) ?_ (by omega)
        repeat(first|(with_reducible exact O2)|(with_reducible refine Own.lowS ?_ (by omega) _ _))
       ·exact b5.of
      ·have HQ:=lH (bk2 (d:=d) q1 q2 hl0 q5)
       rw[HF.out]at hl1
       go_wp2_with (first|((with_reducible refine rl ?_);(repeat(first|go_big_quiet_step (first|fail)|simp only[q5]));refine wpQuiet_nil ?_;intro x))
       refine bodyPost_ret (v:=.agg #[.int .i64 f,.string s,.slice sa1 (m+1) sc1,.bool d]) ?_ rfl ⟨sa1,sc1,by rw[HQ.out.1,HQ.out.2,hl1],?_,?_⟩
       ·simp[results,Tryz.results87,go_sem]
       ·have O2:=H5.out
        rw[HQ.out.1]
        refine Own.mono (B:=w.heap.size+2) ?_ (by omega)
        repeat(first|(with_reducible exact O2)|(with_reducible refine Own.lowS ?_ (by omega) _ _))
       ·exact b5.of
def nib(n:Int):Int:=([0,135,153,30,170,45,51,180,75,204,210,85,225,102,120,255]:List Int).getD n.toNat 0
def bW1(l:List Int):List Int:=l.flatMap fun b=>[nib (b / 16),nib (b % 16)]
def at9(n:Int):Int:=n % 2+n / 2 % 2+n / 4 % 2+n / 8 % 2+n / 16 % 2+n / 32 % 2+n / 64 % 2+n / 128 % 2
theorem bL6{n:Int}(h0:0≤n)(h1:n≤255):at9 n=n % 2+at9 (n / 2):=by unfold at9;omega
def up1(f:Int→Int→Int)(D:List Int)(q:Nat × Int):List Int:=D.set q.1 (f (D.getD q.1 0) q.2)
theorem br4(f:Int→Int→Int)(D:List Int)(q:Nat × Int):(up1 f D q).length=D.length:=by simp[up1]
theorem bI7(f:Int→Int→Int):∀ (q:List (Nat × Int)) (D:List Int),(q.foldl (up1 f) D).length=D.length
 | [],_=>rfl
 | x::q,D=>by rw[List.foldl_cons,bI7 f q,br4]
theorem bP4{f:Int→Int→Int}(hf:∀ a x y,f (f a x) y=f (f a y) x)(D:List Int)(p q:Nat × Int):up1 f (up1 f D p) q=up1 f (up1 f D q) p:=by
 obtain⟨i,x⟩:=p
 obtain⟨j,y⟩:=q
 simp only[up1]
 by_cases h:i=j
 ·subst h
  by_cases hi:i<D.length
  ·simp[List.getD,hi,hf]
  ·simp[List.set_eq_of_length_le (Nat.le_of_not_lt hi)]
 ·rw[List.set_comm _ _ h]
  simp[List.getD,h,Ne.symm h]
theorem bM0{f:Int→Int→Int}(hf:∀ a x y,f (f a x) y=f (f a y) x){p q:List (Nat × Int)}(h:p.Perm q)(D:List Int):p.foldl (up1 f) D=q.foldl (up1 f) D :=
 h.foldl_eq' (fun x _ y _ D=>bP4 hf D x y) D
def bW3(l:List Int)(m k:Nat):Nat × Int:=((k*l.length+m) / 8,IntKind.u8.wrap (l.getD m 0 / 2 ^ k % 2*2 ^ ((k*l.length+m) % 8)))
def orU(a b:Int):Int:=bits .or .u8 a b
def br5(a b:Int):Int:=bits .xor .u8 a b
theorem bO2(a x y:Int):orU (orU a x) y=orU (orU a y) x:=by
 have hw:∀ z:BitVec 8,BitVec.ofInt 8 (IntKind.u8.wrap (z.toNat:Int))=z:=fun z=>by
  apply BitVec.eq_of_toNat_eq
  rw[BitVec.toNat_ofInt]
  have:=z.isLt
  simp[IntKind.wrap,IntKind.bits,IntKind.signed]
  omega
 have h:∀ a b:Int,orU a b=IntKind.u8.wrap ((BitVec.ofInt 8 a ||| BitVec.ofInt 8 b).toNat:Int):=fun a b=>rfl
 rw[h (orU a x),h a x,hw,h (orU a y),h a y,hw,BitVec.or_assoc,BitVec.or_assoc,BitVec.or_comm (BitVec.ofInt 8 x)]
def bW2(l:List Int)(m k n:Nat):List (Nat × Int):=(List.range' k n).map (bW3 l m)
def bU9(l:List Int)(m n:Nat):List (Nat × Int):=(List.range' m n).flatMap fun m=>bW2 l m 0 8
theorem aL7{α β γ:Type}(f:α→β→γ):∀ (x:List α) (y:List β),(x.flatMap fun a=>y.map (f a)).Perm (y.flatMap fun b=>x.map fun a=>f a b)
 | [],y=>by
  have:(y.flatMap fun b=>([]:List α).map fun a=>f a b)=[]:=by induction y<;>simp_all
  rw[this];exact .nil
 | a::x,y=>by
  rw[List.flatMap_cons]
  refine(List.Perm.append_left _ (aL7 f x y)).trans ?_
  induction y with
  | nil=>exact .nil
  | cons b y ih =>
   simp only[List.map_cons,List.flatMap_cons,List.cons_append]
   refine .cons _ ?_
   refine List.Perm.trans ?_ (List.Perm.append_left _ ih)
   rw[← List.append_assoc,← List.append_assoc]
   exact List.Perm.append_right _ List.perm_append_comm
@[irreducible] def bT5(l:List Int):List Int:=(bU9 l 0 l.length).foldl (up1 orU) (List.replicate l.length 0)
def bh1(x:Int):Int:=2*x % 256+(x / 128+x / 16+x / 4+x) % 2
def scr:Int→List Int→List Int
 | _,[]=>[]
 | x,b::l=>br5 b x::scr (bh1 x) l
theorem bH4{x:Int}(h0:0≤x):0≤bh1 x∧bh1 x≤255:=by unfold bh1;omega
theorem aX8:∀ (l:List Int) (x:Int),(scr x l).length=l.length
 | [],_=>rfl
 | _::l,x=>by rw[scr,List.length_cons,aX8 l,List.length_cons]
def be2:ByteArray:=⟨#[26,207,252,29]⟩
@[irreducible] def bV4(s:ByteArray):ByteArray:=be2++strOfNums (scr 255 (j4 (strOfNums (bT5 (j4 (strOfNums (bW1 (j4 s))))))))
theorem aw9{s:ByteArray}(h:s.size=0):s=⟨#[]⟩:=by
 obtain⟨a⟩:=s
 simp only[ByteArray.size]at h
 rw[Array.eq_empty_of_size_eq_zero h]
theorem al4{s:ByteArray}(h:¬ s.size=0):s.toList.isEmpty=false:=by
 rw[ByteArray.toList_eq]
 cases e:s.data.toList with
 | nil=>exact absurd (show s.size=0 by rw[ByteArray.size,← Array.length_toList,e];rfl) h
 | cons=>rfl
def au2(s:ByteArray):ByteArray:=s++aD9 (ai7 s)
def bn8(kind seq:Int)(s:ByteArray):ByteArray:=au2 (Z2 kind++Z2 seq++s)
/-! ### What is missing -/
section
variable {P:Program} {ops:Array Oper} {Q:Exit→Act→World→Prop} {b:Act} {w:World} {i:Nat} {G:Value→World→Prop}
def bM6(ops:Array Oper)(b:Act)(i:Nat):Option (FuncId × List Value) :=
 if Region.wanted (aj1 ops i) (yielded ops b.tmps)then(match (aj1 ops i).op with|.call { callee:=.value (.func f),args:=xs,argTypes:=_ }=>some (f,xs.toList.map b.eval)|_=>none)else none
def loadAt(ops:Array Oper)(b:Act)(i:Nat):Option (TypeId × Value) :=
 if Region.wanted (aj1 ops i) (yielded ops b.tmps)then(match (aj1 ops i).op with|.load t x=>some (t,b.eval x)|_=>none)else none
theorem bo1{f:FuncId}{fn:Func}{args:List Value}(hf:P.funcs[f]?=some fn)(hk:bM6 ops b i=some (f,args))(hn:(fn.name == "runtime.NumGoroutine" || fn.body.isNone)=false)
  (hc:Calls P f args.toArray w fun e w'=>∃ v,e=.returned v∧G v w'):V1 P ops (aj1 ops i) b w G:=by
 rw[Bool.or_eq_false_iff]at hn
 unfold bM6 at hk
 unfold V1
 split at hk
 case isFalse=>cases hk
 rename_i hw
 rw[if_pos hw]
 split at hk
 case h_2=>cases hk
 rename_i f' xs ts hop
 simp only[Option.some.injEq,Prod.mk.injEq]at hk
 obtain⟨rfl,rfl⟩:=hk
 rw[be0 hop hf hn.1 hn.2]
 have:xs.map b.eval=(xs.toList.map b.eval).toArray:=by apply Array.ext';simp
 rw[this]
 exact hc
theorem bU6{B:Nat}{cs:List Value}{T:TypeId}{Fs:ak6 Gr}{val:Nat→Value}{k:Nat}(he:U5 Fs k=Ent.box B cs T)(hr:aO6 P ops b w i=some (.pointer (some ⟨w.heap.size,0,none⟩),w.alloc (.cells cs.toArray T)))(hB:B≤w.heap.size) :
  V1 P ops (aj1 ops i) b w (fun v w'=>(∃ y:b5 w,w'=y.w)∧aj4 Fs k val v w') :=
 aE4 hr ⟨b5.of,by unfold aj4;rw[he];exact⟨_,rfl,hB,i9.new w cs T _ rfl⟩⟩
theorem br0{bb o:Nat}{cs row:List Value}{T ty:TypeId}(H:i9 w bb cs T)(d:TypeDesc)(hu:P.underlying ty=some d)(hd:d.isRow=true)(hi:(P.info? ty).map (·.size)=some row.length)(hr:(cs.drop o).take row.length=row) :
  (Instr.loadAt ty (.pointer (some ⟨bb,o,none⟩))).run P w=.ok (.agg row.toArray) w:=by
 simp only[Instr.loadAt,Instr.sureAddr,Sem.run_bind,Sem.run_pure,Result.andThen_ok,run_loadVar_mid w bb o ty row d (H.range hr) hu hd hi]
theorem bD1{x v:Value}{ty:TypeId}(hk:loadAt ops b i=some (ty,x))(hr:(Instr.loadAt ty x).run P w=.ok v w)(hG:G v w):V1 P ops (aj1 ops i) b w G:=by
 unfold loadAt at hk
 unfold V1
 split at hk
 case isFalse=>cases hk
 rename_i hw
 rw[if_pos hw]
 split at hk
 case h_2=>cases hk
 rename_i t y hop
 simp only[Option.some.injEq,Prod.mk.injEq]at hk
 obtain⟨rfl,rfl⟩:=hk
 unfold execOp
 simp only[hop,Sem.run_bind,hr,Result.andThen_ok,Sem.run_pure,ae2]
 exact hG
theorem bG9{bb o:Nat}{cs row:List Value}{T ty:TypeId}{Fs:ak6 Gr}{val:Nat→Value}{k:Nat}(H:i9 w bb cs T)(he:(U5 Fs k).fix=some fun _=>.agg row.toArray)(hk:loadAt ops b i=some (ty,.pointer (some ⟨bb,o,none⟩)))(d:TypeDesc)(hu:P.underlying ty=some d)(hd:d.isRow=true)
  (hi:(P.info? ty).map (·.size)=some row.length) (hr:(cs.drop o).take row.length=row):V1 P ops (aj1 ops i) b w (fun v w'=>(∃ y:b5 w,w'=y.w)∧aj4 Fs k val v w') :=
 bD1 hk (br0 H d hu hd hi hr) ⟨b5.of,by unfold aj4;rw[he]⟩
theorem aQ3{bb o:Nat}{v:Value}{ty:TypeId}{Fs:ak6 Gr}{val:Nat→Value}{k:Nat}(hc:w.cell? ⟨bb,o,none⟩=some v)(he:(U5 Fs k).fix=some fun _=>v)(hk:loadAt ops b i=some (ty,.pointer (some ⟨bb,o,none⟩)))(d:TypeDesc)(hu:P.underlying ty=some d)(hd:d.isRow=false) :
  V1 P ops (aj1 ops i) b w (fun v w'=>(∃ y:b5 w,w'=y.w)∧aj4 Fs k val v w'):=by
 refine bD1 hk (v:=v) ?_ ⟨b5.of,by unfold aj4;rw[he]⟩
 have hagg:(isAgg ty).run P w=.ok false w:=by
  unfold isAgg
  rw[Sem.run_bind,run_underlying hu w]
  cases d<;>simp_all [TypeDesc.isRow]
 simp[Instr.loadAt,Instr.sureAddr,Sem.run_bind,loadVar,hagg,go_sem,hc]
def bU7(ops:Array Oper)(b:Act)(i:Nat):Option (TypeId × Value × Value) :=
 if Region.wanted (aj1 ops i) (yielded ops b.tmps)then(match (aj1 ops i).op with|.indexAddr t x j=>some (t,b.eval x,b.eval j)|_=>none)else none
theorem bv6{bb o n c j size:Nat}{t:TypeId}{Fs:ak6 Gr}{val:Nat→Value}{k:Nat}(he:(U5 Fs k).fix=some fun _=>.pointer (some ⟨bb,o+j*size,none⟩))(hk:bU7 ops b i=some (t,.slice (some ⟨bb,o,none⟩) n c,.int .i64 j))(hu:P.underlying t=some (.slice (P.elem t)))(hz:(P.info? (P.elem t)).map (·.size)=some size)(hj:j<n) :
  V1 P ops (aj1 ops i) b w (fun v w'=>(∃ y:b5 w,w'=y.w)∧aj4 Fs k val v w'):=by
 unfold bU7 at hk
 unfold V1
 split at hk
 case isFalse=>cases hk
 rename_i hw
 rw[if_pos hw]
 split at hk
 case h_2=>cases hk
 rename_i t' x y hop
 simp only[Option.some.injEq,Prod.mk.injEq]at hk
 obtain⟨rfl,hx,hy⟩:=hk
 obtain⟨ti,hti,hs⟩:=Option.map_eq_some_iff.1 hz
 have hsz:(sizeOf (P.elem t')).run P w=.ok size w:=by simp[sizeOf,typeInfo,hti,hs]
 have e:(⟨bb,o,none⟩:Addr).add (j*size)=⟨bb,o+j*size,none⟩:=by
  unfold Addr.add;split
  ·rename_i h;rw[h,Nat.add_zero]
  ·rfl
 unfold execOp
 have hj':(0:Int)≤j∧(j:Int)<n:=⟨by omega,by omega⟩
 simp only[hop,Sem.run_bind,hx,hy,run_indexAt_slice (h:=hu),if_pos hj',hsz,Int.toNat_natCast,e,Result.andThen_ok,Sem.run_pure,ae2]
 refine⟨b5.of,?_⟩
 unfold aj4
 rw[he]
theorem bK9{Fs:ak6 Gr}{val:Nat→Value}{k:Nat}(he:(U5 Fs k).fix.isSome=true)(hr:aO6 P ops b w i=some ((U5 Fs k).out val k,w)):V1 P ops (aj1 ops i) b w (fun v w'=>(∃ y:b5 w,w'=y.w)∧aj4 Fs k val v w') :=
 aE4 hr ⟨b5.of,by
  unfold aj4 Ent.out
  cases hf:(U5 Fs k).fix with
  | none=>rw[hf]at he;cases he
  | some g=>rfl⟩
theorem be3{R:World→World→Prop}{Fs:ak6 R}{val:Nat→Value}{a:Act}{o:Oper}(ho:ops[i]?=some o)(h:wpList P ops Q [o] (bj0 Fs 0 val a) w):ar0 Fs w (fun val=>wpOps P ops Q [i] (bj0 Fs 0 val a) w) [] val:=by
 simpa only[ar0,wpOps,wpList,ho]using h
end
theorem az6{R:World→World→Prop}:(∀ (k:Nat) (val:Nat→Value) (a:Act),bj0 (R:=R) [] k val a=a)∧(∀ (d:Option Tmp) (e:Ent R) (r:ak6 R) (k:Nat) (val:Nat→Value) (a:Act),bj0 ((d,e)::r) k val a=bj0 r (k+1) val (a.put d (e.out val k))) ∧
  (∀ (v:Value) (val:Nat→Value) (k:Nat),(Ent.v (R:=R) v).out val k=v)∧(∀ (js:List Nat) (g:List Value→Value) (val:Nat→Value) (k:Nat),(Ent.fn (R:=R) js g).out val k=g (js.map val)) ∧
  (∀ p h (val:Nat→Value) (k:Nat),(Ent.of (R:=R) p h).out val k=val k)∧(∀ (p:Value→Prop) (val:Nat→Value) (k:Nat),(Ent.is (R:=R) p).out val k=val k) :=
 ⟨fun _ _ _=>rfl,fun _ _ _ _ _ _=>rfl,fun _ _ _=>rfl,fun _ _ _ _=>rfl,fun _ _ _ _=>rfl,fun _ _ _=>rfl⟩
theorem au1:(∀ B cs T (val:Nat→Value) (k:Nat),(Ent.box B cs T).out val k=val k)∧(∀ B n cs T (val:Nat→Value) (k:Nat),(Ent.sl B n cs T).out val k=val k) ∧
  (∀ (i:Nat) (v:Value) (val:Nat→Value) (k:Nat),upd i v val k=if k=i then v else val k) :=
 ⟨fun _ _ _ _ _=>rfl,fun _ _ _ _ _ _=>rfl,fun _ _ _ _=>rfl⟩
theorem av4{R:World→World→Prop}{Fs:ak6 R}{w:World}{G:(Nat→Value)→Prop}{val:Nat→Value}(h:G val):ar0 Fs w G [] val:=h
theorem ak8{R:World→World→Prop}{Fs:ak6 R}{w:World}{G:(Nat→Value)→Prop}{val:Nat→Value}{i:Nat}{r:List Nat}(h:∀ v,(U5 Fs i).p v w→ar0 Fs w G r (upd i v val)):ar0 Fs w G (i::r) val:=h
