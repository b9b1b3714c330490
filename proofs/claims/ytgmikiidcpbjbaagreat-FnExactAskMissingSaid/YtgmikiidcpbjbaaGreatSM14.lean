/- The contracts of the mirrors, sizes and equalities of structs with slices (1). No condition but on sizes. The contracts of the mirrors, sizes and equalities of files. No condition but on sizes. -/
import Derived.Test.YtgmikiidcpbjbaaGreatSM9
import Derived.Test.YtgmikiidcpbjbaaGreatSDPl
import Derived.Test.YtgmikiidcpbjbaaGreatSM4
import Derived.Test.YtgmikiidcpbjbaaGreatSMarkT
import Derived.Test.YtgmikiidcpbjbaaGreatSOkF
import Derived.Laws.StructEq
import Derived.MapKept
import Derived.Maps.Own
namespace Go.Proofs.YtgmikiidcpbjbaaGreat
set_option linter.unusedVariables false
open Go.ChangeShapes Go.WideShapes Go.ChangeAt Go.RowKit
theorem d_lszPacker{B:Nat}{vs:List Value}{x:TPacker}{left:Int}{w:World}(h:Enc.Rd B w vs x)(hl:0≤left)(hl2:left≤1048576) :
  Calls Tryz.prog 190 #[.agg vs.toArray,.int .i64 left] w (Gives w (.int .i64 (szD left (Enc.tot x)))):=by
 obtain⟨a0,c0,rfl,q0,hok⟩:=h
 have n0:(0:Int)≤x.Rest.size:=by omega
 have z0:x.Rest.size≤9223372036854775807:=hok.2.2.1
 have n1:=totL_nonneg x.Starts
 have HOK:=lH hok;clear hok
 have htot:Enc.tot x=(x.Rest.size:Int)+totL x.Starts:=rfl
 have HTOT:=lH htot;clear htot
 go_enter Tryz.func190,Tryz.ntmps190
 by_cases h0:left - (x.Rest.size:Int)<0
 ·have HV:=lH (show szD left (Enc.tot x)=-1 from szD_neg (by rw[HTOT.out];omega))
  go_wp2_with (first|((with_reducible refine wp_region_later (by kernel_rfl) (by kernel_rfl) ?_);(repeat(first|go_big_quiet_step (first|fail)));refine wpQuiet_nil ?_;rintro _ ⟨x,rfl⟩))
  go_ret
  exact Gives.mk (by rw[HV.out];rfl)
 go_wp2_with (first|((with_reducible refine wp_region_later (by kernel_rfl) (by kernel_rfl) ?_);(repeat(first|go_big_quiet_step (first|fail)));refine wpQuiet_nil ?_;rintro _ ⟨x,rfl⟩))
 refine(d_lszIntS (q0.keep inferInstance) (by omega) (by omega)).mono ?_
 rintro _ _ ⟨rfl,y1,rfl⟩
 by_cases h1:left - (x.Rest.size:Int) - totL x.Starts<0
 ·have HV:=lH (show szD left (Enc.tot x)=-1 from szD_neg (by rw[HTOT.out];omega))
  rw[szD_neg h1]
  go_wp2_with (first|((with_reducible refine wp_region_later (by kernel_rfl) (by kernel_rfl) ?_);(repeat(first|go_big_quiet_step (first|fail)));refine wpQuiet_nil ?_;rintro _ ⟨x,rfl⟩))
  go_ret
  exact Gives.mk (by rw[HV.out];rfl)
 rw[szD_pos h1]
 have HV:=lH (show szD left (Enc.tot x)=left - (x.Rest.size:Int) - totL x.Starts by rw[szD_pos (by rw[HTOT.out];omega),HTOT.out]<;>omega)
 go_wp2_with (first|((with_reducible refine wp_region_later (by kernel_rfl) (by kernel_rfl) ?_);(repeat(first|go_big_quiet_step (first|fail)));refine wpQuiet_nil ?_;rintro _ ⟨x,rfl⟩))
 go_ret
 exact Gives.mk (by rw[HV.out];rfl)
theorem d_leqPacker{B B2:Nat}{vs vs2:List Value}{x:TPacker}{w:World}(h:Enc.Rd B w vs x)(h2:Enc.Rd B2 w vs2 x) :
  Calls Tryz.prog 245 #[.agg vs.toArray,.agg vs2.toArray] w (Gives w (.bool true)):=by
 obtain⟨a0,c0,rfl,q0,hok⟩:=h
 obtain⟨ma0,mc0,rfl,mq0,-⟩:=h2
 have HOK:=lH hok;clear hok
 go_enter Tryz.func245,Tryz.ntmps245
 go_wp2_with (first|((with_reducible refine wp_region_later (by kernel_rfl) (by kernel_rfl) ?_);(repeat(first|go_big_quiet_step (first|fail)));refine wpQuiet_nil ?_;rintro _ ⟨x,rfl⟩))
 refine(d_leqIntS (q0.keep inferInstance) (mq0.keep inferInstance)).mono ?_
 rintro _ _ ⟨rfl,y0,rfl⟩
 go_wp2_with (first|((with_reducible refine wp_region_later (by kernel_rfl) (by kernel_rfl) ?_);(repeat(first|go_big_quiet_step (first|fail)));refine wpQuiet_nil ?_;rintro _ ⟨x,rfl⟩))
 go_ret
 exact Gives.mk rfl
theorem d_lszSender{B:Nat}{vs:List Value}{x:TSender}{left:Int}{w:World}(h:Enc.Rd B w vs x)(hl:0≤left)(hl2:left≤1048576) :
  Calls Tryz.prog 183 #[.agg vs.toArray,.int .i64 left] w (Gives w (.int .i64 (szD left (Enc.tot x)))):=by
 obtain⟨a0,c0,rfl,q0,hok⟩:=h
 have n0:=totL_nonneg x.Waiting
 have HOK:=lH hok;clear hok
 have htot:Enc.tot x=totL x.Waiting:=rfl
 have HTOT:=lH htot;clear htot
 go_enter Tryz.func183,Tryz.ntmps183
 go_wp2_with (first|((with_reducible refine wp_region_later (by kernel_rfl) (by kernel_rfl) ?_);(repeat(first|go_big_quiet_step (first|fail)));refine wpQuiet_nil ?_;rintro _ ⟨x,rfl⟩))
 refine(d_lszSentS (q0.keep inferInstance) (by omega) (by omega)).mono ?_
 rintro _ _ ⟨rfl,y0,rfl⟩
 by_cases h0:left - totL x.Waiting<0
 ·have HV:=lH (show szD left (Enc.tot x)=-1 from szD_neg (by rw[HTOT.out];omega))
  rw[szD_neg h0]
  go_wp2_with (first|((with_reducible refine wp_region_later (by kernel_rfl) (by kernel_rfl) ?_);(repeat(first|go_big_quiet_step (first|fail)));refine wpQuiet_nil ?_;rintro _ ⟨x,rfl⟩))
  go_ret
  exact Gives.mk (by rw[HV.out];rfl)
 rw[szD_pos h0]
 have HV:=lH (show szD left (Enc.tot x)=left - totL x.Waiting by rw[szD_pos (by rw[HTOT.out];omega),HTOT.out]<;>omega)
 go_wp2_with (first|((with_reducible refine wp_region_later (by kernel_rfl) (by kernel_rfl) ?_);(repeat(first|go_big_quiet_step (first|fail)));refine wpQuiet_nil ?_;rintro _ ⟨x,rfl⟩))
 go_ret
 exact Gives.mk (by rw[HV.out];rfl)
theorem d_leqSender{B B2:Nat}{vs vs2:List Value}{x:TSender}{w:World}(h:Enc.Rd B w vs x)(h2:Enc.Rd B2 w vs2 x) :
  Calls Tryz.prog 236 #[.agg vs.toArray,.agg vs2.toArray] w (Gives w (.bool true)):=by
 obtain⟨a0,c0,rfl,q0,hok⟩:=h
 obtain⟨ma0,mc0,rfl,mq0,-⟩:=h2
 have HOK:=lH hok;clear hok
 go_enter Tryz.func236,Tryz.ntmps236
 go_wp2_with (first|((with_reducible refine wp_region_later (by kernel_rfl) (by kernel_rfl) ?_);(repeat(first|go_big_quiet_step (first|fail)));refine wpQuiet_nil ?_;rintro _ ⟨x,rfl⟩))
 refine(d_leqSentS (q0.keep inferInstance) (mq0.keep inferInstance)).mono ?_
 rintro _ _ ⟨rfl,y0,rfl⟩
 go_wp2_with (first|((with_reducible refine wp_region_later (by kernel_rfl) (by kernel_rfl) ?_);(repeat(first|go_big_quiet_step (first|fail)));refine wpQuiet_nil ?_;rintro _ ⟨x,rfl⟩))
 go_ret
 exact Gives.mk rfl
theorem d_lszRecorder{B:Nat}{vs:List Value}{x:TRecorder}{left:Int}{w:World}(h:Enc.Rd B w vs x)(hl:0≤left)(hl2:left≤1048576) :
  Calls Tryz.prog 356 #[.agg vs.toArray,.int .i64 left] w (Gives w (.int .i64 (szD left (Enc.tot x)))):=by
 obtain⟨a0,c0,a1,c1,rfl,q0,q1,hok⟩:=h
 have n0:=totL_nonneg x.Records
 have n1:=totL_nonneg x.Dropped
 have HOK:=lH hok;clear hok
 have htot:Enc.tot x=totL x.Records+totL x.Dropped:=rfl
 have HTOT:=lH htot;clear htot
 go_enter Tryz.func356,Tryz.ntmps356
 go_wp2_with (first|((with_reducible refine wp_region_later (by kernel_rfl) (by kernel_rfl) ?_);(repeat(first|go_big_quiet_step (first|fail)));refine wpQuiet_nil ?_;rintro _ ⟨x,rfl⟩))
 refine(d_lszRecordS (q0.keep inferInstance) (by omega) (by omega)).mono ?_
 rintro _ _ ⟨rfl,y0,rfl⟩
 by_cases h0:left - totL x.Records<0
 ·have HV:=lH (show szD left (Enc.tot x)=-1 from szD_neg (by rw[HTOT.out];omega))
  rw[szD_neg h0]
  go_wp2_with (first|((with_reducible refine wp_region_later (by kernel_rfl) (by kernel_rfl) ?_);(repeat(first|go_big_quiet_step (first|fail)));refine wpQuiet_nil ?_;rintro _ ⟨x,rfl⟩))
  go_ret
  exact Gives.mk (by rw[HV.out];rfl)
 rw[szD_pos h0]
 go_wp2_with (first|((with_reducible refine wp_region_later (by kernel_rfl) (by kernel_rfl) ?_);(repeat(first|go_big_quiet_step (first|fail)));refine wpQuiet_nil ?_;rintro _ ⟨x,rfl⟩))
 refine(d_lszIntS (q1.keep inferInstance) (by omega) (by omega)).mono ?_
 rintro _ _ ⟨rfl,y1,rfl⟩
 by_cases h1:left - totL x.Records - totL x.Dropped<0
 ·have HV:=lH (show szD left (Enc.tot x)=-1 from szD_neg (by rw[HTOT.out];omega))
  rw[szD_neg h1]
  go_wp2_with (first|((with_reducible refine wp_region_later (by kernel_rfl) (by kernel_rfl) ?_);(repeat(first|go_big_quiet_step (first|fail)));refine wpQuiet_nil ?_;rintro _ ⟨x,rfl⟩))
  go_ret
  exact Gives.mk (by rw[HV.out];rfl)
 rw[szD_pos h1]
 have HV:=lH (show szD left (Enc.tot x)=left - totL x.Records - totL x.Dropped by rw[szD_pos (by rw[HTOT.out];omega),HTOT.out]<;>omega)
 go_wp2_with (first|((with_reducible refine wp_region_later (by kernel_rfl) (by kernel_rfl) ?_);(repeat(first|go_big_quiet_step (first|fail)));refine wpQuiet_nil ?_;rintro _ ⟨x,rfl⟩))
 go_ret
 exact Gives.mk (by rw[HV.out];rfl)
theorem d_leqRecorder{B B2:Nat}{vs vs2:List Value}{x:TRecorder}{w:World}(h:Enc.Rd B w vs x)(h2:Enc.Rd B2 w vs2 x) :
  Calls Tryz.prog 382 #[.agg vs.toArray,.agg vs2.toArray] w (Gives w (.bool true)):=by
 obtain⟨a0,c0,a1,c1,rfl,q0,q1,hok⟩:=h
 obtain⟨ma0,mc0,ma1,mc1,rfl,mq0,mq1,-⟩:=h2
 have HOK:=lH hok;clear hok
 go_enter Tryz.func382,Tryz.ntmps382
 go_wp2_with (first|((with_reducible refine wp_region_later (by kernel_rfl) (by kernel_rfl) ?_);(repeat(first|go_big_quiet_step (first|fail)));refine wpQuiet_nil ?_;rintro _ ⟨x,rfl⟩))
 refine(d_leqRecordS (q0.keep inferInstance) (mq0.keep inferInstance)).mono ?_
 rintro _ _ ⟨rfl,y0,rfl⟩
 go_wp2_with (first|((with_reducible refine wp_region_later (by kernel_rfl) (by kernel_rfl) ?_);(repeat(first|go_big_quiet_step (first|fail)));refine wpQuiet_nil ?_;rintro _ ⟨x,rfl⟩))
 refine(d_leqIntS (q1.keep inferInstance) (mq1.keep inferInstance)).mono ?_
 rintro _ _ ⟨rfl,y1,rfl⟩
 go_wp2_with (first|((with_reducible refine wp_region_later (by kernel_rfl) (by kernel_rfl) ?_);(repeat(first|go_big_quiet_step (first|fail)));refine wpQuiet_nil ?_;rintro _ ⟨x,rfl⟩))
 go_ret
 exact Gives.mk rfl
theorem d_lszFileIn{B:Nat}{vs:List Value}{x:TFileIn}{left:Int}{w:World}(h:Enc.Rd B w vs x)(hl:0≤left)(hl2:left≤1048576) :
  Calls Tryz.prog 351 #[.agg vs.toArray,.int .i64 left] w (Gives w (.int .i64 (szD left (Enc.tot x)))):=by
 obtain⟨a0,c0,rfl,q0,hok⟩:=h
 have n0:=totL_nonneg x.Parts
 have HOK:=lH hok;clear hok
 have htot:Enc.tot x=totL x.Parts:=rfl
 have HTOT:=lH htot;clear htot
 go_enter Tryz.func351,Tryz.ntmps351
 go_wp2_with fail
 refine(d_lszStringS (q0.keep inferInstance) (by omega) (by omega)).mono ?_
 rintro _ _ ⟨rfl,y0,rfl⟩
 by_cases h0:left - totL x.Parts<0
 ·have HV:=lH (show szD left (Enc.tot x)=-1 from szD_neg (by rw[HTOT.out];omega))
  rw[szD_neg h0]
  go_wp2_with fail
  go_ret
  exact Gives.mk (by rw[HV.out];rfl)
 rw[szD_pos h0]
 have HV:=lH (show szD left (Enc.tot x)=left - totL x.Parts by rw[szD_pos (by rw[HTOT.out];omega),HTOT.out]<;>omega)
 go_wp2_with fail
 go_ret
 exact Gives.mk (by rw[HV.out];rfl)
theorem d_leqFileIn{B B2:Nat}{vs vs2:List Value}{x:TFileIn}{w:World}(h:Enc.Rd B w vs x)(h2:Enc.Rd B2 w vs2 x) :
  Calls Tryz.prog 377 #[.agg vs.toArray,.agg vs2.toArray] w (Gives w (.bool true)):=by
 obtain⟨a0,c0,rfl,q0,hok⟩:=h
 obtain⟨ma0,mc0,rfl,mq0,-⟩:=h2
 have HOK:=lH hok;clear hok
 go_enter Tryz.func377,Tryz.ntmps377
 go_wp2_with fail
 refine(d_leqStringS (q0.keep inferInstance) (mq0.keep inferInstance)).mono ?_
 rintro _ _ ⟨rfl,y0,rfl⟩
 go_wp2_with fail
 go_ret
 exact Gives.mk rfl
set_option maxRecDepth 100000 in
set_option maxHeartbeats 2000000 in
theorem d_lszFileInS{B:Nat}{a:Option Addr}{c:Nat}{l:List TFileIn}{left:Int}{w:World}(hs:RdS B w a c l)(hl:0≤left)(hl2:left≤1048576) :
  Calls Tryz.prog 187 #[.slice a l.length c,.int .i64 left] w (Gives w (.int .i64 (szD left (totL l)))):=by
 have hmx:=hs.max
 have hln:=totL_len l
 obtain⟨n,hn⟩:∃ n,l.length=n:=⟨_,rfl⟩
 rw[hn]at hln hmx
 rw[hn]
 have HN:=lH hn;clear hn
 by_cases h:left - n<0
 ·have HV:=lH (show szD left (totL l)=-1 from szD_neg (by omega))
  go_enter Tryz.func187,Tryz.ntmps187
  go_wp2_with fail
  go_ret
  exact Gives.mk (by rw[HV.out];rfl)
 ·go_enter Tryz.func187,Tryz.ntmps187
  go_wp2_with fail
  go_loopw [1,5] (fun u v wr=>∃ (k:Nat) (r:Int),v=.int .i64 k∧u=.int .i64 r∧k≤n∧0≤r∧r≤1048576∧Hid (r - totL (l.drop k)+(n - k)=left - totL l)∧∃ x:Later w,wr=x.w) (fun _ v _=>(n - intOf v).toNat)
  case atStart=>exact⟨0,left - n,rfl,by go_num,by omega,by omega,by omega,by unfold Hid;rw[List.drop_zero];omega,Later.of⟩
  case round =>
   obtain⟨k,r,rfl,rfl,hk,hr,hr2,hf,x,rfl⟩:=hrel
   by_cases h2:k<n
   ·have hlk:k<l.length:=by have:=HN.out;omega
    obtain⟨eb,eoff,ex,ea0,ec0,rfl,ehb,ehd,eq0,eok,eh0,eh1,eh2,eh3⟩:=hs.atTFileIn (show k<l.length by omega)
    have hd2:=totL_len (l.drop (k+1))
    have HD2:=lH (show((n:Int) - k - 1≤totL (l.drop (k+1)))by rw[List.length_drop,HN.out]at hd2;omega);clear hd2 hlk
    have ht0:=Enc.tot_nonneg ex
    obtain⟨t,htt⟩:∃ t,Enc.tot ex=t:=⟨_,rfl⟩
    have hf2:Hid (r - (1+t+totL (l.drop (k+1)))+(n - k)=left - totL l):=by
     have:=hf.out;rw[ehd.out]at this;rw[← htt];exact this
    rw[htt]at ht0
    have HTT:=lH htt;clear htt hf
    have HEOK:=lH eok;clear eok
    go_wp2_with fail
    refine(d_lszFileIn (x:=ex) ⟨ea0,ec0,rfl,eq0.keep inferInstance,HEOK.out⟩ (by omega) (by omega)).mono ?_
    rintro _ _ ⟨rfl,y,rfl⟩
    rw[HTT.out]
    by_cases h3:r - t<0
    ·have HV:=lH (show szD left (totL l)=-1 from szD_neg (by have h7:=hf2.out;have h8:=HD2.out;omega))
     rw[szD_neg h3]
     go_wp2_with fail
     go_ret
     exact Gives.mk (by rw[HV.out];rfl)
    ·rw[szD_pos h3]
     go_wp2_with fail
     go_roundw
     case rel=>exact⟨k+1,r - t,by go_num,by go_num,by omega,by omega,by omega,by have h7:=hf2.out;unfold Hid;omega,Later.of⟩
     case measure=>simp[intOf];omega
   ·have HV:=lH (show szD left (totL l)=r by
     have h7:=hf.out
     rw[List.drop_of_length_le (by have:=HN.out;omega)]at h7
     simp only[totL]at h7
     rw[szD_pos (by omega)];omega)
    go_wp2_with fail
    go_ret
    exact Gives.mk (by rw[HV.out];rfl)
theorem d_leqFileInS{B B2:Nat}{a a2:Option Addr}{c c2:Nat}{l:List TFileIn}{w:World}(hs:RdS B w a c l)(hs2:RdS B2 w a2 c2 l) :
  Calls Tryz.prog 241 #[.slice a l.length c,.slice a2 l.length c2] w (Gives w (.bool true)):=by
 have hmx:=hs.max
 obtain⟨n,hn⟩:∃ n,l.length=n:=⟨_,rfl⟩
 rw[hn]at hmx
 rw[hn]
 have HN:=lH hn;clear hn
 have kn:((n:Int) != (n:Int))=false:=by simp
 go_enter Tryz.func241,Tryz.ntmps241
 go_wp2_with fail
 go_loopw [5] (fun v wr=>∃ k:Nat,v=.int .i64 k∧k≤n∧∃ x:Later w,wr=x.w) (fun v _=>(n - intOf v).toNat)
 case atStart=>exact⟨0,rfl,by omega,Later.of⟩
 case round =>
  obtain⟨k,rfl,hk,x,rfl⟩:=hrel
  by_cases h:k<n
  ·have hlk:k<l.length:=by have:=HN.out;omega
   obtain⟨eb,eoff,ex,ea0,ec0,rfl,ehb,ehd,eq0,eok,eh0,eh1,eh2,eh3⟩:=hs.atTFileIn (show k<l.length by omega)
   obtain⟨fb,foff,fx,fa0,fc0,rfl,fhb,fhd,fq0,fok,fh0,fh1,fh2,fh3⟩:=hs2.atTFileIn (show k<l.length by omega)
   obtain rfl:ex=fx:=by have:=ehd.out.symm.trans fhd.out;simpa using this
   clear ehd fhd hlk hs hs2
   have ce:∀ {W:World} [Grows w W],Calls Tryz.prog 377 #[.agg #[.int .i64 ex.File,.int .i64 ex.Size,.int .i64 ex.Check,.slice ea0 ex.Parts.length ec0],.agg #[.int .i64 ex.File,.int .i64 ex.Size,.int .i64 ex.Check,.slice fa0 ex.Parts.length fc0]] W (Gives W (.bool true)):=fun {W} _=>d_leqFileIn (x:=ex) ⟨ea0,ec0,rfl,eq0.keep inferInstance,eok⟩ ⟨fa0,fc0,rfl,fq0.keep inferInstance,fok⟩
   clear eok fok eq0 fq0
   go_wp2_with (first|((with_reducible refine wp_region_later (by kernel_rfl) (by kernel_rfl) ?_);(repeat(first|go_big_quiet_step (first|(go_at_call 377;exact Gives.quiet (ce)))));refine wpQuiet_nil ?_;rintro _ ⟨x,rfl⟩)|(go_at_call 377;refine(ce).mono ?_;rintro _ _ ⟨rfl,x,rfl⟩))
   go_roundw
   case rel=>exact⟨k+1,by go_num,by omega,Later.of⟩
   case measure=>simp[intOf];omega
  ·go_wp2_with fail
   go_ret
   exact Gives.mk rfl
theorem d_lszFileOut{B:Nat}{vs:List Value}{x:TFileOut}{left:Int}{w:World}(h:Enc.Rd B w vs x)(hl:0≤left)(hl2:left≤1048576) :
  Calls Tryz.prog 357 #[.agg vs.toArray,.int .i64 left] w (Gives w (.int .i64 (szD left (Enc.tot x)))):=by
 obtain⟨a0,c0,rfl,q0,hok⟩:=h
 have n0:(0:Int)≤x.Data.size:=by omega
 have z0:x.Data.size≤9223372036854775807:=hok.2.1
 have n1:=totL_nonneg x.Queue
 have HOK:=lH hok;clear hok
 have htot:Enc.tot x=(x.Data.size:Int)+totL x.Queue:=rfl
 have HTOT:=lH htot;clear htot
 go_enter Tryz.func357,Tryz.ntmps357
 by_cases h0:left - (x.Data.size:Int)<0
 ·have HV:=lH (show szD left (Enc.tot x)=-1 from szD_neg (by rw[HTOT.out];omega))
  go_wp2_with fail
  go_ret
  exact Gives.mk (by rw[HV.out];rfl)
 go_wp2_with fail
 refine(d_lszIntS (q0.keep inferInstance) (by omega) (by omega)).mono ?_
 rintro _ _ ⟨rfl,y1,rfl⟩
 by_cases h1:left - (x.Data.size:Int) - totL x.Queue<0
 ·have HV:=lH (show szD left (Enc.tot x)=-1 from szD_neg (by rw[HTOT.out];omega))
  rw[szD_neg h1]
  go_wp2_with fail
  go_ret
  exact Gives.mk (by rw[HV.out];rfl)
 rw[szD_pos h1]
 have HV:=lH (show szD left (Enc.tot x)=left - (x.Data.size:Int) - totL x.Queue by rw[szD_pos (by rw[HTOT.out];omega),HTOT.out]<;>omega)
 go_wp2_with fail
 go_ret
 exact Gives.mk (by rw[HV.out];rfl)
theorem d_leqFileOut{B B2:Nat}{vs vs2:List Value}{x:TFileOut}{w:World}(h:Enc.Rd B w vs x)(h2:Enc.Rd B2 w vs2 x) :
  Calls Tryz.prog 383 #[.agg vs.toArray,.agg vs2.toArray] w (Gives w (.bool true)):=by
 obtain⟨a0,c0,rfl,q0,hok⟩:=h
 obtain⟨ma0,mc0,rfl,mq0,-⟩:=h2
 have HOK:=lH hok;clear hok
 go_enter Tryz.func383,Tryz.ntmps383
 go_wp2_with fail
 refine(d_leqIntS (q0.keep inferInstance) (mq0.keep inferInstance)).mono ?_
 rintro _ _ ⟨rfl,y0,rfl⟩
 go_wp2_with fail
 go_ret
 exact Gives.mk rfl
set_option maxRecDepth 100000 in
set_option maxHeartbeats 2000000 in
theorem d_lszFileOutS{B:Nat}{a:Option Addr}{c:Nat}{l:List TFileOut}{left:Int}{w:World}(hs:RdS B w a c l)(hl:0≤left)(hl2:left≤1048576) :
  Calls Tryz.prog 191 #[.slice a l.length c,.int .i64 left] w (Gives w (.int .i64 (szD left (totL l)))):=by
 have hmx:=hs.max
 have hln:=totL_len l
 obtain⟨n,hn⟩:∃ n,l.length=n:=⟨_,rfl⟩
 rw[hn]at hln hmx
 rw[hn]
 have HN:=lH hn;clear hn
 by_cases h:left - n<0
 ·have HV:=lH (show szD left (totL l)=-1 from szD_neg (by omega))
  go_enter Tryz.func191,Tryz.ntmps191
  go_wp2_with fail
  go_ret
  exact Gives.mk (by rw[HV.out];rfl)
 ·go_enter Tryz.func191,Tryz.ntmps191
  go_wp2_with fail
  go_loopw [1,5] (fun u v wr=>∃ (k:Nat) (r:Int),v=.int .i64 k∧u=.int .i64 r∧k≤n∧0≤r∧r≤1048576∧Hid (r - totL (l.drop k)+(n - k)=left - totL l)∧∃ x:Later w,wr=x.w) (fun _ v _=>(n - intOf v).toNat)
  case atStart=>exact⟨0,left - n,rfl,by go_num,by omega,by omega,by omega,by unfold Hid;rw[List.drop_zero];omega,Later.of⟩
  case round =>
   obtain⟨k,r,rfl,rfl,hk,hr,hr2,hf,x,rfl⟩:=hrel
   by_cases h2:k<n
   ·have hlk:k<l.length:=by have:=HN.out;omega
    obtain⟨eb,eoff,ex,ea0,ec0,rfl,ehb,ehd,eq0,eok,eh0,eh1,eh2,eh3⟩:=hs.atTFileOut (show k<l.length by omega)
    have hd2:=totL_len (l.drop (k+1))
    have HD2:=lH (show((n:Int) - k - 1≤totL (l.drop (k+1)))by rw[List.length_drop,HN.out]at hd2;omega);clear hd2 hlk
    have ht0:=Enc.tot_nonneg ex
    obtain⟨t,htt⟩:∃ t,Enc.tot ex=t:=⟨_,rfl⟩
    have hf2:Hid (r - (1+t+totL (l.drop (k+1)))+(n - k)=left - totL l):=by
     have:=hf.out;rw[ehd.out]at this;rw[← htt];exact this
    rw[htt]at ht0
    have HTT:=lH htt;clear htt hf
    have HEOK:=lH eok;clear eok
    go_wp2_with fail
    refine(d_lszFileOut (x:=ex) ⟨ea0,ec0,rfl,eq0.keep inferInstance,HEOK.out⟩ (by omega) (by omega)).mono ?_
    rintro _ _ ⟨rfl,y,rfl⟩
    rw[HTT.out]
    by_cases h3:r - t<0
    ·have HV:=lH (show szD left (totL l)=-1 from szD_neg (by have h7:=hf2.out;have h8:=HD2.out;omega))
     rw[szD_neg h3]
     go_wp2_with fail
     go_ret
     exact Gives.mk (by rw[HV.out];rfl)
    ·rw[szD_pos h3]
     go_wp2_with fail
     go_roundw
     case rel=>exact⟨k+1,r - t,by go_num,by go_num,by omega,by omega,by omega,by have h7:=hf2.out;unfold Hid;omega,Later.of⟩
     case measure=>simp[intOf];omega
   ·have HV:=lH (show szD left (totL l)=r by
     have h7:=hf.out
     rw[List.drop_of_length_le (by have:=HN.out;omega)]at h7
     simp only[totL]at h7
     rw[szD_pos (by omega)];omega)
    go_wp2_with fail
    go_ret
    exact Gives.mk (by rw[HV.out];rfl)
theorem d_leqFileOutS{B B2:Nat}{a a2:Option Addr}{c c2:Nat}{l:List TFileOut}{w:World}(hs:RdS B w a c l)(hs2:RdS B2 w a2 c2 l) :
  Calls Tryz.prog 246 #[.slice a l.length c,.slice a2 l.length c2] w (Gives w (.bool true)):=by
 have hmx:=hs.max
 obtain⟨n,hn⟩:∃ n,l.length=n:=⟨_,rfl⟩
 rw[hn]at hmx
 rw[hn]
 have HN:=lH hn;clear hn
 have kn:((n:Int) != (n:Int))=false:=by simp
 go_enter Tryz.func246,Tryz.ntmps246
 go_wp2_with fail
 go_loopw [5] (fun v wr=>∃ k:Nat,v=.int .i64 k∧k≤n∧∃ x:Later w,wr=x.w) (fun v _=>(n - intOf v).toNat)
 case atStart=>exact⟨0,rfl,by omega,Later.of⟩
 case round =>
  obtain⟨k,rfl,hk,x,rfl⟩:=hrel
  by_cases h:k<n
  ·have hlk:k<l.length:=by have:=HN.out;omega
   obtain⟨eb,eoff,ex,ea0,ec0,rfl,ehb,ehd,eq0,eok,eh0,eh1,eh2,eh3⟩:=hs.atTFileOut (show k<l.length by omega)
   obtain⟨fb,foff,fx,fa0,fc0,rfl,fhb,fhd,fq0,fok,fh0,fh1,fh2,fh3⟩:=hs2.atTFileOut (show k<l.length by omega)
   obtain rfl:ex=fx:=by have:=ehd.out.symm.trans fhd.out;simpa using this
   clear ehd fhd hlk hs hs2
   have ce:∀ {W:World} [Grows w W],Calls Tryz.prog 383 #[.agg #[.int .i64 ex.File,.string ex.Data,.slice ea0 ex.Queue.length ec0,.bool ex.Done],.agg #[.int .i64 ex.File,.string ex.Data,.slice fa0 ex.Queue.length fc0,.bool ex.Done]] W (Gives W (.bool true)):=fun {W} _=>d_leqFileOut (x:=ex) ⟨ea0,ec0,rfl,eq0.keep inferInstance,eok⟩ ⟨fa0,fc0,rfl,fq0.keep inferInstance,fok⟩
   clear eok fok eq0 fq0
   go_wp2_with (first|((with_reducible refine wp_region_later (by kernel_rfl) (by kernel_rfl) ?_);(repeat(first|go_big_quiet_step (first|(go_at_call 383;exact Gives.quiet (ce)))));refine wpQuiet_nil ?_;rintro _ ⟨x,rfl⟩)|(go_at_call 383;refine(ce).mono ?_;rintro _ _ ⟨rfl,x,rfl⟩))
   go_roundw
   case rel=>exact⟨k+1,by go_num,by omega,Later.of⟩
   case measure=>simp[intOf];omega
  ·go_wp2_with fail
   go_ret
   exact Gives.mk rfl
set_option maxRecDepth 100000 in
set_option maxHeartbeats 2000000 in
theorem d_lszGround{B:Nat}{vs:List Value}{x:TGround}{left:Int}{w:World}(h:Enc.Rd B w vs x)(hl:0≤left)(hl2:left≤1048576) :
  Calls Tryz.prog 56 #[.agg vs.toArray,.int .i64 left] w (Gives w (.int .i64 (szD left (Enc.tot x)))):=by
 obtain⟨A,rfl,F⟩:=h
 have n0:=totL_nonneg x.Offers
 have n1:=Enc.tot_nonneg x.Sender
 have n2:=Enc.tot_nonneg x.Unpacker
 have n3:=totL_nonneg x.Pairs
 have n4:=totL_nonneg x.Records
 have n5:=totL_nonneg x.Files
 have n6:=totL_nonneg x.Told
 have HOK:=lH F.ok
 have htot:Enc.tot x=totL x.Offers+Enc.tot x.Sender+Enc.tot x.Unpacker+totL x.Pairs+totL x.Records+totL x.Files+totL x.Told:=rfl
 have HTOT:=lH htot;clear htot
 have HB:=lH (Held.new w (dGround x A) 43 w.heap.size rfl)
 have HFF:=lH F;clear F
 go_enter Tryz.func56,Tryz.ntmps56
 go_wp2_with (first|((with_reducible refine wp_region_later (by kernel_rfl) (by kernel_rfl) ?_);(repeat(first|go_big_quiet_step (first|fail)));refine wpQuiet_nil ?_;rintro _ ⟨x,rfl⟩))
 refine(d_lszStringS (HFF.out.q0.keep inferInstance) (by omega) (by omega)).mono ?_
 rintro _ _ ⟨rfl,y0,rfl⟩
 by_cases h0:left - totL x.Offers<0
 ·have HV:=lH (show szD left (Enc.tot x)=-1 from szD_neg (by rw[HTOT.out];omega))
  rw[szD_neg h0]
  go_wp2_with (first|((with_reducible refine wp_region_later (by kernel_rfl) (by kernel_rfl) ?_);(repeat(first|go_big_quiet_step (first|fail)));refine wpQuiet_nil ?_;rintro _ ⟨x,rfl⟩))
  go_ret
  exact Gives.mk (by rw[HV.out];rfl)
 rw[szD_pos h0]
 go_wp2_with (first|((with_reducible refine wp_region_later (by kernel_rfl) (by kernel_rfl) ?_);(repeat(first|go_big_quiet_step (first|fail)));refine wpQuiet_nil ?_;rintro _ ⟨x,rfl⟩)|(refine stepLoad rfl _ _ rfl (w.heap.size) 1 rfl (row:=[.int .i64 x.Sender.Next,.int .i64 x.Sender.Window,.slice A.a1 x.Sender.Waiting.length A.c1,.int .i64 x.Sender.Done]) (HB.out.to inferInstance) _ Tryz.underlying33 rfl (by kernel_rfl) (by kernel_rfl) ?_))
 refine(d_lszSender (x:=x.Sender) ⟨A.a1,A.c1,rfl,HFF.out.q1.keep inferInstance,HOK.out.1⟩ (by omega) (by omega)).mono ?_
 rintro _ _ ⟨rfl,y1,rfl⟩
 by_cases h1:left - totL x.Offers - Enc.tot x.Sender<0
 ·have HV:=lH (show szD left (Enc.tot x)=-1 from szD_neg (by rw[HTOT.out];omega))
  rw[szD_neg h1]
  go_wp2_with (first|((with_reducible refine wp_region_later (by kernel_rfl) (by kernel_rfl) ?_);(repeat(first|go_big_quiet_step (first|fail)));refine wpQuiet_nil ?_;rintro _ ⟨x,rfl⟩))
  go_ret
  exact Gives.mk (by rw[HV.out];rfl)
 rw[szD_pos h1]
 go_wp2_with (first|((with_reducible refine wp_region_later (by kernel_rfl) (by kernel_rfl) ?_);(repeat(first|go_big_quiet_step (first|fail)));refine wpQuiet_nil ?_;rintro _ ⟨x,rfl⟩)|(refine stepLoad rfl _ _ rfl (w.heap.size) 8 rfl (row:=[.int .i64 x.Unpacker.Channel,.int .i64 x.Unpacker.Next,.bool x.Unpacker.Synced,.string x.Unpacker.Rest,.int .i64 x.Unpacker.Lost]) (HB.out.to inferInstance) _ Tryz.underlying37 rfl (by kernel_rfl) (by kernel_rfl) ?_))
 refine(d_lszUnpacker (B:=0) (x:=x.Unpacker) ⟨rfl,HOK.out.2.2.1⟩ (by omega) (by omega)).mono ?_
 rintro _ _ ⟨rfl,y2,rfl⟩
 by_cases h2:left - totL x.Offers - Enc.tot x.Sender - Enc.tot x.Unpacker<0
 ·have HV:=lH (show szD left (Enc.tot x)=-1 from szD_neg (by rw[HTOT.out];omega))
  rw[szD_neg h2]
  go_wp2_with (first|((with_reducible refine wp_region_later (by kernel_rfl) (by kernel_rfl) ?_);(repeat(first|go_big_quiet_step (first|fail)));refine wpQuiet_nil ?_;rintro _ ⟨x,rfl⟩))
  go_ret
  exact Gives.mk (by rw[HV.out];rfl)
 rw[szD_pos h2]
 go_wp2_with (first|((with_reducible refine wp_region_later (by kernel_rfl) (by kernel_rfl) ?_);(repeat(first|go_big_quiet_step (first|fail)));refine wpQuiet_nil ?_;rintro _ ⟨x,rfl⟩))
 refine(d_lszPairS (HFF.out.q2.keep inferInstance) (by omega) (by omega)).mono ?_
 rintro _ _ ⟨rfl,y3,rfl⟩
 by_cases h3:left - totL x.Offers - Enc.tot x.Sender - Enc.tot x.Unpacker - totL x.Pairs<0
 ·have HV:=lH (show szD left (Enc.tot x)=-1 from szD_neg (by rw[HTOT.out];omega))
  rw[szD_neg h3]
  go_wp2_with (first|((with_reducible refine wp_region_later (by kernel_rfl) (by kernel_rfl) ?_);(repeat(first|go_big_quiet_step (first|fail)));refine wpQuiet_nil ?_;rintro _ ⟨x,rfl⟩))
  go_ret
  exact Gives.mk (by rw[HV.out];rfl)
 rw[szD_pos h3]
 go_wp2_with (first|((with_reducible refine wp_region_later (by kernel_rfl) (by kernel_rfl) ?_);(repeat(first|go_big_quiet_step (first|fail)));refine wpQuiet_nil ?_;rintro _ ⟨x,rfl⟩))
 refine(d_lszRecordS (HFF.out.q3.keep inferInstance) (by omega) (by omega)).mono ?_
 rintro _ _ ⟨rfl,y4,rfl⟩
 by_cases h4:left - totL x.Offers - Enc.tot x.Sender - Enc.tot x.Unpacker - totL x.Pairs - totL x.Records<0
 ·have HV:=lH (show szD left (Enc.tot x)=-1 from szD_neg (by rw[HTOT.out];omega))
  rw[szD_neg h4]
  go_wp2_with (first|((with_reducible refine wp_region_later (by kernel_rfl) (by kernel_rfl) ?_);(repeat(first|go_big_quiet_step (first|fail)));refine wpQuiet_nil ?_;rintro _ ⟨x,rfl⟩))
  go_ret
  exact Gives.mk (by rw[HV.out];rfl)
 rw[szD_pos h4]
 go_wp2_with (first|((with_reducible refine wp_region_later (by kernel_rfl) (by kernel_rfl) ?_);(repeat(first|go_big_quiet_step (first|fail)));refine wpQuiet_nil ?_;rintro _ ⟨x,rfl⟩))
 refine(d_lszFileInS (HFF.out.q4.keep inferInstance) (by omega) (by omega)).mono ?_
 rintro _ _ ⟨rfl,y5,rfl⟩
 by_cases h5:left - totL x.Offers - Enc.tot x.Sender - Enc.tot x.Unpacker - totL x.Pairs - totL x.Records - totL x.Files<0
 ·have HV:=lH (show szD left (Enc.tot x)=-1 from szD_neg (by rw[HTOT.out];omega))
  rw[szD_neg h5]
  go_wp2_with (first|((with_reducible refine wp_region_later (by kernel_rfl) (by kernel_rfl) ?_);(repeat(first|go_big_quiet_step (first|fail)));refine wpQuiet_nil ?_;rintro _ ⟨x,rfl⟩))
  go_ret
  exact Gives.mk (by rw[HV.out];rfl)
 rw[szD_pos h5]
 go_wp2_with (first|((with_reducible refine wp_region_later (by kernel_rfl) (by kernel_rfl) ?_);(repeat(first|go_big_quiet_step (first|fail)));refine wpQuiet_nil ?_;rintro _ ⟨x,rfl⟩))
 refine(d_lszBoolS (HFF.out.q5.keep inferInstance) (by omega) (by omega)).mono ?_
 rintro _ _ ⟨rfl,y6,rfl⟩
 by_cases h6:left - totL x.Offers - Enc.tot x.Sender - Enc.tot x.Unpacker - totL x.Pairs - totL x.Records - totL x.Files - totL x.Told<0
 ·have HV:=lH (show szD left (Enc.tot x)=-1 from szD_neg (by rw[HTOT.out];omega))
  rw[szD_neg h6]
  go_wp2_with (first|((with_reducible refine wp_region_later (by kernel_rfl) (by kernel_rfl) ?_);(repeat(first|go_big_quiet_step (first|fail)));refine wpQuiet_nil ?_;rintro _ ⟨x,rfl⟩))
  go_ret
  exact Gives.mk (by rw[HV.out];rfl)
 rw[szD_pos h6]
 have HV:=lH (show szD left (Enc.tot x)=left - totL x.Offers - Enc.tot x.Sender - Enc.tot x.Unpacker - totL x.Pairs - totL x.Records - totL x.Files - totL x.Told by rw[szD_pos (by rw[HTOT.out];omega),HTOT.out]<;>omega)
 go_wp2_with (first|((with_reducible refine wp_region_later (by kernel_rfl) (by kernel_rfl) ?_);(repeat(first|go_big_quiet_step (first|fail)));refine wpQuiet_nil ?_;rintro _ ⟨x,rfl⟩))
 go_ret
 exact Gives.mk (by rw[HV.out];rfl)
theorem d_leqGround{B B2:Nat}{vs vs2:List Value}{x:TGround}{w:World}(h:Enc.Rd B w vs x)(h2:Enc.Rd B2 w vs2 x) :
  Calls Tryz.prog 83 #[.agg vs.toArray,.agg vs2.toArray] w (Gives w (.bool true)):=by
 obtain⟨A,rfl,F⟩:=h
 obtain⟨mA,rfl,mF⟩:=h2
 have HOK:=lH F.ok
 have HB:=lH ((Held.new w (dGround x A) 76 w.heap.size rfl).to (inferInstance:Grows _ ((w.alloc (.cells (dGround x A).toArray 76)).alloc (.cells (dGround x mA).toArray 76))))
 have HC:=lH (Held.new (w.alloc (.cells (dGround x A).toArray 76)) (dGround x mA) 76 (w.heap.size+1) (by simp))
 have HFF:=lH F;clear F
 have HMF:=lH mF;clear mF
 go_enter Tryz.func83,Tryz.ntmps83
 go_wp2_with (first|((with_reducible refine wp_region_later (by kernel_rfl) (by kernel_rfl) ?_);(repeat(first|go_big_quiet_step (first|fail)));refine wpQuiet_nil ?_;rintro _ ⟨x,rfl⟩))
 refine(d_leqStringS (HFF.out.q0.keep inferInstance) (HMF.out.q0.keep inferInstance)).mono ?_
 rintro _ _ ⟨rfl,y0,rfl⟩
 go_wp2_with (first|((with_reducible refine wp_region_later (by kernel_rfl) (by kernel_rfl) ?_);(repeat(first|go_big_quiet_step (first|fail)));refine wpQuiet_nil ?_;rintro _ ⟨x,rfl⟩)|(refine stepLoad rfl _ _ rfl (w.heap.size) 1 rfl (row:=[.int .i64 x.Sender.Next,.int .i64 x.Sender.Window,.slice A.a1 x.Sender.Waiting.length A.c1,.int .i64 x.Sender.Done]) (HB.out.to inferInstance) _ Tryz.underlying69 rfl (by kernel_rfl) (by kernel_rfl) ?_)|(refine stepLoad rfl _ _ rfl (w.heap.size+1) 1 rfl (row:=[.int .i64 x.Sender.Next,.int .i64 x.Sender.Window,.slice mA.a1 x.Sender.Waiting.length mA.c1,.int .i64 x.Sender.Done]) (HC.out.to inferInstance) _ Tryz.underlying69 rfl (by kernel_rfl) (by kernel_rfl) ?_))
 refine(d_leqSender (x:=x.Sender) ⟨A.a1,A.c1,rfl,HFF.out.q1.keep inferInstance,HOK.out.1⟩ ⟨mA.a1,mA.c1,rfl,HMF.out.q1.keep inferInstance,HOK.out.1⟩).mono ?_
 rintro _ _ ⟨rfl,y1,rfl⟩
 go_wp2_with (first|((with_reducible refine wp_region_later (by kernel_rfl) (by kernel_rfl) ?_);(repeat(first|go_big_quiet_step (first|fail)));refine wpQuiet_nil ?_;rintro _ ⟨x,rfl⟩)|(refine stepLoad rfl _ _ rfl (w.heap.size) 5 rfl (row:=[.int .i64 x.Notice.Expect,.bool x.Notice.Locked,.bool x.Notice.Again]) (HB.out.to inferInstance) _ Tryz.underlying70 rfl (by kernel_rfl) (by kernel_rfl) ?_)|(refine stepLoad rfl _ _ rfl (w.heap.size+1) 5 rfl (row:=[.int .i64 x.Notice.Expect,.bool x.Notice.Locked,.bool x.Notice.Again]) (HC.out.to inferInstance) _ Tryz.underlying70 rfl (by kernel_rfl) (by kernel_rfl) ?_))
 refine(d_leqNotice (B:=0) (B2:=0) (x:=x.Notice) ⟨rfl,HOK.out.2.1⟩ ⟨rfl,HOK.out.2.1⟩).mono ?_
 rintro _ _ ⟨rfl,y2,rfl⟩
 go_wp2_with (first|((with_reducible refine wp_region_later (by kernel_rfl) (by kernel_rfl) ?_);(repeat(first|go_big_quiet_step (first|fail)));refine wpQuiet_nil ?_;rintro _ ⟨x,rfl⟩)|(refine stepLoad rfl _ _ rfl (w.heap.size) 8 rfl (row:=[.int .i64 x.Unpacker.Channel,.int .i64 x.Unpacker.Next,.bool x.Unpacker.Synced,.string x.Unpacker.Rest,.int .i64 x.Unpacker.Lost]) (HB.out.to inferInstance) _ Tryz.underlying71 rfl (by kernel_rfl) (by kernel_rfl) ?_)|(refine stepLoad rfl _ _ rfl (w.heap.size+1) 8 rfl (row:=[.int .i64 x.Unpacker.Channel,.int .i64 x.Unpacker.Next,.bool x.Unpacker.Synced,.string x.Unpacker.Rest,.int .i64 x.Unpacker.Lost]) (HC.out.to inferInstance) _ Tryz.underlying71 rfl (by kernel_rfl) (by kernel_rfl) ?_))
 refine(d_leqUnpacker (B:=0) (B2:=0) (x:=x.Unpacker) ⟨rfl,HOK.out.2.2.1⟩ ⟨rfl,HOK.out.2.2.1⟩).mono ?_
 rintro _ _ ⟨rfl,y3,rfl⟩
 go_wp2_with (first|((with_reducible refine wp_region_later (by kernel_rfl) (by kernel_rfl) ?_);(repeat(first|go_big_quiet_step (first|fail)));refine wpQuiet_nil ?_;rintro _ ⟨x,rfl⟩))
 refine(d_leqPairS (HFF.out.q2.keep inferInstance) (HMF.out.q2.keep inferInstance)).mono ?_
 rintro _ _ ⟨rfl,y4,rfl⟩
 go_wp2_with (first|((with_reducible refine wp_region_later (by kernel_rfl) (by kernel_rfl) ?_);(repeat(first|go_big_quiet_step (first|fail)));refine wpQuiet_nil ?_;rintro _ ⟨x,rfl⟩))
 refine(d_leqRecordS (HFF.out.q3.keep inferInstance) (HMF.out.q3.keep inferInstance)).mono ?_
 rintro _ _ ⟨rfl,y5,rfl⟩
 go_wp2_with (first|((with_reducible refine wp_region_later (by kernel_rfl) (by kernel_rfl) ?_);(repeat(first|go_big_quiet_step (first|fail)));refine wpQuiet_nil ?_;rintro _ ⟨x,rfl⟩))
 refine(d_leqFileInS (HFF.out.q4.keep inferInstance) (HMF.out.q4.keep inferInstance)).mono ?_
 rintro _ _ ⟨rfl,y6,rfl⟩
 go_wp2_with (first|((with_reducible refine wp_region_later (by kernel_rfl) (by kernel_rfl) ?_);(repeat(first|go_big_quiet_step (first|fail)));refine wpQuiet_nil ?_;rintro _ ⟨x,rfl⟩))
 refine(d_leqBoolS (HFF.out.q5.keep inferInstance) (HMF.out.q5.keep inferInstance)).mono ?_
 rintro _ _ ⟨rfl,y7,rfl⟩
 go_wp2_with (first|((with_reducible refine wp_region_later (by kernel_rfl) (by kernel_rfl) ?_);(repeat(first|go_big_quiet_step (first|fail)));refine wpQuiet_nil ?_;rintro _ ⟨x,rfl⟩))
 go_ret
 exact Gives.mk rfl
set_option maxRecDepth 100000 in
set_option maxHeartbeats 2000000 in
theorem d_lszBoard{B:Nat}{vs:List Value}{x:TBoard}{left:Int}{w:World}(h:Enc.Rd B w vs x)(hl:0≤left)(hl2:left≤1048576) :
  Calls Tryz.prog 189 #[.agg vs.toArray,.int .i64 left] w (Gives w (.int .i64 (szD left (Enc.tot x)))):=by
 obtain⟨A,rfl,F⟩:=h
 have n0:=totL_nonneg x.Params
 have n1:=totL_nonneg x.Limits
 have n2:=totL_nonneg x.Orders
 have n3:=totL_nonneg x.Done
 have n4:=Enc.tot_nonneg x.Recorder
 have n5:=totL_nonneg x.Asked
 have HOK:=lH F.ok
 have htot:Enc.tot x=totL x.Params+totL x.Limits+totL x.Orders+totL x.Done+Enc.tot x.Recorder+totL x.Asked:=rfl
 have HTOT:=lH htot;clear htot
 have HB:=lH (Held.new w (dBoard x A) 53 w.heap.size rfl)
 have HFF:=lH F;clear F
 go_enter Tryz.func189,Tryz.ntmps189
 go_wp2_with (first|((with_reducible refine wp_region_later (by kernel_rfl) (by kernel_rfl) ?_);(repeat(first|go_big_quiet_step (first|fail)));refine wpQuiet_nil ?_;rintro _ ⟨x,rfl⟩))
 refine(d_lszIntS (HFF.out.q0.keep inferInstance) (by omega) (by omega)).mono ?_
 rintro _ _ ⟨rfl,y0,rfl⟩
 by_cases h0:left - totL x.Params<0
 ·have HV:=lH (show szD left (Enc.tot x)=-1 from szD_neg (by rw[HTOT.out];omega))
  rw[szD_neg h0]
  go_wp2_with (first|((with_reducible refine wp_region_later (by kernel_rfl) (by kernel_rfl) ?_);(repeat(first|go_big_quiet_step (first|fail)));refine wpQuiet_nil ?_;rintro _ ⟨x,rfl⟩))
  go_ret
  exact Gives.mk (by rw[HV.out];rfl)
 rw[szD_pos h0]
 go_wp2_with (first|((with_reducible refine wp_region_later (by kernel_rfl) (by kernel_rfl) ?_);(repeat(first|go_big_quiet_step (first|fail)));refine wpQuiet_nil ?_;rintro _ ⟨x,rfl⟩))
 refine(d_lszLimitS (HFF.out.q1.keep inferInstance) (by omega) (by omega)).mono ?_
 rintro _ _ ⟨rfl,y1,rfl⟩
 by_cases h1:left - totL x.Params - totL x.Limits<0
 ·have HV:=lH (show szD left (Enc.tot x)=-1 from szD_neg (by rw[HTOT.out];omega))
  rw[szD_neg h1]
  go_wp2_with (first|((with_reducible refine wp_region_later (by kernel_rfl) (by kernel_rfl) ?_);(repeat(first|go_big_quiet_step (first|fail)));refine wpQuiet_nil ?_;rintro _ ⟨x,rfl⟩))
  go_ret
  exact Gives.mk (by rw[HV.out];rfl)
 rw[szD_pos h1]
 go_wp2_with (first|((with_reducible refine wp_region_later (by kernel_rfl) (by kernel_rfl) ?_);(repeat(first|go_big_quiet_step (first|fail)));refine wpQuiet_nil ?_;rintro _ ⟨x,rfl⟩))
 refine(d_lszWaitingS (HFF.out.q2.keep inferInstance) (by omega) (by omega)).mono ?_
 rintro _ _ ⟨rfl,y2,rfl⟩
 by_cases h2:left - totL x.Params - totL x.Limits - totL x.Orders<0
 ·have HV:=lH (show szD left (Enc.tot x)=-1 from szD_neg (by rw[HTOT.out];omega))
  rw[szD_neg h2]
  go_wp2_with (first|((with_reducible refine wp_region_later (by kernel_rfl) (by kernel_rfl) ?_);(repeat(first|go_big_quiet_step (first|fail)));refine wpQuiet_nil ?_;rintro _ ⟨x,rfl⟩))
  go_ret
  exact Gives.mk (by rw[HV.out];rfl)
 rw[szD_pos h2]
 go_wp2_with (first|((with_reducible refine wp_region_later (by kernel_rfl) (by kernel_rfl) ?_);(repeat(first|go_big_quiet_step (first|fail)));refine wpQuiet_nil ?_;rintro _ ⟨x,rfl⟩))
 refine(d_lszDoneS (HFF.out.q3.keep inferInstance) (by omega) (by omega)).mono ?_
 rintro _ _ ⟨rfl,y3,rfl⟩
 by_cases h3:left - totL x.Params - totL x.Limits - totL x.Orders - totL x.Done<0
 ·have HV:=lH (show szD left (Enc.tot x)=-1 from szD_neg (by rw[HTOT.out];omega))
  rw[szD_neg h3]
  go_wp2_with (first|((with_reducible refine wp_region_later (by kernel_rfl) (by kernel_rfl) ?_);(repeat(first|go_big_quiet_step (first|fail)));refine wpQuiet_nil ?_;rintro _ ⟨x,rfl⟩))
  go_ret
  exact Gives.mk (by rw[HV.out];rfl)
 rw[szD_pos h3]
 go_wp2_with (first|((with_reducible refine wp_region_later (by kernel_rfl) (by kernel_rfl) ?_);(repeat(first|go_big_quiet_step (first|fail)));refine wpQuiet_nil ?_;rintro _ ⟨x,rfl⟩)|(refine stepLoad rfl _ _ rfl (w.heap.size) 6 rfl (row:=[.int .i64 x.Recorder.Room,.slice A.a4 x.Recorder.Records.length A.c4,.slice A.a5 x.Recorder.Dropped.length A.c5]) (HB.out.to inferInstance) _ Tryz.underlying51 rfl (by kernel_rfl) (by kernel_rfl) ?_))
 refine(d_lszRecorder (x:=x.Recorder) ⟨A.a4,A.c4,A.a5,A.c5,rfl,HFF.out.q4.keep inferInstance,HFF.out.q5.keep inferInstance,HOK.out.2.1⟩ (by omega) (by omega)).mono ?_
 rintro _ _ ⟨rfl,y4,rfl⟩
 by_cases h4:left - totL x.Params - totL x.Limits - totL x.Orders - totL x.Done - Enc.tot x.Recorder<0
 ·have HV:=lH (show szD left (Enc.tot x)=-1 from szD_neg (by rw[HTOT.out];omega))
  rw[szD_neg h4]
  go_wp2_with (first|((with_reducible refine wp_region_later (by kernel_rfl) (by kernel_rfl) ?_);(repeat(first|go_big_quiet_step (first|fail)));refine wpQuiet_nil ?_;rintro _ ⟨x,rfl⟩))
  go_ret
  exact Gives.mk (by rw[HV.out];rfl)
 rw[szD_pos h4]
 go_wp2_with (first|((with_reducible refine wp_region_later (by kernel_rfl) (by kernel_rfl) ?_);(repeat(first|go_big_quiet_step (first|fail)));refine wpQuiet_nil ?_;rintro _ ⟨x,rfl⟩))
 refine(d_lszIntS (HFF.out.q6.keep inferInstance) (by omega) (by omega)).mono ?_
 rintro _ _ ⟨rfl,y5,rfl⟩
 by_cases h5:left - totL x.Params - totL x.Limits - totL x.Orders - totL x.Done - Enc.tot x.Recorder - totL x.Asked<0
 ·have HV:=lH (show szD left (Enc.tot x)=-1 from szD_neg (by rw[HTOT.out];omega))
  rw[szD_neg h5]
  go_wp2_with (first|((with_reducible refine wp_region_later (by kernel_rfl) (by kernel_rfl) ?_);(repeat(first|go_big_quiet_step (first|fail)));refine wpQuiet_nil ?_;rintro _ ⟨x,rfl⟩))
  go_ret
  exact Gives.mk (by rw[HV.out];rfl)
 rw[szD_pos h5]
 have HV:=lH (show szD left (Enc.tot x)=left - totL x.Params - totL x.Limits - totL x.Orders - totL x.Done - Enc.tot x.Recorder - totL x.Asked by rw[szD_pos (by rw[HTOT.out];omega),HTOT.out]<;>omega)
 go_wp2_with (first|((with_reducible refine wp_region_later (by kernel_rfl) (by kernel_rfl) ?_);(repeat(first|go_big_quiet_step (first|fail)));refine wpQuiet_nil ?_;rintro _ ⟨x,rfl⟩))
 go_ret
 exact Gives.mk (by rw[HV.out];rfl)
theorem d_leqBoard{B B2:Nat}{vs vs2:List Value}{x:TBoard}{w:World}(h:Enc.Rd B w vs x)(h2:Enc.Rd B2 w vs2 x) :
  Calls Tryz.prog 244 #[.agg vs.toArray,.agg vs2.toArray] w (Gives w (.bool true)):=by
 obtain⟨A,rfl,F⟩:=h
 obtain⟨mA,rfl,mF⟩:=h2
 have HOK:=lH F.ok
 have HB:=lH ((Held.new w (dBoard x A) 84 w.heap.size rfl).to (inferInstance:Grows _ ((w.alloc (.cells (dBoard x A).toArray 84)).alloc (.cells (dBoard x mA).toArray 84))))
 have HC:=lH (Held.new (w.alloc (.cells (dBoard x A).toArray 84)) (dBoard x mA) 84 (w.heap.size+1) (by simp))
 have HFF:=lH F;clear F
 have HMF:=lH mF;clear mF
 go_enter Tryz.func244,Tryz.ntmps244
 go_wp2_with (first|((with_reducible refine wp_region_later (by kernel_rfl) (by kernel_rfl) ?_);(repeat(first|go_big_quiet_step (first|fail)));refine wpQuiet_nil ?_;rintro _ ⟨x,rfl⟩))
 refine(d_leqIntS (HFF.out.q0.keep inferInstance) (HMF.out.q0.keep inferInstance)).mono ?_
 rintro _ _ ⟨rfl,y0,rfl⟩
 go_wp2_with (first|((with_reducible refine wp_region_later (by kernel_rfl) (by kernel_rfl) ?_);(repeat(first|go_big_quiet_step (first|fail)));refine wpQuiet_nil ?_;rintro _ ⟨x,rfl⟩))
 refine(d_leqLimitS (HFF.out.q1.keep inferInstance) (HMF.out.q1.keep inferInstance)).mono ?_
 rintro _ _ ⟨rfl,y1,rfl⟩
 go_wp2_with (first|((with_reducible refine wp_region_later (by kernel_rfl) (by kernel_rfl) ?_);(repeat(first|go_big_quiet_step (first|fail)));refine wpQuiet_nil ?_;rintro _ ⟨x,rfl⟩))
 refine(d_leqWaitingS (HFF.out.q2.keep inferInstance) (HMF.out.q2.keep inferInstance)).mono ?_
 rintro _ _ ⟨rfl,y2,rfl⟩
 go_wp2_with (first|((with_reducible refine wp_region_later (by kernel_rfl) (by kernel_rfl) ?_);(repeat(first|go_big_quiet_step (first|fail)));refine wpQuiet_nil ?_;rintro _ ⟨x,rfl⟩))
 refine(d_leqDoneS (HFF.out.q3.keep inferInstance) (HMF.out.q3.keep inferInstance)).mono ?_
 rintro _ _ ⟨rfl,y3,rfl⟩
 go_wp2_with (first|((with_reducible refine wp_region_later (by kernel_rfl) (by kernel_rfl) ?_);(repeat(first|go_big_quiet_step (first|fail)));refine wpQuiet_nil ?_;rintro _ ⟨x,rfl⟩)|(refine stepLoad rfl _ _ rfl (w.heap.size) 6 rfl (row:=[.int .i64 x.Recorder.Room,.slice A.a4 x.Recorder.Records.length A.c4,.slice A.a5 x.Recorder.Dropped.length A.c5]) (HB.out.to inferInstance) _ Tryz.underlying82 rfl (by kernel_rfl) (by kernel_rfl) ?_)|(refine stepLoad rfl _ _ rfl (w.heap.size+1) 6 rfl (row:=[.int .i64 x.Recorder.Room,.slice mA.a4 x.Recorder.Records.length mA.c4,.slice mA.a5 x.Recorder.Dropped.length mA.c5]) (HC.out.to inferInstance) _ Tryz.underlying82 rfl (by kernel_rfl) (by kernel_rfl) ?_))
 refine(d_leqRecorder (x:=x.Recorder) ⟨A.a4,A.c4,A.a5,A.c5,rfl,HFF.out.q4.keep inferInstance,HFF.out.q5.keep inferInstance,HOK.out.2.1⟩ ⟨mA.a4,mA.c4,mA.a5,mA.c5,rfl,HMF.out.q4.keep inferInstance,HMF.out.q5.keep inferInstance,HOK.out.2.1⟩).mono ?_
 rintro _ _ ⟨rfl,y4,rfl⟩
 go_wp2_with (first|((with_reducible refine wp_region_later (by kernel_rfl) (by kernel_rfl) ?_);(repeat(first|go_big_quiet_step (first|fail)));refine wpQuiet_nil ?_;rintro _ ⟨x,rfl⟩))
 refine(d_leqIntS (HFF.out.q6.keep inferInstance) (HMF.out.q6.keep inferInstance)).mono ?_
 rintro _ _ ⟨rfl,y5,rfl⟩
 go_wp2_with (first|((with_reducible refine wp_region_later (by kernel_rfl) (by kernel_rfl) ?_);(repeat(first|go_big_quiet_step (first|fail)));refine wpQuiet_nil ?_;rintro _ ⟨x,rfl⟩))
 go_ret
 exact Gives.mk rfl
set_option maxRecDepth 100000 in
set_option maxHeartbeats 2000000 in
theorem d_lszSpace{B:Nat}{vs:List Value}{x:TSpace}{left:Int}{w:World}(h:Enc.Rd B w vs x)(hl:0≤left)(hl2:left≤1048576) :
  Calls Tryz.prog 57 #[.agg vs.toArray,.int .i64 left] w (Gives w (.int .i64 (szD left (Enc.tot x)))):=by
 obtain⟨A,rfl,F⟩:=h
 have n0:=Enc.tot_nonneg x.Board
 have n1:=Enc.tot_nonneg x.Packer
 have n2:=totL_nonneg x.Files
 have n3:=totL_nonneg x.Outs
 have n4:=totL_nonneg x.Sent
 have HOK:=lH F.ok
 have htot:Enc.tot x=Enc.tot x.Board+Enc.tot x.Packer+totL x.Files+totL x.Outs+totL x.Sent:=rfl
 have HTOT:=lH htot;clear htot
 have HB:=lH (Held.new w (dSpace x A) 58 w.heap.size rfl)
 have HFF:=lH F;clear F
 go_enter Tryz.func57,Tryz.ntmps57
 go_wp2_with (first|((with_reducible refine wp_region_later (by kernel_rfl) (by kernel_rfl) ?_);(repeat(first|go_big_quiet_step (first|fail)));refine wpQuiet_nil ?_;rintro _ ⟨x,rfl⟩)|(refine stepLoad rfl _ _ rfl (w.heap.size) 4 rfl (row:=(dBoard x.Board A)) (HB.out.to inferInstance) _ Tryz.underlying53 rfl (by kernel_rfl) (by kernel_rfl) ?_))
 refine(d_lszBoard (x:=x.Board) ⟨⟨A.a0,A.c0,A.a1,A.c1,A.a2,A.c2,A.a3,A.c3,A.a4,A.c4,A.a5,A.c5,A.a6,A.c6⟩,rfl,⟨HFF.out.q0.keep inferInstance,HFF.out.q1.keep inferInstance,HFF.out.q2.keep inferInstance,HFF.out.q3.keep inferInstance,HFF.out.q4.keep inferInstance,HFF.out.q5.keep inferInstance,HFF.out.q6.keep inferInstance,HOK.out.2.1⟩⟩ (by omega) (by omega)).mono ?_
 rintro _ _ ⟨rfl,y0,rfl⟩
 by_cases h0:left - Enc.tot x.Board<0
 ·have HV:=lH (show szD left (Enc.tot x)=-1 from szD_neg (by rw[HTOT.out];omega))
  rw[szD_neg h0]
  go_wp2_with (first|((with_reducible refine wp_region_later (by kernel_rfl) (by kernel_rfl) ?_);(repeat(first|go_big_quiet_step (first|fail)));refine wpQuiet_nil ?_;rintro _ ⟨x,rfl⟩))
  go_ret
  exact Gives.mk (by rw[HV.out];rfl)
 rw[szD_pos h0]
 go_wp2_with (first|((with_reducible refine wp_region_later (by kernel_rfl) (by kernel_rfl) ?_);(repeat(first|go_big_quiet_step (first|fail)));refine wpQuiet_nil ?_;rintro _ ⟨x,rfl⟩)|(refine stepLoad rfl _ _ rfl (w.heap.size) 16 rfl (row:=[.int .i64 x.Packer.Channel,.int .i64 x.Packer.Count,.string x.Packer.Rest,.slice A.a7 x.Packer.Starts.length A.c7]) (HB.out.to inferInstance) _ Tryz.underlying55 rfl (by kernel_rfl) (by kernel_rfl) ?_))
 refine(d_lszPacker (x:=x.Packer) ⟨A.a7,A.c7,rfl,HFF.out.q7.keep inferInstance,HOK.out.2.2.1⟩ (by omega) (by omega)).mono ?_
 rintro _ _ ⟨rfl,y1,rfl⟩
 by_cases h1:left - Enc.tot x.Board - Enc.tot x.Packer<0
 ·have HV:=lH (show szD left (Enc.tot x)=-1 from szD_neg (by rw[HTOT.out];omega))
  rw[szD_neg h1]
  go_wp2_with (first|((with_reducible refine wp_region_later (by kernel_rfl) (by kernel_rfl) ?_);(repeat(first|go_big_quiet_step (first|fail)));refine wpQuiet_nil ?_;rintro _ ⟨x,rfl⟩))
  go_ret
  exact Gives.mk (by rw[HV.out];rfl)
 rw[szD_pos h1]
 go_wp2_with (first|((with_reducible refine wp_region_later (by kernel_rfl) (by kernel_rfl) ?_);(repeat(first|go_big_quiet_step (first|fail)));refine wpQuiet_nil ?_;rintro _ ⟨x,rfl⟩))
 refine(d_lszStringS (HFF.out.q8.keep inferInstance) (by omega) (by omega)).mono ?_
 rintro _ _ ⟨rfl,y2,rfl⟩
 by_cases h2:left - Enc.tot x.Board - Enc.tot x.Packer - totL x.Files<0
 ·have HV:=lH (show szD left (Enc.tot x)=-1 from szD_neg (by rw[HTOT.out];omega))
  rw[szD_neg h2]
  go_wp2_with (first|((with_reducible refine wp_region_later (by kernel_rfl) (by kernel_rfl) ?_);(repeat(first|go_big_quiet_step (first|fail)));refine wpQuiet_nil ?_;rintro _ ⟨x,rfl⟩))
  go_ret
  exact Gives.mk (by rw[HV.out];rfl)
 rw[szD_pos h2]
 go_wp2_with (first|((with_reducible refine wp_region_later (by kernel_rfl) (by kernel_rfl) ?_);(repeat(first|go_big_quiet_step (first|fail)));refine wpQuiet_nil ?_;rintro _ ⟨x,rfl⟩))
 refine(d_lszFileOutS (HFF.out.q9.keep inferInstance) (by omega) (by omega)).mono ?_
 rintro _ _ ⟨rfl,y3,rfl⟩
 by_cases h3:left - Enc.tot x.Board - Enc.tot x.Packer - totL x.Files - totL x.Outs<0
 ·have HV:=lH (show szD left (Enc.tot x)=-1 from szD_neg (by rw[HTOT.out];omega))
  rw[szD_neg h3]
  go_wp2_with (first|((with_reducible refine wp_region_later (by kernel_rfl) (by kernel_rfl) ?_);(repeat(first|go_big_quiet_step (first|fail)));refine wpQuiet_nil ?_;rintro _ ⟨x,rfl⟩))
  go_ret
  exact Gives.mk (by rw[HV.out];rfl)
 rw[szD_pos h3]
 go_wp2_with (first|((with_reducible refine wp_region_later (by kernel_rfl) (by kernel_rfl) ?_);(repeat(first|go_big_quiet_step (first|fail)));refine wpQuiet_nil ?_;rintro _ ⟨x,rfl⟩))
 refine(d_lszRecordS (HFF.out.q10.keep inferInstance) (by omega) (by omega)).mono ?_
 rintro _ _ ⟨rfl,y4,rfl⟩
 by_cases h4:left - Enc.tot x.Board - Enc.tot x.Packer - totL x.Files - totL x.Outs - totL x.Sent<0
 ·have HV:=lH (show szD left (Enc.tot x)=-1 from szD_neg (by rw[HTOT.out];omega))
  rw[szD_neg h4]
  go_wp2_with (first|((with_reducible refine wp_region_later (by kernel_rfl) (by kernel_rfl) ?_);(repeat(first|go_big_quiet_step (first|fail)));refine wpQuiet_nil ?_;rintro _ ⟨x,rfl⟩))
  go_ret
  exact Gives.mk (by rw[HV.out];rfl)
 rw[szD_pos h4]
 have HV:=lH (show szD left (Enc.tot x)=left - Enc.tot x.Board - Enc.tot x.Packer - totL x.Files - totL x.Outs - totL x.Sent by rw[szD_pos (by rw[HTOT.out];omega),HTOT.out]<;>omega)
 go_wp2_with (first|((with_reducible refine wp_region_later (by kernel_rfl) (by kernel_rfl) ?_);(repeat(first|go_big_quiet_step (first|fail)));refine wpQuiet_nil ?_;rintro _ ⟨x,rfl⟩))
 go_ret
 exact Gives.mk (by rw[HV.out];rfl)
theorem d_leqSpace{B B2:Nat}{vs vs2:List Value}{x:TSpace}{w:World}(h:Enc.Rd B w vs x)(h2:Enc.Rd B2 w vs2 x) :
  Calls Tryz.prog 84 #[.agg vs.toArray,.agg vs2.toArray] w (Gives w (.bool true)):=by
 obtain⟨A,rfl,F⟩:=h
 obtain⟨mA,rfl,mF⟩:=h2
 have HOK:=lH F.ok
 have HB:=lH ((Held.new w (dSpace x A) 88 w.heap.size rfl).to (inferInstance:Grows _ ((w.alloc (.cells (dSpace x A).toArray 88)).alloc (.cells (dSpace x mA).toArray 88))))
 have HC:=lH (Held.new (w.alloc (.cells (dSpace x A).toArray 88)) (dSpace x mA) 88 (w.heap.size+1) (by simp))
 have HFF:=lH F;clear F
 have HMF:=lH mF;clear mF
 go_enter Tryz.func84,Tryz.ntmps84
 go_wp2_with (first|((with_reducible refine wp_region_later (by kernel_rfl) (by kernel_rfl) ?_);(repeat(first|go_big_quiet_step (first|fail)));refine wpQuiet_nil ?_;rintro _ ⟨x,rfl⟩)|(refine stepLoad rfl _ _ rfl (w.heap.size) 0 rfl (row:=[.int .i64 x.Receiver.Expect,.bool x.Receiver.Locked,.bool x.Receiver.Again,.int .i64 x.Receiver.Taken]) (HB.out.to inferInstance) _ Tryz.underlying77 rfl (by kernel_rfl) (by kernel_rfl) ?_)|(refine stepLoad rfl _ _ rfl (w.heap.size+1) 0 rfl (row:=[.int .i64 x.Receiver.Expect,.bool x.Receiver.Locked,.bool x.Receiver.Again,.int .i64 x.Receiver.Taken]) (HC.out.to inferInstance) _ Tryz.underlying77 rfl (by kernel_rfl) (by kernel_rfl) ?_))
 refine(d_leqReceiver (B:=0) (B2:=0) (x:=x.Receiver) ⟨rfl,HOK.out.1⟩ ⟨rfl,HOK.out.1⟩).mono ?_
 rintro _ _ ⟨rfl,y0,rfl⟩
 go_wp2_with (first|((with_reducible refine wp_region_later (by kernel_rfl) (by kernel_rfl) ?_);(repeat(first|go_big_quiet_step (first|fail)));refine wpQuiet_nil ?_;rintro _ ⟨x,rfl⟩)|(refine stepLoad rfl _ _ rfl (w.heap.size) 4 rfl (row:=(dBoard x.Board A)) (HB.out.to inferInstance) _ Tryz.underlying84 rfl (by kernel_rfl) (by kernel_rfl) ?_)|(refine stepLoad rfl _ _ rfl (w.heap.size+1) 4 rfl (row:=(dBoard x.Board mA)) (HC.out.to inferInstance) _ Tryz.underlying84 rfl (by kernel_rfl) (by kernel_rfl) ?_))
 refine(d_leqBoard (x:=x.Board) ⟨⟨A.a0,A.c0,A.a1,A.c1,A.a2,A.c2,A.a3,A.c3,A.a4,A.c4,A.a5,A.c5,A.a6,A.c6⟩,rfl,⟨HFF.out.q0.keep inferInstance,HFF.out.q1.keep inferInstance,HFF.out.q2.keep inferInstance,HFF.out.q3.keep inferInstance,HFF.out.q4.keep inferInstance,HFF.out.q5.keep inferInstance,HFF.out.q6.keep inferInstance,HOK.out.2.1⟩⟩ ⟨⟨mA.a0,mA.c0,mA.a1,mA.c1,mA.a2,mA.c2,mA.a3,mA.c3,mA.a4,mA.c4,mA.a5,mA.c5,mA.a6,mA.c6⟩,rfl,⟨HMF.out.q0.keep inferInstance,HMF.out.q1.keep inferInstance,HMF.out.q2.keep inferInstance,HMF.out.q3.keep inferInstance,HMF.out.q4.keep inferInstance,HMF.out.q5.keep inferInstance,HMF.out.q6.keep inferInstance,HOK.out.2.1⟩⟩).mono ?_
 rintro _ _ ⟨rfl,y1,rfl⟩
 go_wp2_with (first|((with_reducible refine wp_region_later (by kernel_rfl) (by kernel_rfl) ?_);(repeat(first|go_big_quiet_step (first|fail)));refine wpQuiet_nil ?_;rintro _ ⟨x,rfl⟩)|(refine stepLoad rfl _ _ rfl (w.heap.size) 16 rfl (row:=[.int .i64 x.Packer.Channel,.int .i64 x.Packer.Count,.string x.Packer.Rest,.slice A.a7 x.Packer.Starts.length A.c7]) (HB.out.to inferInstance) _ Tryz.underlying85 rfl (by kernel_rfl) (by kernel_rfl) ?_)|(refine stepLoad rfl _ _ rfl (w.heap.size+1) 16 rfl (row:=[.int .i64 x.Packer.Channel,.int .i64 x.Packer.Count,.string x.Packer.Rest,.slice mA.a7 x.Packer.Starts.length mA.c7]) (HC.out.to inferInstance) _ Tryz.underlying85 rfl (by kernel_rfl) (by kernel_rfl) ?_))
 refine(d_leqPacker (x:=x.Packer) ⟨A.a7,A.c7,rfl,HFF.out.q7.keep inferInstance,HOK.out.2.2.1⟩ ⟨mA.a7,mA.c7,rfl,HMF.out.q7.keep inferInstance,HOK.out.2.2.1⟩).mono ?_
 rintro _ _ ⟨rfl,y2,rfl⟩
 go_wp2_with (first|((with_reducible refine wp_region_later (by kernel_rfl) (by kernel_rfl) ?_);(repeat(first|go_big_quiet_step (first|fail)));refine wpQuiet_nil ?_;rintro _ ⟨x,rfl⟩))
 refine(d_leqStringS (HFF.out.q8.keep inferInstance) (HMF.out.q8.keep inferInstance)).mono ?_
 rintro _ _ ⟨rfl,y3,rfl⟩
 go_wp2_with (first|((with_reducible refine wp_region_later (by kernel_rfl) (by kernel_rfl) ?_);(repeat(first|go_big_quiet_step (first|fail)));refine wpQuiet_nil ?_;rintro _ ⟨x,rfl⟩))
 refine(d_leqFileOutS (HFF.out.q9.keep inferInstance) (HMF.out.q9.keep inferInstance)).mono ?_
 rintro _ _ ⟨rfl,y4,rfl⟩
 go_wp2_with (first|((with_reducible refine wp_region_later (by kernel_rfl) (by kernel_rfl) ?_);(repeat(first|go_big_quiet_step (first|fail)));refine wpQuiet_nil ?_;rintro _ ⟨x,rfl⟩))
 refine(d_leqRecordS (HFF.out.q10.keep inferInstance) (HMF.out.q10.keep inferInstance)).mono ?_
 rintro _ _ ⟨rfl,y5,rfl⟩
 go_wp2_with (first|((with_reducible refine wp_region_later (by kernel_rfl) (by kernel_rfl) ?_);(repeat(first|go_big_quiet_step (first|fail)));refine wpQuiet_nil ?_;rintro _ ⟨x,rfl⟩))
 go_ret
 exact Gives.mk rfl
def shortAll(p:List ByteArray):Bool:=p.all (fun s=>decide (s.size≤24))
def fileInOk(f z k:Int)(p:List ByteArray):Bool:=inB f 0 7 && (inB z (-1) 600 && (inB k (-1) 65535 && (((z == -1) == (k == -1)) && (decide (p.length=25) && shortAll p))))
set_option maxRecDepth 100000 in
set_option maxHeartbeats 2000000 in
theorem c_iFileInOk{a:Option Addr}{n c:Nat}{f z k:Int}{p:List ByteArray}{w:World}(hs:Sl encStr w a p)(hn:p.length=n)(hm:n≤4611686018427387904)(hsz:∀ s∈p,s.size≤100000000) :
  Calls Tryz.prog 230 #[.agg #[.int .i64 f,.int .i64 z,.int .i64 k,.slice a n c]] w (Gives w (.bool (fileInOk f z k p))):=by
 have HS:=lH hsz;clear hsz
 have HF:=lH (show fileInOk f z k p=(inB f 0 7 && (inB z (-1) 600 && (inB k (-1) 65535 && (((z == -1) == (k == -1)) && (decide (n=25) && shortAll p)))))by rw[fileInOk,hn])
 cases c1:inB f 0 7
 ·go_enter Tryz.func230,Tryz.ntmps230
  go_wp2_with (first|((with_reducible refine wp_region_later (by kernel_rfl) (by kernel_rfl) ?_);(repeat(first|go_big_quiet_step (first|(go_at_call 156;exact Gives.quiet (c_ibetween)))|simp only[c1]));refine wpQuiet_nil ?_;rintro _ ⟨x,rfl⟩)|(go_at_call 156;refine(c_ibetween).mono ?_;rintro _ _ ⟨rfl,x,rfl⟩))
  go_ret
  exact Gives.mk (by rw[HF.out,c1];rfl)
 cases c2:inB z (-1) 600
 ·go_enter Tryz.func230,Tryz.ntmps230
  go_wp2_with (first|((with_reducible refine wp_region_later (by kernel_rfl) (by kernel_rfl) ?_);(repeat(first|go_big_quiet_step (first|(go_at_call 156;exact Gives.quiet (c_ibetween)))|simp only[c1]|simp only[c2]));refine wpQuiet_nil ?_;rintro _ ⟨x,rfl⟩)|(go_at_call 156;refine(c_ibetween).mono ?_;rintro _ _ ⟨rfl,x,rfl⟩))
  go_ret
  exact Gives.mk (by rw[HF.out,c1,c2];rfl)
 cases c3:inB k (-1) 65535
 ·go_enter Tryz.func230,Tryz.ntmps230
  go_wp2_with (first|((with_reducible refine wp_region_later (by kernel_rfl) (by kernel_rfl) ?_);(repeat(first|go_big_quiet_step (first|(go_at_call 156;exact Gives.quiet (c_ibetween)))|simp only[c1]|simp only[c2]|simp only[c3]));refine wpQuiet_nil ?_;rintro _ ⟨x,rfl⟩)|(go_at_call 156;refine(c_ibetween).mono ?_;rintro _ _ ⟨rfl,x,rfl⟩))
  go_ret
  exact Gives.mk (by rw[HF.out,c1,c2,c3];rfl)
 cases c4:((z == -1) == (k == -1))
 ·have c5:((z == -1) != (k == -1))=true:=by rw[bne,c4];rfl
  go_enter Tryz.func230,Tryz.ntmps230
  go_wp2_with (first|((with_reducible refine wp_region_later (by kernel_rfl) (by kernel_rfl) ?_);(repeat(first|go_big_quiet_step (first|(go_at_call 156;exact Gives.quiet (c_ibetween)))|simp only[c1]|simp only[c2]|simp only[c3]|simp only[c5]));refine wpQuiet_nil ?_;rintro _ ⟨x,rfl⟩)|(go_at_call 156;refine(c_ibetween).mono ?_;rintro _ _ ⟨rfl,x,rfl⟩))
  go_ret
  exact Gives.mk (by rw[HF.out,c1,c2,c3,c4];rfl)
 have c5:((z == -1) != (k == -1))=false:=by rw[bne,c4];rfl
 have HF2:=lH (show fileInOk f z k p=(decide (n=25) && shortAll p)by rw[HF.out,c1,c2,c3,c4];rfl)
 clear HF
 by_cases h6:n=25
 ·have c6:((n:Int) != 25)=false:=by simp;omega
  have HF3:=lH (show fileInOk f z k p=shortAll p by rw[HF2.out,h6];rfl)
  clear HF2 h6
  go_enter Tryz.func230,Tryz.ntmps230
  go_wp2_with (first|((with_reducible refine wp_region_later (by kernel_rfl) (by kernel_rfl) ?_);(repeat(first|go_big_quiet_step (first|(go_at_call 156;exact Gives.quiet (c_ibetween)))|simp only[c1]|simp only[c2]|simp only[c3]|simp only[c5]|simp only[c6]));refine wpQuiet_nil ?_;rintro _ ⟨x,rfl⟩)|(go_at_call 156;refine(c_ibetween).mono ?_;rintro _ _ ⟨rfl,x,rfl⟩))
  go_loopw [37] (fun v wr=>∃ k:Nat,v=.int .i64 k∧k≤n∧Hid (shortAll (p.drop k)=shortAll p)∧∃ x:Later w,wr=x.w) (fun v _=>(n - intOf v).toNat)
  case atStart=>exact⟨0,rfl,by omega,rfl,Later.of⟩
  case round =>
   obtain⟨k,rfl,hk,hf,x,rfl⟩:=hrel
   by_cases h:k<n
   ·obtain⟨b,off,s,rfl,hb,hd,h0⟩:=hs.str (show k<p.length by omega)
    have hsm:s.size≤100000000:=HS.out s (List.mem_of_mem_drop (by rw[hd.out];exact List.mem_cons_self ..))
    by_cases h7:24<s.size
    ·go_wp2_with (first|((with_reducible refine wp_region_later (by kernel_rfl) (by kernel_rfl) ?_);(repeat(first|go_big_quiet_step (first|fail)));refine wpQuiet_nil ?_;rintro _ ⟨x,rfl⟩))
     go_ret
     exact Gives.mk (by have:=hf.out;rw[hd.out,shortAll,List.all_cons,decide_eq_false (by omega)]at this;rw[HF3.out,← this];rfl)
    ·go_wp2_with (first|((with_reducible refine wp_region_later (by kernel_rfl) (by kernel_rfl) ?_);(repeat(first|go_big_quiet_step (first|fail)));refine wpQuiet_nil ?_;rintro _ ⟨x,rfl⟩))
     go_roundw
     case rel=>exact⟨k+1,by go_num,by omega,by have:=hf.out;rw[hd.out,shortAll,List.all_cons,decide_eq_true (by omega)]at this;exact this,Later.of⟩
     case measure=>simp[intOf];omega
   ·go_wp2_with (first|((with_reducible refine wp_region_later (by kernel_rfl) (by kernel_rfl) ?_);(repeat(first|go_big_quiet_step (first|fail)));refine wpQuiet_nil ?_;rintro _ ⟨x,rfl⟩))
    go_ret
    exact Gives.mk (by have:=hf.out;rw[List.drop_of_length_le (by omega)]at this;rw[HF3.out,← this];rfl)
 ·have c6:((n:Int) != 25)=true:=by simp;omega
  have HF3:=lH (show fileInOk f z k p=false by rw[HF2.out,decide_eq_false h6];rfl)
  clear HF2 h6
  go_enter Tryz.func230,Tryz.ntmps230
  go_wp2_with (first|((with_reducible refine wp_region_later (by kernel_rfl) (by kernel_rfl) ?_);(repeat(first|go_big_quiet_step (first|(go_at_call 156;exact Gives.quiet (c_ibetween)))|simp only[c1]|simp only[c2]|simp only[c3]|simp only[c5]|simp only[c6]));refine wpQuiet_nil ?_;rintro _ ⟨x,rfl⟩)|(go_at_call 156;refine(c_ibetween).mono ?_;rintro _ _ ⟨rfl,x,rfl⟩))
  go_ret
  exact Gives.mk (by rw[HF3.out];rfl)
set_option maxRecDepth 100000 in
set_option maxHeartbeats 2000000 in
theorem c_sFileInOk{a:Option Addr}{n c:Nat}{f z k:Int}{p:List ByteArray}{w:World}(hs:Sl encStr w a p)(hn:p.length=n)(hm:n≤4611686018427387904)(hsz:∀ s∈p,s.size≤100000000) :
  Calls Tryz.prog 201 #[.agg #[.int .i64 f,.int .i64 z,.int .i64 k,.slice a n c]] w (Gives w (.bool (fileInOk f z k p))):=by
 have HS:=lH hsz;clear hsz
 have HF:=lH (show fileInOk f z k p=(inB f 0 7 && (inB z (-1) 600 && (inB k (-1) 65535 && (((z == -1) == (k == -1)) && (decide (n=25) && shortAll p)))))by rw[fileInOk,hn])
 go_enter Tryz.func201,Tryz.ntmps201
 go_wp2_with (first|((with_reducible refine wp_region_later (by kernel_rfl) (by kernel_rfl) ?_);(repeat(first|go_big_quiet_step (first|fail)));refine wpQuiet_nil ?_;rintro _ ⟨x,rfl⟩))
 go_loopw [3] (fun v wr=>∃ j:Nat,v=.int .i64 j∧j≤n∧Hid (shortAll (p.drop j)=shortAll p)∧∃ x:Later (w.alloc (.cells #[.int .i64 f,.int .i64 z,.int .i64 k,.slice a n c] 126)),wr=x.w) (fun v _=>(n - intOf v).toNat)
 case atStart=>exact⟨0,rfl,by omega,rfl,Later.of⟩
 case round =>
  obtain⟨j,rfl,hk,hf,x,rfl⟩:=hrel
  by_cases h:j<n
  ·obtain⟨b,off,s,rfl,hb,hd,h0⟩:=hs.str (show j<p.length by omega)
   have hsm:s.size≤100000000:=HS.out s (List.mem_of_mem_drop (by rw[hd.out];exact List.mem_cons_self ..))
   by_cases h7:24<s.size
   ·go_wp2_with (first|((with_reducible refine wp_region_later (by kernel_rfl) (by kernel_rfl) ?_);(repeat(first|go_big_quiet_step (first|fail)));refine wpQuiet_nil ?_;rintro _ ⟨x,rfl⟩))
    go_ret
    exact Gives.mk (by have:=hf.out;rw[hd.out,shortAll,List.all_cons,decide_eq_false (by omega)]at this;rw[HF.out,← this];simp)
   ·go_wp2_with (first|((with_reducible refine wp_region_later (by kernel_rfl) (by kernel_rfl) ?_);(repeat(first|go_big_quiet_step (first|fail)));refine wpQuiet_nil ?_;rintro _ ⟨x,rfl⟩))
    go_roundw
    case rel=>exact⟨j+1,by go_num,by omega,by have:=hf.out;rw[hd.out,shortAll,List.all_cons,decide_eq_true (by omega)]at this;exact this,Later.of⟩
    case measure=>simp[intOf];omega
  ·have hf':=hf.out
   rw[List.drop_of_length_le (by omega)]at hf'
   have HA:=lH (show shortAll p=true from hf'.symm);clear hf hf'
   cases c1:inB f 0 7
   ·go_wp2_with (first|((with_reducible refine wp_region_later (by kernel_rfl) (by kernel_rfl) ?_);(repeat(first|go_big_quiet_step (first|(go_at_call 158;exact Gives.quiet (c_sl01In)))|simp only[c1]));refine wpQuiet_nil ?_;rintro _ ⟨x,rfl⟩)|(go_at_call 158;refine(c_sl01In).mono ?_;rintro _ _ ⟨rfl,x,rfl⟩))
    go_ret
    exact Gives.mk (by rw[HF.out,c1];rfl)
   cases c2:inB z (-1) 600
   ·go_wp2_with (first|((with_reducible refine wp_region_later (by kernel_rfl) (by kernel_rfl) ?_);(repeat(first|go_big_quiet_step (first|(go_at_call 158;exact Gives.quiet (c_sl01In)))|simp only[c1]|simp only[c2]));refine wpQuiet_nil ?_;rintro _ ⟨x,rfl⟩)|(go_at_call 158;refine(c_sl01In).mono ?_;rintro _ _ ⟨rfl,x,rfl⟩))
    go_ret
    exact Gives.mk (by rw[HF.out,c1,c2];rfl)
   cases c3:inB k (-1) 65535
   ·go_wp2_with (first|((with_reducible refine wp_region_later (by kernel_rfl) (by kernel_rfl) ?_);(repeat(first|go_big_quiet_step (first|(go_at_call 158;exact Gives.quiet (c_sl01In)))|simp only[c1]|simp only[c2]|simp only[c3]));refine wpQuiet_nil ?_;rintro _ ⟨x,rfl⟩)|(go_at_call 158;refine(c_sl01In).mono ?_;rintro _ _ ⟨rfl,x,rfl⟩))
    go_ret
    exact Gives.mk (by rw[HF.out,c1,c2,c3];rfl)
   cases c4:((z == -1) == (k == -1))
   ·go_wp2_with (first|((with_reducible refine wp_region_later (by kernel_rfl) (by kernel_rfl) ?_);(repeat(first|go_big_quiet_step (first|(go_at_call 158;exact Gives.quiet (c_sl01In)))|simp only[c1]|simp only[c2]|simp only[c3]|simp only[c4]));refine wpQuiet_nil ?_;rintro _ ⟨x,rfl⟩)|(go_at_call 158;refine(c_sl01In).mono ?_;rintro _ _ ⟨rfl,x,rfl⟩))
    go_ret
    exact Gives.mk (by rw[HF.out,c1,c2,c3,c4];rfl)
   by_cases h6:n=25
   ·have c6:((n:Int) == 25)=true:=by simp;omega
    have HF3:=lH (show fileInOk f z k p=true by rw[HF.out,c1,c2,c3,c4,h6,HA.out];rfl)
    clear HF h6 HA
    go_wp2_with (first|((with_reducible refine wp_region_later (by kernel_rfl) (by kernel_rfl) ?_);(repeat(first|go_big_quiet_step (first|(go_at_call 158;exact Gives.quiet (c_sl01In)))|simp only[c1]|simp only[c2]|simp only[c3]|simp only[c4]|simp only[c6]));refine wpQuiet_nil ?_;rintro _ ⟨x,rfl⟩)|(go_at_call 158;refine(c_sl01In).mono ?_;rintro _ _ ⟨rfl,x,rfl⟩))
    go_ret
    exact Gives.mk (by rw[HF3.out];rfl)
   ·have c6:((n:Int) == 25)=false:=by simp;omega
    have HF3:=lH (show fileInOk f z k p=false by rw[HF.out,c1,c2,c3,c4,decide_eq_false h6];rfl)
    clear HF h6 HA
    go_wp2_with (first|((with_reducible refine wp_region_later (by kernel_rfl) (by kernel_rfl) ?_);(repeat(first|go_big_quiet_step (first|(go_at_call 158;exact Gives.quiet (c_sl01In)))|simp only[c1]|simp only[c2]|simp only[c3]|simp only[c4]|simp only[c6]));refine wpQuiet_nil ?_;rintro _ ⟨x,rfl⟩)|(go_at_call 158;refine(c_sl01In).mono ?_;rintro _ _ ⟨rfl,x,rfl⟩))
    go_ret
    exact Gives.mk (by rw[HF3.out];rfl)
def recV(x:TRecord):Value:=.agg #[.int .i64 x.Id,.int .i64 x.Priority,.int .i64 x.Time,.string x.Data]
def Ents:List MapEntry→List TRecord→Prop
 | [],[]=>True
 | e::es,r::rs=>(e.key=recV r∧e.val=.bool true)∧Ents es rs
 | _,_=>False
def MapR(w:World)(b:Nat)(rs:List TRecord):Prop:=∃ es clock,w.heap[b]?=some (.map es clock)∧Ents es.toList rs
theorem MapR.lt{w:World}{b:Nat}{rs:List TRecord}(h:MapR w b rs):b<w.heap.size:=by
 obtain⟨es,c,h,-⟩:=h
 exact(Array.getElem?_eq_some_iff.1 h).1
theorem Ents.set{x:TRecord}{q:MapEntry}(hq:q.key=recV x∧q.val=.bool true):∀ {es:List MapEntry} {rs:List TRecord} {j:Nat},Ents es rs→rs[j]?=some x→Ents (es.set j q) rs
 | [],[],_,_,h=>by cases h
 | [],_::_,_,h,_=>h.elim
 | _::_,[],_,h,_=>h.elim
 | e::es,r::rs,0,h,hx=>by simp at hx;subst hx;exact⟨hq,h.2⟩
 | e::es,r::rs,j+1,h,hx=>by simp at hx;exact⟨h.1,h.2.set hq hx⟩
@[go_sem] theorem run_makeMapR(w:World):(Instr.makeMap 216 none).run Tryz.prog w=.ok (.map (some w.heap.size)) (w.alloc (.map #[] 0)):=by
 simp[Instr.makeMap,go_sem]
theorem MapR.notOwn{α:Type}{enc:α→List Value}{T size B n:Nat}{w:World}{a:Option Addr}{c b:Nat}{l:List α}{rs:List TRecord}(hb:MapR w b rs)(h:Own enc T size B w a c l):some b≠Value.ownBlock (.slice a n c):=by
 obtain⟨es,clk,hb,-⟩:=hb
 obtain⟨-,-,⟨h1,-⟩|⟨g,cap,cur,hv,-,hh,-⟩⟩:=h
 ·simp only[Value.slice.injEq]at h1;obtain⟨rfl,-⟩:=h1;simp[Value.ownBlock]
 ·simp only[Value.slice.injEq]at hv;obtain⟨rfl,-⟩:=hv
  simp only[Value.ownBlock,ne_eq,Option.some.injEq]
  rintro rfl
  rw[hb]at hh
  simp at hh
theorem MapR.kept{α:Type}{enc:α→List Value}{T size B n:Nat}{w w':World}{a:Option Addr}{c b:Nat}{l:List α}{rs:List TRecord}(hb:MapR w b rs)(h:Own enc T size B w a c l)(hg:w.grownBy w' (Value.ownBlock (.slice a n c))):MapR w' b rs:=by
 have hne:=hb.notOwn (n:=n) h
 have hl:=hb.lt
 obtain⟨es,clk,hb,he⟩:=hb
 exact⟨es,clk,by rw[hg.block b hl hne];exact hb,he⟩
section
variable {ops:Array Oper} {rest:List Oper} {op:Oper} {a:Act} {w:World} {Q:Exit→Act→World→Prop}
end
section
variable {ops:Array Oper} {C:World→Prop} {Q:Act→Prop} {o:Oper} {rest:List Oper} {a:Act}
end
end Go.Proofs.YtgmikiidcpbjbaaGreat
