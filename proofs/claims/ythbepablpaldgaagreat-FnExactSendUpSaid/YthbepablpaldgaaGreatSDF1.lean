/- The contracts of the mirrors, sizes and equalities of flat structs (1). No condition but on sizes. -/
import Derived.Test.YthbepablpaldgaaGreatSM7
namespace Go.Proofs.YthbepablpaldgaaGreat
set_option maxRecDepth 100000
set_option maxHeartbeats 2000000
set_option linter.unusedVariables false
open Go.ChangeShapes Go.WideShapes Go.ChangeAt Go.RowKit
theorem d_ltoChannel{B:Nat}{vs:List Value}{x:TChannel}{w:World}(h:Enc.Rd B w vs x)(ht:Enc.tot x≤1048576) :
  Calls Tryz.prog 27 #[.agg vs.toArray] w (GivesD w x):=by
 obtain⟨rfl,hok⟩:=h
 clear ht
 have HOK:=lH hok;clear hok
 go_enter Tryz.func27,Tryz.ntmps27
 go_wp2_with fail
 refine bodyPost_ret (v:=.agg #[.int .i64 x.Seed,.int .i64 x.Burst,.int .i64 x.Loss]) ?_ rfl ⟨[.int .i64 x.Seed,.int .i64 x.Burst,.int .i64 x.Loss],rfl,⟨rfl,HOK.out⟩,Later.of⟩
 simp[results,Tryz.results27,go_sem]
theorem d_leqChannel{B B2:Nat}{vs vs2:List Value}{x:TChannel}{w:World}(h:Enc.Rd B w vs x)(h2:Enc.Rd B2 w vs2 x) :
  Calls Tryz.prog 40 #[.agg vs.toArray,.agg vs2.toArray] w (Gives w (.bool true)):=by
 obtain⟨rfl,hok⟩:=h
 obtain⟨rfl,-⟩:=h2
 have HOK:=lH hok;clear hok
 go_enter Tryz.func40,Tryz.ntmps40
 go_wp2_with fail
 go_ret
 exact Gives.mk rfl
theorem d_ltoSent{B:Nat}{vs:List Value}{x:TSent}{w:World}(h:Enc.Rd B w vs x)(ht:Enc.tot x≤1048576) :
  Calls Tryz.prog 263 #[.agg vs.toArray] w (GivesD w x):=by
 obtain⟨rfl,hok⟩:=h
 clear ht
 have HOK:=lH hok;clear hok
 go_enter Tryz.func263,Tryz.ntmps263
 go_wp2_with fail
 refine bodyPost_ret (v:=.agg #[.int .i64 x.Seq,.string x.Data]) ?_ rfl ⟨[.int .i64 x.Seq,.string x.Data],rfl,⟨rfl,HOK.out⟩,Later.of⟩
 simp[results,Tryz.results263,go_sem]
theorem d_lszSent{B:Nat}{vs:List Value}{x:TSent}{left:Int}{w:World}(h:Enc.Rd B w vs x)(hl:0≤left)(hl2:left≤1048576) :
  Calls Tryz.prog 259 #[.agg vs.toArray,.int .i64 left] w (Gives w (.int .i64 (szD left (Enc.tot x)))):=by
 obtain⟨rfl,hok⟩:=h
 have n0:(0:Int)≤x.Data.size:=by omega
 have z0:x.Data.size≤9223372036854775807:=hok.2.1
 have HOK:=lH hok;clear hok
 have htot:Enc.tot x=(x.Data.size:Int):=rfl
 have HTOT:=lH htot;clear htot
 go_enter Tryz.func259,Tryz.ntmps259
 by_cases h0:left - (x.Data.size:Int)<0
 ·have HV:=lH (show szD left (Enc.tot x)=-1 from szD_neg (by rw[HTOT.out];omega))
  go_wp2_with fail
  go_ret
  exact Gives.mk (by rw[HV.out];rfl)
 have HV:=lH (show szD left (Enc.tot x)=left - (x.Data.size:Int)by rw[szD_pos (by rw[HTOT.out];omega),HTOT.out]<;>omega)
 go_wp2_with fail
 go_ret
 exact Gives.mk (by rw[HV.out];rfl)
theorem d_leqSent{B B2:Nat}{vs vs2:List Value}{x:TSent}{w:World}(h:Enc.Rd B w vs x)(h2:Enc.Rd B2 w vs2 x) :
  Calls Tryz.prog 270 #[.agg vs.toArray,.agg vs2.toArray] w (Gives w (.bool true)):=by
 obtain⟨rfl,hok⟩:=h
 obtain⟨rfl,-⟩:=h2
 have HOK:=lH hok;clear hok
 go_enter Tryz.func270,Tryz.ntmps270
 go_wp2_with fail
 go_ret
 exact Gives.mk rfl
theorem d_lszSentS{B:Nat}{a:Option Addr}{c:Nat}{l:List TSent}{left:Int}{w:World}(hs:RdS B w a c l)(hl:0≤left)(hl2:left≤1048576) :
  Calls Tryz.prog 175 #[.slice a l.length c,.int .i64 left] w (Gives w (.int .i64 (szD left (totL l)))):=by
 have hmx:=hs.max
 have hln:=totL_len l
 obtain⟨n,hn⟩:∃ n,l.length=n:=⟨_,rfl⟩
 rw[hn]at hln hmx
 rw[hn]
 have HN:=lH hn;clear hn
 by_cases h:left - n<0
 ·have HV:=lH (show szD left (totL l)=-1 from szD_neg (by omega))
  go_enter Tryz.func175,Tryz.ntmps175
  go_wp2_with fail
  go_ret
  exact Gives.mk (by rw[HV.out];rfl)
 ·go_enter Tryz.func175,Tryz.ntmps175
  go_wp2_with fail
  go_loopw [1,5] (fun u v wr=>∃ (k:Nat) (r:Int),v=.int .i64 k∧u=.int .i64 r∧k≤n∧0≤r∧r≤1048576∧Hid (r - totL (l.drop k)+(n - k)=left - totL l)∧∃ x:Later w,wr=x.w) (fun _ v _=>(n - intOf v).toNat)
  case atStart=>exact⟨0,left - n,rfl,by go_num,by omega,by omega,by omega,by unfold Hid;rw[List.drop_zero];omega,Later.of⟩
  case round =>
   obtain⟨k,r,rfl,rfl,hk,hr,hr2,hf,x,rfl⟩:=hrel
   by_cases h2:k<n
   ·have hlk:k<l.length:=by have:=HN.out;omega
    obtain⟨eb,eoff,ex,rfl,ehb,ehd,eok,eh0,eh1⟩:=hs.atTSent (show k<l.length by omega)
    have hd2:=totL_len (l.drop (k+1))
    have HD2:=lH (show((n:Int) - k - 1≤totL (l.drop (k+1)))by rw[List.length_drop,HN.out]at hd2;omega);clear hd2 hlk
    have ht0:=Enc.tot_nonneg ex
    obtain⟨t,htt⟩:∃ t,Enc.tot ex=t:=⟨_,rfl⟩
    have hf2:Hid (r - (1+t+totL (l.drop (k+1)))+(n - k)=left - totL l):=by
     have:=hf.out;rw[ehd.out]at this;rw[← htt];exact this
    rw[htt]at ht0
    have HTT:=lH htt;clear htt hf
    have HEOK:=lH eok;clear eok
    go_wp2_with fail
    refine gm (d_lszSent (B:=0) (x:=ex) ⟨rfl,HEOK.out⟩ (by omega) (by omega)) ?_
    intro y
    rw[HTT.out]
    by_cases h3:r - t<0
    ·have HV:=lH (show szD left (totL l)=-1 from szD_neg (by have h7:=hf2.out;have h8:=HD2.out;omega))
     rw[szD_neg h3]
     go_wp2_with fail
     go_ret
     exact Gives.mk (by rw[HV.out];rfl)
    ·rw[szD_pos h3]
     go_wp2_with fail
     go_roundw
     case rel=>exact⟨k+1,r - t,by go_num,by go_num,by omega,by omega,by omega,by have h7:=hf2.out;unfold Hid;omega,Later.of⟩
     case measure=>simp[intOf];omega
   ·have HV:=lH (show szD left (totL l)=r by
     have h7:=hf.out
     rw[List.drop_of_length_le (by have:=HN.out;omega)]at h7
     simp only[totL]at h7
     rw[szD_pos (by omega)];omega)
    go_wp2_with fail
    go_ret
    exact Gives.mk (by rw[HV.out];rfl)
theorem d_leqSentS{B B2:Nat}{a a2:Option Addr}{c c2:Nat}{l:List TSent}{w:World}(hs:RdS B w a c l)(hs2:RdS B2 w a2 c2 l) :
  Calls Tryz.prog 227 #[.slice a l.length c,.slice a2 l.length c2] w (Gives w (.bool true)):=by
 have hmx:=hs.max
 obtain⟨n,hn⟩:∃ n,l.length=n:=⟨_,rfl⟩
 rw[hn]at hmx
 rw[hn]
 have HN:=lH hn;clear hn
 have kn:((n:Int) != (n:Int))=false:=by simp
 go_enter Tryz.func227,Tryz.ntmps227
 go_wp2_with fail
 go_loopw [5] (fun v wr=>∃ k:Nat,v=.int .i64 k∧k≤n∧∃ x:Later w,wr=x.w) (fun v _=>(n - intOf v).toNat)
 case atStart=>exact⟨0,rfl,by omega,Later.of⟩
 case round =>
  obtain⟨k,rfl,hk,x,rfl⟩:=hrel
  by_cases h:k<n
  ·have hlk:k<l.length:=by have:=HN.out;omega
   obtain⟨eb,eoff,ex,rfl,ehb,ehd,eok,eh0,eh1⟩:=hs.atTSent (show k<l.length by omega)
   obtain⟨fb,foff,fx,rfl,fhb,fhd,fok,fh0,fh1⟩:=hs2.atTSent (show k<l.length by omega)
   obtain rfl:ex=fx:=by have:=ehd.out.symm.trans fhd.out;simpa using this
   clear ehd fhd hlk hs hs2
   have ce:∀ {W:World} [Grows w W],Calls Tryz.prog 270 #[.agg #[.int .i64 ex.Seq,.string ex.Data],.agg #[.int .i64 ex.Seq,.string ex.Data]] W (Gives W (.bool true)):=fun {W} _=>d_leqSent (B:=0) (B2:=0) (x:=ex) ⟨rfl,eok⟩ ⟨rfl,fok⟩
   clear eok fok
   go_wp2_with (first|((with_reducible refine rl ?_);(repeat(first|go_big_quiet_step (first|(go_at_call 270;exact Gives.quiet (ce)))));refine wpQuiet_nil ?_;intro x)|(go_at_call 270;refine gm (ce) ?_;intro x))
   go_roundw
   case rel=>exact⟨k+1,by go_num,by omega,Later.of⟩
   case measure=>simp[intOf];omega
  ·go_wp2_with fail
   go_ret
   exact Gives.mk rfl
theorem d_ltoReceiver{B:Nat}{vs:List Value}{x:TReceiver}{w:World}(h:Enc.Rd B w vs x)(ht:Enc.tot x≤1048576) :
  Calls Tryz.prog 103 #[.agg vs.toArray] w (GivesD w x):=by
 obtain⟨rfl,hok⟩:=h
 clear ht
 have HOK:=lH hok;clear hok
 go_enter Tryz.func103,Tryz.ntmps103
 go_wp2_with fail
 refine bodyPost_ret (v:=.agg #[.int .i64 x.Expect,.bool x.Locked,.bool x.Again,.int .i64 x.Taken]) ?_ rfl ⟨[.int .i64 x.Expect,.bool x.Locked,.bool x.Again,.int .i64 x.Taken],rfl,⟨rfl,HOK.out⟩,Later.of⟩
 simp[results,Tryz.results103,go_sem]
theorem d_leqReceiver{B B2:Nat}{vs vs2:List Value}{x:TReceiver}{w:World}(h:Enc.Rd B w vs x)(h2:Enc.Rd B2 w vs2 x) :
  Calls Tryz.prog 142 #[.agg vs.toArray,.agg vs2.toArray] w (Gives w (.bool true)):=by
 obtain⟨rfl,hok⟩:=h
 obtain⟨rfl,-⟩:=h2
 have HOK:=lH hok;clear hok
 go_enter Tryz.func142,Tryz.ntmps142
 go_wp2_with fail
 go_ret
 exact Gives.mk rfl
theorem d_ltoNotice{B:Nat}{vs:List Value}{x:TNotice}{w:World}(h:Enc.Rd B w vs x)(ht:Enc.tot x≤1048576) :
  Calls Tryz.prog 97 #[.agg vs.toArray] w (GivesD w x):=by
 obtain⟨rfl,hok⟩:=h
 clear ht
 have HOK:=lH hok;clear hok
 go_enter Tryz.func97,Tryz.ntmps97
 go_wp2_with fail
 refine bodyPost_ret (v:=.agg #[.int .i64 x.Expect,.bool x.Locked,.bool x.Again]) ?_ rfl ⟨[.int .i64 x.Expect,.bool x.Locked,.bool x.Again],rfl,⟨rfl,HOK.out⟩,Later.of⟩
 simp[results,Tryz.results97,go_sem]
theorem d_leqNotice{B B2:Nat}{vs vs2:List Value}{x:TNotice}{w:World}(h:Enc.Rd B w vs x)(h2:Enc.Rd B2 w vs2 x) :
  Calls Tryz.prog 136 #[.agg vs.toArray,.agg vs2.toArray] w (Gives w (.bool true)):=by
 obtain⟨rfl,hok⟩:=h
 obtain⟨rfl,-⟩:=h2
 have HOK:=lH hok;clear hok
 go_enter Tryz.func136,Tryz.ntmps136
 go_wp2_with fail
 go_ret
 exact Gives.mk rfl
theorem d_ltoOrder{B:Nat}{vs:List Value}{x:TOrder}{w:World}(h:Enc.Rd B w vs x)(ht:Enc.tot x≤1048576) :
  Calls Tryz.prog 279 #[.agg vs.toArray] w (GivesD w x):=by
 obtain⟨rfl,hok⟩:=h
 clear ht
 have HOK:=lH hok;clear hok
 go_enter Tryz.func279,Tryz.ntmps279
 go_wp2_with fail
 refine bodyPost_ret (v:=.agg #[.int .i64 x.Kind,.int .i64 x.At,.int .i64 x.A,.int .i64 x.B]) ?_ rfl ⟨[.int .i64 x.Kind,.int .i64 x.At,.int .i64 x.A,.int .i64 x.B],rfl,⟨rfl,HOK.out⟩,Later.of⟩
 simp[results,Tryz.results279,go_sem]
theorem d_leqOrder{B B2:Nat}{vs vs2:List Value}{x:TOrder}{w:World}(h:Enc.Rd B w vs x)(h2:Enc.Rd B2 w vs2 x) :
  Calls Tryz.prog 283 #[.agg vs.toArray,.agg vs2.toArray] w (Gives w (.bool true)):=by
 obtain⟨rfl,hok⟩:=h
 obtain⟨rfl,-⟩:=h2
 have HOK:=lH hok;clear hok
 go_enter Tryz.func283,Tryz.ntmps283
 go_wp2_with fail
 go_ret
 exact Gives.mk rfl
theorem d_ltoRecord{B:Nat}{vs:List Value}{x:TRecord}{w:World}(h:Enc.Rd B w vs x)(ht:Enc.tot x≤1048576) :
  Calls Tryz.prog 199 #[.agg vs.toArray] w (GivesD w x):=by
 obtain⟨rfl,hok⟩:=h
 clear ht
 have HOK:=lH hok;clear hok
 go_enter Tryz.func199,Tryz.ntmps199
 go_wp2_with fail
 refine bodyPost_ret (v:=.agg #[.int .i64 x.Id,.int .i64 x.Priority,.int .i64 x.Time,.string x.Data]) ?_ rfl ⟨[.int .i64 x.Id,.int .i64 x.Priority,.int .i64 x.Time,.string x.Data],rfl,⟨rfl,HOK.out⟩,Later.of⟩
 simp[results,Tryz.results199,go_sem]
theorem d_lszRecord{B:Nat}{vs:List Value}{x:TRecord}{left:Int}{w:World}(h:Enc.Rd B w vs x)(hl:0≤left)(hl2:left≤1048576) :
  Calls Tryz.prog 176 #[.agg vs.toArray,.int .i64 left] w (Gives w (.int .i64 (szD left (Enc.tot x)))):=by
 obtain⟨rfl,hok⟩:=h
 have n0:(0:Int)≤x.Data.size:=by omega
 have z0:x.Data.size≤9223372036854775807:=hok.2.2.2.1
 have HOK:=lH hok;clear hok
 have htot:Enc.tot x=(x.Data.size:Int):=rfl
 have HTOT:=lH htot;clear htot
 go_enter Tryz.func176,Tryz.ntmps176
 by_cases h0:left - (x.Data.size:Int)<0
 ·have HV:=lH (show szD left (Enc.tot x)=-1 from szD_neg (by rw[HTOT.out];omega))
  go_wp2_with fail
  go_ret
  exact Gives.mk (by rw[HV.out];rfl)
 have HV:=lH (show szD left (Enc.tot x)=left - (x.Data.size:Int)by rw[szD_pos (by rw[HTOT.out];omega),HTOT.out]<;>omega)
 go_wp2_with fail
 go_ret
 exact Gives.mk (by rw[HV.out];rfl)
theorem d_leqRecord{B B2:Nat}{vs vs2:List Value}{x:TRecord}{w:World}(h:Enc.Rd B w vs x)(h2:Enc.Rd B2 w vs2 x) :
  Calls Tryz.prog 229 #[.agg vs.toArray,.agg vs2.toArray] w (Gives w (.bool true)):=by
 obtain⟨rfl,hok⟩:=h
 obtain⟨rfl,-⟩:=h2
 have HOK:=lH hok;clear hok
 go_enter Tryz.func229,Tryz.ntmps229
 go_wp2_with fail
 go_ret
 exact Gives.mk rfl
theorem d_lszRecordS{B:Nat}{a:Option Addr}{c:Nat}{l:List TRecord}{left:Int}{w:World}(hs:RdS B w a c l)(hl:0≤left)(hl2:left≤1048576) :
  Calls Tryz.prog 71 #[.slice a l.length c,.int .i64 left] w (Gives w (.int .i64 (szD left (totL l)))):=by
 have hmx:=hs.max
 have hln:=totL_len l
 obtain⟨n,hn⟩:∃ n,l.length=n:=⟨_,rfl⟩
 rw[hn]at hln hmx
 rw[hn]
 have HN:=lH hn;clear hn
 by_cases h:left - n<0
 ·have HV:=lH (show szD left (totL l)=-1 from szD_neg (by omega))
  go_enter Tryz.func71,Tryz.ntmps71
  go_wp2_with fail
  go_ret
  exact Gives.mk (by rw[HV.out];rfl)
 ·go_enter Tryz.func71,Tryz.ntmps71
  go_wp2_with fail
  go_loopw [1,5] (fun u v wr=>∃ (k:Nat) (r:Int),v=.int .i64 k∧u=.int .i64 r∧k≤n∧0≤r∧r≤1048576∧Hid (r - totL (l.drop k)+(n - k)=left - totL l)∧∃ x:Later w,wr=x.w) (fun _ v _=>(n - intOf v).toNat)
  case atStart=>exact⟨0,left - n,rfl,by go_num,by omega,by omega,by omega,by unfold Hid;rw[List.drop_zero];omega,Later.of⟩
  case round =>
   obtain⟨k,r,rfl,rfl,hk,hr,hr2,hf,x,rfl⟩:=hrel
   by_cases h2:k<n
   ·have hlk:k<l.length:=by have:=HN.out;omega
    obtain⟨eb,eoff,ex,rfl,ehb,ehd,eok,eh0,eh1,eh2,eh3⟩:=hs.atTRecord (show k<l.length by omega)
    have hd2:=totL_len (l.drop (k+1))
    have HD2:=lH (show((n:Int) - k - 1≤totL (l.drop (k+1)))by rw[List.length_drop,HN.out]at hd2;omega);clear hd2 hlk
    have ht0:=Enc.tot_nonneg ex
    obtain⟨t,htt⟩:∃ t,Enc.tot ex=t:=⟨_,rfl⟩
    have hf2:Hid (r - (1+t+totL (l.drop (k+1)))+(n - k)=left - totL l):=by
     have:=hf.out;rw[ehd.out]at this;rw[← htt];exact this
    rw[htt]at ht0
    have HTT:=lH htt;clear htt hf
    have HEOK:=lH eok;clear eok
    go_wp2_with fail
    refine gm (d_lszRecord (B:=0) (x:=ex) ⟨rfl,HEOK.out⟩ (by omega) (by omega)) ?_
    intro y
    rw[HTT.out]
    by_cases h3:r - t<0
    ·have HV:=lH (show szD left (totL l)=-1 from szD_neg (by have h7:=hf2.out;have h8:=HD2.out;omega))
     rw[szD_neg h3]
     go_wp2_with fail
     go_ret
     exact Gives.mk (by rw[HV.out];rfl)
    ·rw[szD_pos h3]
     go_wp2_with fail
     go_roundw
     case rel=>exact⟨k+1,r - t,by go_num,by go_num,by omega,by omega,by omega,by have h7:=hf2.out;unfold Hid;omega,Later.of⟩
     case measure=>simp[intOf];omega
   ·have HV:=lH (show szD left (totL l)=r by
     have h7:=hf.out
     rw[List.drop_of_length_le (by have:=HN.out;omega)]at h7
     simp only[totL]at h7
     rw[szD_pos (by omega)];omega)
    go_wp2_with fail
    go_ret
    exact Gives.mk (by rw[HV.out];rfl)
theorem d_leqRecordS{B B2:Nat}{a a2:Option Addr}{c c2:Nat}{l:List TRecord}{w:World}(hs:RdS B w a c l)(hs2:RdS B2 w a2 c2 l) :
  Calls Tryz.prog 139 #[.slice a l.length c,.slice a2 l.length c2] w (Gives w (.bool true)):=by
 have hmx:=hs.max
 obtain⟨n,hn⟩:∃ n,l.length=n:=⟨_,rfl⟩
 rw[hn]at hmx
 rw[hn]
 have HN:=lH hn;clear hn
 have kn:((n:Int) != (n:Int))=false:=by simp
 go_enter Tryz.func139,Tryz.ntmps139
 go_wp2_with fail
 go_loopw [5] (fun v wr=>∃ k:Nat,v=.int .i64 k∧k≤n∧∃ x:Later w,wr=x.w) (fun v _=>(n - intOf v).toNat)
 case atStart=>exact⟨0,rfl,by omega,Later.of⟩
 case round =>
  obtain⟨k,rfl,hk,x,rfl⟩:=hrel
  by_cases h:k<n
  ·have hlk:k<l.length:=by have:=HN.out;omega
   obtain⟨eb,eoff,ex,rfl,ehb,ehd,eok,eh0,eh1,eh2,eh3⟩:=hs.atTRecord (show k<l.length by omega)
   obtain⟨fb,foff,fx,rfl,fhb,fhd,fok,fh0,fh1,fh2,fh3⟩:=hs2.atTRecord (show k<l.length by omega)
   obtain rfl:ex=fx:=by have:=ehd.out.symm.trans fhd.out;simpa using this
   clear ehd fhd hlk hs hs2
   have ce:∀ {W:World} [Grows w W],Calls Tryz.prog 229 #[.agg #[.int .i64 ex.Id,.int .i64 ex.Priority,.int .i64 ex.Time,.string ex.Data],.agg #[.int .i64 ex.Id,.int .i64 ex.Priority,.int .i64 ex.Time,.string ex.Data]] W (Gives W (.bool true)):=fun {W} _=>d_leqRecord (B:=0) (B2:=0) (x:=ex) ⟨rfl,eok⟩ ⟨rfl,fok⟩
   clear eok fok
   go_wp2_with (first|((with_reducible refine rl ?_);(repeat(first|go_big_quiet_step (first|(go_at_call 229;exact Gives.quiet (ce)))));refine wpQuiet_nil ?_;intro x)|(go_at_call 229;refine gm (ce) ?_;intro x))
   go_roundw
   case rel=>exact⟨k+1,by go_num,by omega,Later.of⟩
   case measure=>simp[intOf];omega
  ·go_wp2_with fail
   go_ret
   exact Gives.mk rfl
theorem d_ltoLimit{B:Nat}{vs:List Value}{x:TLimit}{w:World}(h:Enc.Rd B w vs x)(ht:Enc.tot x≤1048576) :
  Calls Tryz.prog 264 #[.agg vs.toArray] w (GivesD w x):=by
 obtain⟨rfl,hok⟩:=h
 clear ht
 have HOK:=lH hok;clear hok
 go_enter Tryz.func264,Tryz.ntmps264
 go_wp2_with fail
 refine bodyPost_ret (v:=.agg #[.int .i64 x.Param,.int .i64 x.Low,.int .i64 x.High]) ?_ rfl ⟨[.int .i64 x.Param,.int .i64 x.Low,.int .i64 x.High],rfl,⟨rfl,HOK.out⟩,Later.of⟩
 simp[results,Tryz.results264,go_sem]
theorem d_leqLimit{B B2:Nat}{vs vs2:List Value}{x:TLimit}{w:World}(h:Enc.Rd B w vs x)(h2:Enc.Rd B2 w vs2 x) :
  Calls Tryz.prog 271 #[.agg vs.toArray,.agg vs2.toArray] w (Gives w (.bool true)):=by
 obtain⟨rfl,hok⟩:=h
 obtain⟨rfl,-⟩:=h2
 have HOK:=lH hok;clear hok
 go_enter Tryz.func271,Tryz.ntmps271
 go_wp2_with fail
 go_ret
 exact Gives.mk rfl
theorem d_lszLimitS{B:Nat}{a:Option Addr}{c:Nat}{l:List TLimit}{left:Int}{w:World}(hs:RdS B w a c l)(hl:0≤left)(hl2:left≤1048576) :
  Calls Tryz.prog 179 #[.slice a l.length c,.int .i64 left] w (Gives w (.int .i64 (szD left (totL l)))):=by
 have hmx:=hs.max
 have hln:=totL_len l
 obtain⟨n,hn⟩:∃ n,l.length=n:=⟨_,rfl⟩
 rw[hn]at hln hmx
 rw[hn]
 have HN:=lH hn;clear hn
 have htl:totL l=n:=by rw[← HN.out];clear hs HN hmx hln;induction l with|nil=>rfl|cons x r ih=>simp only[totL,List.length_cons,ih];show 1+0+_=_;omega
 rw[htl];clear htl hln hs
 by_cases h:left - n<0
 ·rw[szD_neg h]
  go_enter Tryz.func179,Tryz.ntmps179
  go_wp2_with fail
  go_ret
  exact Gives.mk rfl
 ·rw[szD_pos h]
  go_enter Tryz.func179,Tryz.ntmps179
  go_wp2_with fail
  go_ret
  exact Gives.mk rfl
theorem d_leqLimitS{B B2:Nat}{a a2:Option Addr}{c c2:Nat}{l:List TLimit}{w:World}(hs:RdS B w a c l)(hs2:RdS B2 w a2 c2 l) :
  Calls Tryz.prog 232 #[.slice a l.length c,.slice a2 l.length c2] w (Gives w (.bool true)):=by
 have hmx:=hs.max
 obtain⟨n,hn⟩:∃ n,l.length=n:=⟨_,rfl⟩
 rw[hn]at hmx
 rw[hn]
 have HN:=lH hn;clear hn
 have kn:((n:Int) != (n:Int))=false:=by simp
 go_enter Tryz.func232,Tryz.ntmps232
 go_wp2_with fail
 go_loopw [5] (fun v wr=>∃ k:Nat,v=.int .i64 k∧k≤n∧∃ x:Later w,wr=x.w) (fun v _=>(n - intOf v).toNat)
 case atStart=>exact⟨0,rfl,by omega,Later.of⟩
 case round =>
  obtain⟨k,rfl,hk,x,rfl⟩:=hrel
  by_cases h:k<n
  ·have hlk:k<l.length:=by have:=HN.out;omega
   obtain⟨eb,eoff,ex,rfl,ehb,ehd,eok,eh0,eh1,eh2⟩:=hs.atTLimit (show k<l.length by omega)
   obtain⟨fb,foff,fx,rfl,fhb,fhd,fok,fh0,fh1,fh2⟩:=hs2.atTLimit (show k<l.length by omega)
   obtain rfl:ex=fx:=by have:=ehd.out.symm.trans fhd.out;simpa using this
   clear ehd fhd hlk hs hs2
   have ce:∀ {W:World} [Grows w W],Calls Tryz.prog 271 #[.agg #[.int .i64 ex.Param,.int .i64 ex.Low,.int .i64 ex.High],.agg #[.int .i64 ex.Param,.int .i64 ex.Low,.int .i64 ex.High]] W (Gives W (.bool true)):=fun {W} _=>d_leqLimit (B:=0) (B2:=0) (x:=ex) ⟨rfl,eok⟩ ⟨rfl,fok⟩
   clear eok fok
   go_wp2_with (first|((with_reducible refine rl ?_);(repeat(first|go_big_quiet_step (first|(go_at_call 271;exact Gives.quiet (ce)))));refine wpQuiet_nil ?_;intro x)|(go_at_call 271;refine gm (ce) ?_;intro x))
   go_roundw
   case rel=>exact⟨k+1,by go_num,by omega,Later.of⟩
   case measure=>simp[intOf];omega
  ·go_wp2_with fail
   go_ret
   exact Gives.mk rfl
theorem d_ltoDone{B:Nat}{vs:List Value}{x:TDone}{w:World}(h:Enc.Rd B w vs x)(ht:Enc.tot x≤1048576) :
  Calls Tryz.prog 266 #[.agg vs.toArray] w (GivesD w x):=by
 obtain⟨rfl,hok⟩:=h
 clear ht
 have HOK:=lH hok;clear hok
 go_enter Tryz.func266,Tryz.ntmps266
 go_wp2_with fail
 refine bodyPost_ret (v:=.agg #[.int .i64 x.Number,.int .i64 x.Time,.int .i64 x.Result]) ?_ rfl ⟨[.int .i64 x.Number,.int .i64 x.Time,.int .i64 x.Result],rfl,⟨rfl,HOK.out⟩,Later.of⟩
 simp[results,Tryz.results266,go_sem]
theorem d_leqDone{B B2:Nat}{vs vs2:List Value}{x:TDone}{w:World}(h:Enc.Rd B w vs x)(h2:Enc.Rd B2 w vs2 x) :
  Calls Tryz.prog 273 #[.agg vs.toArray,.agg vs2.toArray] w (Gives w (.bool true)):=by
 obtain⟨rfl,hok⟩:=h
 obtain⟨rfl,-⟩:=h2
 have HOK:=lH hok;clear hok
 go_enter Tryz.func273,Tryz.ntmps273
 go_wp2_with fail
 go_ret
 exact Gives.mk rfl
theorem d_lszDoneS{B:Nat}{a:Option Addr}{c:Nat}{l:List TDone}{left:Int}{w:World}(hs:RdS B w a c l)(hl:0≤left)(hl2:left≤1048576) :
  Calls Tryz.prog 181 #[.slice a l.length c,.int .i64 left] w (Gives w (.int .i64 (szD left (totL l)))):=by
 have hmx:=hs.max
 have hln:=totL_len l
 obtain⟨n,hn⟩:∃ n,l.length=n:=⟨_,rfl⟩
 rw[hn]at hln hmx
 rw[hn]
 have HN:=lH hn;clear hn
 have htl:totL l=n:=by rw[← HN.out];clear hs HN hmx hln;induction l with|nil=>rfl|cons x r ih=>simp only[totL,List.length_cons,ih];show 1+0+_=_;omega
 rw[htl];clear htl hln hs
 by_cases h:left - n<0
 ·rw[szD_neg h]
  go_enter Tryz.func181,Tryz.ntmps181
  go_wp2_with fail
  go_ret
  exact Gives.mk rfl
 ·rw[szD_pos h]
  go_enter Tryz.func181,Tryz.ntmps181
  go_wp2_with fail
  go_ret
  exact Gives.mk rfl
theorem d_leqDoneS{B B2:Nat}{a a2:Option Addr}{c c2:Nat}{l:List TDone}{w:World}(hs:RdS B w a c l)(hs2:RdS B2 w a2 c2 l) :
  Calls Tryz.prog 234 #[.slice a l.length c,.slice a2 l.length c2] w (Gives w (.bool true)):=by
 have hmx:=hs.max
 obtain⟨n,hn⟩:∃ n,l.length=n:=⟨_,rfl⟩
 rw[hn]at hmx
 rw[hn]
 have HN:=lH hn;clear hn
 have kn:((n:Int) != (n:Int))=false:=by simp
 go_enter Tryz.func234,Tryz.ntmps234
 go_wp2_with fail
 go_loopw [5] (fun v wr=>∃ k:Nat,v=.int .i64 k∧k≤n∧∃ x:Later w,wr=x.w) (fun v _=>(n - intOf v).toNat)
 case atStart=>exact⟨0,rfl,by omega,Later.of⟩
 case round =>
  obtain⟨k,rfl,hk,x,rfl⟩:=hrel
  by_cases h:k<n
  ·have hlk:k<l.length:=by have:=HN.out;omega
   obtain⟨eb,eoff,ex,rfl,ehb,ehd,eok,eh0,eh1,eh2⟩:=hs.atTDone (show k<l.length by omega)
   obtain⟨fb,foff,fx,rfl,fhb,fhd,fok,fh0,fh1,fh2⟩:=hs2.atTDone (show k<l.length by omega)
   obtain rfl:ex=fx:=by have:=ehd.out.symm.trans fhd.out;simpa using this
   clear ehd fhd hlk hs hs2
   have ce:∀ {W:World} [Grows w W],Calls Tryz.prog 273 #[.agg #[.int .i64 ex.Number,.int .i64 ex.Time,.int .i64 ex.Result],.agg #[.int .i64 ex.Number,.int .i64 ex.Time,.int .i64 ex.Result]] W (Gives W (.bool true)):=fun {W} _=>d_leqDone (B:=0) (B2:=0) (x:=ex) ⟨rfl,eok⟩ ⟨rfl,fok⟩
   clear eok fok
   go_wp2_with (first|((with_reducible refine rl ?_);(repeat(first|go_big_quiet_step (first|(go_at_call 273;exact Gives.quiet (ce)))));refine wpQuiet_nil ?_;intro x)|(go_at_call 273;refine gm (ce) ?_;intro x))
   go_roundw
   case rel=>exact⟨k+1,by go_num,by omega,Later.of⟩
   case measure=>simp[intOf];omega
  ·go_wp2_with fail
   go_ret
   exact Gives.mk rfl
