/- The contracts of the mirrors, sizes and equalities of flat structs (1). No condition but on sizes. -/
import Derived.Test.YtdoilejecjaldaaGreatHM6
namespace Go.Proofs.YtdoilejecjaldaaGreat
set_option maxRecDepth 100000
set_option maxHeartbeats 2000000
set_option linter.unusedVariables false
open Go.ChangeShapes Go.WideShapes Go.ChangeAt Go.RowKit
theorem aL0{B:Nat}{vs:List Value}{x:am2}{w:World}(h:Enc.Rd B w vs x)(ht:Enc.tot x≤1048576) :
  Calls Tryz.prog 27 #[.agg vs.toArray] w (ah3 w x):=by
 obtain⟨rfl,hok⟩:=h
 clear ht
 have HOK:=lH hok;clear hok
 go_enter Tryz.func27,Tryz.ntmps27
 go_wp2_with fail
 refine bodyPost_ret (v:=.agg #[.int .i64 x.Seed,.int .i64 x.Burst,.int .i64 x.Loss]) ?_ rfl ⟨[.int .i64 x.Seed,.int .i64 x.Burst,.int .i64 x.Loss],rfl,⟨rfl,HOK.out⟩,b5.of⟩
 simp[results,Tryz.results27,go_sem]
theorem aK6{B B2:Nat}{vs vs2:List Value}{x:am2}{w:World}(h:Enc.Rd B w vs x)(h2:Enc.Rd B2 w vs2 x) :
  Calls Tryz.prog 43 #[.agg vs.toArray,.agg vs2.toArray] w (b4 w (.bool true)):=by
 obtain⟨rfl,hok⟩:=h
 obtain⟨rfl,-⟩:=h2
 have HOK:=lH hok;clear hok
 go_enter Tryz.func43,Tryz.ntmps43
 go_wp2_with fail
 go_ret
 exact b4.mk rfl
theorem bK6{B:Nat}{vs:List Value}{x:Z1}{w:World}(h:Enc.Rd B w vs x)(ht:Enc.tot x≤1048576) :
  Calls Tryz.prog 247 #[.agg vs.toArray] w (ah3 w x):=by
 obtain⟨rfl,hok⟩:=h
 clear ht
 have HOK:=lH hok;clear hok
 go_enter Tryz.func247,Tryz.ntmps247
 go_wp2_with fail
 refine bodyPost_ret (v:=.agg #[.int .i64 x.Seq,.string x.Data]) ?_ rfl ⟨[.int .i64 x.Seq,.string x.Data],rfl,⟨rfl,HOK.out⟩,b5.of⟩
 simp[results,Tryz.results247,go_sem]
theorem bK3{B:Nat}{vs:List Value}{x:Z1}{left:Int}{w:World}(h:Enc.Rd B w vs x)(hl:0≤left)(hl2:left≤1048576) :
  Calls Tryz.prog 241 #[.agg vs.toArray,.int .i64 left] w (b4 w (.int .i64 (szD left (Enc.tot x)))):=by
 obtain⟨rfl,hok⟩:=h
 have n0:(0:Int)≤x.Data.size:=by omega
 have z0:x.Data.size≤9223372036854775807:=hok.2.1
 have HOK:=lH hok;clear hok
 have htot:Enc.tot x=(x.Data.size:Int):=rfl
 have HTOT:=lH htot;clear htot
 go_enter Tryz.func241,Tryz.ntmps241
 by_cases h0:left - (x.Data.size:Int)<0
 ·have HV:=lH (show szD left (Enc.tot x)=-1 from j8 (by rw[HTOT.out];omega))
  go_wp2_with fail
  go_ret
  exact b4.mk (by rw[HV.out];rfl)
 have HV:=lH (show szD left (Enc.tot x)=left - (x.Data.size:Int)by rw[B7 (by rw[HTOT.out];omega),HTOT.out]<;>omega)
 go_wp2_with fail
 go_ret
 exact b4.mk (by rw[HV.out];rfl)
theorem bK1{B B2:Nat}{vs vs2:List Value}{x:Z1}{w:World}(h:Enc.Rd B w vs x)(h2:Enc.Rd B2 w vs2 x) :
  Calls Tryz.prog 260 #[.agg vs.toArray,.agg vs2.toArray] w (b4 w (.bool true)):=by
 obtain⟨rfl,hok⟩:=h
 obtain⟨rfl,-⟩:=h2
 have HOK:=lH hok;clear hok
 go_enter Tryz.func260,Tryz.ntmps260
 go_wp2_with fail
 go_ret
 exact b4.mk rfl
theorem bC4{B:Nat}{a:Option Addr}{c:Nat}{l:List Z1}{left:Int}{w:World}(hs:RdS B w a c l)(hl:0≤left)(hl2:left≤1048576) :
  Calls Tryz.prog 159 #[.slice a l.length c,.int .i64 left] w (b4 w (.int .i64 (szD left (d7 l)))):=by
 have hmx:=hs.max
 have hln:=d9 l
 obtain⟨n,hn⟩:∃ n,l.length=n:=⟨_,rfl⟩
 rw[hn]at hln hmx
 rw[hn]
 have HN:=lH hn;clear hn
 by_cases h:left - n<0
 ·have HV:=lH (show szD left (d7 l)=-1 from j8 (by omega))
  go_enter Tryz.func159,Tryz.ntmps159
  go_wp2_with fail
  go_ret
  exact b4.mk (by rw[HV.out];rfl)
 ·go_enter Tryz.func159,Tryz.ntmps159
  go_wp2_with fail
  go_loopw [1,5] (fun u v wr=>∃ (k:Nat) (r:Int),v=.int .i64 k∧u=.int .i64 r∧k≤n∧0≤r∧r≤1048576∧Hid (r - d7 (l.drop k)+(n - k)=left - d7 l)∧∃ x:b5 w,wr=x.w) (fun _ v _=>(n - intOf v).toNat)
  case atStart=>exact⟨0,left - n,rfl,by go_num,by omega,by omega,by omega,by unfold Hid;rw[List.drop_zero];omega,b5.of⟩
  case round =>
   obtain⟨k,r,rfl,rfl,hk,hr,hr2,hf,x,rfl⟩:=hrel
   by_cases h2:k<n
   ·have hlk:k<l.length:=by have:=HN.out;omega
    obtain⟨eb,eoff,ex,rfl,ehb,ehd,eok,eh0,eh1⟩:=hs.atTSent (show k<l.length by omega)
    have hd2:=d9 (l.drop (k+1))
    have HD2:=lH (show((n:Int) - k - 1≤d7 (l.drop (k+1)))by rw[List.length_drop,HN.out]at hd2;omega);clear hd2 hlk
    have ht0:=Enc.tot_nonneg ex
    obtain⟨t,htt⟩:∃ t,Enc.tot ex=t:=⟨_,rfl⟩
    have hf2:Hid (r - (1+t+d7 (l.drop (k+1)))+(n - k)=left - d7 l):=by
     have:=hf.out;rw[ehd.out]at this;rw[← htt];exact this
    rw[htt]at ht0
    have HTT:=lH htt;clear htt hf
    have HEOK:=lH eok;clear eok
    go_wp2_with fail
    refine gm (bK3 (B:=0) (x:=ex) ⟨rfl,HEOK.out⟩ (by omega) (by omega)) ?_
    intro y
    rw[HTT.out]
    by_cases h3:r - t<0
    ·have HV:=lH (show szD left (d7 l)=-1 from j8 (by have h7:=hf2.out;have h8:=HD2.out;omega))
     rw[j8 h3]
     go_wp2_with fail
     go_ret
     exact b4.mk (by rw[HV.out];rfl)
    ·rw[B7 h3]
     go_wp2_with fail
     go_roundw
     case rel=>exact⟨k+1,r - t,by go_num,by go_num,by omega,by omega,by omega,by have h7:=hf2.out;unfold Hid;omega,b5.of⟩
     case measure=>simp[intOf];omega
   ·have HV:=lH (show szD left (d7 l)=r by
     have h7:=hf.out
     rw[List.drop_of_length_le (by have:=HN.out;omega)]at h7
     simp only[d7]at h7
     rw[B7 (by omega)];omega)
    go_wp2_with fail
    go_ret
    exact b4.mk (by rw[HV.out];rfl)
theorem bB7{B B2:Nat}{a a2:Option Addr}{c c2:Nat}{l:List Z1}{w:World}(hs:RdS B w a c l)(hs2:RdS B2 w a2 c2 l) :
  Calls Tryz.prog 219 #[.slice a l.length c,.slice a2 l.length c2] w (b4 w (.bool true)):=by
 have hmx:=hs.max
 obtain⟨n,hn⟩:∃ n,l.length=n:=⟨_,rfl⟩
 rw[hn]at hmx
 rw[hn]
 have HN:=lH hn;clear hn
 have kn:((n:Int) != (n:Int))=false:=by simp
 go_enter Tryz.func219,Tryz.ntmps219
 go_wp2_with fail
 go_loopw [5] (fun v wr=>∃ k:Nat,v=.int .i64 k∧k≤n∧∃ x:b5 w,wr=x.w) (fun v _=>(n - intOf v).toNat)
 case atStart=>exact⟨0,rfl,by omega,b5.of⟩
 case round =>
  obtain⟨k,rfl,hk,x,rfl⟩:=hrel
  by_cases h:k<n
  ·have hlk:k<l.length:=by have:=HN.out;omega
   obtain⟨eb,eoff,ex,rfl,ehb,ehd,eok,eh0,eh1⟩:=hs.atTSent (show k<l.length by omega)
   obtain⟨fb,foff,fx,rfl,fhb,fhd,fok,fh0,fh1⟩:=hs2.atTSent (show k<l.length by omega)
   obtain rfl:ex=fx:=by have:=ehd.out.symm.trans fhd.out;simpa using this
   clear ehd fhd hlk hs hs2
   have ce:∀ {W:World} [d5 w W],Calls Tryz.prog 260 #[.agg #[.int .i64 ex.Seq,.string ex.Data],.agg #[.int .i64 ex.Seq,.string ex.Data]] W (b4 W (.bool true)):=fun {W} _=>bK1 (B:=0) (B2:=0) (x:=ex) ⟨rfl,eok⟩ ⟨rfl,fok⟩
   clear eok fok
   go_wp2_with (first|((with_reducible refine rl ?_);(repeat(first|go_big_quiet_step (first|(go_at_call 260;exact b4.quiet (ce)))));refine wpQuiet_nil ?_;intro x)|(go_at_call 260;refine gm (ce) ?_;intro x))
   go_roundw
   case rel=>exact⟨k+1,by go_num,by omega,b5.of⟩
   case measure=>simp[intOf];omega
  ·go_wp2_with fail
   go_ret
   exact b4.mk rfl
theorem bg6{B:Nat}{vs:List Value}{x:M4}{w:World}(h:Enc.Rd B w vs x)(ht:Enc.tot x≤1048576) :
  Calls Tryz.prog 97 #[.agg vs.toArray] w (ah3 w x):=by
 obtain⟨rfl,hok⟩:=h
 clear ht
 have HOK:=lH hok;clear hok
 go_enter Tryz.func97,Tryz.ntmps97
 go_wp2_with fail
 refine bodyPost_ret (v:=.agg #[.int .i64 x.Expect,.bool x.Locked,.bool x.Again,.int .i64 x.Taken]) ?_ rfl ⟨[.int .i64 x.Expect,.bool x.Locked,.bool x.Again,.int .i64 x.Taken],rfl,⟨rfl,HOK.out⟩,b5.of⟩
 simp[results,Tryz.results97,go_sem]
theorem bf8{B B2:Nat}{vs vs2:List Value}{x:M4}{w:World}(h:Enc.Rd B w vs x)(h2:Enc.Rd B2 w vs2 x) :
  Calls Tryz.prog 138 #[.agg vs.toArray,.agg vs2.toArray] w (b4 w (.bool true)):=by
 obtain⟨rfl,hok⟩:=h
 obtain⟨rfl,-⟩:=h2
 have HOK:=lH hok;clear hok
 go_enter Tryz.func138,Tryz.ntmps138
 go_wp2_with fail
 go_ret
 exact b4.mk rfl
theorem bu9{B:Nat}{vs:List Value}{x:aJ6}{w:World}(h:Enc.Rd B w vs x)(ht:Enc.tot x≤1048576) :
  Calls Tryz.prog 91 #[.agg vs.toArray] w (ah3 w x):=by
 obtain⟨rfl,hok⟩:=h
 clear ht
 have HOK:=lH hok;clear hok
 go_enter Tryz.func91,Tryz.ntmps91
 go_wp2_with fail
 refine bodyPost_ret (v:=.agg #[.int .i64 x.Expect,.bool x.Locked,.bool x.Again]) ?_ rfl ⟨[.int .i64 x.Expect,.bool x.Locked,.bool x.Again],rfl,⟨rfl,HOK.out⟩,b5.of⟩
 simp[results,Tryz.results91,go_sem]
theorem bt7{B B2:Nat}{vs vs2:List Value}{x:aJ6}{w:World}(h:Enc.Rd B w vs x)(h2:Enc.Rd B2 w vs2 x) :
  Calls Tryz.prog 132 #[.agg vs.toArray,.agg vs2.toArray] w (b4 w (.bool true)):=by
 obtain⟨rfl,hok⟩:=h
 obtain⟨rfl,-⟩:=h2
 have HOK:=lH hok;clear hok
 go_enter Tryz.func132,Tryz.ntmps132
 go_wp2_with fail
 go_ret
 exact b4.mk rfl
theorem bD0{B:Nat}{vs:List Value}{x:Z3}{w:World}(h:Enc.Rd B w vs x)(ht:Enc.tot x≤1048576) :
  Calls Tryz.prog 267 #[.agg vs.toArray] w (ah3 w x):=by
 obtain⟨rfl,hok⟩:=h
 clear ht
 have HOK:=lH hok;clear hok
 go_enter Tryz.func267,Tryz.ntmps267
 go_wp2_with fail
 refine bodyPost_ret (v:=.agg #[.int .i64 x.Kind,.int .i64 x.At,.int .i64 x.A,.int .i64 x.B]) ?_ rfl ⟨[.int .i64 x.Kind,.int .i64 x.At,.int .i64 x.A,.int .i64 x.B],rfl,⟨rfl,HOK.out⟩,b5.of⟩
 simp[results,Tryz.results267,go_sem]
theorem bB5{B B2:Nat}{vs vs2:List Value}{x:Z3}{w:World}(h:Enc.Rd B w vs x)(h2:Enc.Rd B2 w vs2 x) :
  Calls Tryz.prog 273 #[.agg vs.toArray,.agg vs2.toArray] w (b4 w (.bool true)):=by
 obtain⟨rfl,hok⟩:=h
 obtain⟨rfl,-⟩:=h2
 have HOK:=lH hok;clear hok
 go_enter Tryz.func273,Tryz.ntmps273
 go_wp2_with fail
 go_ret
 exact b4.mk rfl
theorem bv0{B:Nat}{vs:List Value}{x:B4}{w:World}(h:Enc.Rd B w vs x)(ht:Enc.tot x≤1048576) :
  Calls Tryz.prog 188 #[.agg vs.toArray] w (ah3 w x):=by
 obtain⟨rfl,hok⟩:=h
 clear ht
 have HOK:=lH hok;clear hok
 go_enter Tryz.func188,Tryz.ntmps188
 go_wp2_with fail
 refine bodyPost_ret (v:=.agg #[.int .i64 x.Id,.int .i64 x.Priority,.int .i64 x.Time,.string x.Data]) ?_ rfl ⟨[.int .i64 x.Id,.int .i64 x.Priority,.int .i64 x.Time,.string x.Data],rfl,⟨rfl,HOK.out⟩,b5.of⟩
 simp[results,Tryz.results188,go_sem]
theorem bu6{B:Nat}{vs:List Value}{x:B4}{left:Int}{w:World}(h:Enc.Rd B w vs x)(hl:0≤left)(hl2:left≤1048576) :
  Calls Tryz.prog 160 #[.agg vs.toArray,.int .i64 left] w (b4 w (.int .i64 (szD left (Enc.tot x)))):=by
 obtain⟨rfl,hok⟩:=h
 have n0:(0:Int)≤x.Data.size:=by omega
 have z0:x.Data.size≤9223372036854775807:=hok.2.2.2.1
 have HOK:=lH hok;clear hok
 have htot:Enc.tot x=(x.Data.size:Int):=rfl
 have HTOT:=lH htot;clear htot
 go_enter Tryz.func160,Tryz.ntmps160
 by_cases h0:left - (x.Data.size:Int)<0
 ·have HV:=lH (show szD left (Enc.tot x)=-1 from j8 (by rw[HTOT.out];omega))
  go_wp2_with fail
  go_ret
  exact b4.mk (by rw[HV.out];rfl)
 have HV:=lH (show szD left (Enc.tot x)=left - (x.Data.size:Int)by rw[B7 (by rw[HTOT.out];omega),HTOT.out]<;>omega)
 go_wp2_with fail
 go_ret
 exact b4.mk (by rw[HV.out];rfl)
theorem bt9{B B2:Nat}{vs vs2:List Value}{x:B4}{w:World}(h:Enc.Rd B w vs x)(h2:Enc.Rd B2 w vs2 x) :
  Calls Tryz.prog 221 #[.agg vs.toArray,.agg vs2.toArray] w (b4 w (.bool true)):=by
 obtain⟨rfl,hok⟩:=h
 obtain⟨rfl,-⟩:=h2
 have HOK:=lH hok;clear hok
 go_enter Tryz.func221,Tryz.ntmps221
 go_wp2_with fail
 go_ret
 exact b4.mk rfl
theorem ax8{B:Nat}{a:Option Addr}{c:Nat}{l:List B4}{left:Int}{w:World}(hs:RdS B w a c l)(hl:0≤left)(hl2:left≤1048576) :
  Calls Tryz.prog 62 #[.slice a l.length c,.int .i64 left] w (b4 w (.int .i64 (szD left (d7 l)))):=by
 have hmx:=hs.max
 have hln:=d9 l
 obtain⟨n,hn⟩:∃ n,l.length=n:=⟨_,rfl⟩
 rw[hn]at hln hmx
 rw[hn]
 have HN:=lH hn;clear hn
 by_cases h:left - n<0
 ·have HV:=lH (show szD left (d7 l)=-1 from j8 (by omega))
  go_enter Tryz.func62,Tryz.ntmps62
  go_wp2_with fail
  go_ret
  exact b4.mk (by rw[HV.out];rfl)
 ·go_enter Tryz.func62,Tryz.ntmps62
  go_wp2_with fail
  go_loopw [1,5] (fun u v wr=>∃ (k:Nat) (r:Int),v=.int .i64 k∧u=.int .i64 r∧k≤n∧0≤r∧r≤1048576∧Hid (r - d7 (l.drop k)+(n - k)=left - d7 l)∧∃ x:b5 w,wr=x.w) (fun _ v _=>(n - intOf v).toNat)
  case atStart=>exact⟨0,left - n,rfl,by go_num,by omega,by omega,by omega,by unfold Hid;rw[List.drop_zero];omega,b5.of⟩
  case round =>
   obtain⟨k,r,rfl,rfl,hk,hr,hr2,hf,x,rfl⟩:=hrel
   by_cases h2:k<n
   ·have hlk:k<l.length:=by have:=HN.out;omega
    obtain⟨eb,eoff,ex,rfl,ehb,ehd,eok,eh0,eh1,eh2,eh3⟩:=hs.atTRecord (show k<l.length by omega)
    have hd2:=d9 (l.drop (k+1))
    have HD2:=lH (show((n:Int) - k - 1≤d7 (l.drop (k+1)))by rw[List.length_drop,HN.out]at hd2;omega);clear hd2 hlk
    have ht0:=Enc.tot_nonneg ex
    obtain⟨t,htt⟩:∃ t,Enc.tot ex=t:=⟨_,rfl⟩
    have hf2:Hid (r - (1+t+d7 (l.drop (k+1)))+(n - k)=left - d7 l):=by
     have:=hf.out;rw[ehd.out]at this;rw[← htt];exact this
    rw[htt]at ht0
    have HTT:=lH htt;clear htt hf
    have HEOK:=lH eok;clear eok
    go_wp2_with fail
    refine gm (bu6 (B:=0) (x:=ex) ⟨rfl,HEOK.out⟩ (by omega) (by omega)) ?_
    intro y
    rw[HTT.out]
    by_cases h3:r - t<0
    ·have HV:=lH (show szD left (d7 l)=-1 from j8 (by have h7:=hf2.out;have h8:=HD2.out;omega))
     rw[j8 h3]
     go_wp2_with fail
     go_ret
     exact b4.mk (by rw[HV.out];rfl)
    ·rw[B7 h3]
     go_wp2_with fail
     go_roundw
     case rel=>exact⟨k+1,r - t,by go_num,by go_num,by omega,by omega,by omega,by have h7:=hf2.out;unfold Hid;omega,b5.of⟩
     case measure=>simp[intOf];omega
   ·have HV:=lH (show szD left (d7 l)=r by
     have h7:=hf.out
     rw[List.drop_of_length_le (by have:=HN.out;omega)]at h7
     simp only[d7]at h7
     rw[B7 (by omega)];omega)
    go_wp2_with fail
    go_ret
    exact b4.mk (by rw[HV.out];rfl)
theorem ax7{B B2:Nat}{a a2:Option Addr}{c c2:Nat}{l:List B4}{w:World}(hs:RdS B w a c l)(hs2:RdS B2 w a2 c2 l) :
  Calls Tryz.prog 135 #[.slice a l.length c,.slice a2 l.length c2] w (b4 w (.bool true)):=by
 have hmx:=hs.max
 obtain⟨n,hn⟩:∃ n,l.length=n:=⟨_,rfl⟩
 rw[hn]at hmx
 rw[hn]
 have HN:=lH hn;clear hn
 have kn:((n:Int) != (n:Int))=false:=by simp
 go_enter Tryz.func135,Tryz.ntmps135
 go_wp2_with fail
 go_loopw [5] (fun v wr=>∃ k:Nat,v=.int .i64 k∧k≤n∧∃ x:b5 w,wr=x.w) (fun v _=>(n - intOf v).toNat)
 case atStart=>exact⟨0,rfl,by omega,b5.of⟩
 case round =>
  obtain⟨k,rfl,hk,x,rfl⟩:=hrel
  by_cases h:k<n
  ·have hlk:k<l.length:=by have:=HN.out;omega
   obtain⟨eb,eoff,ex,rfl,ehb,ehd,eok,eh0,eh1,eh2,eh3⟩:=hs.atTRecord (show k<l.length by omega)
   obtain⟨fb,foff,fx,rfl,fhb,fhd,fok,fh0,fh1,fh2,fh3⟩:=hs2.atTRecord (show k<l.length by omega)
   obtain rfl:ex=fx:=by have:=ehd.out.symm.trans fhd.out;simpa using this
   clear ehd fhd hlk hs hs2
   have ce:∀ {W:World} [d5 w W],Calls Tryz.prog 221 #[.agg #[.int .i64 ex.Id,.int .i64 ex.Priority,.int .i64 ex.Time,.string ex.Data],.agg #[.int .i64 ex.Id,.int .i64 ex.Priority,.int .i64 ex.Time,.string ex.Data]] W (b4 W (.bool true)):=fun {W} _=>bt9 (B:=0) (B2:=0) (x:=ex) ⟨rfl,eok⟩ ⟨rfl,fok⟩
   clear eok fok
   go_wp2_with (first|((with_reducible refine rl ?_);(repeat(first|go_big_quiet_step (first|(go_at_call 221;exact b4.quiet (ce)))));refine wpQuiet_nil ?_;intro x)|(go_at_call 221;refine gm (ce) ?_;intro x))
   go_roundw
   case rel=>exact⟨k+1,by go_num,by omega,b5.of⟩
   case measure=>simp[intOf];omega
  ·go_wp2_with fail
   go_ret
   exact b4.mk rfl
theorem bC8{B:Nat}{vs:List Value}{x:V3}{w:World}(h:Enc.Rd B w vs x)(ht:Enc.tot x≤1048576) :
  Calls Tryz.prog 248 #[.agg vs.toArray] w (ah3 w x):=by
 obtain⟨rfl,hok⟩:=h
 clear ht
 have HOK:=lH hok;clear hok
 go_enter Tryz.func248,Tryz.ntmps248
 go_wp2_with fail
 refine bodyPost_ret (v:=.agg #[.int .i64 x.Param,.int .i64 x.Low,.int .i64 x.High]) ?_ rfl ⟨[.int .i64 x.Param,.int .i64 x.Low,.int .i64 x.High],rfl,⟨rfl,HOK.out⟩,b5.of⟩
 simp[results,Tryz.results248,go_sem]
theorem bB3{B B2:Nat}{vs vs2:List Value}{x:V3}{w:World}(h:Enc.Rd B w vs x)(h2:Enc.Rd B2 w vs2 x) :
  Calls Tryz.prog 261 #[.agg vs.toArray,.agg vs2.toArray] w (b4 w (.bool true)):=by
 obtain⟨rfl,hok⟩:=h
 obtain⟨rfl,-⟩:=h2
 have HOK:=lH hok;clear hok
 go_enter Tryz.func261,Tryz.ntmps261
 go_wp2_with fail
 go_ret
 exact b4.mk rfl
theorem bu4{B:Nat}{a:Option Addr}{c:Nat}{l:List V3}{left:Int}{w:World}(hs:RdS B w a c l)(hl:0≤left)(hl2:left≤1048576) :
  Calls Tryz.prog 163 #[.slice a l.length c,.int .i64 left] w (b4 w (.int .i64 (szD left (d7 l)))):=by
 have hmx:=hs.max
 have hln:=d9 l
 obtain⟨n,hn⟩:∃ n,l.length=n:=⟨_,rfl⟩
 rw[hn]at hln hmx
 rw[hn]
 have HN:=lH hn;clear hn
 have htl:d7 l=n:=by rw[← HN.out];clear hs HN hmx hln;induction l with|nil=>rfl|cons x r ih=>simp only[d7,List.length_cons,ih];show 1+0+_=_;omega
 rw[htl];clear htl hln hs
 by_cases h:left - n<0
 ·rw[j8 h]
  go_enter Tryz.func163,Tryz.ntmps163
  go_wp2_with fail
  go_ret
  exact b4.mk rfl
 ·rw[B7 h]
  go_enter Tryz.func163,Tryz.ntmps163
  go_wp2_with fail
  go_ret
  exact b4.mk rfl
theorem bt6{B B2:Nat}{a a2:Option Addr}{c c2:Nat}{l:List V3}{w:World}(hs:RdS B w a c l)(hs2:RdS B2 w a2 c2 l) :
  Calls Tryz.prog 224 #[.slice a l.length c,.slice a2 l.length c2] w (b4 w (.bool true)):=by
 have hmx:=hs.max
 obtain⟨n,hn⟩:∃ n,l.length=n:=⟨_,rfl⟩
 rw[hn]at hmx
 rw[hn]
 have HN:=lH hn;clear hn
 have kn:((n:Int) != (n:Int))=false:=by simp
 go_enter Tryz.func224,Tryz.ntmps224
 go_wp2_with fail
 go_loopw [5] (fun v wr=>∃ k:Nat,v=.int .i64 k∧k≤n∧∃ x:b5 w,wr=x.w) (fun v _=>(n - intOf v).toNat)
 case atStart=>exact⟨0,rfl,by omega,b5.of⟩
 case round =>
  obtain⟨k,rfl,hk,x,rfl⟩:=hrel
  by_cases h:k<n
  ·have hlk:k<l.length:=by have:=HN.out;omega
   obtain⟨eb,eoff,ex,rfl,ehb,ehd,eok,eh0,eh1,eh2⟩:=hs.atTLimit (show k<l.length by omega)
   obtain⟨fb,foff,fx,rfl,fhb,fhd,fok,fh0,fh1,fh2⟩:=hs2.atTLimit (show k<l.length by omega)
   obtain rfl:ex=fx:=by have:=ehd.out.symm.trans fhd.out;simpa using this
   clear ehd fhd hlk hs hs2
   have ce:∀ {W:World} [d5 w W],Calls Tryz.prog 261 #[.agg #[.int .i64 ex.Param,.int .i64 ex.Low,.int .i64 ex.High],.agg #[.int .i64 ex.Param,.int .i64 ex.Low,.int .i64 ex.High]] W (b4 W (.bool true)):=fun {W} _=>bB3 (B:=0) (B2:=0) (x:=ex) ⟨rfl,eok⟩ ⟨rfl,fok⟩
   clear eok fok
   go_wp2_with (first|((with_reducible refine rl ?_);(repeat(first|go_big_quiet_step (first|(go_at_call 261;exact b4.quiet (ce)))));refine wpQuiet_nil ?_;intro x)|(go_at_call 261;refine gm (ce) ?_;intro x))
   go_roundw
   case rel=>exact⟨k+1,by go_num,by omega,b5.of⟩
   case measure=>simp[intOf];omega
  ·go_wp2_with fail
   go_ret
   exact b4.mk rfl
theorem bK4{B:Nat}{vs:List Value}{x:aa5}{w:World}(h:Enc.Rd B w vs x)(ht:Enc.tot x≤1048576) :
  Calls Tryz.prog 250 #[.agg vs.toArray] w (ah3 w x):=by
 obtain⟨rfl,hok⟩:=h
 clear ht
 have HOK:=lH hok;clear hok
 go_enter Tryz.func250,Tryz.ntmps250
 go_wp2_with fail
 refine bodyPost_ret (v:=.agg #[.int .i64 x.Number,.int .i64 x.Time,.int .i64 x.Result]) ?_ rfl ⟨[.int .i64 x.Number,.int .i64 x.Time,.int .i64 x.Result],rfl,⟨rfl,HOK.out⟩,b5.of⟩
 simp[results,Tryz.results250,go_sem]
theorem bJ9{B B2:Nat}{vs vs2:List Value}{x:aa5}{w:World}(h:Enc.Rd B w vs x)(h2:Enc.Rd B2 w vs2 x) :
  Calls Tryz.prog 263 #[.agg vs.toArray,.agg vs2.toArray] w (b4 w (.bool true)):=by
 obtain⟨rfl,hok⟩:=h
 obtain⟨rfl,-⟩:=h2
 have HOK:=lH hok;clear hok
 go_enter Tryz.func263,Tryz.ntmps263
 go_wp2_with fail
 go_ret
 exact b4.mk rfl
theorem bC2{B:Nat}{a:Option Addr}{c:Nat}{l:List aa5}{left:Int}{w:World}(hs:RdS B w a c l)(hl:0≤left)(hl2:left≤1048576) :
  Calls Tryz.prog 165 #[.slice a l.length c,.int .i64 left] w (b4 w (.int .i64 (szD left (d7 l)))):=by
 have hmx:=hs.max
 have hln:=d9 l
 obtain⟨n,hn⟩:∃ n,l.length=n:=⟨_,rfl⟩
 rw[hn]at hln hmx
 rw[hn]
 have HN:=lH hn;clear hn
 have htl:d7 l=n:=by rw[← HN.out];clear hs HN hmx hln;induction l with|nil=>rfl|cons x r ih=>simp only[d7,List.length_cons,ih];show 1+0+_=_;omega
 rw[htl];clear htl hln hs
 by_cases h:left - n<0
 ·rw[j8 h]
  go_enter Tryz.func165,Tryz.ntmps165
  go_wp2_with fail
  go_ret
  exact b4.mk rfl
 ·rw[B7 h]
  go_enter Tryz.func165,Tryz.ntmps165
  go_wp2_with fail
  go_ret
  exact b4.mk rfl
theorem bB1{B B2:Nat}{a a2:Option Addr}{c c2:Nat}{l:List aa5}{w:World}(hs:RdS B w a c l)(hs2:RdS B2 w a2 c2 l) :
  Calls Tryz.prog 226 #[.slice a l.length c,.slice a2 l.length c2] w (b4 w (.bool true)):=by
 have hmx:=hs.max
 obtain⟨n,hn⟩:∃ n,l.length=n:=⟨_,rfl⟩
 rw[hn]at hmx
 rw[hn]
 have HN:=lH hn;clear hn
 have kn:((n:Int) != (n:Int))=false:=by simp
 go_enter Tryz.func226,Tryz.ntmps226
 go_wp2_with fail
 go_loopw [5] (fun v wr=>∃ k:Nat,v=.int .i64 k∧k≤n∧∃ x:b5 w,wr=x.w) (fun v _=>(n - intOf v).toNat)
 case atStart=>exact⟨0,rfl,by omega,b5.of⟩
 case round =>
  obtain⟨k,rfl,hk,x,rfl⟩:=hrel
  by_cases h:k<n
  ·have hlk:k<l.length:=by have:=HN.out;omega
   obtain⟨eb,eoff,ex,rfl,ehb,ehd,eok,eh0,eh1,eh2⟩:=hs.atTDone (show k<l.length by omega)
   obtain⟨fb,foff,fx,rfl,fhb,fhd,fok,fh0,fh1,fh2⟩:=hs2.atTDone (show k<l.length by omega)
   obtain rfl:ex=fx:=by have:=ehd.out.symm.trans fhd.out;simpa using this
   clear ehd fhd hlk hs hs2
   have ce:∀ {W:World} [d5 w W],Calls Tryz.prog 263 #[.agg #[.int .i64 ex.Number,.int .i64 ex.Time,.int .i64 ex.Result],.agg #[.int .i64 ex.Number,.int .i64 ex.Time,.int .i64 ex.Result]] W (b4 W (.bool true)):=fun {W} _=>bJ9 (B:=0) (B2:=0) (x:=ex) ⟨rfl,eok⟩ ⟨rfl,fok⟩
   clear eok fok
   go_wp2_with (first|((with_reducible refine rl ?_);(repeat(first|go_big_quiet_step (first|(go_at_call 263;exact b4.quiet (ce)))));refine wpQuiet_nil ?_;intro x)|(go_at_call 263;refine gm (ce) ?_;intro x))
   go_roundw
   case rel=>exact⟨k+1,by go_num,by omega,b5.of⟩
   case measure=>simp[intOf];omega
  ·go_wp2_with fail
   go_ret
   exact b4.mk rfl
