/- The contracts of the mirrors, sizes and equalities of flat structs (2). No condition but on sizes. -/
import Derived.Test.YthbepablpaldgaaGreatSM7
namespace Go.Proofs.YthbepablpaldgaaGreat
set_option maxRecDepth 100000
set_option maxHeartbeats 2000000
set_option linter.unusedVariables false
open Go.ChangeShapes Go.WideShapes Go.ChangeAt Go.RowKit
theorem d_ltoDrift{B:Nat}{vs:List Value}{x:TDrift}{w:World}(h:Enc.Rd B w vs x)(ht:Enc.tot x≤1048576) :
  Calls Tryz.prog 24 #[.agg vs.toArray] w (GivesD w x):=by
 obtain⟨rfl,hok⟩:=h
 clear ht
 have HOK:=lH hok;clear hok
 go_enter Tryz.func24,Tryz.ntmps24
 go_wp2_with fail
 refine bodyPost_ret (v:=.agg #[.int .i64 x.Rate,.int .i64 x.Offset]) ?_ rfl ⟨[.int .i64 x.Rate,.int .i64 x.Offset],rfl,⟨rfl,HOK.out⟩,Later.of⟩
 simp[results,Tryz.results24,go_sem]
theorem d_leqDrift{B B2:Nat}{vs vs2:List Value}{x:TDrift}{w:World}(h:Enc.Rd B w vs x)(h2:Enc.Rd B2 w vs2 x) :
  Calls Tryz.prog 37 #[.agg vs.toArray,.agg vs2.toArray] w (Gives w (.bool true)):=by
 obtain⟨rfl,hok⟩:=h
 obtain⟨rfl,-⟩:=h2
 have HOK:=lH hok;clear hok
 go_enter Tryz.func37,Tryz.ntmps37
 go_wp2_with fail
 go_ret
 exact Gives.mk rfl
theorem d_ltoPair{B:Nat}{vs:List Value}{x:Pair}{w:World}(h:Enc.Rd B w vs x)(ht:Enc.tot x≤1048576) :
  Calls Tryz.prog 198 #[.agg vs.toArray] w (GivesD w x):=by
 obtain⟨rfl,hok⟩:=h
 clear ht
 have HOK:=lH hok;clear hok
 go_enter Tryz.func198,Tryz.ntmps198
 go_wp2_with fail
 refine bodyPost_ret (v:=.agg #[.int .i64 x.Board,.int .i64 x.True]) ?_ rfl ⟨[.int .i64 x.Board,.int .i64 x.True],rfl,⟨rfl,HOK.out⟩,Later.of⟩
 simp[results,Tryz.results198,go_sem]
theorem d_leqPair{B B2:Nat}{vs vs2:List Value}{x:Pair}{w:World}(h:Enc.Rd B w vs x)(h2:Enc.Rd B2 w vs2 x) :
  Calls Tryz.prog 228 #[.agg vs.toArray,.agg vs2.toArray] w (Gives w (.bool true)):=by
 obtain⟨rfl,hok⟩:=h
 obtain⟨rfl,-⟩:=h2
 have HOK:=lH hok;clear hok
 go_enter Tryz.func228,Tryz.ntmps228
 go_wp2_with fail
 go_ret
 exact Gives.mk rfl
theorem d_lszPairS{B:Nat}{a:Option Addr}{c:Nat}{l:List Pair}{left:Int}{w:World}(hs:RdS B w a c l)(hl:0≤left)(hl2:left≤1048576) :
  Calls Tryz.prog 70 #[.slice a l.length c,.int .i64 left] w (Gives w (.int .i64 (szD left (totL l)))):=by
 have hmx:=hs.max
 have hln:=totL_len l
 obtain⟨n,hn⟩:∃ n,l.length=n:=⟨_,rfl⟩
 rw[hn]at hln hmx
 rw[hn]
 have HN:=lH hn;clear hn
 have htl:totL l=n:=by rw[← HN.out];clear hs HN hmx hln;induction l with|nil=>rfl|cons x r ih=>simp only[totL,List.length_cons,ih];show 1+0+_=_;omega
 rw[htl];clear htl hln hs
 by_cases h:left - n<0
 ·rw[szD_neg h]
  go_enter Tryz.func70,Tryz.ntmps70
  go_wp2_with fail
  go_ret
  exact Gives.mk rfl
 ·rw[szD_pos h]
  go_enter Tryz.func70,Tryz.ntmps70
  go_wp2_with fail
  go_ret
  exact Gives.mk rfl
theorem d_leqPairS{B B2:Nat}{a a2:Option Addr}{c c2:Nat}{l:List Pair}{w:World}(hs:RdS B w a c l)(hs2:RdS B2 w a2 c2 l) :
  Calls Tryz.prog 138 #[.slice a l.length c,.slice a2 l.length c2] w (Gives w (.bool true)):=by
 have hmx:=hs.max
 obtain⟨n,hn⟩:∃ n,l.length=n:=⟨_,rfl⟩
 rw[hn]at hmx
 rw[hn]
 have HN:=lH hn;clear hn
 have kn:((n:Int) != (n:Int))=false:=by simp
 go_enter Tryz.func138,Tryz.ntmps138
 go_wp2_with fail
 go_loopw [5] (fun v wr=>∃ k:Nat,v=.int .i64 k∧k≤n∧∃ x:Later w,wr=x.w) (fun v _=>(n - intOf v).toNat)
 case atStart=>exact⟨0,rfl,by omega,Later.of⟩
 case round =>
  obtain⟨k,rfl,hk,x,rfl⟩:=hrel
  by_cases h:k<n
  ·have hlk:k<l.length:=by have:=HN.out;omega
   obtain⟨eb,eoff,ex,rfl,ehb,ehd,eok,eh0,eh1⟩:=hs.atPair (show k<l.length by omega)
   obtain⟨fb,foff,fx,rfl,fhb,fhd,fok,fh0,fh1⟩:=hs2.atPair (show k<l.length by omega)
   obtain rfl:ex=fx:=by have:=ehd.out.symm.trans fhd.out;simpa using this
   clear ehd fhd hlk hs hs2
   have ce:∀ {W:World} [Grows w W],Calls Tryz.prog 228 #[.agg #[.int .i64 ex.Board,.int .i64 ex.True],.agg #[.int .i64 ex.Board,.int .i64 ex.True]] W (Gives W (.bool true)):=fun {W} _=>d_leqPair (B:=0) (B2:=0) (x:=ex) ⟨rfl,eok⟩ ⟨rfl,fok⟩
   clear eok fok
   go_wp2_with (first|((with_reducible refine rl ?_);(repeat(first|go_big_quiet_step (first|(go_at_call 228;exact Gives.quiet (ce)))));refine wpQuiet_nil ?_;intro x)|(go_at_call 228;refine gm (ce) ?_;intro x))
   go_roundw
   case rel=>exact⟨k+1,by go_num,by omega,Later.of⟩
   case measure=>simp[intOf];omega
  ·go_wp2_with fail
   go_ret
   exact Gives.mk rfl
theorem d_ltoOrbit{B:Nat}{vs:List Value}{x:TOrbit}{w:World}(h:Enc.Rd B w vs x)(ht:Enc.tot x≤1048576) :
  Calls Tryz.prog 25 #[.agg vs.toArray] w (GivesD w x):=by
 obtain⟨rfl,hok⟩:=h
 clear ht
 have HOK:=lH hok;clear hok
 go_enter Tryz.func25,Tryz.ntmps25
 go_wp2_with fail
 refine bodyPost_ret (v:=.agg #[.int .i64 x.Period,.int .i64 x.Start,.int .i64 x.Length]) ?_ rfl ⟨[.int .i64 x.Period,.int .i64 x.Start,.int .i64 x.Length],rfl,⟨rfl,HOK.out⟩,Later.of⟩
 simp[results,Tryz.results25,go_sem]
theorem d_leqOrbit{B B2:Nat}{vs vs2:List Value}{x:TOrbit}{w:World}(h:Enc.Rd B w vs x)(h2:Enc.Rd B2 w vs2 x) :
  Calls Tryz.prog 38 #[.agg vs.toArray,.agg vs2.toArray] w (Gives w (.bool true)):=by
 obtain⟨rfl,hok⟩:=h
 obtain⟨rfl,-⟩:=h2
 have HOK:=lH hok;clear hok
 go_enter Tryz.func38,Tryz.ntmps38
 go_wp2_with fail
 go_ret
 exact Gives.mk rfl
theorem d_ltoSlot{B:Nat}{vs:List Value}{x:Slot}{w:World}(h:Enc.Rd B w vs x)(ht:Enc.tot x≤1048576) :
  Calls Tryz.prog 94 #[.agg vs.toArray] w (GivesD w x):=by
 obtain⟨rfl,hok⟩:=h
 clear ht
 have HOK:=lH hok;clear hok
 go_enter Tryz.func94,Tryz.ntmps94
 go_wp2_with fail
 refine bodyPost_ret (v:=.agg #[.int .i64 x.Time,.int .i64 x.Id]) ?_ rfl ⟨[.int .i64 x.Time,.int .i64 x.Id],rfl,⟨rfl,HOK.out⟩,Later.of⟩
 simp[results,Tryz.results94,go_sem]
theorem d_leqSlot{B B2:Nat}{vs vs2:List Value}{x:Slot}{w:World}(h:Enc.Rd B w vs x)(h2:Enc.Rd B2 w vs2 x) :
  Calls Tryz.prog 133 #[.agg vs.toArray,.agg vs2.toArray] w (Gives w (.bool true)):=by
 obtain⟨rfl,hok⟩:=h
 obtain⟨rfl,-⟩:=h2
 have HOK:=lH hok;clear hok
 go_enter Tryz.func133,Tryz.ntmps133
 go_wp2_with fail
 go_ret
 exact Gives.mk rfl
theorem d_lszSlotS{B:Nat}{a:Option Addr}{c:Nat}{l:List Slot}{left:Int}{w:World}(hs:RdS B w a c l)(hl:0≤left)(hl2:left≤1048576) :
  Calls Tryz.prog 14 #[.slice a l.length c,.int .i64 left] w (Gives w (.int .i64 (szD left (totL l)))):=by
 have hmx:=hs.max
 have hln:=totL_len l
 obtain⟨n,hn⟩:∃ n,l.length=n:=⟨_,rfl⟩
 rw[hn]at hln hmx
 rw[hn]
 have HN:=lH hn;clear hn
 have htl:totL l=n:=by rw[← HN.out];clear hs HN hmx hln;induction l with|nil=>rfl|cons x r ih=>simp only[totL,List.length_cons,ih];show 1+0+_=_;omega
 rw[htl];clear htl hln hs
 by_cases h:left - n<0
 ·rw[szD_neg h]
  go_enter Tryz.func14,Tryz.ntmps14
  go_wp2_with fail
  go_ret
  exact Gives.mk rfl
 ·rw[szD_pos h]
  go_enter Tryz.func14,Tryz.ntmps14
  go_wp2_with fail
  go_ret
  exact Gives.mk rfl
theorem d_leqSlotS{B B2:Nat}{a a2:Option Addr}{c c2:Nat}{l:List Slot}{w:World}(hs:RdS B w a c l)(hs2:RdS B2 w a2 c2 l) :
  Calls Tryz.prog 39 #[.slice a l.length c,.slice a2 l.length c2] w (Gives w (.bool true)):=by
 have hmx:=hs.max
 obtain⟨n,hn⟩:∃ n,l.length=n:=⟨_,rfl⟩
 rw[hn]at hmx
 rw[hn]
 have HN:=lH hn;clear hn
 have kn:((n:Int) != (n:Int))=false:=by simp
 go_enter Tryz.func39,Tryz.ntmps39
 go_wp2_with fail
 go_loopw [5] (fun v wr=>∃ k:Nat,v=.int .i64 k∧k≤n∧∃ x:Later w,wr=x.w) (fun v _=>(n - intOf v).toNat)
 case atStart=>exact⟨0,rfl,by omega,Later.of⟩
 case round =>
  obtain⟨k,rfl,hk,x,rfl⟩:=hrel
  by_cases h:k<n
  ·have hlk:k<l.length:=by have:=HN.out;omega
   obtain⟨eb,eoff,ex,rfl,ehb,ehd,eok,eh0,eh1⟩:=hs.atSlot (show k<l.length by omega)
   obtain⟨fb,foff,fx,rfl,fhb,fhd,fok,fh0,fh1⟩:=hs2.atSlot (show k<l.length by omega)
   obtain rfl:ex=fx:=by have:=ehd.out.symm.trans fhd.out;simpa using this
   clear ehd fhd hlk hs hs2
   have ce:∀ {W:World} [Grows w W],Calls Tryz.prog 133 #[.agg #[.int .i64 ex.Time,.int .i64 ex.Id],.agg #[.int .i64 ex.Time,.int .i64 ex.Id]] W (Gives W (.bool true)):=fun {W} _=>d_leqSlot (B:=0) (B2:=0) (x:=ex) ⟨rfl,eok⟩ ⟨rfl,fok⟩
   clear eok fok
   go_wp2_with (first|((with_reducible refine rl ?_);(repeat(first|go_big_quiet_step (first|(go_at_call 133;exact Gives.quiet (ce)))));refine wpQuiet_nil ?_;intro x)|(go_at_call 133;refine gm (ce) ?_;intro x))
   go_roundw
   case rel=>exact⟨k+1,by go_num,by omega,Later.of⟩
   case measure=>simp[intOf];omega
  ·go_wp2_with fail
   go_ret
   exact Gives.mk rfl
theorem d_ltoFlight{B:Nat}{vs:List Value}{x:TFlight}{w:World}(h:Enc.Rd B w vs x)(ht:Enc.tot x≤1048576) :
  Calls Tryz.prog 95 #[.agg vs.toArray] w (GivesD w x):=by
 obtain⟨rfl,hok⟩:=h
 clear ht
 have HOK:=lH hok;clear hok
 go_enter Tryz.func95,Tryz.ntmps95
 go_wp2_with fail
 refine bodyPost_ret (v:=.agg #[.int .i64 x.At,.string x.Data]) ?_ rfl ⟨[.int .i64 x.At,.string x.Data],rfl,⟨rfl,HOK.out⟩,Later.of⟩
 simp[results,Tryz.results95,go_sem]
theorem d_lszFlight{B:Nat}{vs:List Value}{x:TFlight}{left:Int}{w:World}(h:Enc.Rd B w vs x)(hl:0≤left)(hl2:left≤1048576) :
  Calls Tryz.prog 67 #[.agg vs.toArray,.int .i64 left] w (Gives w (.int .i64 (szD left (Enc.tot x)))):=by
 obtain⟨rfl,hok⟩:=h
 have n0:(0:Int)≤x.Data.size:=by omega
 have z0:x.Data.size≤9223372036854775807:=hok.2.1
 have HOK:=lH hok;clear hok
 have htot:Enc.tot x=(x.Data.size:Int):=rfl
 have HTOT:=lH htot;clear htot
 go_enter Tryz.func67,Tryz.ntmps67
 by_cases h0:left - (x.Data.size:Int)<0
 ·have HV:=lH (show szD left (Enc.tot x)=-1 from szD_neg (by rw[HTOT.out];omega))
  go_wp2_with fail
  go_ret
  exact Gives.mk (by rw[HV.out];rfl)
 have HV:=lH (show szD left (Enc.tot x)=left - (x.Data.size:Int)by rw[szD_pos (by rw[HTOT.out];omega),HTOT.out]<;>omega)
 go_wp2_with fail
 go_ret
 exact Gives.mk (by rw[HV.out];rfl)
theorem d_leqFlight{B B2:Nat}{vs vs2:List Value}{x:TFlight}{w:World}(h:Enc.Rd B w vs x)(h2:Enc.Rd B2 w vs2 x) :
  Calls Tryz.prog 134 #[.agg vs.toArray,.agg vs2.toArray] w (Gives w (.bool true)):=by
 obtain⟨rfl,hok⟩:=h
 obtain⟨rfl,-⟩:=h2
 have HOK:=lH hok;clear hok
 go_enter Tryz.func134,Tryz.ntmps134
 go_wp2_with fail
 go_ret
 exact Gives.mk rfl
theorem d_lszFlightS{B:Nat}{a:Option Addr}{c:Nat}{l:List TFlight}{left:Int}{w:World}(hs:RdS B w a c l)(hl:0≤left)(hl2:left≤1048576) :
  Calls Tryz.prog 15 #[.slice a l.length c,.int .i64 left] w (Gives w (.int .i64 (szD left (totL l)))):=by
 have hmx:=hs.max
 have hln:=totL_len l
 obtain⟨n,hn⟩:∃ n,l.length=n:=⟨_,rfl⟩
 rw[hn]at hln hmx
 rw[hn]
 have HN:=lH hn;clear hn
 by_cases h:left - n<0
 ·have HV:=lH (show szD left (totL l)=-1 from szD_neg (by omega))
  go_enter Tryz.func15,Tryz.ntmps15
  go_wp2_with fail
  go_ret
  exact Gives.mk (by rw[HV.out];rfl)
 ·go_enter Tryz.func15,Tryz.ntmps15
  go_wp2_with fail
  go_loopw [1,5] (fun u v wr=>∃ (k:Nat) (r:Int),v=.int .i64 k∧u=.int .i64 r∧k≤n∧0≤r∧r≤1048576∧Hid (r - totL (l.drop k)+(n - k)=left - totL l)∧∃ x:Later w,wr=x.w) (fun _ v _=>(n - intOf v).toNat)
  case atStart=>exact⟨0,left - n,rfl,by go_num,by omega,by omega,by omega,by unfold Hid;rw[List.drop_zero];omega,Later.of⟩
  case round =>
   obtain⟨k,r,rfl,rfl,hk,hr,hr2,hf,x,rfl⟩:=hrel
   by_cases h2:k<n
   ·have hlk:k<l.length:=by have:=HN.out;omega
    obtain⟨eb,eoff,ex,rfl,ehb,ehd,eok,eh0,eh1⟩:=hs.atTFlight (show k<l.length by omega)
    have hd2:=totL_len (l.drop (k+1))
    have HD2:=lH (show((n:Int) - k - 1≤totL (l.drop (k+1)))by rw[List.length_drop,HN.out]at hd2;omega);clear hd2 hlk
    have ht0:=Enc.tot_nonneg ex
    obtain⟨t,htt⟩:∃ t,Enc.tot ex=t:=⟨_,rfl⟩
    have hf2:Hid (r - (1+t+totL (l.drop (k+1)))+(n - k)=left - totL l):=by
     have:=hf.out;rw[ehd.out]at this;rw[← htt];exact this
    rw[htt]at ht0
    have HTT:=lH htt;clear htt hf
    have HEOK:=lH eok;clear eok
    go_wp2_with fail
    refine gm (d_lszFlight (B:=0) (x:=ex) ⟨rfl,HEOK.out⟩ (by omega) (by omega)) ?_
    intro y
    rw[HTT.out]
    by_cases h3:r - t<0
    ·have HV:=lH (show szD left (totL l)=-1 from szD_neg (by have h7:=hf2.out;have h8:=HD2.out;omega))
     rw[szD_neg h3]
     go_wp2_with fail
     go_ret
     exact Gives.mk (by rw[HV.out];rfl)
    ·rw[szD_pos h3]
     go_wp2_with fail
     go_roundw
     case rel=>exact⟨k+1,r - t,by go_num,by go_num,by omega,by omega,by omega,by have h7:=hf2.out;unfold Hid;omega,Later.of⟩
     case measure=>simp[intOf];omega
   ·have HV:=lH (show szD left (totL l)=r by
     have h7:=hf.out
     rw[List.drop_of_length_le (by have:=HN.out;omega)]at h7
     simp only[totL]at h7
     rw[szD_pos (by omega)];omega)
    go_wp2_with fail
    go_ret
    exact Gives.mk (by rw[HV.out];rfl)
theorem d_leqFlightS{B B2:Nat}{a a2:Option Addr}{c c2:Nat}{l:List TFlight}{w:World}(hs:RdS B w a c l)(hs2:RdS B2 w a2 c2 l) :
  Calls Tryz.prog 41 #[.slice a l.length c,.slice a2 l.length c2] w (Gives w (.bool true)):=by
 have hmx:=hs.max
 obtain⟨n,hn⟩:∃ n,l.length=n:=⟨_,rfl⟩
 rw[hn]at hmx
 rw[hn]
 have HN:=lH hn;clear hn
 have kn:((n:Int) != (n:Int))=false:=by simp
 go_enter Tryz.func41,Tryz.ntmps41
 go_wp2_with fail
 go_loopw [5] (fun v wr=>∃ k:Nat,v=.int .i64 k∧k≤n∧∃ x:Later w,wr=x.w) (fun v _=>(n - intOf v).toNat)
 case atStart=>exact⟨0,rfl,by omega,Later.of⟩
 case round =>
  obtain⟨k,rfl,hk,x,rfl⟩:=hrel
  by_cases h:k<n
  ·have hlk:k<l.length:=by have:=HN.out;omega
   obtain⟨eb,eoff,ex,rfl,ehb,ehd,eok,eh0,eh1⟩:=hs.atTFlight (show k<l.length by omega)
   obtain⟨fb,foff,fx,rfl,fhb,fhd,fok,fh0,fh1⟩:=hs2.atTFlight (show k<l.length by omega)
   obtain rfl:ex=fx:=by have:=ehd.out.symm.trans fhd.out;simpa using this
   clear ehd fhd hlk hs hs2
   have ce:∀ {W:World} [Grows w W],Calls Tryz.prog 134 #[.agg #[.int .i64 ex.At,.string ex.Data],.agg #[.int .i64 ex.At,.string ex.Data]] W (Gives W (.bool true)):=fun {W} _=>d_leqFlight (B:=0) (B2:=0) (x:=ex) ⟨rfl,eok⟩ ⟨rfl,fok⟩
   clear eok fok
   go_wp2_with (first|((with_reducible refine rl ?_);(repeat(first|go_big_quiet_step (first|(go_at_call 134;exact Gives.quiet (ce)))));refine wpQuiet_nil ?_;intro x)|(go_at_call 134;refine gm (ce) ?_;intro x))
   go_roundw
   case rel=>exact⟨k+1,by go_num,by omega,Later.of⟩
   case measure=>simp[intOf];omega
  ·go_wp2_with fail
   go_ret
   exact Gives.mk rfl
theorem d_ltoUnpacker{B:Nat}{vs:List Value}{x:TUnpacker}{w:World}(h:Enc.Rd B w vs x)(ht:Enc.tot x≤1048576) :
  Calls Tryz.prog 98 #[.agg vs.toArray] w (GivesD w x):=by
 obtain⟨rfl,hok⟩:=h
 clear ht
 have HOK:=lH hok;clear hok
 go_enter Tryz.func98,Tryz.ntmps98
 go_wp2_with fail
 refine bodyPost_ret (v:=.agg #[.int .i64 x.Channel,.int .i64 x.Next,.bool x.Synced,.string x.Rest,.int .i64 x.Lost]) ?_ rfl ⟨[.int .i64 x.Channel,.int .i64 x.Next,.bool x.Synced,.string x.Rest,.int .i64 x.Lost],rfl,⟨rfl,HOK.out⟩,Later.of⟩
 simp[results,Tryz.results98,go_sem]
theorem d_lszUnpacker{B:Nat}{vs:List Value}{x:TUnpacker}{left:Int}{w:World}(h:Enc.Rd B w vs x)(hl:0≤left)(hl2:left≤1048576) :
  Calls Tryz.prog 69 #[.agg vs.toArray,.int .i64 left] w (Gives w (.int .i64 (szD left (Enc.tot x)))):=by
 obtain⟨rfl,hok⟩:=h
 have n0:(0:Int)≤x.Rest.size:=by omega
 have z0:x.Rest.size≤9223372036854775807:=hok.2.2.1
 have HOK:=lH hok;clear hok
 have htot:Enc.tot x=(x.Rest.size:Int):=rfl
 have HTOT:=lH htot;clear htot
 go_enter Tryz.func69,Tryz.ntmps69
 by_cases h0:left - (x.Rest.size:Int)<0
 ·have HV:=lH (show szD left (Enc.tot x)=-1 from szD_neg (by rw[HTOT.out];omega))
  go_wp2_with fail
  go_ret
  exact Gives.mk (by rw[HV.out];rfl)
 have HV:=lH (show szD left (Enc.tot x)=left - (x.Rest.size:Int)by rw[szD_pos (by rw[HTOT.out];omega),HTOT.out]<;>omega)
 go_wp2_with fail
 go_ret
 exact Gives.mk (by rw[HV.out];rfl)
theorem d_leqUnpacker{B B2:Nat}{vs vs2:List Value}{x:TUnpacker}{w:World}(h:Enc.Rd B w vs x)(h2:Enc.Rd B2 w vs2 x) :
  Calls Tryz.prog 137 #[.agg vs.toArray,.agg vs2.toArray] w (Gives w (.bool true)):=by
 obtain⟨rfl,hok⟩:=h
 obtain⟨rfl,-⟩:=h2
 have HOK:=lH hok;clear hok
 go_enter Tryz.func137,Tryz.ntmps137
 go_wp2_with fail
 go_ret
 exact Gives.mk rfl
