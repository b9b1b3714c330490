/- The contracts of the mirrors, sizes and equalities of flat structs (1). No condition but on sizes. -/
import Derived.Test.YtbaffippdifbpaaGreatMDTy
namespace Go.Proofs.YtbaffippdifbpaaGreat
set_option linter.unusedVariables false
open Go.ChangeShapes Go.WideShapes Go.ChangeAt Go.RowKit
theorem d_ltoChannel{B:Nat}{vs:List Value}{x:TChannel}{w:World}(h:Enc.Rd B w vs x)(ht:Enc.tot x≤1048576) :
  Calls Tryz.prog 21 #[.agg vs.toArray] w (GivesD w x):=by
 obtain⟨rfl,hok⟩:=h
 clear ht
 have HOK:=lH hok;clear hok
 go_enter Tryz.func21,Tryz.ntmps21
 go_wp2_with fail
 refine bodyPost_ret (v:=.agg #[.int .i64 x.Seed,.int .i64 x.Burst,.int .i64 x.Loss]) ?_ rfl ⟨[.int .i64 x.Seed,.int .i64 x.Burst,.int .i64 x.Loss],rfl,⟨rfl,HOK.out⟩,Later.of⟩
 simp[results,Tryz.results21,go_sem]
theorem d_leqChannel{B B2:Nat}{vs vs2:List Value}{x:TChannel}{w:World}(h:Enc.Rd B w vs x)(h2:Enc.Rd B2 w vs2 x) :
  Calls Tryz.prog 73 #[.agg vs.toArray,.agg vs2.toArray] w (Gives w (.bool true)):=by
 obtain⟨rfl,hok⟩:=h
 obtain⟨rfl,-⟩:=h2
 have HOK:=lH hok;clear hok
 go_enter Tryz.func73,Tryz.ntmps73
 go_wp2_with fail
 go_ret
 exact Gives.mk rfl
theorem d_leqSent{B B2:Nat}{vs vs2:List Value}{x:TSent}{w:World}(h:Enc.Rd B w vs x)(h2:Enc.Rd B2 w vs2 x) :
  Calls Tryz.prog 304 #[.agg vs.toArray,.agg vs2.toArray] w (Gives w (.bool true)):=by
 obtain⟨rfl,hok⟩:=h
 obtain⟨rfl,-⟩:=h2
 have HOK:=lH hok;clear hok
 go_enter Tryz.func304,Tryz.ntmps304
 go_wp2_with fail
 go_ret
 exact Gives.mk rfl
theorem d_leqSentS{B B2:Nat}{a a2:Option Addr}{c c2:Nat}{l:List TSent}{w:World}(hs:RdS B w a c l)(hs2:RdS B2 w a2 c2 l) :
  Calls Tryz.prog 253 #[.slice a l.length c,.slice a2 l.length c2] w (Gives w (.bool true)):=by
 have hmx:=hs.max
 obtain⟨n,hn⟩:∃ n,l.length=n:=⟨_,rfl⟩
 rw[hn]at hmx
 rw[hn]
 have HN:=lH hn;clear hn
 have kn:((n:Int) != (n:Int))=false:=by simp
 go_enter Tryz.func253,Tryz.ntmps253
 go_wp2_with fail
 go_loopw [5] (fun v wr=>∃ k:Nat,v=.int .i64 k∧k≤n∧∃ x:Later w,wr=x.w) (fun v _=>(n - intOf v).toNat)
 case atStart=>exact⟨0,rfl,by omega,Later.of⟩
 case round =>
  obtain⟨k,rfl,hk,x,rfl⟩:=hrel
  by_cases h:k<n
  ·have hlk:k<l.length:=by have:=HN.out;omega
   obtain⟨eb,eoff,ex,rfl,ehb,ehd,eok,eh0,eh1⟩:=hs.atTSent (show k<l.length by omega)
   obtain⟨fb,foff,fx,rfl,fhb,fhd,fok,fh0,fh1⟩:=hs2.atTSent (show k<l.length by omega)
   obtain rfl:ex=fx:=by have:=ehd.out.symm.trans fhd.out;simpa using this
   clear ehd fhd hlk hs hs2
   have ce:∀ {W:World} [Grows w W],Calls Tryz.prog 304 #[.agg #[.int .i64 ex.Seq,.string ex.Data],.agg #[.int .i64 ex.Seq,.string ex.Data]] W (Gives W (.bool true)):=fun {W} _=>d_leqSent (B:=0) (B2:=0) (x:=ex) ⟨rfl,eok⟩ ⟨rfl,fok⟩
   clear eok fok
   go_wp2_with (first|((with_reducible refine wp_region_later (by kernel_rfl) (by kernel_rfl) ?_);(repeat(first|go_big_quiet_step (first|(go_at_call 304;exact Gives.quiet (ce)))));refine wpQuiet_nil ?_;rintro _ ⟨x,rfl⟩)|(go_at_call 304;refine(ce).mono ?_;rintro _ _ ⟨rfl,x,rfl⟩))
   go_roundw
   case rel=>exact⟨k+1,by go_num,by omega,Later.of⟩
   case measure=>simp[intOf];omega
  ·go_wp2_with fail
   go_ret
   exact Gives.mk rfl
theorem d_leqReceiver{B B2:Nat}{vs vs2:List Value}{x:TReceiver}{w:World}(h:Enc.Rd B w vs x)(h2:Enc.Rd B2 w vs2 x) :
  Calls Tryz.prog 167 #[.agg vs.toArray,.agg vs2.toArray] w (Gives w (.bool true)):=by
 obtain⟨rfl,hok⟩:=h
 obtain⟨rfl,-⟩:=h2
 have HOK:=lH hok;clear hok
 go_enter Tryz.func167,Tryz.ntmps167
 go_wp2_with fail
 go_ret
 exact Gives.mk rfl
theorem d_leqNotice{B B2:Nat}{vs vs2:List Value}{x:TNotice}{w:World}(h:Enc.Rd B w vs x)(h2:Enc.Rd B2 w vs2 x) :
  Calls Tryz.prog 161 #[.agg vs.toArray,.agg vs2.toArray] w (Gives w (.bool true)):=by
 obtain⟨rfl,hok⟩:=h
 obtain⟨rfl,-⟩:=h2
 have HOK:=lH hok;clear hok
 go_enter Tryz.func161,Tryz.ntmps161
 go_wp2_with fail
 go_ret
 exact Gives.mk rfl
theorem d_leqOrder{B B2:Nat}{vs vs2:List Value}{x:TOrder}{w:World}(h:Enc.Rd B w vs x)(h2:Enc.Rd B2 w vs2 x) :
  Calls Tryz.prog 313 #[.agg vs.toArray,.agg vs2.toArray] w (Gives w (.bool true)):=by
 obtain⟨rfl,hok⟩:=h
 obtain⟨rfl,-⟩:=h2
 have HOK:=lH hok;clear hok
 go_enter Tryz.func313,Tryz.ntmps313
 go_wp2_with fail
 go_ret
 exact Gives.mk rfl
theorem d_leqRecord{B B2:Nat}{vs vs2:List Value}{x:TRecord}{w:World}(h:Enc.Rd B w vs x)(h2:Enc.Rd B2 w vs2 x) :
  Calls Tryz.prog 255 #[.agg vs.toArray,.agg vs2.toArray] w (Gives w (.bool true)):=by
 obtain⟨rfl,hok⟩:=h
 obtain⟨rfl,-⟩:=h2
 have HOK:=lH hok;clear hok
 go_enter Tryz.func255,Tryz.ntmps255
 go_wp2_with fail
 go_ret
 exact Gives.mk rfl
theorem d_leqRecordS{B B2:Nat}{a a2:Option Addr}{c c2:Nat}{l:List TRecord}{w:World}(hs:RdS B w a c l)(hs2:RdS B2 w a2 c2 l) :
  Calls Tryz.prog 164 #[.slice a l.length c,.slice a2 l.length c2] w (Gives w (.bool true)):=by
 have hmx:=hs.max
 obtain⟨n,hn⟩:∃ n,l.length=n:=⟨_,rfl⟩
 rw[hn]at hmx
 rw[hn]
 have HN:=lH hn;clear hn
 have kn:((n:Int) != (n:Int))=false:=by simp
 go_enter Tryz.func164,Tryz.ntmps164
 go_wp2_with fail
 go_loopw [5] (fun v wr=>∃ k:Nat,v=.int .i64 k∧k≤n∧∃ x:Later w,wr=x.w) (fun v _=>(n - intOf v).toNat)
 case atStart=>exact⟨0,rfl,by omega,Later.of⟩
 case round =>
  obtain⟨k,rfl,hk,x,rfl⟩:=hrel
  by_cases h:k<n
  ·have hlk:k<l.length:=by have:=HN.out;omega
   obtain⟨eb,eoff,ex,rfl,ehb,ehd,eok,eh0,eh1,eh2,eh3⟩:=hs.atTRecord (show k<l.length by omega)
   obtain⟨fb,foff,fx,rfl,fhb,fhd,fok,fh0,fh1,fh2,fh3⟩:=hs2.atTRecord (show k<l.length by omega)
   obtain rfl:ex=fx:=by have:=ehd.out.symm.trans fhd.out;simpa using this
   clear ehd fhd hlk hs hs2
   have ce:∀ {W:World} [Grows w W],Calls Tryz.prog 255 #[.agg #[.int .i64 ex.Id,.int .i64 ex.Priority,.int .i64 ex.Time,.string ex.Data],.agg #[.int .i64 ex.Id,.int .i64 ex.Priority,.int .i64 ex.Time,.string ex.Data]] W (Gives W (.bool true)):=fun {W} _=>d_leqRecord (B:=0) (B2:=0) (x:=ex) ⟨rfl,eok⟩ ⟨rfl,fok⟩
   clear eok fok
   go_wp2_with (first|((with_reducible refine wp_region_later (by kernel_rfl) (by kernel_rfl) ?_);(repeat(first|go_big_quiet_step (first|(go_at_call 255;exact Gives.quiet (ce)))));refine wpQuiet_nil ?_;rintro _ ⟨x,rfl⟩)|(go_at_call 255;refine(ce).mono ?_;rintro _ _ ⟨rfl,x,rfl⟩))
   go_roundw
   case rel=>exact⟨k+1,by go_num,by omega,Later.of⟩
   case measure=>simp[intOf];omega
  ·go_wp2_with fail
   go_ret
   exact Gives.mk rfl
theorem d_ltoLimit{B:Nat}{vs:List Value}{x:TLimit}{w:World}(h:Enc.Rd B w vs x)(ht:Enc.tot x≤1048576) :
  Calls Tryz.prog 69 #[.agg vs.toArray] w (GivesD w x):=by
 obtain⟨rfl,hok⟩:=h
 clear ht
 have HOK:=lH hok;clear hok
 go_enter Tryz.func69,Tryz.ntmps69
 go_wp2_with fail
 refine bodyPost_ret (v:=.agg #[.int .i64 x.Param,.int .i64 x.Low,.int .i64 x.High]) ?_ rfl ⟨[.int .i64 x.Param,.int .i64 x.Low,.int .i64 x.High],rfl,⟨rfl,HOK.out⟩,Later.of⟩
 simp[results,Tryz.results69,go_sem]
theorem d_leqLimit{B B2:Nat}{vs vs2:List Value}{x:TLimit}{w:World}(h:Enc.Rd B w vs x)(h2:Enc.Rd B2 w vs2 x) :
  Calls Tryz.prog 78 #[.agg vs.toArray,.agg vs2.toArray] w (Gives w (.bool true)):=by
 obtain⟨rfl,hok⟩:=h
 obtain⟨rfl,-⟩:=h2
 have HOK:=lH hok;clear hok
 go_enter Tryz.func78,Tryz.ntmps78
 go_wp2_with fail
 go_ret
 exact Gives.mk rfl
theorem d_lszLimitS{B:Nat}{a:Option Addr}{c:Nat}{l:List TLimit}{left:Int}{w:World}(hs:RdS B w a c l)(hl:0≤left)(hl2:left≤1048576) :
  Calls Tryz.prog 15 #[.slice a l.length c,.int .i64 left] w (Gives w (.int .i64 (szD left (totL l)))):=by
 have hmx:=hs.max
 have hln:=totL_len l
 obtain⟨n,hn⟩:∃ n,l.length=n:=⟨_,rfl⟩
 rw[hn]at hln hmx
 rw[hn]
 have HN:=lH hn;clear hn
 have htl:totL l=n:=by rw[← HN.out];clear hs HN hmx hln;induction l with|nil=>rfl|cons x r ih=>simp only[totL,List.length_cons,ih];show 1+0+_=_;omega
 rw[htl];clear htl hln hs
 by_cases h:left - n<0
 ·rw[szD_neg h]
  go_enter Tryz.func15,Tryz.ntmps15
  go_wp2_with fail
  go_ret
  exact Gives.mk rfl
 ·rw[szD_pos h]
  go_enter Tryz.func15,Tryz.ntmps15
  go_wp2_with fail
  go_ret
  exact Gives.mk rfl
theorem d_leqLimitS{B B2:Nat}{a a2:Option Addr}{c c2:Nat}{l:List TLimit}{w:World}(hs:RdS B w a c l)(hs2:RdS B2 w a2 c2 l) :
  Calls Tryz.prog 26 #[.slice a l.length c,.slice a2 l.length c2] w (Gives w (.bool true)):=by
 have hmx:=hs.max
 obtain⟨n,hn⟩:∃ n,l.length=n:=⟨_,rfl⟩
 rw[hn]at hmx
 rw[hn]
 have HN:=lH hn;clear hn
 have kn:((n:Int) != (n:Int))=false:=by simp
 go_enter Tryz.func26,Tryz.ntmps26
 go_wp2_with fail
 go_loopw [5] (fun v wr=>∃ k:Nat,v=.int .i64 k∧k≤n∧∃ x:Later w,wr=x.w) (fun v _=>(n - intOf v).toNat)
 case atStart=>exact⟨0,rfl,by omega,Later.of⟩
 case round =>
  obtain⟨k,rfl,hk,x,rfl⟩:=hrel
  by_cases h:k<n
  ·have hlk:k<l.length:=by have:=HN.out;omega
   obtain⟨eb,eoff,ex,rfl,ehb,ehd,eok,eh0,eh1,eh2⟩:=hs.atTLimit (show k<l.length by omega)
   obtain⟨fb,foff,fx,rfl,fhb,fhd,fok,fh0,fh1,fh2⟩:=hs2.atTLimit (show k<l.length by omega)
   obtain rfl:ex=fx:=by have:=ehd.out.symm.trans fhd.out;simpa using this
   clear ehd fhd hlk hs hs2
   have ce:∀ {W:World} [Grows w W],Calls Tryz.prog 78 #[.agg #[.int .i64 ex.Param,.int .i64 ex.Low,.int .i64 ex.High],.agg #[.int .i64 ex.Param,.int .i64 ex.Low,.int .i64 ex.High]] W (Gives W (.bool true)):=fun {W} _=>d_leqLimit (B:=0) (B2:=0) (x:=ex) ⟨rfl,eok⟩ ⟨rfl,fok⟩
   clear eok fok
   go_wp2_with (first|((with_reducible refine wp_region_later (by kernel_rfl) (by kernel_rfl) ?_);(repeat(first|go_big_quiet_step (first|(go_at_call 78;exact Gives.quiet (ce)))));refine wpQuiet_nil ?_;rintro _ ⟨x,rfl⟩)|(go_at_call 78;refine(ce).mono ?_;rintro _ _ ⟨rfl,x,rfl⟩))
   go_roundw
   case rel=>exact⟨k+1,by go_num,by omega,Later.of⟩
   case measure=>simp[intOf];omega
  ·go_wp2_with fail
   go_ret
   exact Gives.mk rfl
theorem d_leqDone{B B2:Nat}{vs vs2:List Value}{x:TDone}{w:World}(h:Enc.Rd B w vs x)(h2:Enc.Rd B2 w vs2 x) :
  Calls Tryz.prog 306 #[.agg vs.toArray,.agg vs2.toArray] w (Gives w (.bool true)):=by
 obtain⟨rfl,hok⟩:=h
 obtain⟨rfl,-⟩:=h2
 have HOK:=lH hok;clear hok
 go_enter Tryz.func306,Tryz.ntmps306
 go_wp2_with fail
 go_ret
 exact Gives.mk rfl
theorem d_leqDoneS{B B2:Nat}{a a2:Option Addr}{c c2:Nat}{l:List TDone}{w:World}(hs:RdS B w a c l)(hs2:RdS B2 w a2 c2 l) :
  Calls Tryz.prog 259 #[.slice a l.length c,.slice a2 l.length c2] w (Gives w (.bool true)):=by
 have hmx:=hs.max
 obtain⟨n,hn⟩:∃ n,l.length=n:=⟨_,rfl⟩
 rw[hn]at hmx
 rw[hn]
 have HN:=lH hn;clear hn
 have kn:((n:Int) != (n:Int))=false:=by simp
 go_enter Tryz.func259,Tryz.ntmps259
 go_wp2_with fail
 go_loopw [5] (fun v wr=>∃ k:Nat,v=.int .i64 k∧k≤n∧∃ x:Later w,wr=x.w) (fun v _=>(n - intOf v).toNat)
 case atStart=>exact⟨0,rfl,by omega,Later.of⟩
 case round =>
  obtain⟨k,rfl,hk,x,rfl⟩:=hrel
  by_cases h:k<n
  ·have hlk:k<l.length:=by have:=HN.out;omega
   obtain⟨eb,eoff,ex,rfl,ehb,ehd,eok,eh0,eh1,eh2⟩:=hs.atTDone (show k<l.length by omega)
   obtain⟨fb,foff,fx,rfl,fhb,fhd,fok,fh0,fh1,fh2⟩:=hs2.atTDone (show k<l.length by omega)
   obtain rfl:ex=fx:=by have:=ehd.out.symm.trans fhd.out;simpa using this
   clear ehd fhd hlk hs hs2
   have ce:∀ {W:World} [Grows w W],Calls Tryz.prog 306 #[.agg #[.int .i64 ex.Number,.int .i64 ex.Time,.int .i64 ex.Result],.agg #[.int .i64 ex.Number,.int .i64 ex.Time,.int .i64 ex.Result]] W (Gives W (.bool true)):=fun {W} _=>d_leqDone (B:=0) (B2:=0) (x:=ex) ⟨rfl,eok⟩ ⟨rfl,fok⟩
   clear eok fok
   go_wp2_with (first|((with_reducible refine wp_region_later (by kernel_rfl) (by kernel_rfl) ?_);(repeat(first|go_big_quiet_step (first|(go_at_call 306;exact Gives.quiet (ce)))));refine wpQuiet_nil ?_;rintro _ ⟨x,rfl⟩)|(go_at_call 306;refine(ce).mono ?_;rintro _ _ ⟨rfl,x,rfl⟩))
   go_roundw
   case rel=>exact⟨k+1,by go_num,by omega,Later.of⟩
   case measure=>simp[intOf];omega
  ·go_wp2_with fail
   go_ret
   exact Gives.mk rfl
end Go.Proofs.YtbaffippdifbpaaGreat
