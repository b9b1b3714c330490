/- The contracts of the mirrors, sizes and equalities of flat structs (2). No condition but on sizes. What came in, read. No condition but on sizes. The contracts of the mirrors, sizes and equalities of slices of plain values. No condition but on sizes. The contracts of the mirrors, sizes and equalities of files. No condition but on sizes. The contracts on receivers of files: their mirrors, their equality, their marks. No condition but on lengths. The contracts of FileText and MissingOf. No condition but on lengths. The contract of MissingOf, the reference's. No condition but on lengths. -/
import Derived.Test.YtbaffippdifbpaaGreatMDTy
import Derived.Test.YtbaffippdifbpaaGreatMMarkT
import Derived.Test.YtbaffippdifbpaaGreatMM8
import Derived.Shelf.Abstract
namespace Go.Proofs.YtbaffippdifbpaaGreat
set_option linter.unusedVariables false
open Go.ChangeShapes Go.WideShapes Go.ChangeAt Go.RowKit
theorem d_ltoDrift{B:Nat}{vs:List Value}{x:TDrift}{w:World}(h:Enc.Rd B w vs x)(ht:Enc.tot x≤1048576) :
  Calls Tryz.prog 18 #[.agg vs.toArray] w (GivesD w x):=by
 obtain⟨rfl,hok⟩:=h
 clear ht
 have HOK:=lH hok;clear hok
 go_enter Tryz.func18,Tryz.ntmps18
 go_wp2_with fail
 refine bodyPost_ret (v:=.agg #[.int .i64 x.Rate,.int .i64 x.Offset]) ?_ rfl ⟨[.int .i64 x.Rate,.int .i64 x.Offset],rfl,⟨rfl,HOK.out⟩,Later.of⟩
 simp[results,Tryz.results18,go_sem]
theorem d_leqDrift{B B2:Nat}{vs vs2:List Value}{x:TDrift}{w:World}(h:Enc.Rd B w vs x)(h2:Enc.Rd B2 w vs2 x) :
  Calls Tryz.prog 70 #[.agg vs.toArray,.agg vs2.toArray] w (Gives w (.bool true)):=by
 obtain⟨rfl,hok⟩:=h
 obtain⟨rfl,-⟩:=h2
 have HOK:=lH hok;clear hok
 go_enter Tryz.func70,Tryz.ntmps70
 go_wp2_with fail
 go_ret
 exact Gives.mk rfl
theorem d_leqPair{B B2:Nat}{vs vs2:List Value}{x:Pair}{w:World}(h:Enc.Rd B w vs x)(h2:Enc.Rd B2 w vs2 x) :
  Calls Tryz.prog 254 #[.agg vs.toArray,.agg vs2.toArray] w (Gives w (.bool true)):=by
 obtain⟨rfl,hok⟩:=h
 obtain⟨rfl,-⟩:=h2
 have HOK:=lH hok;clear hok
 go_enter Tryz.func254,Tryz.ntmps254
 go_wp2_with fail
 go_ret
 exact Gives.mk rfl
theorem d_leqPairS{B B2:Nat}{a a2:Option Addr}{c c2:Nat}{l:List Pair}{w:World}(hs:RdS B w a c l)(hs2:RdS B2 w a2 c2 l) :
  Calls Tryz.prog 163 #[.slice a l.length c,.slice a2 l.length c2] w (Gives w (.bool true)):=by
 have hmx:=hs.max
 obtain⟨n,hn⟩:∃ n,l.length=n:=⟨_,rfl⟩
 rw[hn]at hmx
 rw[hn]
 have HN:=lH hn;clear hn
 have kn:((n:Int) != (n:Int))=false:=by simp
 go_enter Tryz.func163,Tryz.ntmps163
 go_wp2_with fail
 go_loopw [5] (fun v wr=>∃ k:Nat,v=.int .i64 k∧k≤n∧∃ x:Later w,wr=x.w) (fun v _=>(n - intOf v).toNat)
 case atStart=>exact⟨0,rfl,by omega,Later.of⟩
 case round =>
  obtain⟨k,rfl,hk,x,rfl⟩:=hrel
  by_cases h:k<n
  ·have hlk:k<l.length:=by have:=HN.out;omega
   obtain⟨eb,eoff,ex,rfl,ehb,ehd,eok,eh0,eh1⟩:=hs.atPair (show k<l.length by omega)
   obtain⟨fb,foff,fx,rfl,fhb,fhd,fok,fh0,fh1⟩:=hs2.atPair (show k<l.length by omega)
   obtain rfl:ex=fx:=by have:=ehd.out.symm.trans fhd.out;simpa using this
   clear ehd fhd hlk hs hs2
   have ce:∀ {W:World} [Grows w W],Calls Tryz.prog 254 #[.agg #[.int .i64 ex.Board,.int .i64 ex.True],.agg #[.int .i64 ex.Board,.int .i64 ex.True]] W (Gives W (.bool true)):=fun {W} _=>d_leqPair (B:=0) (B2:=0) (x:=ex) ⟨rfl,eok⟩ ⟨rfl,fok⟩
   clear eok fok
   go_wp2_with (first|((with_reducible refine wp_region_later (by kernel_rfl) (by kernel_rfl) ?_);(repeat(first|go_big_quiet_step (first|(go_at_call 254;exact Gives.quiet (ce)))));refine wpQuiet_nil ?_;rintro _ ⟨x,rfl⟩)|(go_at_call 254;refine(ce).mono ?_;rintro _ _ ⟨rfl,x,rfl⟩))
   go_roundw
   case rel=>exact⟨k+1,by go_num,by omega,Later.of⟩
   case measure=>simp[intOf];omega
  ·go_wp2_with fail
   go_ret
   exact Gives.mk rfl
theorem d_ltoOrbit{B:Nat}{vs:List Value}{x:TOrbit}{w:World}(h:Enc.Rd B w vs x)(ht:Enc.tot x≤1048576) :
  Calls Tryz.prog 19 #[.agg vs.toArray] w (GivesD w x):=by
 obtain⟨rfl,hok⟩:=h
 clear ht
 have HOK:=lH hok;clear hok
 go_enter Tryz.func19,Tryz.ntmps19
 go_wp2_with fail
 refine bodyPost_ret (v:=.agg #[.int .i64 x.Period,.int .i64 x.Start,.int .i64 x.Length]) ?_ rfl ⟨[.int .i64 x.Period,.int .i64 x.Start,.int .i64 x.Length],rfl,⟨rfl,HOK.out⟩,Later.of⟩
 simp[results,Tryz.results19,go_sem]
theorem d_leqOrbit{B B2:Nat}{vs vs2:List Value}{x:TOrbit}{w:World}(h:Enc.Rd B w vs x)(h2:Enc.Rd B2 w vs2 x) :
  Calls Tryz.prog 71 #[.agg vs.toArray,.agg vs2.toArray] w (Gives w (.bool true)):=by
 obtain⟨rfl,hok⟩:=h
 obtain⟨rfl,-⟩:=h2
 have HOK:=lH hok;clear hok
 go_enter Tryz.func71,Tryz.ntmps71
 go_wp2_with fail
 go_ret
 exact Gives.mk rfl
theorem d_leqSlot{B B2:Nat}{vs vs2:List Value}{x:Slot}{w:World}(h:Enc.Rd B w vs x)(h2:Enc.Rd B2 w vs2 x) :
  Calls Tryz.prog 158 #[.agg vs.toArray,.agg vs2.toArray] w (Gives w (.bool true)):=by
 obtain⟨rfl,hok⟩:=h
 obtain⟨rfl,-⟩:=h2
 have HOK:=lH hok;clear hok
 go_enter Tryz.func158,Tryz.ntmps158
 go_wp2_with fail
 go_ret
 exact Gives.mk rfl
theorem d_leqSlotS{B B2:Nat}{a a2:Option Addr}{c c2:Nat}{l:List Slot}{w:World}(hs:RdS B w a c l)(hs2:RdS B2 w a2 c2 l) :
  Calls Tryz.prog 72 #[.slice a l.length c,.slice a2 l.length c2] w (Gives w (.bool true)):=by
 have hmx:=hs.max
 obtain⟨n,hn⟩:∃ n,l.length=n:=⟨_,rfl⟩
 rw[hn]at hmx
 rw[hn]
 have HN:=lH hn;clear hn
 have kn:((n:Int) != (n:Int))=false:=by simp
 go_enter Tryz.func72,Tryz.ntmps72
 go_wp2_with fail
 go_loopw [5] (fun v wr=>∃ k:Nat,v=.int .i64 k∧k≤n∧∃ x:Later w,wr=x.w) (fun v _=>(n - intOf v).toNat)
 case atStart=>exact⟨0,rfl,by omega,Later.of⟩
 case round =>
  obtain⟨k,rfl,hk,x,rfl⟩:=hrel
  by_cases h:k<n
  ·have hlk:k<l.length:=by have:=HN.out;omega
   obtain⟨eb,eoff,ex,rfl,ehb,ehd,eok,eh0,eh1⟩:=hs.atSlot (show k<l.length by omega)
   obtain⟨fb,foff,fx,rfl,fhb,fhd,fok,fh0,fh1⟩:=hs2.atSlot (show k<l.length by omega)
   obtain rfl:ex=fx:=by have:=ehd.out.symm.trans fhd.out;simpa using this
   clear ehd fhd hlk hs hs2
   have ce:∀ {W:World} [Grows w W],Calls Tryz.prog 158 #[.agg #[.int .i64 ex.Time,.int .i64 ex.Id],.agg #[.int .i64 ex.Time,.int .i64 ex.Id]] W (Gives W (.bool true)):=fun {W} _=>d_leqSlot (B:=0) (B2:=0) (x:=ex) ⟨rfl,eok⟩ ⟨rfl,fok⟩
   clear eok fok
   go_wp2_with (first|((with_reducible refine wp_region_later (by kernel_rfl) (by kernel_rfl) ?_);(repeat(first|go_big_quiet_step (first|(go_at_call 158;exact Gives.quiet (ce)))));refine wpQuiet_nil ?_;rintro _ ⟨x,rfl⟩)|(go_at_call 158;refine(ce).mono ?_;rintro _ _ ⟨rfl,x,rfl⟩))
   go_roundw
   case rel=>exact⟨k+1,by go_num,by omega,Later.of⟩
   case measure=>simp[intOf];omega
  ·go_wp2_with fail
   go_ret
   exact Gives.mk rfl
theorem d_leqFlight{B B2:Nat}{vs vs2:List Value}{x:TFlight}{w:World}(h:Enc.Rd B w vs x)(h2:Enc.Rd B2 w vs2 x) :
  Calls Tryz.prog 159 #[.agg vs.toArray,.agg vs2.toArray] w (Gives w (.bool true)):=by
 obtain⟨rfl,hok⟩:=h
 obtain⟨rfl,-⟩:=h2
 have HOK:=lH hok;clear hok
 go_enter Tryz.func159,Tryz.ntmps159
 go_wp2_with fail
 go_ret
 exact Gives.mk rfl
theorem d_leqFlightS{B B2:Nat}{a a2:Option Addr}{c c2:Nat}{l:List TFlight}{w:World}(hs:RdS B w a c l)(hs2:RdS B2 w a2 c2 l) :
  Calls Tryz.prog 74 #[.slice a l.length c,.slice a2 l.length c2] w (Gives w (.bool true)):=by
 have hmx:=hs.max
 obtain⟨n,hn⟩:∃ n,l.length=n:=⟨_,rfl⟩
 rw[hn]at hmx
 rw[hn]
 have HN:=lH hn;clear hn
 have kn:((n:Int) != (n:Int))=false:=by simp
 go_enter Tryz.func74,Tryz.ntmps74
 go_wp2_with fail
 go_loopw [5] (fun v wr=>∃ k:Nat,v=.int .i64 k∧k≤n∧∃ x:Later w,wr=x.w) (fun v _=>(n - intOf v).toNat)
 case atStart=>exact⟨0,rfl,by omega,Later.of⟩
 case round =>
  obtain⟨k,rfl,hk,x,rfl⟩:=hrel
  by_cases h:k<n
  ·have hlk:k<l.length:=by have:=HN.out;omega
   obtain⟨eb,eoff,ex,rfl,ehb,ehd,eok,eh0,eh1⟩:=hs.atTFlight (show k<l.length by omega)
   obtain⟨fb,foff,fx,rfl,fhb,fhd,fok,fh0,fh1⟩:=hs2.atTFlight (show k<l.length by omega)
   obtain rfl:ex=fx:=by have:=ehd.out.symm.trans fhd.out;simpa using this
   clear ehd fhd hlk hs hs2
   have ce:∀ {W:World} [Grows w W],Calls Tryz.prog 159 #[.agg #[.int .i64 ex.At,.string ex.Data],.agg #[.int .i64 ex.At,.string ex.Data]] W (Gives W (.bool true)):=fun {W} _=>d_leqFlight (B:=0) (B2:=0) (x:=ex) ⟨rfl,eok⟩ ⟨rfl,fok⟩
   clear eok fok
   go_wp2_with (first|((with_reducible refine wp_region_later (by kernel_rfl) (by kernel_rfl) ?_);(repeat(first|go_big_quiet_step (first|(go_at_call 159;exact Gives.quiet (ce)))));refine wpQuiet_nil ?_;rintro _ ⟨x,rfl⟩)|(go_at_call 159;refine(ce).mono ?_;rintro _ _ ⟨rfl,x,rfl⟩))
   go_roundw
   case rel=>exact⟨k+1,by go_num,by omega,Later.of⟩
   case measure=>simp[intOf];omega
  ·go_wp2_with fail
   go_ret
   exact Gives.mk rfl
theorem d_leqUnpacker{B B2:Nat}{vs vs2:List Value}{x:TUnpacker}{w:World}(h:Enc.Rd B w vs x)(h2:Enc.Rd B2 w vs2 x) :
  Calls Tryz.prog 162 #[.agg vs.toArray,.agg vs2.toArray] w (Gives w (.bool true)):=by
 obtain⟨rfl,hok⟩:=h
 obtain⟨rfl,-⟩:=h2
 have HOK:=lH hok;clear hok
 go_enter Tryz.func162,Tryz.ntmps162
 go_wp2_with fail
 go_ret
 exact Gives.mk rfl
end Go.Proofs.YtbaffippdifbpaaGreat
namespace Go.Proofs.YtbaffippdifbpaaGreat
set_option linter.unusedVariables false
open Go.ChangeShapes Go.WideShapes Go.ChangeAt Go.RowKit
theorem ofTChannel{w:World}(vs:List Value)(hl:vs.length=3)(h:RdL w [.int,.int,.int] vs):∃ x:TChannel,Enc.Rd 0 w vs x:=by
 obtain⟨u0,g0,r0⟩:=h.at (j:=0) rfl
 obtain⟨x0,rfl,p0⟩:=r0.int_inv
 obtain⟨u1,g1,r1⟩:=h.at (j:=1) rfl
 obtain⟨x1,rfl,p1⟩:=r1.int_inv
 obtain⟨u2,g2,r2⟩:=h.at (j:=2) rfl
 obtain⟨x2,rfl,p2⟩:=r2.int_inv
 refine⟨⟨x0,x1,x2⟩,⟨list_all hl ?_,⟨p0,p1,p2,trivial⟩⟩⟩
 intro j y hy
 match j,hy with
 | 0,hy=>cases hy;exact g0
 | 1,hy=>cases hy;exact g1
 | 2,hy=>cases hy;exact g2
theorem ofTLimit{w:World}(vs:List Value)(hl:vs.length=3)(h:RdL w [.int,.int,.int] vs):∃ x:TLimit,Enc.Rd 0 w vs x:=by
 obtain⟨u0,g0,r0⟩:=h.at (j:=0) rfl
 obtain⟨x0,rfl,p0⟩:=r0.int_inv
 obtain⟨u1,g1,r1⟩:=h.at (j:=1) rfl
 obtain⟨x1,rfl,p1⟩:=r1.int_inv
 obtain⟨u2,g2,r2⟩:=h.at (j:=2) rfl
 obtain⟨x2,rfl,p2⟩:=r2.int_inv
 refine⟨⟨x0,x1,x2⟩,⟨list_all hl ?_,⟨p0,p1,p2,trivial⟩⟩⟩
 intro j y hy
 match j,hy with
 | 0,hy=>cases hy;exact g0
 | 1,hy=>cases hy;exact g1
 | 2,hy=>cases hy;exact g2
theorem ofTDrift{w:World}(vs:List Value)(hl:vs.length=2)(h:RdL w [.int,.int] vs):∃ x:TDrift,Enc.Rd 0 w vs x:=by
 obtain⟨u0,g0,r0⟩:=h.at (j:=0) rfl
 obtain⟨x0,rfl,p0⟩:=r0.int_inv
 obtain⟨u1,g1,r1⟩:=h.at (j:=1) rfl
 obtain⟨x1,rfl,p1⟩:=r1.int_inv
 refine⟨⟨x0,x1⟩,⟨list_all hl ?_,⟨p0,p1,trivial⟩⟩⟩
 intro j y hy
 match j,hy with
 | 0,hy=>cases hy;exact g0
 | 1,hy=>cases hy;exact g1
theorem ofTOrbit{w:World}(vs:List Value)(hl:vs.length=3)(h:RdL w [.int,.int,.int] vs):∃ x:TOrbit,Enc.Rd 0 w vs x:=by
 obtain⟨u0,g0,r0⟩:=h.at (j:=0) rfl
 obtain⟨x0,rfl,p0⟩:=r0.int_inv
 obtain⟨u1,g1,r1⟩:=h.at (j:=1) rfl
 obtain⟨x1,rfl,p1⟩:=r1.int_inv
 obtain⟨u2,g2,r2⟩:=h.at (j:=2) rfl
 obtain⟨x2,rfl,p2⟩:=r2.int_inv
 refine⟨⟨x0,x1,x2⟩,⟨list_all hl ?_,⟨p0,p1,p2,trivial⟩⟩⟩
 intro j y hy
 match j,hy with
 | 0,hy=>cases hy;exact g0
 | 1,hy=>cases hy;exact g1
 | 2,hy=>cases hy;exact g2
end Go.Proofs.YtbaffippdifbpaaGreat
namespace Go.Proofs.YtbaffippdifbpaaGreat
set_option linter.unusedVariables false
open Go.ChangeShapes Go.WideShapes Go.ChangeAt Go.RowKit
theorem d_leqIntS{B B2:Nat}{a a2:Option Addr}{c c2:Nat}{l:List Int}{w:World}(hs:RdS B w a c l)(hs2:RdS B2 w a2 c2 l) :
  Calls Tryz.prog 257 #[.slice a l.length c,.slice a2 l.length c2] w (Gives w (.bool true)):=by
 have hmx:=hs.max
 obtain⟨n,hn⟩:∃ n,l.length=n:=⟨_,rfl⟩
 rw[hn]at hmx
 rw[hn]
 have HN:=lH hn;clear hn
 have kn:((n:Int) != (n:Int))=false:=by simp
 go_enter Tryz.func257,Tryz.ntmps257
 go_wp2_with (first|((with_reducible refine wp_region_later (by kernel_rfl) (by kernel_rfl) ?_);(repeat(first|go_big_quiet_step (first|fail)|simp only[kn]));refine wpQuiet_nil ?_;rintro _ ⟨x,rfl⟩))
 go_loopw [5] (fun v wr=>∃ k:Nat,v=.int .i64 k∧k≤n∧∃ x:Later w,wr=x.w) (fun v _=>(n - intOf v).toNat)
 case atStart=>exact⟨0,rfl,by omega,Later.of⟩
 case round =>
  obtain⟨k,rfl,hk,x,rfl⟩:=hrel
  by_cases h:k<n
  ·have hlk:k<l.length:=by have:=HN.out;omega
   obtain⟨eb,eoff,ex,rfl,ehb,ehd,eok,eh0⟩:=hs.atInt (show k<l.length by omega)
   obtain⟨fb,foff,fx,rfl,fhb,fhd,fok,fh0⟩:=hs2.atInt (show k<l.length by omega)
   obtain rfl:ex=fx:=by have:=ehd.out.symm.trans fhd.out;simpa using this
   clear ehd fhd hlk hs hs2
   have k2:(ex != ex)=false:=by simp
   go_wp2_with (first|((with_reducible refine wp_region_later (by kernel_rfl) (by kernel_rfl) ?_);(repeat(first|go_big_quiet_step (first|fail)|simp only[k2]));refine wpQuiet_nil ?_;rintro _ ⟨x,rfl⟩))
   go_roundw
   case rel=>exact⟨k+1,by go_num,by omega,Later.of⟩
   case measure=>simp[intOf];omega
  ·go_wp2_with (first|((with_reducible refine wp_region_later (by kernel_rfl) (by kernel_rfl) ?_);(repeat(first|go_big_quiet_step (first|fail)));refine wpQuiet_nil ?_;rintro _ ⟨x,rfl⟩))
   go_ret
   exact Gives.mk rfl
theorem d_leqBoolS{B B2:Nat}{a a2:Option Addr}{c c2:Nat}{l:List Bool}{w:World}(hs:RdS B w a c l)(hs2:RdS B2 w a2 c2 l) :
  Calls Tryz.prog 166 #[.slice a l.length c,.slice a2 l.length c2] w (Gives w (.bool true)):=by
 have hmx:=hs.max
 obtain⟨n,hn⟩:∃ n,l.length=n:=⟨_,rfl⟩
 rw[hn]at hmx
 rw[hn]
 have HN:=lH hn;clear hn
 have kn:((n:Int) != (n:Int))=false:=by simp
 go_enter Tryz.func166,Tryz.ntmps166
 go_wp2_with (first|((with_reducible refine wp_region_later (by kernel_rfl) (by kernel_rfl) ?_);(repeat(first|go_big_quiet_step (first|fail)|simp only[kn]));refine wpQuiet_nil ?_;rintro _ ⟨x,rfl⟩))
 go_loopw [5] (fun v wr=>∃ k:Nat,v=.int .i64 k∧k≤n∧∃ x:Later w,wr=x.w) (fun v _=>(n - intOf v).toNat)
 case atStart=>exact⟨0,rfl,by omega,Later.of⟩
 case round =>
  obtain⟨k,rfl,hk,x,rfl⟩:=hrel
  by_cases h:k<n
  ·have hlk:k<l.length:=by have:=HN.out;omega
   obtain⟨eb,eoff,ex,rfl,ehb,ehd,eh0⟩:=hs.atBool (show k<l.length by omega)
   obtain⟨fb,foff,fx,rfl,fhb,fhd,fh0⟩:=hs2.atBool (show k<l.length by omega)
   obtain rfl:ex=fx:=by have:=ehd.out.symm.trans fhd.out;simpa using this
   clear ehd fhd hlk hs hs2
   have k2:(ex != ex)=false:=by simp
   go_wp2_with (first|((with_reducible refine wp_region_later (by kernel_rfl) (by kernel_rfl) ?_);(repeat(first|go_big_quiet_step (first|fail)|simp only[k2]));refine wpQuiet_nil ?_;rintro _ ⟨x,rfl⟩))
   go_roundw
   case rel=>exact⟨k+1,by go_num,by omega,Later.of⟩
   case measure=>simp[intOf];omega
  ·go_wp2_with (first|((with_reducible refine wp_region_later (by kernel_rfl) (by kernel_rfl) ?_);(repeat(first|go_big_quiet_step (first|fail)));refine wpQuiet_nil ?_;rintro _ ⟨x,rfl⟩))
   go_ret
   exact Gives.mk rfl
theorem d_lszStringS{B:Nat}{a:Option Addr}{c:Nat}{l:List ByteArray}{left:Int}{w:World}(hs:RdS B w a c l)(hl:0≤left)(hl2:left≤1048576) :
  Calls Tryz.prog 16 #[.slice a l.length c,.int .i64 left] w (Gives w (.int .i64 (szD left (totL l)))):=by
 have hmx:=hs.max
 have hln:=totL_len l
 obtain⟨n,hn⟩:∃ n,l.length=n:=⟨_,rfl⟩
 rw[hn]at hln hmx
 rw[hn]
 have HN:=lH hn;clear hn
 by_cases h:left - n<0
 ·have HV:=lH (show szD left (totL l)=-1 from szD_neg (by omega))
  go_enter Tryz.func16,Tryz.ntmps16
  go_wp2_with (first|((with_reducible refine wp_region_later (by kernel_rfl) (by kernel_rfl) ?_);(repeat(first|go_big_quiet_step (first|fail)));refine wpQuiet_nil ?_;rintro _ ⟨x,rfl⟩))
  go_ret
  exact Gives.mk (by rw[HV.out];rfl)
 ·go_enter Tryz.func16,Tryz.ntmps16
  go_wp2_with (first|((with_reducible refine wp_region_later (by kernel_rfl) (by kernel_rfl) ?_);(repeat(first|go_big_quiet_step (first|fail)));refine wpQuiet_nil ?_;rintro _ ⟨x,rfl⟩))
  go_loopw [1,5] (fun u v wr=>∃ (k:Nat) (r:Int),v=.int .i64 k∧u=.int .i64 r∧k≤n∧0≤r∧r≤1048576∧Hid (r - totL (l.drop k)+(n - k)=left - totL l)∧∃ x:Later w,wr=x.w) (fun _ v _=>(n - intOf v).toNat)
  case atStart=>exact⟨0,left - n,rfl,by go_num,by omega,by omega,by omega,by unfold Hid;rw[List.drop_zero];omega,Later.of⟩
  case round =>
   obtain⟨k,r,rfl,rfl,hk,hr,hr2,hf,x,rfl⟩:=hrel
   by_cases h2:k<n
   ·have hlk:k<l.length:=by have:=HN.out;omega
    obtain⟨eb,eoff,ex,rfl,ehb,ehd,eok,eh0⟩:=hs.atStr (show k<l.length by omega)
    have hd2:=totL_len (l.drop (k+1))
    have HD2:=lH (show((n:Int) - k - 1≤totL (l.drop (k+1)))by rw[List.length_drop,HN.out]at hd2;omega);clear hd2 hlk
    have ht0:=Enc.tot_nonneg ex
    obtain⟨t,htt⟩:∃ t,Enc.tot ex=t:=⟨_,rfl⟩
    have hf2:Hid (r - (1+t+totL (l.drop (k+1)))+(n - k)=left - totL l):=by
     have:=hf.out;rw[ehd.out]at this;rw[← htt];exact this
    rw[htt]at ht0
    have HTT:=lH htt;clear htt hf
    have hts:(ex.size:Int)=t:=HTT.out
    have HTS:=lH hts;clear hts
    by_cases h3:r - ex.size<0
    ·have HV:=lH (show szD left (totL l)=-1 from szD_neg (by have h7:=hf2.out;have h8:=HD2.out;have h9:=HTS.out;omega))
     go_wp2_with (first|((with_reducible refine wp_region_later (by kernel_rfl) (by kernel_rfl) ?_);(repeat(first|go_big_quiet_step (first|fail)));refine wpQuiet_nil ?_;rintro _ ⟨x,rfl⟩))
     go_ret
     exact Gives.mk (by rw[HV.out];rfl)
    ·go_wp2_with (first|((with_reducible refine wp_region_later (by kernel_rfl) (by kernel_rfl) ?_);(repeat(first|go_big_quiet_step (first|fail)));refine wpQuiet_nil ?_;rintro _ ⟨x,rfl⟩))
     go_roundw
     case rel=>exact⟨k+1,r - ex.size,by go_num,by go_num,by omega,by omega,by omega,by have h7:=hf2.out;have h9:=HTS.out;unfold Hid;omega,Later.of⟩
     case measure=>simp[intOf];omega
   ·have HV:=lH (show szD left (totL l)=r by
     have h7:=hf.out
     rw[List.drop_of_length_le (by have:=HN.out;omega)]at h7
     simp only[totL]at h7
     rw[szD_pos (by omega)];omega)
    go_wp2_with (first|((with_reducible refine wp_region_later (by kernel_rfl) (by kernel_rfl) ?_);(repeat(first|go_big_quiet_step (first|fail)));refine wpQuiet_nil ?_;rintro _ ⟨x,rfl⟩))
    go_ret
    exact Gives.mk (by rw[HV.out];rfl)
theorem d_leqStringS{B B2:Nat}{a a2:Option Addr}{c c2:Nat}{l:List ByteArray}{w:World}(hs:RdS B w a c l)(hs2:RdS B2 w a2 c2 l) :
  Calls Tryz.prog 27 #[.slice a l.length c,.slice a2 l.length c2] w (Gives w (.bool true)):=by
 have hmx:=hs.max
 obtain⟨n,hn⟩:∃ n,l.length=n:=⟨_,rfl⟩
 rw[hn]at hmx
 rw[hn]
 have HN:=lH hn;clear hn
 have kn:((n:Int) != (n:Int))=false:=by simp
 go_enter Tryz.func27,Tryz.ntmps27
 go_wp2_with (first|((with_reducible refine wp_region_later (by kernel_rfl) (by kernel_rfl) ?_);(repeat(first|go_big_quiet_step (first|fail)|simp only[kn]));refine wpQuiet_nil ?_;rintro _ ⟨x,rfl⟩))
 go_loopw [5] (fun v wr=>∃ k:Nat,v=.int .i64 k∧k≤n∧∃ x:Later w,wr=x.w) (fun v _=>(n - intOf v).toNat)
 case atStart=>exact⟨0,rfl,by omega,Later.of⟩
 case round =>
  obtain⟨k,rfl,hk,x,rfl⟩:=hrel
  by_cases h:k<n
  ·have hlk:k<l.length:=by have:=HN.out;omega
   obtain⟨eb,eoff,ex,rfl,ehb,ehd,eok,eh0⟩:=hs.atStr (show k<l.length by omega)
   obtain⟨fb,foff,fx,rfl,fhb,fhd,fok,fh0⟩:=hs2.atStr (show k<l.length by omega)
   obtain rfl:ex=fx:=by have:=ehd.out.symm.trans fhd.out;simpa using this
   clear ehd fhd hlk hs hs2
   have k2:(ex.toList != ex.toList)=false:=by simp
   go_wp2_with (first|((with_reducible refine wp_region_later (by kernel_rfl) (by kernel_rfl) ?_);(repeat(first|go_big_quiet_step (first|fail)|simp only[k2]));refine wpQuiet_nil ?_;rintro _ ⟨x,rfl⟩))
   go_roundw
   case rel=>exact⟨k+1,by go_num,by omega,Later.of⟩
   case measure=>simp[intOf];omega
  ·go_wp2_with (first|((with_reducible refine wp_region_later (by kernel_rfl) (by kernel_rfl) ?_);(repeat(first|go_big_quiet_step (first|fail)));refine wpQuiet_nil ?_;rintro _ ⟨x,rfl⟩))
   go_ret
   exact Gives.mk rfl
end Go.Proofs.YtbaffippdifbpaaGreat
namespace Go.Proofs.YtbaffippdifbpaaGreat
set_option linter.unusedVariables false
open Go.ChangeShapes Go.WideShapes Go.ChangeAt Go.RowKit
theorem d_leqFileIn{B B2:Nat}{vs vs2:List Value}{x:TFileIn}{w:World}(h:Enc.Rd B w vs x)(h2:Enc.Rd B2 w vs2 x) :
  Calls Tryz.prog 256 #[.agg vs.toArray,.agg vs2.toArray] w (Gives w (.bool true)):=by
 obtain⟨a0,c0,rfl,q0,hok⟩:=h
 obtain⟨ma0,mc0,rfl,mq0,-⟩:=h2
 have HOK:=lH hok;clear hok
 go_enter Tryz.func256,Tryz.ntmps256
 go_wp2_with fail
 refine(d_leqStringS (q0.keep inferInstance) (mq0.keep inferInstance)).mono ?_
 rintro _ _ ⟨rfl,y0,rfl⟩
 go_wp2_with fail
 go_ret
 exact Gives.mk rfl
theorem d_leqFileInS{B B2:Nat}{a a2:Option Addr}{c c2:Nat}{l:List TFileIn}{w:World}(hs:RdS B w a c l)(hs2:RdS B2 w a2 c2 l) :
  Calls Tryz.prog 165 #[.slice a l.length c,.slice a2 l.length c2] w (Gives w (.bool true)):=by
 have hmx:=hs.max
 obtain⟨n,hn⟩:∃ n,l.length=n:=⟨_,rfl⟩
 rw[hn]at hmx
 rw[hn]
 have HN:=lH hn;clear hn
 have kn:((n:Int) != (n:Int))=false:=by simp
 go_enter Tryz.func165,Tryz.ntmps165
 go_wp2_with fail
 go_loopw [5] (fun v wr=>∃ k:Nat,v=.int .i64 k∧k≤n∧∃ x:Later w,wr=x.w) (fun v _=>(n - intOf v).toNat)
 case atStart=>exact⟨0,rfl,by omega,Later.of⟩
 case round =>
  obtain⟨k,rfl,hk,x,rfl⟩:=hrel
  by_cases h:k<n
  ·have hlk:k<l.length:=by have:=HN.out;omega
   obtain⟨eb,eoff,ex,ea0,ec0,rfl,ehb,ehd,eq0,eok,eh0,eh1,eh2,eh3⟩:=hs.atTFileIn (show k<l.length by omega)
   obtain⟨fb,foff,fx,fa0,fc0,rfl,fhb,fhd,fq0,fok,fh0,fh1,fh2,fh3⟩:=hs2.atTFileIn (show k<l.length by omega)
   obtain rfl:ex=fx:=by have:=ehd.out.symm.trans fhd.out;simpa using this
   clear ehd fhd hlk hs hs2
   have ce:∀ {W:World} [Grows w W],Calls Tryz.prog 256 #[.agg #[.int .i64 ex.File,.int .i64 ex.Size,.int .i64 ex.Check,.slice ea0 ex.Parts.length ec0],.agg #[.int .i64 ex.File,.int .i64 ex.Size,.int .i64 ex.Check,.slice fa0 ex.Parts.length fc0]] W (Gives W (.bool true)):=fun {W} _=>d_leqFileIn (x:=ex) ⟨ea0,ec0,rfl,eq0.keep inferInstance,eok⟩ ⟨fa0,fc0,rfl,fq0.keep inferInstance,fok⟩
   clear eok fok eq0 fq0
   go_wp2_with (first|((with_reducible refine wp_region_later (by kernel_rfl) (by kernel_rfl) ?_);(repeat(first|go_big_quiet_step (first|(go_at_call 256;exact Gives.quiet (ce)))));refine wpQuiet_nil ?_;rintro _ ⟨x,rfl⟩)|(go_at_call 256;refine(ce).mono ?_;rintro _ _ ⟨rfl,x,rfl⟩))
   go_roundw
   case rel=>exact⟨k+1,by go_num,by omega,Later.of⟩
   case measure=>simp[intOf];omega
  ·go_wp2_with fail
   go_ret
   exact Gives.mk rfl
theorem d_leqFileOut{B B2:Nat}{vs vs2:List Value}{x:TFileOut}{w:World}(h:Enc.Rd B w vs x)(h2:Enc.Rd B2 w vs2 x) :
  Calls Tryz.prog 261 #[.agg vs.toArray,.agg vs2.toArray] w (Gives w (.bool true)):=by
 obtain⟨a0,c0,rfl,q0,hok⟩:=h
 obtain⟨ma0,mc0,rfl,mq0,-⟩:=h2
 have HOK:=lH hok;clear hok
 go_enter Tryz.func261,Tryz.ntmps261
 go_wp2_with fail
 refine(d_leqIntS (q0.keep inferInstance) (mq0.keep inferInstance)).mono ?_
 rintro _ _ ⟨rfl,y0,rfl⟩
 go_wp2_with fail
 go_ret
 exact Gives.mk rfl
theorem d_leqFileOutS{B B2:Nat}{a a2:Option Addr}{c c2:Nat}{l:List TFileOut}{w:World}(hs:RdS B w a c l)(hs2:RdS B2 w a2 c2 l) :
  Calls Tryz.prog 170 #[.slice a l.length c,.slice a2 l.length c2] w (Gives w (.bool true)):=by
 have hmx:=hs.max
 obtain⟨n,hn⟩:∃ n,l.length=n:=⟨_,rfl⟩
 rw[hn]at hmx
 rw[hn]
 have HN:=lH hn;clear hn
 have kn:((n:Int) != (n:Int))=false:=by simp
 go_enter Tryz.func170,Tryz.ntmps170
 go_wp2_with fail
 go_loopw [5] (fun v wr=>∃ k:Nat,v=.int .i64 k∧k≤n∧∃ x:Later w,wr=x.w) (fun v _=>(n - intOf v).toNat)
 case atStart=>exact⟨0,rfl,by omega,Later.of⟩
 case round =>
  obtain⟨k,rfl,hk,x,rfl⟩:=hrel
  by_cases h:k<n
  ·have hlk:k<l.length:=by have:=HN.out;omega
   obtain⟨eb,eoff,ex,ea0,ec0,rfl,ehb,ehd,eq0,eok,eh0,eh1,eh2,eh3⟩:=hs.atTFileOut (show k<l.length by omega)
   obtain⟨fb,foff,fx,fa0,fc0,rfl,fhb,fhd,fq0,fok,fh0,fh1,fh2,fh3⟩:=hs2.atTFileOut (show k<l.length by omega)
   obtain rfl:ex=fx:=by have:=ehd.out.symm.trans fhd.out;simpa using this
   clear ehd fhd hlk hs hs2
   have ce:∀ {W:World} [Grows w W],Calls Tryz.prog 261 #[.agg #[.int .i64 ex.File,.string ex.Data,.slice ea0 ex.Queue.length ec0,.bool ex.Done],.agg #[.int .i64 ex.File,.string ex.Data,.slice fa0 ex.Queue.length fc0,.bool ex.Done]] W (Gives W (.bool true)):=fun {W} _=>d_leqFileOut (x:=ex) ⟨ea0,ec0,rfl,eq0.keep inferInstance,eok⟩ ⟨fa0,fc0,rfl,fq0.keep inferInstance,fok⟩
   clear eok fok eq0 fq0
   go_wp2_with (first|((with_reducible refine wp_region_later (by kernel_rfl) (by kernel_rfl) ?_);(repeat(first|go_big_quiet_step (first|(go_at_call 261;exact Gives.quiet (ce)))));refine wpQuiet_nil ?_;rintro _ ⟨x,rfl⟩)|(go_at_call 261;refine(ce).mono ?_;rintro _ _ ⟨rfl,x,rfl⟩))
   go_roundw
   case rel=>exact⟨k+1,by go_num,by omega,Later.of⟩
   case measure=>simp[intOf];omega
  ·go_wp2_with fail
   go_ret
   exact Gives.mk rfl
end Go.Proofs.YtbaffippdifbpaaGreat
namespace Go.Proofs.YtbaffippdifbpaaGreat
set_option linter.unusedVariables false
open Go.ChangeShapes Go.WideShapes Go.ChangeAt Go.RowKit
def shortAll(p:List ByteArray):Bool:=p.all (fun s=>decide (s.size≤24))
def fileInOk(f z k:Int)(p:List ByteArray):Bool:=inB f 0 7 && (inB z (-1) 600 && (inB k (-1) 65535 && (((z == -1) == (k == -1)) && (decide (p.length=25) && shortAll p))))
set_option maxRecDepth 100000 in
set_option maxHeartbeats 2000000 in
theorem c_iFileInOk{a:Option Addr}{n c:Nat}{f z k:Int}{p:List ByteArray}{w:World}(hs:Sl encStr w a p)(hn:p.length=n)(hm:n≤4611686018427387904)(hsz:∀ s∈p,s.size≤100000000) :
  Calls Tryz.prog 230 #[.agg #[.int .i64 f,.int .i64 z,.int .i64 k,.slice a n c]] w (Gives w (.bool (fileInOk f z k p))):=by
 have HS:=lH hsz;clear hsz
 have HF:=lH (show fileInOk f z k p=(inB f 0 7 && (inB z (-1) 600 && (inB k (-1) 65535 && (((z == -1) == (k == -1)) && (decide (n=25) && shortAll p)))))by rw[fileInOk,hn])
 cases c1:inB f 0 7
 ·go_enter Tryz.func230,Tryz.ntmps230
  go_wp2_with (first|(go_at_call 127;refine(c_ibetween).mono ?_;rintro _ _ ⟨rfl,x,rfl⟩))
  go_ret
  exact Gives.mk (by rw[HF.out,c1];rfl)
 cases c2:inB z (-1) 600
 ·go_enter Tryz.func230,Tryz.ntmps230
  go_wp2_with (first|(go_at_call 127;refine(c_ibetween).mono ?_;rintro _ _ ⟨rfl,x,rfl⟩))
  go_ret
  exact Gives.mk (by rw[HF.out,c1,c2];rfl)
 cases c3:inB k (-1) 65535
 ·go_enter Tryz.func230,Tryz.ntmps230
  go_wp2_with (first|(go_at_call 127;refine(c_ibetween).mono ?_;rintro _ _ ⟨rfl,x,rfl⟩))
  go_ret
  exact Gives.mk (by rw[HF.out,c1,c2,c3];rfl)
 cases c4:((z == -1) == (k == -1))
 ·have c5:((z == -1) != (k == -1))=true:=by rw[bne,c4];rfl
  go_enter Tryz.func230,Tryz.ntmps230
  go_wp2_with (first|(go_at_call 127;refine(c_ibetween).mono ?_;rintro _ _ ⟨rfl,x,rfl⟩))
  go_ret
  exact Gives.mk (by rw[HF.out,c1,c2,c3,c4];rfl)
 have c5:((z == -1) != (k == -1))=false:=by rw[bne,c4];rfl
 have HF2:=lH (show fileInOk f z k p=(decide (n=25) && shortAll p)by rw[HF.out,c1,c2,c3,c4];rfl)
 clear HF
 by_cases h6:n=25
 ·have c6:((n:Int) != 25)=false:=by simp;omega
  have HF3:=lH (show fileInOk f z k p=shortAll p by rw[HF2.out,h6];rfl)
  clear HF2 h6
  go_enter Tryz.func230,Tryz.ntmps230
  go_wp2_with (first|(go_at_call 127;refine(c_ibetween).mono ?_;rintro _ _ ⟨rfl,x,rfl⟩))
  go_loopw [37] (fun v wr=>∃ k:Nat,v=.int .i64 k∧k≤n∧Hid (shortAll (p.drop k)=shortAll p)∧∃ x:Later w,wr=x.w) (fun v _=>(n - intOf v).toNat)
  case atStart=>exact⟨0,rfl,by omega,rfl,Later.of⟩
  case round =>
   obtain⟨k,rfl,hk,hf,x,rfl⟩:=hrel
   by_cases h:k<n
   ·obtain⟨b,off,s,rfl,hb,hd,h0⟩:=hs.str (show k<p.length by omega)
    have hsm:s.size≤100000000:=HS.out s (List.mem_of_mem_drop (by rw[hd.out];exact List.mem_cons_self ..))
    by_cases h7:24<s.size
    ·go_wp2_with fail
     go_ret
     exact Gives.mk (by have:=hf.out;rw[hd.out,shortAll,List.all_cons,decide_eq_false (by omega)]at this;rw[HF3.out,← this];rfl)
    ·go_wp2_with fail
     go_roundw
     case rel=>exact⟨k+1,by go_num,by omega,by have:=hf.out;rw[hd.out,shortAll,List.all_cons,decide_eq_true (by omega)]at this;exact this,Later.of⟩
     case measure=>simp[intOf];omega
   ·go_wp2_with fail
    go_ret
    exact Gives.mk (by have:=hf.out;rw[List.drop_of_length_le (by omega)]at this;rw[HF3.out,← this];rfl)
 ·have c6:((n:Int) != 25)=true:=by simp;omega
  have HF3:=lH (show fileInOk f z k p=false by rw[HF2.out,decide_eq_false h6];rfl)
  clear HF2 h6
  go_enter Tryz.func230,Tryz.ntmps230
  go_wp2_with (first|(go_at_call 127;refine(c_ibetween).mono ?_;rintro _ _ ⟨rfl,x,rfl⟩))
  go_ret
  exact Gives.mk (by rw[HF3.out];rfl)
set_option maxRecDepth 100000 in
set_option maxHeartbeats 2000000 in
theorem c_sFileInOk{a:Option Addr}{n c:Nat}{f z k:Int}{p:List ByteArray}{w:World}(hs:Sl encStr w a p)(hn:p.length=n)(hm:n≤4611686018427387904)(hsz:∀ s∈p,s.size≤100000000) :
  Calls Tryz.prog 227 #[.agg #[.int .i64 f,.int .i64 z,.int .i64 k,.slice a n c]] w (Gives w (.bool (fileInOk f z k p))):=by
 have HS:=lH hsz;clear hsz
 have HF:=lH (show fileInOk f z k p=(inB f 0 7 && (inB z (-1) 600 && (inB k (-1) 65535 && (((z == -1) == (k == -1)) && (decide (n=25) && shortAll p)))))by rw[fileInOk,hn])
 go_enter Tryz.func227,Tryz.ntmps227
 go_wp2_with fail
 go_loopw [3] (fun v wr=>∃ j:Nat,v=.int .i64 j∧j≤n∧Hid (shortAll (p.drop j)=shortAll p)∧∃ x:Later (w.alloc (.cells #[.int .i64 f,.int .i64 z,.int .i64 k,.slice a n c] 140)),wr=x.w) (fun v _=>(n - intOf v).toNat)
 case atStart=>exact⟨0,rfl,by omega,rfl,Later.of⟩
 case round =>
  obtain⟨j,rfl,hk,hf,x,rfl⟩:=hrel
  by_cases h:j<n
  ·obtain⟨b,off,s,rfl,hb,hd,h0⟩:=hs.str (show j<p.length by omega)
   have hsm:s.size≤100000000:=HS.out s (List.mem_of_mem_drop (by rw[hd.out];exact List.mem_cons_self ..))
   by_cases h7:24<s.size
   ·go_wp2_with fail
    go_ret
    exact Gives.mk (by have:=hf.out;rw[hd.out,shortAll,List.all_cons,decide_eq_false (by omega)]at this;rw[HF.out,← this];simp)
   ·go_wp2_with fail
    go_roundw
    case rel=>exact⟨j+1,by go_num,by omega,by have:=hf.out;rw[hd.out,shortAll,List.all_cons,decide_eq_true (by omega)]at this;exact this,Later.of⟩
    case measure=>simp[intOf];omega
  ·have hf':=hf.out
   rw[List.drop_of_length_le (by omega)]at hf'
   have HA:=lH (show shortAll p=true from hf'.symm);clear hf hf'
   cases c1:inB f 0 7
   ·go_wp2_with (first|(go_at_call 151;refine(c_sl01In).mono ?_;rintro _ _ ⟨rfl,x,rfl⟩))
    go_ret
    exact Gives.mk (by rw[HF.out,c1];rfl)
   cases c2:inB z (-1) 600
   ·go_wp2_with (first|(go_at_call 151;refine(c_sl01In).mono ?_;rintro _ _ ⟨rfl,x,rfl⟩))
    go_ret
    exact Gives.mk (by rw[HF.out,c1,c2];rfl)
   cases c3:inB k (-1) 65535
   ·go_wp2_with (first|(go_at_call 151;refine(c_sl01In).mono ?_;rintro _ _ ⟨rfl,x,rfl⟩))
    go_ret
    exact Gives.mk (by rw[HF.out,c1,c2,c3];rfl)
   cases c4:((z == -1) == (k == -1))
   ·go_wp2_with (first|(go_at_call 151;refine(c_sl01In).mono ?_;rintro _ _ ⟨rfl,x,rfl⟩))
    go_ret
    exact Gives.mk (by rw[HF.out,c1,c2,c3,c4];rfl)
   by_cases h6:n=25
   ·have c6:((n:Int) == 25)=true:=by simp;omega
    have HF3:=lH (show fileInOk f z k p=true by rw[HF.out,c1,c2,c3,c4,h6,HA.out];rfl)
    clear HF h6 HA
    go_wp2_with (first|(go_at_call 151;refine(c_sl01In).mono ?_;rintro _ _ ⟨rfl,x,rfl⟩))
    go_ret
    exact Gives.mk (by rw[HF3.out];rfl)
   ·have c6:((n:Int) == 25)=false:=by simp;omega
    have HF3:=lH (show fileInOk f z k p=false by rw[HF.out,c1,c2,c3,c4,decide_eq_false h6];rfl)
    clear HF h6 HA
    go_wp2_with (first|(go_at_call 151;refine(c_sl01In).mono ?_;rintro _ _ ⟨rfl,x,rfl⟩))
    go_ret
    exact Gives.mk (by rw[HF3.out];rfl)
end Go.Proofs.YtbaffippdifbpaaGreat
namespace Go.Proofs.YtbaffippdifbpaaGreat
set_option linter.unusedVariables false
open Go.ChangeShapes Go.WideShapes Go.ChangeAt Go.RowKit
end Go.Proofs.YtbaffippdifbpaaGreat
namespace Go.Proofs.YtbaffippdifbpaaGreat
set_option linter.unusedVariables false
open Go.ChangeShapes Go.WideShapes Go.ChangeAt Go.RowKit
/-! ### What is missing -/
end Go.Proofs.YtbaffippdifbpaaGreat
namespace Go.Proofs.YtbaffippdifbpaaGreat
set_option linter.unusedVariables false
open Go.ChangeShapes Go.WideShapes Go.ChangeAt Go.RowKit
end Go.Proofs.YtbaffippdifbpaaGreat
namespace Go.Proofs.YtbaffippdifbpaaGreat
set_option linter.unusedVariables false
open Go.ChangeShapes Go.WideShapes Go.ChangeAt Go.RowKit
theorem Own.rdS{α:Type}[E:Enc α]{enc:α→List Value}{T size B:Nat}{w:World}{a:Option Addr}{c:Nat}{l:List α}(h:Own enc T size B w a c l)(hs:E.size=size)(hR:∀ x∈l,E.Rd B w (enc x) x):RdS B w a c l:=by
 have hsl:=h.sl
 obtain⟨hsz,-,⟨hv,hn0⟩|⟨g,cap,cur,hv,hB,hheap,hle,hmax,-⟩⟩:=h
 ·simp only[Value.slice.injEq]at hv
  obtain⟨rfl,-,rfl⟩:=hv
  have:l=[]:=List.length_eq_zero_iff.1 hn0
  subst this
  exact RdS.nil
 ·simp only[Value.slice.injEq,true_and]at hv
  obtain⟨rfl,rfl⟩:=hv
  refine⟨hle,hmax,(fun e=>by cases e),fun i x hx=>?_⟩
  obtain⟨b,off,hb,hlt,hc⟩:=hsl i x hx
  simp only[Option.some.injEq,Addr.mk.injEq]at hb
  obtain⟨rfl,rfl,-⟩:=hb
  refine⟨g,0,enc x,rfl,hB,hlt,hR x (List.mem_of_getElem? hx),fun j u hu=>?_⟩
  have:=hc j u hu
  rw[hsz]at this
  rw[hs];exact this
class Flat(α:Type) extends Enc α where
 enc:α→List Value
 ty:Nat
 good:α→Prop
 encLen:∀ x,(enc x).length=size
 one:∀ x,∀ u∈enc x,u.oneCell'=true
 rd:∀ {B w x},good x→Rd B w (enc x) x
 inv:∀ {B w vs x},Rd B w vs x→vs=enc x∧good x
abbrev Col:=Nat × Nat
def blkOf(a:Option Addr):Option Nat:=a.map (·.block)
theorem ownBlock_eq(a:Option Addr)(n c:Nat):Value.ownBlock (.slice a n c)=blkOf a:=by cases a<;>rfl
theorem Own.blk{α:Type}{enc:α→List Value}{T size B:Nat}{w:World}{a:Option Addr}{c:Nat}{l:List α}(h:Own enc T size B w a c l):∀ k,blkOf a=some k→B≤k∧k<w.heap.size:=fun k hk=>h.2.lt k (by rw[ownBlock_eq];exact hk)
theorem Own.same{α:Type}{enc:α→List Value}{T size B:Nat}{w w':World}{a:Option Addr}{c:Nat}{l:List α}(h:Own enc T size B w a c l)(hk:∀ k,blkOf a=some k→B≤k→k<w.heap.size→w'.heap[k]?=w.heap[k]?):Own enc T size B w' a c l:=by
 obtain⟨h0,h1,h2|⟨g,cap,cur,hv,hg,hh,r⟩⟩:=h
 ·exact⟨h0,h1,.inl h2⟩
 ·refine⟨h0,h1,.inr ⟨g,cap,cur,hv,hg,?_,r⟩⟩
  simp only[Value.slice.injEq]at hv
  rw[hk g (by rw[hv.1];rfl) hg (Array.getElem?_eq_some_iff.1 hh).1];exact hh
structure OwnC{α:Type}[E:Flat α](B:Nat)(χ:Nat→Col)(i:Col)(w:World)(a:Option Addr)(c:Nat)(l:List α):Prop where
 own:Own E.enc E.ty E.size B w a c l
 col:∀ k,blkOf a=some k→χ k=i
 good:∀ x∈l,E.good x
structure Fr(B:Nat)(χ:Nat→Col)(C:Col→Prop)(w w':World):Prop where
 os:w'.os=w.os
 tape:w'.tape=w.tape
 output:w'.output=w.output
 size:w.heap.size≤w'.heap.size
 block:∀ b,b<w.heap.size→¬ (B≤b∧C (χ b))→w'.heap[b]?=w.heap[b]?
def paint(U:Nat)(χ χ2:Nat→Col)(f:Col→Col):Nat→Col:=fun b=>if b<U then χ b else f (χ2 b)
section
variable {α:Type} [E:Flat α] {B:Nat} {χ χ2:Nat→Col} {i:Col} {w w':World} {a:Option Addr} {c:Nat} {l:List α} {C:Col→Prop}
theorem OwnC.rd(h:OwnC B χ i w a c l):RdS B w a c l:=h.own.rdS rfl (fun x hx=>E.rd (h.good x hx))
theorem OwnC.fr(h:OwnC B χ i w a c l)(f:Fr B χ C w w')(hi:¬ C i):OwnC B χ i w' a c l :=
 ⟨h.own.same (fun k hk h1 h2=>f.block k h2 (fun e=>by rw[h.col k hk]at e;exact hi e.2)),h.col,h.good⟩
theorem OwnC.to(h:OwnC B χ i w a c l)(g:Grows w w'):OwnC B χ i w' a c l:=⟨h.own.to g,h.col,h.good⟩
theorem OwnC.keep(h:OwnC B χ i w a c l)(g:Keeps B w w'):OwnC B χ i w' a c l:=⟨h.own.same (fun k _ h1 h2=>g.block k h1 h2),h.col,h.good⟩
theorem OwnC.mono{B':Nat}(h:OwnC B χ i w a c l)(hB:B'≤B):OwnC B' χ i w a c l:=⟨h.own.mono hB,h.col,h.good⟩
theorem OwnC.recol{χ':Nat→Col}{i':Col}(h:OwnC B χ i w a c l)(hc:∀ k,B≤k→k<w.heap.size→χ k=i→χ' k=i'):OwnC B χ' i' w a c l :=
 ⟨h.own,fun k hk=>hc k (h.own.blk k hk).1 (h.own.blk k hk).2 (h.col k hk),h.good⟩
theorem OwnC.old{f:Col→Col}{U:Nat}(h:OwnC B χ i w a c l)(hU:w.heap.size≤U):OwnC B (paint U χ χ2 f) i w a c l :=
 h.recol fun k _ h2 h3=>by rw[paint,if_pos (by omega)];exact h3
theorem OwnC.nil:OwnC B χ i w none 0 ([]:List α):=⟨Own.nil E.encLen,(fun k hk=>by cases hk),(fun x hx=>by cases hx)⟩
theorem OwnC.of(h:Own E.enc E.ty E.size B w a c l)(hg:∀ x∈l,E.good x)(i:Col):OwnC B (fun _=>i) i w a c l:=⟨h,fun _ _=>rfl,hg⟩
theorem Fr.refl(B:Nat)(χ:Nat→Col)(C:Col→Prop)(w:World):Fr B χ C w w:=⟨rfl,rfl,rfl,Nat.le_refl _,fun _ _ _=>rfl⟩
theorem Fr.grows(B:Nat)(χ:Nat→Col)(C:Col→Prop)(w w':World)[g:Grows w w']:Fr B χ C w w':=⟨g.out.os,g.out.tape,g.out.output,g.out.size,fun b h _=>g.out.block b h⟩
theorem Fr.trans{w1:World}(h:Fr B χ C w w1)(k:Fr B χ C w1 w'):Fr B χ C w w':=⟨k.os.trans h.os,k.tape.trans h.tape,k.output.trans h.output,Nat.le_trans h.size k.size,fun b h2 h3=>(k.block b (Nat.lt_of_lt_of_le h2 h.size) h3).trans (h.block b h2 h3)⟩
theorem Fr.wide{C':Col→Prop}(h:Fr B χ C w w')(hC:∀ i,C i→C' i):Fr B χ C' w w':=⟨h.os,h.tape,h.output,h.size,fun b h2 h3=>h.block b h2 (fun k=>h3 ⟨k.1,hC _ k.2⟩)⟩
theorem Fr.below{u:World}(h:Fr B χ C w w')(g:Grows u w)(hB:u.heap.size≤B):Grows u w':=⟨⟨h.os.trans g.out.os,h.tape.trans g.out.tape,h.output.trans g.out.output,Nat.le_trans g.out.size h.size,fun b hb=>(h.block b (Nat.lt_of_lt_of_le hb g.out.size) (fun e=>by omega)).trans (g.out.block b hb)⟩⟩
theorem OwnC.wrote{n c2:Nat}(h:OwnC B χ i w a c l)(g:w.grownBy w' (Value.ownBlock (.slice a n c2))):Fr B χ (·=i) w w' :=
 ⟨g.os,g.tape,g.output,g.size,fun b h2 h3=>g.block b h2 (by rw[ownBlock_eq];exact fun e=>h3 ⟨(h.own.blk b e.symm).1,h.col b e.symm⟩)⟩
end
def GivesOS{α:Type}[E:Flat α](w:World)(l:List α):Ending→World→Prop:=fun e w'=>∃ a c,e=.returned (.slice a l.length c)∧OwnC w.heap.size (fun _=>(0,0)) (0,0) w' a c l∧∃ y:Later w,w'=y.w
/-! ### Elements that hold a slice each -/
class Nest(α:Type)(β:outParam Type) extends Enc α where
 cells:α→Option Addr→Nat→List Value
 inner:α→List β
 ty:Nat
 good:α→Prop
 cellsLen:∀ x a c,(cells x a c).length=size
 one:∀ x a c,∀ u∈cells x a c,u.oneCell'=true
structure NRow(α:Type) where
 x:α
 a:Option Addr
 c:Nat
def encN{α β:Type}[N:Nest α β](r:NRow α):List Value:=N.cells r.x r.a r.c
theorem encN_len{α β:Type}[N:Nest α β](r:NRow α):(encN r).length=N.size:=N.cellsLen _ _ _
structure OwnN{α β:Type}[N:Nest α β][F:Flat β](B:Nat)(χ:Nat→Col)(o:Nat)(w:World)(a:Option Addr)(c:Nat)(rows:List (NRow α)):Prop where
 own:Own (encN (α:=α)) N.ty N.size B w a c rows
 col:∀ k,blkOf a=some k→χ k=(o,0)
 each:∀ k r,rows[k]?=some r→N.good r.x∧OwnC B χ (o,k+1) w r.a r.c (N.inner r.x)
class NestRd(α:Type){β:Type}[N:Nest α β][F:Flat β]:Prop where
 rd:∀ {B w x a c},N.good x→RdS B w a c (N.inner x)→N.Rd B w (N.cells x a c) x
section
variable {α β:Type} [N:Nest α β] [F:Flat β] {B:Nat} {χ χ2:Nat→Col} {o:Nat} {w w':World} {a:Option Addr} {c:Nat} {rows:List (NRow α)} {C:Col→Prop}
theorem OwnN.fr(h:OwnN B χ o w a c rows)(f:Fr B χ C w w')(hi:∀ k,¬ C (o,k)):OwnN B χ o w' a c rows :=
 ⟨h.own.same (fun k hk h1 h2=>f.block k h2 (fun e=>by rw[h.col k hk]at e;exact hi 0 e.2)),h.col,fun k r hr=>⟨(h.each k r hr).1,(h.each k r hr).2.fr f (hi _)⟩⟩
theorem OwnN.to(h:OwnN B χ o w a c rows)(g:Grows w w'):OwnN B χ o w' a c rows:=⟨h.own.to g,h.col,fun k r hr=>⟨(h.each k r hr).1,(h.each k r hr).2.to g⟩⟩
theorem OwnN.keep(h:OwnN B χ o w a c rows)(g:Keeps B w w'):OwnN B χ o w' a c rows:=⟨h.own.same (fun k _ h1 h2=>g.block k h1 h2),h.col,fun k r hr=>⟨(h.each k r hr).1,(h.each k r hr).2.keep g⟩⟩
theorem OwnN.mono{B':Nat}(h:OwnN B χ o w a c rows)(hB:B'≤B):OwnN B' χ o w a c rows:=⟨h.own.mono hB,h.col,fun k r hr=>⟨(h.each k r hr).1,(h.each k r hr).2.mono hB⟩⟩
theorem OwnN.recol{χ':Nat→Col}{o':Nat}(h:OwnN B χ o w a c rows)(hc:∀ k j,B≤k→k<w.heap.size→χ k=(o,j)→χ' k=(o',j)):OwnN B χ' o' w a c rows :=
 ⟨h.own,fun k hk=>hc k 0 (h.own.blk k hk).1 (h.own.blk k hk).2 (h.col k hk),fun k r hr=>⟨(h.each k r hr).1,(h.each k r hr).2.recol (fun b h1 h2 h3=>hc b _ h1 h2 h3)⟩⟩
theorem OwnN.old{f:Col→Col}{U:Nat}(h:OwnN B χ o w a c rows)(hU:w.heap.size≤U):OwnN B (paint U χ χ2 f) o w a c rows :=
 h.recol fun k _ _ h2 h3=>by rw[paint,if_pos (by omega)];exact h3
theorem OwnN.nil:OwnN B χ o w none 0 ([]:List (NRow α)):=⟨Own.nil encN_len,(fun k hk=>by cases hk),(fun k r hr=>by simp at hr)⟩
theorem OwnN.rd[R:NestRd α](h:OwnN B χ o w a c rows):RdS B w a c (rows.map (·.x)):=by
 have hsl:=h.own.sl
 have hE:=h.each
 obtain⟨hsz,-,⟨hv,hn0⟩|⟨g,cap,cur,hv,hB,hheap,hle,hmax,-⟩⟩:=h.own
 ·simp only[Value.slice.injEq]at hv
  obtain⟨rfl,-,rfl⟩:=hv
  have:rows=[]:=List.length_eq_zero_iff.1 hn0
  subst this
  exact RdS.nil
 ·simp only[Value.slice.injEq,true_and]at hv
  obtain⟨rfl,rfl⟩:=hv
  refine⟨by rw[List.length_map];exact hle,hmax,(fun e=>by cases e),fun i x hx=>?_⟩
  rw[List.getElem?_map]at hx
  obtain⟨r,hr,rfl⟩:=Option.map_eq_some_iff.1 hx
  obtain⟨b,off,hb,hlt,hc⟩:=hsl i r hr
  simp only[Option.some.injEq,Addr.mk.injEq]at hb
  obtain⟨rfl,rfl,-⟩:=hb
  refine⟨g,0,encN r,rfl,hB,hlt,R.rd (hE i r hr).1 (hE i r hr).2.rd,fun j u hu=>?_⟩
  have:=hc j u hu
  rw[hsz]at this
  exact this
end
end Go.Proofs.YtbaffippdifbpaaGreat
namespace Go.Proofs.YtbaffippdifbpaaGreat
set_option linter.unusedVariables false
open Go.ChangeShapes Go.WideShapes Go.ChangeAt Go.RowKit
theorem RdS.goods{α:Type}[E:Flat α]{B:Nat}{w:World}{a:Option Addr}{c:Nat}{l:List α}(h:RdS B w a c l):∀ x∈l,E.good x:=fun x hx=>by
 obtain⟨i,hi⟩:=List.getElem?_of_mem hx
 obtain⟨b,off,vs,-,-,-,h3,-⟩:=h.2.2.2 i x hi
 exact(E.inv h3).2
theorem RdS.slF{α:Type}[E:Flat α]{B:Nat}{w:World}{a:Option Addr}{c:Nat}{l:List α}(h:RdS B w a c l):Sl E.enc w a l:=fun i x hx=>by
 obtain⟨b,off,vs,h0,-,h2,h3,h4⟩:=h.2.2.2 i x hx
 obtain⟨rfl,-⟩:=E.inv h3
 exact⟨b,off,h0,h2,fun j v hv=>by rw[E.encLen];exact h4 j v hv⟩
theorem GivesSl.os{α:Type}[E:Flat α]{w w':World}{l:List α}{e:Ending}{B:Nat}{w0:World}{a:Option Addr}{c:Nat}(h:GivesSl E.enc E.ty E.size w l e w')(hs:RdS B w0 a c l):GivesOS w l e w':=by
 obtain⟨a',c',he,ho,y,hy⟩:=h
 exact⟨a',c',he,OwnC.of ho hs.goods _,y,hy⟩
instance Flat.iInt:Flat Int where
 toEnc:=inferInstance
 enc:=encInt
 ty:=3
 good:=i64
 encLen:=fun _=>rfl
 one:=encInt_one
 rd:=fun h=>⟨rfl,h⟩
 inv:=fun h=>h
def encBoo(x:Bool):List Value:=[.bool x]
theorem encBoo_len(x:Bool):(encBoo x).length=1:=rfl
theorem encBoo_one(x:Bool):∀ u∈encBoo x,u.oneCell'=true:=by
 intro u hu
 simp only[encBoo,List.mem_cons,List.not_mem_nil,or_false]at hu
 rcases hu with rfl<;>rfl
instance Flat.iBool:Flat Bool where
 toEnc:=inferInstance
 enc:=encBoo
 ty:=4
 good:=fun _=>True
 encLen:=fun _=>rfl
 one:=encBoo_one
 rd:=fun _=>rfl
 inv:=fun h=>⟨h,trivial⟩
instance Flat.iByteArray:Flat ByteArray where
 toEnc:=inferInstance
 enc:=encStr
 ty:=9
 good:=fun s=>s.size≤9223372036854775807
 encLen:=fun _=>rfl
 one:=encStr_one
 rd:=fun h=>⟨rfl,h⟩
 inv:=fun h=>h
theorem encSlot_oneO(x:Slot):∀ u∈encSlot x,u.oneCell'=true:=by
 intro u hu
 simp only[encSlot,List.mem_cons,List.not_mem_nil,or_false]at hu
 rcases hu with rfl|rfl<;>rfl
instance Flat.iSlot:Flat Slot where
 toEnc:=inferInstance
 enc:=encSlot
 ty:=205
 good:=okDSlot
 encLen:=fun _=>rfl
 one:=encSlot_oneO
 rd:=fun h=>⟨rfl,h⟩
 inv:=fun h=>h
theorem encPair_oneO(x:Pair):∀ u∈encPair x,u.oneCell'=true:=by
 intro u hu
 simp only[encPair,List.mem_cons,List.not_mem_nil,or_false]at hu
 rcases hu with rfl|rfl<;>rfl
instance Flat.iPair:Flat Pair where
 toEnc:=inferInstance
 enc:=encPair
 ty:=221
 good:=okDPair
 encLen:=fun _=>rfl
 one:=encPair_oneO
 rd:=fun h=>⟨rfl,h⟩
 inv:=fun h=>h
def encTFlight(x:TFlight):List Value:=[.int .i64 x.At,.string x.Data]
theorem encTFlight_one(x:TFlight):∀ u∈encTFlight x,u.oneCell'=true:=by
 intro u hu
 simp only[encTFlight,List.mem_cons,List.not_mem_nil,or_false]at hu
 rcases hu with rfl|rfl<;>rfl
instance Flat.iTFlight:Flat TFlight where
 toEnc:=inferInstance
 enc:=encTFlight
 ty:=230
 good:=okDTFlight
 encLen:=fun _=>rfl
 one:=encTFlight_one
 rd:=fun h=>⟨rfl,h⟩
 inv:=fun h=>h
def encTRecord(x:TRecord):List Value:=[.int .i64 x.Id,.int .i64 x.Priority,.int .i64 x.Time,.string x.Data]
theorem encTRecord_one(x:TRecord):∀ u∈encTRecord x,u.oneCell'=true:=by
 intro u hu
 simp only[encTRecord,List.mem_cons,List.not_mem_nil,or_false]at hu
 rcases hu with rfl|rfl|rfl|rfl<;>rfl
instance Flat.iTRecord:Flat TRecord where
 toEnc:=inferInstance
 enc:=encTRecord
 ty:=218
 good:=okDTRecord
 encLen:=fun _=>rfl
 one:=encTRecord_one
 rd:=fun h=>⟨rfl,h⟩
 inv:=fun h=>h
def encTWaiting(x:TWaiting):List Value:=[.int .i64 x.Number,.int .i64 x.Order.Kind,.int .i64 x.Order.At,.int .i64 x.Order.A,.int .i64 x.Order.B]
theorem encTWaiting_one(x:TWaiting):∀ u∈encTWaiting x,u.oneCell'=true:=by
 intro u hu
 simp only[encTWaiting,List.mem_cons,List.not_mem_nil,or_false]at hu
 rcases hu with rfl|rfl|rfl|rfl|rfl<;>rfl
instance Flat.iTWaiting:Flat TWaiting where
 toEnc:=inferInstance
 enc:=encTWaiting
 ty:=212
 good:=okDTWaiting
 encLen:=fun _=>rfl
 one:=encTWaiting_one
 rd:=fun h=>⟨rfl,h⟩
 inv:=fun h=>h
def encTLimit(x:TLimit):List Value:=[.int .i64 x.Param,.int .i64 x.Low,.int .i64 x.High]
theorem encTLimit_len(x:TLimit):(encTLimit x).length=3:=rfl
theorem encTLimit_one(x:TLimit):∀ u∈encTLimit x,u.oneCell'=true:=by
 intro u hu
 simp only[encTLimit,List.mem_cons,List.not_mem_nil,or_false]at hu
 rcases hu with rfl|rfl|rfl<;>rfl
instance Flat.iTLimit:Flat TLimit where
 toEnc:=inferInstance
 enc:=encTLimit
 ty:=149
 good:=okDTLimit
 encLen:=fun _=>rfl
 one:=encTLimit_one
 rd:=fun h=>⟨rfl,h⟩
 inv:=fun h=>h
theorem c_cloneTLimit{a:Option Addr}{n c:Nat}{l:List TLimit}{w:World}(hs:Sl encTLimit w a l)(hn:l.length=n)(hm:n≤100000000) :
  Calls Tryz.prog 124 #[.slice a n c] w (GivesSl encTLimit 149 3 w l):=by
 cases a with
 | none =>
  have hl:l=[]:=by
   cases l with
   | nil=>rfl
   | cons y r=>obtain⟨b,off,h0,-⟩:=hs 0 y rfl;cases h0
  have hq:=fun(w:World)=>run_eql_slice_nil (P:=Tryz.prog) w 49 149 none n c Tryz.underlying49
  simp only[Option.isNone]at hq
  have HL:=lH hl;clear hl
  go_enter Tryz.func124,Tryz.ntmps124
  go_wp2_with (first|((with_reducible refine wp_region_later (by kernel_rfl) (by kernel_rfl) ?_);(repeat(first|go_big_quiet_step (first|fail)));refine wpQuiet_nil ?_;rintro _ ⟨x,rfl⟩))
  go_ret
  exact GivesSl.nilOf encTLimit_len HL.out
 | some ad =>
  have hq:=fun(w:World)=>run_eql_slice_nil (P:=Tryz.prog) w 49 149 (some ad) n c Tryz.underlying49
  simp only[Option.isNone]at hq
  go_enter Tryz.func124,Tryz.ntmps124
  go_wp2_with (first|((with_reducible refine wp_region_later (by kernel_rfl) (by kernel_rfl) ?_);(repeat(first|go_big_quiet_step (first|fail)));refine wpQuiet_nil ?_;rintro _ ⟨x,rfl⟩)|(at_builtin;refine wpList_appS (enc:=encTLimit) (w0:=w) (z:=.agg #[.int .i64 0,.int .i64 0,.int .i64 0]) (size:=3) (bytes:=24) (n:=0) (l:=[]) rfl (.tmp 5) (.tmp 6) rfl Tryz.underlying49 (by kernel_rfl) rfl (by decide) (by decide) rfl rfl (fun h=>by cases h) rfl hn (Own.emptyAt encTLimit_len (Nat.le_refl _) rfl) (hs.to inferInstance) encTLimit_one (by omega) ?_;intro sa1 sc1 x1 hown1 hgr1))
  go_ret
  rw[List.nil_append]at hown1
  exact⟨sa1,sc1,by rw[hn];first|rfl|simp,hown1,Later.of⟩
def encTDone(x:TDone):List Value:=[.int .i64 x.Number,.int .i64 x.Time,.int .i64 x.Result]
theorem encTDone_one(x:TDone):∀ u∈encTDone x,u.oneCell'=true:=by
 intro u hu
 simp only[encTDone,List.mem_cons,List.not_mem_nil,or_false]at hu
 rcases hu with rfl|rfl|rfl<;>rfl
instance Flat.iTDone:Flat TDone where
 toEnc:=inferInstance
 enc:=encTDone
 ty:=214
 good:=okDTDone
 encLen:=fun _=>rfl
 one:=encTDone_one
 rd:=fun h=>⟨rfl,h⟩
 inv:=fun h=>h
def encTSent(x:TSent):List Value:=[.int .i64 x.Seq,.string x.Data]
theorem encTSent_one(x:TSent):∀ u∈encTSent x,u.oneCell'=true:=by
 intro u hu
 simp only[encTSent,List.mem_cons,List.not_mem_nil,or_false]at hu
 rcases hu with rfl|rfl<;>rfl
instance Flat.iTSent:Flat TSent where
 toEnc:=inferInstance
 enc:=encTSent
 ty:=295
 good:=okDTSent
 encLen:=fun _=>rfl
 one:=encTSent_one
 rd:=fun h=>⟨rfl,h⟩
 inv:=fun h=>h
end Go.Proofs.YtbaffippdifbpaaGreat
namespace Go.Proofs.YtbaffippdifbpaaGreat
set_option linter.unusedVariables false
open Go.ChangeShapes Go.WideShapes Go.ChangeAt Go.RowKit
section
variable {P:Program} {ops:Array Oper} {C:World→Prop} {Q:Act→Prop} {o:Oper} {rest:List Oper} {a:Act}
end
end Go.Proofs.YtbaffippdifbpaaGreat
