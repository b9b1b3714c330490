/- The contracts of AddPair. No condition but on lengths. The contracts of CheckOf. No condition but on numbers. The contracts of the mirrors, sizes and equalities of flat structs (2). No condition but on sizes. What came in, read. No condition but on sizes. The contracts of the mirrors, sizes and equalities of slices of plain values. No condition but on sizes. The contracts of the mirrors, sizes and equalities of files. No condition but on sizes. The contracts of EncodeEnd, EncodeSegment, SegmentOf. No condition but on numbers. The contracts on marks that are texts. No condition but on numbers. -/
import Derived.Test.YtbaffippdifbpaaGreatWSlots2
import Derived.Test.YtbaffippdifbpaaGreatWM0
import Derived.Test.YtbaffippdifbpaaGreatWWord
import Derived.Test.YtbaffippdifbpaaGreatWDTy
import Derived.Test.YtbaffippdifbpaaGreatWFileO
import Derived.Test.YtbaffippdifbpaaGreatWStr
namespace Go.Proofs.YtbaffippdifbpaaGreat
set_option linter.unusedVariables false
open Go.ChangeShapes Go.WideShapes Go.ChangeAt Go.RowKit
theorem encPair_one(x:Pair):∀ u∈encPair x,u.oneCell'=true:=by
 intro u hu
 simp only[encPair,List.mem_cons,List.not_mem_nil,or_false]at hu
 rcases hu with rfl|rfl<;>rfl
theorem c_clonePair{a:Option Addr}{n c:Nat}{l:List Pair}{w:World}(hs:Sl encPair w a l)(hn:l.length=n)(hm:n≤100000000) :
  Calls Tryz.prog 218 #[.slice a n c] w (GivesSl encPair 221 2 w l):=by
 cases a with
 | none =>
  have hl:l=[]:=by
   cases l with
   | nil=>rfl
   | cons y r=>obtain⟨b,off,h0,-⟩:=hs 0 y rfl;cases h0
  have hq:=fun(w:World)=>run_eql_slice_nil (P:=Tryz.prog) w 40 221 none n c Tryz.underlying40
  simp only[Option.isNone]at hq
  have HL:=lH hl;clear hl
  go_enter Tryz.func218,Tryz.ntmps218
  go_wp2_with fail
  go_ret
  exact GivesSl.nilOf encPair_len HL.out
 | some ad =>
  have hq:=fun(w:World)=>run_eql_slice_nil (P:=Tryz.prog) w 40 221 (some ad) n c Tryz.underlying40
  simp only[Option.isNone]at hq
  go_enter Tryz.func218,Tryz.ntmps218
  go_wp2_with (first|(at_builtin;refine wpList_appS (enc:=encPair) (w0:=w) (z:=.agg #[.int .i64 0,.int .i64 0]) (size:=2) (bytes:=16) (n:=0) (l:=[]) rfl (.tmp 5) (.tmp 6) rfl Tryz.underlying40 (by kernel_rfl) rfl (by decide) (by decide) rfl rfl (fun h=>by cases h) rfl hn (Own.emptyAt encPair_len (Nat.le_refl _) rfl) (hs.to inferInstance) encPair_one (by omega) ?_;intro sa1 sc1 x1 hown1 hgr1))
  go_ret
  rw[List.nil_append]at hown1
  exact⟨sa1,sc1,by rw[hn];first|rfl|simp,hown1,Later.of⟩
end Go.Proofs.YtbaffippdifbpaaGreat
namespace Go.Proofs.YtbaffippdifbpaaGreat
set_option linter.unusedVariables false
open Go.ChangeShapes Go.WideShapes Go.ChangeAt Go.RowKit
def byteList(s:ByteArray):List Int:=s.data.toList.map (fun b=>(b.toNat:Int))
@[irreducible] def checkOf(s:ByteArray):Int:=crc 65535 (byteList s)
end Go.Proofs.YtbaffippdifbpaaGreat
namespace Go.Proofs.YtbaffippdifbpaaGreat
set_option linter.unusedVariables false
open Go.ChangeShapes Go.WideShapes Go.ChangeAt Go.RowKit
theorem d_ltoDrift{B:Nat}{vs:List Value}{x:TDrift}{w:World}(h:Enc.Rd B w vs x)(ht:Enc.tot x≤1048576) :
  Calls Tryz.prog 18 #[.agg vs.toArray] w (GivesD w x):=by
 obtain⟨rfl,hok⟩:=h
 clear ht
 have HOK:=lH hok;clear hok
 go_enter Tryz.func18,Tryz.ntmps18
 go_wp2_with fail
 refine bodyPost_ret (v:=.agg #[.int .i64 x.Rate,.int .i64 x.Offset]) ?_ rfl ⟨[.int .i64 x.Rate,.int .i64 x.Offset],rfl,⟨rfl,HOK.out⟩,Later.of⟩
 simp[results,Tryz.results18,go_sem]
theorem d_leqDrift{B B2:Nat}{vs vs2:List Value}{x:TDrift}{w:World}(h:Enc.Rd B w vs x)(h2:Enc.Rd B2 w vs2 x) :
  Calls Tryz.prog 70 #[.agg vs.toArray,.agg vs2.toArray] w (Gives w (.bool true)):=by
 obtain⟨rfl,hok⟩:=h
 obtain⟨rfl,-⟩:=h2
 have HOK:=lH hok;clear hok
 go_enter Tryz.func70,Tryz.ntmps70
 go_wp2_with fail
 go_ret
 exact Gives.mk rfl
theorem d_ltoPair{B:Nat}{vs:List Value}{x:Pair}{w:World}(h:Enc.Rd B w vs x)(ht:Enc.tot x≤1048576) :
  Calls Tryz.prog 283 #[.agg vs.toArray] w (GivesD w x):=by
 obtain⟨rfl,hok⟩:=h
 clear ht
 have HOK:=lH hok;clear hok
 go_enter Tryz.func283,Tryz.ntmps283
 go_wp2_with fail
 refine bodyPost_ret (v:=.agg #[.int .i64 x.Board,.int .i64 x.True]) ?_ rfl ⟨[.int .i64 x.Board,.int .i64 x.True],rfl,⟨rfl,HOK.out⟩,Later.of⟩
 simp[results,Tryz.results283,go_sem]
theorem d_leqPair{B B2:Nat}{vs vs2:List Value}{x:Pair}{w:World}(h:Enc.Rd B w vs x)(h2:Enc.Rd B2 w vs2 x) :
  Calls Tryz.prog 254 #[.agg vs.toArray,.agg vs2.toArray] w (Gives w (.bool true)):=by
 obtain⟨rfl,hok⟩:=h
 obtain⟨rfl,-⟩:=h2
 have HOK:=lH hok;clear hok
 go_enter Tryz.func254,Tryz.ntmps254
 go_wp2_with fail
 go_ret
 exact Gives.mk rfl
theorem d_lszPairS{B:Nat}{a:Option Addr}{c:Nat}{l:List Pair}{left:Int}{w:World}(hs:RdS B w a c l)(hl:0≤left)(hl2:left≤1048576) :
  Calls Tryz.prog 190 #[.slice a l.length c,.int .i64 left] w (Gives w (.int .i64 (szD left (totL l)))):=by
 have hmx:=hs.max
 have hln:=totL_len l
 obtain⟨n,hn⟩:∃ n,l.length=n:=⟨_,rfl⟩
 rw[hn]at hln hmx
 rw[hn]
 have HN:=lH hn;clear hn
 have htl:totL l=n:=by rw[← HN.out];clear hs HN hmx hln;induction l with|nil=>rfl|cons x r ih=>simp only[totL,List.length_cons,ih];show 1+0+_=_;omega
 rw[htl];clear htl hln hs
 by_cases h:left - n<0
 ·rw[szD_neg h]
  go_enter Tryz.func190,Tryz.ntmps190
  go_wp2_with fail
  go_ret
  exact Gives.mk rfl
 ·rw[szD_pos h]
  go_enter Tryz.func190,Tryz.ntmps190
  go_wp2_with fail
  go_ret
  exact Gives.mk rfl
theorem d_leqPairS{B B2:Nat}{a a2:Option Addr}{c c2:Nat}{l:List Pair}{w:World}(hs:RdS B w a c l)(hs2:RdS B2 w a2 c2 l) :
  Calls Tryz.prog 163 #[.slice a l.length c,.slice a2 l.length c2] w (Gives w (.bool true)):=by
 have hmx:=hs.max
 obtain⟨n,hn⟩:∃ n,l.length=n:=⟨_,rfl⟩
 rw[hn]at hmx
 rw[hn]
 have HN:=lH hn;clear hn
 have kn:((n:Int) != (n:Int))=false:=by simp
 go_enter Tryz.func163,Tryz.ntmps163
 go_wp2_with fail
 go_loopw [5] (fun v wr=>∃ k:Nat,v=.int .i64 k∧k≤n∧∃ x:Later w,wr=x.w) (fun v _=>(n - intOf v).toNat)
 case atStart=>exact⟨0,rfl,by omega,Later.of⟩
 case round =>
  obtain⟨k,rfl,hk,x,rfl⟩:=hrel
  by_cases h:k<n
  ·have hlk:k<l.length:=by have:=HN.out;omega
   obtain⟨eb,eoff,ex,rfl,ehb,ehd,eok,eh0,eh1⟩:=hs.atPair (show k<l.length by omega)
   obtain⟨fb,foff,fx,rfl,fhb,fhd,fok,fh0,fh1⟩:=hs2.atPair (show k<l.length by omega)
   obtain rfl:ex=fx:=by have:=ehd.out.symm.trans fhd.out;simpa using this
   clear ehd fhd hlk hs hs2
   have ce:∀ {W:World} [Grows w W],Calls Tryz.prog 254 #[.agg #[.int .i64 ex.Board,.int .i64 ex.True],.agg #[.int .i64 ex.Board,.int .i64 ex.True]] W (Gives W (.bool true)):=fun {W} _=>d_leqPair (B:=0) (B2:=0) (x:=ex) ⟨rfl,eok⟩ ⟨rfl,fok⟩
   clear eok fok
   go_wp2_with (first|((with_reducible refine wp_region_later (by kernel_rfl) (by kernel_rfl) ?_);(repeat(first|go_big_quiet_step (first|(go_at_call 254;exact Gives.quiet (ce)))));refine wpQuiet_nil ?_;rintro _ ⟨x,rfl⟩)|(go_at_call 254;refine(ce).mono ?_;rintro _ _ ⟨rfl,x,rfl⟩))
   go_roundw
   case rel=>exact⟨k+1,by go_num,by omega,Later.of⟩
   case measure=>simp[intOf];omega
  ·go_wp2_with fail
   go_ret
   exact Gives.mk rfl
theorem d_ltoOrbit{B:Nat}{vs:List Value}{x:TOrbit}{w:World}(h:Enc.Rd B w vs x)(ht:Enc.tot x≤1048576) :
  Calls Tryz.prog 19 #[.agg vs.toArray] w (GivesD w x):=by
 obtain⟨rfl,hok⟩:=h
 clear ht
 have HOK:=lH hok;clear hok
 go_enter Tryz.func19,Tryz.ntmps19
 go_wp2_with fail
 refine bodyPost_ret (v:=.agg #[.int .i64 x.Period,.int .i64 x.Start,.int .i64 x.Length]) ?_ rfl ⟨[.int .i64 x.Period,.int .i64 x.Start,.int .i64 x.Length],rfl,⟨rfl,HOK.out⟩,Later.of⟩
 simp[results,Tryz.results19,go_sem]
theorem d_leqOrbit{B B2:Nat}{vs vs2:List Value}{x:TOrbit}{w:World}(h:Enc.Rd B w vs x)(h2:Enc.Rd B2 w vs2 x) :
  Calls Tryz.prog 71 #[.agg vs.toArray,.agg vs2.toArray] w (Gives w (.bool true)):=by
 obtain⟨rfl,hok⟩:=h
 obtain⟨rfl,-⟩:=h2
 have HOK:=lH hok;clear hok
 go_enter Tryz.func71,Tryz.ntmps71
 go_wp2_with fail
 go_ret
 exact Gives.mk rfl
theorem d_ltoSlot{B:Nat}{vs:List Value}{x:Slot}{w:World}(h:Enc.Rd B w vs x)(ht:Enc.tot x≤1048576) :
  Calls Tryz.prog 202 #[.agg vs.toArray] w (GivesD w x):=by
 obtain⟨rfl,hok⟩:=h
 clear ht
 have HOK:=lH hok;clear hok
 go_enter Tryz.func202,Tryz.ntmps202
 go_wp2_with fail
 refine bodyPost_ret (v:=.agg #[.int .i64 x.Time,.int .i64 x.Id]) ?_ rfl ⟨[.int .i64 x.Time,.int .i64 x.Id],rfl,⟨rfl,HOK.out⟩,Later.of⟩
 simp[results,Tryz.results202,go_sem]
theorem d_leqSlot{B B2:Nat}{vs vs2:List Value}{x:Slot}{w:World}(h:Enc.Rd B w vs x)(h2:Enc.Rd B2 w vs2 x) :
  Calls Tryz.prog 158 #[.agg vs.toArray,.agg vs2.toArray] w (Gives w (.bool true)):=by
 obtain⟨rfl,hok⟩:=h
 obtain⟨rfl,-⟩:=h2
 have HOK:=lH hok;clear hok
 go_enter Tryz.func158,Tryz.ntmps158
 go_wp2_with fail
 go_ret
 exact Gives.mk rfl
theorem d_lszSlotS{B:Nat}{a:Option Addr}{c:Nat}{l:List Slot}{left:Int}{w:World}(hs:RdS B w a c l)(hl:0≤left)(hl2:left≤1048576) :
  Calls Tryz.prog 89 #[.slice a l.length c,.int .i64 left] w (Gives w (.int .i64 (szD left (totL l)))):=by
 have hmx:=hs.max
 have hln:=totL_len l
 obtain⟨n,hn⟩:∃ n,l.length=n:=⟨_,rfl⟩
 rw[hn]at hln hmx
 rw[hn]
 have HN:=lH hn;clear hn
 have htl:totL l=n:=by rw[← HN.out];clear hs HN hmx hln;induction l with|nil=>rfl|cons x r ih=>simp only[totL,List.length_cons,ih];show 1+0+_=_;omega
 rw[htl];clear htl hln hs
 by_cases h:left - n<0
 ·rw[szD_neg h]
  go_enter Tryz.func89,Tryz.ntmps89
  go_wp2_with fail
  go_ret
  exact Gives.mk rfl
 ·rw[szD_pos h]
  go_enter Tryz.func89,Tryz.ntmps89
  go_wp2_with fail
  go_ret
  exact Gives.mk rfl
theorem d_leqSlotS{B B2:Nat}{a a2:Option Addr}{c c2:Nat}{l:List Slot}{w:World}(hs:RdS B w a c l)(hs2:RdS B2 w a2 c2 l) :
  Calls Tryz.prog 72 #[.slice a l.length c,.slice a2 l.length c2] w (Gives w (.bool true)):=by
 have hmx:=hs.max
 obtain⟨n,hn⟩:∃ n,l.length=n:=⟨_,rfl⟩
 rw[hn]at hmx
 rw[hn]
 have HN:=lH hn;clear hn
 have kn:((n:Int) != (n:Int))=false:=by simp
 go_enter Tryz.func72,Tryz.ntmps72
 go_wp2_with fail
 go_loopw [5] (fun v wr=>∃ k:Nat,v=.int .i64 k∧k≤n∧∃ x:Later w,wr=x.w) (fun v _=>(n - intOf v).toNat)
 case atStart=>exact⟨0,rfl,by omega,Later.of⟩
 case round =>
  obtain⟨k,rfl,hk,x,rfl⟩:=hrel
  by_cases h:k<n
  ·have hlk:k<l.length:=by have:=HN.out;omega
   obtain⟨eb,eoff,ex,rfl,ehb,ehd,eok,eh0,eh1⟩:=hs.atSlot (show k<l.length by omega)
   obtain⟨fb,foff,fx,rfl,fhb,fhd,fok,fh0,fh1⟩:=hs2.atSlot (show k<l.length by omega)
   obtain rfl:ex=fx:=by have:=ehd.out.symm.trans fhd.out;simpa using this
   clear ehd fhd hlk hs hs2
   have ce:∀ {W:World} [Grows w W],Calls Tryz.prog 158 #[.agg #[.int .i64 ex.Time,.int .i64 ex.Id],.agg #[.int .i64 ex.Time,.int .i64 ex.Id]] W (Gives W (.bool true)):=fun {W} _=>d_leqSlot (B:=0) (B2:=0) (x:=ex) ⟨rfl,eok⟩ ⟨rfl,fok⟩
   clear eok fok
   go_wp2_with (first|((with_reducible refine wp_region_later (by kernel_rfl) (by kernel_rfl) ?_);(repeat(first|go_big_quiet_step (first|(go_at_call 158;exact Gives.quiet (ce)))));refine wpQuiet_nil ?_;rintro _ ⟨x,rfl⟩)|(go_at_call 158;refine(ce).mono ?_;rintro _ _ ⟨rfl,x,rfl⟩))
   go_roundw
   case rel=>exact⟨k+1,by go_num,by omega,Later.of⟩
   case measure=>simp[intOf];omega
  ·go_wp2_with fail
   go_ret
   exact Gives.mk rfl
theorem d_ltoFlight{B:Nat}{vs:List Value}{x:TFlight}{w:World}(h:Enc.Rd B w vs x)(ht:Enc.tot x≤1048576) :
  Calls Tryz.prog 203 #[.agg vs.toArray] w (GivesD w x):=by
 obtain⟨rfl,hok⟩:=h
 clear ht
 have HOK:=lH hok;clear hok
 go_enter Tryz.func203,Tryz.ntmps203
 go_wp2_with fail
 refine bodyPost_ret (v:=.agg #[.int .i64 x.At,.string x.Data]) ?_ rfl ⟨[.int .i64 x.At,.string x.Data],rfl,⟨rfl,HOK.out⟩,Later.of⟩
 simp[results,Tryz.results203,go_sem]
theorem d_lszFlight{B:Nat}{vs:List Value}{x:TFlight}{left:Int}{w:World}(h:Enc.Rd B w vs x)(hl:0≤left)(hl2:left≤1048576) :
  Calls Tryz.prog 187 #[.agg vs.toArray,.int .i64 left] w (Gives w (.int .i64 (szD left (Enc.tot x)))):=by
 obtain⟨rfl,hok⟩:=h
 have n0:(0:Int)≤x.Data.size:=by omega
 have z0:x.Data.size≤9223372036854775807:=hok.2.1
 have HOK:=lH hok;clear hok
 have htot:Enc.tot x=(x.Data.size:Int):=rfl
 have HTOT:=lH htot;clear htot
 go_enter Tryz.func187,Tryz.ntmps187
 by_cases h0:left - (x.Data.size:Int)<0
 ·have HV:=lH (show szD left (Enc.tot x)=-1 from szD_neg (by rw[HTOT.out];omega))
  go_wp2_with fail
  go_ret
  exact Gives.mk (by rw[HV.out];rfl)
 have HV:=lH (show szD left (Enc.tot x)=left - (x.Data.size:Int)by rw[szD_pos (by rw[HTOT.out];omega),HTOT.out]<;>omega)
 go_wp2_with fail
 go_ret
 exact Gives.mk (by rw[HV.out];rfl)
theorem d_leqFlight{B B2:Nat}{vs vs2:List Value}{x:TFlight}{w:World}(h:Enc.Rd B w vs x)(h2:Enc.Rd B2 w vs2 x) :
  Calls Tryz.prog 159 #[.agg vs.toArray,.agg vs2.toArray] w (Gives w (.bool true)):=by
 obtain⟨rfl,hok⟩:=h
 obtain⟨rfl,-⟩:=h2
 have HOK:=lH hok;clear hok
 go_enter Tryz.func159,Tryz.ntmps159
 go_wp2_with fail
 go_ret
 exact Gives.mk rfl
set_option maxRecDepth 100000 in
set_option maxHeartbeats 2000000 in
theorem d_lszFlightS{B:Nat}{a:Option Addr}{c:Nat}{l:List TFlight}{left:Int}{w:World}(hs:RdS B w a c l)(hl:0≤left)(hl2:left≤1048576) :
  Calls Tryz.prog 90 #[.slice a l.length c,.int .i64 left] w (Gives w (.int .i64 (szD left (totL l)))):=by
 have hmx:=hs.max
 have hln:=totL_len l
 obtain⟨n,hn⟩:∃ n,l.length=n:=⟨_,rfl⟩
 rw[hn]at hln hmx
 rw[hn]
 have HN:=lH hn;clear hn
 by_cases h:left - n<0
 ·have HV:=lH (show szD left (totL l)=-1 from szD_neg (by omega))
  go_enter Tryz.func90,Tryz.ntmps90
  go_wp2_with fail
  go_ret
  exact Gives.mk (by rw[HV.out];rfl)
 ·go_enter Tryz.func90,Tryz.ntmps90
  go_wp2_with fail
  go_loopw [1,5] (fun u v wr=>∃ (k:Nat) (r:Int),v=.int .i64 k∧u=.int .i64 r∧k≤n∧0≤r∧r≤1048576∧Hid (r - totL (l.drop k)+(n - k)=left - totL l)∧∃ x:Later w,wr=x.w) (fun _ v _=>(n - intOf v).toNat)
  case atStart=>exact⟨0,left - n,rfl,by go_num,by omega,by omega,by omega,by unfold Hid;rw[List.drop_zero];omega,Later.of⟩
  case round =>
   obtain⟨k,r,rfl,rfl,hk,hr,hr2,hf,x,rfl⟩:=hrel
   by_cases h2:k<n
   ·have hlk:k<l.length:=by have:=HN.out;omega
    obtain⟨eb,eoff,ex,rfl,ehb,ehd,eok,eh0,eh1⟩:=hs.atTFlight (show k<l.length by omega)
    have hd2:=totL_len (l.drop (k+1))
    have HD2:=lH (show((n:Int) - k - 1≤totL (l.drop (k+1)))by rw[List.length_drop,HN.out]at hd2;omega);clear hd2 hlk
    have ht0:=Enc.tot_nonneg ex
    obtain⟨t,htt⟩:∃ t,Enc.tot ex=t:=⟨_,rfl⟩
    have hf2:Hid (r - (1+t+totL (l.drop (k+1)))+(n - k)=left - totL l):=by
     have:=hf.out;rw[ehd.out]at this;rw[← htt];exact this
    rw[htt]at ht0
    have HTT:=lH htt;clear htt hf
    have HEOK:=lH eok;clear eok
    go_wp2_with fail
    refine(d_lszFlight (B:=0) (x:=ex) ⟨rfl,HEOK.out⟩ (by omega) (by omega)).mono ?_
    rintro _ _ ⟨rfl,y,rfl⟩
    rw[HTT.out]
    by_cases h3:r - t<0
    ·have HV:=lH (show szD left (totL l)=-1 from szD_neg (by have h7:=hf2.out;have h8:=HD2.out;omega))
     rw[szD_neg h3]
     go_wp2_with fail
     go_ret
     exact Gives.mk (by rw[HV.out];rfl)
    ·rw[szD_pos h3]
     go_wp2_with fail
     go_roundw
     case rel=>exact⟨k+1,r - t,by go_num,by go_num,by omega,by omega,by omega,by have h7:=hf2.out;unfold Hid;omega,Later.of⟩
     case measure=>simp[intOf];omega
   ·have HV:=lH (show szD left (totL l)=r by
     have h7:=hf.out
     rw[List.drop_of_length_le (by have:=HN.out;omega)]at h7
     simp only[totL]at h7
     rw[szD_pos (by omega)];omega)
    go_wp2_with fail
    go_ret
    exact Gives.mk (by rw[HV.out];rfl)
theorem d_leqFlightS{B B2:Nat}{a a2:Option Addr}{c c2:Nat}{l:List TFlight}{w:World}(hs:RdS B w a c l)(hs2:RdS B2 w a2 c2 l) :
  Calls Tryz.prog 74 #[.slice a l.length c,.slice a2 l.length c2] w (Gives w (.bool true)):=by
 have hmx:=hs.max
 obtain⟨n,hn⟩:∃ n,l.length=n:=⟨_,rfl⟩
 rw[hn]at hmx
 rw[hn]
 have HN:=lH hn;clear hn
 have kn:((n:Int) != (n:Int))=false:=by simp
 go_enter Tryz.func74,Tryz.ntmps74
 go_wp2_with fail
 go_loopw [5] (fun v wr=>∃ k:Nat,v=.int .i64 k∧k≤n∧∃ x:Later w,wr=x.w) (fun v _=>(n - intOf v).toNat)
 case atStart=>exact⟨0,rfl,by omega,Later.of⟩
 case round =>
  obtain⟨k,rfl,hk,x,rfl⟩:=hrel
  by_cases h:k<n
  ·have hlk:k<l.length:=by have:=HN.out;omega
   obtain⟨eb,eoff,ex,rfl,ehb,ehd,eok,eh0,eh1⟩:=hs.atTFlight (show k<l.length by omega)
   obtain⟨fb,foff,fx,rfl,fhb,fhd,fok,fh0,fh1⟩:=hs2.atTFlight (show k<l.length by omega)
   obtain rfl:ex=fx:=by have:=ehd.out.symm.trans fhd.out;simpa using this
   clear ehd fhd hlk hs hs2
   have ce:∀ {W:World} [Grows w W],Calls Tryz.prog 159 #[.agg #[.int .i64 ex.At,.string ex.Data],.agg #[.int .i64 ex.At,.string ex.Data]] W (Gives W (.bool true)):=fun {W} _=>d_leqFlight (B:=0) (B2:=0) (x:=ex) ⟨rfl,eok⟩ ⟨rfl,fok⟩
   clear eok fok
   go_wp2_with (first|((with_reducible refine wp_region_later (by kernel_rfl) (by kernel_rfl) ?_);(repeat(first|go_big_quiet_step (first|(go_at_call 159;exact Gives.quiet (ce)))));refine wpQuiet_nil ?_;rintro _ ⟨x,rfl⟩)|(go_at_call 159;refine(ce).mono ?_;rintro _ _ ⟨rfl,x,rfl⟩))
   go_roundw
   case rel=>exact⟨k+1,by go_num,by omega,Later.of⟩
   case measure=>simp[intOf];omega
  ·go_wp2_with fail
   go_ret
   exact Gives.mk rfl
theorem d_ltoUnpacker{B:Nat}{vs:List Value}{x:TUnpacker}{w:World}(h:Enc.Rd B w vs x)(ht:Enc.tot x≤1048576) :
  Calls Tryz.prog 206 #[.agg vs.toArray] w (GivesD w x):=by
 obtain⟨rfl,hok⟩:=h
 clear ht
 have HOK:=lH hok;clear hok
 go_enter Tryz.func206,Tryz.ntmps206
 go_wp2_with fail
 refine bodyPost_ret (v:=.agg #[.int .i64 x.Channel,.int .i64 x.Next,.bool x.Synced,.string x.Rest,.int .i64 x.Lost]) ?_ rfl ⟨[.int .i64 x.Channel,.int .i64 x.Next,.bool x.Synced,.string x.Rest,.int .i64 x.Lost],rfl,⟨rfl,HOK.out⟩,Later.of⟩
 simp[results,Tryz.results206,go_sem]
theorem d_lszUnpacker{B:Nat}{vs:List Value}{x:TUnpacker}{left:Int}{w:World}(h:Enc.Rd B w vs x)(hl:0≤left)(hl2:left≤1048576) :
  Calls Tryz.prog 189 #[.agg vs.toArray,.int .i64 left] w (Gives w (.int .i64 (szD left (Enc.tot x)))):=by
 obtain⟨rfl,hok⟩:=h
 have n0:(0:Int)≤x.Rest.size:=by omega
 have z0:x.Rest.size≤9223372036854775807:=hok.2.2.1
 have HOK:=lH hok;clear hok
 have htot:Enc.tot x=(x.Rest.size:Int):=rfl
 have HTOT:=lH htot;clear htot
 go_enter Tryz.func189,Tryz.ntmps189
 by_cases h0:left - (x.Rest.size:Int)<0
 ·have HV:=lH (show szD left (Enc.tot x)=-1 from szD_neg (by rw[HTOT.out];omega))
  go_wp2_with fail
  go_ret
  exact Gives.mk (by rw[HV.out];rfl)
 have HV:=lH (show szD left (Enc.tot x)=left - (x.Rest.size:Int)by rw[szD_pos (by rw[HTOT.out];omega),HTOT.out]<;>omega)
 go_wp2_with fail
 go_ret
 exact Gives.mk (by rw[HV.out];rfl)
theorem d_leqUnpacker{B B2:Nat}{vs vs2:List Value}{x:TUnpacker}{w:World}(h:Enc.Rd B w vs x)(h2:Enc.Rd B2 w vs2 x) :
  Calls Tryz.prog 162 #[.agg vs.toArray,.agg vs2.toArray] w (Gives w (.bool true)):=by
 obtain⟨rfl,hok⟩:=h
 obtain⟨rfl,-⟩:=h2
 have HOK:=lH hok;clear hok
 go_enter Tryz.func162,Tryz.ntmps162
 go_wp2_with fail
 go_ret
 exact Gives.mk rfl
end Go.Proofs.YtbaffippdifbpaaGreat
namespace Go.Proofs.YtbaffippdifbpaaGreat
set_option linter.unusedVariables false
open Go.ChangeShapes Go.WideShapes Go.ChangeAt Go.RowKit
theorem ofTSent{w:World}(vs:List Value)(hl:vs.length=2)(h:RdL w [.int,.str] vs):∃ x:TSent,Enc.Rd 0 w vs x:=by
 obtain⟨u0,g0,r0⟩:=h.at (j:=0) rfl
 obtain⟨x0,rfl,p0⟩:=r0.int_inv
 obtain⟨u1,g1,r1⟩:=h.at (j:=1) rfl
 obtain⟨x1,rfl,p1⟩:=r1.str_inv
 replace p1:x1.size≤9223372036854775807:=by unfold maxLen at p1;omega
 refine⟨⟨x0,x1⟩,⟨list_all hl ?_,⟨p0,p1,trivial⟩⟩⟩
 intro j y hy
 match j,hy with
 | 0,hy=>cases hy;exact g0
 | 1,hy=>cases hy;exact g1
theorem ofTOrder{w:World}(vs:List Value)(hl:vs.length=4)(h:RdL w [.int,.int,.int,.int] vs):∃ x:TOrder,Enc.Rd 0 w vs x:=by
 obtain⟨u0,g0,r0⟩:=h.at (j:=0) rfl
 obtain⟨x0,rfl,p0⟩:=r0.int_inv
 obtain⟨u1,g1,r1⟩:=h.at (j:=1) rfl
 obtain⟨x1,rfl,p1⟩:=r1.int_inv
 obtain⟨u2,g2,r2⟩:=h.at (j:=2) rfl
 obtain⟨x2,rfl,p2⟩:=r2.int_inv
 obtain⟨u3,g3,r3⟩:=h.at (j:=3) rfl
 obtain⟨x3,rfl,p3⟩:=r3.int_inv
 refine⟨⟨x0,x1,x2,x3⟩,⟨list_all hl ?_,⟨p0,p1,p2,p3,trivial⟩⟩⟩
 intro j y hy
 match j,hy with
 | 0,hy=>cases hy;exact g0
 | 1,hy=>cases hy;exact g1
 | 2,hy=>cases hy;exact g2
 | 3,hy=>cases hy;exact g3
theorem ofTRecord{w:World}(vs:List Value)(hl:vs.length=4)(h:RdL w [.int,.int,.int,.str] vs):∃ x:TRecord,Enc.Rd 0 w vs x:=by
 obtain⟨u0,g0,r0⟩:=h.at (j:=0) rfl
 obtain⟨x0,rfl,p0⟩:=r0.int_inv
 obtain⟨u1,g1,r1⟩:=h.at (j:=1) rfl
 obtain⟨x1,rfl,p1⟩:=r1.int_inv
 obtain⟨u2,g2,r2⟩:=h.at (j:=2) rfl
 obtain⟨x2,rfl,p2⟩:=r2.int_inv
 obtain⟨u3,g3,r3⟩:=h.at (j:=3) rfl
 obtain⟨x3,rfl,p3⟩:=r3.str_inv
 replace p3:x3.size≤9223372036854775807:=by unfold maxLen at p3;omega
 refine⟨⟨x0,x1,x2,x3⟩,⟨list_all hl ?_,⟨p0,p1,p2,p3,trivial⟩⟩⟩
 intro j y hy
 match j,hy with
 | 0,hy=>cases hy;exact g0
 | 1,hy=>cases hy;exact g1
 | 2,hy=>cases hy;exact g2
 | 3,hy=>cases hy;exact g3
theorem ofTLimit{w:World}(vs:List Value)(hl:vs.length=3)(h:RdL w [.int,.int,.int] vs):∃ x:TLimit,Enc.Rd 0 w vs x:=by
 obtain⟨u0,g0,r0⟩:=h.at (j:=0) rfl
 obtain⟨x0,rfl,p0⟩:=r0.int_inv
 obtain⟨u1,g1,r1⟩:=h.at (j:=1) rfl
 obtain⟨x1,rfl,p1⟩:=r1.int_inv
 obtain⟨u2,g2,r2⟩:=h.at (j:=2) rfl
 obtain⟨x2,rfl,p2⟩:=r2.int_inv
 refine⟨⟨x0,x1,x2⟩,⟨list_all hl ?_,⟨p0,p1,p2,trivial⟩⟩⟩
 intro j y hy
 match j,hy with
 | 0,hy=>cases hy;exact g0
 | 1,hy=>cases hy;exact g1
 | 2,hy=>cases hy;exact g2
theorem ofTWaiting{w:World}(vs:List Value)(hl:vs.length=5)(h:RdL w [.int,.int,.int,.int,.int] vs):∃ x:TWaiting,Enc.Rd 0 w vs x:=by
 obtain⟨u0,g0,r0⟩:=h.at (j:=0) rfl
 obtain⟨x0,rfl,p0⟩:=r0.int_inv
 obtain⟨u1,g1,r1⟩:=h.at (j:=1) rfl
 obtain⟨x1,rfl,p1⟩:=r1.int_inv
 obtain⟨u2,g2,r2⟩:=h.at (j:=2) rfl
 obtain⟨x2,rfl,p2⟩:=r2.int_inv
 obtain⟨u3,g3,r3⟩:=h.at (j:=3) rfl
 obtain⟨x3,rfl,p3⟩:=r3.int_inv
 obtain⟨u4,g4,r4⟩:=h.at (j:=4) rfl
 obtain⟨x4,rfl,p4⟩:=r4.int_inv
 refine⟨⟨x0,⟨x1,x2,x3,x4⟩⟩,⟨list_all hl ?_,⟨p0,⟨p1,p2,p3,p4,trivial⟩,trivial⟩⟩⟩
 intro j y hy
 match j,hy with
 | 0,hy=>cases hy;exact g0
 | 1,hy=>cases hy;exact g1
 | 2,hy=>cases hy;exact g2
 | 3,hy=>cases hy;exact g3
 | 4,hy=>cases hy;exact g4
theorem ofTDone{w:World}(vs:List Value)(hl:vs.length=3)(h:RdL w [.int,.int,.int] vs):∃ x:TDone,Enc.Rd 0 w vs x:=by
 obtain⟨u0,g0,r0⟩:=h.at (j:=0) rfl
 obtain⟨x0,rfl,p0⟩:=r0.int_inv
 obtain⟨u1,g1,r1⟩:=h.at (j:=1) rfl
 obtain⟨x1,rfl,p1⟩:=r1.int_inv
 obtain⟨u2,g2,r2⟩:=h.at (j:=2) rfl
 obtain⟨x2,rfl,p2⟩:=r2.int_inv
 refine⟨⟨x0,x1,x2⟩,⟨list_all hl ?_,⟨p0,p1,p2,trivial⟩⟩⟩
 intro j y hy
 match j,hy with
 | 0,hy=>cases hy;exact g0
 | 1,hy=>cases hy;exact g1
 | 2,hy=>cases hy;exact g2
theorem ofTFileIn{w:World}(vs:List Value)(hl:vs.length=4)(h:RdL w [.int,.int,.int,.sl [.str]] vs):∃ x:TFileIn,Enc.Rd 0 w vs x:=by
 obtain⟨u0,g0,r0⟩:=h.at (j:=0) rfl
 obtain⟨x0,rfl,p0⟩:=r0.int_inv
 obtain⟨u1,g1,r1⟩:=h.at (j:=1) rfl
 obtain⟨x1,rfl,p1⟩:=r1.int_inv
 obtain⟨u2,g2,r2⟩:=h.at (j:=2) rfl
 obtain⟨x2,rfl,p2⟩:=r2.int_inv
 obtain⟨u3,g3,r3⟩:=h.at (j:=3) rfl
 obtain⟨a3,c3,x3,rfl,p3⟩:=openS (α:=ByteArray) (es:=[.str]) rfl openStr r3
 refine⟨⟨x0,x1,x2,x3⟩,⟨a3,c3,list_all hl ?_,p3,⟨p0,p1,p2,trivial⟩⟩⟩
 intro j y hy
 match j,hy with
 | 0,hy=>cases hy;exact g0
 | 1,hy=>cases hy;exact g1
 | 2,hy=>cases hy;exact g2
 | 3,hy=>cases hy;exact g3
theorem ofTFileOut{w:World}(vs:List Value)(hl:vs.length=4)(h:RdL w [.int,.str,.sl [.int],.bool] vs):∃ x:TFileOut,Enc.Rd 0 w vs x:=by
 obtain⟨u0,g0,r0⟩:=h.at (j:=0) rfl
 obtain⟨x0,rfl,p0⟩:=r0.int_inv
 obtain⟨u1,g1,r1⟩:=h.at (j:=1) rfl
 obtain⟨x1,rfl,p1⟩:=r1.str_inv
 replace p1:x1.size≤9223372036854775807:=by unfold maxLen at p1;omega
 obtain⟨u2,g2,r2⟩:=h.at (j:=2) rfl
 obtain⟨a2,c2,x2,rfl,p2⟩:=openS (α:=Int) (es:=[.int]) rfl openInt r2
 obtain⟨u3,g3,r3⟩:=h.at (j:=3) rfl
 obtain⟨x3,rfl⟩:=r3.bool_inv
 refine⟨⟨x0,x1,x2,x3⟩,⟨a2,c2,list_all hl ?_,p2,⟨p0,p1,trivial⟩⟩⟩
 intro j y hy
 match j,hy with
 | 0,hy=>cases hy;exact g0
 | 1,hy=>cases hy;exact g1
 | 2,hy=>cases hy;exact g2
 | 3,hy=>cases hy;exact g3
theorem ofPair{w:World}(vs:List Value)(hl:vs.length=2)(h:RdL w [.int,.int] vs):∃ x:Pair,Enc.Rd 0 w vs x:=by
 obtain⟨u0,g0,r0⟩:=h.at (j:=0) rfl
 obtain⟨x0,rfl,p0⟩:=r0.int_inv
 obtain⟨u1,g1,r1⟩:=h.at (j:=1) rfl
 obtain⟨x1,rfl,p1⟩:=r1.int_inv
 refine⟨⟨x0,x1⟩,⟨list_all hl ?_,⟨p0,p1,trivial⟩⟩⟩
 intro j y hy
 match j,hy with
 | 0,hy=>cases hy;exact g0
 | 1,hy=>cases hy;exact g1
theorem ofSlot{w:World}(vs:List Value)(hl:vs.length=2)(h:RdL w [.int,.int] vs):∃ x:Slot,Enc.Rd 0 w vs x:=by
 obtain⟨u0,g0,r0⟩:=h.at (j:=0) rfl
 obtain⟨x0,rfl,p0⟩:=r0.int_inv
 obtain⟨u1,g1,r1⟩:=h.at (j:=1) rfl
 obtain⟨x1,rfl,p1⟩:=r1.int_inv
 refine⟨⟨x0,x1⟩,⟨list_all hl ?_,⟨p0,p1,trivial⟩⟩⟩
 intro j y hy
 match j,hy with
 | 0,hy=>cases hy;exact g0
 | 1,hy=>cases hy;exact g1
theorem ofTFlight{w:World}(vs:List Value)(hl:vs.length=2)(h:RdL w [.int,.str] vs):∃ x:TFlight,Enc.Rd 0 w vs x:=by
 obtain⟨u0,g0,r0⟩:=h.at (j:=0) rfl
 obtain⟨x0,rfl,p0⟩:=r0.int_inv
 obtain⟨u1,g1,r1⟩:=h.at (j:=1) rfl
 obtain⟨x1,rfl,p1⟩:=r1.str_inv
 replace p1:x1.size≤9223372036854775807:=by unfold maxLen at p1;omega
 refine⟨⟨x0,x1⟩,⟨list_all hl ?_,⟨p0,p1,trivial⟩⟩⟩
 intro j y hy
 match j,hy with
 | 0,hy=>cases hy;exact g0
 | 1,hy=>cases hy;exact g1
theorem ofTMission{w:World}(vs:List Value)(hl:vs.length=61)(h:RdL w [.int,.int,.int,.int,.int,.int,.int,.sl [.int,.int],.int,.int,.int,.int,.int,.int,.sl [.int,.str],.sl [.int,.str],.sl [.str],.int,.int,.sl [.int,.str],.int,.int,.bool,.bool,.int,.int,.bool,.str,.int,.sl [.int,.int],.sl [.int,.int,.int,.str],.sl [.int,.int,.int,.sl [.str]],.sl [.bool],.int,.bool,.bool,.int,.int,.sl [.int],.bool,.sl [.int,.int,.int],.sl [.int,.int,.int,.int,.int],.sl [.int,.int,.int],.int,.sl [.int,.int,.int,.str],.sl [.int],.int,.int,.sl [.int],.int,.int,.str,.sl [.int],.int,.sl [.str],.sl [.int,.str,.sl [.int],.bool],.int,.sl [.int,.int,.int,.str],.sl [.str],.sl [.str],.int] vs):∃ x:TMission,Enc.Rd 0 w vs x:=by
 obtain⟨u0,g0,r0⟩:=h.at (j:=0) rfl
 obtain⟨x0,rfl,p0⟩:=r0.int_inv
 obtain⟨u1,g1,r1⟩:=h.at (j:=1) rfl
 obtain⟨x1,rfl,p1⟩:=r1.int_inv
 obtain⟨u2,g2,r2⟩:=h.at (j:=2) rfl
 obtain⟨x2,rfl,p2⟩:=r2.int_inv
 obtain⟨u3,g3,r3⟩:=h.at (j:=3) rfl
 obtain⟨x3,rfl,p3⟩:=r3.int_inv
 obtain⟨u4,g4,r4⟩:=h.at (j:=4) rfl
 obtain⟨x4,rfl,p4⟩:=r4.int_inv
 obtain⟨u5,g5,r5⟩:=h.at (j:=5) rfl
 obtain⟨x5,rfl,p5⟩:=r5.int_inv
 obtain⟨u6,g6,r6⟩:=h.at (j:=6) rfl
 obtain⟨x6,rfl,p6⟩:=r6.int_inv
 obtain⟨u7,g7,r7⟩:=h.at (j:=7) rfl
 obtain⟨a7,c7,x7,rfl,p7⟩:=openS (α:=Slot) (es:=[.int,.int]) rfl ofSlot r7
 obtain⟨u8,g8,r8⟩:=h.at (j:=8) rfl
 obtain⟨x8,rfl,p8⟩:=r8.int_inv
 obtain⟨u9,g9,r9⟩:=h.at (j:=9) rfl
 obtain⟨x9,rfl,p9⟩:=r9.int_inv
 obtain⟨u10,g10,r10⟩:=h.at (j:=10) rfl
 obtain⟨x10,rfl,p10⟩:=r10.int_inv
 obtain⟨u11,g11,r11⟩:=h.at (j:=11) rfl
 obtain⟨x11,rfl,p11⟩:=r11.int_inv
 obtain⟨u12,g12,r12⟩:=h.at (j:=12) rfl
 obtain⟨x12,rfl,p12⟩:=r12.int_inv
 obtain⟨u13,g13,r13⟩:=h.at (j:=13) rfl
 obtain⟨x13,rfl,p13⟩:=r13.int_inv
 obtain⟨u14,g14,r14⟩:=h.at (j:=14) rfl
 obtain⟨a14,c14,x14,rfl,p14⟩:=openS (α:=TFlight) (es:=[.int,.str]) rfl ofTFlight r14
 obtain⟨u15,g15,r15⟩:=h.at (j:=15) rfl
 obtain⟨a15,c15,x15,rfl,p15⟩:=openS (α:=TFlight) (es:=[.int,.str]) rfl ofTFlight r15
 obtain⟨u16,g16,r16⟩:=h.at (j:=16) rfl
 obtain⟨a16,c16,x16,rfl,p16⟩:=openS (α:=ByteArray) (es:=[.str]) rfl openStr r16
 obtain⟨u17,g17,r17⟩:=h.at (j:=17) rfl
 obtain⟨x17,rfl,p17⟩:=r17.int_inv
 obtain⟨u18,g18,r18⟩:=h.at (j:=18) rfl
 obtain⟨x18,rfl,p18⟩:=r18.int_inv
 obtain⟨u19,g19,r19⟩:=h.at (j:=19) rfl
 obtain⟨a19,c19,x19,rfl,p19⟩:=openS (α:=TSent) (es:=[.int,.str]) rfl ofTSent r19
 obtain⟨u20,g20,r20⟩:=h.at (j:=20) rfl
 obtain⟨x20,rfl,p20⟩:=r20.int_inv
 obtain⟨u21,g21,r21⟩:=h.at (j:=21) rfl
 obtain⟨x21,rfl,p21⟩:=r21.int_inv
 obtain⟨u22,g22,r22⟩:=h.at (j:=22) rfl
 obtain⟨x22,rfl⟩:=r22.bool_inv
 obtain⟨u23,g23,r23⟩:=h.at (j:=23) rfl
 obtain⟨x23,rfl⟩:=r23.bool_inv
 obtain⟨u24,g24,r24⟩:=h.at (j:=24) rfl
 obtain⟨x24,rfl,p24⟩:=r24.int_inv
 obtain⟨u25,g25,r25⟩:=h.at (j:=25) rfl
 obtain⟨x25,rfl,p25⟩:=r25.int_inv
 obtain⟨u26,g26,r26⟩:=h.at (j:=26) rfl
 obtain⟨x26,rfl⟩:=r26.bool_inv
 obtain⟨u27,g27,r27⟩:=h.at (j:=27) rfl
 obtain⟨x27,rfl,p27⟩:=r27.str_inv
 replace p27:x27.size≤9223372036854775807:=by unfold maxLen at p27;omega
 obtain⟨u28,g28,r28⟩:=h.at (j:=28) rfl
 obtain⟨x28,rfl,p28⟩:=r28.int_inv
 obtain⟨u29,g29,r29⟩:=h.at (j:=29) rfl
 obtain⟨a29,c29,x29,rfl,p29⟩:=openS (α:=Pair) (es:=[.int,.int]) rfl ofPair r29
 obtain⟨u30,g30,r30⟩:=h.at (j:=30) rfl
 obtain⟨a30,c30,x30,rfl,p30⟩:=openS (α:=TRecord) (es:=[.int,.int,.int,.str]) rfl ofTRecord r30
 obtain⟨u31,g31,r31⟩:=h.at (j:=31) rfl
 obtain⟨a31,c31,x31,rfl,p31⟩:=openS (α:=TFileIn) (es:=[.int,.int,.int,.sl [.str]]) rfl ofTFileIn r31
 obtain⟨u32,g32,r32⟩:=h.at (j:=32) rfl
 obtain⟨a32,c32,x32,rfl,p32⟩:=openS (α:=Bool) (es:=[.bool]) rfl openBool r32
 obtain⟨u33,g33,r33⟩:=h.at (j:=33) rfl
 obtain⟨x33,rfl,p33⟩:=r33.int_inv
 obtain⟨u34,g34,r34⟩:=h.at (j:=34) rfl
 obtain⟨x34,rfl⟩:=r34.bool_inv
 obtain⟨u35,g35,r35⟩:=h.at (j:=35) rfl
 obtain⟨x35,rfl⟩:=r35.bool_inv
 obtain⟨u36,g36,r36⟩:=h.at (j:=36) rfl
 obtain⟨x36,rfl,p36⟩:=r36.int_inv
 obtain⟨u37,g37,r37⟩:=h.at (j:=37) rfl
 obtain⟨x37,rfl,p37⟩:=r37.int_inv
 obtain⟨u38,g38,r38⟩:=h.at (j:=38) rfl
 obtain⟨a38,c38,x38,rfl,p38⟩:=openS (α:=Int) (es:=[.int]) rfl openInt r38
 obtain⟨u39,g39,r39⟩:=h.at (j:=39) rfl
 obtain⟨x39,rfl⟩:=r39.bool_inv
 obtain⟨u40,g40,r40⟩:=h.at (j:=40) rfl
 obtain⟨a40,c40,x40,rfl,p40⟩:=openS (α:=TLimit) (es:=[.int,.int,.int]) rfl ofTLimit r40
 obtain⟨u41,g41,r41⟩:=h.at (j:=41) rfl
 obtain⟨a41,c41,x41,rfl,p41⟩:=openS (α:=TWaiting) (es:=[.int,.int,.int,.int,.int]) rfl ofTWaiting r41
 obtain⟨u42,g42,r42⟩:=h.at (j:=42) rfl
 obtain⟨a42,c42,x42,rfl,p42⟩:=openS (α:=TDone) (es:=[.int,.int,.int]) rfl ofTDone r42
 obtain⟨u43,g43,r43⟩:=h.at (j:=43) rfl
 obtain⟨x43,rfl,p43⟩:=r43.int_inv
 obtain⟨u44,g44,r44⟩:=h.at (j:=44) rfl
 obtain⟨a44,c44,x44,rfl,p44⟩:=openS (α:=TRecord) (es:=[.int,.int,.int,.str]) rfl ofTRecord r44
 obtain⟨u45,g45,r45⟩:=h.at (j:=45) rfl
 obtain⟨a45,c45,x45,rfl,p45⟩:=openS (α:=Int) (es:=[.int]) rfl openInt r45
 obtain⟨u46,g46,r46⟩:=h.at (j:=46) rfl
 obtain⟨x46,rfl,p46⟩:=r46.int_inv
 obtain⟨u47,g47,r47⟩:=h.at (j:=47) rfl
 obtain⟨x47,rfl,p47⟩:=r47.int_inv
 obtain⟨u48,g48,r48⟩:=h.at (j:=48) rfl
 obtain⟨a48,c48,x48,rfl,p48⟩:=openS (α:=Int) (es:=[.int]) rfl openInt r48
 obtain⟨u49,g49,r49⟩:=h.at (j:=49) rfl
 obtain⟨x49,rfl,p49⟩:=r49.int_inv
 obtain⟨u50,g50,r50⟩:=h.at (j:=50) rfl
 obtain⟨x50,rfl,p50⟩:=r50.int_inv
 obtain⟨u51,g51,r51⟩:=h.at (j:=51) rfl
 obtain⟨x51,rfl,p51⟩:=r51.str_inv
 replace p51:x51.size≤9223372036854775807:=by unfold maxLen at p51;omega
 obtain⟨u52,g52,r52⟩:=h.at (j:=52) rfl
 obtain⟨a52,c52,x52,rfl,p52⟩:=openS (α:=Int) (es:=[.int]) rfl openInt r52
 obtain⟨u53,g53,r53⟩:=h.at (j:=53) rfl
 obtain⟨x53,rfl,p53⟩:=r53.int_inv
 obtain⟨u54,g54,r54⟩:=h.at (j:=54) rfl
 obtain⟨a54,c54,x54,rfl,p54⟩:=openS (α:=ByteArray) (es:=[.str]) rfl openStr r54
 obtain⟨u55,g55,r55⟩:=h.at (j:=55) rfl
 obtain⟨a55,c55,x55,rfl,p55⟩:=openS (α:=TFileOut) (es:=[.int,.str,.sl [.int],.bool]) rfl ofTFileOut r55
 obtain⟨u56,g56,r56⟩:=h.at (j:=56) rfl
 obtain⟨x56,rfl,p56⟩:=r56.int_inv
 obtain⟨u57,g57,r57⟩:=h.at (j:=57) rfl
 obtain⟨a57,c57,x57,rfl,p57⟩:=openS (α:=TRecord) (es:=[.int,.int,.int,.str]) rfl ofTRecord r57
 obtain⟨u58,g58,r58⟩:=h.at (j:=58) rfl
 obtain⟨a58,c58,x58,rfl,p58⟩:=openS (α:=ByteArray) (es:=[.str]) rfl openStr r58
 obtain⟨u59,g59,r59⟩:=h.at (j:=59) rfl
 obtain⟨a59,c59,x59,rfl,p59⟩:=openS (α:=ByteArray) (es:=[.str]) rfl openStr r59
 obtain⟨u60,g60,r60⟩:=h.at (j:=60) rfl
 obtain⟨x60,rfl,p60⟩:=r60.int_inv
 refine⟨⟨x0,x1,⟨x2,x3⟩,⟨x4,x5,x6⟩,x7,⟨x8,x9,x10⟩,⟨x11,x12,x13⟩,x14,x15,⟨x16,⟨x17,x18,x19,x20⟩,⟨x21,x22,x23⟩,⟨x24,x25,x26,x27,x28⟩,x29,x30,x31,x32⟩,⟨⟨x33,x34,x35,x36⟩,⟨x37,x38,x39,x40,x41,x42,⟨x43,x44,x45⟩,x46,x47,x48⟩,⟨x49,x50,x51,x52⟩,x53,x54,x55,x56,x57⟩,x58,x59,x60⟩,⟨⟨a7,c7,a14,c14,a15,c15,a16,c16,a19,c19,a29,c29,a30,c30,a31,c31,a32,c32,a38,c38,a40,c40,a41,c41,a42,c42,a44,c44,a45,c45,a48,c48,a52,c52,a54,c54,a55,c55,a57,c57,a58,c58,a59,c59⟩,list_all hl ?_,⟨p7,p14,p15,p16,p19,p29,p30,p31,p32,p38,p40,p41,p42,p44,p45,p48,p52,p54,p55,p57,p58,p59,⟨p0,p1,⟨p2,p3,trivial⟩,⟨p4,p5,p6,trivial⟩,⟨p8,p9,p10,trivial⟩,⟨p11,p12,p13,trivial⟩,⟨⟨p17,p18,p20,trivial⟩,⟨p21,trivial⟩,⟨p24,p25,p27,p28,trivial⟩,trivial⟩,⟨⟨p33,p36,trivial⟩,⟨p37,⟨p43,trivial⟩,p46,p47,trivial⟩,⟨p49,p50,p51,trivial⟩,p53,p56,trivial⟩,p60,trivial⟩⟩⟩⟩
 intro j y hy
 match j,hy with
 | 0,hy=>cases hy;exact g0
 | 1,hy=>cases hy;exact g1
 | 2,hy=>cases hy;exact g2
 | 3,hy=>cases hy;exact g3
 | 4,hy=>cases hy;exact g4
 | 5,hy=>cases hy;exact g5
 | 6,hy=>cases hy;exact g6
 | 7,hy=>cases hy;exact g7
 | 8,hy=>cases hy;exact g8
 | 9,hy=>cases hy;exact g9
 | 10,hy=>cases hy;exact g10
 | 11,hy=>cases hy;exact g11
 | 12,hy=>cases hy;exact g12
 | 13,hy=>cases hy;exact g13
 | 14,hy=>cases hy;exact g14
 | 15,hy=>cases hy;exact g15
 | 16,hy=>cases hy;exact g16
 | 17,hy=>cases hy;exact g17
 | 18,hy=>cases hy;exact g18
 | 19,hy=>cases hy;exact g19
 | 20,hy=>cases hy;exact g20
 | 21,hy=>cases hy;exact g21
 | 22,hy=>cases hy;exact g22
 | 23,hy=>cases hy;exact g23
 | 24,hy=>cases hy;exact g24
 | 25,hy=>cases hy;exact g25
 | 26,hy=>cases hy;exact g26
 | 27,hy=>cases hy;exact g27
 | 28,hy=>cases hy;exact g28
 | 29,hy=>cases hy;exact g29
 | 30,hy=>cases hy;exact g30
 | 31,hy=>cases hy;exact g31
 | 32,hy=>cases hy;exact g32
 | 33,hy=>cases hy;exact g33
 | 34,hy=>cases hy;exact g34
 | 35,hy=>cases hy;exact g35
 | 36,hy=>cases hy;exact g36
 | 37,hy=>cases hy;exact g37
 | 38,hy=>cases hy;exact g38
 | 39,hy=>cases hy;exact g39
 | 40,hy=>cases hy;exact g40
 | 41,hy=>cases hy;exact g41
 | 42,hy=>cases hy;exact g42
 | 43,hy=>cases hy;exact g43
 | 44,hy=>cases hy;exact g44
 | 45,hy=>cases hy;exact g45
 | 46,hy=>cases hy;exact g46
 | 47,hy=>cases hy;exact g47
 | 48,hy=>cases hy;exact g48
 | 49,hy=>cases hy;exact g49
 | 50,hy=>cases hy;exact g50
 | 51,hy=>cases hy;exact g51
 | 52,hy=>cases hy;exact g52
 | 53,hy=>cases hy;exact g53
 | 54,hy=>cases hy;exact g54
 | 55,hy=>cases hy;exact g55
 | 56,hy=>cases hy;exact g56
 | 57,hy=>cases hy;exact g57
 | 58,hy=>cases hy;exact g58
 | 59,hy=>cases hy;exact g59
 | 60,hy=>cases hy;exact g60
end Go.Proofs.YtbaffippdifbpaaGreat
namespace Go.Proofs.YtbaffippdifbpaaGreat
set_option linter.unusedVariables false
open Go.ChangeShapes Go.WideShapes Go.ChangeAt Go.RowKit
theorem d_lszIntS{B:Nat}{a:Option Addr}{c:Nat}{l:List Int}{left:Int}{w:World}(hs:RdS B w a c l)(hl:0≤left)(hl2:left≤1048576) :
  Calls Tryz.prog 276 #[.slice a l.length c,.int .i64 left] w (Gives w (.int .i64 (szD left (totL l)))):=by
 have hmx:=hs.max
 have hln:=totL_len l
 obtain⟨n,hn⟩:∃ n,l.length=n:=⟨_,rfl⟩
 rw[hn]at hln hmx
 rw[hn]
 have HN:=lH hn;clear hn
 have htl:totL l=n:=by rw[← HN.out];clear hs HN hmx hln;induction l with|nil=>rfl|cons x r ih=>simp only[totL,List.length_cons,ih];show 1+0+_=_;omega
 rw[htl];clear htl hln hs
 by_cases h:left - n<0
 ·rw[szD_neg h]
  go_enter Tryz.func276,Tryz.ntmps276
  go_wp2_with fail
  go_ret
  exact Gives.mk rfl
 ·rw[szD_pos h]
  go_enter Tryz.func276,Tryz.ntmps276
  go_wp2_with fail
  go_ret
  exact Gives.mk rfl
theorem d_leqIntS{B B2:Nat}{a a2:Option Addr}{c c2:Nat}{l:List Int}{w:World}(hs:RdS B w a c l)(hs2:RdS B2 w a2 c2 l) :
  Calls Tryz.prog 257 #[.slice a l.length c,.slice a2 l.length c2] w (Gives w (.bool true)):=by
 have hmx:=hs.max
 obtain⟨n,hn⟩:∃ n,l.length=n:=⟨_,rfl⟩
 rw[hn]at hmx
 rw[hn]
 have HN:=lH hn;clear hn
 have kn:((n:Int) != (n:Int))=false:=by simp
 go_enter Tryz.func257,Tryz.ntmps257
 go_wp2_with (first|((with_reducible refine wp_region_later (by kernel_rfl) (by kernel_rfl) ?_);(repeat(first|go_big_quiet_step (first|fail)|simp only[kn]));refine wpQuiet_nil ?_;rintro _ ⟨x,rfl⟩))
 go_loopw [5] (fun v wr=>∃ k:Nat,v=.int .i64 k∧k≤n∧∃ x:Later w,wr=x.w) (fun v _=>(n - intOf v).toNat)
 case atStart=>exact⟨0,rfl,by omega,Later.of⟩
 case round =>
  obtain⟨k,rfl,hk,x,rfl⟩:=hrel
  by_cases h:k<n
  ·have hlk:k<l.length:=by have:=HN.out;omega
   obtain⟨eb,eoff,ex,rfl,ehb,ehd,eok,eh0⟩:=hs.atInt (show k<l.length by omega)
   obtain⟨fb,foff,fx,rfl,fhb,fhd,fok,fh0⟩:=hs2.atInt (show k<l.length by omega)
   obtain rfl:ex=fx:=by have:=ehd.out.symm.trans fhd.out;simpa using this
   clear ehd fhd hlk hs hs2
   have k2:(ex != ex)=false:=by simp
   go_wp2_with (first|((with_reducible refine wp_region_later (by kernel_rfl) (by kernel_rfl) ?_);(repeat(first|go_big_quiet_step (first|fail)|simp only[k2]));refine wpQuiet_nil ?_;rintro _ ⟨x,rfl⟩))
   go_roundw
   case rel=>exact⟨k+1,by go_num,by omega,Later.of⟩
   case measure=>simp[intOf];omega
  ·go_wp2_with fail
   go_ret
   exact Gives.mk rfl
theorem d_lszBoolS{B:Nat}{a:Option Addr}{c:Nat}{l:List Bool}{left:Int}{w:World}(hs:RdS B w a c l)(hl:0≤left)(hl2:left≤1048576) :
  Calls Tryz.prog 193 #[.slice a l.length c,.int .i64 left] w (Gives w (.int .i64 (szD left (totL l)))):=by
 have hmx:=hs.max
 have hln:=totL_len l
 obtain⟨n,hn⟩:∃ n,l.length=n:=⟨_,rfl⟩
 rw[hn]at hln hmx
 rw[hn]
 have HN:=lH hn;clear hn
 have htl:totL l=n:=by rw[← HN.out];clear hs HN hmx hln;induction l with|nil=>rfl|cons x r ih=>simp only[totL,List.length_cons,ih];show 1+0+_=_;omega
 rw[htl];clear htl hln hs
 by_cases h:left - n<0
 ·rw[szD_neg h]
  go_enter Tryz.func193,Tryz.ntmps193
  go_wp2_with fail
  go_ret
  exact Gives.mk rfl
 ·rw[szD_pos h]
  go_enter Tryz.func193,Tryz.ntmps193
  go_wp2_with fail
  go_ret
  exact Gives.mk rfl
theorem d_leqBoolS{B B2:Nat}{a a2:Option Addr}{c c2:Nat}{l:List Bool}{w:World}(hs:RdS B w a c l)(hs2:RdS B2 w a2 c2 l) :
  Calls Tryz.prog 166 #[.slice a l.length c,.slice a2 l.length c2] w (Gives w (.bool true)):=by
 have hmx:=hs.max
 obtain⟨n,hn⟩:∃ n,l.length=n:=⟨_,rfl⟩
 rw[hn]at hmx
 rw[hn]
 have HN:=lH hn;clear hn
 have kn:((n:Int) != (n:Int))=false:=by simp
 go_enter Tryz.func166,Tryz.ntmps166
 go_wp2_with (first|((with_reducible refine wp_region_later (by kernel_rfl) (by kernel_rfl) ?_);(repeat(first|go_big_quiet_step (first|fail)|simp only[kn]));refine wpQuiet_nil ?_;rintro _ ⟨x,rfl⟩))
 go_loopw [5] (fun v wr=>∃ k:Nat,v=.int .i64 k∧k≤n∧∃ x:Later w,wr=x.w) (fun v _=>(n - intOf v).toNat)
 case atStart=>exact⟨0,rfl,by omega,Later.of⟩
 case round =>
  obtain⟨k,rfl,hk,x,rfl⟩:=hrel
  by_cases h:k<n
  ·have hlk:k<l.length:=by have:=HN.out;omega
   obtain⟨eb,eoff,ex,rfl,ehb,ehd,eh0⟩:=hs.atBool (show k<l.length by omega)
   obtain⟨fb,foff,fx,rfl,fhb,fhd,fh0⟩:=hs2.atBool (show k<l.length by omega)
   obtain rfl:ex=fx:=by have:=ehd.out.symm.trans fhd.out;simpa using this
   clear ehd fhd hlk hs hs2
   have k2:(ex != ex)=false:=by simp
   go_wp2_with (first|((with_reducible refine wp_region_later (by kernel_rfl) (by kernel_rfl) ?_);(repeat(first|go_big_quiet_step (first|fail)|simp only[k2]));refine wpQuiet_nil ?_;rintro _ ⟨x,rfl⟩))
   go_roundw
   case rel=>exact⟨k+1,by go_num,by omega,Later.of⟩
   case measure=>simp[intOf];omega
  ·go_wp2_with fail
   go_ret
   exact Gives.mk rfl
theorem d_lszStringS{B:Nat}{a:Option Addr}{c:Nat}{l:List ByteArray}{left:Int}{w:World}(hs:RdS B w a c l)(hl:0≤left)(hl2:left≤1048576) :
  Calls Tryz.prog 16 #[.slice a l.length c,.int .i64 left] w (Gives w (.int .i64 (szD left (totL l)))):=by
 have hmx:=hs.max
 have hln:=totL_len l
 obtain⟨n,hn⟩:∃ n,l.length=n:=⟨_,rfl⟩
 rw[hn]at hln hmx
 rw[hn]
 have HN:=lH hn;clear hn
 by_cases h:left - n<0
 ·have HV:=lH (show szD left (totL l)=-1 from szD_neg (by omega))
  go_enter Tryz.func16,Tryz.ntmps16
  go_wp2_with fail
  go_ret
  exact Gives.mk (by rw[HV.out];rfl)
 ·go_enter Tryz.func16,Tryz.ntmps16
  go_wp2_with fail
  go_loopw [1,5] (fun u v wr=>∃ (k:Nat) (r:Int),v=.int .i64 k∧u=.int .i64 r∧k≤n∧0≤r∧r≤1048576∧Hid (r - totL (l.drop k)+(n - k)=left - totL l)∧∃ x:Later w,wr=x.w) (fun _ v _=>(n - intOf v).toNat)
  case atStart=>exact⟨0,left - n,rfl,by go_num,by omega,by omega,by omega,by unfold Hid;rw[List.drop_zero];omega,Later.of⟩
  case round =>
   obtain⟨k,r,rfl,rfl,hk,hr,hr2,hf,x,rfl⟩:=hrel
   by_cases h2:k<n
   ·have hlk:k<l.length:=by have:=HN.out;omega
    obtain⟨eb,eoff,ex,rfl,ehb,ehd,eok,eh0⟩:=hs.atStr (show k<l.length by omega)
    have hd2:=totL_len (l.drop (k+1))
    have HD2:=lH (show((n:Int) - k - 1≤totL (l.drop (k+1)))by rw[List.length_drop,HN.out]at hd2;omega);clear hd2 hlk
    have ht0:=Enc.tot_nonneg ex
    obtain⟨t,htt⟩:∃ t,Enc.tot ex=t:=⟨_,rfl⟩
    have hf2:Hid (r - (1+t+totL (l.drop (k+1)))+(n - k)=left - totL l):=by
     have:=hf.out;rw[ehd.out]at this;rw[← htt];exact this
    rw[htt]at ht0
    have HTT:=lH htt;clear htt hf
    have hts:(ex.size:Int)=t:=HTT.out
    have HTS:=lH hts;clear hts
    by_cases h3:r - ex.size<0
    ·have HV:=lH (show szD left (totL l)=-1 from szD_neg (by have h7:=hf2.out;have h8:=HD2.out;have h9:=HTS.out;omega))
     go_wp2_with fail
     go_ret
     exact Gives.mk (by rw[HV.out];rfl)
    ·go_wp2_with fail
     go_roundw
     case rel=>exact⟨k+1,r - ex.size,by go_num,by go_num,by omega,by omega,by omega,by have h7:=hf2.out;have h9:=HTS.out;unfold Hid;omega,Later.of⟩
     case measure=>simp[intOf];omega
   ·have HV:=lH (show szD left (totL l)=r by
     have h7:=hf.out
     rw[List.drop_of_length_le (by have:=HN.out;omega)]at h7
     simp only[totL]at h7
     rw[szD_pos (by omega)];omega)
    go_wp2_with fail
    go_ret
    exact Gives.mk (by rw[HV.out];rfl)
theorem d_leqStringS{B B2:Nat}{a a2:Option Addr}{c c2:Nat}{l:List ByteArray}{w:World}(hs:RdS B w a c l)(hs2:RdS B2 w a2 c2 l) :
  Calls Tryz.prog 27 #[.slice a l.length c,.slice a2 l.length c2] w (Gives w (.bool true)):=by
 have hmx:=hs.max
 obtain⟨n,hn⟩:∃ n,l.length=n:=⟨_,rfl⟩
 rw[hn]at hmx
 rw[hn]
 have HN:=lH hn;clear hn
 have kn:((n:Int) != (n:Int))=false:=by simp
 go_enter Tryz.func27,Tryz.ntmps27
 go_wp2_with (first|((with_reducible refine wp_region_later (by kernel_rfl) (by kernel_rfl) ?_);(repeat(first|go_big_quiet_step (first|fail)|simp only[kn]));refine wpQuiet_nil ?_;rintro _ ⟨x,rfl⟩))
 go_loopw [5] (fun v wr=>∃ k:Nat,v=.int .i64 k∧k≤n∧∃ x:Later w,wr=x.w) (fun v _=>(n - intOf v).toNat)
 case atStart=>exact⟨0,rfl,by omega,Later.of⟩
 case round =>
  obtain⟨k,rfl,hk,x,rfl⟩:=hrel
  by_cases h:k<n
  ·have hlk:k<l.length:=by have:=HN.out;omega
   obtain⟨eb,eoff,ex,rfl,ehb,ehd,eok,eh0⟩:=hs.atStr (show k<l.length by omega)
   obtain⟨fb,foff,fx,rfl,fhb,fhd,fok,fh0⟩:=hs2.atStr (show k<l.length by omega)
   obtain rfl:ex=fx:=by have:=ehd.out.symm.trans fhd.out;simpa using this
   clear ehd fhd hlk hs hs2
   have k2:(ex.toList != ex.toList)=false:=by simp
   go_wp2_with (first|((with_reducible refine wp_region_later (by kernel_rfl) (by kernel_rfl) ?_);(repeat(first|go_big_quiet_step (first|fail)|simp only[k2]));refine wpQuiet_nil ?_;rintro _ ⟨x,rfl⟩))
   go_roundw
   case rel=>exact⟨k+1,by go_num,by omega,Later.of⟩
   case measure=>simp[intOf];omega
  ·go_wp2_with fail
   go_ret
   exact Gives.mk rfl
end Go.Proofs.YtbaffippdifbpaaGreat
namespace Go.Proofs.YtbaffippdifbpaaGreat
set_option linter.unusedVariables false
open Go.ChangeShapes Go.WideShapes Go.ChangeAt Go.RowKit
theorem d_lszFileIn{B:Nat}{vs:List Value}{x:TFileIn}{left:Int}{w:World}(h:Enc.Rd B w vs x)(hl:0≤left)(hl2:left≤1048576) :
  Calls Tryz.prog 275 #[.agg vs.toArray,.int .i64 left] w (Gives w (.int .i64 (szD left (Enc.tot x)))):=by
 obtain⟨a0,c0,rfl,q0,hok⟩:=h
 have n0:=totL_nonneg x.Parts
 have HOK:=lH hok;clear hok
 have htot:Enc.tot x=totL x.Parts:=rfl
 have HTOT:=lH htot;clear htot
 go_enter Tryz.func275,Tryz.ntmps275
 go_wp2_with fail
 refine(d_lszStringS (q0.keep inferInstance) (by omega) (by omega)).mono ?_
 rintro _ _ ⟨rfl,y0,rfl⟩
 by_cases h0:left - totL x.Parts<0
 ·have HV:=lH (show szD left (Enc.tot x)=-1 from szD_neg (by rw[HTOT.out];omega))
  rw[szD_neg h0]
  go_wp2_with fail
  go_ret
  exact Gives.mk (by rw[HV.out];rfl)
 rw[szD_pos h0]
 have HV:=lH (show szD left (Enc.tot x)=left - totL x.Parts by rw[szD_pos (by rw[HTOT.out];omega),HTOT.out]<;>omega)
 go_wp2_with fail
 go_ret
 exact Gives.mk (by rw[HV.out];rfl)
theorem d_leqFileIn{B B2:Nat}{vs vs2:List Value}{x:TFileIn}{w:World}(h:Enc.Rd B w vs x)(h2:Enc.Rd B2 w vs2 x) :
  Calls Tryz.prog 256 #[.agg vs.toArray,.agg vs2.toArray] w (Gives w (.bool true)):=by
 obtain⟨a0,c0,rfl,q0,hok⟩:=h
 obtain⟨ma0,mc0,rfl,mq0,-⟩:=h2
 have HOK:=lH hok;clear hok
 go_enter Tryz.func256,Tryz.ntmps256
 go_wp2_with fail
 refine(d_leqStringS (q0.keep inferInstance) (mq0.keep inferInstance)).mono ?_
 rintro _ _ ⟨rfl,y0,rfl⟩
 go_wp2_with fail
 go_ret
 exact Gives.mk rfl
set_option maxRecDepth 100000 in
set_option maxHeartbeats 2000000 in
theorem d_lszFileInS{B:Nat}{a:Option Addr}{c:Nat}{l:List TFileIn}{left:Int}{w:World}(hs:RdS B w a c l)(hl:0≤left)(hl2:left≤1048576) :
  Calls Tryz.prog 192 #[.slice a l.length c,.int .i64 left] w (Gives w (.int .i64 (szD left (totL l)))):=by
 have hmx:=hs.max
 have hln:=totL_len l
 obtain⟨n,hn⟩:∃ n,l.length=n:=⟨_,rfl⟩
 rw[hn]at hln hmx
 rw[hn]
 have HN:=lH hn;clear hn
 by_cases h:left - n<0
 ·have HV:=lH (show szD left (totL l)=-1 from szD_neg (by omega))
  go_enter Tryz.func192,Tryz.ntmps192
  go_wp2_with fail
  go_ret
  exact Gives.mk (by rw[HV.out];rfl)
 ·go_enter Tryz.func192,Tryz.ntmps192
  go_wp2_with fail
  go_loopw [1,5] (fun u v wr=>∃ (k:Nat) (r:Int),v=.int .i64 k∧u=.int .i64 r∧k≤n∧0≤r∧r≤1048576∧Hid (r - totL (l.drop k)+(n - k)=left - totL l)∧∃ x:Later w,wr=x.w) (fun _ v _=>(n - intOf v).toNat)
  case atStart=>exact⟨0,left - n,rfl,by go_num,by omega,by omega,by omega,by unfold Hid;rw[List.drop_zero];omega,Later.of⟩
  case round =>
   obtain⟨k,r,rfl,rfl,hk,hr,hr2,hf,x,rfl⟩:=hrel
   by_cases h2:k<n
   ·have hlk:k<l.length:=by have:=HN.out;omega
    obtain⟨eb,eoff,ex,ea0,ec0,rfl,ehb,ehd,eq0,eok,eh0,eh1,eh2,eh3⟩:=hs.atTFileIn (show k<l.length by omega)
    have hd2:=totL_len (l.drop (k+1))
    have HD2:=lH (show((n:Int) - k - 1≤totL (l.drop (k+1)))by rw[List.length_drop,HN.out]at hd2;omega);clear hd2 hlk
    have ht0:=Enc.tot_nonneg ex
    obtain⟨t,htt⟩:∃ t,Enc.tot ex=t:=⟨_,rfl⟩
    have hf2:Hid (r - (1+t+totL (l.drop (k+1)))+(n - k)=left - totL l):=by
     have:=hf.out;rw[ehd.out]at this;rw[← htt];exact this
    rw[htt]at ht0
    have HTT:=lH htt;clear htt hf
    have HEOK:=lH eok;clear eok
    go_wp2_with fail
    refine(d_lszFileIn (x:=ex) ⟨ea0,ec0,rfl,eq0.keep inferInstance,HEOK.out⟩ (by omega) (by omega)).mono ?_
    rintro _ _ ⟨rfl,y,rfl⟩
    rw[HTT.out]
    by_cases h3:r - t<0
    ·have HV:=lH (show szD left (totL l)=-1 from szD_neg (by have h7:=hf2.out;have h8:=HD2.out;omega))
     rw[szD_neg h3]
     go_wp2_with fail
     go_ret
     exact Gives.mk (by rw[HV.out];rfl)
    ·rw[szD_pos h3]
     go_wp2_with fail
     go_roundw
     case rel=>exact⟨k+1,r - t,by go_num,by go_num,by omega,by omega,by omega,by have h7:=hf2.out;unfold Hid;omega,Later.of⟩
     case measure=>simp[intOf];omega
   ·have HV:=lH (show szD left (totL l)=r by
     have h7:=hf.out
     rw[List.drop_of_length_le (by have:=HN.out;omega)]at h7
     simp only[totL]at h7
     rw[szD_pos (by omega)];omega)
    go_wp2_with fail
    go_ret
    exact Gives.mk (by rw[HV.out];rfl)
theorem d_leqFileInS{B B2:Nat}{a a2:Option Addr}{c c2:Nat}{l:List TFileIn}{w:World}(hs:RdS B w a c l)(hs2:RdS B2 w a2 c2 l) :
  Calls Tryz.prog 165 #[.slice a l.length c,.slice a2 l.length c2] w (Gives w (.bool true)):=by
 have hmx:=hs.max
 obtain⟨n,hn⟩:∃ n,l.length=n:=⟨_,rfl⟩
 rw[hn]at hmx
 rw[hn]
 have HN:=lH hn;clear hn
 have kn:((n:Int) != (n:Int))=false:=by simp
 go_enter Tryz.func165,Tryz.ntmps165
 go_wp2_with fail
 go_loopw [5] (fun v wr=>∃ k:Nat,v=.int .i64 k∧k≤n∧∃ x:Later w,wr=x.w) (fun v _=>(n - intOf v).toNat)
 case atStart=>exact⟨0,rfl,by omega,Later.of⟩
 case round =>
  obtain⟨k,rfl,hk,x,rfl⟩:=hrel
  by_cases h:k<n
  ·have hlk:k<l.length:=by have:=HN.out;omega
   obtain⟨eb,eoff,ex,ea0,ec0,rfl,ehb,ehd,eq0,eok,eh0,eh1,eh2,eh3⟩:=hs.atTFileIn (show k<l.length by omega)
   obtain⟨fb,foff,fx,fa0,fc0,rfl,fhb,fhd,fq0,fok,fh0,fh1,fh2,fh3⟩:=hs2.atTFileIn (show k<l.length by omega)
   obtain rfl:ex=fx:=by have:=ehd.out.symm.trans fhd.out;simpa using this
   clear ehd fhd hlk hs hs2
   have ce:∀ {W:World} [Grows w W],Calls Tryz.prog 256 #[.agg #[.int .i64 ex.File,.int .i64 ex.Size,.int .i64 ex.Check,.slice ea0 ex.Parts.length ec0],.agg #[.int .i64 ex.File,.int .i64 ex.Size,.int .i64 ex.Check,.slice fa0 ex.Parts.length fc0]] W (Gives W (.bool true)):=fun {W} _=>d_leqFileIn (x:=ex) ⟨ea0,ec0,rfl,eq0.keep inferInstance,eok⟩ ⟨fa0,fc0,rfl,fq0.keep inferInstance,fok⟩
   clear eok fok eq0 fq0
   go_wp2_with (first|((with_reducible refine wp_region_later (by kernel_rfl) (by kernel_rfl) ?_);(repeat(first|go_big_quiet_step (first|(go_at_call 256;exact Gives.quiet (ce)))));refine wpQuiet_nil ?_;rintro _ ⟨x,rfl⟩)|(go_at_call 256;refine(ce).mono ?_;rintro _ _ ⟨rfl,x,rfl⟩))
   go_roundw
   case rel=>exact⟨k+1,by go_num,by omega,Later.of⟩
   case measure=>simp[intOf];omega
  ·go_wp2_with fail
   go_ret
   exact Gives.mk rfl
theorem d_lszFileOut{B:Nat}{vs:List Value}{x:TFileOut}{left:Int}{w:World}(h:Enc.Rd B w vs x)(hl:0≤left)(hl2:left≤1048576) :
  Calls Tryz.prog 280 #[.agg vs.toArray,.int .i64 left] w (Gives w (.int .i64 (szD left (Enc.tot x)))):=by
 obtain⟨a0,c0,rfl,q0,hok⟩:=h
 have n0:(0:Int)≤x.Data.size:=by omega
 have z0:x.Data.size≤9223372036854775807:=hok.2.1
 have n1:=totL_nonneg x.Queue
 have HOK:=lH hok;clear hok
 have htot:Enc.tot x=(x.Data.size:Int)+totL x.Queue:=rfl
 have HTOT:=lH htot;clear htot
 go_enter Tryz.func280,Tryz.ntmps280
 by_cases h0:left - (x.Data.size:Int)<0
 ·have HV:=lH (show szD left (Enc.tot x)=-1 from szD_neg (by rw[HTOT.out];omega))
  go_wp2_with fail
  go_ret
  exact Gives.mk (by rw[HV.out];rfl)
 go_wp2_with fail
 refine(d_lszIntS (q0.keep inferInstance) (by omega) (by omega)).mono ?_
 rintro _ _ ⟨rfl,y1,rfl⟩
 by_cases h1:left - (x.Data.size:Int) - totL x.Queue<0
 ·have HV:=lH (show szD left (Enc.tot x)=-1 from szD_neg (by rw[HTOT.out];omega))
  rw[szD_neg h1]
  go_wp2_with fail
  go_ret
  exact Gives.mk (by rw[HV.out];rfl)
 rw[szD_pos h1]
 have HV:=lH (show szD left (Enc.tot x)=left - (x.Data.size:Int) - totL x.Queue by rw[szD_pos (by rw[HTOT.out];omega),HTOT.out]<;>omega)
 go_wp2_with fail
 go_ret
 exact Gives.mk (by rw[HV.out];rfl)
theorem d_leqFileOut{B B2:Nat}{vs vs2:List Value}{x:TFileOut}{w:World}(h:Enc.Rd B w vs x)(h2:Enc.Rd B2 w vs2 x) :
  Calls Tryz.prog 261 #[.agg vs.toArray,.agg vs2.toArray] w (Gives w (.bool true)):=by
 obtain⟨a0,c0,rfl,q0,hok⟩:=h
 obtain⟨ma0,mc0,rfl,mq0,-⟩:=h2
 have HOK:=lH hok;clear hok
 go_enter Tryz.func261,Tryz.ntmps261
 go_wp2_with fail
 refine(d_leqIntS (q0.keep inferInstance) (mq0.keep inferInstance)).mono ?_
 rintro _ _ ⟨rfl,y0,rfl⟩
 go_wp2_with fail
 go_ret
 exact Gives.mk rfl
set_option maxRecDepth 100000 in
set_option maxHeartbeats 2000000 in
theorem d_lszFileOutS{B:Nat}{a:Option Addr}{c:Nat}{l:List TFileOut}{left:Int}{w:World}(hs:RdS B w a c l)(hl:0≤left)(hl2:left≤1048576) :
  Calls Tryz.prog 196 #[.slice a l.length c,.int .i64 left] w (Gives w (.int .i64 (szD left (totL l)))):=by
 have hmx:=hs.max
 have hln:=totL_len l
 obtain⟨n,hn⟩:∃ n,l.length=n:=⟨_,rfl⟩
 rw[hn]at hln hmx
 rw[hn]
 have HN:=lH hn;clear hn
 by_cases h:left - n<0
 ·have HV:=lH (show szD left (totL l)=-1 from szD_neg (by omega))
  go_enter Tryz.func196,Tryz.ntmps196
  go_wp2_with fail
  go_ret
  exact Gives.mk (by rw[HV.out];rfl)
 ·go_enter Tryz.func196,Tryz.ntmps196
  go_wp2_with fail
  go_loopw [1,5] (fun u v wr=>∃ (k:Nat) (r:Int),v=.int .i64 k∧u=.int .i64 r∧k≤n∧0≤r∧r≤1048576∧Hid (r - totL (l.drop k)+(n - k)=left - totL l)∧∃ x:Later w,wr=x.w) (fun _ v _=>(n - intOf v).toNat)
  case atStart=>exact⟨0,left - n,rfl,by go_num,by omega,by omega,by omega,by unfold Hid;rw[List.drop_zero];omega,Later.of⟩
  case round =>
   obtain⟨k,r,rfl,rfl,hk,hr,hr2,hf,x,rfl⟩:=hrel
   by_cases h2:k<n
   ·have hlk:k<l.length:=by have:=HN.out;omega
    obtain⟨eb,eoff,ex,ea0,ec0,rfl,ehb,ehd,eq0,eok,eh0,eh1,eh2,eh3⟩:=hs.atTFileOut (show k<l.length by omega)
    have hd2:=totL_len (l.drop (k+1))
    have HD2:=lH (show((n:Int) - k - 1≤totL (l.drop (k+1)))by rw[List.length_drop,HN.out]at hd2;omega);clear hd2 hlk
    have ht0:=Enc.tot_nonneg ex
    obtain⟨t,htt⟩:∃ t,Enc.tot ex=t:=⟨_,rfl⟩
    have hf2:Hid (r - (1+t+totL (l.drop (k+1)))+(n - k)=left - totL l):=by
     have:=hf.out;rw[ehd.out]at this;rw[← htt];exact this
    rw[htt]at ht0
    have HTT:=lH htt;clear htt hf
    have HEOK:=lH eok;clear eok
    go_wp2_with fail
    refine(d_lszFileOut (x:=ex) ⟨ea0,ec0,rfl,eq0.keep inferInstance,HEOK.out⟩ (by omega) (by omega)).mono ?_
    rintro _ _ ⟨rfl,y,rfl⟩
    rw[HTT.out]
    by_cases h3:r - t<0
    ·have HV:=lH (show szD left (totL l)=-1 from szD_neg (by have h7:=hf2.out;have h8:=HD2.out;omega))
     rw[szD_neg h3]
     go_wp2_with fail
     go_ret
     exact Gives.mk (by rw[HV.out];rfl)
    ·rw[szD_pos h3]
     go_wp2_with fail
     go_roundw
     case rel=>exact⟨k+1,r - t,by go_num,by go_num,by omega,by omega,by omega,by have h7:=hf2.out;unfold Hid;omega,Later.of⟩
     case measure=>simp[intOf];omega
   ·have HV:=lH (show szD left (totL l)=r by
     have h7:=hf.out
     rw[List.drop_of_length_le (by have:=HN.out;omega)]at h7
     simp only[totL]at h7
     rw[szD_pos (by omega)];omega)
    go_wp2_with fail
    go_ret
    exact Gives.mk (by rw[HV.out];rfl)
theorem d_leqFileOutS{B B2:Nat}{a a2:Option Addr}{c c2:Nat}{l:List TFileOut}{w:World}(hs:RdS B w a c l)(hs2:RdS B2 w a2 c2 l) :
  Calls Tryz.prog 170 #[.slice a l.length c,.slice a2 l.length c2] w (Gives w (.bool true)):=by
 have hmx:=hs.max
 obtain⟨n,hn⟩:∃ n,l.length=n:=⟨_,rfl⟩
 rw[hn]at hmx
 rw[hn]
 have HN:=lH hn;clear hn
 have kn:((n:Int) != (n:Int))=false:=by simp
 go_enter Tryz.func170,Tryz.ntmps170
 go_wp2_with fail
 go_loopw [5] (fun v wr=>∃ k:Nat,v=.int .i64 k∧k≤n∧∃ x:Later w,wr=x.w) (fun v _=>(n - intOf v).toNat)
 case atStart=>exact⟨0,rfl,by omega,Later.of⟩
 case round =>
  obtain⟨k,rfl,hk,x,rfl⟩:=hrel
  by_cases h:k<n
  ·have hlk:k<l.length:=by have:=HN.out;omega
   obtain⟨eb,eoff,ex,ea0,ec0,rfl,ehb,ehd,eq0,eok,eh0,eh1,eh2,eh3⟩:=hs.atTFileOut (show k<l.length by omega)
   obtain⟨fb,foff,fx,fa0,fc0,rfl,fhb,fhd,fq0,fok,fh0,fh1,fh2,fh3⟩:=hs2.atTFileOut (show k<l.length by omega)
   obtain rfl:ex=fx:=by have:=ehd.out.symm.trans fhd.out;simpa using this
   clear ehd fhd hlk hs hs2
   have ce:∀ {W:World} [Grows w W],Calls Tryz.prog 261 #[.agg #[.int .i64 ex.File,.string ex.Data,.slice ea0 ex.Queue.length ec0,.bool ex.Done],.agg #[.int .i64 ex.File,.string ex.Data,.slice fa0 ex.Queue.length fc0,.bool ex.Done]] W (Gives W (.bool true)):=fun {W} _=>d_leqFileOut (x:=ex) ⟨ea0,ec0,rfl,eq0.keep inferInstance,eok⟩ ⟨fa0,fc0,rfl,fq0.keep inferInstance,fok⟩
   clear eok fok eq0 fq0
   go_wp2_with (first|((with_reducible refine wp_region_later (by kernel_rfl) (by kernel_rfl) ?_);(repeat(first|go_big_quiet_step (first|(go_at_call 261;exact Gives.quiet (ce)))));refine wpQuiet_nil ?_;rintro _ ⟨x,rfl⟩)|(go_at_call 261;refine(ce).mono ?_;rintro _ _ ⟨rfl,x,rfl⟩))
   go_roundw
   case rel=>exact⟨k+1,by go_num,by omega,Later.of⟩
   case measure=>simp[intOf];omega
  ·go_wp2_with fail
   go_ret
   exact Gives.mk rfl
end Go.Proofs.YtbaffippdifbpaaGreat
namespace Go.Proofs.YtbaffippdifbpaaGreat
set_option linter.unusedVariables false
open Go.ChangeShapes Go.WideShapes Go.ChangeAt Go.RowKit
@[go_sem] theorem word1_size(n:Int):(word1 n).size=1:=rfl
@[go_sem] theorem word2_size(n:Int):(word2 n).size=2:=rfl
def wordM(m n:Int):ByteArray:=if m=1 then word1 n else word2 n
@[go_sem] theorem wordM_one(n:Int):wordM 1 n=word1 n:=rfl
@[go_sem] theorem wordM_two(n:Int):wordM 2 n=word2 n:=rfl
end Go.Proofs.YtbaffippdifbpaaGreat
namespace Go.Proofs.YtbaffippdifbpaaGreat
set_option linter.unusedVariables false
open Go.ChangeShapes Go.WideShapes Go.ChangeAt Go.RowKit
def digs(k:Nat)(acc:ByteArray):ByteArray:=if h:k=0 then acc else digs (k / 10) (strOfNums [48+(k:Int) % 10]++acc)
termination_by k
decreasing_by omega
def markTx(k:Int):ByteArray:=if k≤0 then⟨#[109,48]⟩else⟨#[109]⟩++digs k.toNat ⟨#[]⟩
set_option maxRecDepth 100000 in
set_option maxHeartbeats 2000000 in
theorem c_lmarkText{k:Int}{w:World}(h2:k≤2000000000000) :
  Calls Tryz.prog 79 #[.int .i64 k] w (Gives w (.string (markTx k))):=by
 by_cases h0:k≤0
 ·have HV:=lH (show markTx k=⟨#[109,48]⟩from if_pos h0)
  go_enter Tryz.func79,Tryz.ntmps79
  go_wp2_with fail
  go_ret
  exact Gives.mk (by rw[HV.out];rfl)
 ·obtain⟨K,rfl⟩:∃ K:Nat,k=K:=⟨k.toNat,by omega⟩
  have HV:=lH (show markTx K=⟨#[109]⟩++digs K ⟨#[]⟩by unfold markTx;rw[if_neg h0];rfl)
  go_enter Tryz.func79,Tryz.ntmps79
  go_wp2_with fail
  go_loopw [0,3] (fun u v wr=>∃ (k:Nat) (acc:ByteArray),u=.int .i64 k∧v=.string acc∧acc.size+k≤2000000000000∧Hid (digs k acc=digs K ⟨#[]⟩)∧∃ x:Later w,wr=x.w) (fun u _ _=>(intOf u).toNat)
  case atStart=>exact⟨K,_,rfl,rfl,by simp[ByteArray.size];omega,rfl,Later.of⟩
  case round =>
   obtain⟨k,acc,rfl,rfl,hk,hf,x,rfl⟩:=hrel
   by_cases h3:0<k
   ·have hd:k % 10<10:=Nat.mod_lt _ (by omega)
    have HF:=lH (show digs (k / 10) (strOfNums [48+(k:Int) % 10]++acc)=digs K ⟨#[]⟩by have:=hf.out;rw[digs,dif_neg (by omega)]at this;exact this)
    have hcv:=conv_str (P:=Tryz.prog) (n:=1) (c:=1) Tryz.underlying22 Tryz.underlying5 Tryz.underlying9 (Sl.lit (enc:=encByte) (W:=x.w) (cs:=#[.int .u8 (48+(k:Int) % 10)]) (T:=5) (l:=[48+(k:Int) % 10]) (fun _=>rfl) rfl) rfl (by simp)
    have hs1:(strOfNums [48+(k:Int) % 10]).size=1:=by simp[strOfNums_size]
    go_wp2_with fail
    go_roundw
    case rel=>exact⟨k / 10,_,by go_num,rfl,by rw[ByteArray.size_append,hs1];omega,HF,Later.of⟩
    case measure=>simp[intOf];omega
   ·have hk0:k=0:=by omega
    have HF:=lH (show acc=digs K ⟨#[]⟩by have:=hf.out;rw[digs,dif_pos hk0]at this;exact this)
    clear hk0
    go_wp2_with fail
    go_ret
    exact Gives.mk (by rw[HV.out,← HF.out];rfl)
def mkStr(k0:Int)(i:Nat):ByteArray:=markTx (k0+i)
theorem grownBy_laterR{w:World}(x:Later w)(row:Option Nat):w.grownBy x.w row:=⟨x.h.os,x.h.tape,x.h.output,x.h.size,fun i hi _=>x.h.block i hi⟩
set_option maxRecDepth 100000 in
set_option maxHeartbeats 2000000 in
theorem c_lmarkStringS{a:Option Addr}{n c B:Nat}{k0:Int}{l:List ByteArray}{w:World}(hown0:Own encStr 9 1 B w a c l)(hn:l.length=n)(hm:n≤100000000)(h1:0≤k0)(h2:k0≤1000000000000) :
  Calls Tryz.prog 30 #[.slice a n c,.int .i64 k0] w (Marks encStr 9 1 B w a n c ((List.range n).map (mkStr k0)) (k0+n)):=by
 go_enter Tryz.func30,Tryz.ntmps30
 go_wp2_with fail
 go_loopw [1,5] (fun u v wr=>∃ j:Nat,v=.int .i64 j∧u=.int .i64 (k0+j)∧j≤n∧w.grownBy wr (Value.ownBlock (.slice a n c))∧Own encStr 9 1 B wr a c (mixed (mkStr k0) l j)) (fun _ v _=>(n - intOf v).toNat)
 case atStart=>exact⟨0,rfl,by simp,by omega,grownBy_refl _ _,by rw[mixed_zero];exact hown0⟩
 case round =>
  obtain⟨j,rfl,rfl,hj,hgr,hown⟩:=hrel
  by_cases h:j<n
  ·obtain⟨g,rfl,hB,hlt⟩:=hown.open (n:=n) (by rw[mixed_length (by omega)];omega)
   have HG:=lH hgr;clear hgr
   have HO:=lH hown;clear hown hlt
   go_wp2_with fail
   refine(c_lmarkText (by omega)).mono ?_
   rintro _ _ ⟨rfl,y,rfl⟩
   have hown:=HO.out.to (inferInstance:Grows wr y.w)
   obtain⟨o0,g0⟩:=hown.cells (j:=j) (by rw[mixed_length (by omega)];omega)
   have f0:=hown.free j
   have HO2:=lH hown;clear hown HO
   have HG2:=lH (grownBy_trans HG.out (grownBy_laterR y _));clear HG
   go_wp2_with fail
   go_roundw
   case rel =>
    have hp:=HO2.out.put1 (j:=j) (y:=mkStr k0 j) (by rw[mixed_length (by omega)];omega) rfl
    exact⟨j+1,by go_num,by go_num,by omega,grownBy_trans HG2.out hp.2,by rw[← mixed_set (by omega)];exact hp.1⟩
   case measure=>simp[intOf];omega
  ·go_wp2_with fail
   go_ret
   obtain rfl:j=n:=by omega
   refine⟨rfl,hgr,?_⟩
   rw[← hn,mixed_all]at hown
   rw[← hn];exact hown
theorem c_lheldStringS{a:Option Addr}{n c:Nat}{k0:Int}{w:World}(hs:Sl encStr w a ((List.range n).map (mkStr k0)))(hm:n≤100000000)(h1:0≤k0)(h2:k0≤1000000000000) :
  Calls Tryz.prog 88 #[.slice a n c,.int .i64 k0] w (Gives w (.int .i64 (k0+n))):=by
 go_enter Tryz.func88,Tryz.ntmps88
 go_wp2_with fail
 go_loopw [1,5] (fun u v wr=>∃ j:Nat,v=.int .i64 j∧u=.int .i64 (k0+j)∧j≤n∧∃ x:Later w,wr=x.w) (fun _ v _=>(n - intOf v).toNat)
 case atStart=>exact⟨0,rfl,by simp,by omega,Later.of⟩
 case round =>
  obtain⟨j,rfl,rfl,hj,x0,rfl⟩:=hrel
  by_cases h:j<n
  ·obtain⟨b,off,s,rfl,hb,hd,e0⟩:=hs.str (k:=j) (by simpa using h)
   obtain rfl:s=mkStr k0 j:=by
    have:=congrArg (fun m=>m[0]?) hd.out
    simpa[h]using this.symm
   simp only[mkStr]at e0
   clear hd
   go_wp2_with (first|((with_reducible refine wp_region_later (by kernel_rfl) (by kernel_rfl) ?_);(repeat(first|go_big_quiet_step (first|(go_at_call 79;exact Gives.quiet (c_lmarkText (by omega))))));refine wpQuiet_nil ?_;rintro _ ⟨x,rfl⟩)|(go_at_call 79;refine(c_lmarkText (by omega)).mono ?_;rintro _ _ ⟨rfl,x,rfl⟩))
   go_roundw
   case rel=>exact⟨j+1,by go_num,by go_num,by omega,Later.of⟩
   case measure=>simp[intOf];omega
  ·go_wp2_with fail
   go_ret
   obtain rfl:j=n:=by omega
   exact Gives.mk rfl
end Go.Proofs.YtbaffippdifbpaaGreat
namespace Go.Proofs.YtbaffippdifbpaaGreat
set_option linter.unusedVariables false
open Go.ChangeShapes Go.WideShapes Go.ChangeAt Go.RowKit
def shortAll(p:List ByteArray):Bool:=p.all (fun s=>decide (s.size≤24))
def fileInOk(f z k:Int)(p:List ByteArray):Bool:=inB f 0 7 && (inB z (-1) 600 && (inB k (-1) 65535 && (((z == -1) == (k == -1)) && (decide (p.length=25) && shortAll p))))
set_option maxRecDepth 100000 in
set_option maxHeartbeats 2000000 in
theorem c_iFileInOk{a:Option Addr}{n c:Nat}{f z k:Int}{p:List ByteArray}{w:World}(hs:Sl encStr w a p)(hn:p.length=n)(hm:n≤4611686018427387904)(hsz:∀ s∈p,s.size≤100000000) :
  Calls Tryz.prog 230 #[.agg #[.int .i64 f,.int .i64 z,.int .i64 k,.slice a n c]] w (Gives w (.bool (fileInOk f z k p))):=by
 have HS:=lH hsz;clear hsz
 have HF:=lH (show fileInOk f z k p=(inB f 0 7 && (inB z (-1) 600 && (inB k (-1) 65535 && (((z == -1) == (k == -1)) && (decide (n=25) && shortAll p)))))by rw[fileInOk,hn])
 cases c1:inB f 0 7
 ·go_enter Tryz.func230,Tryz.ntmps230
  go_wp2_with (first|(go_at_call 127;refine(c_ibetween).mono ?_;rintro _ _ ⟨rfl,x,rfl⟩))
  go_ret
  exact Gives.mk (by rw[HF.out,c1];rfl)
 cases c2:inB z (-1) 600
 ·go_enter Tryz.func230,Tryz.ntmps230
  go_wp2_with (first|(go_at_call 127;refine(c_ibetween).mono ?_;rintro _ _ ⟨rfl,x,rfl⟩))
  go_ret
  exact Gives.mk (by rw[HF.out,c1,c2];rfl)
 cases c3:inB k (-1) 65535
 ·go_enter Tryz.func230,Tryz.ntmps230
  go_wp2_with (first|(go_at_call 127;refine(c_ibetween).mono ?_;rintro _ _ ⟨rfl,x,rfl⟩))
  go_ret
  exact Gives.mk (by rw[HF.out,c1,c2,c3];rfl)
 cases c4:((z == -1) == (k == -1))
 ·have c5:((z == -1) != (k == -1))=true:=by rw[bne,c4];rfl
  go_enter Tryz.func230,Tryz.ntmps230
  go_wp2_with (first|(go_at_call 127;refine(c_ibetween).mono ?_;rintro _ _ ⟨rfl,x,rfl⟩))
  go_ret
  exact Gives.mk (by rw[HF.out,c1,c2,c3,c4];rfl)
 have c5:((z == -1) != (k == -1))=false:=by rw[bne,c4];rfl
 have HF2:=lH (show fileInOk f z k p=(decide (n=25) && shortAll p)by rw[HF.out,c1,c2,c3,c4];rfl)
 clear HF
 by_cases h6:n=25
 ·have c6:((n:Int) != 25)=false:=by simp;omega
  have HF3:=lH (show fileInOk f z k p=shortAll p by rw[HF2.out,h6];rfl)
  clear HF2 h6
  go_enter Tryz.func230,Tryz.ntmps230
  go_wp2_with (first|(go_at_call 127;refine(c_ibetween).mono ?_;rintro _ _ ⟨rfl,x,rfl⟩))
  go_loopw [37] (fun v wr=>∃ k:Nat,v=.int .i64 k∧k≤n∧Hid (shortAll (p.drop k)=shortAll p)∧∃ x:Later w,wr=x.w) (fun v _=>(n - intOf v).toNat)
  case atStart=>exact⟨0,rfl,by omega,rfl,Later.of⟩
  case round =>
   obtain⟨k,rfl,hk,hf,x,rfl⟩:=hrel
   by_cases h:k<n
   ·obtain⟨b,off,s,rfl,hb,hd,h0⟩:=hs.str (show k<p.length by omega)
    have hsm:s.size≤100000000:=HS.out s (List.mem_of_mem_drop (by rw[hd.out];exact List.mem_cons_self ..))
    by_cases h7:24<s.size
    ·go_wp2_with fail
     go_ret
     exact Gives.mk (by have:=hf.out;rw[hd.out,shortAll,List.all_cons,decide_eq_false (by omega)]at this;rw[HF3.out,← this];rfl)
    ·go_wp2_with fail
     go_roundw
     case rel=>exact⟨k+1,by go_num,by omega,by have:=hf.out;rw[hd.out,shortAll,List.all_cons,decide_eq_true (by omega)]at this;exact this,Later.of⟩
     case measure=>simp[intOf];omega
   ·go_wp2_with fail
    go_ret
    exact Gives.mk (by have:=hf.out;rw[List.drop_of_length_le (by omega)]at this;rw[HF3.out,← this];rfl)
 ·have c6:((n:Int) != 25)=true:=by simp;omega
  have HF3:=lH (show fileInOk f z k p=false by rw[HF2.out,decide_eq_false h6];rfl)
  clear HF2 h6
  go_enter Tryz.func230,Tryz.ntmps230
  go_wp2_with (first|(go_at_call 127;refine(c_ibetween).mono ?_;rintro _ _ ⟨rfl,x,rfl⟩))
  go_ret
  exact Gives.mk (by rw[HF3.out];rfl)
set_option maxRecDepth 100000 in
set_option maxHeartbeats 2000000 in
theorem c_sFileInOk{a:Option Addr}{n c:Nat}{f z k:Int}{p:List ByteArray}{w:World}(hs:Sl encStr w a p)(hn:p.length=n)(hm:n≤4611686018427387904)(hsz:∀ s∈p,s.size≤100000000) :
  Calls Tryz.prog 227 #[.agg #[.int .i64 f,.int .i64 z,.int .i64 k,.slice a n c]] w (Gives w (.bool (fileInOk f z k p))):=by
 have HS:=lH hsz;clear hsz
 have HF:=lH (show fileInOk f z k p=(inB f 0 7 && (inB z (-1) 600 && (inB k (-1) 65535 && (((z == -1) == (k == -1)) && (decide (n=25) && shortAll p)))))by rw[fileInOk,hn])
 go_enter Tryz.func227,Tryz.ntmps227
 go_wp2_with fail
 go_loopw [3] (fun v wr=>∃ j:Nat,v=.int .i64 j∧j≤n∧Hid (shortAll (p.drop j)=shortAll p)∧∃ x:Later (w.alloc (.cells #[.int .i64 f,.int .i64 z,.int .i64 k,.slice a n c] 140)),wr=x.w) (fun v _=>(n - intOf v).toNat)
 case atStart=>exact⟨0,rfl,by omega,rfl,Later.of⟩
 case round =>
  obtain⟨j,rfl,hk,hf,x,rfl⟩:=hrel
  by_cases h:j<n
  ·obtain⟨b,off,s,rfl,hb,hd,h0⟩:=hs.str (show j<p.length by omega)
   have hsm:s.size≤100000000:=HS.out s (List.mem_of_mem_drop (by rw[hd.out];exact List.mem_cons_self ..))
   by_cases h7:24<s.size
   ·go_wp2_with fail
    go_ret
    exact Gives.mk (by have:=hf.out;rw[hd.out,shortAll,List.all_cons,decide_eq_false (by omega)]at this;rw[HF.out,← this];simp)
   ·go_wp2_with fail
    go_roundw
    case rel=>exact⟨j+1,by go_num,by omega,by have:=hf.out;rw[hd.out,shortAll,List.all_cons,decide_eq_true (by omega)]at this;exact this,Later.of⟩
    case measure=>simp[intOf];omega
  ·have hf':=hf.out
   rw[List.drop_of_length_le (by omega)]at hf'
   have HA:=lH (show shortAll p=true from hf'.symm);clear hf hf'
   cases c1:inB f 0 7
   ·go_wp2_with (first|(go_at_call 151;refine(c_sl01In).mono ?_;rintro _ _ ⟨rfl,x,rfl⟩))
    go_ret
    exact Gives.mk (by rw[HF.out,c1];rfl)
   cases c2:inB z (-1) 600
   ·go_wp2_with (first|(go_at_call 151;refine(c_sl01In).mono ?_;rintro _ _ ⟨rfl,x,rfl⟩))
    go_ret
    exact Gives.mk (by rw[HF.out,c1,c2];rfl)
   cases c3:inB k (-1) 65535
   ·go_wp2_with (first|(go_at_call 151;refine(c_sl01In).mono ?_;rintro _ _ ⟨rfl,x,rfl⟩))
    go_ret
    exact Gives.mk (by rw[HF.out,c1,c2,c3];rfl)
   cases c4:((z == -1) == (k == -1))
   ·go_wp2_with (first|(go_at_call 151;refine(c_sl01In).mono ?_;rintro _ _ ⟨rfl,x,rfl⟩))
    go_ret
    exact Gives.mk (by rw[HF.out,c1,c2,c3,c4];rfl)
   by_cases h6:n=25
   ·have c6:((n:Int) == 25)=true:=by simp;omega
    have HF3:=lH (show fileInOk f z k p=true by rw[HF.out,c1,c2,c3,c4,h6,HA.out];rfl)
    clear HF h6 HA
    go_wp2_with (first|(go_at_call 151;refine(c_sl01In).mono ?_;rintro _ _ ⟨rfl,x,rfl⟩))
    go_ret
    exact Gives.mk (by rw[HF3.out];rfl)
   ·have c6:((n:Int) == 25)=false:=by simp;omega
    have HF3:=lH (show fileInOk f z k p=false by rw[HF.out,c1,c2,c3,c4,decide_eq_false h6];rfl)
    clear HF h6 HA
    go_wp2_with (first|(go_at_call 151;refine(c_sl01In).mono ?_;rintro _ _ ⟨rfl,x,rfl⟩))
    go_ret
    exact Gives.mk (by rw[HF3.out];rfl)
end Go.Proofs.YtbaffippdifbpaaGreat
namespace Go.Proofs.YtbaffippdifbpaaGreat
set_option linter.unusedVariables false
open Go.ChangeShapes Go.WideShapes Go.ChangeAt Go.RowKit
theorem Own.rdS{α:Type}[E:Enc α]{enc:α→List Value}{T size B:Nat}{w:World}{a:Option Addr}{c:Nat}{l:List α}(h:Own enc T size B w a c l)(hs:E.size=size)(hR:∀ x∈l,E.Rd B w (enc x) x):RdS B w a c l:=by
 have hsl:=h.sl
 obtain⟨hsz,-,⟨hv,hn0⟩|⟨g,cap,cur,hv,hB,hheap,hle,hmax,-⟩⟩:=h
 ·simp only[Value.slice.injEq]at hv
  obtain⟨rfl,-,rfl⟩:=hv
  have:l=[]:=List.length_eq_zero_iff.1 hn0
  subst this
  exact RdS.nil
 ·simp only[Value.slice.injEq,true_and]at hv
  obtain⟨rfl,rfl⟩:=hv
  refine⟨hle,hmax,(fun e=>by cases e),fun i x hx=>?_⟩
  obtain⟨b,off,hb,hlt,hc⟩:=hsl i x hx
  simp only[Option.some.injEq,Addr.mk.injEq]at hb
  obtain⟨rfl,rfl,-⟩:=hb
  refine⟨g,0,enc x,rfl,hB,hlt,hR x (List.mem_of_getElem? hx),fun j u hu=>?_⟩
  have:=hc j u hu
  rw[hsz]at this
  rw[hs];exact this
class Flat(α:Type) extends Enc α where
 enc:α→List Value
 ty:Nat
 good:α→Prop
 encLen:∀ x,(enc x).length=size
 one:∀ x,∀ u∈enc x,u.oneCell'=true
 rd:∀ {B w x},good x→Rd B w (enc x) x
 inv:∀ {B w vs x},Rd B w vs x→vs=enc x∧good x
abbrev Col:=Nat × Nat
def blkOf(a:Option Addr):Option Nat:=a.map (·.block)
theorem ownBlock_eq(a:Option Addr)(n c:Nat):Value.ownBlock (.slice a n c)=blkOf a:=by cases a<;>rfl
theorem Own.blk{α:Type}{enc:α→List Value}{T size B:Nat}{w:World}{a:Option Addr}{c:Nat}{l:List α}(h:Own enc T size B w a c l):∀ k,blkOf a=some k→B≤k∧k<w.heap.size:=fun k hk=>h.2.lt k (by rw[ownBlock_eq];exact hk)
theorem Own.same{α:Type}{enc:α→List Value}{T size B:Nat}{w w':World}{a:Option Addr}{c:Nat}{l:List α}(h:Own enc T size B w a c l)(hk:∀ k,blkOf a=some k→B≤k→k<w.heap.size→w'.heap[k]?=w.heap[k]?):Own enc T size B w' a c l:=by
 obtain⟨h0,h1,h2|⟨g,cap,cur,hv,hg,hh,r⟩⟩:=h
 ·exact⟨h0,h1,.inl h2⟩
 ·refine⟨h0,h1,.inr ⟨g,cap,cur,hv,hg,?_,r⟩⟩
  simp only[Value.slice.injEq]at hv
  rw[hk g (by rw[hv.1];rfl) hg (Array.getElem?_eq_some_iff.1 hh).1];exact hh
structure OwnC{α:Type}[E:Flat α](B:Nat)(χ:Nat→Col)(i:Col)(w:World)(a:Option Addr)(c:Nat)(l:List α):Prop where
 own:Own E.enc E.ty E.size B w a c l
 col:∀ k,blkOf a=some k→χ k=i
 good:∀ x∈l,E.good x
structure Fr(B:Nat)(χ:Nat→Col)(C:Col→Prop)(w w':World):Prop where
 os:w'.os=w.os
 tape:w'.tape=w.tape
 output:w'.output=w.output
 size:w.heap.size≤w'.heap.size
 block:∀ b,b<w.heap.size→¬ (B≤b∧C (χ b))→w'.heap[b]?=w.heap[b]?
def paint(U:Nat)(χ χ2:Nat→Col)(f:Col→Col):Nat→Col:=fun b=>if b<U then χ b else f (χ2 b)
section
variable {α:Type} [E:Flat α] {B:Nat} {χ χ2:Nat→Col} {i:Col} {w w':World} {a:Option Addr} {c:Nat} {l:List α} {C:Col→Prop}
theorem OwnC.rd(h:OwnC B χ i w a c l):RdS B w a c l:=h.own.rdS rfl (fun x hx=>E.rd (h.good x hx))
theorem OwnC.fr(h:OwnC B χ i w a c l)(f:Fr B χ C w w')(hi:¬ C i):OwnC B χ i w' a c l :=
 ⟨h.own.same (fun k hk h1 h2=>f.block k h2 (fun e=>by rw[h.col k hk]at e;exact hi e.2)),h.col,h.good⟩
theorem OwnC.to(h:OwnC B χ i w a c l)(g:Grows w w'):OwnC B χ i w' a c l:=⟨h.own.to g,h.col,h.good⟩
theorem OwnC.keep(h:OwnC B χ i w a c l)(g:Keeps B w w'):OwnC B χ i w' a c l:=⟨h.own.same (fun k _ h1 h2=>g.block k h1 h2),h.col,h.good⟩
theorem OwnC.mono{B':Nat}(h:OwnC B χ i w a c l)(hB:B'≤B):OwnC B' χ i w a c l:=⟨h.own.mono hB,h.col,h.good⟩
theorem OwnC.recol{χ':Nat→Col}{i':Col}(h:OwnC B χ i w a c l)(hc:∀ k,B≤k→k<w.heap.size→χ k=i→χ' k=i'):OwnC B χ' i' w a c l :=
 ⟨h.own,fun k hk=>hc k (h.own.blk k hk).1 (h.own.blk k hk).2 (h.col k hk),h.good⟩
theorem OwnC.old{f:Col→Col}{U:Nat}(h:OwnC B χ i w a c l)(hU:w.heap.size≤U):OwnC B (paint U χ χ2 f) i w a c l :=
 h.recol fun k _ h2 h3=>by rw[paint,if_pos (by omega)];exact h3
theorem OwnC.new{f:Col→Col}{U:Nat}(h:OwnC B χ2 i w a c l)(hU:U≤B):OwnC B (paint U χ χ2 f) (f i) w a c l :=
 h.recol fun k h1 _ h3=>by rw[paint,if_neg (by omega),h3]
theorem OwnC.of(h:Own E.enc E.ty E.size B w a c l)(hg:∀ x∈l,E.good x)(i:Col):OwnC B (fun _=>i) i w a c l:=⟨h,fun _ _=>rfl,hg⟩
theorem Fr.refl(B:Nat)(χ:Nat→Col)(C:Col→Prop)(w:World):Fr B χ C w w:=⟨rfl,rfl,rfl,Nat.le_refl _,fun _ _ _=>rfl⟩
theorem Fr.grows(B:Nat)(χ:Nat→Col)(C:Col→Prop)(w w':World)[g:Grows w w']:Fr B χ C w w':=⟨g.out.os,g.out.tape,g.out.output,g.out.size,fun b h _=>g.out.block b h⟩
theorem Fr.trans{w1:World}(h:Fr B χ C w w1)(k:Fr B χ C w1 w'):Fr B χ C w w':=⟨k.os.trans h.os,k.tape.trans h.tape,k.output.trans h.output,Nat.le_trans h.size k.size,fun b h2 h3=>(k.block b (Nat.lt_of_lt_of_le h2 h.size) h3).trans (h.block b h2 h3)⟩
theorem Fr.wide{C':Col→Prop}(h:Fr B χ C w w')(hC:∀ i,C i→C' i):Fr B χ C' w w':=⟨h.os,h.tape,h.output,h.size,fun b h2 h3=>h.block b h2 (fun k=>h3 ⟨k.1,hC _ k.2⟩)⟩
theorem Fr.below{u:World}(h:Fr B χ C w w')(g:Grows u w)(hB:u.heap.size≤B):Grows u w':=⟨⟨h.os.trans g.out.os,h.tape.trans g.out.tape,h.output.trans g.out.output,Nat.le_trans g.out.size h.size,fun b hb=>(h.block b (Nat.lt_of_lt_of_le hb g.out.size) (fun e=>by omega)).trans (g.out.block b hb)⟩⟩
theorem OwnC.wrote{n c2:Nat}(h:OwnC B χ i w a c l)(g:w.grownBy w' (Value.ownBlock (.slice a n c2))):Fr B χ (·=i) w w' :=
 ⟨g.os,g.tape,g.output,g.size,fun b h2 h3=>g.block b h2 (by rw[ownBlock_eq];exact fun e=>h3 ⟨(h.own.blk b e.symm).1,h.col b e.symm⟩)⟩
end
def GivesOS{α:Type}[E:Flat α](w:World)(l:List α):Ending→World→Prop:=fun e w'=>∃ a c,e=.returned (.slice a l.length c)∧OwnC w.heap.size (fun _=>(0,0)) (0,0) w' a c l∧∃ y:Later w,w'=y.w
/-! ### Elements that hold a slice each -/
class Nest(α:Type)(β:outParam Type) extends Enc α where
 cells:α→Option Addr→Nat→List Value
 inner:α→List β
 ty:Nat
 good:α→Prop
 cellsLen:∀ x a c,(cells x a c).length=size
 one:∀ x a c,∀ u∈cells x a c,u.oneCell'=true
structure NRow(α:Type) where
 x:α
 a:Option Addr
 c:Nat
def encN{α β:Type}[N:Nest α β](r:NRow α):List Value:=N.cells r.x r.a r.c
theorem encN_len{α β:Type}[N:Nest α β](r:NRow α):(encN r).length=N.size:=N.cellsLen _ _ _
structure OwnN{α β:Type}[N:Nest α β][F:Flat β](B:Nat)(χ:Nat→Col)(o:Nat)(w:World)(a:Option Addr)(c:Nat)(rows:List (NRow α)):Prop where
 own:Own (encN (α:=α)) N.ty N.size B w a c rows
 col:∀ k,blkOf a=some k→χ k=(o,0)
 each:∀ k r,rows[k]?=some r→N.good r.x∧OwnC B χ (o,k+1) w r.a r.c (N.inner r.x)
class NestRd(α:Type){β:Type}[N:Nest α β][F:Flat β]:Prop where
 rd:∀ {B w x a c},N.good x→RdS B w a c (N.inner x)→N.Rd B w (N.cells x a c) x
section
variable {α β:Type} [N:Nest α β] [F:Flat β] {B:Nat} {χ χ2:Nat→Col} {o:Nat} {w w':World} {a:Option Addr} {c:Nat} {rows:List (NRow α)} {C:Col→Prop}
theorem OwnN.fr(h:OwnN B χ o w a c rows)(f:Fr B χ C w w')(hi:∀ k,¬ C (o,k)):OwnN B χ o w' a c rows :=
 ⟨h.own.same (fun k hk h1 h2=>f.block k h2 (fun e=>by rw[h.col k hk]at e;exact hi 0 e.2)),h.col,fun k r hr=>⟨(h.each k r hr).1,(h.each k r hr).2.fr f (hi _)⟩⟩
theorem OwnN.to(h:OwnN B χ o w a c rows)(g:Grows w w'):OwnN B χ o w' a c rows:=⟨h.own.to g,h.col,fun k r hr=>⟨(h.each k r hr).1,(h.each k r hr).2.to g⟩⟩
theorem OwnN.keep(h:OwnN B χ o w a c rows)(g:Keeps B w w'):OwnN B χ o w' a c rows:=⟨h.own.same (fun k _ h1 h2=>g.block k h1 h2),h.col,fun k r hr=>⟨(h.each k r hr).1,(h.each k r hr).2.keep g⟩⟩
theorem OwnN.mono{B':Nat}(h:OwnN B χ o w a c rows)(hB:B'≤B):OwnN B' χ o w a c rows:=⟨h.own.mono hB,h.col,fun k r hr=>⟨(h.each k r hr).1,(h.each k r hr).2.mono hB⟩⟩
theorem OwnN.recol{χ':Nat→Col}{o':Nat}(h:OwnN B χ o w a c rows)(hc:∀ k j,B≤k→k<w.heap.size→χ k=(o,j)→χ' k=(o',j)):OwnN B χ' o' w a c rows :=
 ⟨h.own,fun k hk=>hc k 0 (h.own.blk k hk).1 (h.own.blk k hk).2 (h.col k hk),fun k r hr=>⟨(h.each k r hr).1,(h.each k r hr).2.recol (fun b h1 h2 h3=>hc b _ h1 h2 h3)⟩⟩
theorem OwnN.old{f:Col→Col}{U:Nat}(h:OwnN B χ o w a c rows)(hU:w.heap.size≤U):OwnN B (paint U χ χ2 f) o w a c rows :=
 h.recol fun k _ _ h2 h3=>by rw[paint,if_pos (by omega)];exact h3
theorem OwnN.rd[R:NestRd α](h:OwnN B χ o w a c rows):RdS B w a c (rows.map (·.x)):=by
 have hsl:=h.own.sl
 have hE:=h.each
 obtain⟨hsz,-,⟨hv,hn0⟩|⟨g,cap,cur,hv,hB,hheap,hle,hmax,-⟩⟩:=h.own
 ·simp only[Value.slice.injEq]at hv
  obtain⟨rfl,-,rfl⟩:=hv
  have:rows=[]:=List.length_eq_zero_iff.1 hn0
  subst this
  exact RdS.nil
 ·simp only[Value.slice.injEq,true_and]at hv
  obtain⟨rfl,rfl⟩:=hv
  refine⟨by rw[List.length_map];exact hle,hmax,(fun e=>by cases e),fun i x hx=>?_⟩
  rw[List.getElem?_map]at hx
  obtain⟨r,hr,rfl⟩:=Option.map_eq_some_iff.1 hx
  obtain⟨b,off,hb,hlt,hc⟩:=hsl i r hr
  simp only[Option.some.injEq,Addr.mk.injEq]at hb
  obtain⟨rfl,rfl,-⟩:=hb
  refine⟨g,0,encN r,rfl,hB,hlt,R.rd (hE i r hr).1 (hE i r hr).2.rd,fun j u hu=>?_⟩
  have:=hc j u hu
  rw[hsz]at this
  exact this
end
end Go.Proofs.YtbaffippdifbpaaGreat
