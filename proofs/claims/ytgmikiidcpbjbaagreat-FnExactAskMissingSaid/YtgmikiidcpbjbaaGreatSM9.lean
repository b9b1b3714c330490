/- The contracts of CheckOf. No condition but on numbers. The contracts of the mirrors, sizes and equalities of flat structs (1). No condition but on sizes. -/
import Derived.Test.YtgmikiidcpbjbaaGreatSWord
import Derived.Test.YtgmikiidcpbjbaaGreatSDTy
import Derived.Test.YtgmikiidcpbjbaaGreatSM4
import Derived.Deep.RegionHeld3
import Derived.Test.YtgmikiidcpbjbaaGreatSM0
import Derived.Shelf.Abstract
namespace Go.Proofs.YtgmikiidcpbjbaaGreat
set_option linter.unusedVariables false
open Go.ChangeShapes Go.WideShapes Go.ChangeAt Go.RowKit
def byteList(s:ByteArray):List Int:=s.data.toList.map (fun b=>(b.toNat:Int))
@[irreducible] def checkOf(s:ByteArray):Int:=crc 65535 (byteList s)
theorem checkOf_eq(s:ByteArray):checkOf s=crc 65535 (byteList s):=by unfold checkOf;rfl
theorem crc_cons(n b:Int)(l:List Int):crc n (b::l)=crc (crcBits 8 (bits .xor .i64 n (256*b))) l:=by with_unfolding_all rfl
theorem crc_nil(n:Int):crc n []=n:=by with_unfolding_all rfl
theorem byteList_len(s:ByteArray):(byteList s).length=s.size:=by simp[byteList]
theorem byteList_at{s:ByteArray}{k:Nat}(h:k<s.size):((s[k]'h).toNat:Int)≤255∧(byteList s).drop k=((s[k]'h).toNat:Int)::(byteList s).drop (k+1):=by
 refine⟨?_,?_⟩
 ·have:=(s[k]'h).toNat_lt;omega
 ·have hk:k<(byteList s).length:=by rw[byteList_len];exact h
  rw[List.drop_eq_getElem_cons hk]
  congr 1
  simp[byteList];rfl
set_option maxRecDepth 100000 in
set_option maxHeartbeats 2000000 in
theorem c_iCheckOf{s:ByteArray}{w:World}(hm:s.size≤4611686018427387904) :
  Calls Tryz.prog 232 #[.string s] w (Gives w (.int .i64 (checkOf s))):=by
 have hlen:=byteList_len s
 have HC:=lH (show checkOf s=crc 65535 (byteList s)from checkOf_eq s)
 go_enter Tryz.func232,Tryz.ntmps232
 go_wp2_with (first|((with_reducible refine wp_region_later (by kernel_rfl) (by kernel_rfl) ?_);(repeat(first|go_big_quiet_step (first|fail)));refine wpQuiet_nil ?_;rintro _ ⟨x,rfl⟩))
 go_loopw [3,4] (fun u v wr=>∃ (k:Nat) (m:Int),v=.int .i64 k∧u=.int .i64 m∧k≤s.size∧0≤m∧m≤65535∧Hid (crc m ((byteList s).drop k)=checkOf s)∧∃ x:Later w,wr=x.w) (fun _ v _=>(s.size - intOf v).toNat)
 case atStart=>exact⟨0,65535,rfl,rfl,by omega,by omega,by omega,by rw[HC.out];rfl,Later.of⟩
 case round =>
  obtain⟨k,m,rfl,rfl,hk,hm0,hm1,hf,x0,rfl⟩:=hrel
  by_cases h:k<s.size
  ·obtain⟨hb1,hd⟩:=byteList_at h
   have⟨hx0,hx1⟩:=xor_bd hm0 hm1 (show 0≤256*((s[k]'h).toNat:Int)by omega) (show 256*((s[k]'h).toNat:Int)≤65535 by omega)
   go_wp2_with (first|((with_reducible refine wp_region_later (by kernel_rfl) (by kernel_rfl) ?_);(repeat(first|go_big_quiet_step (first|fail)));refine wpQuiet_nil ?_;rintro _ ⟨x,rfl⟩))
   go_loopw [3,5] (fun u v wr=>∃ (j:Nat) (m1:Int),v=.int .i64 j∧u=.int .i64 m1∧j≤8∧0≤m1∧m1≤65535∧Hid (crcBits (8 - j) m1=crcBits 8 (bits .xor .i64 m (256*((s[k]'h).toNat:Int))))∧∃ y:Later x0.w,wr=y.w) (fun _ v _=>(8 - intOf v).toNat)
   case atStart=>exact⟨0,_,rfl,rfl,by omega,hx0,hx1,by simp[Hid],Later.of⟩
   case round =>
    obtain⟨j,m1,rfl,rfl,hj,hn0,hn1,hg,y,rfl⟩:=hrel
    by_cases h2:j<8
    ·have ht:=and_top hn0 hn1
     have⟨hc0,hc1⟩:=crcBit_bd hn0 hn1
     cases c1:decide (32768≤m1)
     ·go_wp2_with (first|((with_reducible refine wp_region_later (by kernel_rfl) (by kernel_rfl) ?_);(repeat(first|go_big_quiet_step (first|fail)|simp only[c1]|simp only[ht]));refine wpQuiet_nil ?_;rintro _ ⟨x,rfl⟩))
      go_roundw
      case rel=>exact⟨j+1,crcBit m1,by go_num,by simp only[crcBit,if_neg (show ¬ 32768≤m1 by simpa using c1),Int.mul_comm m1 2],by omega,hc0,hc1,by have:=hg.out;rw[show 8 - j=(8 - (j+1))+1 by omega,crcBits]at this;exact this,Later.of⟩
      case measure=>simp[intOf];omega
     ·go_wp2_with (first|((with_reducible refine wp_region_later (by kernel_rfl) (by kernel_rfl) ?_);(repeat(first|go_big_quiet_step (first|fail)|simp only[c1]|simp only[ht]));refine wpQuiet_nil ?_;rintro _ ⟨x,rfl⟩))
      go_roundw
      case rel=>exact⟨j+1,crcBit m1,by go_num,by simp only[crcBit,if_pos (show 32768≤m1 by simpa using c1)],by omega,hc0,hc1,by have:=hg.out;rw[show 8 - j=(8 - (j+1))+1 by omega,crcBits]at this;exact this,Later.of⟩
      case measure=>simp[intOf];omega
    ·have:j=8:=by omega
     subst this
     have hm1:=lH (show crcBits 8 (bits .xor .i64 m (256*((s[k]'h).toNat:Int)))=m1 by rw[← hg.out];rfl)
     go_wp2_with (first|((with_reducible refine wp_region_later (by kernel_rfl) (by kernel_rfl) ?_);(repeat(first|go_big_quiet_step (first|fail)));refine wpQuiet_nil ?_;rintro _ ⟨x,rfl⟩))
     go_roundw
     case rel=>exact⟨k+1,m1,by go_num,rfl,by omega,hn0,hn1,by have:=hf.out;rw[hd,crc_cons,hm1.out]at this;exact lH this,Later.of⟩
     case measure=>simp[intOf];omega
  ·go_wp2_with (first|((with_reducible refine wp_region_later (by kernel_rfl) (by kernel_rfl) ?_);(repeat(first|go_big_quiet_step (first|fail)));refine wpQuiet_nil ?_;rintro _ ⟨x,rfl⟩))
   go_ret
   exact Gives.mk (by have:=hf.out;rw[List.drop_of_length_le (by omega),crc_nil]at this;rw[← this];rfl)
set_option maxRecDepth 100000 in
set_option maxHeartbeats 2000000 in
theorem c_sCheckOf{s:ByteArray}{w:World}(hm:s.size≤4611686018427387904) :
  Calls Tryz.prog 203 #[.string s] w (Gives w (.int .i64 (checkOf s))):=by
 have hlen:=byteList_len s
 have HC:=lH (show checkOf s=crc 65535 (byteList s)from checkOf_eq s)
 go_enter Tryz.func203,Tryz.ntmps203
 go_wp2_with (first|((with_reducible refine wp_region_later (by kernel_rfl) (by kernel_rfl) ?_);(repeat(first|go_big_quiet_step (first|fail)));refine wpQuiet_nil ?_;rintro _ ⟨x,rfl⟩))
 go_loopw [3,4] (fun u v wr=>∃ (k:Nat) (m:Int),v=.int .i64 k∧u=.int .i64 m∧k≤s.size∧0≤m∧m≤65535∧Hid (crc m ((byteList s).drop k)=checkOf s)∧∃ x:Later w,wr=x.w) (fun _ v _=>(s.size - intOf v).toNat)
 case atStart=>exact⟨0,65535,rfl,rfl,by omega,by omega,by omega,by rw[HC.out];rfl,Later.of⟩
 case round =>
  obtain⟨k,m,rfl,rfl,hk,hm0,hm1,hf,x0,rfl⟩:=hrel
  by_cases h:k<s.size
  ·obtain⟨hb1,hd⟩:=byteList_at h
   have⟨hx0,hx1⟩:=xor_bd hm0 hm1 (show 0≤((s[k]'h).toNat:Int)*256 by omega) (show((s[k]'h).toNat:Int)*256≤65535 by omega)
   go_wp2_with (first|((with_reducible refine wp_region_later (by kernel_rfl) (by kernel_rfl) ?_);(repeat(first|go_big_quiet_step (first|fail)));refine wpQuiet_nil ?_;rintro _ ⟨x,rfl⟩))
   go_loopw [3,5] (fun u v wr=>∃ (j:Nat) (m1:Int),v=.int .i64 j∧u=.int .i64 m1∧j≤8∧0≤m1∧m1≤65535∧Hid (crcBits (8 - j) m1=crcBits 8 (bits .xor .i64 m (((s[k]'h).toNat:Int)*256)))∧∃ y:Later x0.w,wr=y.w) (fun _ v _=>(8 - intOf v).toNat)
   case atStart=>exact⟨0,_,rfl,rfl,by omega,hx0,hx1,by simp[Hid],Later.of⟩
   case round =>
    obtain⟨j,m1,rfl,rfl,hj,hn0,hn1,hg,y,rfl⟩:=hrel
    by_cases h2:j<8
    ·have ht:=and_top hn0 hn1
     have⟨hc0,hc1⟩:=crcBit_bd hn0 hn1
     cases c1:decide (32768≤m1)
     ·go_wp2_with (first|((with_reducible refine wp_region_later (by kernel_rfl) (by kernel_rfl) ?_);(repeat(first|go_big_quiet_step (first|fail)|simp only[c1]|simp only[ht]));refine wpQuiet_nil ?_;rintro _ ⟨x,rfl⟩))
      go_roundw
      case rel=>exact⟨j+1,crcBit m1,by go_num,by simp only[crcBit,if_neg (show ¬ 32768≤m1 by simpa using c1),Int.mul_comm m1 2],by omega,hc0,hc1,by have:=hg.out;rw[show 8 - j=(8 - (j+1))+1 by omega,crcBits]at this;exact this,Later.of⟩
      case measure=>simp[intOf];omega
     ·go_wp2_with (first|((with_reducible refine wp_region_later (by kernel_rfl) (by kernel_rfl) ?_);(repeat(first|go_big_quiet_step (first|fail)|simp only[c1]|simp only[ht]));refine wpQuiet_nil ?_;rintro _ ⟨x,rfl⟩))
      go_roundw
      case rel=>exact⟨j+1,crcBit m1,by go_num,by simp only[crcBit,if_pos (show 32768≤m1 by simpa using c1),Int.mul_comm m1 2],by omega,hc0,hc1,by have:=hg.out;rw[show 8 - j=(8 - (j+1))+1 by omega,crcBits]at this;exact this,Later.of⟩
      case measure=>simp[intOf];omega
    ·have:j=8:=by omega
     subst this
     have hm1:=lH (show crcBits 8 (bits .xor .i64 m (((s[k]'h).toNat:Int)*256))=m1 by rw[← hg.out];rfl)
     go_wp2_with (first|((with_reducible refine wp_region_later (by kernel_rfl) (by kernel_rfl) ?_);(repeat(first|go_big_quiet_step (first|fail)));refine wpQuiet_nil ?_;rintro _ ⟨x,rfl⟩))
     go_roundw
     case rel=>exact⟨k+1,m1,by go_num,rfl,by omega,hn0,hn1,by have:=hf.out;rw[hd,crc_cons,← Int.mul_comm _ 256,hm1.out]at this;exact lH this,Later.of⟩
     case measure=>simp[intOf];omega
  ·go_wp2_with (first|((with_reducible refine wp_region_later (by kernel_rfl) (by kernel_rfl) ?_);(repeat(first|go_big_quiet_step (first|fail)));refine wpQuiet_nil ?_;rintro _ ⟨x,rfl⟩))
   go_ret
   exact Gives.mk (by have:=hf.out;rw[List.drop_of_length_le (by omega),crc_nil]at this;rw[← this];rfl)
theorem d_ltoChannel{B:Nat}{vs:List Value}{x:TChannel}{w:World}(h:Enc.Rd B w vs x)(ht:Enc.tot x≤1048576) :
  Calls Tryz.prog 68 #[.agg vs.toArray] w (GivesD w x):=by
 obtain⟨rfl,hok⟩:=h
 clear ht
 have HOK:=lH hok;clear hok
 go_enter Tryz.func68,Tryz.ntmps68
 go_wp2_with fail
 refine bodyPost_ret (v:=.agg #[.int .i64 x.Seed,.int .i64 x.Burst,.int .i64 x.Loss]) ?_ rfl ⟨[.int .i64 x.Seed,.int .i64 x.Burst,.int .i64 x.Loss],rfl,⟨rfl,HOK.out⟩,Later.of⟩
 simp[results,Tryz.results68,go_sem]
theorem d_leqChannel{B B2:Nat}{vs vs2:List Value}{x:TChannel}{w:World}(h:Enc.Rd B w vs x)(h2:Enc.Rd B2 w vs2 x) :
  Calls Tryz.prog 81 #[.agg vs.toArray,.agg vs2.toArray] w (Gives w (.bool true)):=by
 obtain⟨rfl,hok⟩:=h
 obtain⟨rfl,-⟩:=h2
 have HOK:=lH hok;clear hok
 go_enter Tryz.func81,Tryz.ntmps81
 go_wp2_with fail
 go_ret
 exact Gives.mk rfl
theorem d_ltoSent{B:Nat}{vs:List Value}{x:TSent}{w:World}(h:Enc.Rd B w vs x)(ht:Enc.tot x≤1048576) :
  Calls Tryz.prog 442 #[.agg vs.toArray] w (GivesD w x):=by
 obtain⟨rfl,hok⟩:=h
 clear ht
 have HOK:=lH hok;clear hok
 go_enter Tryz.func442,Tryz.ntmps442
 go_wp2_with fail
 refine bodyPost_ret (v:=.agg #[.int .i64 x.Seq,.string x.Data]) ?_ rfl ⟨[.int .i64 x.Seq,.string x.Data],rfl,⟨rfl,HOK.out⟩,Later.of⟩
 simp[results,Tryz.results442,go_sem]
theorem d_lszSent{B:Nat}{vs:List Value}{x:TSent}{left:Int}{w:World}(h:Enc.Rd B w vs x)(hl:0≤left)(hl2:left≤1048576) :
  Calls Tryz.prog 441 #[.agg vs.toArray,.int .i64 left] w (Gives w (.int .i64 (szD left (Enc.tot x)))):=by
 obtain⟨rfl,hok⟩:=h
 have n0:(0:Int)≤x.Data.size:=by omega
 have z0:x.Data.size≤9223372036854775807:=hok.2.1
 have HOK:=lH hok;clear hok
 have htot:Enc.tot x=(x.Data.size:Int):=rfl
 have HTOT:=lH htot;clear htot
 go_enter Tryz.func441,Tryz.ntmps441
 by_cases h0:left - (x.Data.size:Int)<0
 ·have HV:=lH (show szD left (Enc.tot x)=-1 from szD_neg (by rw[HTOT.out];omega))
  go_wp2_with fail
  go_ret
  exact Gives.mk (by rw[HV.out];rfl)
 have HV:=lH (show szD left (Enc.tot x)=left - (x.Data.size:Int)by rw[szD_pos (by rw[HTOT.out];omega),HTOT.out]<;>omega)
 go_wp2_with fail
 go_ret
 exact Gives.mk (by rw[HV.out];rfl)
theorem d_leqSent{B B2:Nat}{vs vs2:List Value}{x:TSent}{w:World}(h:Enc.Rd B w vs x)(h2:Enc.Rd B2 w vs2 x) :
  Calls Tryz.prog 446 #[.agg vs.toArray,.agg vs2.toArray] w (Gives w (.bool true)):=by
 obtain⟨rfl,hok⟩:=h
 obtain⟨rfl,-⟩:=h2
 have HOK:=lH hok;clear hok
 go_enter Tryz.func446,Tryz.ntmps446
 go_wp2_with fail
 go_ret
 exact Gives.mk rfl
set_option maxRecDepth 100000 in
set_option maxHeartbeats 2000000 in
theorem d_lszSentS{B:Nat}{a:Option Addr}{c:Nat}{l:List TSent}{left:Int}{w:World}(hs:RdS B w a c l)(hl:0≤left)(hl2:left≤1048576) :
  Calls Tryz.prog 349 #[.slice a l.length c,.int .i64 left] w (Gives w (.int .i64 (szD left (totL l)))):=by
 have hmx:=hs.max
 have hln:=totL_len l
 obtain⟨n,hn⟩:∃ n,l.length=n:=⟨_,rfl⟩
 rw[hn]at hln hmx
 rw[hn]
 have HN:=lH hn;clear hn
 by_cases h:left - n<0
 ·have HV:=lH (show szD left (totL l)=-1 from szD_neg (by omega))
  go_enter Tryz.func349,Tryz.ntmps349
  go_wp2_with fail
  go_ret
  exact Gives.mk (by rw[HV.out];rfl)
 ·go_enter Tryz.func349,Tryz.ntmps349
  go_wp2_with fail
  go_loopw [1,5] (fun u v wr=>∃ (k:Nat) (r:Int),v=.int .i64 k∧u=.int .i64 r∧k≤n∧0≤r∧r≤1048576∧Hid (r - totL (l.drop k)+(n - k)=left - totL l)∧∃ x:Later w,wr=x.w) (fun _ v _=>(n - intOf v).toNat)
  case atStart=>exact⟨0,left - n,rfl,by go_num,by omega,by omega,by omega,by unfold Hid;rw[List.drop_zero];omega,Later.of⟩
  case round =>
   obtain⟨k,r,rfl,rfl,hk,hr,hr2,hf,x,rfl⟩:=hrel
   by_cases h2:k<n
   ·have hlk:k<l.length:=by have:=HN.out;omega
    obtain⟨eb,eoff,ex,rfl,ehb,ehd,eok,eh0,eh1⟩:=hs.atTSent (show k<l.length by omega)
    have hd2:=totL_len (l.drop (k+1))
    have HD2:=lH (show((n:Int) - k - 1≤totL (l.drop (k+1)))by rw[List.length_drop,HN.out]at hd2;omega);clear hd2 hlk
    have ht0:=Enc.tot_nonneg ex
    obtain⟨t,htt⟩:∃ t,Enc.tot ex=t:=⟨_,rfl⟩
    have hf2:Hid (r - (1+t+totL (l.drop (k+1)))+(n - k)=left - totL l):=by
     have:=hf.out;rw[ehd.out]at this;rw[← htt];exact this
    rw[htt]at ht0
    have HTT:=lH htt;clear htt hf
    have HEOK:=lH eok;clear eok
    go_wp2_with fail
    refine(d_lszSent (B:=0) (x:=ex) ⟨rfl,HEOK.out⟩ (by omega) (by omega)).mono ?_
    rintro _ _ ⟨rfl,y,rfl⟩
    rw[HTT.out]
    by_cases h3:r - t<0
    ·have HV:=lH (show szD left (totL l)=-1 from szD_neg (by have h7:=hf2.out;have h8:=HD2.out;omega))
     rw[szD_neg h3]
     go_wp2_with fail
     go_ret
     exact Gives.mk (by rw[HV.out];rfl)
    ·rw[szD_pos h3]
     go_wp2_with fail
     go_roundw
     case rel=>exact⟨k+1,r - t,by go_num,by go_num,by omega,by omega,by omega,by have h7:=hf2.out;unfold Hid;omega,Later.of⟩
     case measure=>simp[intOf];omega
   ·have HV:=lH (show szD left (totL l)=r by
     have h7:=hf.out
     rw[List.drop_of_length_le (by have:=HN.out;omega)]at h7
     simp only[totL]at h7
     rw[szD_pos (by omega)];omega)
    go_wp2_with fail
    go_ret
    exact Gives.mk (by rw[HV.out];rfl)
theorem d_leqSentS{B B2:Nat}{a a2:Option Addr}{c c2:Nat}{l:List TSent}{w:World}(hs:RdS B w a c l)(hs2:RdS B2 w a2 c2 l) :
  Calls Tryz.prog 374 #[.slice a l.length c,.slice a2 l.length c2] w (Gives w (.bool true)):=by
 have hmx:=hs.max
 obtain⟨n,hn⟩:∃ n,l.length=n:=⟨_,rfl⟩
 rw[hn]at hmx
 rw[hn]
 have HN:=lH hn;clear hn
 have kn:((n:Int) != (n:Int))=false:=by simp
 go_enter Tryz.func374,Tryz.ntmps374
 go_wp2_with fail
 go_loopw [5] (fun v wr=>∃ k:Nat,v=.int .i64 k∧k≤n∧∃ x:Later w,wr=x.w) (fun v _=>(n - intOf v).toNat)
 case atStart=>exact⟨0,rfl,by omega,Later.of⟩
 case round =>
  obtain⟨k,rfl,hk,x,rfl⟩:=hrel
  by_cases h:k<n
  ·have hlk:k<l.length:=by have:=HN.out;omega
   obtain⟨eb,eoff,ex,rfl,ehb,ehd,eok,eh0,eh1⟩:=hs.atTSent (show k<l.length by omega)
   obtain⟨fb,foff,fx,rfl,fhb,fhd,fok,fh0,fh1⟩:=hs2.atTSent (show k<l.length by omega)
   obtain rfl:ex=fx:=by have:=ehd.out.symm.trans fhd.out;simpa using this
   clear ehd fhd hlk hs hs2
   have ce:∀ {W:World} [Grows w W],Calls Tryz.prog 446 #[.agg #[.int .i64 ex.Seq,.string ex.Data],.agg #[.int .i64 ex.Seq,.string ex.Data]] W (Gives W (.bool true)):=fun {W} _=>d_leqSent (B:=0) (B2:=0) (x:=ex) ⟨rfl,eok⟩ ⟨rfl,fok⟩
   clear eok fok
   go_wp2_with (first|((with_reducible refine wp_region_later (by kernel_rfl) (by kernel_rfl) ?_);(repeat(first|go_big_quiet_step (first|(go_at_call 446;exact Gives.quiet (ce)))));refine wpQuiet_nil ?_;rintro _ ⟨x,rfl⟩)|(go_at_call 446;refine(ce).mono ?_;rintro _ _ ⟨rfl,x,rfl⟩))
   go_roundw
   case rel=>exact⟨k+1,by go_num,by omega,Later.of⟩
   case measure=>simp[intOf];omega
  ·go_wp2_with fail
   go_ret
   exact Gives.mk rfl
theorem d_ltoReceiver{B:Nat}{vs:List Value}{x:TReceiver}{w:World}(h:Enc.Rd B w vs x)(ht:Enc.tot x≤1048576) :
  Calls Tryz.prog 213 #[.agg vs.toArray] w (GivesD w x):=by
 obtain⟨rfl,hok⟩:=h
 clear ht
 have HOK:=lH hok;clear hok
 go_enter Tryz.func213,Tryz.ntmps213
 go_wp2_with fail
 refine bodyPost_ret (v:=.agg #[.int .i64 x.Expect,.bool x.Locked,.bool x.Again,.int .i64 x.Taken]) ?_ rfl ⟨[.int .i64 x.Expect,.bool x.Locked,.bool x.Again,.int .i64 x.Taken],rfl,⟨rfl,HOK.out⟩,Later.of⟩
 simp[results,Tryz.results213,go_sem]
theorem d_leqReceiver{B B2:Nat}{vs vs2:List Value}{x:TReceiver}{w:World}(h:Enc.Rd B w vs x)(h2:Enc.Rd B2 w vs2 x) :
  Calls Tryz.prog 243 #[.agg vs.toArray,.agg vs2.toArray] w (Gives w (.bool true)):=by
 obtain⟨rfl,hok⟩:=h
 obtain⟨rfl,-⟩:=h2
 have HOK:=lH hok;clear hok
 go_enter Tryz.func243,Tryz.ntmps243
 go_wp2_with fail
 go_ret
 exact Gives.mk rfl
theorem d_ltoNotice{B:Nat}{vs:List Value}{x:TNotice}{w:World}(h:Enc.Rd B w vs x)(ht:Enc.tot x≤1048576) :
  Calls Tryz.prog 207 #[.agg vs.toArray] w (GivesD w x):=by
 obtain⟨rfl,hok⟩:=h
 clear ht
 have HOK:=lH hok;clear hok
 go_enter Tryz.func207,Tryz.ntmps207
 go_wp2_with fail
 refine bodyPost_ret (v:=.agg #[.int .i64 x.Expect,.bool x.Locked,.bool x.Again]) ?_ rfl ⟨[.int .i64 x.Expect,.bool x.Locked,.bool x.Again],rfl,⟨rfl,HOK.out⟩,Later.of⟩
 simp[results,Tryz.results207,go_sem]
theorem d_leqNotice{B B2:Nat}{vs vs2:List Value}{x:TNotice}{w:World}(h:Enc.Rd B w vs x)(h2:Enc.Rd B2 w vs2 x) :
  Calls Tryz.prog 237 #[.agg vs.toArray,.agg vs2.toArray] w (Gives w (.bool true)):=by
 obtain⟨rfl,hok⟩:=h
 obtain⟨rfl,-⟩:=h2
 have HOK:=lH hok;clear hok
 go_enter Tryz.func237,Tryz.ntmps237
 go_wp2_with fail
 go_ret
 exact Gives.mk rfl
theorem d_ltoOrder{B:Nat}{vs:List Value}{x:TOrder}{w:World}(h:Enc.Rd B w vs x)(ht:Enc.tot x≤1048576) :
  Calls Tryz.prog 469 #[.agg vs.toArray] w (GivesD w x):=by
 obtain⟨rfl,hok⟩:=h
 clear ht
 have HOK:=lH hok;clear hok
 go_enter Tryz.func469,Tryz.ntmps469
 go_wp2_with fail
 refine bodyPost_ret (v:=.agg #[.int .i64 x.Kind,.int .i64 x.At,.int .i64 x.A,.int .i64 x.B]) ?_ rfl ⟨[.int .i64 x.Kind,.int .i64 x.At,.int .i64 x.A,.int .i64 x.B],rfl,⟨rfl,HOK.out⟩,Later.of⟩
 simp[results,Tryz.results469,go_sem]
theorem d_leqOrder{B B2:Nat}{vs vs2:List Value}{x:TOrder}{w:World}(h:Enc.Rd B w vs x)(h2:Enc.Rd B2 w vs2 x) :
  Calls Tryz.prog 470 #[.agg vs.toArray,.agg vs2.toArray] w (Gives w (.bool true)):=by
 obtain⟨rfl,hok⟩:=h
 obtain⟨rfl,-⟩:=h2
 have HOK:=lH hok;clear hok
 go_enter Tryz.func470,Tryz.ntmps470
 go_wp2_with fail
 go_ret
 exact Gives.mk rfl
theorem d_ltoRecord{B:Nat}{vs:List Value}{x:TRecord}{w:World}(h:Enc.Rd B w vs x)(ht:Enc.tot x≤1048576) :
  Calls Tryz.prog 361 #[.agg vs.toArray] w (GivesD w x):=by
 obtain⟨rfl,hok⟩:=h
 clear ht
 have HOK:=lH hok;clear hok
 go_enter Tryz.func361,Tryz.ntmps361
 go_wp2_with fail
 refine bodyPost_ret (v:=.agg #[.int .i64 x.Id,.int .i64 x.Priority,.int .i64 x.Time,.string x.Data]) ?_ rfl ⟨[.int .i64 x.Id,.int .i64 x.Priority,.int .i64 x.Time,.string x.Data],rfl,⟨rfl,HOK.out⟩,Later.of⟩
 simp[results,Tryz.results361,go_sem]
theorem d_lszRecord{B:Nat}{vs:List Value}{x:TRecord}{left:Int}{w:World}(h:Enc.Rd B w vs x)(hl:0≤left)(hl2:left≤1048576) :
  Calls Tryz.prog 350 #[.agg vs.toArray,.int .i64 left] w (Gives w (.int .i64 (szD left (Enc.tot x)))):=by
 obtain⟨rfl,hok⟩:=h
 have n0:(0:Int)≤x.Data.size:=by omega
 have z0:x.Data.size≤9223372036854775807:=hok.2.2.2.1
 have HOK:=lH hok;clear hok
 have htot:Enc.tot x=(x.Data.size:Int):=rfl
 have HTOT:=lH htot;clear htot
 go_enter Tryz.func350,Tryz.ntmps350
 by_cases h0:left - (x.Data.size:Int)<0
 ·have HV:=lH (show szD left (Enc.tot x)=-1 from szD_neg (by rw[HTOT.out];omega))
  go_wp2_with fail
  go_ret
  exact Gives.mk (by rw[HV.out];rfl)
 have HV:=lH (show szD left (Enc.tot x)=left - (x.Data.size:Int)by rw[szD_pos (by rw[HTOT.out];omega),HTOT.out]<;>omega)
 go_wp2_with fail
 go_ret
 exact Gives.mk (by rw[HV.out];rfl)
theorem d_leqRecord{B B2:Nat}{vs vs2:List Value}{x:TRecord}{w:World}(h:Enc.Rd B w vs x)(h2:Enc.Rd B2 w vs2 x) :
  Calls Tryz.prog 376 #[.agg vs.toArray,.agg vs2.toArray] w (Gives w (.bool true)):=by
 obtain⟨rfl,hok⟩:=h
 obtain⟨rfl,-⟩:=h2
 have HOK:=lH hok;clear hok
 go_enter Tryz.func376,Tryz.ntmps376
 go_wp2_with fail
 go_ret
 exact Gives.mk rfl
set_option maxRecDepth 100000 in
set_option maxHeartbeats 2000000 in
theorem d_lszRecordS{B:Nat}{a:Option Addr}{c:Nat}{l:List TRecord}{left:Int}{w:World}(hs:RdS B w a c l)(hl:0≤left)(hl2:left≤1048576) :
  Calls Tryz.prog 186 #[.slice a l.length c,.int .i64 left] w (Gives w (.int .i64 (szD left (totL l)))):=by
 have hmx:=hs.max
 have hln:=totL_len l
 obtain⟨n,hn⟩:∃ n,l.length=n:=⟨_,rfl⟩
 rw[hn]at hln hmx
 rw[hn]
 have HN:=lH hn;clear hn
 by_cases h:left - n<0
 ·have HV:=lH (show szD left (totL l)=-1 from szD_neg (by omega))
  go_enter Tryz.func186,Tryz.ntmps186
  go_wp2_with fail
  go_ret
  exact Gives.mk (by rw[HV.out];rfl)
 ·go_enter Tryz.func186,Tryz.ntmps186
  go_wp2_with fail
  go_loopw [1,5] (fun u v wr=>∃ (k:Nat) (r:Int),v=.int .i64 k∧u=.int .i64 r∧k≤n∧0≤r∧r≤1048576∧Hid (r - totL (l.drop k)+(n - k)=left - totL l)∧∃ x:Later w,wr=x.w) (fun _ v _=>(n - intOf v).toNat)
  case atStart=>exact⟨0,left - n,rfl,by go_num,by omega,by omega,by omega,by unfold Hid;rw[List.drop_zero];omega,Later.of⟩
  case round =>
   obtain⟨k,r,rfl,rfl,hk,hr,hr2,hf,x,rfl⟩:=hrel
   by_cases h2:k<n
   ·have hlk:k<l.length:=by have:=HN.out;omega
    obtain⟨eb,eoff,ex,rfl,ehb,ehd,eok,eh0,eh1,eh2,eh3⟩:=hs.atTRecord (show k<l.length by omega)
    have hd2:=totL_len (l.drop (k+1))
    have HD2:=lH (show((n:Int) - k - 1≤totL (l.drop (k+1)))by rw[List.length_drop,HN.out]at hd2;omega);clear hd2 hlk
    have ht0:=Enc.tot_nonneg ex
    obtain⟨t,htt⟩:∃ t,Enc.tot ex=t:=⟨_,rfl⟩
    have hf2:Hid (r - (1+t+totL (l.drop (k+1)))+(n - k)=left - totL l):=by
     have:=hf.out;rw[ehd.out]at this;rw[← htt];exact this
    rw[htt]at ht0
    have HTT:=lH htt;clear htt hf
    have HEOK:=lH eok;clear eok
    go_wp2_with fail
    refine(d_lszRecord (B:=0) (x:=ex) ⟨rfl,HEOK.out⟩ (by omega) (by omega)).mono ?_
    rintro _ _ ⟨rfl,y,rfl⟩
    rw[HTT.out]
    by_cases h3:r - t<0
    ·have HV:=lH (show szD left (totL l)=-1 from szD_neg (by have h7:=hf2.out;have h8:=HD2.out;omega))
     rw[szD_neg h3]
     go_wp2_with fail
     go_ret
     exact Gives.mk (by rw[HV.out];rfl)
    ·rw[szD_pos h3]
     go_wp2_with fail
     go_roundw
     case rel=>exact⟨k+1,r - t,by go_num,by go_num,by omega,by omega,by omega,by have h7:=hf2.out;unfold Hid;omega,Later.of⟩
     case measure=>simp[intOf];omega
   ·have HV:=lH (show szD left (totL l)=r by
     have h7:=hf.out
     rw[List.drop_of_length_le (by have:=HN.out;omega)]at h7
     simp only[totL]at h7
     rw[szD_pos (by omega)];omega)
    go_wp2_with fail
    go_ret
    exact Gives.mk (by rw[HV.out];rfl)
theorem d_leqRecordS{B B2:Nat}{a a2:Option Addr}{c c2:Nat}{l:List TRecord}{w:World}(hs:RdS B w a c l)(hs2:RdS B2 w a2 c2 l) :
  Calls Tryz.prog 240 #[.slice a l.length c,.slice a2 l.length c2] w (Gives w (.bool true)):=by
 have hmx:=hs.max
 obtain⟨n,hn⟩:∃ n,l.length=n:=⟨_,rfl⟩
 rw[hn]at hmx
 rw[hn]
 have HN:=lH hn;clear hn
 have kn:((n:Int) != (n:Int))=false:=by simp
 go_enter Tryz.func240,Tryz.ntmps240
 go_wp2_with fail
 go_loopw [5] (fun v wr=>∃ k:Nat,v=.int .i64 k∧k≤n∧∃ x:Later w,wr=x.w) (fun v _=>(n - intOf v).toNat)
 case atStart=>exact⟨0,rfl,by omega,Later.of⟩
 case round =>
  obtain⟨k,rfl,hk,x,rfl⟩:=hrel
  by_cases h:k<n
  ·have hlk:k<l.length:=by have:=HN.out;omega
   obtain⟨eb,eoff,ex,rfl,ehb,ehd,eok,eh0,eh1,eh2,eh3⟩:=hs.atTRecord (show k<l.length by omega)
   obtain⟨fb,foff,fx,rfl,fhb,fhd,fok,fh0,fh1,fh2,fh3⟩:=hs2.atTRecord (show k<l.length by omega)
   obtain rfl:ex=fx:=by have:=ehd.out.symm.trans fhd.out;simpa using this
   clear ehd fhd hlk hs hs2
   have ce:∀ {W:World} [Grows w W],Calls Tryz.prog 376 #[.agg #[.int .i64 ex.Id,.int .i64 ex.Priority,.int .i64 ex.Time,.string ex.Data],.agg #[.int .i64 ex.Id,.int .i64 ex.Priority,.int .i64 ex.Time,.string ex.Data]] W (Gives W (.bool true)):=fun {W} _=>d_leqRecord (B:=0) (B2:=0) (x:=ex) ⟨rfl,eok⟩ ⟨rfl,fok⟩
   clear eok fok
   go_wp2_with (first|((with_reducible refine wp_region_later (by kernel_rfl) (by kernel_rfl) ?_);(repeat(first|go_big_quiet_step (first|(go_at_call 376;exact Gives.quiet (ce)))));refine wpQuiet_nil ?_;rintro _ ⟨x,rfl⟩)|(go_at_call 376;refine(ce).mono ?_;rintro _ _ ⟨rfl,x,rfl⟩))
   go_roundw
   case rel=>exact⟨k+1,by go_num,by omega,Later.of⟩
   case measure=>simp[intOf];omega
  ·go_wp2_with fail
   go_ret
   exact Gives.mk rfl
theorem d_ltoLimit{B:Nat}{vs:List Value}{x:TLimit}{w:World}(h:Enc.Rd B w vs x)(ht:Enc.tot x≤1048576) :
  Calls Tryz.prog 443 #[.agg vs.toArray] w (GivesD w x):=by
 obtain⟨rfl,hok⟩:=h
 clear ht
 have HOK:=lH hok;clear hok
 go_enter Tryz.func443,Tryz.ntmps443
 go_wp2_with fail
 refine bodyPost_ret (v:=.agg #[.int .i64 x.Param,.int .i64 x.Low,.int .i64 x.High]) ?_ rfl ⟨[.int .i64 x.Param,.int .i64 x.Low,.int .i64 x.High],rfl,⟨rfl,HOK.out⟩,Later.of⟩
 simp[results,Tryz.results443,go_sem]
theorem d_leqLimit{B B2:Nat}{vs vs2:List Value}{x:TLimit}{w:World}(h:Enc.Rd B w vs x)(h2:Enc.Rd B2 w vs2 x) :
  Calls Tryz.prog 447 #[.agg vs.toArray,.agg vs2.toArray] w (Gives w (.bool true)):=by
 obtain⟨rfl,hok⟩:=h
 obtain⟨rfl,-⟩:=h2
 have HOK:=lH hok;clear hok
 go_enter Tryz.func447,Tryz.ntmps447
 go_wp2_with fail
 go_ret
 exact Gives.mk rfl
theorem d_lszLimitS{B:Nat}{a:Option Addr}{c:Nat}{l:List TLimit}{left:Int}{w:World}(hs:RdS B w a c l)(hl:0≤left)(hl2:left≤1048576) :
  Calls Tryz.prog 353 #[.slice a l.length c,.int .i64 left] w (Gives w (.int .i64 (szD left (totL l)))):=by
 have hmx:=hs.max
 have hln:=totL_len l
 obtain⟨n,hn⟩:∃ n,l.length=n:=⟨_,rfl⟩
 rw[hn]at hln hmx
 rw[hn]
 have HN:=lH hn;clear hn
 have htl:totL l=n:=by rw[← HN.out];clear hs HN hmx hln;induction l with|nil=>rfl|cons x r ih=>simp only[totL,List.length_cons,ih];show 1+0+_=_;omega
 rw[htl];clear htl hln hs
 by_cases h:left - n<0
 ·rw[szD_neg h]
  go_enter Tryz.func353,Tryz.ntmps353
  go_wp2_with fail
  go_ret
  exact Gives.mk rfl
 ·rw[szD_pos h]
  go_enter Tryz.func353,Tryz.ntmps353
  go_wp2_with fail
  go_ret
  exact Gives.mk rfl
theorem d_leqLimitS{B B2:Nat}{a a2:Option Addr}{c c2:Nat}{l:List TLimit}{w:World}(hs:RdS B w a c l)(hs2:RdS B2 w a2 c2 l) :
  Calls Tryz.prog 379 #[.slice a l.length c,.slice a2 l.length c2] w (Gives w (.bool true)):=by
 have hmx:=hs.max
 obtain⟨n,hn⟩:∃ n,l.length=n:=⟨_,rfl⟩
 rw[hn]at hmx
 rw[hn]
 have HN:=lH hn;clear hn
 have kn:((n:Int) != (n:Int))=false:=by simp
 go_enter Tryz.func379,Tryz.ntmps379
 go_wp2_with fail
 go_loopw [5] (fun v wr=>∃ k:Nat,v=.int .i64 k∧k≤n∧∃ x:Later w,wr=x.w) (fun v _=>(n - intOf v).toNat)
 case atStart=>exact⟨0,rfl,by omega,Later.of⟩
 case round =>
  obtain⟨k,rfl,hk,x,rfl⟩:=hrel
  by_cases h:k<n
  ·have hlk:k<l.length:=by have:=HN.out;omega
   obtain⟨eb,eoff,ex,rfl,ehb,ehd,eok,eh0,eh1,eh2⟩:=hs.atTLimit (show k<l.length by omega)
   obtain⟨fb,foff,fx,rfl,fhb,fhd,fok,fh0,fh1,fh2⟩:=hs2.atTLimit (show k<l.length by omega)
   obtain rfl:ex=fx:=by have:=ehd.out.symm.trans fhd.out;simpa using this
   clear ehd fhd hlk hs hs2
   have ce:∀ {W:World} [Grows w W],Calls Tryz.prog 447 #[.agg #[.int .i64 ex.Param,.int .i64 ex.Low,.int .i64 ex.High],.agg #[.int .i64 ex.Param,.int .i64 ex.Low,.int .i64 ex.High]] W (Gives W (.bool true)):=fun {W} _=>d_leqLimit (B:=0) (B2:=0) (x:=ex) ⟨rfl,eok⟩ ⟨rfl,fok⟩
   clear eok fok
   go_wp2_with (first|((with_reducible refine wp_region_later (by kernel_rfl) (by kernel_rfl) ?_);(repeat(first|go_big_quiet_step (first|(go_at_call 447;exact Gives.quiet (ce)))));refine wpQuiet_nil ?_;rintro _ ⟨x,rfl⟩)|(go_at_call 447;refine(ce).mono ?_;rintro _ _ ⟨rfl,x,rfl⟩))
   go_roundw
   case rel=>exact⟨k+1,by go_num,by omega,Later.of⟩
   case measure=>simp[intOf];omega
  ·go_wp2_with fail
   go_ret
   exact Gives.mk rfl
theorem d_ltoDone{B:Nat}{vs:List Value}{x:TDone}{w:World}(h:Enc.Rd B w vs x)(ht:Enc.tot x≤1048576) :
  Calls Tryz.prog 445 #[.agg vs.toArray] w (GivesD w x):=by
 obtain⟨rfl,hok⟩:=h
 clear ht
 have HOK:=lH hok;clear hok
 go_enter Tryz.func445,Tryz.ntmps445
 go_wp2_with fail
 refine bodyPost_ret (v:=.agg #[.int .i64 x.Number,.int .i64 x.Time,.int .i64 x.Result]) ?_ rfl ⟨[.int .i64 x.Number,.int .i64 x.Time,.int .i64 x.Result],rfl,⟨rfl,HOK.out⟩,Later.of⟩
 simp[results,Tryz.results445,go_sem]
theorem d_leqDone{B B2:Nat}{vs vs2:List Value}{x:TDone}{w:World}(h:Enc.Rd B w vs x)(h2:Enc.Rd B2 w vs2 x) :
  Calls Tryz.prog 449 #[.agg vs.toArray,.agg vs2.toArray] w (Gives w (.bool true)):=by
 obtain⟨rfl,hok⟩:=h
 obtain⟨rfl,-⟩:=h2
 have HOK:=lH hok;clear hok
 go_enter Tryz.func449,Tryz.ntmps449
 go_wp2_with fail
 go_ret
 exact Gives.mk rfl
theorem d_lszDoneS{B:Nat}{a:Option Addr}{c:Nat}{l:List TDone}{left:Int}{w:World}(hs:RdS B w a c l)(hl:0≤left)(hl2:left≤1048576) :
  Calls Tryz.prog 355 #[.slice a l.length c,.int .i64 left] w (Gives w (.int .i64 (szD left (totL l)))):=by
 have hmx:=hs.max
 have hln:=totL_len l
 obtain⟨n,hn⟩:∃ n,l.length=n:=⟨_,rfl⟩
 rw[hn]at hln hmx
 rw[hn]
 have HN:=lH hn;clear hn
 have htl:totL l=n:=by rw[← HN.out];clear hs HN hmx hln;induction l with|nil=>rfl|cons x r ih=>simp only[totL,List.length_cons,ih];show 1+0+_=_;omega
 rw[htl];clear htl hln hs
 by_cases h:left - n<0
 ·rw[szD_neg h]
  go_enter Tryz.func355,Tryz.ntmps355
  go_wp2_with fail
  go_ret
  exact Gives.mk rfl
 ·rw[szD_pos h]
  go_enter Tryz.func355,Tryz.ntmps355
  go_wp2_with fail
  go_ret
  exact Gives.mk rfl
theorem d_leqDoneS{B B2:Nat}{a a2:Option Addr}{c c2:Nat}{l:List TDone}{w:World}(hs:RdS B w a c l)(hs2:RdS B2 w a2 c2 l) :
  Calls Tryz.prog 381 #[.slice a l.length c,.slice a2 l.length c2] w (Gives w (.bool true)):=by
 have hmx:=hs.max
 obtain⟨n,hn⟩:∃ n,l.length=n:=⟨_,rfl⟩
 rw[hn]at hmx
 rw[hn]
 have HN:=lH hn;clear hn
 have kn:((n:Int) != (n:Int))=false:=by simp
 go_enter Tryz.func381,Tryz.ntmps381
 go_wp2_with fail
 go_loopw [5] (fun v wr=>∃ k:Nat,v=.int .i64 k∧k≤n∧∃ x:Later w,wr=x.w) (fun v _=>(n - intOf v).toNat)
 case atStart=>exact⟨0,rfl,by omega,Later.of⟩
 case round =>
  obtain⟨k,rfl,hk,x,rfl⟩:=hrel
  by_cases h:k<n
  ·have hlk:k<l.length:=by have:=HN.out;omega
   obtain⟨eb,eoff,ex,rfl,ehb,ehd,eok,eh0,eh1,eh2⟩:=hs.atTDone (show k<l.length by omega)
   obtain⟨fb,foff,fx,rfl,fhb,fhd,fok,fh0,fh1,fh2⟩:=hs2.atTDone (show k<l.length by omega)
   obtain rfl:ex=fx:=by have:=ehd.out.symm.trans fhd.out;simpa using this
   clear ehd fhd hlk hs hs2
   have ce:∀ {W:World} [Grows w W],Calls Tryz.prog 449 #[.agg #[.int .i64 ex.Number,.int .i64 ex.Time,.int .i64 ex.Result],.agg #[.int .i64 ex.Number,.int .i64 ex.Time,.int .i64 ex.Result]] W (Gives W (.bool true)):=fun {W} _=>d_leqDone (B:=0) (B2:=0) (x:=ex) ⟨rfl,eok⟩ ⟨rfl,fok⟩
   clear eok fok
   go_wp2_with (first|((with_reducible refine wp_region_later (by kernel_rfl) (by kernel_rfl) ?_);(repeat(first|go_big_quiet_step (first|(go_at_call 449;exact Gives.quiet (ce)))));refine wpQuiet_nil ?_;rintro _ ⟨x,rfl⟩)|(go_at_call 449;refine(ce).mono ?_;rintro _ _ ⟨rfl,x,rfl⟩))
   go_roundw
   case rel=>exact⟨k+1,by go_num,by omega,Later.of⟩
   case measure=>simp[intOf];omega
  ·go_wp2_with fail
   go_ret
   exact Gives.mk rfl
theorem d_ltoDrift{B:Nat}{vs:List Value}{x:TDrift}{w:World}(h:Enc.Rd B w vs x)(ht:Enc.tot x≤1048576) :
  Calls Tryz.prog 65 #[.agg vs.toArray] w (GivesD w x):=by
 obtain⟨rfl,hok⟩:=h
 clear ht
 have HOK:=lH hok;clear hok
 go_enter Tryz.func65,Tryz.ntmps65
 go_wp2_with fail
 refine bodyPost_ret (v:=.agg #[.int .i64 x.Rate,.int .i64 x.Offset]) ?_ rfl ⟨[.int .i64 x.Rate,.int .i64 x.Offset],rfl,⟨rfl,HOK.out⟩,Later.of⟩
 simp[results,Tryz.results65,go_sem]
theorem d_leqDrift{B B2:Nat}{vs vs2:List Value}{x:TDrift}{w:World}(h:Enc.Rd B w vs x)(h2:Enc.Rd B2 w vs2 x) :
  Calls Tryz.prog 78 #[.agg vs.toArray,.agg vs2.toArray] w (Gives w (.bool true)):=by
 obtain⟨rfl,hok⟩:=h
 obtain⟨rfl,-⟩:=h2
 have HOK:=lH hok;clear hok
 go_enter Tryz.func78,Tryz.ntmps78
 go_wp2_with fail
 go_ret
 exact Gives.mk rfl
theorem d_ltoPair{B:Nat}{vs:List Value}{x:Pair}{w:World}(h:Enc.Rd B w vs x)(ht:Enc.tot x≤1048576) :
  Calls Tryz.prog 360 #[.agg vs.toArray] w (GivesD w x):=by
 obtain⟨rfl,hok⟩:=h
 clear ht
 have HOK:=lH hok;clear hok
 go_enter Tryz.func360,Tryz.ntmps360
 go_wp2_with fail
 refine bodyPost_ret (v:=.agg #[.int .i64 x.Board,.int .i64 x.True]) ?_ rfl ⟨[.int .i64 x.Board,.int .i64 x.True],rfl,⟨rfl,HOK.out⟩,Later.of⟩
 simp[results,Tryz.results360,go_sem]
theorem d_leqPair{B B2:Nat}{vs vs2:List Value}{x:Pair}{w:World}(h:Enc.Rd B w vs x)(h2:Enc.Rd B2 w vs2 x) :
  Calls Tryz.prog 375 #[.agg vs.toArray,.agg vs2.toArray] w (Gives w (.bool true)):=by
 obtain⟨rfl,hok⟩:=h
 obtain⟨rfl,-⟩:=h2
 have HOK:=lH hok;clear hok
 go_enter Tryz.func375,Tryz.ntmps375
 go_wp2_with fail
 go_ret
 exact Gives.mk rfl
theorem d_lszPairS{B:Nat}{a:Option Addr}{c:Nat}{l:List Pair}{left:Int}{w:World}(hs:RdS B w a c l)(hl:0≤left)(hl2:left≤1048576) :
  Calls Tryz.prog 185 #[.slice a l.length c,.int .i64 left] w (Gives w (.int .i64 (szD left (totL l)))):=by
 have hmx:=hs.max
 have hln:=totL_len l
 obtain⟨n,hn⟩:∃ n,l.length=n:=⟨_,rfl⟩
 rw[hn]at hln hmx
 rw[hn]
 have HN:=lH hn;clear hn
 have htl:totL l=n:=by rw[← HN.out];clear hs HN hmx hln;induction l with|nil=>rfl|cons x r ih=>simp only[totL,List.length_cons,ih];show 1+0+_=_;omega
 rw[htl];clear htl hln hs
 by_cases h:left - n<0
 ·rw[szD_neg h]
  go_enter Tryz.func185,Tryz.ntmps185
  go_wp2_with fail
  go_ret
  exact Gives.mk rfl
 ·rw[szD_pos h]
  go_enter Tryz.func185,Tryz.ntmps185
  go_wp2_with fail
  go_ret
  exact Gives.mk rfl
theorem d_leqPairS{B B2:Nat}{a a2:Option Addr}{c c2:Nat}{l:List Pair}{w:World}(hs:RdS B w a c l)(hs2:RdS B2 w a2 c2 l) :
  Calls Tryz.prog 239 #[.slice a l.length c,.slice a2 l.length c2] w (Gives w (.bool true)):=by
 have hmx:=hs.max
 obtain⟨n,hn⟩:∃ n,l.length=n:=⟨_,rfl⟩
 rw[hn]at hmx
 rw[hn]
 have HN:=lH hn;clear hn
 have kn:((n:Int) != (n:Int))=false:=by simp
 go_enter Tryz.func239,Tryz.ntmps239
 go_wp2_with fail
 go_loopw [5] (fun v wr=>∃ k:Nat,v=.int .i64 k∧k≤n∧∃ x:Later w,wr=x.w) (fun v _=>(n - intOf v).toNat)
 case atStart=>exact⟨0,rfl,by omega,Later.of⟩
 case round =>
  obtain⟨k,rfl,hk,x,rfl⟩:=hrel
  by_cases h:k<n
  ·have hlk:k<l.length:=by have:=HN.out;omega
   obtain⟨eb,eoff,ex,rfl,ehb,ehd,eok,eh0,eh1⟩:=hs.atPair (show k<l.length by omega)
   obtain⟨fb,foff,fx,rfl,fhb,fhd,fok,fh0,fh1⟩:=hs2.atPair (show k<l.length by omega)
   obtain rfl:ex=fx:=by have:=ehd.out.symm.trans fhd.out;simpa using this
   clear ehd fhd hlk hs hs2
   have ce:∀ {W:World} [Grows w W],Calls Tryz.prog 375 #[.agg #[.int .i64 ex.Board,.int .i64 ex.True],.agg #[.int .i64 ex.Board,.int .i64 ex.True]] W (Gives W (.bool true)):=fun {W} _=>d_leqPair (B:=0) (B2:=0) (x:=ex) ⟨rfl,eok⟩ ⟨rfl,fok⟩
   clear eok fok
   go_wp2_with (first|((with_reducible refine wp_region_later (by kernel_rfl) (by kernel_rfl) ?_);(repeat(first|go_big_quiet_step (first|(go_at_call 375;exact Gives.quiet (ce)))));refine wpQuiet_nil ?_;rintro _ ⟨x,rfl⟩)|(go_at_call 375;refine(ce).mono ?_;rintro _ _ ⟨rfl,x,rfl⟩))
   go_roundw
   case rel=>exact⟨k+1,by go_num,by omega,Later.of⟩
   case measure=>simp[intOf];omega
  ·go_wp2_with fail
   go_ret
   exact Gives.mk rfl
theorem d_ltoOrbit{B:Nat}{vs:List Value}{x:TOrbit}{w:World}(h:Enc.Rd B w vs x)(ht:Enc.tot x≤1048576) :
  Calls Tryz.prog 66 #[.agg vs.toArray] w (GivesD w x):=by
 obtain⟨rfl,hok⟩:=h
 clear ht
 have HOK:=lH hok;clear hok
 go_enter Tryz.func66,Tryz.ntmps66
 go_wp2_with fail
 refine bodyPost_ret (v:=.agg #[.int .i64 x.Period,.int .i64 x.Start,.int .i64 x.Length]) ?_ rfl ⟨[.int .i64 x.Period,.int .i64 x.Start,.int .i64 x.Length],rfl,⟨rfl,HOK.out⟩,Later.of⟩
 simp[results,Tryz.results66,go_sem]
theorem d_leqOrbit{B B2:Nat}{vs vs2:List Value}{x:TOrbit}{w:World}(h:Enc.Rd B w vs x)(h2:Enc.Rd B2 w vs2 x) :
  Calls Tryz.prog 79 #[.agg vs.toArray,.agg vs2.toArray] w (Gives w (.bool true)):=by
 obtain⟨rfl,hok⟩:=h
 obtain⟨rfl,-⟩:=h2
 have HOK:=lH hok;clear hok
 go_enter Tryz.func79,Tryz.ntmps79
 go_wp2_with fail
 go_ret
 exact Gives.mk rfl
theorem d_ltoSlot{B:Nat}{vs:List Value}{x:Slot}{w:World}(h:Enc.Rd B w vs x)(ht:Enc.tot x≤1048576) :
  Calls Tryz.prog 204 #[.agg vs.toArray] w (GivesD w x):=by
 obtain⟨rfl,hok⟩:=h
 clear ht
 have HOK:=lH hok;clear hok
 go_enter Tryz.func204,Tryz.ntmps204
 go_wp2_with fail
 refine bodyPost_ret (v:=.agg #[.int .i64 x.Time,.int .i64 x.Id]) ?_ rfl ⟨[.int .i64 x.Time,.int .i64 x.Id],rfl,⟨rfl,HOK.out⟩,Later.of⟩
 simp[results,Tryz.results204,go_sem]
theorem d_leqSlot{B B2:Nat}{vs vs2:List Value}{x:Slot}{w:World}(h:Enc.Rd B w vs x)(h2:Enc.Rd B2 w vs2 x) :
  Calls Tryz.prog 234 #[.agg vs.toArray,.agg vs2.toArray] w (Gives w (.bool true)):=by
 obtain⟨rfl,hok⟩:=h
 obtain⟨rfl,-⟩:=h2
 have HOK:=lH hok;clear hok
 go_enter Tryz.func234,Tryz.ntmps234
 go_wp2_with fail
 go_ret
 exact Gives.mk rfl
theorem d_lszSlotS{B:Nat}{a:Option Addr}{c:Nat}{l:List Slot}{left:Int}{w:World}(hs:RdS B w a c l)(hl:0≤left)(hl2:left≤1048576) :
  Calls Tryz.prog 54 #[.slice a l.length c,.int .i64 left] w (Gives w (.int .i64 (szD left (totL l)))):=by
 have hmx:=hs.max
 have hln:=totL_len l
 obtain⟨n,hn⟩:∃ n,l.length=n:=⟨_,rfl⟩
 rw[hn]at hln hmx
 rw[hn]
 have HN:=lH hn;clear hn
 have htl:totL l=n:=by rw[← HN.out];clear hs HN hmx hln;induction l with|nil=>rfl|cons x r ih=>simp only[totL,List.length_cons,ih];show 1+0+_=_;omega
 rw[htl];clear htl hln hs
 by_cases h:left - n<0
 ·rw[szD_neg h]
  go_enter Tryz.func54,Tryz.ntmps54
  go_wp2_with fail
  go_ret
  exact Gives.mk rfl
 ·rw[szD_pos h]
  go_enter Tryz.func54,Tryz.ntmps54
  go_wp2_with fail
  go_ret
  exact Gives.mk rfl
theorem d_leqSlotS{B B2:Nat}{a a2:Option Addr}{c c2:Nat}{l:List Slot}{w:World}(hs:RdS B w a c l)(hs2:RdS B2 w a2 c2 l) :
  Calls Tryz.prog 80 #[.slice a l.length c,.slice a2 l.length c2] w (Gives w (.bool true)):=by
 have hmx:=hs.max
 obtain⟨n,hn⟩:∃ n,l.length=n:=⟨_,rfl⟩
 rw[hn]at hmx
 rw[hn]
 have HN:=lH hn;clear hn
 have kn:((n:Int) != (n:Int))=false:=by simp
 go_enter Tryz.func80,Tryz.ntmps80
 go_wp2_with fail
 go_loopw [5] (fun v wr=>∃ k:Nat,v=.int .i64 k∧k≤n∧∃ x:Later w,wr=x.w) (fun v _=>(n - intOf v).toNat)
 case atStart=>exact⟨0,rfl,by omega,Later.of⟩
 case round =>
  obtain⟨k,rfl,hk,x,rfl⟩:=hrel
  by_cases h:k<n
  ·have hlk:k<l.length:=by have:=HN.out;omega
   obtain⟨eb,eoff,ex,rfl,ehb,ehd,eok,eh0,eh1⟩:=hs.atSlot (show k<l.length by omega)
   obtain⟨fb,foff,fx,rfl,fhb,fhd,fok,fh0,fh1⟩:=hs2.atSlot (show k<l.length by omega)
   obtain rfl:ex=fx:=by have:=ehd.out.symm.trans fhd.out;simpa using this
   clear ehd fhd hlk hs hs2
   have ce:∀ {W:World} [Grows w W],Calls Tryz.prog 234 #[.agg #[.int .i64 ex.Time,.int .i64 ex.Id],.agg #[.int .i64 ex.Time,.int .i64 ex.Id]] W (Gives W (.bool true)):=fun {W} _=>d_leqSlot (B:=0) (B2:=0) (x:=ex) ⟨rfl,eok⟩ ⟨rfl,fok⟩
   clear eok fok
   go_wp2_with (first|((with_reducible refine wp_region_later (by kernel_rfl) (by kernel_rfl) ?_);(repeat(first|go_big_quiet_step (first|(go_at_call 234;exact Gives.quiet (ce)))));refine wpQuiet_nil ?_;rintro _ ⟨x,rfl⟩)|(go_at_call 234;refine(ce).mono ?_;rintro _ _ ⟨rfl,x,rfl⟩))
   go_roundw
   case rel=>exact⟨k+1,by go_num,by omega,Later.of⟩
   case measure=>simp[intOf];omega
  ·go_wp2_with fail
   go_ret
   exact Gives.mk rfl
theorem d_ltoFlight{B:Nat}{vs:List Value}{x:TFlight}{w:World}(h:Enc.Rd B w vs x)(ht:Enc.tot x≤1048576) :
  Calls Tryz.prog 205 #[.agg vs.toArray] w (GivesD w x):=by
 obtain⟨rfl,hok⟩:=h
 clear ht
 have HOK:=lH hok;clear hok
 go_enter Tryz.func205,Tryz.ntmps205
 go_wp2_with fail
 refine bodyPost_ret (v:=.agg #[.int .i64 x.At,.string x.Data]) ?_ rfl ⟨[.int .i64 x.At,.string x.Data],rfl,⟨rfl,HOK.out⟩,Later.of⟩
 simp[results,Tryz.results205,go_sem]
theorem d_lszFlight{B:Nat}{vs:List Value}{x:TFlight}{left:Int}{w:World}(h:Enc.Rd B w vs x)(hl:0≤left)(hl2:left≤1048576) :
  Calls Tryz.prog 182 #[.agg vs.toArray,.int .i64 left] w (Gives w (.int .i64 (szD left (Enc.tot x)))):=by
 obtain⟨rfl,hok⟩:=h
 have n0:(0:Int)≤x.Data.size:=by omega
 have z0:x.Data.size≤9223372036854775807:=hok.2.1
 have HOK:=lH hok;clear hok
 have htot:Enc.tot x=(x.Data.size:Int):=rfl
 have HTOT:=lH htot;clear htot
 go_enter Tryz.func182,Tryz.ntmps182
 by_cases h0:left - (x.Data.size:Int)<0
 ·have HV:=lH (show szD left (Enc.tot x)=-1 from szD_neg (by rw[HTOT.out];omega))
  go_wp2_with fail
  go_ret
  exact Gives.mk (by rw[HV.out];rfl)
 have HV:=lH (show szD left (Enc.tot x)=left - (x.Data.size:Int)by rw[szD_pos (by rw[HTOT.out];omega),HTOT.out]<;>omega)
 go_wp2_with fail
 go_ret
 exact Gives.mk (by rw[HV.out];rfl)
theorem d_leqFlight{B B2:Nat}{vs vs2:List Value}{x:TFlight}{w:World}(h:Enc.Rd B w vs x)(h2:Enc.Rd B2 w vs2 x) :
  Calls Tryz.prog 235 #[.agg vs.toArray,.agg vs2.toArray] w (Gives w (.bool true)):=by
 obtain⟨rfl,hok⟩:=h
 obtain⟨rfl,-⟩:=h2
 have HOK:=lH hok;clear hok
 go_enter Tryz.func235,Tryz.ntmps235
 go_wp2_with fail
 go_ret
 exact Gives.mk rfl
set_option maxRecDepth 100000 in
set_option maxHeartbeats 2000000 in
theorem d_lszFlightS{B:Nat}{a:Option Addr}{c:Nat}{l:List TFlight}{left:Int}{w:World}(hs:RdS B w a c l)(hl:0≤left)(hl2:left≤1048576) :
  Calls Tryz.prog 55 #[.slice a l.length c,.int .i64 left] w (Gives w (.int .i64 (szD left (totL l)))):=by
 have hmx:=hs.max
 have hln:=totL_len l
 obtain⟨n,hn⟩:∃ n,l.length=n:=⟨_,rfl⟩
 rw[hn]at hln hmx
 rw[hn]
 have HN:=lH hn;clear hn
 by_cases h:left - n<0
 ·have HV:=lH (show szD left (totL l)=-1 from szD_neg (by omega))
  go_enter Tryz.func55,Tryz.ntmps55
  go_wp2_with fail
  go_ret
  exact Gives.mk (by rw[HV.out];rfl)
 ·go_enter Tryz.func55,Tryz.ntmps55
  go_wp2_with fail
  go_loopw [1,5] (fun u v wr=>∃ (k:Nat) (r:Int),v=.int .i64 k∧u=.int .i64 r∧k≤n∧0≤r∧r≤1048576∧Hid (r - totL (l.drop k)+(n - k)=left - totL l)∧∃ x:Later w,wr=x.w) (fun _ v _=>(n - intOf v).toNat)
  case atStart=>exact⟨0,left - n,rfl,by go_num,by omega,by omega,by omega,by unfold Hid;rw[List.drop_zero];omega,Later.of⟩
  case round =>
   obtain⟨k,r,rfl,rfl,hk,hr,hr2,hf,x,rfl⟩:=hrel
   by_cases h2:k<n
   ·have hlk:k<l.length:=by have:=HN.out;omega
    obtain⟨eb,eoff,ex,rfl,ehb,ehd,eok,eh0,eh1⟩:=hs.atTFlight (show k<l.length by omega)
    have hd2:=totL_len (l.drop (k+1))
    have HD2:=lH (show((n:Int) - k - 1≤totL (l.drop (k+1)))by rw[List.length_drop,HN.out]at hd2;omega);clear hd2 hlk
    have ht0:=Enc.tot_nonneg ex
    obtain⟨t,htt⟩:∃ t,Enc.tot ex=t:=⟨_,rfl⟩
    have hf2:Hid (r - (1+t+totL (l.drop (k+1)))+(n - k)=left - totL l):=by
     have:=hf.out;rw[ehd.out]at this;rw[← htt];exact this
    rw[htt]at ht0
    have HTT:=lH htt;clear htt hf
    have HEOK:=lH eok;clear eok
    go_wp2_with fail
    refine(d_lszFlight (B:=0) (x:=ex) ⟨rfl,HEOK.out⟩ (by omega) (by omega)).mono ?_
    rintro _ _ ⟨rfl,y,rfl⟩
    rw[HTT.out]
    by_cases h3:r - t<0
    ·have HV:=lH (show szD left (totL l)=-1 from szD_neg (by have h7:=hf2.out;have h8:=HD2.out;omega))
     rw[szD_neg h3]
     go_wp2_with fail
     go_ret
     exact Gives.mk (by rw[HV.out];rfl)
    ·rw[szD_pos h3]
     go_wp2_with fail
     go_roundw
     case rel=>exact⟨k+1,r - t,by go_num,by go_num,by omega,by omega,by omega,by have h7:=hf2.out;unfold Hid;omega,Later.of⟩
     case measure=>simp[intOf];omega
   ·have HV:=lH (show szD left (totL l)=r by
     have h7:=hf.out
     rw[List.drop_of_length_le (by have:=HN.out;omega)]at h7
     simp only[totL]at h7
     rw[szD_pos (by omega)];omega)
    go_wp2_with fail
    go_ret
    exact Gives.mk (by rw[HV.out];rfl)
theorem d_leqFlightS{B B2:Nat}{a a2:Option Addr}{c c2:Nat}{l:List TFlight}{w:World}(hs:RdS B w a c l)(hs2:RdS B2 w a2 c2 l) :
  Calls Tryz.prog 82 #[.slice a l.length c,.slice a2 l.length c2] w (Gives w (.bool true)):=by
 have hmx:=hs.max
 obtain⟨n,hn⟩:∃ n,l.length=n:=⟨_,rfl⟩
 rw[hn]at hmx
 rw[hn]
 have HN:=lH hn;clear hn
 have kn:((n:Int) != (n:Int))=false:=by simp
 go_enter Tryz.func82,Tryz.ntmps82
 go_wp2_with fail
 go_loopw [5] (fun v wr=>∃ k:Nat,v=.int .i64 k∧k≤n∧∃ x:Later w,wr=x.w) (fun v _=>(n - intOf v).toNat)
 case atStart=>exact⟨0,rfl,by omega,Later.of⟩
 case round =>
  obtain⟨k,rfl,hk,x,rfl⟩:=hrel
  by_cases h:k<n
  ·have hlk:k<l.length:=by have:=HN.out;omega
   obtain⟨eb,eoff,ex,rfl,ehb,ehd,eok,eh0,eh1⟩:=hs.atTFlight (show k<l.length by omega)
   obtain⟨fb,foff,fx,rfl,fhb,fhd,fok,fh0,fh1⟩:=hs2.atTFlight (show k<l.length by omega)
   obtain rfl:ex=fx:=by have:=ehd.out.symm.trans fhd.out;simpa using this
   clear ehd fhd hlk hs hs2
   have ce:∀ {W:World} [Grows w W],Calls Tryz.prog 235 #[.agg #[.int .i64 ex.At,.string ex.Data],.agg #[.int .i64 ex.At,.string ex.Data]] W (Gives W (.bool true)):=fun {W} _=>d_leqFlight (B:=0) (B2:=0) (x:=ex) ⟨rfl,eok⟩ ⟨rfl,fok⟩
   clear eok fok
   go_wp2_with (first|((with_reducible refine wp_region_later (by kernel_rfl) (by kernel_rfl) ?_);(repeat(first|go_big_quiet_step (first|(go_at_call 235;exact Gives.quiet (ce)))));refine wpQuiet_nil ?_;rintro _ ⟨x,rfl⟩)|(go_at_call 235;refine(ce).mono ?_;rintro _ _ ⟨rfl,x,rfl⟩))
   go_roundw
   case rel=>exact⟨k+1,by go_num,by omega,Later.of⟩
   case measure=>simp[intOf];omega
  ·go_wp2_with fail
   go_ret
   exact Gives.mk rfl
theorem d_ltoUnpacker{B:Nat}{vs:List Value}{x:TUnpacker}{w:World}(h:Enc.Rd B w vs x)(ht:Enc.tot x≤1048576) :
  Calls Tryz.prog 208 #[.agg vs.toArray] w (GivesD w x):=by
 obtain⟨rfl,hok⟩:=h
 clear ht
 have HOK:=lH hok;clear hok
 go_enter Tryz.func208,Tryz.ntmps208
 go_wp2_with fail
 refine bodyPost_ret (v:=.agg #[.int .i64 x.Channel,.int .i64 x.Next,.bool x.Synced,.string x.Rest,.int .i64 x.Lost]) ?_ rfl ⟨[.int .i64 x.Channel,.int .i64 x.Next,.bool x.Synced,.string x.Rest,.int .i64 x.Lost],rfl,⟨rfl,HOK.out⟩,Later.of⟩
 simp[results,Tryz.results208,go_sem]
theorem d_lszUnpacker{B:Nat}{vs:List Value}{x:TUnpacker}{left:Int}{w:World}(h:Enc.Rd B w vs x)(hl:0≤left)(hl2:left≤1048576) :
  Calls Tryz.prog 184 #[.agg vs.toArray,.int .i64 left] w (Gives w (.int .i64 (szD left (Enc.tot x)))):=by
 obtain⟨rfl,hok⟩:=h
 have n0:(0:Int)≤x.Rest.size:=by omega
 have z0:x.Rest.size≤9223372036854775807:=hok.2.2.1
 have HOK:=lH hok;clear hok
 have htot:Enc.tot x=(x.Rest.size:Int):=rfl
 have HTOT:=lH htot;clear htot
 go_enter Tryz.func184,Tryz.ntmps184
 by_cases h0:left - (x.Rest.size:Int)<0
 ·have HV:=lH (show szD left (Enc.tot x)=-1 from szD_neg (by rw[HTOT.out];omega))
  go_wp2_with fail
  go_ret
  exact Gives.mk (by rw[HV.out];rfl)
 have HV:=lH (show szD left (Enc.tot x)=left - (x.Rest.size:Int)by rw[szD_pos (by rw[HTOT.out];omega),HTOT.out]<;>omega)
 go_wp2_with fail
 go_ret
 exact Gives.mk (by rw[HV.out];rfl)
theorem d_leqUnpacker{B B2:Nat}{vs vs2:List Value}{x:TUnpacker}{w:World}(h:Enc.Rd B w vs x)(h2:Enc.Rd B2 w vs2 x) :
  Calls Tryz.prog 238 #[.agg vs.toArray,.agg vs2.toArray] w (Gives w (.bool true)):=by
 obtain⟨rfl,hok⟩:=h
 obtain⟨rfl,-⟩:=h2
 have HOK:=lH hok;clear hok
 go_enter Tryz.func238,Tryz.ntmps238
 go_wp2_with fail
 go_ret
 exact Gives.mk rfl
theorem d_ltoWaiting{B:Nat}{vs:List Value}{x:TWaiting}{w:World}(h:Enc.Rd B w vs x)(ht:Enc.tot x≤1048576) :
  Calls Tryz.prog 444 #[.agg vs.toArray] w (GivesD w x):=by
 obtain⟨rfl,hok⟩:=h
 clear ht
 have HOK:=lH hok;clear hok
 go_enter Tryz.func444,Tryz.ntmps444
 go_wp2_with fail
 refine(d_ltoOrder (B:=0) (x:=x.Order) ⟨rfl,HOK.out.2.1⟩ (show(0:Int)≤1048576 by omega)).mono ?_
 rintro _ _ ⟨_,rfl,⟨rfl,-⟩,y0,rfl⟩
 go_wp2_with fail
 refine bodyPost_ret (v:=.agg #[.int .i64 x.Number,.int .i64 x.Order.Kind,.int .i64 x.Order.At,.int .i64 x.Order.A,.int .i64 x.Order.B]) ?_ rfl ⟨[.int .i64 x.Number,.int .i64 x.Order.Kind,.int .i64 x.Order.At,.int .i64 x.Order.A,.int .i64 x.Order.B],rfl,⟨rfl,HOK.out⟩,Later.of⟩
 simp[results,Tryz.results444,go_sem]
theorem d_leqWaiting{B B2:Nat}{vs vs2:List Value}{x:TWaiting}{w:World}(h:Enc.Rd B w vs x)(h2:Enc.Rd B2 w vs2 x) :
  Calls Tryz.prog 448 #[.agg vs.toArray,.agg vs2.toArray] w (Gives w (.bool true)):=by
 obtain⟨rfl,hok⟩:=h
 obtain⟨rfl,-⟩:=h2
 have HOK:=lH hok;clear hok
 go_enter Tryz.func448,Tryz.ntmps448
 go_wp2_with fail
 refine(d_leqOrder (B:=0) (B2:=0) (x:=x.Order) ⟨rfl,HOK.out.2.1⟩ ⟨rfl,HOK.out.2.1⟩).mono ?_
 rintro _ _ ⟨rfl,y0,rfl⟩
 go_wp2_with fail
 go_ret
 exact Gives.mk rfl
theorem d_lszWaitingS{B:Nat}{a:Option Addr}{c:Nat}{l:List TWaiting}{left:Int}{w:World}(hs:RdS B w a c l)(hl:0≤left)(hl2:left≤1048576) :
  Calls Tryz.prog 354 #[.slice a l.length c,.int .i64 left] w (Gives w (.int .i64 (szD left (totL l)))):=by
 have hmx:=hs.max
 have hln:=totL_len l
 obtain⟨n,hn⟩:∃ n,l.length=n:=⟨_,rfl⟩
 rw[hn]at hln hmx
 rw[hn]
 have HN:=lH hn;clear hn
 have htl:totL l=n:=by rw[← HN.out];clear hs HN hmx hln;induction l with|nil=>rfl|cons x r ih=>simp only[totL,List.length_cons,ih];show 1+0+_=_;omega
 rw[htl];clear htl hln hs
 by_cases h:left - n<0
 ·rw[szD_neg h]
  go_enter Tryz.func354,Tryz.ntmps354
  go_wp2_with fail
  go_ret
  exact Gives.mk rfl
 ·rw[szD_pos h]
  go_enter Tryz.func354,Tryz.ntmps354
  go_wp2_with fail
  go_ret
  exact Gives.mk rfl
theorem d_leqWaitingS{B B2:Nat}{a a2:Option Addr}{c c2:Nat}{l:List TWaiting}{w:World}(hs:RdS B w a c l)(hs2:RdS B2 w a2 c2 l) :
  Calls Tryz.prog 380 #[.slice a l.length c,.slice a2 l.length c2] w (Gives w (.bool true)):=by
 have hmx:=hs.max
 obtain⟨n,hn⟩:∃ n,l.length=n:=⟨_,rfl⟩
 rw[hn]at hmx
 rw[hn]
 have HN:=lH hn;clear hn
 have kn:((n:Int) != (n:Int))=false:=by simp
 go_enter Tryz.func380,Tryz.ntmps380
 go_wp2_with fail
 go_loopw [5] (fun v wr=>∃ k:Nat,v=.int .i64 k∧k≤n∧∃ x:Later w,wr=x.w) (fun v _=>(n - intOf v).toNat)
 case atStart=>exact⟨0,rfl,by omega,Later.of⟩
 case round =>
  obtain⟨k,rfl,hk,x,rfl⟩:=hrel
  by_cases h:k<n
  ·have hlk:k<l.length:=by have:=HN.out;omega
   obtain⟨eb,eoff,ex,rfl,ehb,ehd,eok,eh0,eh1,eh2,eh3,eh4⟩:=hs.atTWaiting (show k<l.length by omega)
   obtain⟨fb,foff,fx,rfl,fhb,fhd,fok,fh0,fh1,fh2,fh3,fh4⟩:=hs2.atTWaiting (show k<l.length by omega)
   obtain rfl:ex=fx:=by have:=ehd.out.symm.trans fhd.out;simpa using this
   clear ehd fhd hlk hs hs2
   have ce:∀ {W:World} [Grows w W],Calls Tryz.prog 448 #[.agg #[.int .i64 ex.Number,.int .i64 ex.Order.Kind,.int .i64 ex.Order.At,.int .i64 ex.Order.A,.int .i64 ex.Order.B],.agg #[.int .i64 ex.Number,.int .i64 ex.Order.Kind,.int .i64 ex.Order.At,.int .i64 ex.Order.A,.int .i64 ex.Order.B]] W (Gives W (.bool true)):=fun {W} _=>d_leqWaiting (B:=0) (B2:=0) (x:=ex) ⟨rfl,eok⟩ ⟨rfl,fok⟩
   clear eok fok
   go_wp2_with (first|((with_reducible refine wp_region_later (by kernel_rfl) (by kernel_rfl) ?_);(repeat(first|go_big_quiet_step (first|(go_at_call 448;exact Gives.quiet (ce)))));refine wpQuiet_nil ?_;rintro _ ⟨x,rfl⟩)|(go_at_call 448;refine(ce).mono ?_;rintro _ _ ⟨rfl,x,rfl⟩))
   go_roundw
   case rel=>exact⟨k+1,by go_num,by omega,Later.of⟩
   case measure=>simp[intOf];omega
  ·go_wp2_with fail
   go_ret
   exact Gives.mk rfl
theorem ofTSent{w:World}(vs:List Value)(hl:vs.length=2)(h:RdL w [.int,.str] vs):∃ x:TSent,Enc.Rd 0 w vs x:=by
 obtain⟨u0,g0,r0⟩:=h.at (j:=0) rfl
 obtain⟨x0,rfl,p0⟩:=r0.int_inv
 obtain⟨u1,g1,r1⟩:=h.at (j:=1) rfl
 obtain⟨x1,rfl,p1⟩:=r1.str_inv
 replace p1:x1.size≤9223372036854775807:=by unfold maxLen at p1;omega
 refine⟨⟨x0,x1⟩,⟨list_all hl ?_,⟨p0,p1,trivial⟩⟩⟩
 intro j y hy
 match j,hy with
 | 0,hy=>cases hy;exact g0
 | 1,hy=>cases hy;exact g1
theorem ofTRecord{w:World}(vs:List Value)(hl:vs.length=4)(h:RdL w [.int,.int,.int,.str] vs):∃ x:TRecord,Enc.Rd 0 w vs x:=by
 obtain⟨u0,g0,r0⟩:=h.at (j:=0) rfl
 obtain⟨x0,rfl,p0⟩:=r0.int_inv
 obtain⟨u1,g1,r1⟩:=h.at (j:=1) rfl
 obtain⟨x1,rfl,p1⟩:=r1.int_inv
 obtain⟨u2,g2,r2⟩:=h.at (j:=2) rfl
 obtain⟨x2,rfl,p2⟩:=r2.int_inv
 obtain⟨u3,g3,r3⟩:=h.at (j:=3) rfl
 obtain⟨x3,rfl,p3⟩:=r3.str_inv
 replace p3:x3.size≤9223372036854775807:=by unfold maxLen at p3;omega
 refine⟨⟨x0,x1,x2,x3⟩,⟨list_all hl ?_,⟨p0,p1,p2,p3,trivial⟩⟩⟩
 intro j y hy
 match j,hy with
 | 0,hy=>cases hy;exact g0
 | 1,hy=>cases hy;exact g1
 | 2,hy=>cases hy;exact g2
 | 3,hy=>cases hy;exact g3
theorem ofTLimit{w:World}(vs:List Value)(hl:vs.length=3)(h:RdL w [.int,.int,.int] vs):∃ x:TLimit,Enc.Rd 0 w vs x:=by
 obtain⟨u0,g0,r0⟩:=h.at (j:=0) rfl
 obtain⟨x0,rfl,p0⟩:=r0.int_inv
 obtain⟨u1,g1,r1⟩:=h.at (j:=1) rfl
 obtain⟨x1,rfl,p1⟩:=r1.int_inv
 obtain⟨u2,g2,r2⟩:=h.at (j:=2) rfl
 obtain⟨x2,rfl,p2⟩:=r2.int_inv
 refine⟨⟨x0,x1,x2⟩,⟨list_all hl ?_,⟨p0,p1,p2,trivial⟩⟩⟩
 intro j y hy
 match j,hy with
 | 0,hy=>cases hy;exact g0
 | 1,hy=>cases hy;exact g1
 | 2,hy=>cases hy;exact g2
theorem ofTWaiting{w:World}(vs:List Value)(hl:vs.length=5)(h:RdL w [.int,.int,.int,.int,.int] vs):∃ x:TWaiting,Enc.Rd 0 w vs x:=by
 obtain⟨u0,g0,r0⟩:=h.at (j:=0) rfl
 obtain⟨x0,rfl,p0⟩:=r0.int_inv
 obtain⟨u1,g1,r1⟩:=h.at (j:=1) rfl
 obtain⟨x1,rfl,p1⟩:=r1.int_inv
 obtain⟨u2,g2,r2⟩:=h.at (j:=2) rfl
 obtain⟨x2,rfl,p2⟩:=r2.int_inv
 obtain⟨u3,g3,r3⟩:=h.at (j:=3) rfl
 obtain⟨x3,rfl,p3⟩:=r3.int_inv
 obtain⟨u4,g4,r4⟩:=h.at (j:=4) rfl
 obtain⟨x4,rfl,p4⟩:=r4.int_inv
 refine⟨⟨x0,⟨x1,x2,x3,x4⟩⟩,⟨list_all hl ?_,⟨p0,⟨p1,p2,p3,p4,trivial⟩,trivial⟩⟩⟩
 intro j y hy
 match j,hy with
 | 0,hy=>cases hy;exact g0
 | 1,hy=>cases hy;exact g1
 | 2,hy=>cases hy;exact g2
 | 3,hy=>cases hy;exact g3
 | 4,hy=>cases hy;exact g4
theorem ofTDone{w:World}(vs:List Value)(hl:vs.length=3)(h:RdL w [.int,.int,.int] vs):∃ x:TDone,Enc.Rd 0 w vs x:=by
 obtain⟨u0,g0,r0⟩:=h.at (j:=0) rfl
 obtain⟨x0,rfl,p0⟩:=r0.int_inv
 obtain⟨u1,g1,r1⟩:=h.at (j:=1) rfl
 obtain⟨x1,rfl,p1⟩:=r1.int_inv
 obtain⟨u2,g2,r2⟩:=h.at (j:=2) rfl
 obtain⟨x2,rfl,p2⟩:=r2.int_inv
 refine⟨⟨x0,x1,x2⟩,⟨list_all hl ?_,⟨p0,p1,p2,trivial⟩⟩⟩
 intro j y hy
 match j,hy with
 | 0,hy=>cases hy;exact g0
 | 1,hy=>cases hy;exact g1
 | 2,hy=>cases hy;exact g2
theorem ofTFileIn{w:World}(vs:List Value)(hl:vs.length=4)(h:RdL w [.int,.int,.int,.sl [.str]] vs):∃ x:TFileIn,Enc.Rd 0 w vs x:=by
 obtain⟨u0,g0,r0⟩:=h.at (j:=0) rfl
 obtain⟨x0,rfl,p0⟩:=r0.int_inv
 obtain⟨u1,g1,r1⟩:=h.at (j:=1) rfl
 obtain⟨x1,rfl,p1⟩:=r1.int_inv
 obtain⟨u2,g2,r2⟩:=h.at (j:=2) rfl
 obtain⟨x2,rfl,p2⟩:=r2.int_inv
 obtain⟨u3,g3,r3⟩:=h.at (j:=3) rfl
 obtain⟨a3,c3,x3,rfl,p3⟩:=openS (α:=ByteArray) (es:=[.str]) rfl openStr r3
 refine⟨⟨x0,x1,x2,x3⟩,⟨a3,c3,list_all hl ?_,p3,⟨p0,p1,p2,trivial⟩⟩⟩
 intro j y hy
 match j,hy with
 | 0,hy=>cases hy;exact g0
 | 1,hy=>cases hy;exact g1
 | 2,hy=>cases hy;exact g2
 | 3,hy=>cases hy;exact g3
theorem ofTFileOut{w:World}(vs:List Value)(hl:vs.length=4)(h:RdL w [.int,.str,.sl [.int],.bool] vs):∃ x:TFileOut,Enc.Rd 0 w vs x:=by
 obtain⟨u0,g0,r0⟩:=h.at (j:=0) rfl
 obtain⟨x0,rfl,p0⟩:=r0.int_inv
 obtain⟨u1,g1,r1⟩:=h.at (j:=1) rfl
 obtain⟨x1,rfl,p1⟩:=r1.str_inv
 replace p1:x1.size≤9223372036854775807:=by unfold maxLen at p1;omega
 obtain⟨u2,g2,r2⟩:=h.at (j:=2) rfl
 obtain⟨a2,c2,x2,rfl,p2⟩:=openS (α:=Int) (es:=[.int]) rfl openInt r2
 obtain⟨u3,g3,r3⟩:=h.at (j:=3) rfl
 obtain⟨x3,rfl⟩:=r3.bool_inv
 refine⟨⟨x0,x1,x2,x3⟩,⟨a2,c2,list_all hl ?_,p2,⟨p0,p1,trivial⟩⟩⟩
 intro j y hy
 match j,hy with
 | 0,hy=>cases hy;exact g0
 | 1,hy=>cases hy;exact g1
 | 2,hy=>cases hy;exact g2
 | 3,hy=>cases hy;exact g3
theorem ofPair{w:World}(vs:List Value)(hl:vs.length=2)(h:RdL w [.int,.int] vs):∃ x:Pair,Enc.Rd 0 w vs x:=by
 obtain⟨u0,g0,r0⟩:=h.at (j:=0) rfl
 obtain⟨x0,rfl,p0⟩:=r0.int_inv
 obtain⟨u1,g1,r1⟩:=h.at (j:=1) rfl
 obtain⟨x1,rfl,p1⟩:=r1.int_inv
 refine⟨⟨x0,x1⟩,⟨list_all hl ?_,⟨p0,p1,trivial⟩⟩⟩
 intro j y hy
 match j,hy with
 | 0,hy=>cases hy;exact g0
 | 1,hy=>cases hy;exact g1
theorem ofSlot{w:World}(vs:List Value)(hl:vs.length=2)(h:RdL w [.int,.int] vs):∃ x:Slot,Enc.Rd 0 w vs x:=by
 obtain⟨u0,g0,r0⟩:=h.at (j:=0) rfl
 obtain⟨x0,rfl,p0⟩:=r0.int_inv
 obtain⟨u1,g1,r1⟩:=h.at (j:=1) rfl
 obtain⟨x1,rfl,p1⟩:=r1.int_inv
 refine⟨⟨x0,x1⟩,⟨list_all hl ?_,⟨p0,p1,trivial⟩⟩⟩
 intro j y hy
 match j,hy with
 | 0,hy=>cases hy;exact g0
 | 1,hy=>cases hy;exact g1
theorem ofTFlight{w:World}(vs:List Value)(hl:vs.length=2)(h:RdL w [.int,.str] vs):∃ x:TFlight,Enc.Rd 0 w vs x:=by
 obtain⟨u0,g0,r0⟩:=h.at (j:=0) rfl
 obtain⟨x0,rfl,p0⟩:=r0.int_inv
 obtain⟨u1,g1,r1⟩:=h.at (j:=1) rfl
 obtain⟨x1,rfl,p1⟩:=r1.str_inv
 replace p1:x1.size≤9223372036854775807:=by unfold maxLen at p1;omega
 refine⟨⟨x0,x1⟩,⟨list_all hl ?_,⟨p0,p1,trivial⟩⟩⟩
 intro j y hy
 match j,hy with
 | 0,hy=>cases hy;exact g0
 | 1,hy=>cases hy;exact g1
theorem ofTMission{w:World}(vs:List Value)(hl:vs.length=61)(h:RdL w [.int,.int,.int,.int,.int,.int,.int,.sl [.int,.int],.int,.int,.int,.int,.int,.int,.sl [.int,.str],.sl [.int,.str],.sl [.str],.int,.int,.sl [.int,.str],.int,.int,.bool,.bool,.int,.int,.bool,.str,.int,.sl [.int,.int],.sl [.int,.int,.int,.str],.sl [.int,.int,.int,.sl [.str]],.sl [.bool],.int,.bool,.bool,.int,.int,.sl [.int],.bool,.sl [.int,.int,.int],.sl [.int,.int,.int,.int,.int],.sl [.int,.int,.int],.int,.sl [.int,.int,.int,.str],.sl [.int],.int,.int,.sl [.int],.int,.int,.str,.sl [.int],.int,.sl [.str],.sl [.int,.str,.sl [.int],.bool],.int,.sl [.int,.int,.int,.str],.sl [.str],.sl [.str],.int] vs):∃ x:TMission,Enc.Rd 0 w vs x:=by
 obtain⟨u0,g0,r0⟩:=h.at (j:=0) rfl
 obtain⟨x0,rfl,p0⟩:=r0.int_inv
 obtain⟨u1,g1,r1⟩:=h.at (j:=1) rfl
 obtain⟨x1,rfl,p1⟩:=r1.int_inv
 obtain⟨u2,g2,r2⟩:=h.at (j:=2) rfl
 obtain⟨x2,rfl,p2⟩:=r2.int_inv
 obtain⟨u3,g3,r3⟩:=h.at (j:=3) rfl
 obtain⟨x3,rfl,p3⟩:=r3.int_inv
 obtain⟨u4,g4,r4⟩:=h.at (j:=4) rfl
 obtain⟨x4,rfl,p4⟩:=r4.int_inv
 obtain⟨u5,g5,r5⟩:=h.at (j:=5) rfl
 obtain⟨x5,rfl,p5⟩:=r5.int_inv
 obtain⟨u6,g6,r6⟩:=h.at (j:=6) rfl
 obtain⟨x6,rfl,p6⟩:=r6.int_inv
 obtain⟨u7,g7,r7⟩:=h.at (j:=7) rfl
 obtain⟨a7,c7,x7,rfl,p7⟩:=openS (α:=Slot) (es:=[.int,.int]) rfl ofSlot r7
 obtain⟨u8,g8,r8⟩:=h.at (j:=8) rfl
 obtain⟨x8,rfl,p8⟩:=r8.int_inv
 obtain⟨u9,g9,r9⟩:=h.at (j:=9) rfl
 obtain⟨x9,rfl,p9⟩:=r9.int_inv
 obtain⟨u10,g10,r10⟩:=h.at (j:=10) rfl
 obtain⟨x10,rfl,p10⟩:=r10.int_inv
 obtain⟨u11,g11,r11⟩:=h.at (j:=11) rfl
 obtain⟨x11,rfl,p11⟩:=r11.int_inv
 obtain⟨u12,g12,r12⟩:=h.at (j:=12) rfl
 obtain⟨x12,rfl,p12⟩:=r12.int_inv
 obtain⟨u13,g13,r13⟩:=h.at (j:=13) rfl
 obtain⟨x13,rfl,p13⟩:=r13.int_inv
 obtain⟨u14,g14,r14⟩:=h.at (j:=14) rfl
 obtain⟨a14,c14,x14,rfl,p14⟩:=openS (α:=TFlight) (es:=[.int,.str]) rfl ofTFlight r14
 obtain⟨u15,g15,r15⟩:=h.at (j:=15) rfl
 obtain⟨a15,c15,x15,rfl,p15⟩:=openS (α:=TFlight) (es:=[.int,.str]) rfl ofTFlight r15
 obtain⟨u16,g16,r16⟩:=h.at (j:=16) rfl
 obtain⟨a16,c16,x16,rfl,p16⟩:=openS (α:=ByteArray) (es:=[.str]) rfl openStr r16
 obtain⟨u17,g17,r17⟩:=h.at (j:=17) rfl
 obtain⟨x17,rfl,p17⟩:=r17.int_inv
 obtain⟨u18,g18,r18⟩:=h.at (j:=18) rfl
 obtain⟨x18,rfl,p18⟩:=r18.int_inv
 obtain⟨u19,g19,r19⟩:=h.at (j:=19) rfl
 obtain⟨a19,c19,x19,rfl,p19⟩:=openS (α:=TSent) (es:=[.int,.str]) rfl ofTSent r19
 obtain⟨u20,g20,r20⟩:=h.at (j:=20) rfl
 obtain⟨x20,rfl,p20⟩:=r20.int_inv
 obtain⟨u21,g21,r21⟩:=h.at (j:=21) rfl
 obtain⟨x21,rfl,p21⟩:=r21.int_inv
 obtain⟨u22,g22,r22⟩:=h.at (j:=22) rfl
 obtain⟨x22,rfl⟩:=r22.bool_inv
 obtain⟨u23,g23,r23⟩:=h.at (j:=23) rfl
 obtain⟨x23,rfl⟩:=r23.bool_inv
 obtain⟨u24,g24,r24⟩:=h.at (j:=24) rfl
 obtain⟨x24,rfl,p24⟩:=r24.int_inv
 obtain⟨u25,g25,r25⟩:=h.at (j:=25) rfl
 obtain⟨x25,rfl,p25⟩:=r25.int_inv
 obtain⟨u26,g26,r26⟩:=h.at (j:=26) rfl
 obtain⟨x26,rfl⟩:=r26.bool_inv
 obtain⟨u27,g27,r27⟩:=h.at (j:=27) rfl
 obtain⟨x27,rfl,p27⟩:=r27.str_inv
 replace p27:x27.size≤9223372036854775807:=by unfold maxLen at p27;omega
 obtain⟨u28,g28,r28⟩:=h.at (j:=28) rfl
 obtain⟨x28,rfl,p28⟩:=r28.int_inv
 obtain⟨u29,g29,r29⟩:=h.at (j:=29) rfl
 obtain⟨a29,c29,x29,rfl,p29⟩:=openS (α:=Pair) (es:=[.int,.int]) rfl ofPair r29
 obtain⟨u30,g30,r30⟩:=h.at (j:=30) rfl
 obtain⟨a30,c30,x30,rfl,p30⟩:=openS (α:=TRecord) (es:=[.int,.int,.int,.str]) rfl ofTRecord r30
 obtain⟨u31,g31,r31⟩:=h.at (j:=31) rfl
 obtain⟨a31,c31,x31,rfl,p31⟩:=openS (α:=TFileIn) (es:=[.int,.int,.int,.sl [.str]]) rfl ofTFileIn r31
 obtain⟨u32,g32,r32⟩:=h.at (j:=32) rfl
 obtain⟨a32,c32,x32,rfl,p32⟩:=openS (α:=Bool) (es:=[.bool]) rfl openBool r32
 obtain⟨u33,g33,r33⟩:=h.at (j:=33) rfl
 obtain⟨x33,rfl,p33⟩:=r33.int_inv
 obtain⟨u34,g34,r34⟩:=h.at (j:=34) rfl
 obtain⟨x34,rfl⟩:=r34.bool_inv
 obtain⟨u35,g35,r35⟩:=h.at (j:=35) rfl
 obtain⟨x35,rfl⟩:=r35.bool_inv
 obtain⟨u36,g36,r36⟩:=h.at (j:=36) rfl
 obtain⟨x36,rfl,p36⟩:=r36.int_inv
 obtain⟨u37,g37,r37⟩:=h.at (j:=37) rfl
 obtain⟨x37,rfl,p37⟩:=r37.int_inv
 obtain⟨u38,g38,r38⟩:=h.at (j:=38) rfl
 obtain⟨a38,c38,x38,rfl,p38⟩:=openS (α:=Int) (es:=[.int]) rfl openInt r38
 obtain⟨u39,g39,r39⟩:=h.at (j:=39) rfl
 obtain⟨x39,rfl⟩:=r39.bool_inv
 obtain⟨u40,g40,r40⟩:=h.at (j:=40) rfl
 obtain⟨a40,c40,x40,rfl,p40⟩:=openS (α:=TLimit) (es:=[.int,.int,.int]) rfl ofTLimit r40
 obtain⟨u41,g41,r41⟩:=h.at (j:=41) rfl
 obtain⟨a41,c41,x41,rfl,p41⟩:=openS (α:=TWaiting) (es:=[.int,.int,.int,.int,.int]) rfl ofTWaiting r41
 obtain⟨u42,g42,r42⟩:=h.at (j:=42) rfl
 obtain⟨a42,c42,x42,rfl,p42⟩:=openS (α:=TDone) (es:=[.int,.int,.int]) rfl ofTDone r42
 obtain⟨u43,g43,r43⟩:=h.at (j:=43) rfl
 obtain⟨x43,rfl,p43⟩:=r43.int_inv
 obtain⟨u44,g44,r44⟩:=h.at (j:=44) rfl
 obtain⟨a44,c44,x44,rfl,p44⟩:=openS (α:=TRecord) (es:=[.int,.int,.int,.str]) rfl ofTRecord r44
 obtain⟨u45,g45,r45⟩:=h.at (j:=45) rfl
 obtain⟨a45,c45,x45,rfl,p45⟩:=openS (α:=Int) (es:=[.int]) rfl openInt r45
 obtain⟨u46,g46,r46⟩:=h.at (j:=46) rfl
 obtain⟨x46,rfl,p46⟩:=r46.int_inv
 obtain⟨u47,g47,r47⟩:=h.at (j:=47) rfl
 obtain⟨x47,rfl,p47⟩:=r47.int_inv
 obtain⟨u48,g48,r48⟩:=h.at (j:=48) rfl
 obtain⟨a48,c48,x48,rfl,p48⟩:=openS (α:=Int) (es:=[.int]) rfl openInt r48
 obtain⟨u49,g49,r49⟩:=h.at (j:=49) rfl
 obtain⟨x49,rfl,p49⟩:=r49.int_inv
 obtain⟨u50,g50,r50⟩:=h.at (j:=50) rfl
 obtain⟨x50,rfl,p50⟩:=r50.int_inv
 obtain⟨u51,g51,r51⟩:=h.at (j:=51) rfl
 obtain⟨x51,rfl,p51⟩:=r51.str_inv
 replace p51:x51.size≤9223372036854775807:=by unfold maxLen at p51;omega
 obtain⟨u52,g52,r52⟩:=h.at (j:=52) rfl
 obtain⟨a52,c52,x52,rfl,p52⟩:=openS (α:=Int) (es:=[.int]) rfl openInt r52
 obtain⟨u53,g53,r53⟩:=h.at (j:=53) rfl
 obtain⟨x53,rfl,p53⟩:=r53.int_inv
 obtain⟨u54,g54,r54⟩:=h.at (j:=54) rfl
 obtain⟨a54,c54,x54,rfl,p54⟩:=openS (α:=ByteArray) (es:=[.str]) rfl openStr r54
 obtain⟨u55,g55,r55⟩:=h.at (j:=55) rfl
 obtain⟨a55,c55,x55,rfl,p55⟩:=openS (α:=TFileOut) (es:=[.int,.str,.sl [.int],.bool]) rfl ofTFileOut r55
 obtain⟨u56,g56,r56⟩:=h.at (j:=56) rfl
 obtain⟨x56,rfl,p56⟩:=r56.int_inv
 obtain⟨u57,g57,r57⟩:=h.at (j:=57) rfl
 obtain⟨a57,c57,x57,rfl,p57⟩:=openS (α:=TRecord) (es:=[.int,.int,.int,.str]) rfl ofTRecord r57
 obtain⟨u58,g58,r58⟩:=h.at (j:=58) rfl
 obtain⟨a58,c58,x58,rfl,p58⟩:=openS (α:=ByteArray) (es:=[.str]) rfl openStr r58
 obtain⟨u59,g59,r59⟩:=h.at (j:=59) rfl
 obtain⟨a59,c59,x59,rfl,p59⟩:=openS (α:=ByteArray) (es:=[.str]) rfl openStr r59
 obtain⟨u60,g60,r60⟩:=h.at (j:=60) rfl
 obtain⟨x60,rfl,p60⟩:=r60.int_inv
 refine⟨⟨x0,x1,⟨x2,x3⟩,⟨x4,x5,x6⟩,x7,⟨x8,x9,x10⟩,⟨x11,x12,x13⟩,x14,x15,⟨x16,⟨x17,x18,x19,x20⟩,⟨x21,x22,x23⟩,⟨x24,x25,x26,x27,x28⟩,x29,x30,x31,x32⟩,⟨⟨x33,x34,x35,x36⟩,⟨x37,x38,x39,x40,x41,x42,⟨x43,x44,x45⟩,x46,x47,x48⟩,⟨x49,x50,x51,x52⟩,x53,x54,x55,x56,x57⟩,x58,x59,x60⟩,⟨⟨a7,c7,a14,c14,a15,c15,a16,c16,a19,c19,a29,c29,a30,c30,a31,c31,a32,c32,a38,c38,a40,c40,a41,c41,a42,c42,a44,c44,a45,c45,a48,c48,a52,c52,a54,c54,a55,c55,a57,c57,a58,c58,a59,c59⟩,list_all hl ?_,⟨p7,p14,p15,p16,p19,p29,p30,p31,p32,p38,p40,p41,p42,p44,p45,p48,p52,p54,p55,p57,p58,p59,⟨p0,p1,⟨p2,p3,trivial⟩,⟨p4,p5,p6,trivial⟩,⟨p8,p9,p10,trivial⟩,⟨p11,p12,p13,trivial⟩,⟨⟨p17,p18,p20,trivial⟩,⟨p21,trivial⟩,⟨p24,p25,p27,p28,trivial⟩,trivial⟩,⟨⟨p33,p36,trivial⟩,⟨p37,⟨p43,trivial⟩,p46,p47,trivial⟩,⟨p49,p50,p51,trivial⟩,p53,p56,trivial⟩,p60,trivial⟩⟩⟩⟩
 intro j y hy
 match j,hy with
 | 0,hy=>cases hy;exact g0
 | 1,hy=>cases hy;exact g1
 | 2,hy=>cases hy;exact g2
 | 3,hy=>cases hy;exact g3
 | 4,hy=>cases hy;exact g4
 | 5,hy=>cases hy;exact g5
 | 6,hy=>cases hy;exact g6
 | 7,hy=>cases hy;exact g7
 | 8,hy=>cases hy;exact g8
 | 9,hy=>cases hy;exact g9
 | 10,hy=>cases hy;exact g10
 | 11,hy=>cases hy;exact g11
 | 12,hy=>cases hy;exact g12
 | 13,hy=>cases hy;exact g13
 | 14,hy=>cases hy;exact g14
 | 15,hy=>cases hy;exact g15
 | 16,hy=>cases hy;exact g16
 | 17,hy=>cases hy;exact g17
 | 18,hy=>cases hy;exact g18
 | 19,hy=>cases hy;exact g19
 | 20,hy=>cases hy;exact g20
 | 21,hy=>cases hy;exact g21
 | 22,hy=>cases hy;exact g22
 | 23,hy=>cases hy;exact g23
 | 24,hy=>cases hy;exact g24
 | 25,hy=>cases hy;exact g25
 | 26,hy=>cases hy;exact g26
 | 27,hy=>cases hy;exact g27
 | 28,hy=>cases hy;exact g28
 | 29,hy=>cases hy;exact g29
 | 30,hy=>cases hy;exact g30
 | 31,hy=>cases hy;exact g31
 | 32,hy=>cases hy;exact g32
 | 33,hy=>cases hy;exact g33
 | 34,hy=>cases hy;exact g34
 | 35,hy=>cases hy;exact g35
 | 36,hy=>cases hy;exact g36
 | 37,hy=>cases hy;exact g37
 | 38,hy=>cases hy;exact g38
 | 39,hy=>cases hy;exact g39
 | 40,hy=>cases hy;exact g40
 | 41,hy=>cases hy;exact g41
 | 42,hy=>cases hy;exact g42
 | 43,hy=>cases hy;exact g43
 | 44,hy=>cases hy;exact g44
 | 45,hy=>cases hy;exact g45
 | 46,hy=>cases hy;exact g46
 | 47,hy=>cases hy;exact g47
 | 48,hy=>cases hy;exact g48
 | 49,hy=>cases hy;exact g49
 | 50,hy=>cases hy;exact g50
 | 51,hy=>cases hy;exact g51
 | 52,hy=>cases hy;exact g52
 | 53,hy=>cases hy;exact g53
 | 54,hy=>cases hy;exact g54
 | 55,hy=>cases hy;exact g55
 | 56,hy=>cases hy;exact g56
 | 57,hy=>cases hy;exact g57
 | 58,hy=>cases hy;exact g58
 | 59,hy=>cases hy;exact g59
 | 60,hy=>cases hy;exact g60
@[go_sem] theorem word1_size(n:Int):(word1 n).size=1:=rfl
@[go_sem] theorem word2_size(n:Int):(word2 n).size=2:=rfl
def wordM(m n:Int):ByteArray:=if m=1 then word1 n else word2 n
@[go_sem] theorem wordM_one(n:Int):wordM 1 n=word1 n:=rfl
@[go_sem] theorem wordM_two(n:Int):wordM 2 n=word2 n:=rfl
theorem crcBits_bd:∀ (k:Nat) {n:Int},0≤n→n≤65535→0≤crcBits k n∧crcBits k n≤65535
 | 0,n,h0,h1=>⟨h0,h1⟩
 | k+1,n,h0,h1=>crcBits_bd k (crcBit_bd h0 h1).1 (crcBit_bd h0 h1).2
theorem crc_bd:∀ (l:List Int) {n:Int},(∀ b∈l,0≤b∧b≤255)→0≤n→n≤65535→0≤crc n l∧crc n l≤65535
 | [],n,_,h0,h1=>by rw[crc_nil];exact⟨h0,h1⟩
 | b::l,n,h,h0,h1=>by
  rw[crc_cons]
  have hb:=h b (by simp)
  have hx:=xor_bd h0 h1 (show 0≤256*b by omega) (show 256*b≤65535 by omega)
  have hc:=crcBits_bd 8 hx.1 hx.2
  exact crc_bd l (fun c hc=>h c (by simp[hc])) hc.1 hc.2
theorem checkOf_bd(s:ByteArray):0≤checkOf s∧checkOf s≤65535:=by
 rw[checkOf_eq]
 refine crc_bd _ (fun b hb=>?_) (by omega) (by omega)
 obtain⟨u,-,rfl⟩:=List.mem_map.1 hb
 have:=u.toNat_lt
 omega
def segOf(s:ByteArray)(k:Int):ByteArray:=if inB k 0 (countSeg s.size - 1)=true then s.extract (24*k).toNat (min (24*k+24) s.size).toNat else⟨#[]⟩
section
variable {P:Program} {ops:Array Oper} {C:World→Prop} {Q:Act→Prop} {o:Oper} {rest:List Oper} {a:Act}
end
end Go.Proofs.YtgmikiidcpbjbaaGreat
