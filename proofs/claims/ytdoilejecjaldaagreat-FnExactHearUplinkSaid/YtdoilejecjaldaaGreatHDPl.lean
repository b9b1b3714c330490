/- The contracts of the mirrors, sizes and equalities of slices of plain values. No condition but on sizes. -/
import Derived.Test.YtdoilejecjaldaaGreatHM6
namespace Go.Proofs.YtdoilejecjaldaaGreat
set_option linter.unusedVariables false
open Go.ChangeShapes Go.WideShapes Go.ChangeAt Go.RowKit
theorem aw2{B:Nat}{a:Option Addr}{c:Nat}{l:List Int}{left:Int}{w:World}(hs:RdS B w a c l)(hl:0≤left)(hl2:left≤1048576) :
  Calls Tryz.prog 162 #[.slice a l.length c,.int .i64 left] w (b4 w (.int .i64 (szD left (d7 l)))):=by
 have hmx:=hs.max
 have hln:=d9 l
 obtain⟨n,hn⟩:∃ n,l.length=n:=⟨_,rfl⟩
 rw[hn]at hln hmx
 rw[hn]
 have HN:=lH hn;clear hn
 have htl:d7 l=n:=by rw[← HN.out];clear hs HN hmx hln;induction l with|nil=>rfl|cons x r ih=>simp only[d7,List.length_cons,ih];show 1+0+_=_;omega
 rw[htl];clear htl hln hs
 by_cases h:left - n<0
 ·rw[j8 h]
  go_enter Tryz.func162,Tryz.ntmps162
  go_wp2_with (fail)
  go_ret
  exact b4.mk rfl
 ·rw[B7 h]
  go_enter Tryz.func162,Tryz.ntmps162
  go_wp2_with (fail)
  go_ret
  exact b4.mk rfl
theorem aw1{B B2:Nat}{a a2:Option Addr}{c c2:Nat}{l:List Int}{w:World}(hs:RdS B w a c l)(hs2:RdS B2 w a2 c2 l) :
  Calls Tryz.prog 223 #[.slice a l.length c,.slice a2 l.length c2] w (b4 w (.bool true)):=by
 have hmx:=hs.max
 obtain⟨n,hn⟩:∃ n,l.length=n:=⟨_,rfl⟩
 rw[hn]at hmx
 rw[hn]
 have HN:=lH hn;clear hn
 have kn:((n:Int) != (n:Int))=false:=by simp
 go_enter Tryz.func223,Tryz.ntmps223
 go_wp2_with (first|((with_reducible refine rl ?_);(repeat(first|go_big_quiet_step (first|fail)|simp only[kn]));refine wpQuiet_nil ?_;intro x))
 go_loopw [5] (fun v wr=>∃ k:Nat,v=.int .i64 k∧k≤n∧∃ x:b5 w,wr=x.w) (fun v _=>(n - intOf v).toNat)
 case atStart=>exact⟨0,rfl,by omega,b5.of⟩
 case round =>
  obtain⟨k,rfl,hk,x,rfl⟩:=hrel
  by_cases h:k<n
  ·have hlk:k<l.length:=by have:=HN.out;omega
   obtain⟨eb,eoff,ex,rfl,ehb,ehd,eok,eh0⟩:=hs.atInt (show k<l.length by omega)
   obtain⟨fb,foff,fx,rfl,fhb,fhd,fok,fh0⟩:=hs2.atInt (show k<l.length by omega)
   obtain rfl:ex=fx:=by have:=ehd.out.symm.trans fhd.out;simpa using this
   clear ehd fhd hlk hs hs2
   have k2:(ex != ex)=false:=by simp
   go_wp2_with (first|((with_reducible refine rl ?_);(repeat(first|go_big_quiet_step (first|fail)|simp only[k2]));refine wpQuiet_nil ?_;intro x))
   go_roundw
   case rel=>exact⟨k+1,by go_num,by omega,b5.of⟩
   case measure=>simp[intOf];omega
  ·go_wp2_with (first|((with_reducible refine rl ?_);refine rq ?_;intro x))
   go_ret
   exact b4.mk rfl
theorem bC1{B:Nat}{a:Option Addr}{c:Nat}{l:List Bool}{left:Int}{w:World}(hs:RdS B w a c l)(hl:0≤left)(hl2:left≤1048576) :
  Calls Tryz.prog 64 #[.slice a l.length c,.int .i64 left] w (b4 w (.int .i64 (szD left (d7 l)))):=by
 have hmx:=hs.max
 have hln:=d9 l
 obtain⟨n,hn⟩:∃ n,l.length=n:=⟨_,rfl⟩
 rw[hn]at hln hmx
 rw[hn]
 have HN:=lH hn;clear hn
 have htl:d7 l=n:=by rw[← HN.out];clear hs HN hmx hln;induction l with|nil=>rfl|cons x r ih=>simp only[d7,List.length_cons,ih];show 1+0+_=_;omega
 rw[htl];clear htl hln hs
 by_cases h:left - n<0
 ·rw[j8 h]
  go_enter Tryz.func64,Tryz.ntmps64
  go_wp2_with (fail)
  go_ret
  exact b4.mk rfl
 ·rw[B7 h]
  go_enter Tryz.func64,Tryz.ntmps64
  go_wp2_with (fail)
  go_ret
  exact b4.mk rfl
theorem bB0{B B2:Nat}{a a2:Option Addr}{c c2:Nat}{l:List Bool}{w:World}(hs:RdS B w a c l)(hs2:RdS B2 w a2 c2 l) :
  Calls Tryz.prog 137 #[.slice a l.length c,.slice a2 l.length c2] w (b4 w (.bool true)):=by
 have hmx:=hs.max
 obtain⟨n,hn⟩:∃ n,l.length=n:=⟨_,rfl⟩
 rw[hn]at hmx
 rw[hn]
 have HN:=lH hn;clear hn
 have kn:((n:Int) != (n:Int))=false:=by simp
 go_enter Tryz.func137,Tryz.ntmps137
 go_wp2_with (first|((with_reducible refine rl ?_);(repeat(first|go_big_quiet_step (first|fail)|simp only[kn]));refine wpQuiet_nil ?_;intro x))
 go_loopw [5] (fun v wr=>∃ k:Nat,v=.int .i64 k∧k≤n∧∃ x:b5 w,wr=x.w) (fun v _=>(n - intOf v).toNat)
 case atStart=>exact⟨0,rfl,by omega,b5.of⟩
 case round =>
  obtain⟨k,rfl,hk,x,rfl⟩:=hrel
  by_cases h:k<n
  ·have hlk:k<l.length:=by have:=HN.out;omega
   obtain⟨eb,eoff,ex,rfl,ehb,ehd,eh0⟩:=hs.atBool (show k<l.length by omega)
   obtain⟨fb,foff,fx,rfl,fhb,fhd,fh0⟩:=hs2.atBool (show k<l.length by omega)
   obtain rfl:ex=fx:=by have:=ehd.out.symm.trans fhd.out;simpa using this
   clear ehd fhd hlk hs hs2
   have k2:(ex != ex)=false:=by simp
   go_wp2_with (first|((with_reducible refine rl ?_);(repeat(first|go_big_quiet_step (first|fail)|simp only[k2]));refine wpQuiet_nil ?_;intro x))
   go_roundw
   case rel=>exact⟨k+1,by go_num,by omega,b5.of⟩
   case measure=>simp[intOf];omega
  ·go_wp2_with (first|((with_reducible refine rl ?_);refine rq ?_;intro x))
   go_ret
   exact b4.mk rfl
theorem am5{B:Nat}{a:Option Addr}{c:Nat}{l:List ByteArray}{left:Int}{w:World}(hs:RdS B w a c l)(hl:0≤left)(hl2:left≤1048576) :
  Calls Tryz.prog 15 #[.slice a l.length c,.int .i64 left] w (b4 w (.int .i64 (szD left (d7 l)))):=by
 have hmx:=hs.max
 have hln:=d9 l
 obtain⟨n,hn⟩:∃ n,l.length=n:=⟨_,rfl⟩
 rw[hn]at hln hmx
 rw[hn]
 have HN:=lH hn;clear hn
 by_cases h:left - n<0
 ·have HV:=lH (show szD left (d7 l)=-1 from j8 (by omega))
  go_enter Tryz.func15,Tryz.ntmps15
  go_wp2_with (fail)
  go_ret
  exact b4.mk (by rw[HV.out];rfl)
 ·go_enter Tryz.func15,Tryz.ntmps15
  go_wp2_with (fail)
  go_loopw [1,5] (fun u v wr=>∃ (k:Nat) (r:Int),v=.int .i64 k∧u=.int .i64 r∧k≤n∧0≤r∧r≤1048576∧Hid (r - d7 (l.drop k)+(n - k)=left - d7 l)∧∃ x:b5 w,wr=x.w) (fun _ v _=>(n - intOf v).toNat)
  case atStart=>exact⟨0,left - n,rfl,by go_num,by omega,by omega,by omega,by unfold Hid;rw[List.drop_zero];omega,b5.of⟩
  case round =>
   obtain⟨k,r,rfl,rfl,hk,hr,hr2,hf,x,rfl⟩:=hrel
   by_cases h2:k<n
   ·have hlk:k<l.length:=by have:=HN.out;omega
    obtain⟨eb,eoff,ex,rfl,ehb,ehd,eok,eh0⟩:=hs.atStr (show k<l.length by omega)
    have hd2:=d9 (l.drop (k+1))
    have HD2:=lH (show((n:Int) - k - 1≤d7 (l.drop (k+1)))by rw[List.length_drop,HN.out]at hd2;omega);clear hd2 hlk
    have ht0:=Enc.tot_nonneg ex
    obtain⟨t,htt⟩:∃ t,Enc.tot ex=t:=⟨_,rfl⟩
    have hf2:Hid (r - (1+t+d7 (l.drop (k+1)))+(n - k)=left - d7 l):=by
     have:=hf.out;rw[ehd.out]at this;rw[← htt];exact this
    rw[htt]at ht0
    have HTT:=lH htt;clear htt hf
    have hts:(ex.size:Int)=t:=HTT.out
    have HTS:=lH hts;clear hts
    by_cases h3:r - ex.size<0
    ·have HV:=lH (show szD left (d7 l)=-1 from j8 (by have h7:=hf2.out;have h8:=HD2.out;have h9:=HTS.out;omega))
     go_wp2_with (fail)
     go_ret
     exact b4.mk (by rw[HV.out];rfl)
    ·go_wp2_with (fail)
     go_roundw
     case rel=>exact⟨k+1,r - ex.size,by go_num,by go_num,by omega,by omega,by omega,by have h7:=hf2.out;have h9:=HTS.out;unfold Hid;omega,b5.of⟩
     case measure=>simp[intOf];omega
   ·have HV:=lH (show szD left (d7 l)=r by
     have h7:=hf.out
     rw[List.drop_of_length_le (by have:=HN.out;omega)]at h7
     simp only[d7]at h7
     rw[B7 (by omega)];omega)
    go_wp2_with (fail)
    go_ret
    exact b4.mk (by rw[HV.out];rfl)
theorem am4{B B2:Nat}{a a2:Option Addr}{c c2:Nat}{l:List ByteArray}{w:World}(hs:RdS B w a c l)(hs2:RdS B2 w a2 c2 l) :
  Calls Tryz.prog 47 #[.slice a l.length c,.slice a2 l.length c2] w (b4 w (.bool true)):=by
 have hmx:=hs.max
 obtain⟨n,hn⟩:∃ n,l.length=n:=⟨_,rfl⟩
 rw[hn]at hmx
 rw[hn]
 have HN:=lH hn;clear hn
 have kn:((n:Int) != (n:Int))=false:=by simp
 go_enter Tryz.func47,Tryz.ntmps47
 go_wp2_with (first|((with_reducible refine rl ?_);(repeat(first|go_big_quiet_step (first|fail)|simp only[kn]));refine wpQuiet_nil ?_;intro x))
 go_loopw [5] (fun v wr=>∃ k:Nat,v=.int .i64 k∧k≤n∧∃ x:b5 w,wr=x.w) (fun v _=>(n - intOf v).toNat)
 case atStart=>exact⟨0,rfl,by omega,b5.of⟩
 case round =>
  obtain⟨k,rfl,hk,x,rfl⟩:=hrel
  by_cases h:k<n
  ·have hlk:k<l.length:=by have:=HN.out;omega
   obtain⟨eb,eoff,ex,rfl,ehb,ehd,eok,eh0⟩:=hs.atStr (show k<l.length by omega)
   obtain⟨fb,foff,fx,rfl,fhb,fhd,fok,fh0⟩:=hs2.atStr (show k<l.length by omega)
   obtain rfl:ex=fx:=by have:=ehd.out.symm.trans fhd.out;simpa using this
   clear ehd fhd hlk hs hs2
   have k2:(ex.toList != ex.toList)=false:=by simp
   go_wp2_with (first|((with_reducible refine rl ?_);(repeat(first|go_big_quiet_step (first|fail)|simp only[k2]));refine wpQuiet_nil ?_;intro x))
   go_roundw
   case rel=>exact⟨k+1,by go_num,by omega,b5.of⟩
   case measure=>simp[intOf];omega
  ·go_wp2_with (first|((with_reducible refine rl ?_);refine rq ?_;intro x))
   go_ret
   exact b4.mk rfl
