/- The contracts of CheckOf. No condition but on numbers. -/
import Derived.Test.YtbaffippdifbpaaGreatSM9
namespace Go.Proofs.YtbaffippdifbpaaGreat
set_option linter.unusedVariables false
open Go.ChangeShapes Go.WideShapes Go.ChangeAt Go.RowKit
def byteList(s:ByteArray):List Int:=s.data.toList.map (fun b=>(b.toNat:Int))
@[irreducible] def checkOf(s:ByteArray):Int:=crc 65535 (byteList s)
theorem checkOf_eq(s:ByteArray):checkOf s=crc 65535 (byteList s):=by unfold checkOf;rfl
theorem crc_cons(n b:Int)(l:List Int):crc n (b::l)=crc (crcBits 8 (bits .xor .i64 n (256*b))) l:=by with_unfolding_all rfl
theorem crc_nil(n:Int):crc n []=n:=by with_unfolding_all rfl
theorem byteList_len(s:ByteArray):(byteList s).length=s.size:=by simp[byteList]
theorem byteList_at{s:ByteArray}{k:Nat}(h:k<s.size):((s[k]'h).toNat:Int)≤255∧(byteList s).drop k=((s[k]'h).toNat:Int)::(byteList s).drop (k+1):=by
 refine⟨?_,?_⟩
 ·have:=(s[k]'h).toNat_lt;omega
 ·have hk:k<(byteList s).length:=by rw[byteList_len];exact h
  rw[List.drop_eq_getElem_cons hk]
  congr 1
  simp[byteList];rfl
set_option maxRecDepth 100000 in
set_option maxHeartbeats 2000000 in
theorem c_iCheckOf{s:ByteArray}{w:World}(hm:s.size≤4611686018427387904) :
  Calls Tryz.prog 232 #[.string s] w (Gives w (.int .i64 (checkOf s))):=by
 have hlen:=byteList_len s
 have HC:=lH (show checkOf s=crc 65535 (byteList s)from checkOf_eq s)
 go_enter Tryz.func232,Tryz.ntmps232
 go_wp2_with (first|((with_reducible refine wp_region_later (by kernel_rfl) (by kernel_rfl) ?_);(repeat(first|go_big_quiet_step (first|fail)));refine wpQuiet_nil ?_;rintro _ ⟨x,rfl⟩))
 go_loopw [3,4] (fun u v wr=>∃ (k:Nat) (m:Int),v=.int .i64 k∧u=.int .i64 m∧k≤s.size∧0≤m∧m≤65535∧Hid (crc m ((byteList s).drop k)=checkOf s)∧∃ x:Later w,wr=x.w) (fun _ v _=>(s.size - intOf v).toNat)
 case atStart=>exact⟨0,65535,rfl,rfl,by omega,by omega,by omega,by rw[HC.out];rfl,Later.of⟩
 case round =>
  obtain⟨k,m,rfl,rfl,hk,hm0,hm1,hf,x0,rfl⟩:=hrel
  by_cases h:k<s.size
  ·obtain⟨hb1,hd⟩:=byteList_at h
   have⟨hx0,hx1⟩:=xor_bd hm0 hm1 (show 0≤256*((s[k]'h).toNat:Int)by omega) (show 256*((s[k]'h).toNat:Int)≤65535 by omega)
   go_wp2_with (first|((with_reducible refine wp_region_later (by kernel_rfl) (by kernel_rfl) ?_);(repeat(first|go_big_quiet_step (first|fail)));refine wpQuiet_nil ?_;rintro _ ⟨x,rfl⟩))
   go_loopw [3,5] (fun u v wr=>∃ (j:Nat) (m1:Int),v=.int .i64 j∧u=.int .i64 m1∧j≤8∧0≤m1∧m1≤65535∧Hid (crcBits (8 - j) m1=crcBits 8 (bits .xor .i64 m (256*((s[k]'h).toNat:Int))))∧∃ y:Later x0.w,wr=y.w) (fun _ v _=>(8 - intOf v).toNat)
   case atStart=>exact⟨0,_,rfl,rfl,by omega,hx0,hx1,by simp[Hid],Later.of⟩
   case round =>
    obtain⟨j,m1,rfl,rfl,hj,hn0,hn1,hg,y,rfl⟩:=hrel
    by_cases h2:j<8
    ·have ht:=and_top hn0 hn1
     have⟨hc0,hc1⟩:=crcBit_bd hn0 hn1
     cases c1:decide (32768≤m1)
     ·go_wp2_with (first|((with_reducible refine wp_region_later (by kernel_rfl) (by kernel_rfl) ?_);(repeat(first|go_big_quiet_step (first|fail)|simp only[c1]|simp only[ht]));refine wpQuiet_nil ?_;rintro _ ⟨x,rfl⟩))
      go_roundw
      case rel=>exact⟨j+1,crcBit m1,by go_num,by simp only[crcBit,if_neg (show ¬ 32768≤m1 by simpa using c1),Int.mul_comm m1 2],by omega,hc0,hc1,by have:=hg.out;rw[show 8 - j=(8 - (j+1))+1 by omega,crcBits]at this;exact this,Later.of⟩
      case measure=>simp[intOf];omega
     ·go_wp2_with (first|((with_reducible refine wp_region_later (by kernel_rfl) (by kernel_rfl) ?_);(repeat(first|go_big_quiet_step (first|fail)|simp only[c1]|simp only[ht]));refine wpQuiet_nil ?_;rintro _ ⟨x,rfl⟩))
      go_roundw
      case rel=>exact⟨j+1,crcBit m1,by go_num,by simp only[crcBit,if_pos (show 32768≤m1 by simpa using c1)],by omega,hc0,hc1,by have:=hg.out;rw[show 8 - j=(8 - (j+1))+1 by omega,crcBits]at this;exact this,Later.of⟩
      case measure=>simp[intOf];omega
    ·have:j=8:=by omega
     subst this
     have hm1:=lH (show crcBits 8 (bits .xor .i64 m (256*((s[k]'h).toNat:Int)))=m1 by rw[← hg.out];rfl)
     go_wp2_with (first|((with_reducible refine wp_region_later (by kernel_rfl) (by kernel_rfl) ?_);(repeat(first|go_big_quiet_step (first|fail)));refine wpQuiet_nil ?_;rintro _ ⟨x,rfl⟩))
     go_roundw
     case rel=>exact⟨k+1,m1,by go_num,rfl,by omega,hn0,hn1,by have:=hf.out;rw[hd,crc_cons,hm1.out]at this;exact lH this,Later.of⟩
     case measure=>simp[intOf];omega
  ·go_wp2_with (first|((with_reducible refine wp_region_later (by kernel_rfl) (by kernel_rfl) ?_);(repeat(first|go_big_quiet_step (first|fail)));refine wpQuiet_nil ?_;rintro _ ⟨x,rfl⟩))
   go_ret
   exact Gives.mk (by have:=hf.out;rw[List.drop_of_length_le (by omega),crc_nil]at this;rw[← this];rfl)
end Go.Proofs.YtbaffippdifbpaaGreat
