/- The contracts of AddPair. No condition but on sizes. -/
import Derived.Test.YtdijmbipcgalfaaGreatHSlots2
import Derived.Test.YtdijmbipcgalfaaGreatHM0
import Derived.Test.YtdijmbipcgalfaaGreatHWord
import Derived.Test.YtdijmbipcgalfaaGreatHDTy
import Derived.Test.YtdijmbipcgalfaaGreatHFileO
namespace Go.Proofs.YtdijmbipcgalfaaGreat
set_option maxRecDepth 100000
set_option maxHeartbeats 2000000
set_option linter.unusedVariables false
open Go.ChangeShapes Go.WideShapes Go.ChangeAt Go.RowKit
variable {s:ByteArray}{left:Int}{vs vs2:List Value}{B B2 c c2 n:Nat}{a a2:Option Addr}{w:World}
private abbrev u72:=Tryz.underlying72
theorem ar7(x:X1):∀ u∈M4 x,u.oneCell'=true:=by
 intro u hu
 simp only[M4,List.mem_cons,List.not_mem_nil,or_false]at hu
 rcases hu with rfl|rfl<;>rfl
theorem aC1{l:List X1}(hs:Sl M4 w a l)(hn:l.length=n)(hm:n≤100000000) :
  Calls Tryz.prog 137 #[.slice a n c] w (L3 M4 206 2 w l):=by
 cases a with
 | none =>
  have hl:l=[]:=by
   cases l with
   | nil=>rfl
   | cons y r=>obtain⟨b,off,h0,-⟩:=hs 0 y rfl;cases h0
  have hq:=fun(w:World)=>run_eql_slice_nil (P:=Tryz.prog) w 72 206 none n c u72
  simp only[Option.isNone]at hq
  have HL:=lH hl;clear hl
  go_enter Tryz.func137,Tryz.ntmps137
  go_wp2_with (fail)
  go_ret
  exact L3.nilOf aw0 HL.out
 | some ad =>
  have hq:=fun(w:World)=>run_eql_slice_nil (P:=Tryz.prog) w 72 206 (some ad) n c u72
  simp only[Option.isNone]at hq
  go_enter Tryz.func137,Tryz.ntmps137
  go_wp2_with (first|(at_builtin;refine I0 (enc:=M4) (w0:=w) (z:=.agg #[I 0,I 0]) (size:=2) (bytes:=16) (n:=0) (l:=[]) rfl (.tmp 5) (.tmp 6) rfl u72 kr rfl de de rfl rfl (fun h=>by cases h) rfl hn (Own.emptyAt aw0 nl rfl) (hs.to ii) ar7 om ?_;intro sa1 sc1 x1 hown1 hgr1))
  go_ret
  rw[List.nil_append]at hown1
  exact⟨sa1,sc1,by rw[hn];first|rfl|simp,hown1,b7.of⟩
def X9(l:List X1)(p:X1):List X1:=if Z9 (l++[p])=true then l++[p]else l
theorem bE7{l:List X1}{p:X1}(hs:Sl M4 w a l)(hn:l.length=n)(hm:n≤1048576) :
  Calls Tryz.prog 163 #[.slice a n c,.agg #[I p.Board,I p.True]] w (L3 M4 206 2 w (X9 l p)):=by
 go_enter Tryz.func163,Tryz.ntmps163
 go_wp2_with (first|((with_reducible refine rl ?_);refine rq ?_;intro x))
 go_region_law (first
  | (refine ax9 rfl (f:=137) rfl Tryz.func137 kr kr [.slice a n c] rfl ((aC1 (hs.to ii) hn om).mono ?_);rintro _ _ ⟨a1,c1,rfl,hown1,x1,rfl⟩;refine⟨_,rfl,?_⟩)
  | (refine ba1 rfl (bv5 (enc:=M4) (w0:=w) (z:=.agg #[.int .i64 0,.int .i64 0]) (size:=2) (bytes:=16) p (.tmp 7) (.tmp 9) rfl u72 kr rfl de de rfl rfl hn (Own.to hown1 ii) bk rfl (ar7 _) om LeN.out ii LeN.out ?_);intro sa2 sc2 x2 hown2 hgr2))
 all_goals
  have O2:=lH (hown2.mono (LeN.out (a:=w.heap.size)))
  have hlen:(l++[p]).length=n+1:=by simp[hn]
  clear hown1 hown2 hgr2
  cases q:Z9 (l++[p])
  ·have HF:=lH (show X9 l p=l by simp[X9,q])
   go_wp2_with (first|((with_reducible refine rl ?_);(repeat(first|go_big_quiet_step (first|fail)|simp only[q]));refine wpQuiet_nil ?_;intro x))
   refine gm (aK3 (O2.out.to ii).sl hlen om) ?_
   intro x4
   go_wp2_with (first|((with_reducible refine rl ?_);(repeat(first|go_big_quiet_step (first|fail)|simp only[q]));refine wpQuiet_nil ?_;intro x))
   refine(aC1 (hs.to ii) hn om).mono ?_
   rintro _ _ ⟨a3,c3,rfl,hown3,x5,rfl⟩
   have O3:=lH (hown3.mono (LeN.out (a:=w.heap.size)))
   clear hown3
   go_wp2_with (first|((with_reducible refine rl ?_);(repeat(first|go_big_quiet_step (first|fail)|simp only[q]));refine wpQuiet_nil ?_;intro x))
   go_ret
   exact⟨a3,c3,by rw[HF.out,hn];rfl,by rw[HF.out];exact O3.out,b7.of⟩
  ·have HF:=lH (show X9 l p=l++[p]by simp[X9,q])
   go_wp2_with (first|((with_reducible refine rl ?_);(repeat(first|go_big_quiet_step (first|fail)|simp only[q]));refine wpQuiet_nil ?_;intro x))
   refine gm (aK3 (O2.out.to ii).sl hlen om) ?_
   intro x4
   go_wp2_with (first|((with_reducible refine rl ?_);(repeat(first|go_big_quiet_step (first|fail)|simp only[q]));refine wpQuiet_nil ?_;intro x))
   go_ret
   exact⟨sa2,sc2,by rw[HF.out,hlen];rfl,by rw[HF.out];exact O2.out.to ii,b7.of⟩
theorem bF1{l:List X1}{p:X1}(hs:Sl M4 w a l)(hnil:a=none→c=0)(hn:l.length=n)(hm:n≤1048576) :
  Calls Tryz.prog 117 #[.slice a n c,.agg #[I p.Board,I p.True]] w (L3 M4 206 2 w (X9 l p)):=by
 have HNIL:=lH hnil;clear hnil
 go_enter Tryz.func117,Tryz.ntmps117
 go_wp2_with (first|((with_reducible refine rl ?_);refine rq ?_;intro x))
 go_region_law (first
  | (refine ba1 rfl (bW6 (enc:=M4) (B:=(w.alloc (.cells #[.int .i64 p.Board,.int .i64 p.True] 206)).heap.size) (w0:=(w.alloc (.cells #[.int .i64 p.Board,.int .i64 p.True] 206))) (z:=.agg #[.int .i64 0,.int .i64 0]) (size:=2) (bytes:=16) (l:=[]) (n:=0) (.tmp 6) (.tmp 7) rfl u72 kr rfl de de rfl rfl HNIL.out rfl hn (Own.emptyBlk aw0 (by simp<;>omega) bk) (hs.to ii) ar7 om LeN.out ii LeN.out ?_);intro sa1 sc1 x1 hown1 hgr1;rw[List.nil_append]at hown1)
  | (refine ba1 rfl (bv5 (enc:=M4) (w0:=w) (z:=.agg #[.int .i64 0,.int .i64 0]) (size:=2) (bytes:=16) p (.tmp 8) (.tmp 10) rfl u72 kr rfl de de rfl rfl hn (Own.to hown1 ii) (by first|(refine S5 _ _ _ ?_;(first|rfl|(simp;done)))|(refine L6 hgr1 (S5 _ _ _ ?_) ?_<;>(first|rfl|(simp[Value.ownBlock];done)))|(refine L6 hgr1 (aC0 (S5 _ _ _ ?_)) ?_<;>(first|rfl|(simp[Value.ownBlock];done)))) rfl (ar7 _) om LeN.out ii LeN.out ?_);intro sa2 sc2 x2 hown2 hgr2))
 all_goals
  have O2:=lH (hown2.mono (LeN.out (a:=w.heap.size)))
  have hlen:(l++[p]).length=n+1:=by simp[hn]
  clear hown1 hown2 hgr1 hgr2
  cases q:Z9 (l++[p])
  ·have HF:=lH (show X9 l p=l by simp[X9,q])
   go_wp2_with (first|((with_reducible refine rl ?_);(repeat(first|go_big_quiet_step (first|fail)|simp only[q]));refine wpQuiet_nil ?_;intro x))
   refine gm (aK4 (O2.out.to ii).sl hlen om) ?_
   intro x4
   go_wp2_with (first|((with_reducible refine rl ?_);(repeat(first|go_big_quiet_step (first|fail)|simp only[q]));refine wpQuiet_nil ?_;intro x)|(at_builtin;refine I0 (enc:=M4) (w0:=w) (z:=.agg #[I 0,I 0]) (size:=2) (bytes:=16) (n:=0) (l:=[]) rfl (.tmp 15) (.tmp 16) rfl u72 kr rfl de de rfl rfl HNIL.out rfl hn (Own.emptyAt aw0 LeN.out rfl) (hs.to ii) ar7 om ?_;intro sa5 sc5 x5 hown5 hgr5;rw[List.nil_append]at hown5;have O5:=lH hown5;clear hown5 hgr5))
   go_ret
   exact⟨sa5,sc5,by rw[HF.out,hn];first|rfl|simp,by rw[HF.out];exact O5.out,b7.of⟩
  ·have HF:=lH (show X9 l p=l++[p]by simp[X9,q])
   go_wp2_with (first|((with_reducible refine rl ?_);(repeat(first|go_big_quiet_step (first|fail)|simp only[q]));refine wpQuiet_nil ?_;intro x))
   refine gm (aK4 (O2.out.to ii).sl hlen om) ?_
   intro x4
   go_wp2_with (first|((with_reducible refine rl ?_);(repeat(first|go_big_quiet_step (first|fail)|simp only[q]));refine wpQuiet_nil ?_;intro x))
   go_ret
   exact⟨sa2,sc2,by rw[HF.out,hlen];rfl,by rw[HF.out];exact O2.out.to ii,b7.of⟩
def s5(s:ByteArray):List Int:=s.data.toList.map (fun b=>(b.toNat:Int))
@[irreducible] def ak5(s:ByteArray):Int:=crc 65535 (s5 s)
theorem aK5(s:ByteArray):ak5 s=crc 65535 (s5 s):=by unfold ak5;rfl
theorem bc4(n b:Int)(l:List Int):crc n (b::l)=crc (ag0 8 (bits .xor .i64 n (256*b))) l:=by with_unfolding_all rfl
theorem bq0(n:Int):crc n []=n:=by with_unfolding_all rfl
theorem M7(s:ByteArray):(s5 s).length=s.size:=by simp[s5]
theorem ab4{k:Nat}(h:k<s.size):((s[k]'h).toNat:Int)≤255∧(s5 s).drop k=((s[k]'h).toNat:Int)::(s5 s).drop (k+1):=by
 refine⟨?_,?_⟩
 ·have:=(s[k]'h).toNat_lt;omega
 ·have hk:k<(s5 s).length:=by rw[M7];exact h
  rw[List.drop_eq_getElem_cons hk]
  congr 1
  simp[s5];rfl
theorem bE8(hm:s.size≤4611686018427387904) :
  Calls Tryz.prog 307 #[.string s] w (b5 w (I (ak5 s))):=by
 have hlen:=M7 s
 have HC:=lH (show ak5 s=crc 65535 (s5 s)from aK5 s)
 go_enter Tryz.func307,Tryz.ntmps307
 go_wp2_with (fail)
 go_loopw [3,4] (fun u v wr=>∃ (k:Nat) (m:Int),v=I k∧u=I m∧k≤s.size∧0≤m∧m≤65535∧Hid (crc m ((s5 s).drop k)=ak5 s)∧∃ x:b7 w,wr=x.w) (fun _ v _=>(s.size - intOf v).toNat)
 case atStart=>exact⟨0,65535,rfl,rfl,by omega,by omega,by omega,by rw[HC.out];rfl,b7.of⟩
 case round =>
  obtain⟨k,m,rfl,rfl,hk,hm0,hm1,hf,x0,rfl⟩:=hrel
  by_cases h:k<s.size
  ·obtain⟨hb1,hd⟩:=ab4 h
   have⟨hx0,hx1⟩:=bv7 hm0 hm1 (show 0≤256*((s[k]'h).toNat:Int)by omega) (show 256*((s[k]'h).toNat:Int)≤65535 by omega)
   go_wp2_with (fail)
   go_loopw [3,5] (fun u v wr=>∃ (j:Nat) (m1:Int),v=I j∧u=I m1∧j≤8∧0≤m1∧m1≤65535∧Hid (ag0 (8 - j) m1=ag0 8 (bits .xor .i64 m (256*((s[k]'h).toNat:Int))))∧∃ y:b7 x0.w,wr=y.w) (fun _ v _=>(8 - intOf v).toNat)
   case atStart=>exact⟨0,_,rfl,rfl,by omega,hx0,hx1,by simp[Hid],b7.of⟩
   case round =>
    obtain⟨j,m1,rfl,rfl,hj,hn0,hn1,hg,y,rfl⟩:=hrel
    by_cases h2:j<8
    ·have ht:=bL4 hn0 hn1
     have⟨hc0,hc1⟩:=aF7 hn0 hn1
     cases c1:decide (32768≤m1)
     ·go_wp2_with (fail)
      go_roundw
      case rel=>exact⟨j+1,as4 m1,by go_num,by simp only[as4,if_neg (show ¬ 32768≤m1 by simpa using c1),Int.mul_comm m1 2],by omega,hc0,hc1,by have:=hg.out;rw[show 8 - j=(8 - (j+1))+1 by omega,ag0]at this;exact this,b7.of⟩
      case measure=>simp[intOf];omega
     ·go_wp2_with (fail)
      go_roundw
      case rel=>exact⟨j+1,as4 m1,by go_num,by simp only[as4,if_pos (show 32768≤m1 by simpa using c1)],by omega,hc0,hc1,by have:=hg.out;rw[show 8 - j=(8 - (j+1))+1 by omega,ag0]at this;exact this,b7.of⟩
      case measure=>simp[intOf];omega
    ·have:j=8:=by omega
     subst this
     have hm1:=lH (show ag0 8 (bits .xor .i64 m (256*((s[k]'h).toNat:Int)))=m1 by rw[← hg.out];rfl)
     go_wp2_with (fail)
     go_roundw
     case rel=>exact⟨k+1,m1,by go_num,rfl,by omega,hn0,hn1,by have:=hf.out;rw[hd,bc4,hm1.out]at this;exact lH this,b7.of⟩
     case measure=>simp[intOf];omega
  ·go_wp2_with (fail)
   go_ret
   exact b5.mk (by have:=hf.out;rw[List.drop_of_length_le om,bq0]at this;rw[← this];rfl)
theorem bF2(hm:s.size≤4611686018427387904) :
  Calls Tryz.prog 299 #[.string s] w (b5 w (I (ak5 s))):=by
 have hlen:=M7 s
 have HC:=lH (show ak5 s=crc 65535 (s5 s)from aK5 s)
 go_enter Tryz.func299,Tryz.ntmps299
 go_wp2_with (fail)
 go_loopw [3,4] (fun u v wr=>∃ (k:Nat) (m:Int),v=I k∧u=I m∧k≤s.size∧0≤m∧m≤65535∧Hid (crc m ((s5 s).drop k)=ak5 s)∧∃ x:b7 w,wr=x.w) (fun _ v _=>(s.size - intOf v).toNat)
 case atStart=>exact⟨0,65535,rfl,rfl,by omega,by omega,by omega,by rw[HC.out];rfl,b7.of⟩
 case round =>
  obtain⟨k,m,rfl,rfl,hk,hm0,hm1,hf,x0,rfl⟩:=hrel
  by_cases h:k<s.size
  ·obtain⟨hb1,hd⟩:=ab4 h
   have⟨hx0,hx1⟩:=bv7 hm0 hm1 (show 0≤((s[k]'h).toNat:Int)*256 by omega) (show((s[k]'h).toNat:Int)*256≤65535 by omega)
   go_wp2_with (fail)
   go_loopw [3,5] (fun u v wr=>∃ (j:Nat) (m1:Int),v=I j∧u=I m1∧j≤8∧0≤m1∧m1≤65535∧Hid (ag0 (8 - j) m1=ag0 8 (bits .xor .i64 m (((s[k]'h).toNat:Int)*256)))∧∃ y:b7 x0.w,wr=y.w) (fun _ v _=>(8 - intOf v).toNat)
   case atStart=>exact⟨0,_,rfl,rfl,by omega,hx0,hx1,by simp[Hid],b7.of⟩
   case round =>
    obtain⟨j,m1,rfl,rfl,hj,hn0,hn1,hg,y,rfl⟩:=hrel
    by_cases h2:j<8
    ·have ht:=bL4 hn0 hn1
     have⟨hc0,hc1⟩:=aF7 hn0 hn1
     cases c1:decide (32768≤m1)
     ·go_wp2_with (fail)
      go_roundw
      case rel=>exact⟨j+1,as4 m1,by go_num,by simp only[as4,if_neg (show ¬ 32768≤m1 by simpa using c1),Int.mul_comm m1 2],by omega,hc0,hc1,by have:=hg.out;rw[show 8 - j=(8 - (j+1))+1 by omega,ag0]at this;exact this,b7.of⟩
      case measure=>simp[intOf];omega
     ·go_wp2_with (fail)
      go_roundw
      case rel=>exact⟨j+1,as4 m1,by go_num,by simp only[as4,if_pos (show 32768≤m1 by simpa using c1),Int.mul_comm m1 2],by omega,hc0,hc1,by have:=hg.out;rw[show 8 - j=(8 - (j+1))+1 by omega,ag0]at this;exact this,b7.of⟩
      case measure=>simp[intOf];omega
    ·have:j=8:=by omega
     subst this
     have hm1:=lH (show ag0 8 (bits .xor .i64 m (((s[k]'h).toNat:Int)*256))=m1 by rw[← hg.out];rfl)
     go_wp2_with (fail)
     go_roundw
     case rel=>exact⟨k+1,m1,by go_num,rfl,by omega,hn0,hn1,by have:=hf.out;rw[hd,bc4,← Int.mul_comm _ 256,hm1.out]at this;exact lH this,b7.of⟩
     case measure=>simp[intOf];omega
  ·go_wp2_with (fail)
   go_ret
   exact b5.mk (by have:=hf.out;rw[List.drop_of_length_le om,bq0]at this;rw[← this];rfl)
theorem aM3{x:an4}(h:Enc.Rd B w vs x)(ht:Enc.tot x≤1048576) :
  Calls Tryz.prog 30 #[.agg vs.toArray] w (ai3 w x):=by
 obtain⟨rfl,hok⟩:=h
 clear ht
 have HOK:=lH hok;clear hok
 go_enter Tryz.func30,Tryz.ntmps30
 go_wp2_with fail
 refine bodyPost_ret (v:=.agg #[.int .i64 x.Seed,.int .i64 x.Burst,.int .i64 x.Loss]) ?_ rfl ⟨[.int .i64 x.Seed,.int .i64 x.Burst,.int .i64 x.Loss],rfl,⟨rfl,HOK.out⟩,b7.of⟩
 simp[results,Tryz.results30,go_sem]
theorem aL9{x:an4}(h:Enc.Rd B w vs x)(h2:Enc.Rd B2 w vs2 x) :
  Calls Tryz.prog 46 #[.agg vs.toArray,.agg vs2.toArray] w (b5 w (.bool true)):=by
 obtain⟨rfl,hok⟩:=h
 obtain⟨rfl,-⟩:=h2
 have HOK:=lH hok;clear hok
 go_enter Tryz.func46,Tryz.ntmps46
 go_wp2_with fail
 go_ret
 exact b5.mk rfl
theorem bP0{x:V9}(h:Enc.Rd B w vs x)(ht:Enc.tot x≤1048576) :
  Calls Tryz.prog 321 #[.agg vs.toArray] w (ai3 w x):=by
 obtain⟨rfl,hok⟩:=h
 clear ht
 have HOK:=lH hok;clear hok
 go_enter Tryz.func321,Tryz.ntmps321
 go_wp2_with fail
 refine bodyPost_ret (v:=.agg #[.int .i64 x.Seq,.string x.Data]) ?_ rfl ⟨[.int .i64 x.Seq,.string x.Data],rfl,⟨rfl,HOK.out⟩,b7.of⟩
 simp[results,Tryz.results321,go_sem]
theorem bO7{x:V9}(h:Enc.Rd B w vs x)(hl:0≤left)(hl2:left≤1048576) :
  Calls Tryz.prog 317 #[.agg vs.toArray,.int .i64 left] w (b5 w (.int .i64 (szD left (Enc.tot x)))):=by
 obtain⟨rfl,hok⟩:=h
 have n0:(0:Int)≤x.Data.size:=by omega
 have z0:x.Data.size≤9223372036854775807:=hok.2.1
 have HOK:=lH hok;clear hok
 have htot:Enc.tot x=(x.Data.size:Int):=rfl
 have HTOT:=lH htot;clear htot
 go_enter Tryz.func317,Tryz.ntmps317
 by_cases h0:left - (x.Data.size:Int)<0
 ·have HV:=lH (show szD left (Enc.tot x)=-1 from j8 (by rw[HTOT.out];omega))
  go_wp2_with fail
  go_ret
  exact b5.mk (by rw[HV.out];rfl)
 have HV:=lH (show szD left (Enc.tot x)=left - (x.Data.size:Int)by rw[B5 (by rw[HTOT.out];omega),HTOT.out]<;>omega)
 go_wp2_with fail
 go_ret
 exact b5.mk (by rw[HV.out];rfl)
theorem bO5{x:V9}(h:Enc.Rd B w vs x)(h2:Enc.Rd B2 w vs2 x) :
  Calls Tryz.prog 329 #[.agg vs.toArray,.agg vs2.toArray] w (b5 w (.bool true)):=by
 obtain⟨rfl,hok⟩:=h
 obtain⟨rfl,-⟩:=h2
 have HOK:=lH hok;clear hok
 go_enter Tryz.func329,Tryz.ntmps329
 go_wp2_with fail
 go_ret
 exact b5.mk rfl
theorem bH3{l:List V9}(hs:RdS B w a c l)(hl:0≤left)(hl2:left≤1048576) :
  Calls Tryz.prog 222 #[.slice a l.length c,.int .i64 left] w (b5 w (.int .i64 (szD left (d9 l)))):=by
 have hmx:=hs.max
 have hln:=f6 l
 obtain⟨n,hn⟩:∃ n,l.length=n:=⟨_,rfl⟩
 rw[hn]at hln hmx
 rw[hn]
 have HN:=lH hn;clear hn
 by_cases h:left - n<0
 ·have HV:=lH (show szD left (d9 l)=-1 from j8 om)
  go_enter Tryz.func222,Tryz.ntmps222
  go_wp2_with fail
  go_ret
  exact b5.mk (by rw[HV.out];rfl)
 ·go_enter Tryz.func222,Tryz.ntmps222
  go_wp2_with fail
  go_loopw [1,5] (fun u v wr=>∃ (k:Nat) (r:Int),v=.int .i64 k∧u=.int .i64 r∧k≤n∧0≤r∧r≤1048576∧Hid (r - d9 (l.drop k)+(n - k)=left - d9 l)∧∃ x:b7 w,wr=x.w) (fun _ v _=>(n - intOf v).toNat)
  case atStart=>exact⟨0,left - n,rfl,by go_num,by omega,by omega,by omega,by unfold Hid;rw[List.drop_zero];omega,b7.of⟩
  case round =>
   obtain⟨k,r,rfl,rfl,hk,hr,hr2,hf,x,rfl⟩:=hrel
   by_cases h2:k<n
   ·have hlk:k<l.length:=by have:=HN.out;omega
    obtain⟨eb,eoff,ex,rfl,ehb,ehd,eok,eh0,eh1⟩:=hs.atTSent (show k<l.length by omega)
    have hd2:=f6 (l.drop (k+1))
    have HD2:=lH (show((n:Int) - k - 1≤d9 (l.drop (k+1)))by rw[List.length_drop,HN.out]at hd2;omega);clear hd2 hlk
    have ht0:=Enc.tot_nonneg ex
    obtain⟨t,htt⟩:∃ t,Enc.tot ex=t:=⟨_,rfl⟩
    have hf2:Hid (r - (1+t+d9 (l.drop (k+1)))+(n - k)=left - d9 l):=by
     have:=hf.out;rw[ehd.out]at this;rw[← htt];exact this
    rw[htt]at ht0
    have HTT:=lH htt;clear htt hf
    have HEOK:=lH eok;clear eok
    go_wp2_with fail
    refine gm (bO7 (B:=0) (x:=ex) ⟨rfl,HEOK.out⟩ om om) ?_
    intro y
    rw[HTT.out]
    by_cases h3:r - t<0
    ·have HV:=lH (show szD left (d9 l)=-1 from j8 (by have h7:=hf2.out;have h8:=HD2.out;omega))
     rw[j8 h3]
     go_wp2_with fail
     go_ret
     exact b5.mk (by rw[HV.out];rfl)
    ·rw[B5 h3]
     go_wp2_with fail
     go_roundw
     case rel=>exact⟨k+1,r - t,by go_num,by go_num,by omega,by omega,by omega,by have h7:=hf2.out;unfold Hid;omega,b7.of⟩
     case measure=>simp[intOf];omega
   ·have HV:=lH (show szD left (d9 l)=r by
     have h7:=hf.out
     rw[List.drop_of_length_le (by have:=HN.out;omega)]at h7
     simp only[d9]at h7
     rw[B5 om];omega)
    go_wp2_with fail
    go_ret
    exact b5.mk (by rw[HV.out];rfl)
theorem bG6{l:List V9}(hs:RdS B w a c l)(hs2:RdS B2 w a2 c2 l) :
  Calls Tryz.prog 273 #[.slice a l.length c,.slice a2 l.length c2] w (b5 w (.bool true)):=by
 have hmx:=hs.max
 obtain⟨n,hn⟩:∃ n,l.length=n:=⟨_,rfl⟩
 rw[hn]at hmx
 rw[hn]
 have HN:=lH hn;clear hn
 have kn:((n:Int) != (n:Int))=false:=by simp
 go_enter Tryz.func273,Tryz.ntmps273
 go_wp2_with fail
 go_loopw [5] (fun v wr=>∃ k:Nat,v=.int .i64 k∧k≤n∧∃ x:b7 w,wr=x.w) (fun v _=>(n - intOf v).toNat)
 case atStart=>exact⟨0,rfl,by omega,b7.of⟩
 case round =>
  obtain⟨k,rfl,hk,x,rfl⟩:=hrel
  by_cases h:k<n
  ·have hlk:k<l.length:=by have:=HN.out;omega
   obtain⟨eb,eoff,ex,rfl,ehb,ehd,eok,eh0,eh1⟩:=hs.atTSent (show k<l.length by omega)
   obtain⟨fb,foff,fx,rfl,fhb,fhd,fok,fh0,fh1⟩:=hs2.atTSent (show k<l.length by omega)
   obtain rfl:ex=fx:=by have:=ehd.out.symm.trans fhd.out;simpa using this
   clear ehd fhd hlk hs hs2
   have ce:∀ {W:World} [b8 w W],Calls Tryz.prog 329 #[.agg #[.int .i64 ex.Seq,.string ex.Data],.agg #[.int .i64 ex.Seq,.string ex.Data]] W (b5 W (.bool true)):=fun {W} _=>bO5 (B:=0) (B2:=0) (x:=ex) ⟨rfl,eok⟩ ⟨rfl,fok⟩
   clear eok fok
   go_wp2_with (first|((with_reducible refine rl ?_);(repeat(first|go_big_quiet_step (first|(go_at_call 329;exact b5.quiet (ce)))));refine wpQuiet_nil ?_;intro x)|(go_at_call 329;refine gm (ce) ?_;intro x))
   go_roundw
   case rel=>exact⟨k+1,by go_num,by omega,b7.of⟩
   case measure=>simp[intOf];omega
  ·go_wp2_with fail
   go_ret
   exact b5.mk rfl
theorem bi0{x:am5}(h:Enc.Rd B w vs x)(ht:Enc.tot x≤1048576) :
  Calls Tryz.prog 129 #[.agg vs.toArray] w (ai3 w x):=by
 obtain⟨rfl,hok⟩:=h
 clear ht
 have HOK:=lH hok;clear hok
 go_enter Tryz.func129,Tryz.ntmps129
 go_wp2_with fail
 refine bodyPost_ret (v:=.agg #[.int .i64 x.Expect,.bool x.Locked,.bool x.Again,.int .i64 x.Taken]) ?_ rfl ⟨[.int .i64 x.Expect,.bool x.Locked,.bool x.Again,.int .i64 x.Taken],rfl,⟨rfl,HOK.out⟩,b7.of⟩
 simp[results,Tryz.results129,go_sem]
theorem bh2{x:am5}(h:Enc.Rd B w vs x)(h2:Enc.Rd B2 w vs2 x) :
  Calls Tryz.prog 175 #[.agg vs.toArray,.agg vs2.toArray] w (b5 w (.bool true)):=by
 obtain⟨rfl,hok⟩:=h
 obtain⟨rfl,-⟩:=h2
 have HOK:=lH hok;clear hok
 go_enter Tryz.func175,Tryz.ntmps175
 go_wp2_with fail
 go_ret
 exact b5.mk rfl
theorem bz2{x:X8}(h:Enc.Rd B w vs x)(ht:Enc.tot x≤1048576) :
  Calls Tryz.prog 123 #[.agg vs.toArray] w (ai3 w x):=by
 obtain⟨rfl,hok⟩:=h
 clear ht
 have HOK:=lH hok;clear hok
 go_enter Tryz.func123,Tryz.ntmps123
 go_wp2_with fail
 refine bodyPost_ret (v:=.agg #[.int .i64 x.Expect,.bool x.Locked,.bool x.Again]) ?_ rfl ⟨[.int .i64 x.Expect,.bool x.Locked,.bool x.Again],rfl,⟨rfl,HOK.out⟩,b7.of⟩
 simp[results,Tryz.results123,go_sem]
theorem by0{x:X8}(h:Enc.Rd B w vs x)(h2:Enc.Rd B2 w vs2 x) :
  Calls Tryz.prog 169 #[.agg vs.toArray,.agg vs2.toArray] w (b5 w (.bool true)):=by
 obtain⟨rfl,hok⟩:=h
 obtain⟨rfl,-⟩:=h2
 have HOK:=lH hok;clear hok
 go_enter Tryz.func169,Tryz.ntmps169
 go_wp2_with fail
 go_ret
 exact b5.mk rfl
theorem bH9{x:aB9}(h:Enc.Rd B w vs x)(ht:Enc.tot x≤1048576) :
  Calls Tryz.prog 345 #[.agg vs.toArray] w (ai3 w x):=by
 obtain⟨rfl,hok⟩:=h
 clear ht
 have HOK:=lH hok;clear hok
 go_enter Tryz.func345,Tryz.ntmps345
 go_wp2_with fail
 refine bodyPost_ret (v:=.agg #[.int .i64 x.Kind,.int .i64 x.At,.int .i64 x.A,.int .i64 x.B]) ?_ rfl ⟨[.int .i64 x.Kind,.int .i64 x.At,.int .i64 x.A,.int .i64 x.B],rfl,⟨rfl,HOK.out⟩,b7.of⟩
 simp[results,Tryz.results345,go_sem]
theorem bG4{x:aB9}(h:Enc.Rd B w vs x)(h2:Enc.Rd B2 w vs2 x) :
  Calls Tryz.prog 349 #[.agg vs.toArray,.agg vs2.toArray] w (b5 w (.bool true)):=by
 obtain⟨rfl,hok⟩:=h
 obtain⟨rfl,-⟩:=h2
 have HOK:=lH hok;clear hok
 go_enter Tryz.func349,Tryz.ntmps349
 go_wp2_with fail
 go_ret
 exact b5.mk rfl
theorem bz3{x:s8}(h:Enc.Rd B w vs x)(ht:Enc.tot x≤1048576) :
  Calls Tryz.prog 245 #[.agg vs.toArray] w (ai3 w x):=by
 obtain⟨rfl,hok⟩:=h
 clear ht
 have HOK:=lH hok;clear hok
 go_enter Tryz.func245,Tryz.ntmps245
 go_wp2_with fail
 refine bodyPost_ret (v:=.agg #[.int .i64 x.Id,.int .i64 x.Priority,.int .i64 x.Time,.string x.Data]) ?_ rfl ⟨[.int .i64 x.Id,.int .i64 x.Priority,.int .i64 x.Time,.string x.Data],rfl,⟨rfl,HOK.out⟩,b7.of⟩
 simp[results,Tryz.results245,go_sem]
theorem by9{x:s8}(h:Enc.Rd B w vs x)(hl:0≤left)(hl2:left≤1048576) :
  Calls Tryz.prog 223 #[.agg vs.toArray,.int .i64 left] w (b5 w (.int .i64 (szD left (Enc.tot x)))):=by
 obtain⟨rfl,hok⟩:=h
 have n0:(0:Int)≤x.Data.size:=by omega
 have z0:x.Data.size≤9223372036854775807:=hok.2.2.2.1
 have HOK:=lH hok;clear hok
 have htot:Enc.tot x=(x.Data.size:Int):=rfl
 have HTOT:=lH htot;clear htot
 go_enter Tryz.func223,Tryz.ntmps223
 by_cases h0:left - (x.Data.size:Int)<0
 ·have HV:=lH (show szD left (Enc.tot x)=-1 from j8 (by rw[HTOT.out];omega))
  go_wp2_with fail
  go_ret
  exact b5.mk (by rw[HV.out];rfl)
 have HV:=lH (show szD left (Enc.tot x)=left - (x.Data.size:Int)by rw[B5 (by rw[HTOT.out];omega),HTOT.out]<;>omega)
 go_wp2_with fail
 go_ret
 exact b5.mk (by rw[HV.out];rfl)
theorem by2{x:s8}(h:Enc.Rd B w vs x)(h2:Enc.Rd B2 w vs2 x) :
  Calls Tryz.prog 275 #[.agg vs.toArray,.agg vs2.toArray] w (b5 w (.bool true)):=by
 obtain⟨rfl,hok⟩:=h
 obtain⟨rfl,-⟩:=h2
 have HOK:=lH hok;clear hok
 go_enter Tryz.func275,Tryz.ntmps275
 go_wp2_with fail
 go_ret
 exact b5.mk rfl
theorem ay7{l:List s8}(hs:RdS B w a c l)(hl:0≤left)(hl2:left≤1048576) :
  Calls Tryz.prog 90 #[.slice a l.length c,.int .i64 left] w (b5 w (.int .i64 (szD left (d9 l)))):=by
 have hmx:=hs.max
 have hln:=f6 l
 obtain⟨n,hn⟩:∃ n,l.length=n:=⟨_,rfl⟩
 rw[hn]at hln hmx
 rw[hn]
 have HN:=lH hn;clear hn
 by_cases h:left - n<0
 ·have HV:=lH (show szD left (d9 l)=-1 from j8 om)
  go_enter Tryz.func90,Tryz.ntmps90
  go_wp2_with fail
  go_ret
  exact b5.mk (by rw[HV.out];rfl)
 ·go_enter Tryz.func90,Tryz.ntmps90
  go_wp2_with fail
  go_loopw [1,5] (fun u v wr=>∃ (k:Nat) (r:Int),v=.int .i64 k∧u=.int .i64 r∧k≤n∧0≤r∧r≤1048576∧Hid (r - d9 (l.drop k)+(n - k)=left - d9 l)∧∃ x:b7 w,wr=x.w) (fun _ v _=>(n - intOf v).toNat)
  case atStart=>exact⟨0,left - n,rfl,by go_num,by omega,by omega,by omega,by unfold Hid;rw[List.drop_zero];omega,b7.of⟩
  case round =>
   obtain⟨k,r,rfl,rfl,hk,hr,hr2,hf,x,rfl⟩:=hrel
   by_cases h2:k<n
   ·have hlk:k<l.length:=by have:=HN.out;omega
    obtain⟨eb,eoff,ex,rfl,ehb,ehd,eok,eh0,eh1,eh2,eh3⟩:=hs.atTRecord (show k<l.length by omega)
    have hd2:=f6 (l.drop (k+1))
    have HD2:=lH (show((n:Int) - k - 1≤d9 (l.drop (k+1)))by rw[List.length_drop,HN.out]at hd2;omega);clear hd2 hlk
    have ht0:=Enc.tot_nonneg ex
    obtain⟨t,htt⟩:∃ t,Enc.tot ex=t:=⟨_,rfl⟩
    have hf2:Hid (r - (1+t+d9 (l.drop (k+1)))+(n - k)=left - d9 l):=by
     have:=hf.out;rw[ehd.out]at this;rw[← htt];exact this
    rw[htt]at ht0
    have HTT:=lH htt;clear htt hf
    have HEOK:=lH eok;clear eok
    go_wp2_with fail
    refine gm (by9 (B:=0) (x:=ex) ⟨rfl,HEOK.out⟩ om om) ?_
    intro y
    rw[HTT.out]
    by_cases h3:r - t<0
    ·have HV:=lH (show szD left (d9 l)=-1 from j8 (by have h7:=hf2.out;have h8:=HD2.out;omega))
     rw[j8 h3]
     go_wp2_with fail
     go_ret
     exact b5.mk (by rw[HV.out];rfl)
    ·rw[B5 h3]
     go_wp2_with fail
     go_roundw
     case rel=>exact⟨k+1,r - t,by go_num,by go_num,by omega,by omega,by omega,by have h7:=hf2.out;unfold Hid;omega,b7.of⟩
     case measure=>simp[intOf];omega
   ·have HV:=lH (show szD left (d9 l)=r by
     have h7:=hf.out
     rw[List.drop_of_length_le (by have:=HN.out;omega)]at h7
     simp only[d9]at h7
     rw[B5 om];omega)
    go_wp2_with fail
    go_ret
    exact b5.mk (by rw[HV.out];rfl)
theorem ay6{l:List s8}(hs:RdS B w a c l)(hs2:RdS B2 w a2 c2 l) :
  Calls Tryz.prog 172 #[.slice a l.length c,.slice a2 l.length c2] w (b5 w (.bool true)):=by
 have hmx:=hs.max
 obtain⟨n,hn⟩:∃ n,l.length=n:=⟨_,rfl⟩
 rw[hn]at hmx
 rw[hn]
 have HN:=lH hn;clear hn
 have kn:((n:Int) != (n:Int))=false:=by simp
 go_enter Tryz.func172,Tryz.ntmps172
 go_wp2_with fail
 go_loopw [5] (fun v wr=>∃ k:Nat,v=.int .i64 k∧k≤n∧∃ x:b7 w,wr=x.w) (fun v _=>(n - intOf v).toNat)
 case atStart=>exact⟨0,rfl,by omega,b7.of⟩
 case round =>
  obtain⟨k,rfl,hk,x,rfl⟩:=hrel
  by_cases h:k<n
  ·have hlk:k<l.length:=by have:=HN.out;omega
   obtain⟨eb,eoff,ex,rfl,ehb,ehd,eok,eh0,eh1,eh2,eh3⟩:=hs.atTRecord (show k<l.length by omega)
   obtain⟨fb,foff,fx,rfl,fhb,fhd,fok,fh0,fh1,fh2,fh3⟩:=hs2.atTRecord (show k<l.length by omega)
   obtain rfl:ex=fx:=by have:=ehd.out.symm.trans fhd.out;simpa using this
   clear ehd fhd hlk hs hs2
   have ce:∀ {W:World} [b8 w W],Calls Tryz.prog 275 #[.agg #[.int .i64 ex.Id,.int .i64 ex.Priority,.int .i64 ex.Time,.string ex.Data],.agg #[.int .i64 ex.Id,.int .i64 ex.Priority,.int .i64 ex.Time,.string ex.Data]] W (b5 W (.bool true)):=fun {W} _=>by2 (B:=0) (B2:=0) (x:=ex) ⟨rfl,eok⟩ ⟨rfl,fok⟩
   clear eok fok
   go_wp2_with (first|((with_reducible refine rl ?_);(repeat(first|go_big_quiet_step (first|(go_at_call 275;exact b5.quiet (ce)))));refine wpQuiet_nil ?_;intro x)|(go_at_call 275;refine gm (ce) ?_;intro x))
   go_roundw
   case rel=>exact⟨k+1,by go_num,by omega,b7.of⟩
   case measure=>simp[intOf];omega
  ·go_wp2_with fail
   go_ret
   exact b5.mk rfl
theorem bH7{x:V8}(h:Enc.Rd B w vs x)(ht:Enc.tot x≤1048576) :
  Calls Tryz.prog 322 #[.agg vs.toArray] w (ai3 w x):=by
 obtain⟨rfl,hok⟩:=h
 clear ht
 have HOK:=lH hok;clear hok
 go_enter Tryz.func322,Tryz.ntmps322
 go_wp2_with fail
 refine bodyPost_ret (v:=.agg #[.int .i64 x.Param,.int .i64 x.Low,.int .i64 x.High]) ?_ rfl ⟨[.int .i64 x.Param,.int .i64 x.Low,.int .i64 x.High],rfl,⟨rfl,HOK.out⟩,b7.of⟩
 simp[results,Tryz.results322,go_sem]
theorem bG2{x:V8}(h:Enc.Rd B w vs x)(h2:Enc.Rd B2 w vs2 x) :
  Calls Tryz.prog 330 #[.agg vs.toArray,.agg vs2.toArray] w (b5 w (.bool true)):=by
 obtain⟨rfl,hok⟩:=h
 obtain⟨rfl,-⟩:=h2
 have HOK:=lH hok;clear hok
 go_enter Tryz.func330,Tryz.ntmps330
 go_wp2_with fail
 go_ret
 exact b5.mk rfl
theorem by7{l:List V8}(hs:RdS B w a c l)(hl:0≤left)(hl2:left≤1048576) :
  Calls Tryz.prog 226 #[.slice a l.length c,.int .i64 left] w (b5 w (.int .i64 (szD left (d9 l)))):=by
 have hmx:=hs.max
 have hln:=f6 l
 obtain⟨n,hn⟩:∃ n,l.length=n:=⟨_,rfl⟩
 rw[hn]at hln hmx
 rw[hn]
 have HN:=lH hn;clear hn
 have htl:d9 l=n:=by rw[← HN.out];clear hs HN hmx hln;induction l with|nil=>rfl|cons x r ih=>simp only[d9,List.length_cons,ih];show 1+0+_=_;omega
 rw[htl];clear htl hln hs
 by_cases h:left - n<0
 ·rw[j8 h]
  go_enter Tryz.func226,Tryz.ntmps226
  go_wp2_with fail
  go_ret
  exact b5.mk rfl
 ·rw[B5 h]
  go_enter Tryz.func226,Tryz.ntmps226
  go_wp2_with fail
  go_ret
  exact b5.mk rfl
theorem bx9{l:List V8}(hs:RdS B w a c l)(hs2:RdS B2 w a2 c2 l) :
  Calls Tryz.prog 278 #[.slice a l.length c,.slice a2 l.length c2] w (b5 w (.bool true)):=by
 have hmx:=hs.max
 obtain⟨n,hn⟩:∃ n,l.length=n:=⟨_,rfl⟩
 rw[hn]at hmx
 rw[hn]
 have HN:=lH hn;clear hn
 have kn:((n:Int) != (n:Int))=false:=by simp
 go_enter Tryz.func278,Tryz.ntmps278
 go_wp2_with fail
 go_loopw [5] (fun v wr=>∃ k:Nat,v=.int .i64 k∧k≤n∧∃ x:b7 w,wr=x.w) (fun v _=>(n - intOf v).toNat)
 case atStart=>exact⟨0,rfl,by omega,b7.of⟩
 case round =>
  obtain⟨k,rfl,hk,x,rfl⟩:=hrel
  by_cases h:k<n
  ·have hlk:k<l.length:=by have:=HN.out;omega
   obtain⟨eb,eoff,ex,rfl,ehb,ehd,eok,eh0,eh1,eh2⟩:=hs.atTLimit (show k<l.length by omega)
   obtain⟨fb,foff,fx,rfl,fhb,fhd,fok,fh0,fh1,fh2⟩:=hs2.atTLimit (show k<l.length by omega)
   obtain rfl:ex=fx:=by have:=ehd.out.symm.trans fhd.out;simpa using this
   clear ehd fhd hlk hs hs2
   have ce:∀ {W:World} [b8 w W],Calls Tryz.prog 330 #[.agg #[.int .i64 ex.Param,.int .i64 ex.Low,.int .i64 ex.High],.agg #[.int .i64 ex.Param,.int .i64 ex.Low,.int .i64 ex.High]] W (b5 W (.bool true)):=fun {W} _=>bG2 (B:=0) (B2:=0) (x:=ex) ⟨rfl,eok⟩ ⟨rfl,fok⟩
   clear eok fok
   go_wp2_with (first|((with_reducible refine rl ?_);(repeat(first|go_big_quiet_step (first|(go_at_call 330;exact b5.quiet (ce)))));refine wpQuiet_nil ?_;intro x)|(go_at_call 330;refine gm (ce) ?_;intro x))
   go_roundw
   case rel=>exact⟨k+1,by go_num,by omega,b7.of⟩
   case measure=>simp[intOf];omega
  ·go_wp2_with fail
   go_ret
   exact b5.mk rfl
theorem bO8{x:ad2}(h:Enc.Rd B w vs x)(ht:Enc.tot x≤1048576) :
  Calls Tryz.prog 324 #[.agg vs.toArray] w (ai3 w x):=by
 obtain⟨rfl,hok⟩:=h
 clear ht
 have HOK:=lH hok;clear hok
 go_enter Tryz.func324,Tryz.ntmps324
 go_wp2_with fail
 refine bodyPost_ret (v:=.agg #[.int .i64 x.Number,.int .i64 x.Time,.int .i64 x.Result]) ?_ rfl ⟨[.int .i64 x.Number,.int .i64 x.Time,.int .i64 x.Result],rfl,⟨rfl,HOK.out⟩,b7.of⟩
 simp[results,Tryz.results324,go_sem]
theorem bO3{x:ad2}(h:Enc.Rd B w vs x)(h2:Enc.Rd B2 w vs2 x) :
  Calls Tryz.prog 332 #[.agg vs.toArray,.agg vs2.toArray] w (b5 w (.bool true)):=by
 obtain⟨rfl,hok⟩:=h
 obtain⟨rfl,-⟩:=h2
 have HOK:=lH hok;clear hok
 go_enter Tryz.func332,Tryz.ntmps332
 go_wp2_with fail
 go_ret
 exact b5.mk rfl
theorem bH1{l:List ad2}(hs:RdS B w a c l)(hl:0≤left)(hl2:left≤1048576) :
  Calls Tryz.prog 228 #[.slice a l.length c,.int .i64 left] w (b5 w (.int .i64 (szD left (d9 l)))):=by
 have hmx:=hs.max
 have hln:=f6 l
 obtain⟨n,hn⟩:∃ n,l.length=n:=⟨_,rfl⟩
 rw[hn]at hln hmx
 rw[hn]
 have HN:=lH hn;clear hn
 have htl:d9 l=n:=by rw[← HN.out];clear hs HN hmx hln;induction l with|nil=>rfl|cons x r ih=>simp only[d9,List.length_cons,ih];show 1+0+_=_;omega
 rw[htl];clear htl hln hs
 by_cases h:left - n<0
 ·rw[j8 h]
  go_enter Tryz.func228,Tryz.ntmps228
  go_wp2_with fail
  go_ret
  exact b5.mk rfl
 ·rw[B5 h]
  go_enter Tryz.func228,Tryz.ntmps228
  go_wp2_with fail
  go_ret
  exact b5.mk rfl
theorem bG0{l:List ad2}(hs:RdS B w a c l)(hs2:RdS B2 w a2 c2 l) :
  Calls Tryz.prog 280 #[.slice a l.length c,.slice a2 l.length c2] w (b5 w (.bool true)):=by
 have hmx:=hs.max
 obtain⟨n,hn⟩:∃ n,l.length=n:=⟨_,rfl⟩
 rw[hn]at hmx
 rw[hn]
 have HN:=lH hn;clear hn
 have kn:((n:Int) != (n:Int))=false:=by simp
 go_enter Tryz.func280,Tryz.ntmps280
 go_wp2_with fail
 go_loopw [5] (fun v wr=>∃ k:Nat,v=.int .i64 k∧k≤n∧∃ x:b7 w,wr=x.w) (fun v _=>(n - intOf v).toNat)
 case atStart=>exact⟨0,rfl,by omega,b7.of⟩
 case round =>
  obtain⟨k,rfl,hk,x,rfl⟩:=hrel
  by_cases h:k<n
  ·have hlk:k<l.length:=by have:=HN.out;omega
   obtain⟨eb,eoff,ex,rfl,ehb,ehd,eok,eh0,eh1,eh2⟩:=hs.atTDone (show k<l.length by omega)
   obtain⟨fb,foff,fx,rfl,fhb,fhd,fok,fh0,fh1,fh2⟩:=hs2.atTDone (show k<l.length by omega)
   obtain rfl:ex=fx:=by have:=ehd.out.symm.trans fhd.out;simpa using this
   clear ehd fhd hlk hs hs2
   have ce:∀ {W:World} [b8 w W],Calls Tryz.prog 332 #[.agg #[.int .i64 ex.Number,.int .i64 ex.Time,.int .i64 ex.Result],.agg #[.int .i64 ex.Number,.int .i64 ex.Time,.int .i64 ex.Result]] W (b5 W (.bool true)):=fun {W} _=>bO3 (B:=0) (B2:=0) (x:=ex) ⟨rfl,eok⟩ ⟨rfl,fok⟩
   clear eok fok
   go_wp2_with (first|((with_reducible refine rl ?_);(repeat(first|go_big_quiet_step (first|(go_at_call 332;exact b5.quiet (ce)))));refine wpQuiet_nil ?_;intro x)|(go_at_call 332;refine gm (ce) ?_;intro x))
   go_roundw
   case rel=>exact⟨k+1,by go_num,by omega,b7.of⟩
   case measure=>simp[intOf];omega
  ·go_wp2_with fail
   go_ret
   exact b5.mk rfl
theorem bH6{x:aB7}(h:Enc.Rd B w vs x)(ht:Enc.tot x≤1048576) :
  Calls Tryz.prog 27 #[.agg vs.toArray] w (ai3 w x):=by
 obtain⟨rfl,hok⟩:=h
 clear ht
 have HOK:=lH hok;clear hok
 go_enter Tryz.func27,Tryz.ntmps27
 go_wp2_with fail
 refine bodyPost_ret (v:=.agg #[.int .i64 x.Rate,.int .i64 x.Offset]) ?_ rfl ⟨[.int .i64 x.Rate,.int .i64 x.Offset],rfl,⟨rfl,HOK.out⟩,b7.of⟩
 simp[results,Tryz.results27,go_sem]
theorem bG1{x:aB7}(h:Enc.Rd B w vs x)(h2:Enc.Rd B2 w vs2 x) :
  Calls Tryz.prog 43 #[.agg vs.toArray,.agg vs2.toArray] w (b5 w (.bool true)):=by
 obtain⟨rfl,hok⟩:=h
 obtain⟨rfl,-⟩:=h2
 have HOK:=lH hok;clear hok
 go_enter Tryz.func43,Tryz.ntmps43
 go_wp2_with fail
 go_ret
 exact b5.mk rfl
theorem bO9{x:X1}(h:Enc.Rd B w vs x)(ht:Enc.tot x≤1048576) :
  Calls Tryz.prog 244 #[.agg vs.toArray] w (ai3 w x):=by
 obtain⟨rfl,hok⟩:=h
 clear ht
 have HOK:=lH hok;clear hok
 go_enter Tryz.func244,Tryz.ntmps244
 go_wp2_with fail
 refine bodyPost_ret (v:=.agg #[.int .i64 x.Board,.int .i64 x.True]) ?_ rfl ⟨[.int .i64 x.Board,.int .i64 x.True],rfl,⟨rfl,HOK.out⟩,b7.of⟩
 simp[results,Tryz.results244,go_sem]
theorem bO4{x:X1}(h:Enc.Rd B w vs x)(h2:Enc.Rd B2 w vs2 x) :
  Calls Tryz.prog 274 #[.agg vs.toArray,.agg vs2.toArray] w (b5 w (.bool true)):=by
 obtain⟨rfl,hok⟩:=h
 obtain⟨rfl,-⟩:=h2
 have HOK:=lH hok;clear hok
 go_enter Tryz.func274,Tryz.ntmps274
 go_wp2_with fail
 go_ret
 exact b5.mk rfl
theorem bH2{l:List X1}(hs:RdS B w a c l)(hl:0≤left)(hl2:left≤1048576) :
  Calls Tryz.prog 89 #[.slice a l.length c,.int .i64 left] w (b5 w (.int .i64 (szD left (d9 l)))):=by
 have hmx:=hs.max
 have hln:=f6 l
 obtain⟨n,hn⟩:∃ n,l.length=n:=⟨_,rfl⟩
 rw[hn]at hln hmx
 rw[hn]
 have HN:=lH hn;clear hn
 have htl:d9 l=n:=by rw[← HN.out];clear hs HN hmx hln;induction l with|nil=>rfl|cons x r ih=>simp only[d9,List.length_cons,ih];show 1+0+_=_;omega
 rw[htl];clear htl hln hs
 by_cases h:left - n<0
 ·rw[j8 h]
  go_enter Tryz.func89,Tryz.ntmps89
  go_wp2_with fail
  go_ret
  exact b5.mk rfl
 ·rw[B5 h]
  go_enter Tryz.func89,Tryz.ntmps89
  go_wp2_with fail
  go_ret
  exact b5.mk rfl
theorem bG5{l:List X1}(hs:RdS B w a c l)(hs2:RdS B2 w a2 c2 l) :
  Calls Tryz.prog 171 #[.slice a l.length c,.slice a2 l.length c2] w (b5 w (.bool true)):=by
 have hmx:=hs.max
 obtain⟨n,hn⟩:∃ n,l.length=n:=⟨_,rfl⟩
 rw[hn]at hmx
 rw[hn]
 have HN:=lH hn;clear hn
 have kn:((n:Int) != (n:Int))=false:=by simp
 go_enter Tryz.func171,Tryz.ntmps171
 go_wp2_with fail
 go_loopw [5] (fun v wr=>∃ k:Nat,v=.int .i64 k∧k≤n∧∃ x:b7 w,wr=x.w) (fun v _=>(n - intOf v).toNat)
 case atStart=>exact⟨0,rfl,by omega,b7.of⟩
 case round =>
  obtain⟨k,rfl,hk,x,rfl⟩:=hrel
  by_cases h:k<n
  ·have hlk:k<l.length:=by have:=HN.out;omega
   obtain⟨eb,eoff,ex,rfl,ehb,ehd,eok,eh0,eh1⟩:=hs.atPair (show k<l.length by omega)
   obtain⟨fb,foff,fx,rfl,fhb,fhd,fok,fh0,fh1⟩:=hs2.atPair (show k<l.length by omega)
   obtain rfl:ex=fx:=by have:=ehd.out.symm.trans fhd.out;simpa using this
   clear ehd fhd hlk hs hs2
   have ce:∀ {W:World} [b8 w W],Calls Tryz.prog 274 #[.agg #[.int .i64 ex.Board,.int .i64 ex.True],.agg #[.int .i64 ex.Board,.int .i64 ex.True]] W (b5 W (.bool true)):=fun {W} _=>bO4 (B:=0) (B2:=0) (x:=ex) ⟨rfl,eok⟩ ⟨rfl,fok⟩
   clear eok fok
   go_wp2_with (first|((with_reducible refine rl ?_);(repeat(first|go_big_quiet_step (first|(go_at_call 274;exact b5.quiet (ce)))));refine wpQuiet_nil ?_;intro x)|(go_at_call 274;refine gm (ce) ?_;intro x))
   go_roundw
   case rel=>exact⟨k+1,by go_num,by omega,b7.of⟩
   case measure=>simp[intOf];omega
  ·go_wp2_with fail
   go_ret
   exact b5.mk rfl
theorem bH8{x:aB8}(h:Enc.Rd B w vs x)(ht:Enc.tot x≤1048576) :
  Calls Tryz.prog 28 #[.agg vs.toArray] w (ai3 w x):=by
 obtain⟨rfl,hok⟩:=h
 clear ht
 have HOK:=lH hok;clear hok
 go_enter Tryz.func28,Tryz.ntmps28
 go_wp2_with fail
 refine bodyPost_ret (v:=.agg #[.int .i64 x.Period,.int .i64 x.Start,.int .i64 x.Length]) ?_ rfl ⟨[.int .i64 x.Period,.int .i64 x.Start,.int .i64 x.Length],rfl,⟨rfl,HOK.out⟩,b7.of⟩
 simp[results,Tryz.results28,go_sem]
theorem bG3{x:aB8}(h:Enc.Rd B w vs x)(h2:Enc.Rd B2 w vs2 x) :
  Calls Tryz.prog 44 #[.agg vs.toArray,.agg vs2.toArray] w (b5 w (.bool true)):=by
 obtain⟨rfl,hok⟩:=h
 obtain⟨rfl,-⟩:=h2
 have HOK:=lH hok;clear hok
 go_enter Tryz.func44,Tryz.ntmps44
 go_wp2_with fail
 go_ret
 exact b5.mk rfl
theorem bP1{x:ap8}(h:Enc.Rd B w vs x)(ht:Enc.tot x≤1048576) :
  Calls Tryz.prog 120 #[.agg vs.toArray] w (ai3 w x):=by
 obtain⟨rfl,hok⟩:=h
 clear ht
 have HOK:=lH hok;clear hok
 go_enter Tryz.func120,Tryz.ntmps120
 go_wp2_with fail
 refine bodyPost_ret (v:=.agg #[.int .i64 x.Time,.int .i64 x.Id]) ?_ rfl ⟨[.int .i64 x.Time,.int .i64 x.Id],rfl,⟨rfl,HOK.out⟩,b7.of⟩
 simp[results,Tryz.results120,go_sem]
theorem bO6{x:ap8}(h:Enc.Rd B w vs x)(h2:Enc.Rd B2 w vs2 x) :
  Calls Tryz.prog 166 #[.agg vs.toArray,.agg vs2.toArray] w (b5 w (.bool true)):=by
 obtain⟨rfl,hok⟩:=h
 obtain⟨rfl,-⟩:=h2
 have HOK:=lH hok;clear hok
 go_enter Tryz.func166,Tryz.ntmps166
 go_wp2_with fail
 go_ret
 exact b5.mk rfl
theorem bH4{l:List ap8}(hs:RdS B w a c l)(hl:0≤left)(hl2:left≤1048576) :
  Calls Tryz.prog 14 #[.slice a l.length c,.int .i64 left] w (b5 w (.int .i64 (szD left (d9 l)))):=by
 have hmx:=hs.max
 have hln:=f6 l
 obtain⟨n,hn⟩:∃ n,l.length=n:=⟨_,rfl⟩
 rw[hn]at hln hmx
 rw[hn]
 have HN:=lH hn;clear hn
 have htl:d9 l=n:=by rw[← HN.out];clear hs HN hmx hln;induction l with|nil=>rfl|cons x r ih=>simp only[d9,List.length_cons,ih];show 1+0+_=_;omega
 rw[htl];clear htl hln hs
 by_cases h:left - n<0
 ·rw[j8 h]
  go_enter Tryz.func14,Tryz.ntmps14
  go_wp2_with fail
  go_ret
  exact b5.mk rfl
 ·rw[B5 h]
  go_enter Tryz.func14,Tryz.ntmps14
  go_wp2_with fail
  go_ret
  exact b5.mk rfl
theorem bG7{l:List ap8}(hs:RdS B w a c l)(hs2:RdS B2 w a2 c2 l) :
  Calls Tryz.prog 45 #[.slice a l.length c,.slice a2 l.length c2] w (b5 w (.bool true)):=by
 have hmx:=hs.max
 obtain⟨n,hn⟩:∃ n,l.length=n:=⟨_,rfl⟩
 rw[hn]at hmx
 rw[hn]
 have HN:=lH hn;clear hn
 have kn:((n:Int) != (n:Int))=false:=by simp
 go_enter Tryz.func45,Tryz.ntmps45
 go_wp2_with fail
 go_loopw [5] (fun v wr=>∃ k:Nat,v=.int .i64 k∧k≤n∧∃ x:b7 w,wr=x.w) (fun v _=>(n - intOf v).toNat)
 case atStart=>exact⟨0,rfl,by omega,b7.of⟩
 case round =>
  obtain⟨k,rfl,hk,x,rfl⟩:=hrel
  by_cases h:k<n
  ·have hlk:k<l.length:=by have:=HN.out;omega
   obtain⟨eb,eoff,ex,rfl,ehb,ehd,eok,eh0,eh1⟩:=hs.atSlot (show k<l.length by omega)
   obtain⟨fb,foff,fx,rfl,fhb,fhd,fok,fh0,fh1⟩:=hs2.atSlot (show k<l.length by omega)
   obtain rfl:ex=fx:=by have:=ehd.out.symm.trans fhd.out;simpa using this
   clear ehd fhd hlk hs hs2
   have ce:∀ {W:World} [b8 w W],Calls Tryz.prog 166 #[.agg #[.int .i64 ex.Time,.int .i64 ex.Id],.agg #[.int .i64 ex.Time,.int .i64 ex.Id]] W (b5 W (.bool true)):=fun {W} _=>bO6 (B:=0) (B2:=0) (x:=ex) ⟨rfl,eok⟩ ⟨rfl,fok⟩
   clear eok fok
   go_wp2_with (first|((with_reducible refine rl ?_);(repeat(first|go_big_quiet_step (first|(go_at_call 166;exact b5.quiet (ce)))));refine wpQuiet_nil ?_;intro x)|(go_at_call 166;refine gm (ce) ?_;intro x))
   go_roundw
   case rel=>exact⟨k+1,by go_num,by omega,b7.of⟩
   case measure=>simp[intOf];omega
  ·go_wp2_with fail
   go_ret
   exact b5.mk rfl
theorem bz1{x:k5}(h:Enc.Rd B w vs x)(ht:Enc.tot x≤1048576) :
  Calls Tryz.prog 121 #[.agg vs.toArray] w (ai3 w x):=by
 obtain⟨rfl,hok⟩:=h
 clear ht
 have HOK:=lH hok;clear hok
 go_enter Tryz.func121,Tryz.ntmps121
 go_wp2_with fail
 refine bodyPost_ret (v:=.agg #[.int .i64 x.At,.string x.Data]) ?_ rfl ⟨[.int .i64 x.At,.string x.Data],rfl,⟨rfl,HOK.out⟩,b7.of⟩
 simp[results,Tryz.results121,go_sem]
theorem by5{x:k5}(h:Enc.Rd B w vs x)(hl:0≤left)(hl2:left≤1048576) :
  Calls Tryz.prog 86 #[.agg vs.toArray,.int .i64 left] w (b5 w (.int .i64 (szD left (Enc.tot x)))):=by
 obtain⟨rfl,hok⟩:=h
 have n0:(0:Int)≤x.Data.size:=by omega
 have z0:x.Data.size≤9223372036854775807:=hok.2.1
 have HOK:=lH hok;clear hok
 have htot:Enc.tot x=(x.Data.size:Int):=rfl
 have HTOT:=lH htot;clear htot
 go_enter Tryz.func86,Tryz.ntmps86
 by_cases h0:left - (x.Data.size:Int)<0
 ·have HV:=lH (show szD left (Enc.tot x)=-1 from j8 (by rw[HTOT.out];omega))
  go_wp2_with fail
  go_ret
  exact b5.mk (by rw[HV.out];rfl)
 have HV:=lH (show szD left (Enc.tot x)=left - (x.Data.size:Int)by rw[B5 (by rw[HTOT.out];omega),HTOT.out]<;>omega)
 go_wp2_with fail
 go_ret
 exact b5.mk (by rw[HV.out];rfl)
theorem bx7{x:k5}(h:Enc.Rd B w vs x)(h2:Enc.Rd B2 w vs2 x) :
  Calls Tryz.prog 167 #[.agg vs.toArray,.agg vs2.toArray] w (b5 w (.bool true)):=by
 obtain⟨rfl,hok⟩:=h
 obtain⟨rfl,-⟩:=h2
 have HOK:=lH hok;clear hok
 go_enter Tryz.func167,Tryz.ntmps167
 go_wp2_with fail
 go_ret
 exact b5.mk rfl
theorem aM1{l:List k5}(hs:RdS B w a c l)(hl:0≤left)(hl2:left≤1048576) :
  Calls Tryz.prog 15 #[.slice a l.length c,.int .i64 left] w (b5 w (.int .i64 (szD left (d9 l)))):=by
 have hmx:=hs.max
 have hln:=f6 l
 obtain⟨n,hn⟩:∃ n,l.length=n:=⟨_,rfl⟩
 rw[hn]at hln hmx
 rw[hn]
 have HN:=lH hn;clear hn
 by_cases h:left - n<0
 ·have HV:=lH (show szD left (d9 l)=-1 from j8 om)
  go_enter Tryz.func15,Tryz.ntmps15
  go_wp2_with fail
  go_ret
  exact b5.mk (by rw[HV.out];rfl)
 ·go_enter Tryz.func15,Tryz.ntmps15
  go_wp2_with fail
  go_loopw [1,5] (fun u v wr=>∃ (k:Nat) (r:Int),v=.int .i64 k∧u=.int .i64 r∧k≤n∧0≤r∧r≤1048576∧Hid (r - d9 (l.drop k)+(n - k)=left - d9 l)∧∃ x:b7 w,wr=x.w) (fun _ v _=>(n - intOf v).toNat)
  case atStart=>exact⟨0,left - n,rfl,by go_num,by omega,by omega,by omega,by unfold Hid;rw[List.drop_zero];omega,b7.of⟩
  case round =>
   obtain⟨k,r,rfl,rfl,hk,hr,hr2,hf,x,rfl⟩:=hrel
   by_cases h2:k<n
   ·have hlk:k<l.length:=by have:=HN.out;omega
    obtain⟨eb,eoff,ex,rfl,ehb,ehd,eok,eh0,eh1⟩:=hs.atTFlight (show k<l.length by omega)
    have hd2:=f6 (l.drop (k+1))
    have HD2:=lH (show((n:Int) - k - 1≤d9 (l.drop (k+1)))by rw[List.length_drop,HN.out]at hd2;omega);clear hd2 hlk
    have ht0:=Enc.tot_nonneg ex
    obtain⟨t,htt⟩:∃ t,Enc.tot ex=t:=⟨_,rfl⟩
    have hf2:Hid (r - (1+t+d9 (l.drop (k+1)))+(n - k)=left - d9 l):=by
     have:=hf.out;rw[ehd.out]at this;rw[← htt];exact this
    rw[htt]at ht0
    have HTT:=lH htt;clear htt hf
    have HEOK:=lH eok;clear eok
    go_wp2_with fail
    refine gm (by5 (B:=0) (x:=ex) ⟨rfl,HEOK.out⟩ om om) ?_
    intro y
    rw[HTT.out]
    by_cases h3:r - t<0
    ·have HV:=lH (show szD left (d9 l)=-1 from j8 (by have h7:=hf2.out;have h8:=HD2.out;omega))
     rw[j8 h3]
     go_wp2_with fail
     go_ret
     exact b5.mk (by rw[HV.out];rfl)
    ·rw[B5 h3]
     go_wp2_with fail
     go_roundw
     case rel=>exact⟨k+1,r - t,by go_num,by go_num,by omega,by omega,by omega,by have h7:=hf2.out;unfold Hid;omega,b7.of⟩
     case measure=>simp[intOf];omega
   ·have HV:=lH (show szD left (d9 l)=r by
     have h7:=hf.out
     rw[List.drop_of_length_le (by have:=HN.out;omega)]at h7
     simp only[d9]at h7
     rw[B5 om];omega)
    go_wp2_with fail
    go_ret
    exact b5.mk (by rw[HV.out];rfl)
theorem aM0{l:List k5}(hs:RdS B w a c l)(hs2:RdS B2 w a2 c2 l) :
  Calls Tryz.prog 47 #[.slice a l.length c,.slice a2 l.length c2] w (b5 w (.bool true)):=by
 have hmx:=hs.max
 obtain⟨n,hn⟩:∃ n,l.length=n:=⟨_,rfl⟩
 rw[hn]at hmx
 rw[hn]
 have HN:=lH hn;clear hn
 have kn:((n:Int) != (n:Int))=false:=by simp
 go_enter Tryz.func47,Tryz.ntmps47
 go_wp2_with fail
 go_loopw [5] (fun v wr=>∃ k:Nat,v=.int .i64 k∧k≤n∧∃ x:b7 w,wr=x.w) (fun v _=>(n - intOf v).toNat)
 case atStart=>exact⟨0,rfl,by omega,b7.of⟩
 case round =>
  obtain⟨k,rfl,hk,x,rfl⟩:=hrel
  by_cases h:k<n
  ·have hlk:k<l.length:=by have:=HN.out;omega
   obtain⟨eb,eoff,ex,rfl,ehb,ehd,eok,eh0,eh1⟩:=hs.atTFlight (show k<l.length by omega)
   obtain⟨fb,foff,fx,rfl,fhb,fhd,fok,fh0,fh1⟩:=hs2.atTFlight (show k<l.length by omega)
   obtain rfl:ex=fx:=by have:=ehd.out.symm.trans fhd.out;simpa using this
   clear ehd fhd hlk hs hs2
   have ce:∀ {W:World} [b8 w W],Calls Tryz.prog 167 #[.agg #[.int .i64 ex.At,.string ex.Data],.agg #[.int .i64 ex.At,.string ex.Data]] W (b5 W (.bool true)):=fun {W} _=>bx7 (B:=0) (B2:=0) (x:=ex) ⟨rfl,eok⟩ ⟨rfl,fok⟩
   clear eok fok
   go_wp2_with (first|((with_reducible refine rl ?_);(repeat(first|go_big_quiet_step (first|(go_at_call 167;exact b5.quiet (ce)))));refine wpQuiet_nil ?_;intro x)|(go_at_call 167;refine gm (ce) ?_;intro x))
   go_roundw
   case rel=>exact⟨k+1,by go_num,by omega,b7.of⟩
   case measure=>simp[intOf];omega
  ·go_wp2_with fail
   go_ret
   exact b5.mk rfl
theorem bi1{x:f9}(h:Enc.Rd B w vs x)(ht:Enc.tot x≤1048576) :
  Calls Tryz.prog 124 #[.agg vs.toArray] w (ai3 w x):=by
 obtain⟨rfl,hok⟩:=h
 clear ht
 have HOK:=lH hok;clear hok
 go_enter Tryz.func124,Tryz.ntmps124
 go_wp2_with fail
 refine bodyPost_ret (v:=.agg #[.int .i64 x.Channel,.int .i64 x.Next,.bool x.Synced,.string x.Rest,.int .i64 x.Lost]) ?_ rfl ⟨[.int .i64 x.Channel,.int .i64 x.Next,.bool x.Synced,.string x.Rest,.int .i64 x.Lost],rfl,⟨rfl,HOK.out⟩,b7.of⟩
 simp[results,Tryz.results124,go_sem]
theorem bh8{x:f9}(h:Enc.Rd B w vs x)(hl:0≤left)(hl2:left≤1048576) :
  Calls Tryz.prog 88 #[.agg vs.toArray,.int .i64 left] w (b5 w (.int .i64 (szD left (Enc.tot x)))):=by
 obtain⟨rfl,hok⟩:=h
 have n0:(0:Int)≤x.Rest.size:=by omega
 have z0:x.Rest.size≤9223372036854775807:=hok.2.2.1
 have HOK:=lH hok;clear hok
 have htot:Enc.tot x=(x.Rest.size:Int):=rfl
 have HTOT:=lH htot;clear htot
 go_enter Tryz.func88,Tryz.ntmps88
 by_cases h0:left - (x.Rest.size:Int)<0
 ·have HV:=lH (show szD left (Enc.tot x)=-1 from j8 (by rw[HTOT.out];omega))
  go_wp2_with fail
  go_ret
  exact b5.mk (by rw[HV.out];rfl)
 have HV:=lH (show szD left (Enc.tot x)=left - (x.Rest.size:Int)by rw[B5 (by rw[HTOT.out];omega),HTOT.out]<;>omega)
 go_wp2_with fail
 go_ret
 exact b5.mk (by rw[HV.out];rfl)
theorem bh4{x:f9}(h:Enc.Rd B w vs x)(h2:Enc.Rd B2 w vs2 x) :
  Calls Tryz.prog 170 #[.agg vs.toArray,.agg vs2.toArray] w (b5 w (.bool true)):=by
 obtain⟨rfl,hok⟩:=h
 obtain⟨rfl,-⟩:=h2
 have HOK:=lH hok;clear hok
 go_enter Tryz.func170,Tryz.ntmps170
 go_wp2_with fail
 go_ret
 exact b5.mk rfl
theorem bq6{x:D4}(h:Enc.Rd B w vs x)(ht:Enc.tot x≤1048576) :
  Calls Tryz.prog 323 #[.agg vs.toArray] w (ai3 w x):=by
 obtain⟨rfl,hok⟩:=h
 clear ht
 have HOK:=lH hok;clear hok
 go_enter Tryz.func323,Tryz.ntmps323
 go_wp2_with fail
 refine(bH9 (B:=0) (x:=x.Order) ⟨rfl,HOK.out.2.1⟩ (show(0:Int)≤1048576 by omega)).mono ?_
 rintro _ _ ⟨_,rfl,⟨rfl,-⟩,y0,rfl⟩
 go_wp2_with fail
 refine bodyPost_ret (v:=.agg #[.int .i64 x.Number,.int .i64 x.Order.Kind,.int .i64 x.Order.At,.int .i64 x.Order.A,.int .i64 x.Order.B]) ?_ rfl ⟨[.int .i64 x.Number,.int .i64 x.Order.Kind,.int .i64 x.Order.At,.int .i64 x.Order.A,.int .i64 x.Order.B],rfl,⟨rfl,HOK.out⟩,b7.of⟩
 simp[results,Tryz.results323,go_sem]
theorem bq3{x:D4}(h:Enc.Rd B w vs x)(h2:Enc.Rd B2 w vs2 x) :
  Calls Tryz.prog 331 #[.agg vs.toArray,.agg vs2.toArray] w (b5 w (.bool true)):=by
 obtain⟨rfl,hok⟩:=h
 obtain⟨rfl,-⟩:=h2
 have HOK:=lH hok;clear hok
 go_enter Tryz.func331,Tryz.ntmps331
 go_wp2_with fail
 refine gm (bG4 (B:=0) (B2:=0) (x:=x.Order) ⟨rfl,HOK.out.2.1⟩ ⟨rfl,HOK.out.2.1⟩) ?_
 intro y0
 go_wp2_with fail
 go_ret
 exact b5.mk rfl
theorem bh9{l:List D4}(hs:RdS B w a c l)(hl:0≤left)(hl2:left≤1048576) :
  Calls Tryz.prog 227 #[.slice a l.length c,.int .i64 left] w (b5 w (.int .i64 (szD left (d9 l)))):=by
 have hmx:=hs.max
 have hln:=f6 l
 obtain⟨n,hn⟩:∃ n,l.length=n:=⟨_,rfl⟩
 rw[hn]at hln hmx
 rw[hn]
 have HN:=lH hn;clear hn
 have htl:d9 l=n:=by rw[← HN.out];clear hs HN hmx hln;induction l with|nil=>rfl|cons x r ih=>simp only[d9,List.length_cons,ih];show 1+0+_=_;omega
 rw[htl];clear htl hln hs
 by_cases h:left - n<0
 ·rw[j8 h]
  go_enter Tryz.func227,Tryz.ntmps227
  go_wp2_with fail
  go_ret
  exact b5.mk rfl
 ·rw[B5 h]
  go_enter Tryz.func227,Tryz.ntmps227
  go_wp2_with fail
  go_ret
  exact b5.mk rfl
theorem bh5{l:List D4}(hs:RdS B w a c l)(hs2:RdS B2 w a2 c2 l) :
  Calls Tryz.prog 279 #[.slice a l.length c,.slice a2 l.length c2] w (b5 w (.bool true)):=by
 have hmx:=hs.max
 obtain⟨n,hn⟩:∃ n,l.length=n:=⟨_,rfl⟩
 rw[hn]at hmx
 rw[hn]
 have HN:=lH hn;clear hn
 have kn:((n:Int) != (n:Int))=false:=by simp
 go_enter Tryz.func279,Tryz.ntmps279
 go_wp2_with fail
 go_loopw [5] (fun v wr=>∃ k:Nat,v=.int .i64 k∧k≤n∧∃ x:b7 w,wr=x.w) (fun v _=>(n - intOf v).toNat)
 case atStart=>exact⟨0,rfl,by omega,b7.of⟩
 case round =>
  obtain⟨k,rfl,hk,x,rfl⟩:=hrel
  by_cases h:k<n
  ·have hlk:k<l.length:=by have:=HN.out;omega
   obtain⟨eb,eoff,ex,rfl,ehb,ehd,eok,eh0,eh1,eh2,eh3,eh4⟩:=hs.atTWaiting (show k<l.length by omega)
   obtain⟨fb,foff,fx,rfl,fhb,fhd,fok,fh0,fh1,fh2,fh3,fh4⟩:=hs2.atTWaiting (show k<l.length by omega)
   obtain rfl:ex=fx:=by have:=ehd.out.symm.trans fhd.out;simpa using this
   clear ehd fhd hlk hs hs2
   have ce:∀ {W:World} [b8 w W],Calls Tryz.prog 331 #[.agg #[.int .i64 ex.Number,.int .i64 ex.Order.Kind,.int .i64 ex.Order.At,.int .i64 ex.Order.A,.int .i64 ex.Order.B],.agg #[.int .i64 ex.Number,.int .i64 ex.Order.Kind,.int .i64 ex.Order.At,.int .i64 ex.Order.A,.int .i64 ex.Order.B]] W (b5 W (.bool true)):=fun {W} _=>bq3 (B:=0) (B2:=0) (x:=ex) ⟨rfl,eok⟩ ⟨rfl,fok⟩
   clear eok fok
   go_wp2_with (first|((with_reducible refine rl ?_);(repeat(first|go_big_quiet_step (first|(go_at_call 331;exact b5.quiet (ce)))));refine wpQuiet_nil ?_;intro x)|(go_at_call 331;refine gm (ce) ?_;intro x))
   go_roundw
   case rel=>exact⟨k+1,by go_num,by omega,b7.of⟩
   case measure=>simp[intOf];omega
  ·go_wp2_with fail
   go_ret
   exact b5.mk rfl
theorem bW1(vs:List Value)(hl:vs.length=2)(h:RdL w [.int,.str] vs):∃ x:V9,Enc.Rd 0 w vs x:=by
 obtain⟨u0,g0,r0⟩:=h.at (j:=0) rfl
 obtain⟨x0,rfl,p0⟩:=r0.int_inv
 obtain⟨u1,g1,r1⟩:=h.at (j:=1) rfl
 obtain⟨x1,rfl,p1⟩:=r1.str_inv
 replace p1:x1.size≤9223372036854775807:=by unfold maxLen at p1;omega
 refine⟨⟨x0,x1⟩,⟨Z1 hl ?_,⟨p0,p1,trivial⟩⟩⟩
 intro j y hy
 match j,hy with
 | 0,hy=>cases hy;exact g0
 | 1,hy=>cases hy;exact g1
theorem aR9(vs:List Value)(hl:vs.length=4)(h:RdL w [.int,.int,.int,.str] vs):∃ x:s8,Enc.Rd 0 w vs x:=by
 obtain⟨u0,g0,r0⟩:=h.at (j:=0) rfl
 obtain⟨x0,rfl,p0⟩:=r0.int_inv
 obtain⟨u1,g1,r1⟩:=h.at (j:=1) rfl
 obtain⟨x1,rfl,p1⟩:=r1.int_inv
 obtain⟨u2,g2,r2⟩:=h.at (j:=2) rfl
 obtain⟨x2,rfl,p2⟩:=r2.int_inv
 obtain⟨u3,g3,r3⟩:=h.at (j:=3) rfl
 obtain⟨x3,rfl,p3⟩:=r3.str_inv
 replace p3:x3.size≤9223372036854775807:=by unfold maxLen at p3;omega
 refine⟨⟨x0,x1,x2,x3⟩,⟨Z1 hl ?_,⟨p0,p1,p2,p3,trivial⟩⟩⟩
 intro j y hy
 match j,hy with
 | 0,hy=>cases hy;exact g0
 | 1,hy=>cases hy;exact g1
 | 2,hy=>cases hy;exact g2
 | 3,hy=>cases hy;exact g3
theorem bS5(vs:List Value)(hl:vs.length=3)(h:RdL w [.int,.int,.int] vs):∃ x:V8,Enc.Rd 0 w vs x:=by
 obtain⟨u0,g0,r0⟩:=h.at (j:=0) rfl
 obtain⟨x0,rfl,p0⟩:=r0.int_inv
 obtain⟨u1,g1,r1⟩:=h.at (j:=1) rfl
 obtain⟨x1,rfl,p1⟩:=r1.int_inv
 obtain⟨u2,g2,r2⟩:=h.at (j:=2) rfl
 obtain⟨x2,rfl,p2⟩:=r2.int_inv
 refine⟨⟨x0,x1,x2⟩,⟨Z1 hl ?_,⟨p0,p1,p2,trivial⟩⟩⟩
 intro j y hy
 match j,hy with
 | 0,hy=>cases hy;exact g0
 | 1,hy=>cases hy;exact g1
 | 2,hy=>cases hy;exact g2
theorem bK4(vs:List Value)(hl:vs.length=5)(h:RdL w [.int,.int,.int,.int,.int] vs):∃ x:D4,Enc.Rd 0 w vs x:=by
 obtain⟨u0,g0,r0⟩:=h.at (j:=0) rfl
 obtain⟨x0,rfl,p0⟩:=r0.int_inv
 obtain⟨u1,g1,r1⟩:=h.at (j:=1) rfl
 obtain⟨x1,rfl,p1⟩:=r1.int_inv
 obtain⟨u2,g2,r2⟩:=h.at (j:=2) rfl
 obtain⟨x2,rfl,p2⟩:=r2.int_inv
 obtain⟨u3,g3,r3⟩:=h.at (j:=3) rfl
 obtain⟨x3,rfl,p3⟩:=r3.int_inv
 obtain⟨u4,g4,r4⟩:=h.at (j:=4) rfl
 obtain⟨x4,rfl,p4⟩:=r4.int_inv
 refine⟨⟨x0,⟨x1,x2,x3,x4⟩⟩,⟨Z1 hl ?_,⟨p0,⟨p1,p2,p3,p4,trivial⟩,trivial⟩⟩⟩
 intro j y hy
 match j,hy with
 | 0,hy=>cases hy;exact g0
 | 1,hy=>cases hy;exact g1
 | 2,hy=>cases hy;exact g2
 | 3,hy=>cases hy;exact g3
 | 4,hy=>cases hy;exact g4
theorem bW0(vs:List Value)(hl:vs.length=3)(h:RdL w [.int,.int,.int] vs):∃ x:ad2,Enc.Rd 0 w vs x:=by
 obtain⟨u0,g0,r0⟩:=h.at (j:=0) rfl
 obtain⟨x0,rfl,p0⟩:=r0.int_inv
 obtain⟨u1,g1,r1⟩:=h.at (j:=1) rfl
 obtain⟨x1,rfl,p1⟩:=r1.int_inv
 obtain⟨u2,g2,r2⟩:=h.at (j:=2) rfl
 obtain⟨x2,rfl,p2⟩:=r2.int_inv
 refine⟨⟨x0,x1,x2⟩,⟨Z1 hl ?_,⟨p0,p1,p2,trivial⟩⟩⟩
 intro j y hy
 match j,hy with
 | 0,hy=>cases hy;exact g0
 | 1,hy=>cases hy;exact g1
 | 2,hy=>cases hy;exact g2
theorem bP8(vs:List Value)(hl:vs.length=4)(h:RdL w [.int,.int,.int,.sl [.str]] vs):∃ x:A8,Enc.Rd 0 w vs x:=by
 obtain⟨u0,g0,r0⟩:=h.at (j:=0) rfl
 obtain⟨x0,rfl,p0⟩:=r0.int_inv
 obtain⟨u1,g1,r1⟩:=h.at (j:=1) rfl
 obtain⟨x1,rfl,p1⟩:=r1.int_inv
 obtain⟨u2,g2,r2⟩:=h.at (j:=2) rfl
 obtain⟨x2,rfl,p2⟩:=r2.int_inv
 obtain⟨u3,g3,r3⟩:=h.at (j:=3) rfl
 obtain⟨a3,c3,x3,rfl,p3⟩:=ai0 (α:=ByteArray) (es:=[.str]) rfl aP9 r3
 refine⟨⟨x0,x1,x2,x3⟩,⟨a3,c3,Z1 hl ?_,p3,⟨p0,p1,p2,trivial⟩⟩⟩
 intro j y hy
 match j,hy with
 | 0,hy=>cases hy;exact g0
 | 1,hy=>cases hy;exact g1
 | 2,hy=>cases hy;exact g2
 | 3,hy=>cases hy;exact g3
theorem bK2(vs:List Value)(hl:vs.length=4)(h:RdL w [.int,.str,.sl [.int],.bool] vs):∃ x:s7,Enc.Rd 0 w vs x:=by
 obtain⟨u0,g0,r0⟩:=h.at (j:=0) rfl
 obtain⟨x0,rfl,p0⟩:=r0.int_inv
 obtain⟨u1,g1,r1⟩:=h.at (j:=1) rfl
 obtain⟨x1,rfl,p1⟩:=r1.str_inv
 replace p1:x1.size≤9223372036854775807:=by unfold maxLen at p1;omega
 obtain⟨u2,g2,r2⟩:=h.at (j:=2) rfl
 obtain⟨a2,c2,x2,rfl,p2⟩:=ai0 (α:=Int) (es:=[.int]) rfl aP8 r2
 obtain⟨u3,g3,r3⟩:=h.at (j:=3) rfl
 obtain⟨x3,rfl⟩:=r3.bool_inv
 refine⟨⟨x0,x1,x2,x3⟩,⟨a2,c2,Z1 hl ?_,p2,⟨p0,p1,trivial⟩⟩⟩
 intro j y hy
 match j,hy with
 | 0,hy=>cases hy;exact g0
 | 1,hy=>cases hy;exact g1
 | 2,hy=>cases hy;exact g2
 | 3,hy=>cases hy;exact g3
theorem bY9(vs:List Value)(hl:vs.length=2)(h:RdL w [.int,.int] vs):∃ x:X1,Enc.Rd 0 w vs x:=by
 obtain⟨u0,g0,r0⟩:=h.at (j:=0) rfl
 obtain⟨x0,rfl,p0⟩:=r0.int_inv
 obtain⟨u1,g1,r1⟩:=h.at (j:=1) rfl
 obtain⟨x1,rfl,p1⟩:=r1.int_inv
 refine⟨⟨x0,x1⟩,⟨Z1 hl ?_,⟨p0,p1,trivial⟩⟩⟩
 intro j y hy
 match j,hy with
 | 0,hy=>cases hy;exact g0
 | 1,hy=>cases hy;exact g1
theorem bZ0(vs:List Value)(hl:vs.length=2)(h:RdL w [.int,.int] vs):∃ x:ap8,Enc.Rd 0 w vs x:=by
 obtain⟨u0,g0,r0⟩:=h.at (j:=0) rfl
 obtain⟨x0,rfl,p0⟩:=r0.int_inv
 obtain⟨u1,g1,r1⟩:=h.at (j:=1) rfl
 obtain⟨x1,rfl,p1⟩:=r1.int_inv
 refine⟨⟨x0,x1⟩,⟨Z1 hl ?_,⟨p0,p1,trivial⟩⟩⟩
 intro j y hy
 match j,hy with
 | 0,hy=>cases hy;exact g0
 | 1,hy=>cases hy;exact g1
theorem bm2(vs:List Value)(hl:vs.length=2)(h:RdL w [.int,.str] vs):∃ x:k5,Enc.Rd 0 w vs x:=by
 obtain⟨u0,g0,r0⟩:=h.at (j:=0) rfl
 obtain⟨x0,rfl,p0⟩:=r0.int_inv
 obtain⟨u1,g1,r1⟩:=h.at (j:=1) rfl
 obtain⟨x1,rfl,p1⟩:=r1.str_inv
 replace p1:x1.size≤9223372036854775807:=by unfold maxLen at p1;omega
 refine⟨⟨x0,x1⟩,⟨Z1 hl ?_,⟨p0,p1,trivial⟩⟩⟩
 intro j y hy
 match j,hy with
 | 0,hy=>cases hy;exact g0
 | 1,hy=>cases hy;exact g1
theorem bK3(vs:List Value)(hl:vs.length=61)(h:RdL w [.int,.int,.int,.int,.int,.int,.int,.sl [.int,.int],.int,.int,.int,.int,.int,.int,.sl [.int,.str],.sl [.int,.str],.sl [.str],.int,.int,.sl [.int,.str],.int,.int,.bool,.bool,.int,.int,.bool,.str,.int,.sl [.int,.int],.sl [.int,.int,.int,.str],.sl [.int,.int,.int,.sl [.str]],.sl [.bool],.int,.bool,.bool,.int,.int,.sl [.int],.bool,.sl [.int,.int,.int],.sl [.int,.int,.int,.int,.int],.sl [.int,.int,.int],.int,.sl [.int,.int,.int,.str],.sl [.int],.int,.int,.sl [.int],.int,.int,.str,.sl [.int],.int,.sl [.str],.sl [.int,.str,.sl [.int],.bool],.int,.sl [.int,.int,.int,.str],.sl [.str],.sl [.str],.int] vs):∃ x:f7,Enc.Rd 0 w vs x:=by
 obtain⟨u0,g0,r0⟩:=h.at (j:=0) rfl
 obtain⟨x0,rfl,p0⟩:=r0.int_inv
 obtain⟨u1,g1,r1⟩:=h.at (j:=1) rfl
 obtain⟨x1,rfl,p1⟩:=r1.int_inv
 obtain⟨u2,g2,r2⟩:=h.at (j:=2) rfl
 obtain⟨x2,rfl,p2⟩:=r2.int_inv
 obtain⟨u3,g3,r3⟩:=h.at (j:=3) rfl
 obtain⟨x3,rfl,p3⟩:=r3.int_inv
 obtain⟨u4,g4,r4⟩:=h.at (j:=4) rfl
 obtain⟨x4,rfl,p4⟩:=r4.int_inv
 obtain⟨u5,g5,r5⟩:=h.at (j:=5) rfl
 obtain⟨x5,rfl,p5⟩:=r5.int_inv
 obtain⟨u6,g6,r6⟩:=h.at (j:=6) rfl
 obtain⟨x6,rfl,p6⟩:=r6.int_inv
 obtain⟨u7,g7,r7⟩:=h.at (j:=7) rfl
 obtain⟨a7,c7,x7,rfl,p7⟩:=ai0 (α:=ap8) (es:=[.int,.int]) rfl bZ0 r7
 obtain⟨u8,g8,r8⟩:=h.at (j:=8) rfl
 obtain⟨x8,rfl,p8⟩:=r8.int_inv
 obtain⟨u9,g9,r9⟩:=h.at (j:=9) rfl
 obtain⟨x9,rfl,p9⟩:=r9.int_inv
 obtain⟨u10,g10,r10⟩:=h.at (j:=10) rfl
 obtain⟨x10,rfl,p10⟩:=r10.int_inv
 obtain⟨u11,g11,r11⟩:=h.at (j:=11) rfl
 obtain⟨x11,rfl,p11⟩:=r11.int_inv
 obtain⟨u12,g12,r12⟩:=h.at (j:=12) rfl
 obtain⟨x12,rfl,p12⟩:=r12.int_inv
 obtain⟨u13,g13,r13⟩:=h.at (j:=13) rfl
 obtain⟨x13,rfl,p13⟩:=r13.int_inv
 obtain⟨u14,g14,r14⟩:=h.at (j:=14) rfl
 obtain⟨a14,c14,x14,rfl,p14⟩:=ai0 (α:=k5) (es:=[.int,.str]) rfl bm2 r14
 obtain⟨u15,g15,r15⟩:=h.at (j:=15) rfl
 obtain⟨a15,c15,x15,rfl,p15⟩:=ai0 (α:=k5) (es:=[.int,.str]) rfl bm2 r15
 obtain⟨u16,g16,r16⟩:=h.at (j:=16) rfl
 obtain⟨a16,c16,x16,rfl,p16⟩:=ai0 (α:=ByteArray) (es:=[.str]) rfl aP9 r16
 obtain⟨u17,g17,r17⟩:=h.at (j:=17) rfl
 obtain⟨x17,rfl,p17⟩:=r17.int_inv
 obtain⟨u18,g18,r18⟩:=h.at (j:=18) rfl
 obtain⟨x18,rfl,p18⟩:=r18.int_inv
 obtain⟨u19,g19,r19⟩:=h.at (j:=19) rfl
 obtain⟨a19,c19,x19,rfl,p19⟩:=ai0 (α:=V9) (es:=[.int,.str]) rfl bW1 r19
 obtain⟨u20,g20,r20⟩:=h.at (j:=20) rfl
 obtain⟨x20,rfl,p20⟩:=r20.int_inv
 obtain⟨u21,g21,r21⟩:=h.at (j:=21) rfl
 obtain⟨x21,rfl,p21⟩:=r21.int_inv
 obtain⟨u22,g22,r22⟩:=h.at (j:=22) rfl
 obtain⟨x22,rfl⟩:=r22.bool_inv
 obtain⟨u23,g23,r23⟩:=h.at (j:=23) rfl
 obtain⟨x23,rfl⟩:=r23.bool_inv
 obtain⟨u24,g24,r24⟩:=h.at (j:=24) rfl
 obtain⟨x24,rfl,p24⟩:=r24.int_inv
 obtain⟨u25,g25,r25⟩:=h.at (j:=25) rfl
 obtain⟨x25,rfl,p25⟩:=r25.int_inv
 obtain⟨u26,g26,r26⟩:=h.at (j:=26) rfl
 obtain⟨x26,rfl⟩:=r26.bool_inv
 obtain⟨u27,g27,r27⟩:=h.at (j:=27) rfl
 obtain⟨x27,rfl,p27⟩:=r27.str_inv
 replace p27:x27.size≤9223372036854775807:=by unfold maxLen at p27;omega
 obtain⟨u28,g28,r28⟩:=h.at (j:=28) rfl
 obtain⟨x28,rfl,p28⟩:=r28.int_inv
 obtain⟨u29,g29,r29⟩:=h.at (j:=29) rfl
 obtain⟨a29,c29,x29,rfl,p29⟩:=ai0 (α:=X1) (es:=[.int,.int]) rfl bY9 r29
 obtain⟨u30,g30,r30⟩:=h.at (j:=30) rfl
 obtain⟨a30,c30,x30,rfl,p30⟩:=ai0 (α:=s8) (es:=[.int,.int,.int,.str]) rfl aR9 r30
 obtain⟨u31,g31,r31⟩:=h.at (j:=31) rfl
 obtain⟨a31,c31,x31,rfl,p31⟩:=ai0 (α:=A8) (es:=[.int,.int,.int,.sl [.str]]) rfl bP8 r31
 obtain⟨u32,g32,r32⟩:=h.at (j:=32) rfl
 obtain⟨a32,c32,x32,rfl,p32⟩:=ai0 (α:=Bool) (es:=[.bool]) rfl bT0 r32
 obtain⟨u33,g33,r33⟩:=h.at (j:=33) rfl
 obtain⟨x33,rfl,p33⟩:=r33.int_inv
 obtain⟨u34,g34,r34⟩:=h.at (j:=34) rfl
 obtain⟨x34,rfl⟩:=r34.bool_inv
 obtain⟨u35,g35,r35⟩:=h.at (j:=35) rfl
 obtain⟨x35,rfl⟩:=r35.bool_inv
 obtain⟨u36,g36,r36⟩:=h.at (j:=36) rfl
 obtain⟨x36,rfl,p36⟩:=r36.int_inv
 obtain⟨u37,g37,r37⟩:=h.at (j:=37) rfl
 obtain⟨x37,rfl,p37⟩:=r37.int_inv
 obtain⟨u38,g38,r38⟩:=h.at (j:=38) rfl
 obtain⟨a38,c38,x38,rfl,p38⟩:=ai0 (α:=Int) (es:=[.int]) rfl aP8 r38
 obtain⟨u39,g39,r39⟩:=h.at (j:=39) rfl
 obtain⟨x39,rfl⟩:=r39.bool_inv
 obtain⟨u40,g40,r40⟩:=h.at (j:=40) rfl
 obtain⟨a40,c40,x40,rfl,p40⟩:=ai0 (α:=V8) (es:=[.int,.int,.int]) rfl bS5 r40
 obtain⟨u41,g41,r41⟩:=h.at (j:=41) rfl
 obtain⟨a41,c41,x41,rfl,p41⟩:=ai0 (α:=D4) (es:=[.int,.int,.int,.int,.int]) rfl bK4 r41
 obtain⟨u42,g42,r42⟩:=h.at (j:=42) rfl
 obtain⟨a42,c42,x42,rfl,p42⟩:=ai0 (α:=ad2) (es:=[.int,.int,.int]) rfl bW0 r42
 obtain⟨u43,g43,r43⟩:=h.at (j:=43) rfl
 obtain⟨x43,rfl,p43⟩:=r43.int_inv
 obtain⟨u44,g44,r44⟩:=h.at (j:=44) rfl
 obtain⟨a44,c44,x44,rfl,p44⟩:=ai0 (α:=s8) (es:=[.int,.int,.int,.str]) rfl aR9 r44
 obtain⟨u45,g45,r45⟩:=h.at (j:=45) rfl
 obtain⟨a45,c45,x45,rfl,p45⟩:=ai0 (α:=Int) (es:=[.int]) rfl aP8 r45
 obtain⟨u46,g46,r46⟩:=h.at (j:=46) rfl
 obtain⟨x46,rfl,p46⟩:=r46.int_inv
 obtain⟨u47,g47,r47⟩:=h.at (j:=47) rfl
 obtain⟨x47,rfl,p47⟩:=r47.int_inv
 obtain⟨u48,g48,r48⟩:=h.at (j:=48) rfl
 obtain⟨a48,c48,x48,rfl,p48⟩:=ai0 (α:=Int) (es:=[.int]) rfl aP8 r48
 obtain⟨u49,g49,r49⟩:=h.at (j:=49) rfl
 obtain⟨x49,rfl,p49⟩:=r49.int_inv
 obtain⟨u50,g50,r50⟩:=h.at (j:=50) rfl
 obtain⟨x50,rfl,p50⟩:=r50.int_inv
 obtain⟨u51,g51,r51⟩:=h.at (j:=51) rfl
 obtain⟨x51,rfl,p51⟩:=r51.str_inv
 replace p51:x51.size≤9223372036854775807:=by unfold maxLen at p51;omega
 obtain⟨u52,g52,r52⟩:=h.at (j:=52) rfl
 obtain⟨a52,c52,x52,rfl,p52⟩:=ai0 (α:=Int) (es:=[.int]) rfl aP8 r52
 obtain⟨u53,g53,r53⟩:=h.at (j:=53) rfl
 obtain⟨x53,rfl,p53⟩:=r53.int_inv
 obtain⟨u54,g54,r54⟩:=h.at (j:=54) rfl
 obtain⟨a54,c54,x54,rfl,p54⟩:=ai0 (α:=ByteArray) (es:=[.str]) rfl aP9 r54
 obtain⟨u55,g55,r55⟩:=h.at (j:=55) rfl
 obtain⟨a55,c55,x55,rfl,p55⟩:=ai0 (α:=s7) (es:=[.int,.str,.sl [.int],.bool]) rfl bK2 r55
 obtain⟨u56,g56,r56⟩:=h.at (j:=56) rfl
 obtain⟨x56,rfl,p56⟩:=r56.int_inv
 obtain⟨u57,g57,r57⟩:=h.at (j:=57) rfl
 obtain⟨a57,c57,x57,rfl,p57⟩:=ai0 (α:=s8) (es:=[.int,.int,.int,.str]) rfl aR9 r57
 obtain⟨u58,g58,r58⟩:=h.at (j:=58) rfl
 obtain⟨a58,c58,x58,rfl,p58⟩:=ai0 (α:=ByteArray) (es:=[.str]) rfl aP9 r58
 obtain⟨u59,g59,r59⟩:=h.at (j:=59) rfl
 obtain⟨a59,c59,x59,rfl,p59⟩:=ai0 (α:=ByteArray) (es:=[.str]) rfl aP9 r59
 obtain⟨u60,g60,r60⟩:=h.at (j:=60) rfl
 obtain⟨x60,rfl,p60⟩:=r60.int_inv
 refine⟨⟨x0,x1,⟨x2,x3⟩,⟨x4,x5,x6⟩,x7,⟨x8,x9,x10⟩,⟨x11,x12,x13⟩,x14,x15,⟨x16,⟨x17,x18,x19,x20⟩,⟨x21,x22,x23⟩,⟨x24,x25,x26,x27,x28⟩,x29,x30,x31,x32⟩,⟨⟨x33,x34,x35,x36⟩,⟨x37,x38,x39,x40,x41,x42,⟨x43,x44,x45⟩,x46,x47,x48⟩,⟨x49,x50,x51,x52⟩,x53,x54,x55,x56,x57⟩,x58,x59,x60⟩,⟨⟨a7,c7,a14,c14,a15,c15,a16,c16,a19,c19,a29,c29,a30,c30,a31,c31,a32,c32,a38,c38,a40,c40,a41,c41,a42,c42,a44,c44,a45,c45,a48,c48,a52,c52,a54,c54,a55,c55,a57,c57,a58,c58,a59,c59⟩,Z1 hl ?_,⟨p7,p14,p15,p16,p19,p29,p30,p31,p32,p38,p40,p41,p42,p44,p45,p48,p52,p54,p55,p57,p58,p59,⟨p0,p1,⟨p2,p3,trivial⟩,⟨p4,p5,p6,trivial⟩,⟨p8,p9,p10,trivial⟩,⟨p11,p12,p13,trivial⟩,⟨⟨p17,p18,p20,trivial⟩,⟨p21,trivial⟩,⟨p24,p25,p27,p28,trivial⟩,trivial⟩,⟨⟨p33,p36,trivial⟩,⟨p37,⟨p43,trivial⟩,p46,p47,trivial⟩,⟨p49,p50,p51,trivial⟩,p53,p56,trivial⟩,p60,trivial⟩⟩⟩⟩
 intro j y hy
 match j,hy with
 | 0,hy=>cases hy;exact g0
 | 1,hy=>cases hy;exact g1
 | 2,hy=>cases hy;exact g2
 | 3,hy=>cases hy;exact g3
 | 4,hy=>cases hy;exact g4
 | 5,hy=>cases hy;exact g5
 | 6,hy=>cases hy;exact g6
 | 7,hy=>cases hy;exact g7
 | 8,hy=>cases hy;exact g8
 | 9,hy=>cases hy;exact g9
 | 10,hy=>cases hy;exact g10
 | 11,hy=>cases hy;exact g11
 | 12,hy=>cases hy;exact g12
 | 13,hy=>cases hy;exact g13
 | 14,hy=>cases hy;exact g14
 | 15,hy=>cases hy;exact g15
 | 16,hy=>cases hy;exact g16
 | 17,hy=>cases hy;exact g17
 | 18,hy=>cases hy;exact g18
 | 19,hy=>cases hy;exact g19
 | 20,hy=>cases hy;exact g20
 | 21,hy=>cases hy;exact g21
 | 22,hy=>cases hy;exact g22
 | 23,hy=>cases hy;exact g23
 | 24,hy=>cases hy;exact g24
 | 25,hy=>cases hy;exact g25
 | 26,hy=>cases hy;exact g26
 | 27,hy=>cases hy;exact g27
 | 28,hy=>cases hy;exact g28
 | 29,hy=>cases hy;exact g29
 | 30,hy=>cases hy;exact g30
 | 31,hy=>cases hy;exact g31
 | 32,hy=>cases hy;exact g32
 | 33,hy=>cases hy;exact g33
 | 34,hy=>cases hy;exact g34
 | 35,hy=>cases hy;exact g35
 | 36,hy=>cases hy;exact g36
 | 37,hy=>cases hy;exact g37
 | 38,hy=>cases hy;exact g38
 | 39,hy=>cases hy;exact g39
 | 40,hy=>cases hy;exact g40
 | 41,hy=>cases hy;exact g41
 | 42,hy=>cases hy;exact g42
 | 43,hy=>cases hy;exact g43
 | 44,hy=>cases hy;exact g44
 | 45,hy=>cases hy;exact g45
 | 46,hy=>cases hy;exact g46
 | 47,hy=>cases hy;exact g47
 | 48,hy=>cases hy;exact g48
 | 49,hy=>cases hy;exact g49
 | 50,hy=>cases hy;exact g50
 | 51,hy=>cases hy;exact g51
 | 52,hy=>cases hy;exact g52
 | 53,hy=>cases hy;exact g53
 | 54,hy=>cases hy;exact g54
 | 55,hy=>cases hy;exact g55
 | 56,hy=>cases hy;exact g56
 | 57,hy=>cases hy;exact g57
 | 58,hy=>cases hy;exact g58
 | 59,hy=>cases hy;exact g59
 | 60,hy=>cases hy;exact g60
theorem ax4{l:List Int}(hs:RdS B w a c l)(hl:0≤left)(hl2:left≤1048576) :
  Calls Tryz.prog 225 #[.slice a l.length c,.int .i64 left] w (b5 w (.int .i64 (szD left (d9 l)))):=by
 have hmx:=hs.max
 have hln:=f6 l
 obtain⟨n,hn⟩:∃ n,l.length=n:=⟨_,rfl⟩
 rw[hn]at hln hmx
 rw[hn]
 have HN:=lH hn;clear hn
 have htl:d9 l=n:=by rw[← HN.out];clear hs HN hmx hln;induction l with|nil=>rfl|cons x r ih=>simp only[d9,List.length_cons,ih];show 1+0+_=_;omega
 rw[htl];clear htl hln hs
 by_cases h:left - n<0
 ·rw[j8 h]
  go_enter Tryz.func225,Tryz.ntmps225
  go_wp2_with (fail)
  go_ret
  exact b5.mk rfl
 ·rw[B5 h]
  go_enter Tryz.func225,Tryz.ntmps225
  go_wp2_with (fail)
  go_ret
  exact b5.mk rfl
theorem ax3{l:List Int}(hs:RdS B w a c l)(hs2:RdS B2 w a2 c2 l) :
  Calls Tryz.prog 277 #[.slice a l.length c,.slice a2 l.length c2] w (b5 w (.bool true)):=by
 have hmx:=hs.max
 obtain⟨n,hn⟩:∃ n,l.length=n:=⟨_,rfl⟩
 rw[hn]at hmx
 rw[hn]
 have HN:=lH hn;clear hn
 have kn:((n:Int) != (n:Int))=false:=by simp
 go_enter Tryz.func277,Tryz.ntmps277
 go_wp2_with (first|((with_reducible refine rl ?_);(repeat(first|go_big_quiet_step (first|fail)|simp only[kn]));refine wpQuiet_nil ?_;intro x))
 go_loopw [5] (fun v wr=>∃ k:Nat,v=.int .i64 k∧k≤n∧∃ x:b7 w,wr=x.w) (fun v _=>(n - intOf v).toNat)
 case atStart=>exact⟨0,rfl,by omega,b7.of⟩
 case round =>
  obtain⟨k,rfl,hk,x,rfl⟩:=hrel
  by_cases h:k<n
  ·have hlk:k<l.length:=by have:=HN.out;omega
   obtain⟨eb,eoff,ex,rfl,ehb,ehd,eok,eh0⟩:=hs.atInt (show k<l.length by omega)
   obtain⟨fb,foff,fx,rfl,fhb,fhd,fok,fh0⟩:=hs2.atInt (show k<l.length by omega)
   obtain rfl:ex=fx:=by have:=ehd.out.symm.trans fhd.out;simpa using this
   clear ehd fhd hlk hs hs2
   have k2:(ex != ex)=false:=by simp
   go_wp2_with (first|((with_reducible refine rl ?_);(repeat(first|go_big_quiet_step (first|fail)|simp only[k2]));refine wpQuiet_nil ?_;intro x))
   go_roundw
   case rel=>exact⟨k+1,by go_num,by omega,b7.of⟩
   case measure=>simp[intOf];omega
  ·go_wp2_with (first|((with_reducible refine rl ?_);refine rq ?_;intro x))
   go_ret
   exact b5.mk rfl
theorem bH0{l:List Bool}(hs:RdS B w a c l)(hl:0≤left)(hl2:left≤1048576) :
  Calls Tryz.prog 92 #[.slice a l.length c,.int .i64 left] w (b5 w (.int .i64 (szD left (d9 l)))):=by
 have hmx:=hs.max
 have hln:=f6 l
 obtain⟨n,hn⟩:∃ n,l.length=n:=⟨_,rfl⟩
 rw[hn]at hln hmx
 rw[hn]
 have HN:=lH hn;clear hn
 have htl:d9 l=n:=by rw[← HN.out];clear hs HN hmx hln;induction l with|nil=>rfl|cons x r ih=>simp only[d9,List.length_cons,ih];show 1+0+_=_;omega
 rw[htl];clear htl hln hs
 by_cases h:left - n<0
 ·rw[j8 h]
  go_enter Tryz.func92,Tryz.ntmps92
  go_wp2_with (fail)
  go_ret
  exact b5.mk rfl
 ·rw[B5 h]
  go_enter Tryz.func92,Tryz.ntmps92
  go_wp2_with (fail)
  go_ret
  exact b5.mk rfl
theorem bF9{l:List Bool}(hs:RdS B w a c l)(hs2:RdS B2 w a2 c2 l) :
  Calls Tryz.prog 174 #[.slice a l.length c,.slice a2 l.length c2] w (b5 w (.bool true)):=by
 have hmx:=hs.max
 obtain⟨n,hn⟩:∃ n,l.length=n:=⟨_,rfl⟩
 rw[hn]at hmx
 rw[hn]
 have HN:=lH hn;clear hn
 have kn:((n:Int) != (n:Int))=false:=by simp
 go_enter Tryz.func174,Tryz.ntmps174
 go_wp2_with (first|((with_reducible refine rl ?_);(repeat(first|go_big_quiet_step (first|fail)|simp only[kn]));refine wpQuiet_nil ?_;intro x))
 go_loopw [5] (fun v wr=>∃ k:Nat,v=.int .i64 k∧k≤n∧∃ x:b7 w,wr=x.w) (fun v _=>(n - intOf v).toNat)
 case atStart=>exact⟨0,rfl,by omega,b7.of⟩
 case round =>
  obtain⟨k,rfl,hk,x,rfl⟩:=hrel
  by_cases h:k<n
  ·have hlk:k<l.length:=by have:=HN.out;omega
   obtain⟨eb,eoff,ex,rfl,ehb,ehd,eh0⟩:=hs.atBool (show k<l.length by omega)
   obtain⟨fb,foff,fx,rfl,fhb,fhd,fh0⟩:=hs2.atBool (show k<l.length by omega)
   obtain rfl:ex=fx:=by have:=ehd.out.symm.trans fhd.out;simpa using this
   clear ehd fhd hlk hs hs2
   have k2:(ex != ex)=false:=by simp
   go_wp2_with (first|((with_reducible refine rl ?_);(repeat(first|go_big_quiet_step (first|fail)|simp only[k2]));refine wpQuiet_nil ?_;intro x))
   go_roundw
   case rel=>exact⟨k+1,by go_num,by omega,b7.of⟩
   case measure=>simp[intOf];omega
  ·go_wp2_with (first|((with_reducible refine rl ?_);refine rq ?_;intro x))
   go_ret
   exact b5.mk rfl
theorem an7{l:List ByteArray}(hs:RdS B w a c l)(hl:0≤left)(hl2:left≤1048576) :
  Calls Tryz.prog 18 #[.slice a l.length c,.int .i64 left] w (b5 w (.int .i64 (szD left (d9 l)))):=by
 have hmx:=hs.max
 have hln:=f6 l
 obtain⟨n,hn⟩:∃ n,l.length=n:=⟨_,rfl⟩
 rw[hn]at hln hmx
 rw[hn]
 have HN:=lH hn;clear hn
 by_cases h:left - n<0
 ·have HV:=lH (show szD left (d9 l)=-1 from j8 om)
  go_enter Tryz.func18,Tryz.ntmps18
  go_wp2_with (fail)
  go_ret
  exact b5.mk (by rw[HV.out];rfl)
 ·go_enter Tryz.func18,Tryz.ntmps18
  go_wp2_with (fail)
  go_loopw [1,5] (fun u v wr=>∃ (k:Nat) (r:Int),v=.int .i64 k∧u=.int .i64 r∧k≤n∧0≤r∧r≤1048576∧Hid (r - d9 (l.drop k)+(n - k)=left - d9 l)∧∃ x:b7 w,wr=x.w) (fun _ v _=>(n - intOf v).toNat)
  case atStart=>exact⟨0,left - n,rfl,by go_num,by omega,by omega,by omega,by unfold Hid;rw[List.drop_zero];omega,b7.of⟩
  case round =>
   obtain⟨k,r,rfl,rfl,hk,hr,hr2,hf,x,rfl⟩:=hrel
   by_cases h2:k<n
   ·have hlk:k<l.length:=by have:=HN.out;omega
    obtain⟨eb,eoff,ex,rfl,ehb,ehd,eok,eh0⟩:=hs.atStr (show k<l.length by omega)
    have hd2:=f6 (l.drop (k+1))
    have HD2:=lH (show((n:Int) - k - 1≤d9 (l.drop (k+1)))by rw[List.length_drop,HN.out]at hd2;omega);clear hd2 hlk
    have ht0:=Enc.tot_nonneg ex
    obtain⟨t,htt⟩:∃ t,Enc.tot ex=t:=⟨_,rfl⟩
    have hf2:Hid (r - (1+t+d9 (l.drop (k+1)))+(n - k)=left - d9 l):=by
     have:=hf.out;rw[ehd.out]at this;rw[← htt];exact this
    rw[htt]at ht0
    have HTT:=lH htt;clear htt hf
    have hts:(ex.size:Int)=t:=HTT.out
    have HTS:=lH hts;clear hts
    by_cases h3:r - ex.size<0
    ·have HV:=lH (show szD left (d9 l)=-1 from j8 (by have h7:=hf2.out;have h8:=HD2.out;have h9:=HTS.out;omega))
     go_wp2_with (fail)
     go_ret
     exact b5.mk (by rw[HV.out];rfl)
    ·go_wp2_with (fail)
     go_roundw
     case rel=>exact⟨k+1,r - ex.size,by go_num,by go_num,by omega,by omega,by omega,by have h7:=hf2.out;have h9:=HTS.out;unfold Hid;omega,b7.of⟩
     case measure=>simp[intOf];omega
   ·have HV:=lH (show szD left (d9 l)=r by
     have h7:=hf.out
     rw[List.drop_of_length_le (by have:=HN.out;omega)]at h7
     simp only[d9]at h7
     rw[B5 om];omega)
    go_wp2_with (fail)
    go_ret
    exact b5.mk (by rw[HV.out];rfl)
theorem an6{l:List ByteArray}(hs:RdS B w a c l)(hs2:RdS B2 w a2 c2 l) :
  Calls Tryz.prog 50 #[.slice a l.length c,.slice a2 l.length c2] w (b5 w (.bool true)):=by
 have hmx:=hs.max
 obtain⟨n,hn⟩:∃ n,l.length=n:=⟨_,rfl⟩
 rw[hn]at hmx
 rw[hn]
 have HN:=lH hn;clear hn
 have kn:((n:Int) != (n:Int))=false:=by simp
 go_enter Tryz.func50,Tryz.ntmps50
 go_wp2_with (first|((with_reducible refine rl ?_);(repeat(first|go_big_quiet_step (first|fail)|simp only[kn]));refine wpQuiet_nil ?_;intro x))
 go_loopw [5] (fun v wr=>∃ k:Nat,v=.int .i64 k∧k≤n∧∃ x:b7 w,wr=x.w) (fun v _=>(n - intOf v).toNat)
 case atStart=>exact⟨0,rfl,by omega,b7.of⟩
 case round =>
  obtain⟨k,rfl,hk,x,rfl⟩:=hrel
  by_cases h:k<n
  ·have hlk:k<l.length:=by have:=HN.out;omega
   obtain⟨eb,eoff,ex,rfl,ehb,ehd,eok,eh0⟩:=hs.atStr (show k<l.length by omega)
   obtain⟨fb,foff,fx,rfl,fhb,fhd,fok,fh0⟩:=hs2.atStr (show k<l.length by omega)
   obtain rfl:ex=fx:=by have:=ehd.out.symm.trans fhd.out;simpa using this
   clear ehd fhd hlk hs hs2
   have k2:(ex.toList != ex.toList)=false:=by simp
   go_wp2_with (first|((with_reducible refine rl ?_);(repeat(first|go_big_quiet_step (first|fail)|simp only[k2]));refine wpQuiet_nil ?_;intro x))
   go_roundw
   case rel=>exact⟨k+1,by go_num,by omega,b7.of⟩
   case measure=>simp[intOf];omega
  ·go_wp2_with (first|((with_reducible refine rl ?_);refine rq ?_;intro x))
   go_ret
   exact b5.mk rfl
theorem by8{x:Q8}(h:Enc.Rd B w vs x)(hl:0≤left)(hl2:left≤1048576) :
  Calls Tryz.prog 94 #[.agg vs.toArray,.int .i64 left] w (b5 w (.int .i64 (szD left (Enc.tot x)))):=by
 obtain⟨a0,c0,rfl,q0,hok⟩:=h
 have n0:(0:Int)≤x.Rest.size:=by omega
 have z0:x.Rest.size≤9223372036854775807:=hok.2.2.1
 have n1:=d6 x.Starts
 have HOK:=lH hok;clear hok
 have htot:Enc.tot x=(x.Rest.size:Int)+d9 x.Starts:=rfl
 have HTOT:=lH htot;clear htot
 go_enter Tryz.func94,Tryz.ntmps94
 by_cases h0:left - (x.Rest.size:Int)<0
 ·have HV:=lH (show szD left (Enc.tot x)=-1 from j8 (by rw[HTOT.out];omega))
  go_wp2_with (fail)
  go_ret
  exact b5.mk (by rw[HV.out];rfl)
 go_wp2_with (fail)
 refine gm (ax4 (q0.keep ii) om om) ?_
 intro y1
 by_cases h1:left - (x.Rest.size:Int) - d9 x.Starts<0
 ·have HV:=lH (show szD left (Enc.tot x)=-1 from j8 (by rw[HTOT.out];omega))
  rw[j8 h1]
  go_wp2_with (fail)
  go_ret
  exact b5.mk (by rw[HV.out];rfl)
 rw[B5 h1]
 have HV:=lH (show szD left (Enc.tot x)=left - (x.Rest.size:Int) - d9 x.Starts by rw[B5 (by rw[HTOT.out];omega),HTOT.out]<;>omega)
 go_wp2_with (fail)
 go_ret
 exact b5.mk (by rw[HV.out];rfl)
theorem by1{x:Q8}(h:Enc.Rd B w vs x)(h2:Enc.Rd B2 w vs2 x) :
  Calls Tryz.prog 177 #[.agg vs.toArray,.agg vs2.toArray] w (b5 w (.bool true)):=by
 obtain⟨a0,c0,rfl,q0,hok⟩:=h
 obtain⟨ma0,mc0,rfl,mq0,-⟩:=h2
 have HOK:=lH hok;clear hok
 go_enter Tryz.func177,Tryz.ntmps177
 go_wp2_with (fail)
 refine gm (ax3 (q0.keep ii) (mq0.keep ii)) ?_
 intro y0
 go_wp2_with (fail)
 go_ret
 exact b5.mk rfl
theorem bz0{x:E8}(h:Enc.Rd B w vs x)(hl:0≤left)(hl2:left≤1048576) :
  Calls Tryz.prog 87 #[.agg vs.toArray,.int .i64 left] w (b5 w (.int .i64 (szD left (Enc.tot x)))):=by
 obtain⟨a0,c0,rfl,q0,hok⟩:=h
 have n0:=d6 x.Waiting
 have HOK:=lH hok;clear hok
 have htot:Enc.tot x=d9 x.Waiting:=rfl
 have HTOT:=lH htot;clear htot
 go_enter Tryz.func87,Tryz.ntmps87
 go_wp2_with (fail)
 refine gm (bH3 (q0.keep ii) om om) ?_
 intro y0
 by_cases h0:left - d9 x.Waiting<0
 ·have HV:=lH (show szD left (Enc.tot x)=-1 from j8 (by rw[HTOT.out];omega))
  rw[j8 h0]
  go_wp2_with (fail)
  go_ret
  exact b5.mk (by rw[HV.out];rfl)
 rw[B5 h0]
 have HV:=lH (show szD left (Enc.tot x)=left - d9 x.Waiting by rw[B5 (by rw[HTOT.out];omega),HTOT.out]<;>omega)
 go_wp2_with (fail)
 go_ret
 exact b5.mk (by rw[HV.out];rfl)
theorem by3{x:E8}(h:Enc.Rd B w vs x)(h2:Enc.Rd B2 w vs2 x) :
  Calls Tryz.prog 168 #[.agg vs.toArray,.agg vs2.toArray] w (b5 w (.bool true)):=by
 obtain⟨a0,c0,rfl,q0,hok⟩:=h
 obtain⟨ma0,mc0,rfl,mq0,-⟩:=h2
 have HOK:=lH hok;clear hok
 go_enter Tryz.func168,Tryz.ntmps168
 go_wp2_with (fail)
 refine gm (bG6 (q0.keep ii) (mq0.keep ii)) ?_
 intro y0
 go_wp2_with (fail)
 go_ret
 exact b5.mk rfl
theorem bh7{x:I9}(h:Enc.Rd B w vs x)(hl:0≤left)(hl2:left≤1048576) :
  Calls Tryz.prog 229 #[.agg vs.toArray,.int .i64 left] w (b5 w (.int .i64 (szD left (Enc.tot x)))):=by
 obtain⟨a0,c0,a1,c1,rfl,q0,q1,hok⟩:=h
 have n0:=d6 x.Records
 have n1:=d6 x.Dropped
 have HOK:=lH hok;clear hok
 have htot:Enc.tot x=d9 x.Records+d9 x.Dropped:=rfl
 have HTOT:=lH htot;clear htot
 go_enter Tryz.func229,Tryz.ntmps229
 go_wp2_with (fail)
 refine gm (ay7 (q0.keep ii) om om) ?_
 intro y0
 by_cases h0:left - d9 x.Records<0
 ·have HV:=lH (show szD left (Enc.tot x)=-1 from j8 (by rw[HTOT.out];omega))
  rw[j8 h0]
  go_wp2_with (fail)
  go_ret
  exact b5.mk (by rw[HV.out];rfl)
 rw[B5 h0]
 go_wp2_with (fail)
 refine gm (ax4 (q1.keep ii) om om) ?_
 intro y1
 by_cases h1:left - d9 x.Records - d9 x.Dropped<0
 ·have HV:=lH (show szD left (Enc.tot x)=-1 from j8 (by rw[HTOT.out];omega))
  rw[j8 h1]
  go_wp2_with (fail)
  go_ret
  exact b5.mk (by rw[HV.out];rfl)
 rw[B5 h1]
 have HV:=lH (show szD left (Enc.tot x)=left - d9 x.Records - d9 x.Dropped by rw[B5 (by rw[HTOT.out];omega),HTOT.out]<;>omega)
 go_wp2_with (fail)
 go_ret
 exact b5.mk (by rw[HV.out];rfl)
theorem bh3{x:I9}(h:Enc.Rd B w vs x)(h2:Enc.Rd B2 w vs2 x) :
  Calls Tryz.prog 281 #[.agg vs.toArray,.agg vs2.toArray] w (b5 w (.bool true)):=by
 obtain⟨a0,c0,a1,c1,rfl,q0,q1,hok⟩:=h
 obtain⟨ma0,mc0,ma1,mc1,rfl,mq0,mq1,-⟩:=h2
 have HOK:=lH hok;clear hok
 go_enter Tryz.func281,Tryz.ntmps281
 go_wp2_with (fail)
 refine gm (ay6 (q0.keep ii) (mq0.keep ii)) ?_
 intro y0
 go_wp2_with (fail)
 refine gm (ax3 (q1.keep ii) (mq1.keep ii)) ?_
 intro y1
 go_wp2_with (fail)
 go_ret
 exact b5.mk rfl
theorem by4{x:A8}(h:Enc.Rd B w vs x)(hl:0≤left)(hl2:left≤1048576) :
  Calls Tryz.prog 224 #[.agg vs.toArray,.int .i64 left] w (b5 w (.int .i64 (szD left (Enc.tot x)))):=by
 obtain⟨a0,c0,rfl,q0,hok⟩:=h
 have n0:=d6 x.Parts
 have HOK:=lH hok;clear hok
 have htot:Enc.tot x=d9 x.Parts:=rfl
 have HTOT:=lH htot;clear htot
 go_enter Tryz.func224,Tryz.ntmps224
 go_wp2_with fail
 refine gm (an7 (q0.keep ii) om om) ?_
 intro y0
 by_cases h0:left - d9 x.Parts<0
 ·have HV:=lH (show szD left (Enc.tot x)=-1 from j8 (by rw[HTOT.out];omega))
  rw[j8 h0]
  go_wp2_with fail
  go_ret
  exact b5.mk (by rw[HV.out];rfl)
 rw[B5 h0]
 have HV:=lH (show szD left (Enc.tot x)=left - d9 x.Parts by rw[B5 (by rw[HTOT.out];omega),HTOT.out]<;>omega)
 go_wp2_with fail
 go_ret
 exact b5.mk (by rw[HV.out];rfl)
theorem bx6{x:A8}(h:Enc.Rd B w vs x)(h2:Enc.Rd B2 w vs2 x) :
  Calls Tryz.prog 276 #[.agg vs.toArray,.agg vs2.toArray] w (b5 w (.bool true)):=by
 obtain⟨a0,c0,rfl,q0,hok⟩:=h
 obtain⟨ma0,mc0,rfl,mq0,-⟩:=h2
 have HOK:=lH hok;clear hok
 go_enter Tryz.func276,Tryz.ntmps276
 go_wp2_with fail
 refine gm (an6 (q0.keep ii) (mq0.keep ii)) ?_
 intro y0
 go_wp2_with fail
 go_ret
 exact b5.mk rfl
theorem bq4{l:List A8}(hs:RdS B w a c l)(hl:0≤left)(hl2:left≤1048576) :
  Calls Tryz.prog 91 #[.slice a l.length c,.int .i64 left] w (b5 w (.int .i64 (szD left (d9 l)))):=by
 have hmx:=hs.max
 have hln:=f6 l
 obtain⟨n,hn⟩:∃ n,l.length=n:=⟨_,rfl⟩
 rw[hn]at hln hmx
 rw[hn]
 have HN:=lH hn;clear hn
 by_cases h:left - n<0
 ·have HV:=lH (show szD left (d9 l)=-1 from j8 om)
  go_enter Tryz.func91,Tryz.ntmps91
  go_wp2_with fail
  go_ret
  exact b5.mk (by rw[HV.out];rfl)
 ·go_enter Tryz.func91,Tryz.ntmps91
  go_wp2_with fail
  go_loopw [1,5] (fun u v wr=>∃ (k:Nat) (r:Int),v=.int .i64 k∧u=.int .i64 r∧k≤n∧0≤r∧r≤1048576∧Hid (r - d9 (l.drop k)+(n - k)=left - d9 l)∧∃ x:b7 w,wr=x.w) (fun _ v _=>(n - intOf v).toNat)
  case atStart=>exact⟨0,left - n,rfl,by go_num,by omega,by omega,by omega,by unfold Hid;rw[List.drop_zero];omega,b7.of⟩
  case round =>
   obtain⟨k,r,rfl,rfl,hk,hr,hr2,hf,x,rfl⟩:=hrel
   by_cases h2:k<n
   ·have hlk:k<l.length:=by have:=HN.out;omega
    obtain⟨eb,eoff,ex,ea0,ec0,rfl,ehb,ehd,eq0,eok,eh0,eh1,eh2,eh3⟩:=hs.atTFileIn (show k<l.length by omega)
    have hd2:=f6 (l.drop (k+1))
    have HD2:=lH (show((n:Int) - k - 1≤d9 (l.drop (k+1)))by rw[List.length_drop,HN.out]at hd2;omega);clear hd2 hlk
    have ht0:=Enc.tot_nonneg ex
    obtain⟨t,htt⟩:∃ t,Enc.tot ex=t:=⟨_,rfl⟩
    have hf2:Hid (r - (1+t+d9 (l.drop (k+1)))+(n - k)=left - d9 l):=by
     have:=hf.out;rw[ehd.out]at this;rw[← htt];exact this
    rw[htt]at ht0
    have HTT:=lH htt;clear htt hf
    have HEOK:=lH eok;clear eok
    go_wp2_with fail
    refine gm (by4 (x:=ex) ⟨ea0,ec0,rfl,eq0.keep ii,HEOK.out⟩ om om) ?_
    intro y
    rw[HTT.out]
    by_cases h3:r - t<0
    ·have HV:=lH (show szD left (d9 l)=-1 from j8 (by have h7:=hf2.out;have h8:=HD2.out;omega))
     rw[j8 h3]
     go_wp2_with fail
     go_ret
     exact b5.mk (by rw[HV.out];rfl)
    ·rw[B5 h3]
     go_wp2_with fail
     go_roundw
     case rel=>exact⟨k+1,r - t,by go_num,by go_num,by omega,by omega,by omega,by have h7:=hf2.out;unfold Hid;omega,b7.of⟩
     case measure=>simp[intOf];omega
   ·have HV:=lH (show szD left (d9 l)=r by
     have h7:=hf.out
     rw[List.drop_of_length_le (by have:=HN.out;omega)]at h7
     simp only[d9]at h7
     rw[B5 om];omega)
    go_wp2_with fail
    go_ret
    exact b5.mk (by rw[HV.out];rfl)
theorem bq1{l:List A8}(hs:RdS B w a c l)(hs2:RdS B2 w a2 c2 l) :
  Calls Tryz.prog 173 #[.slice a l.length c,.slice a2 l.length c2] w (b5 w (.bool true)):=by
 have hmx:=hs.max
 obtain⟨n,hn⟩:∃ n,l.length=n:=⟨_,rfl⟩
 rw[hn]at hmx
 rw[hn]
 have HN:=lH hn;clear hn
 have kn:((n:Int) != (n:Int))=false:=by simp
 go_enter Tryz.func173,Tryz.ntmps173
 go_wp2_with fail
 go_loopw [5] (fun v wr=>∃ k:Nat,v=.int .i64 k∧k≤n∧∃ x:b7 w,wr=x.w) (fun v _=>(n - intOf v).toNat)
 case atStart=>exact⟨0,rfl,by omega,b7.of⟩
 case round =>
  obtain⟨k,rfl,hk,x,rfl⟩:=hrel
  by_cases h:k<n
  ·have hlk:k<l.length:=by have:=HN.out;omega
   obtain⟨eb,eoff,ex,ea0,ec0,rfl,ehb,ehd,eq0,eok,eh0,eh1,eh2,eh3⟩:=hs.atTFileIn (show k<l.length by omega)
   obtain⟨fb,foff,fx,fa0,fc0,rfl,fhb,fhd,fq0,fok,fh0,fh1,fh2,fh3⟩:=hs2.atTFileIn (show k<l.length by omega)
   obtain rfl:ex=fx:=by have:=ehd.out.symm.trans fhd.out;simpa using this
   clear ehd fhd hlk hs hs2
   have ce:∀ {W:World} [b8 w W],Calls Tryz.prog 276 #[.agg #[.int .i64 ex.File,.int .i64 ex.Size,.int .i64 ex.Check,.slice ea0 ex.Parts.length ec0],.agg #[.int .i64 ex.File,.int .i64 ex.Size,.int .i64 ex.Check,.slice fa0 ex.Parts.length fc0]] W (b5 W (.bool true)):=fun {W} _=>bx6 (x:=ex) ⟨ea0,ec0,rfl,eq0.keep ii,eok⟩ ⟨fa0,fc0,rfl,fq0.keep ii,fok⟩
   clear eok fok eq0 fq0
   go_wp2_with (first|((with_reducible refine rl ?_);(repeat(first|go_big_quiet_step (first|(go_at_call 276;exact b5.quiet (ce)))));refine wpQuiet_nil ?_;intro x)|(go_at_call 276;refine gm (ce) ?_;intro x))
   go_roundw
   case rel=>exact⟨k+1,by go_num,by omega,b7.of⟩
   case measure=>simp[intOf];omega
  ·go_wp2_with fail
   go_ret
   exact b5.mk rfl
theorem bq5{x:s7}(h:Enc.Rd B w vs x)(hl:0≤left)(hl2:left≤1048576) :
  Calls Tryz.prog 230 #[.agg vs.toArray,.int .i64 left] w (b5 w (.int .i64 (szD left (Enc.tot x)))):=by
 obtain⟨a0,c0,rfl,q0,hok⟩:=h
 have n0:(0:Int)≤x.Data.size:=by omega
 have z0:x.Data.size≤9223372036854775807:=hok.2.1
 have n1:=d6 x.Queue
 have HOK:=lH hok;clear hok
 have htot:Enc.tot x=(x.Data.size:Int)+d9 x.Queue:=rfl
 have HTOT:=lH htot;clear htot
 go_enter Tryz.func230,Tryz.ntmps230
 by_cases h0:left - (x.Data.size:Int)<0
 ·have HV:=lH (show szD left (Enc.tot x)=-1 from j8 (by rw[HTOT.out];omega))
  go_wp2_with fail
  go_ret
  exact b5.mk (by rw[HV.out];rfl)
 go_wp2_with fail
 refine gm (ax4 (q0.keep ii) om om) ?_
 intro y1
 by_cases h1:left - (x.Data.size:Int) - d9 x.Queue<0
 ·have HV:=lH (show szD left (Enc.tot x)=-1 from j8 (by rw[HTOT.out];omega))
  rw[j8 h1]
  go_wp2_with fail
  go_ret
  exact b5.mk (by rw[HV.out];rfl)
 rw[B5 h1]
 have HV:=lH (show szD left (Enc.tot x)=left - (x.Data.size:Int) - d9 x.Queue by rw[B5 (by rw[HTOT.out];omega),HTOT.out]<;>omega)
 go_wp2_with fail
 go_ret
 exact b5.mk (by rw[HV.out];rfl)
theorem bq2{x:s7}(h:Enc.Rd B w vs x)(h2:Enc.Rd B2 w vs2 x) :
  Calls Tryz.prog 282 #[.agg vs.toArray,.agg vs2.toArray] w (b5 w (.bool true)):=by
 obtain⟨a0,c0,rfl,q0,hok⟩:=h
 obtain⟨ma0,mc0,rfl,mq0,-⟩:=h2
 have HOK:=lH hok;clear hok
 go_enter Tryz.func282,Tryz.ntmps282
 go_wp2_with fail
 refine gm (ax3 (q0.keep ii) (mq0.keep ii)) ?_
 intro y0
 go_wp2_with fail
 go_ret
 exact b5.mk rfl
theorem bh6{l:List s7}(hs:RdS B w a c l)(hl:0≤left)(hl2:left≤1048576) :
  Calls Tryz.prog 95 #[.slice a l.length c,.int .i64 left] w (b5 w (.int .i64 (szD left (d9 l)))):=by
 have hmx:=hs.max
 have hln:=f6 l
 obtain⟨n,hn⟩:∃ n,l.length=n:=⟨_,rfl⟩
 rw[hn]at hln hmx
 rw[hn]
 have HN:=lH hn;clear hn
 by_cases h:left - n<0
 ·have HV:=lH (show szD left (d9 l)=-1 from j8 om)
  go_enter Tryz.func95,Tryz.ntmps95
  go_wp2_with fail
  go_ret
  exact b5.mk (by rw[HV.out];rfl)
 ·go_enter Tryz.func95,Tryz.ntmps95
  go_wp2_with fail
  go_loopw [1,5] (fun u v wr=>∃ (k:Nat) (r:Int),v=.int .i64 k∧u=.int .i64 r∧k≤n∧0≤r∧r≤1048576∧Hid (r - d9 (l.drop k)+(n - k)=left - d9 l)∧∃ x:b7 w,wr=x.w) (fun _ v _=>(n - intOf v).toNat)
  case atStart=>exact⟨0,left - n,rfl,by go_num,by omega,by omega,by omega,by unfold Hid;rw[List.drop_zero];omega,b7.of⟩
  case round =>
   obtain⟨k,r,rfl,rfl,hk,hr,hr2,hf,x,rfl⟩:=hrel
   by_cases h2:k<n
   ·have hlk:k<l.length:=by have:=HN.out;omega
    obtain⟨eb,eoff,ex,ea0,ec0,rfl,ehb,ehd,eq0,eok,eh0,eh1,eh2,eh3⟩:=hs.atTFileOut (show k<l.length by omega)
    have hd2:=f6 (l.drop (k+1))
    have HD2:=lH (show((n:Int) - k - 1≤d9 (l.drop (k+1)))by rw[List.length_drop,HN.out]at hd2;omega);clear hd2 hlk
    have ht0:=Enc.tot_nonneg ex
    obtain⟨t,htt⟩:∃ t,Enc.tot ex=t:=⟨_,rfl⟩
    have hf2:Hid (r - (1+t+d9 (l.drop (k+1)))+(n - k)=left - d9 l):=by
     have:=hf.out;rw[ehd.out]at this;rw[← htt];exact this
    rw[htt]at ht0
    have HTT:=lH htt;clear htt hf
    have HEOK:=lH eok;clear eok
    go_wp2_with fail
    refine gm (bq5 (x:=ex) ⟨ea0,ec0,rfl,eq0.keep ii,HEOK.out⟩ om om) ?_
    intro y
    rw[HTT.out]
    by_cases h3:r - t<0
    ·have HV:=lH (show szD left (d9 l)=-1 from j8 (by have h7:=hf2.out;have h8:=HD2.out;omega))
     rw[j8 h3]
     go_wp2_with fail
     go_ret
     exact b5.mk (by rw[HV.out];rfl)
    ·rw[B5 h3]
     go_wp2_with fail
     go_roundw
     case rel=>exact⟨k+1,r - t,by go_num,by go_num,by omega,by omega,by omega,by have h7:=hf2.out;unfold Hid;omega,b7.of⟩
     case measure=>simp[intOf];omega
   ·have HV:=lH (show szD left (d9 l)=r by
     have h7:=hf.out
     rw[List.drop_of_length_le (by have:=HN.out;omega)]at h7
     simp only[d9]at h7
     rw[B5 om];omega)
    go_wp2_with fail
    go_ret
    exact b5.mk (by rw[HV.out];rfl)
theorem bh1{l:List s7}(hs:RdS B w a c l)(hs2:RdS B2 w a2 c2 l) :
  Calls Tryz.prog 178 #[.slice a l.length c,.slice a2 l.length c2] w (b5 w (.bool true)):=by
 have hmx:=hs.max
 obtain⟨n,hn⟩:∃ n,l.length=n:=⟨_,rfl⟩
 rw[hn]at hmx
 rw[hn]
 have HN:=lH hn;clear hn
 have kn:((n:Int) != (n:Int))=false:=by simp
 go_enter Tryz.func178,Tryz.ntmps178
 go_wp2_with fail
 go_loopw [5] (fun v wr=>∃ k:Nat,v=.int .i64 k∧k≤n∧∃ x:b7 w,wr=x.w) (fun v _=>(n - intOf v).toNat)
 case atStart=>exact⟨0,rfl,by omega,b7.of⟩
 case round =>
  obtain⟨k,rfl,hk,x,rfl⟩:=hrel
  by_cases h:k<n
  ·have hlk:k<l.length:=by have:=HN.out;omega
   obtain⟨eb,eoff,ex,ea0,ec0,rfl,ehb,ehd,eq0,eok,eh0,eh1,eh2,eh3⟩:=hs.atTFileOut (show k<l.length by omega)
   obtain⟨fb,foff,fx,fa0,fc0,rfl,fhb,fhd,fq0,fok,fh0,fh1,fh2,fh3⟩:=hs2.atTFileOut (show k<l.length by omega)
   obtain rfl:ex=fx:=by have:=ehd.out.symm.trans fhd.out;simpa using this
   clear ehd fhd hlk hs hs2
   have ce:∀ {W:World} [b8 w W],Calls Tryz.prog 282 #[.agg #[.int .i64 ex.File,.string ex.Data,.slice ea0 ex.Queue.length ec0,.bool ex.Done],.agg #[.int .i64 ex.File,.string ex.Data,.slice fa0 ex.Queue.length fc0,.bool ex.Done]] W (b5 W (.bool true)):=fun {W} _=>bq2 (x:=ex) ⟨ea0,ec0,rfl,eq0.keep ii,eok⟩ ⟨fa0,fc0,rfl,fq0.keep ii,fok⟩
   clear eok fok eq0 fq0
   go_wp2_with (first|((with_reducible refine rl ?_);(repeat(first|go_big_quiet_step (first|(go_at_call 282;exact b5.quiet (ce)))));refine wpQuiet_nil ?_;intro x)|(go_at_call 282;refine gm (ce) ?_;intro x))
   go_roundw
   case rel=>exact⟨k+1,by go_num,by omega,b7.of⟩
   case measure=>simp[intOf];omega
  ·go_wp2_with fail
   go_ret
   exact b5.mk rfl
@[go_sem] theorem bZ3(n:Int):(aF3 n).size=1:=rfl
@[go_sem] theorem bZ4(n:Int):(aF4 n).size=2:=rfl
def bV2(m n:Int):ByteArray:=if m=1 then aF3 n else aF4 n
@[go_sem] theorem bZ9(n:Int):bV2 1 n=aF3 n:=rfl
@[go_sem] theorem ca1(n:Int):bV2 2 n=aF4 n:=rfl
theorem bc3:∀ (k:Nat) {n:Int},0≤n→n≤65535→0≤ag0 k n∧ag0 k n≤65535
 | 0,n,h0,h1=>⟨h0,h1⟩
 | k+1,n,h0,h1=>bc3 k (aF7 h0 h1).1 (aF7 h0 h1).2
theorem bR4:∀ (l:List Int) {n:Int},(∀ b∈l,0≤b∧b≤255)→0≤n→n≤65535→0≤crc n l∧crc n l≤65535
 | [],n,_,h0,h1=>by rw[bq0];exact⟨h0,h1⟩
 | b::l,n,h,h0,h1=>by
  rw[bc4]
  have hb:=h b si
  have hx:=bv7 h0 h1 (show 0≤256*b by omega) (show 256*b≤65535 by omega)
  have hc:=bc3 8 hx.1 hx.2
  exact bR4 l (fun c hc=>h c (by simp[hc])) hc.1 hc.2
theorem bb8(s:ByteArray):0≤ak5 s∧ak5 s≤65535:=by
 rw[aK5]
 refine bR4 _ (fun b hb=>?_) om om
 obtain⟨u,-,rfl⟩:=List.mem_map.1 hb
 have:=u.toNat_lt
 omega
def aw8(f k:Int)(s:ByteArray):ByteArray:=if (inB f 0 7 && (inB k 0 24 && inB s.size 1 24))=true then aF3 0++aF3 f++aF3 k++s else⟨#[]⟩
def cc6(s:ByteArray)(k:Int):ByteArray:=if inB k 0 (X7 s.size - 1)=true then s.extract (24*k).toNat (min (24*k+24) s.size).toNat else⟨#[]⟩
theorem bF5{n m:Int}(h0:0≤n)(h:m=1∧n<256∨m=2∧n<65536) :
  Calls Tryz.prog 65 #[I n,I m] w (b5 w (.string (bV2 m n))):=by
 rcases h with⟨rfl,h1⟩|⟨rfl,h1⟩
 ·exact bx3 h0 h1
 ·exact aU0 h0 h1
theorem S6{f k:Int}(hm:s.size≤100000000) :
  Calls Tryz.prog 296 #[I f,I k,.string s] w (b5 w (.string (aw8 f k s))):=by
 cases c1:inB f 0 7
 ·go_enter Tryz.func296,Tryz.ntmps296
  go_wp2_with (first|(go_at_call 101;refine gm (f5) ?_;intro x))
  go_ret
  exact b5.mk (by simp[aw8,c1])
 cases c2:inB k 0 24
 ·go_enter Tryz.func296,Tryz.ntmps296
  go_wp2_with (first|(go_at_call 101;refine gm (f5) ?_;intro x))
  go_ret
  exact b5.mk (by simp[aw8,c1,c2])
 cases c3:inB (s.size:Int) 1 24
 ·go_enter Tryz.func296,Tryz.ntmps296
  go_wp2_with (first|(go_at_call 101;refine gm (f5) ?_;intro x))
  go_ret
  exact b5.mk (by simp[aw8,c1,c2,c3])
 ·have⟨f0,f1⟩:=D8.1 c1
  have⟨k0,k1⟩:=D8.1 c2
  go_enter Tryz.func296,Tryz.ntmps296
  go_wp2_with (first|(go_at_call 101;refine gm (f5) ?_;intro x)|(go_at_call 65;refine gm (bF5 sd sd) ?_;intro x))
  go_ret
  exact b5.mk (by simp[aw8,c1,c2,c3])
