/- What the laws on missions share. No condition but on sizes. The contracts of CommandsOnce, both sides. No condition but on sizes. The contract of MissingOf, the reference's. -/
import Derived.Test.YtgmikiidcpbjbaaGreatSDM6
import Derived.Test.YtgmikiidcpbjbaaGreatSDM7
import Derived.Test.YtgmikiidcpbjbaaGreatSM4
import Derived.Test.YtgmikiidcpbjbaaGreatSFileT
import Derived.Test.YtgmikiidcpbjbaaGreatSM9
import Derived.Test.YtgmikiidcpbjbaaGreatSOwnF
import Derived.Test.YtgmikiidcpbjbaaGreatSOkL
import Derived.Test.YtgmikiidcpbjbaaGreatSM14
namespace Go.Proofs.YtgmikiidcpbjbaaGreat
set_option linter.unusedVariables false
open Go.ChangeShapes Go.WideShapes Go.ChangeAt Go.RowKit
theorem mbounds{m:TMission}{N:Int}(ht:Enc.tot m≤N):totL m.Took≤N∧totL m.Offered≤N∧Enc.tot m.Ground≤N∧Enc.tot m.Space≤N∧totL m.Plan≤N∧totL m.Ups≤N∧totL m.Downs≤N:=by
 have h:totL m.Plan+totL m.Ups+totL m.Downs+Enc.tot m.Ground+Enc.tot m.Space+totL m.Offered+totL m.Took≤N:=ht
 have h1:=totL_nonneg m.Plan;have h2:=totL_nonneg m.Ups;have h3:=totL_nonneg m.Downs;have h4:=Enc.tot_nonneg m.Ground;have h5:=Enc.tot_nonneg m.Space;have h6:=totL_nonneg m.Offered;have h7:=totL_nonneg m.Took
 omega
theorem one_mission{B:Nat}{w:World}{vs:List Value}{m:TMission}(h:Enc.Rd B w vs m):vs.all (·.oneCell')=true:=by
 obtain⟨A,h,-⟩:=h
 rw[h];rfl
theorem RdS.toSlStr{B:Nat}{w:World}{a:Option Addr}{c:Nat}{l:List ByteArray}(h:RdS B w a c l):Sl encStr w a l:=fun i x hx=>by
 obtain⟨b,off,vs,h0,-,h2,h3,h4⟩:=h.2.2.2 i x hx
 exact⟨b,off,h0,h2,fun j v hv=>by
  obtain⟨rfl,-⟩:=h3
  have:=h4 j v hv
  rw[show Enc.size ByteArray=(encStr x).length from rfl]at this
  exact this⟩
/-! ### What is missing -/
def missGo(i:Nat)(cnt:Nat):List ByteArray→List Int
 | []=>[]
 | s::r=>if cnt=0 then[]else if (s.toList == [])=true then(i:Int)::missGo (i+1) (cnt - 1) r else missGo (i+1) cnt r
def missL(f z k:Int)(p:List ByteArray):List Int:=if (fileInOk f z k p && !(z == -1))=true then missGo 0 20 (segsIn z p)else[]
theorem missGo_none:∀ (p:List ByteArray) (i cnt:Nat),(missGo i (cnt+1) p=[])↔noEmpty p=true
 | [],i,cnt=>by simp[missGo,noEmpty]
 | s::r,i,cnt=>by
  have ih:=missGo_none r (i+1) cnt
  rw[missGo,if_neg (by omega),noEmpty_cons]
  cases h:(s.toList == [])
  ·simpa using ih
  ·simp
set_option maxRecDepth 100000 in
set_option maxHeartbeats 2000000 in
theorem c_sMissingOf{a:Option Addr}{n c:Nat}{f z k:Int}{p:List ByteArray}{w:World}(hs:Sl encStr w a p)(hn:p.length=n)(hm:n≤100000000)(hsz:∀ s∈p,s.size≤100000000) :
  Calls Tryz.prog 62 #[.agg #[.int .i64 f,.int .i64 z,.int .i64 k,.slice a n c]] w (GivesSl encInt 3 1 w (missL f z k p)):=by
 have HS:=lH hsz;clear hsz
 cases c0:fileInOk f z k p
 ·have HV:=lH (show missL f z k p=[]by rw[missL,c0];rfl)
  go_enter Tryz.func62,Tryz.ntmps62
  go_wp2_with (first|((with_reducible refine wp_region_later (by kernel_rfl) (by kernel_rfl) ?_);(repeat(first|go_big_quiet_step (first|fail)));refine wpQuiet_nil ?_;rintro _ ⟨x,rfl⟩))
  refine(c_sFileInOk (hs.to inferInstance) hn (by omega) HS.out).mono ?_
  rintro _ _ ⟨rfl,y1,rfl⟩
  go_wp2_with (first|((with_reducible refine wp_region_later (by kernel_rfl) (by kernel_rfl) ?_);(repeat(first|go_big_quiet_step (first|fail)|simp only[c0]));refine wpQuiet_nil ?_;rintro _ ⟨x,rfl⟩))
  go_ret
  rw[HV.out]
  show GivesSl _ _ _ _ _ (.returned (.slice (some ⟨w.heap.size+1,0,none⟩) 0 0)) _
  exact⟨some ⟨w.heap.size+1,0,none⟩,0,rfl,Own.emptyBlk (g:=w.heap.size+1) encInt_len (by omega) (blk_later _ (blk_alloc _ _ _ (by simp))),Later.of⟩
 have hpp:=fileInOk_parts c0
 have h25:n=25:=by omega
 cases c1:(z == -1)
 ·obtain⟨N,hN⟩:∃ N:Nat,countSeg z=N:=⟨(countSeg z).toNat,by have:=countSeg_bd z;omega⟩
  have hNb:N≤25:=by have:=countSeg_bd z;omega
  have HV:=lH (show missL f z k p=missGo 0 20 (p.take N)by rw[missL,c0,c1,segsIn,hN];rfl)
  have HC:=lH hN;clear hN
  have hnn:25≤n:=by omega
  clear h25 hpp
  go_enter Tryz.func62,Tryz.ntmps62
  go_wp2_with (first|((with_reducible refine wp_region_later (by kernel_rfl) (by kernel_rfl) ?_);(repeat(first|go_big_quiet_step (first|fail)));refine wpQuiet_nil ?_;rintro _ ⟨x,rfl⟩))
  refine(c_sFileInOk (hs.to inferInstance) hn (by omega) HS.out).mono ?_
  rintro _ _ ⟨rfl,y1,rfl⟩
  go_wp2_with (first|((with_reducible refine wp_region_later (by kernel_rfl) (by kernel_rfl) ?_);(repeat(first|go_big_quiet_step (first|fail)|simp only[c0]|simp only[c1]));refine wpQuiet_nil ?_;rintro _ ⟨x,rfl⟩))
  go_loopw [3,4] (fun u v wr=>∃ (j:Nat) (acc:List Int) (m:Nat) (sa:Option Addr) (sc:Nat),v=.int .i64 j∧u=.slice sa m sc∧acc.length=m∧j≤N∧m≤j∧m≤20∧Hid (acc++missGo j (20 - m) ((p.take N).drop j)=missGo 0 20 (p.take N))∧Own encInt 3 1 (w.alloc (.cells #[.int .i64 f,.int .i64 z,.int .i64 k,.slice a n c] 126)).heap.size wr sa sc acc∧∃ x:Later (w.alloc (.cells #[.int .i64 f,.int .i64 z,.int .i64 k,.slice a n c] 126)),wr=x.w) (fun _ v _=>(N - intOf v).toNat)
  case atStart=>exact⟨0,[],0,_,0,rfl,rfl,rfl,by omega,by omega,by omega,by simp[Hid],Own.emptyBlk (g:=w.heap.size+1) encInt_len (by simp) (by first|(refine blk_alloc _ _ _ ?_;(first|rfl|(simp;done)))|(refine blk_past (blk_alloc _ _ _ ?_);(first|rfl|(simp;done)))|(refine blk_later _ (blk_alloc _ _ _ ?_);(first|rfl|(simp;done)))|(refine blk_later _ (blk_past (blk_alloc _ _ _ ?_));(first|rfl|(simp;done)))|(refine blk_past (blk_past (blk_alloc _ _ _ ?_));(first|rfl|(simp;done)))|assumption),Later.of⟩
  case round =>
   obtain⟨j,acc,m,sa,sc,rfl,rfl,hacc,hj,hmj,hm20,hf,hown,x0,rfl⟩:=hrel
   by_cases h:j<N
   ·have hjn:j<n:=by omega
    obtain⟨b,off,s,rfl,hb,hd,h0⟩:=hs.str (show j<p.length by omega)
    have hdd:(p.take N).drop j=s::(p.take N).drop (j+1):=by
     have hps:p[j]?=some s:=by
      have:=congrArg (fun m=>m[0]?) hd.out
      simpa using this
     have hps2:(p.take N)[j]?=some s:=by rw[List.getElem?_take_of_lt h];exact hps
     obtain⟨hl,he⟩:=List.getElem?_eq_some_iff.1 hps2
     rw[List.drop_eq_getElem_cons hl,he]
    have HDD:=lH hdd;clear hdd hd
    have kc:decide ((j:Int)<(N:Int))=true:=by simp;omega
    by_cases h20:m<20
    ·have k2:decide ((m:Int)<20)=true:=by simp;omega
     cases c2:(s.toList == [])
     ·have HF:=lH (show acc++missGo (j+1) (20 - m) ((p.take N).drop (j+1))=missGo 0 20 (p.take N)by
       have:=hf.out;rw[HDD.out,missGo,if_neg (by omega),c2]at this;exact this)
      go_wp2_with (first|((with_reducible refine wp_region_later (by kernel_rfl) (by kernel_rfl) ?_);(repeat(first|go_big_quiet_step (first|fail)));refine wpQuiet_nil ?_;rintro _ ⟨x,rfl⟩))
      refine c_sCountSegments.mono ?_
      rintro _ _ ⟨rfl,y5,rfl⟩
      rw[HC.out]
      go_wp2_with (first|((with_reducible refine wp_region_later (by kernel_rfl) (by kernel_rfl) ?_);(repeat(first|go_big_quiet_step (first|fail)|simp only[kc]|simp only[k2]|simp only[c2]));refine wpQuiet_nil ?_;rintro _ ⟨x,rfl⟩))
      go_roundw
      case rel=>exact⟨j+1,acc,m,sa,sc,by go_num,rfl,hacc,by omega,by omega,by omega,HF,Own.to hown inferInstance,Later.of⟩
      case measure=>simp[intOf];omega
     ·have HF:=lH (show(acc++[(j:Int)])++missGo (j+1) (20 - (m+1)) ((p.take N).drop (j+1))=missGo 0 20 (p.take N)by
       have:=hf.out;rw[HDD.out,missGo,if_neg (by omega),if_pos c2]at this;rw[List.append_assoc];exact this)
      go_wp2_with (first|((with_reducible refine wp_region_later (by kernel_rfl) (by kernel_rfl) ?_);(repeat(first|go_big_quiet_step (first|fail)));refine wpQuiet_nil ?_;rintro _ ⟨x,rfl⟩))
      refine c_sCountSegments.mono ?_
      rintro _ _ ⟨rfl,y5,rfl⟩
      rw[HC.out]
      go_wp2_with (first|((with_reducible refine wp_region_later (by kernel_rfl) (by kernel_rfl) ?_);(repeat(first|go_big_quiet_step (first|fail)|simp only[kc]|simp only[k2]|simp only[c2]));refine wpQuiet_nil ?_;rintro _ ⟨x,rfl⟩)|(at_builtin;refine wpList_app1 (enc:=encInt) (w0:=_) (z:=.int .i64 0) (size:=1) (bytes:=8) (j:Int) rfl (.tmp 33) (.tmp 35) rfl Tryz.underlying46 (by kernel_rfl) rfl (by decide) (by decide) rfl rfl hacc (Own.to hown inferInstance) rfl (encInt_one _) (by omega) ?_;intro sa1 sc1 x1 hown1 hgr1))
      go_roundw
      case rel=>exact⟨j+1,acc++[(j:Int)],m+1,sa1,sc1,by go_num,rfl,by simp[hacc],by omega,by omega,by omega,HF,hown1,Later.of⟩
      case measure=>simp[intOf];omega
    ·have k2:decide ((m:Int)<20)=false:=by simp;omega
     have HF:=lH (show acc=missGo 0 20 (p.take N)by
      have:=hf.out;rw[HDD.out,missGo,if_pos (by omega),List.append_nil]at this;exact this)
     go_wp2_with (first|((with_reducible refine wp_region_later (by kernel_rfl) (by kernel_rfl) ?_);(repeat(first|go_big_quiet_step (first|fail)));refine wpQuiet_nil ?_;rintro _ ⟨x,rfl⟩))
     refine c_sCountSegments.mono ?_
     rintro _ _ ⟨rfl,y5,rfl⟩
     rw[HC.out]
     go_wp2_with (first|((with_reducible refine wp_region_later (by kernel_rfl) (by kernel_rfl) ?_);(repeat(first|go_big_quiet_step (first|fail)|simp only[kc]|simp only[k2]));refine wpQuiet_nil ?_;rintro _ ⟨x,rfl⟩))
     go_ret
     rw[HV.out,← HF.out]
     exact⟨sa,sc,by rw[hacc];rfl,(Own.to hown inferInstance).mono (by simp),Later.of⟩
   ·have kc:decide ((j:Int)<(N:Int))=false:=by simp;omega
    have HF:=lH (show acc=missGo 0 20 (p.take N)by
     have:=hf.out;rw[List.drop_of_length_le (by rw[List.length_take];omega),missGo,List.append_nil]at this;exact this)
    go_wp2_with (first|((with_reducible refine wp_region_later (by kernel_rfl) (by kernel_rfl) ?_);(repeat(first|go_big_quiet_step (first|fail)));refine wpQuiet_nil ?_;rintro _ ⟨x,rfl⟩))
    refine c_sCountSegments.mono ?_
    rintro _ _ ⟨rfl,y5,rfl⟩
    rw[HC.out]
    go_wp2_with (first|((with_reducible refine wp_region_later (by kernel_rfl) (by kernel_rfl) ?_);(repeat(first|go_big_quiet_step (first|fail)|simp only[kc]));refine wpQuiet_nil ?_;rintro _ ⟨x,rfl⟩))
    go_ret
    rw[HV.out,← HF.out]
    exact⟨sa,sc,by rw[hacc];rfl,(Own.to hown inferInstance).mono (by simp),Later.of⟩
 ·obtain rfl:z=-1:=by simpa using c1
  have HV:=lH (show missL f (-1) k p=[]by rw[missL,c0];rfl)
  clear c1 h25 hpp
  go_enter Tryz.func62,Tryz.ntmps62
  go_wp2_with (first|((with_reducible refine wp_region_later (by kernel_rfl) (by kernel_rfl) ?_);(repeat(first|go_big_quiet_step (first|fail)));refine wpQuiet_nil ?_;rintro _ ⟨x,rfl⟩))
  refine(c_sFileInOk (hs.to inferInstance) hn (by omega) HS.out).mono ?_
  rintro _ _ ⟨rfl,y1,rfl⟩
  go_wp2_with (first|((with_reducible refine wp_region_later (by kernel_rfl) (by kernel_rfl) ?_);(repeat(first|go_big_quiet_step (first|fail)|simp only[c0]));refine wpQuiet_nil ?_;rintro _ ⟨x,rfl⟩))
  go_ret
  rw[HV.out]
  show GivesSl _ _ _ _ _ (.returned (.slice (some ⟨w.heap.size+1,0,none⟩) 0 0)) _
  exact⟨some ⟨w.heap.size+1,0,none⟩,0,rfl,Own.emptyBlk (g:=w.heap.size+1) encInt_len (by omega) (blk_later _ (blk_alloc _ _ _ (by simp))),Later.of⟩
set_option maxRecDepth 100000 in
set_option maxHeartbeats 2000000 in
theorem c_sFileText{a:Option Addr}{n c:Nat}{f z k:Int}{p:List ByteArray}{w:World}(hs:Sl encStr w a p)(hn:p.length=n)(hm:n≤100000000)(hsz:∀ s∈p,s.size≤100000000) :
  Calls Tryz.prog 61 #[.agg #[.int .i64 f,.int .i64 z,.int .i64 k,.slice a n c]] w (Gives w (tupText (fileText f z k p) (textIs f z k p))):=by
 have HS:=lH hsz;clear hsz
 cases c0:fileInOk f z k p
 ·have HV:=lH (show textIs f z k p=false by rw[textIs,c0];rfl)
  go_enter Tryz.func61,Tryz.ntmps61
  go_wp2_with (first|((with_reducible refine wp_region_later (by kernel_rfl) (by kernel_rfl) ?_);(repeat(first|go_big_quiet_step (first|fail)));refine wpQuiet_nil ?_;rintro _ ⟨x,rfl⟩))
  refine(c_sFileInOk (hs.to inferInstance) hn (by omega) HS.out).mono ?_
  rintro _ _ ⟨rfl,y1,rfl⟩
  go_wp2_with (first|((with_reducible refine wp_region_later (by kernel_rfl) (by kernel_rfl) ?_);(repeat(first|go_big_quiet_step (first|fail)|simp only[c0]));refine wpQuiet_nil ?_;rintro _ ⟨x,rfl⟩))
  refine bodyPost_ret (v:=.tuple #[.string ⟨#[]⟩,.bool false]) ?_ rfl (Gives.mk (by rw[fileText,HV.out];rfl))
  simp[results,Tryz.results61,go_sem]
 have hpp:=fileInOk_parts c0
 have h25:n=25:=by omega
 have HP:=lH hpp.2;clear hpp
 cases c1:(z == -1)
 ·obtain⟨N,hN⟩:∃ N:Nat,countSeg z=N:=⟨(countSeg z).toNat,by have:=countSeg_bd z;omega⟩
  have hNb:N≤25:=by have:=countSeg_bd z;omega
  have HN:=lH (show segsIn z p=p.take N by rw[segsIn,hN];rfl)
  have HC:=lH hN;clear hN
  have HV:=lH (show textIs f z k p=(noEmpty (p.take N) && (((joined (p.take N)).size:Int) == z && checkOf (joined (p.take N)) == k))by rw[textIs,c0,c1,HN.out];rfl)
  have H25:=lH h25
  have hnn:25≤n:=by omega
  clear h25
  go_enter Tryz.func61,Tryz.ntmps61
  go_wp2_with (first|((with_reducible refine wp_region_later (by kernel_rfl) (by kernel_rfl) ?_);(repeat(first|go_big_quiet_step (first|fail)));refine wpQuiet_nil ?_;rintro _ ⟨x,rfl⟩))
  refine(c_sFileInOk (hs.to inferInstance) hn (by omega) HS.out).mono ?_
  rintro _ _ ⟨rfl,y1,rfl⟩
  go_wp2_with (first|((with_reducible refine wp_region_later (by kernel_rfl) (by kernel_rfl) ?_);(repeat(first|go_big_quiet_step (first|fail)|simp only[c0]|simp only[c1]));refine wpQuiet_nil ?_;rintro _ ⟨x,rfl⟩))
  refine(c_sMissingOf (hs.to inferInstance) hn (by omega) HS.out).mono ?_
  rintro _ _ ⟨a2,c2,rfl,o2,y2,rfl⟩
  clear o2
  have hml:missL f z k p=[]↔noEmpty (p.take N)=true:=by
   rw[missL,c0,c1,HN.out];exact missGo_none _ _ _
  obtain⟨L,hL⟩:∃ L,(missL f z k p).length=L:=⟨_,rfl⟩
  rw[hL]
  by_cases hL0:0<L
  ·have hne:noEmpty (p.take N)=false:=by
    cases h9:noEmpty (p.take N)
    ·rfl
    ·rw[hml.2 h9]at hL;simp at hL;omega
   have HV2:=lH (show textIs f z k p=false by rw[HV.out,hne];rfl)
   have k3:decide ((0:Int)<(L:Int))=true:=by simp;omega
   clear hml hL hne HV
   go_wp2_with (first|((with_reducible refine wp_region_later (by kernel_rfl) (by kernel_rfl) ?_);(repeat(first|go_big_quiet_step (first|fail)|simp only[c0]|simp only[c1]|simp only[k3]));refine wpQuiet_nil ?_;rintro _ ⟨x,rfl⟩))
   refine bodyPost_ret (v:=.tuple #[.string ⟨#[]⟩,.bool false]) ?_ rfl (Gives.mk (by rw[fileText,HV2.out];rfl))
   simp[results,Tryz.results61,go_sem]
  have HNE:=lH (show noEmpty (p.take N)=true from hml.1 (List.length_eq_zero_iff.1 (by omega)))
  clear hml hL
  obtain rfl:L=0:=by omega
  clear hL0
  go_wp2_with (first|((with_reducible refine wp_region_later (by kernel_rfl) (by kernel_rfl) ?_);(repeat(first|go_big_quiet_step (first|fail)|simp only[c0]|simp only[c1]));refine wpQuiet_nil ?_;rintro _ ⟨x,rfl⟩))
  go_loopw [4,5] (fun u v wr=>∃ (j:Nat) (acc:ByteArray),v=.int .i64 j∧u=.string acc∧j≤N∧acc.size≤24*j∧Hid (acc=joined (p.take j))∧∃ x:Later (w.alloc (.cells #[.int .i64 f,.int .i64 z,.int .i64 k,.slice a n c] 126)),wr=x.w) (fun _ v _=>(N - intOf v).toNat)
  case atStart=>exact⟨0,_,rfl,rfl,by omega,by simp[ByteArray.size],rfl,Later.of⟩
  case round =>
   obtain⟨j,acc,rfl,rfl,hj,hacc,hf,x,rfl⟩:=hrel
   by_cases h:j<N
   ·have hjn:j<n:=by omega
    have kc:decide ((j:Int)<(N:Int))=true:=by simp;omega
    obtain⟨b,off,s,rfl,hb,hd,h0⟩:=hs.str (show j<p.length by omega)
    have hps:p[j]?=some s:=by
     have:=congrArg (fun m=>m[0]?) hd.out
     simpa using this
    have hss:s.size≤24:=HP.out s (List.mem_of_getElem? hps)
    have HF:=lH (show acc++s=joined (p.take (j+1))by rw[take_snoc2 hps,joined_snoc,← hf.out])
    clear hps hd
    go_wp2_with (first|((with_reducible refine wp_region_later (by kernel_rfl) (by kernel_rfl) ?_);(repeat(first|go_big_quiet_step (first|fail)));refine wpQuiet_nil ?_;rintro _ ⟨x,rfl⟩))
    refine c_sCountSegments.mono ?_
    rintro _ _ ⟨rfl,y5,rfl⟩
    rw[HC.out]
    go_wp2_with (first|((with_reducible refine wp_region_later (by kernel_rfl) (by kernel_rfl) ?_);(repeat(first|go_big_quiet_step (first|fail)|simp only[kc]));refine wpQuiet_nil ?_;rintro _ ⟨x,rfl⟩))
    go_roundw
    case rel=>exact⟨j+1,_,by go_num,rfl,by omega,by rw[ByteArray.size_append];omega,HF,Later.of⟩
    case measure=>simp[intOf];omega
   ·have hjN:j=N:=by omega
    have HF:=lH (show acc=joined (p.take N)∧noEmpty (p.take N)=true by rw[← hjN];exact⟨hf.out,by rw[hjN];exact HNE.out⟩)
    have kc:decide ((j:Int)<(N:Int))=false:=by simp;omega
    clear hf hjN
    go_wp2_with (first|((with_reducible refine wp_region_later (by kernel_rfl) (by kernel_rfl) ?_);(repeat(first|go_big_quiet_step (first|fail)));refine wpQuiet_nil ?_;rintro _ ⟨x,rfl⟩))
    refine c_sCountSegments.mono ?_
    rintro _ _ ⟨rfl,y5,rfl⟩
    rw[HC.out]
    have HV2:=lH (show textIs f z k p=(((acc.size:Int) == z) && (checkOf acc == k))by rw[HV.out,HF.out.2,HF.out.1];rfl)
    have HT:=lH (show joined (segsIn z p)=acc by rw[HN.out,HF.out.1])
    clear HV HF
    cases c3:((acc.size:Int) == z)
    ·have c4:((acc.size:Int) != z)=true:=by rw[bne,c3];rfl
     have HV3:=lH (show textIs f z k p=false by rw[HV2.out,c3];rfl)
     go_wp2_with (first|((with_reducible refine wp_region_later (by kernel_rfl) (by kernel_rfl) ?_);(repeat(first|go_big_quiet_step (first|(go_at_call 203;exact Gives.quiet (c_sCheckOf (by omega))))|simp only[kc]|simp only[c4]));refine wpQuiet_nil ?_;rintro _ ⟨x,rfl⟩)|(go_at_call 203;refine(c_sCheckOf (by omega)).mono ?_;rintro _ _ ⟨rfl,x,rfl⟩))
     refine bodyPost_ret (v:=.tuple #[.string ⟨#[]⟩,.bool false]) ?_ rfl (Gives.mk (by rw[fileText,HV3.out];rfl))
     simp[results,Tryz.results61,go_sem]
    ·have c4:((acc.size:Int) != z)=false:=by rw[bne,c3];rfl
     cases c5:(checkOf acc == k)
     ·have c6:(checkOf acc != k)=true:=by rw[bne,c5];rfl
      have HV3:=lH (show textIs f z k p=false by rw[HV2.out,c3,c5];rfl)
      go_wp2_with (first|((with_reducible refine wp_region_later (by kernel_rfl) (by kernel_rfl) ?_);(repeat(first|go_big_quiet_step (first|(go_at_call 203;exact Gives.quiet (c_sCheckOf (by omega))))|simp only[kc]|simp only[c4]|simp only[c6]));refine wpQuiet_nil ?_;rintro _ ⟨x,rfl⟩)|(go_at_call 203;refine(c_sCheckOf (by omega)).mono ?_;rintro _ _ ⟨rfl,x,rfl⟩))
      refine bodyPost_ret (v:=.tuple #[.string ⟨#[]⟩,.bool false]) ?_ rfl (Gives.mk (by rw[fileText,HV3.out];rfl))
      simp[results,Tryz.results61,go_sem]
     ·have c6:(checkOf acc != k)=false:=by rw[bne,c5];rfl
      have HV3:=lH (show textIs f z k p=true by rw[HV2.out,c3,c5];rfl)
      go_wp2_with (first|((with_reducible refine wp_region_later (by kernel_rfl) (by kernel_rfl) ?_);(repeat(first|go_big_quiet_step (first|(go_at_call 203;exact Gives.quiet (c_sCheckOf (by omega))))|simp only[kc]|simp only[c4]|simp only[c6]));refine wpQuiet_nil ?_;rintro _ ⟨x,rfl⟩)|(go_at_call 203;refine(c_sCheckOf (by omega)).mono ?_;rintro _ _ ⟨rfl,x,rfl⟩))
      refine bodyPost_ret (v:=.tuple #[.string acc,.bool true]) ?_ rfl (Gives.mk (by rw[fileText,HV3.out,HT.out];rfl))
      simp[results,Tryz.results61,go_sem]
 ·obtain rfl:z=-1:=by simpa using c1
  have HV:=lH (show textIs f (-1) k p=false by rw[textIs,c0];rfl)
  clear c1 h25
  go_enter Tryz.func61,Tryz.ntmps61
  go_wp2_with (first|((with_reducible refine wp_region_later (by kernel_rfl) (by kernel_rfl) ?_);(repeat(first|go_big_quiet_step (first|fail)));refine wpQuiet_nil ?_;rintro _ ⟨x,rfl⟩))
  refine(c_sFileInOk (hs.to inferInstance) hn (by omega) HS.out).mono ?_
  rintro _ _ ⟨rfl,y1,rfl⟩
  go_wp2_with (first|((with_reducible refine wp_region_later (by kernel_rfl) (by kernel_rfl) ?_);(repeat(first|go_big_quiet_step (first|fail)|simp only[c0]));refine wpQuiet_nil ?_;rintro _ ⟨x,rfl⟩))
  refine bodyPost_ret (v:=.tuple #[.string ⟨#[]⟩,.bool false]) ?_ rfl (Gives.mk (by rw[fileText,HV.out];rfl))
  simp[results,Tryz.results61,go_sem]
def sentGood(next n:Int)(k:Nat)(x:TSent):Bool:=inB x.Data.size 1 40 && (x.Seq == (next - n+k+256) % 256)
def sentGo(next n:Int):Nat→List TSent→Bool
 | _,[]=>true
 | k,x::r=>sentGood next n k x && sentGo next n (k+1) r
def senderOk(s:TSender):Bool:=inB s.Next 0 255 && (inB s.Window 1 20 && (inB s.Done 0 1000000 && (decide ((s.Waiting.length:Int)≤s.Window) && sentGo s.Next s.Waiting.length 0 s.Waiting)))
theorem k_iSenderOk{B:Nat}{a:Option Addr}{c:Nat}{sd:TSender}{w:World}(hs:RdS B w a c sd.Waiting)(hm:sd.Waiting.length≤100000000)(hi:okDTSender sd) :
  Calls Tryz.prog 277 #[.agg #[.int .i64 sd.Next,.int .i64 sd.Window,.slice a sd.Waiting.length c,.int .i64 sd.Done]] w (Gives w (.bool (senderOk sd))):=by
 obtain⟨n,hn⟩:∃ n,sd.Waiting.length=n:=⟨_,rfl⟩
 have HN:=lH hn
 have HI:=lH hi;clear hi
 have HD:=lH (show senderOk sd=(inB sd.Next 0 255 && (inB sd.Window 1 20 && (inB sd.Done 0 1000000 && (decide ((n:Int)≤sd.Window) && sentGo sd.Next n 0 sd.Waiting))))by rw[senderOk,hn])
 rw[hn]at hm ⊢
 clear hn
 cases c0:inB sd.Next 0 255
 ·skip
  go_enter Tryz.func277,Tryz.ntmps277
  go_wp2_with (first|(go_at_call 156;refine(c_ibetween).mono ?_;rintro _ _ ⟨rfl,x,rfl⟩))
  go_ret
  exact Gives.mk (by rw[HD.out,c0];rfl)
 cases c1:inB sd.Window 1 20
 ·skip
  go_enter Tryz.func277,Tryz.ntmps277
  go_wp2_with (first|(go_at_call 156;refine(c_ibetween).mono ?_;rintro _ _ ⟨rfl,x,rfl⟩))
  go_ret
  exact Gives.mk (by rw[HD.out,c0,c1];rfl)
 cases c2:inB sd.Done 0 1000000
 ·skip
  go_enter Tryz.func277,Tryz.ntmps277
  go_wp2_with (first|(go_at_call 156;refine(c_ibetween).mono ?_;rintro _ _ ⟨rfl,x,rfl⟩))
  go_ret
  exact Gives.mk (by rw[HD.out,c0,c1,c2];rfl)
 have⟨hx1,hx2⟩:=inB_iff.1 c0
 have⟨hw1,hw2⟩:=inB_iff.1 c1
 by_cases hnw:(n:Int)≤sd.Window
 ·have kw:decide (sd.Window<(n:Int))=false:=by simp;omega
  have hn20:n≤20:=by omega
  have HD2:=lH (show senderOk sd=sentGo sd.Next n 0 sd.Waiting by rw[HD.out,c0,c1,c2,decide_eq_true hnw];rfl)
  clear HD
  go_enter Tryz.func277,Tryz.ntmps277
  go_wp2_with (first|(go_at_call 156;refine(c_ibetween).mono ?_;rintro _ _ ⟨rfl,x,rfl⟩))
  go_loopw [32] (fun v wr=>∃ k:Nat,v=.int .i64 k∧k≤n∧Hid (sentGo sd.Next n k (sd.Waiting.drop k)=sentGo sd.Next n 0 sd.Waiting)∧∃ X:Later (w.alloc (.cells #[.int .i64 sd.Next,.int .i64 sd.Window,.slice a n c,.int .i64 sd.Done] 69)),wr=X.w) (fun v _=>(n - intOf v).toNat)
  case atStart=>exact⟨0,rfl,by omega,rfl,Later.of⟩
  case round =>
   obtain⟨k,rfl,hk,HV,X,rfl⟩:=hrel
   by_cases h:k<n
   ·have hkl:k<sd.Waiting.length:=by have:=HN.out;omega
    obtain⟨eb,eoff,ex,rfl,ehb,ehd,eok,eh0,eh1⟩:=hs.atTSent hkl
    have hz:ex.Data.size≤9223372036854775807:=eok.2.1
    have EOK:=lH eok;clear eok hkl
    have EM:(sd.Next - n+k+256) % 256=(sd.Next - n+k) % 256:=Int.add_emod_right ..
    have EH:=lH EM;clear EM
    cases d1:inB ex.Data.size 1 40
    ·have HF:=lH (show senderOk sd=false by have:=HV.out;rw[ehd.out,sentGo,sentGood,d1]at this;rw[HD2.out,← this];rfl)
     cases d2:(ex.Seq == (sd.Next - n+k+256) % 256)
     ·have d3:(ex.Seq != (sd.Next - n+k+256) % 256)=true:=by rw[bne,d2];rfl
      go_wp2_with (first|(go_at_call 156;refine(c_ibetween).mono ?_;rintro _ _ ⟨rfl,x,rfl⟩))
      go_ret
      exact Gives.mk (by rw[HF.out];rfl)
     ·have d3:(ex.Seq != (sd.Next - n+k+256) % 256)=false:=by rw[bne,d2];rfl
      have D2:=lH d2;clear d2
      go_wp2_with (first|(go_at_call 156;refine(c_ibetween).mono ?_;rintro _ _ ⟨rfl,x,rfl⟩))
      go_ret
      exact Gives.mk (by rw[HF.out];rfl)
    ·cases d2:(ex.Seq == (sd.Next - n+k+256) % 256)
     ·have d3:(ex.Seq != (sd.Next - n+k+256) % 256)=true:=by rw[bne,d2];rfl
      have HF:=lH (show senderOk sd=false by have:=HV.out;rw[ehd.out,sentGo,sentGood,d1,d2]at this;rw[HD2.out,← this];rfl)
      go_wp2_with (first|(go_at_call 156;refine(c_ibetween).mono ?_;rintro _ _ ⟨rfl,x,rfl⟩))
      go_ret
      exact Gives.mk (by rw[HF.out];rfl)
     ·have d3:(ex.Seq != (sd.Next - n+k+256) % 256)=false:=by rw[bne,d2];rfl
      have HF:=lH (show sentGo sd.Next n (k+1) (sd.Waiting.drop (k+1))=sentGo sd.Next n 0 sd.Waiting by have:=HV.out;rw[ehd.out,sentGo,sentGood,d1,d2]at this;exact this)
      have D2:=lH d2;clear d2
      go_wp2_with (first|(go_at_call 156;refine(c_ibetween).mono ?_;rintro _ _ ⟨rfl,x,rfl⟩))
      go_roundw
      case rel=>exact⟨k+1,by go_num,by omega,HF,Later.of⟩
      case measure=>simp[intOf];omega
   ·have HF:=lH (show senderOk sd=true by have:=HV.out;rw[List.drop_of_length_le (by have:=HN.out;omega),sentGo]at this;rw[HD2.out,← this])
    go_wp2_with fail
    go_ret
    exact Gives.mk (by rw[HF.out];rfl)
 ·have kw:decide (sd.Window<(n:Int))=true:=by simp;omega
  have HD2:=lH (show senderOk sd=false by rw[HD.out,c0,c1,c2,decide_eq_false hnw];rfl)
  clear HD
  go_enter Tryz.func277,Tryz.ntmps277
  go_wp2_with (first|(go_at_call 156;refine(c_ibetween).mono ?_;rintro _ _ ⟨rfl,x,rfl⟩))
  go_ret
  exact Gives.mk (by rw[HD2.out];rfl)
theorem k_sSenderOk{B:Nat}{a:Option Addr}{c:Nat}{sd:TSender}{w:World}(hs:RdS B w a c sd.Waiting)(hm:sd.Waiting.length≤100000000)(hi:okDTSender sd) :
  Calls Tryz.prog 271 #[.agg #[.int .i64 sd.Next,.int .i64 sd.Window,.slice a sd.Waiting.length c,.int .i64 sd.Done]] w (Gives w (.bool (senderOk sd))):=by
 obtain⟨n,hn⟩:∃ n,sd.Waiting.length=n:=⟨_,rfl⟩
 have HN:=lH hn
 have HI:=lH hi;clear hi
 have HD:=lH (show senderOk sd=(inB sd.Next 0 255 && (inB sd.Window 1 20 && (inB sd.Done 0 1000000 && (decide ((n:Int)≤sd.Window) && sentGo sd.Next n 0 sd.Waiting))))by rw[senderOk,hn])
 rw[hn]at hm ⊢
 clear hn
 cases c0:inB sd.Next 0 255
 ·skip
  go_enter Tryz.func271,Tryz.ntmps271
  go_wp2_with (first|(go_at_call 158;refine(c_sl01In).mono ?_;rintro _ _ ⟨rfl,x,rfl⟩))
  go_ret
  exact Gives.mk (by rw[HD.out,c0];rfl)
 cases c1:inB sd.Window 1 20
 ·skip
  go_enter Tryz.func271,Tryz.ntmps271
  go_wp2_with (first|(go_at_call 158;refine(c_sl01In).mono ?_;rintro _ _ ⟨rfl,x,rfl⟩))
  go_ret
  exact Gives.mk (by rw[HD.out,c0,c1];rfl)
 cases c2:inB sd.Done 0 1000000
 ·skip
  go_enter Tryz.func271,Tryz.ntmps271
  go_wp2_with (first|(go_at_call 158;refine(c_sl01In).mono ?_;rintro _ _ ⟨rfl,x,rfl⟩))
  go_ret
  exact Gives.mk (by rw[HD.out,c0,c1,c2];rfl)
 have⟨hx1,hx2⟩:=inB_iff.1 c0
 have⟨hw1,hw2⟩:=inB_iff.1 c1
 by_cases hnw:(n:Int)≤sd.Window
 ·have kw:decide (sd.Window<(n:Int))=false:=by simp;omega
  have hn20:n≤20:=by omega
  have HD2:=lH (show senderOk sd=sentGo sd.Next n 0 sd.Waiting by rw[HD.out,c0,c1,c2,decide_eq_true hnw];rfl)
  clear HD
  go_enter Tryz.func271,Tryz.ntmps271
  go_wp2_with (first|(go_at_call 158;refine(c_sl01In).mono ?_;rintro _ _ ⟨rfl,x,rfl⟩))
  go_loopw [4] (fun v wr=>∃ k:Nat,v=.int .i64 k∧k≤n∧Hid (sentGo sd.Next n k (sd.Waiting.drop k)=sentGo sd.Next n 0 sd.Waiting)∧∃ X:Later (w.alloc (.cells #[.int .i64 sd.Next,.int .i64 sd.Window,.slice a n c,.int .i64 sd.Done] 69)),wr=X.w) (fun v _=>(n - intOf v).toNat)
  case atStart=>exact⟨0,rfl,by omega,rfl,Later.of⟩
  case round =>
   obtain⟨k,rfl,hk,HV,X,rfl⟩:=hrel
   by_cases h:k<n
   ·have hkl:k<sd.Waiting.length:=by have:=HN.out;omega
    obtain⟨eb,eoff,ex,rfl,ehb,ehd,eok,eh0,eh1⟩:=hs.atTSent hkl
    have hz:ex.Data.size≤9223372036854775807:=eok.2.1
    have EOK:=lH eok;clear eok hkl
    have EM:(sd.Next - n+k+256) % 256=(sd.Next - n+k) % 256:=Int.add_emod_right ..
    have EH:=lH EM;clear EM
    cases d1:inB ex.Data.size 1 40
    ·have HF:=lH (show senderOk sd=false by have:=HV.out;rw[ehd.out,sentGo,sentGood,d1]at this;rw[HD2.out,← this];rfl)
     cases d2:(ex.Seq == (sd.Next - n+k) % 256)
     ·have d3:(ex.Seq != (sd.Next - n+k) % 256)=true:=by rw[bne,d2];rfl
      go_wp2_with (first|(go_at_call 158;refine(c_sl01In).mono ?_;rintro _ _ ⟨rfl,x,rfl⟩))
      go_ret
      exact Gives.mk (by rw[HF.out];rfl)
     ·have d3:(ex.Seq != (sd.Next - n+k) % 256)=false:=by rw[bne,d2];rfl
      have D2:=lH d2;clear d2
      go_wp2_with (first|(go_at_call 158;refine(c_sl01In).mono ?_;rintro _ _ ⟨rfl,x,rfl⟩))
      go_ret
      exact Gives.mk (by rw[HF.out];rfl)
    ·cases d2:(ex.Seq == (sd.Next - n+k) % 256)
     ·have d3:(ex.Seq != (sd.Next - n+k) % 256)=true:=by rw[bne,d2];rfl
      have HF:=lH (show senderOk sd=false by have:=HV.out;rw[ehd.out,sentGo,sentGood,EH.out,d1,d2]at this;rw[HD2.out,← this];rfl)
      go_wp2_with (first|(go_at_call 158;refine(c_sl01In).mono ?_;rintro _ _ ⟨rfl,x,rfl⟩))
      go_ret
      exact Gives.mk (by rw[HF.out];rfl)
     ·have d3:(ex.Seq != (sd.Next - n+k) % 256)=false:=by rw[bne,d2];rfl
      have HF:=lH (show sentGo sd.Next n (k+1) (sd.Waiting.drop (k+1))=sentGo sd.Next n 0 sd.Waiting by have:=HV.out;rw[ehd.out,sentGo,sentGood,EH.out,d1,d2]at this;exact this)
      have D2:=lH d2;clear d2
      go_wp2_with (first|(go_at_call 158;refine(c_sl01In).mono ?_;rintro _ _ ⟨rfl,x,rfl⟩))
      go_roundw
      case rel=>exact⟨k+1,by go_num,by omega,HF,Later.of⟩
      case measure=>simp[intOf];omega
   ·have HF:=lH (show senderOk sd=true by have:=HV.out;rw[List.drop_of_length_le (by have:=HN.out;omega),sentGo]at this;rw[HD2.out,← this])
    go_wp2_with fail
    go_ret
    exact Gives.mk (by rw[HF.out];rfl)
 ·have kw:decide (sd.Window<(n:Int))=true:=by simp;omega
  have HD2:=lH (show senderOk sd=false by rw[HD.out,c0,c1,c2,decide_eq_false hnw];rfl)
  clear HD
  go_enter Tryz.func271,Tryz.ntmps271
  go_wp2_with (first|(go_at_call 158;refine(c_sl01In).mono ?_;rintro _ _ ⟨rfl,x,rfl⟩))
  go_ret
  exact Gives.mk (by rw[HD2.out];rfl)
def ascGo{α:Type}(good:α→Bool)(key:α→Int):Option α→List α→Bool
 | _,[]=>true
 | none,s::r=>good s && ascGo good key (some s) r
 | some q,s::r=>good s && (decide (key q<key s) && ascGo good key (some s) r)
def prevOf{α:Type}(l:List α)(k:Nat):Option α:=if k=0 then none else l[k - 1]?
theorem prevOf_succ{α:Type}{l r:List α}{k:Nat}{s:α}(h:l.drop k=s::r):prevOf l (k+1)=some s:=by
 have h0:(l.drop k)[0]?=some s:=by rw[h];rfl
 rw[List.getElem?_drop]at h0
 simpa[prevOf]using h0
def startOk(n:Nat)(s:Int):Bool:=inB s 0 (n - 1)
def packerOk(p:TPacker):Bool:=inB p.Channel 0 2 && (inB p.Count 0 255 && (decide ((p.Rest.size:Int)≤5000) && ascGo (startOk p.Rest.size) (fun s=>s) none p.Starts))
theorem k_iPackerOk{B:Nat}{a:Option Addr}{c:Nat}{p:TPacker}{w:World}(hs:RdS B w a c p.Starts)(hm:p.Starts.length≤100000000)(hz:p.Rest.size≤100000000) :
  Calls Tryz.prog 332 #[.agg #[.int .i64 p.Channel,.int .i64 p.Count,.string p.Rest,.slice a p.Starts.length c]] w (Gives w (.bool (packerOk p))):=by
 obtain⟨n,hn⟩:∃ n,p.Starts.length=n:=⟨_,rfl⟩
 have HN:=lH hn
 have HD:=lH (show packerOk p=(inB p.Channel 0 2 && (inB p.Count 0 255 && (decide ((p.Rest.size:Int)≤5000) && ascGo (startOk p.Rest.size) (fun s=>s) none p.Starts)))from rfl)
 rw[hn]at hm ⊢
 clear hn
 have hz9:p.Rest.size≤9223372036854775807:=by omega
 cases c0:inB p.Channel 0 2
 ·go_enter Tryz.func332,Tryz.ntmps332
  go_wp2_with (first|(go_at_call 156;refine(c_ibetween).mono ?_;rintro _ _ ⟨rfl,x,rfl⟩))
  go_ret
  exact Gives.mk (by rw[HD.out,c0];rfl)
 cases c1:inB p.Count 0 255
 ·go_enter Tryz.func332,Tryz.ntmps332
  go_wp2_with (first|(go_at_call 156;refine(c_ibetween).mono ?_;rintro _ _ ⟨rfl,x,rfl⟩))
  go_ret
  exact Gives.mk (by rw[HD.out,c0,c1];rfl)
 by_cases hr:p.Rest.size≤5000
 ·have kr:decide (5000<(p.Rest.size:Int))=false:=by simp;omega
  have hd3:decide ((p.Rest.size:Int)≤5000)=true:=by simp;omega
  have HD2:=lH hd3;clear hd3
  have HC:=lH (And.intro c0 c1)
  go_enter Tryz.func332,Tryz.ntmps332
  go_wp2_with (first|(go_at_call 156;refine(c_ibetween).mono ?_;rintro _ _ ⟨rfl,x,rfl⟩))
  clear c0 c1
  go_loopw [24] (fun v wr=>∃ k:Nat,v=.int .i64 k∧k≤n∧Hid (ascGo (startOk p.Rest.size) (fun s=>s) (prevOf p.Starts k) (p.Starts.drop k)=ascGo (startOk p.Rest.size) (fun s=>s) none p.Starts)∧∃ X:Later (w.alloc (.cells #[.int .i64 p.Channel,.int .i64 p.Count,.string p.Rest,.slice a n c] 85)),wr=X.w) (fun v _=>(n - intOf v).toNat)
  case atStart=>exact⟨0,rfl,by omega,rfl,Later.of⟩
  case round =>
   obtain⟨k,rfl,hk,HV,X,rfl⟩:=hrel
   by_cases h:k<n
   ·have hkl:k<p.Starts.length:=by have:=HN.out;omega
    obtain⟨eb,eoff,es,rfl,ehb,ehd,eok,eh0⟩:=hs.atInt hkl
    have EOK:=lH eok;clear eok hkl
    cases d1:inB es 0 (p.Rest.size - 1)
    ·have HF:=lH (show ascGo (startOk p.Rest.size) (fun s=>s) none p.Starts=false by have:=HV.out;rw[ehd.out]at this;rw[← this];cases prevOf p.Starts k<;>simp[ascGo,startOk,d1])
     go_wp2_with (first|(go_at_call 156;refine(c_ibetween).mono ?_;rintro _ _ ⟨rfl,x,rfl⟩))
     go_ret
     exact Gives.mk (by rw[HD.out,HF.out];simp)
    ·by_cases hz0:k=0
     ·have HF:=lH (show ascGo (startOk p.Rest.size) (fun s=>s) (prevOf p.Starts (k+1)) (p.Starts.drop (k+1))=ascGo (startOk p.Rest.size) (fun s=>s) none p.Starts by have:=HV.out;rw[ehd.out,hz0]at this;rw[prevOf_succ ehd.out,← this];simp[ascGo,prevOf,startOk,d1,hz0])
      have hz':decide (0<(k:Int))=false:=by simp;omega
      have hz2:decide (0<k)=false:=by simp;omega
      clear hz0
      go_wp2_with (first|(go_at_call 156;refine(c_ibetween).mono ?_;rintro _ _ ⟨rfl,x,rfl⟩))
      go_roundw
      case rel=>exact⟨k+1,by go_num,by omega,HF,Later.of⟩
      case measure=>simp[intOf];omega
     ·obtain⟨fb,foff,fs,hbo,fhb,fhd,fok,fh0⟩:=hs.atInt (show k - 1<p.Starts.length by have:=HN.out;omega)
      simp only[Option.some.injEq,Addr.mk.injEq,and_true]at hbo
      obtain⟨rfl,rfl⟩:=hbo
      have FOK:=lH fok;clear fok
      have hz':decide (0<(k:Int))=true:=by simp;omega
      have hz2:decide (0<k)=true:=by simp;omega
      have hp:prevOf p.Starts k=some fs:=by have:=prevOf_succ fhd.out;rwa[show k - 1+1=k from by omega]at this
      have HP:=lH hp;clear hp
      cases d2:decide (es≤fs)
      ·have HF:=lH (show ascGo (startOk p.Rest.size) (fun s=>s) (prevOf p.Starts (k+1)) (p.Starts.drop (k+1))=ascGo (startOk p.Rest.size) (fun s=>s) none p.Starts by have:=HV.out;rw[ehd.out,HP.out]at this;rw[prevOf_succ ehd.out,← this];have h2:decide (fs<es)=true:=(by simp at d2 ⊢;omega);simp only[ascGo,startOk,d1,h2,Bool.true_and])
       go_wp2_with (first|(go_at_call 156;refine(c_ibetween).mono ?_;rintro _ _ ⟨rfl,x,rfl⟩))
       go_roundw
       case rel=>exact⟨k+1,by go_num,by omega,HF,Later.of⟩
       case measure=>simp[intOf];omega
      ·have HF:=lH (show ascGo (startOk p.Rest.size) (fun s=>s) none p.Starts=false by have:=HV.out;rw[ehd.out,HP.out]at this;rw[← this];have h2:decide (fs<es)=false:=(by simp at d2 ⊢;omega);simp only[ascGo,startOk,d1,h2,Bool.true_and,Bool.false_and])
       go_wp2_with (first|(go_at_call 156;refine(c_ibetween).mono ?_;rintro _ _ ⟨rfl,x,rfl⟩))
       go_ret
       exact Gives.mk (by rw[HD.out,HF.out];simp)
   ·have HF:=lH (show ascGo (startOk p.Rest.size) (fun s=>s) none p.Starts=true by have:=HV.out;rw[List.drop_of_length_le (by have:=HN.out;omega)]at this;rw[← this];cases prevOf p.Starts k<;>rfl)
    go_wp2_with fail
    go_ret
    exact Gives.mk (by rw[HD.out,HF.out,HD2.out,HC.out.1,HC.out.2];rfl)
 ·have kr:decide (5000<(p.Rest.size:Int))=true:=by simp;omega
  have hd3:decide ((p.Rest.size:Int)≤5000)=false:=by simp;omega
  have HD2:=lH hd3;clear hd3
  go_enter Tryz.func332,Tryz.ntmps332
  go_wp2_with (first|(go_at_call 156;refine(c_ibetween).mono ?_;rintro _ _ ⟨rfl,x,rfl⟩))
  go_ret
  exact Gives.mk (by rw[HD.out,HD2.out];simp)
theorem k_sPackerOk{B:Nat}{a:Option Addr}{c:Nat}{p:TPacker}{w:World}(hs:RdS B w a c p.Starts)(hm:p.Starts.length≤100000000)(hz:p.Rest.size≤100000000) :
  Calls Tryz.prog 324 #[.agg #[.int .i64 p.Channel,.int .i64 p.Count,.string p.Rest,.slice a p.Starts.length c]] w (Gives w (.bool (packerOk p))):=by
 obtain⟨n,hn⟩:∃ n,p.Starts.length=n:=⟨_,rfl⟩
 have HN:=lH hn
 have HD:=lH (show packerOk p=(inB p.Channel 0 2 && (inB p.Count 0 255 && (decide ((p.Rest.size:Int)≤5000) && ascGo (startOk p.Rest.size) (fun s=>s) none p.Starts)))from rfl)
 rw[hn]at hm ⊢
 clear hn
 have hz9:p.Rest.size≤9223372036854775807:=by omega
 go_enter Tryz.func324,Tryz.ntmps324
 go_wp2_with fail
 go_loopw [3] (fun v wr=>∃ k:Nat,v=.int .i64 k∧k≤n∧Hid (ascGo (startOk p.Rest.size) (fun s=>s) (prevOf p.Starts k) (p.Starts.drop k)=ascGo (startOk p.Rest.size) (fun s=>s) none p.Starts)∧∃ X:Later (w.alloc (.cells #[.int .i64 p.Channel,.int .i64 p.Count,.string p.Rest,.slice a n c] 85)),wr=X.w) (fun v _=>(n - intOf v).toNat)
 case atStart=>exact⟨0,rfl,by omega,rfl,Later.of⟩
 case round =>
  obtain⟨k,rfl,hk,HV,X,rfl⟩:=hrel
  by_cases h:k<n
  ·have hkl:k<p.Starts.length:=by have:=HN.out;omega
   obtain⟨eb,eoff,es,rfl,ehb,ehd,eok,eh0⟩:=hs.atInt hkl
   have EOK:=lH eok;clear eok hkl
   cases d1:inB es 0 (p.Rest.size - 1)
   ·have HF:=lH (show ascGo (startOk p.Rest.size) (fun s=>s) none p.Starts=false by have:=HV.out;rw[ehd.out]at this;rw[← this];cases prevOf p.Starts k<;>simp[ascGo,startOk,d1])
    go_wp2_with (first|((with_reducible refine wp_region_later (by kernel_rfl) (by kernel_rfl) ?_);(repeat(first|go_big_quiet_step (first|(go_at_call 158;exact Gives.quiet (c_sl01In)))|simp only[d1]));refine wpQuiet_nil ?_;rintro _ ⟨x,rfl⟩)|(go_at_call 158;refine(c_sl01In).mono ?_;rintro _ _ ⟨rfl,x,rfl⟩))
    go_ret
    exact Gives.mk (by rw[HD.out,HF.out];simp)
   ·by_cases hz0:k=0
    ·have HF:=lH (show ascGo (startOk p.Rest.size) (fun s=>s) (prevOf p.Starts (k+1)) (p.Starts.drop (k+1))=ascGo (startOk p.Rest.size) (fun s=>s) none p.Starts by have:=HV.out;rw[ehd.out,hz0]at this;rw[prevOf_succ ehd.out,← this];simp[ascGo,prevOf,startOk,d1,hz0])
     have hz':decide (0<(k:Int))=false:=by simp;omega
     have hz2:decide (0<k)=false:=by simp;omega
     clear hz0
     go_wp2_with (first|((with_reducible refine wp_region_later (by kernel_rfl) (by kernel_rfl) ?_);(repeat(first|go_big_quiet_step (first|(go_at_call 158;exact Gives.quiet (c_sl01In)))|simp only[d1]|simp only[hz']|simp only[hz2]));refine wpQuiet_nil ?_;rintro _ ⟨x,rfl⟩)|(go_at_call 158;refine(c_sl01In).mono ?_;rintro _ _ ⟨rfl,x,rfl⟩))
     go_roundw
     case rel=>exact⟨k+1,by go_num,by omega,HF,Later.of⟩
     case measure=>simp[intOf];omega
    ·obtain⟨fb,foff,fs,hbo,fhb,fhd,fok,fh0⟩:=hs.atInt (show k - 1<p.Starts.length by have:=HN.out;omega)
     simp only[Option.some.injEq,Addr.mk.injEq,and_true]at hbo
     obtain⟨rfl,rfl⟩:=hbo
     have FOK:=lH fok;clear fok
     have hz':decide (0<(k:Int))=true:=by simp;omega
     have hz2:decide (0<k)=true:=by simp;omega
     have hp:prevOf p.Starts k=some fs:=by have:=prevOf_succ fhd.out;rwa[show k - 1+1=k from by omega]at this
     have HP:=lH hp;clear hp
     cases d2:decide (es≤fs)
     ·have HF:=lH (show ascGo (startOk p.Rest.size) (fun s=>s) (prevOf p.Starts (k+1)) (p.Starts.drop (k+1))=ascGo (startOk p.Rest.size) (fun s=>s) none p.Starts by have:=HV.out;rw[ehd.out,HP.out]at this;rw[prevOf_succ ehd.out,← this];have h2:decide (fs<es)=true:=(by simp at d2 ⊢;omega);simp only[ascGo,startOk,d1,h2,Bool.true_and])
      go_wp2_with (first|((with_reducible refine wp_region_later (by kernel_rfl) (by kernel_rfl) ?_);(repeat(first|go_big_quiet_step (first|(go_at_call 158;exact Gives.quiet (c_sl01In)))|simp only[d1]|simp only[d2]|simp only[hz']|simp only[hz2]));refine wpQuiet_nil ?_;rintro _ ⟨x,rfl⟩)|(go_at_call 158;refine(c_sl01In).mono ?_;rintro _ _ ⟨rfl,x,rfl⟩))
      go_roundw
      case rel=>exact⟨k+1,by go_num,by omega,HF,Later.of⟩
      case measure=>simp[intOf];omega
     ·have HF:=lH (show ascGo (startOk p.Rest.size) (fun s=>s) none p.Starts=false by have:=HV.out;rw[ehd.out,HP.out]at this;rw[← this];have h2:decide (fs<es)=false:=(by simp at d2 ⊢;omega);simp only[ascGo,startOk,d1,h2,Bool.true_and,Bool.false_and])
      go_wp2_with (first|((with_reducible refine wp_region_later (by kernel_rfl) (by kernel_rfl) ?_);(repeat(first|go_big_quiet_step (first|(go_at_call 158;exact Gives.quiet (c_sl01In)))|simp only[d1]|simp only[d2]|simp only[hz']|simp only[hz2]));refine wpQuiet_nil ?_;rintro _ ⟨x,rfl⟩)|(go_at_call 158;refine(c_sl01In).mono ?_;rintro _ _ ⟨rfl,x,rfl⟩))
      go_ret
      exact Gives.mk (by rw[HD.out,HF.out];simp)
  ·have HF:=lH (show ascGo (startOk p.Rest.size) (fun s=>s) none p.Starts=true by have:=HV.out;rw[List.drop_of_length_le (by have:=HN.out;omega)]at this;rw[← this];cases prevOf p.Starts k<;>rfl)
   cases c0:inB p.Channel 0 2
   ·go_wp2_with (first|(go_at_call 158;refine(c_sl01In).mono ?_;rintro _ _ ⟨rfl,x,rfl⟩))
    go_ret
    exact Gives.mk (by rw[HD.out,c0];rfl)
   cases c1:inB p.Count 0 255
   ·go_wp2_with (first|(go_at_call 158;refine(c_sl01In).mono ?_;rintro _ _ ⟨rfl,x,rfl⟩))
    go_ret
    exact Gives.mk (by rw[HD.out,c0,c1];rfl)
   cases kr:decide ((p.Rest.size:Int)≤5000)
   ·go_wp2_with (first|(go_at_call 158;refine(c_sl01In).mono ?_;rintro _ _ ⟨rfl,x,rfl⟩))
    go_ret
    exact Gives.mk (by rw[HD.out,c0,c1,kr];rfl)
   ·go_wp2_with (first|(go_at_call 158;refine(c_sl01In).mono ?_;rintro _ _ ⟨rfl,x,rfl⟩))
    go_ret
    exact Gives.mk (by rw[HD.out,c0,c1,kr,HF.out];rfl)
theorem RdS.toSlInt{B:Nat}{w:World}{a:Option Addr}{c:Nat}{l:List Int}(h:RdS B w a c l):Sl encInt w a l:=fun i s hx=>by
 obtain⟨b,off,vs,h0,-,h2,h3,h4⟩:=h.2.2.2 i s hx
 exact⟨b,off,h0,h2,fun j v hv=>by
  obtain⟨rfl,-⟩:=h3
  have:=h4 j v hv
  rw[show Enc.size Int=(encInt s).length from rfl]at this
  exact this⟩
def used:List TRecord→Int
 | []=>0
 | s::r=>6+s.Data.size+used r
def recorderOk(r:TRecorder):Bool:=inB r.Room 0 4000 && (decide ((r.Dropped.length:Int)≤65536) && (ascGo recordOk TRecord.Id none r.Records && (decide (used r.Records≤r.Room) && allB 0 65535 r.Dropped)))
theorem memDrop{α:Type}{l r:List α}{s:α}{k:Nat}(h:l.drop k=s::r):s∈l:=by
 have:s∈l.drop k:=by rw[h];simp
 exact List.mem_of_mem_drop this
theorem recordOk_size{s:TRecord}(h:recordOk s=true):s.Data.size≤34:=by
 simp only[recordOk,Bool.and_eq_true,decide_eq_true_eq]at h;omega
theorem ascGo_all{α:Type}{good:α→Bool}{key:α→Int}:∀ {l:List α} {q:Option α},ascGo good key q l=true→l.all good=true
 | [],_,_=>rfl
 | s::r,none,h=>by simp only[ascGo,Bool.and_eq_true]at h;simp only[List.all_cons,Bool.and_eq_true];exact⟨h.1,ascGo_all h.2⟩
 | s::r,some q,h=>by simp only[ascGo,Bool.and_eq_true]at h;simp only[List.all_cons,Bool.and_eq_true];exact⟨h.1,ascGo_all h.2.2⟩
theorem k_irecordSize{s:TRecord}{w:World}(hz:s.Data.size≤34) :
  Calls Tryz.prog 451 #[.agg #[.int .i64 s.Id,.int .i64 s.Priority,.int .i64 s.Time,.string s.Data]] w (Gives w (.int .i64 (6+(s.Data.size:Int)))):=by
 have hz9:s.Data.size≤9223372036854775807:=by omega
 go_enter Tryz.func451,Tryz.ntmps451
 go_wp2_with fail
 go_ret
 exact Gives.mk rfl
theorem k_sl05Used{B n:Nat}{a:Option Addr}{c:Nat}{l:List TRecord}{w0 w:World}(hs0:RdS B w0 a c l:=by first|assumption|(apply Sl.to<;>first|assumption|infer_instance)|omega)[g:Keeps B w0 w](hn:l.length=n:=by first|assumption|(apply Sl.to<;>first|assumption|infer_instance)|omega)(hm:n≤100000000:=by first|assumption|(apply Sl.to<;>first|assumption|infer_instance)|omega)(hall:l.all recordOk=true:=by first|assumption|(apply Sl.to<;>first|assumption|infer_instance)|omega) :
  Calls Tryz.prog 427 #[.slice a n c] w (Gives w (.int .i64 (used l))):=by
 have HN:=lH hn
 have HA:=lH hall;clear hall
 have hs:=hs0.to g;clear hs0
 clear hn
 go_enter Tryz.func427,Tryz.ntmps427
 go_wp2_with fail
 go_loopw [3,4] (fun u v wr=>∃ (k:Nat) (m:Int),v=.int .i64 k∧u=.int .i64 m∧k≤n∧0≤m∧m≤40*k∧Hid (m+used (l.drop k)=used l)∧∃ y:Later w,wr=y.w) (fun _ v _=>(n - intOf v).toNat)
 case atStart=>exact⟨0,0,rfl,rfl,by omega,by omega,by omega,by rw[Hid];simp,Later.of⟩
 case round =>
  obtain⟨k,m,rfl,rfl,hk,hm0,hm1,HV,y,rfl⟩:=hrel
  by_cases h:k<n
  ·have hkl:k<l.length:=by have:=HN.out;omega
   obtain⟨eb,eoff,es,rfl,ehb,ehd,eok,eh0,eh1,eh2,eh3⟩:=hs.atTRecord hkl
   have hz:es.Data.size≤34:=recordOk_size (List.all_eq_true.1 HA.out es (memDrop ehd.out))
   have hz9:es.Data.size≤9223372036854775807:=by omega
   have EOK:=lH eok;clear eok hkl
   have HF:=lH (show m+6+es.Data.size+used (l.drop (k+1))=used l by have:=HV.out;rw[ehd.out,used]at this;omega)
   go_wp2_with fail
   go_roundw
   case rel=>exact⟨k+1,m+6+es.Data.size,by go_num,by go_num,by omega,by omega,by omega,HF,Later.of⟩
   case measure=>simp[intOf];omega
  ·have HF:=lH (show m=used l by have:=HV.out;rw[List.drop_of_length_le (by have:=HN.out;omega),used]at this;omega)
   go_wp2_with fail
   go_ret
   exact Gives.mk (by rw[HF.out];rfl)
theorem k_iRecorderOk{B:Nat}{a a2:Option Addr}{c c2:Nat}{rr:TRecorder}{w:World}(hs:RdS B w a c rr.Records)(hs2:RdS B w a2 c2 rr.Dropped)(hm:rr.Records.length≤100000000)(hm2:rr.Dropped.length≤100000000) :
  Calls Tryz.prog 400 #[.agg #[.int .i64 rr.Room,.slice a rr.Records.length c,.slice a2 rr.Dropped.length c2]] w (Gives w (.bool (recorderOk rr))):=by
 obtain⟨n,hn⟩:∃ n,rr.Records.length=n:=⟨_,rfl⟩
 obtain⟨nd,hnd⟩:∃ nd,rr.Dropped.length=nd:=⟨_,rfl⟩
 have HN:=lH hn
 have HND:=lH hnd
 have HD:=lH (show recorderOk rr=(inB rr.Room 0 4000 && (decide ((nd:Int)≤65536) && (ascGo recordOk TRecord.Id none rr.Records && (decide (used rr.Records≤rr.Room) && allB 0 65535 rr.Dropped))))by rw[recorderOk,hnd])
 rw[hn]at hm ⊢
 rw[hnd]at hm2 ⊢
 clear hn hnd
 cases c0:inB rr.Room 0 4000
 ·go_enter Tryz.func400,Tryz.ntmps400
  go_wp2_with (first|(go_at_call 156;refine(c_ibetween).mono ?_;rintro _ _ ⟨rfl,x,rfl⟩))
  go_ret
  exact Gives.mk (by rw[HD.out,c0];rfl)
 by_cases hr:nd≤65536
 ·have kr:decide (65536<(nd:Int))=false:=by simp;omega
  have hd3:decide ((nd:Int)≤65536)=true:=by simp;omega
  have⟨hro1,hro2⟩:=inB_iff.1 c0
  have HD2:=lH (show recorderOk rr=(ascGo recordOk TRecord.Id none rr.Records && (decide (used rr.Records≤rr.Room) && allB 0 65535 rr.Dropped))by rw[HD.out,c0,hd3];rfl)
  clear HD hd3
  go_enter Tryz.func400,Tryz.ntmps400
  go_wp2_with (first|(go_at_call 156;refine(c_ibetween).mono ?_;rintro _ _ ⟨rfl,x,rfl⟩))
  clear c0 kr
  go_loopw [3,19] (fun u v wr=>∃ (k:Nat) (m:Int),v=.int .i64 k∧k≤n∧Hid (ascGo recordOk TRecord.Id (prevOf rr.Records k) (rr.Records.drop k)=ascGo recordOk TRecord.Id none rr.Records)∧u=.int .i64 m∧0≤m∧m≤40*k∧Hid (m+used (rr.Records.drop k)=used rr.Records)∧∃ X:Later (w.alloc (.cells #[.int .i64 rr.Room,.slice a n c,.slice a2 nd c2] 82)),wr=X.w) (fun _ v _=>(n - intOf v).toNat)
  case atStart=>exact⟨0,0,rfl,by omega,rfl,rfl,by omega,by omega,by rw[Hid];simp,Later.of⟩
  case round =>
   obtain⟨k,m,rfl,hk,HV,rfl,hm0,hm1,HU,X,rfl⟩:=hrel
   by_cases h:k<n
   ·have hkl:k<rr.Records.length:=by have:=HN.out;omega
    obtain⟨eb,eoff,es,rfl,ehb,ehd,eok,eh0,eh1,eh2,eh3⟩:=hs.atTRecord hkl
    have hx1:es.Data.size≤9223372036854775807:=eok.2.2.2.1
    have EOK:=lH eok;clear eok hkl
    cases d1:recordOk es
    ·have HF:=lH (show ascGo recordOk TRecord.Id none rr.Records=false by have:=HV.out;rw[ehd.out]at this;rw[← this];cases prevOf rr.Records k<;>simp[ascGo,d1])
     go_wp2_with (first|((with_reducible refine wp_region_later (by kernel_rfl) (by kernel_rfl) ?_);(repeat(first|go_big_quiet_step (first|(go_at_call 420;exact Gives.quiet (k_iRecordOk (by omega)))|(go_at_call 451;exact Gives.quiet (k_irecordSize (by omega))))|simp only[d1]));refine wpQuiet_nil ?_;rintro _ ⟨x,rfl⟩)|(go_at_call 420;refine(k_iRecordOk (by omega)).mono ?_;rintro _ _ ⟨rfl,x,rfl⟩)|(go_at_call 451;refine(k_irecordSize (by omega)).mono ?_;rintro _ _ ⟨rfl,x,rfl⟩))
     go_ret
     exact Gives.mk (by rw[HD2.out,HF.out];rfl)
    ·have hz34:=recordOk_size d1
     have HG:=lH (show m+(6+(es.Data.size:Int))+used (rr.Records.drop (k+1))=used rr.Records by have:=HU.out;rw[ehd.out,used]at this;omega)
     by_cases hz0:k=0
     ·have HF:=lH (show ascGo recordOk TRecord.Id (prevOf rr.Records (k+1)) (rr.Records.drop (k+1))=ascGo recordOk TRecord.Id none rr.Records by have:=HV.out;rw[ehd.out,hz0]at this;rw[prevOf_succ ehd.out,← this];simp[ascGo,prevOf,d1,hz0])
      have hz':decide (0<(k:Int))=false:=by simp;omega
      have hz2:decide (0<k)=false:=by simp;omega
      clear hz0
      go_wp2_with (first|((with_reducible refine wp_region_later (by kernel_rfl) (by kernel_rfl) ?_);(repeat(first|go_big_quiet_step (first|(go_at_call 420;exact Gives.quiet (k_iRecordOk (by omega)))|(go_at_call 451;exact Gives.quiet (k_irecordSize (by omega))))|simp only[d1]|simp only[hz']|simp only[hz2]));refine wpQuiet_nil ?_;rintro _ ⟨x,rfl⟩)|(go_at_call 420;refine(k_iRecordOk (by omega)).mono ?_;rintro _ _ ⟨rfl,x,rfl⟩)|(go_at_call 451;refine(k_irecordSize (by omega)).mono ?_;rintro _ _ ⟨rfl,x,rfl⟩))
      go_roundw
      case rel=>exact⟨k+1,m+(6+es.Data.size),by go_num,by omega,HF,by go_num,by omega,by omega,HG,Later.of⟩
      case measure=>simp[intOf];omega
     ·obtain⟨fb,foff,fs,hbo,fhb,fhd,fok,fh0,fh1,fh2,fh3⟩:=hs.atTRecord (show k - 1<rr.Records.length by have:=HN.out;omega)
      simp only[Option.some.injEq,Addr.mk.injEq,and_true]at hbo
      obtain⟨rfl,rfl⟩:=hbo
      have FOK:=lH fok;clear fok
      have hz':decide (0<(k:Int))=true:=by simp;omega
      have hz2:decide (0<k)=true:=by simp;omega
      have hp:prevOf rr.Records k=some fs:=by have:=prevOf_succ fhd.out;rwa[show k - 1+1=k from by omega]at this
      have HP:=lH hp;clear hp
      cases d2:decide (es.Id≤fs.Id)
      ·have HF:=lH (show ascGo recordOk TRecord.Id (prevOf rr.Records (k+1)) (rr.Records.drop (k+1))=ascGo recordOk TRecord.Id none rr.Records by have:=HV.out;rw[ehd.out,HP.out]at this;rw[prevOf_succ ehd.out,← this];have h2:decide (fs.Id<es.Id)=true:=(by simp at d2 ⊢;omega);simp only[ascGo,d1,h2,Bool.true_and])
       go_wp2_with (first|((with_reducible refine wp_region_later (by kernel_rfl) (by kernel_rfl) ?_);(repeat(first|go_big_quiet_step (first|(go_at_call 420;exact Gives.quiet (k_iRecordOk (by omega)))|(go_at_call 451;exact Gives.quiet (k_irecordSize (by omega))))|simp only[d1]|simp only[d2]|simp only[hz']|simp only[hz2]));refine wpQuiet_nil ?_;rintro _ ⟨x,rfl⟩)|(go_at_call 420;refine(k_iRecordOk (by omega)).mono ?_;rintro _ _ ⟨rfl,x,rfl⟩)|(go_at_call 451;refine(k_irecordSize (by omega)).mono ?_;rintro _ _ ⟨rfl,x,rfl⟩))
       go_roundw
       case rel=>exact⟨k+1,m+(6+es.Data.size),by go_num,by omega,HF,by go_num,by omega,by omega,HG,Later.of⟩
       case measure=>simp[intOf];omega
      ·have HF:=lH (show ascGo recordOk TRecord.Id none rr.Records=false by have:=HV.out;rw[ehd.out,HP.out]at this;rw[← this];have h2:decide (fs.Id<es.Id)=false:=(by simp at d2 ⊢;omega);simp only[ascGo,d1,h2,Bool.true_and,Bool.false_and])
       go_wp2_with (first|((with_reducible refine wp_region_later (by kernel_rfl) (by kernel_rfl) ?_);(repeat(first|go_big_quiet_step (first|(go_at_call 420;exact Gives.quiet (k_iRecordOk (by omega)))|(go_at_call 451;exact Gives.quiet (k_irecordSize (by omega))))|simp only[d1]|simp only[d2]|simp only[hz']|simp only[hz2]));refine wpQuiet_nil ?_;rintro _ ⟨x,rfl⟩)|(go_at_call 420;refine(k_iRecordOk (by omega)).mono ?_;rintro _ _ ⟨rfl,x,rfl⟩)|(go_at_call 451;refine(k_irecordSize (by omega)).mono ?_;rintro _ _ ⟨rfl,x,rfl⟩))
       go_ret
       exact Gives.mk (by rw[HD2.out,HF.out];rfl)
   ·have HALL:=lH (show ascGo recordOk TRecord.Id none rr.Records=true by have:=HV.out;rw[List.drop_of_length_le (by have:=HN.out;omega)]at this;rw[← this];cases prevOf rr.Records k<;>rfl)
    have HM:=lH (show m=used rr.Records by have:=HU.out;rw[List.drop_of_length_le (by have:=HN.out;omega),used]at this;omega)
    have hsl:=hs2.toSlInt
    have hln:rr.Dropped.length=nd:=HND.out
    cases d1:decide (rr.Room<m)
    ·have hu:decide (used rr.Records≤rr.Room)=true:=by rw[← HM.out];simp at d1 ⊢;omega
     have HE:=lH (show recorderOk rr=allB 0 65535 rr.Dropped by rw[HD2.out,HALL.out,hu];rfl)
     clear hu
     go_wp2_with (first|(go_at_call 156;refine(c_ibetween).mono ?_;rintro _ _ ⟨rfl,x,rfl⟩)|(go_at_call 233;refine(c_iallBetween).mono ?_;rintro _ _ ⟨rfl,x,rfl⟩))
     go_ret
     exact Gives.mk (by rw[HE.out];rfl)
    ·have hu:decide (used rr.Records≤rr.Room)=false:=by rw[← HM.out];simp at d1 ⊢;omega
     have HE:=lH (show recorderOk rr=false by rw[HD2.out,HALL.out,hu];rfl)
     clear hu
     go_wp2_with (first|(go_at_call 156;refine(c_ibetween).mono ?_;rintro _ _ ⟨rfl,x,rfl⟩))
     go_ret
     exact Gives.mk (by rw[HE.out];rfl)
 ·have kr:decide (65536<(nd:Int))=true:=by simp;omega
  have hd3:decide ((nd:Int)≤65536)=false:=by simp;omega
  go_enter Tryz.func400,Tryz.ntmps400
  go_wp2_with (first|(go_at_call 156;refine(c_ibetween).mono ?_;rintro _ _ ⟨rfl,x,rfl⟩))
  go_ret
  exact Gives.mk (by rw[HD.out,c0,hd3];rfl)
theorem k_sRecorderOk{B:Nat}{a a2:Option Addr}{c c2:Nat}{rr:TRecorder}{w:World}(hs:RdS B w a c rr.Records)(hs2:RdS B w a2 c2 rr.Dropped)(hm:rr.Records.length≤100000000)(hm2:rr.Dropped.length≤100000000) :
  Calls Tryz.prog 320 #[.agg #[.int .i64 rr.Room,.slice a rr.Records.length c,.slice a2 rr.Dropped.length c2]] w (Gives w (.bool (recorderOk rr))):=by
 obtain⟨n,hn⟩:∃ n,rr.Records.length=n:=⟨_,rfl⟩
 obtain⟨nd,hnd⟩:∃ nd,rr.Dropped.length=nd:=⟨_,rfl⟩
 have HN:=lH hn
 have HND:=lH hnd
 have HD:=lH (show recorderOk rr=(inB rr.Room 0 4000 && (decide ((nd:Int)≤65536) && (ascGo recordOk TRecord.Id none rr.Records && (decide (used rr.Records≤rr.Room) && allB 0 65535 rr.Dropped))))by rw[recorderOk,hnd])
 rw[hn]at hm ⊢
 rw[hnd]at hm2 ⊢
 clear hn hnd
 cases c0:inB rr.Room 0 4000
 ·go_enter Tryz.func320,Tryz.ntmps320
  go_wp2_with (first|(go_at_call 158;refine(c_sl01In).mono ?_;rintro _ _ ⟨rfl,x,rfl⟩))
  go_ret
  exact Gives.mk (by rw[HD.out,c0];rfl)
 by_cases hr:nd≤65536
 ·have kr:decide (65536<(nd:Int))=false:=by simp;omega
  have hd3:decide ((nd:Int)≤65536)=true:=by simp;omega
  have⟨hro1,hro2⟩:=inB_iff.1 c0
  have HD2:=lH (show recorderOk rr=(ascGo recordOk TRecord.Id none rr.Records && (decide (used rr.Records≤rr.Room) && allB 0 65535 rr.Dropped))by rw[HD.out,c0,hd3];rfl)
  clear HD hd3
  go_enter Tryz.func320,Tryz.ntmps320
  go_wp2_with (first|(go_at_call 158;refine(c_sl01In).mono ?_;rintro _ _ ⟨rfl,x,rfl⟩))
  clear c0 kr
  go_loopw [3] (fun v wr=>∃ k:Nat,v=.int .i64 k∧k≤nd∧Hid (allB 0 65535 (rr.Dropped.drop k)=allB 0 65535 rr.Dropped)∧∃ X:Later (w.alloc (.cells #[.int .i64 rr.Room,.slice a n c,.slice a2 nd c2] 82)),wr=X.w) (fun v _=>(nd - intOf v).toNat)
  case atStart=>exact⟨0,rfl,by omega,rfl,Later.of⟩
  case round =>
   obtain⟨k,rfl,hk,HV,X,rfl⟩:=hrel
   by_cases h:k<nd
   ·have hkl:k<rr.Dropped.length:=by have:=HND.out;omega
    obtain⟨eb,eoff,es,rfl,ehb,ehd,eok,eh0⟩:=hs2.atInt hkl
    have EOK:=lH eok;clear eok hkl
    cases d1:inB es 0 65535
    ·have HF:=lH (show allB 0 65535 rr.Dropped=false by have:=HV.out;rw[ehd.out,allB,d1]at this;rw[← this];rfl)
     go_wp2_with (first|(go_at_call 158;refine(c_sl01In).mono ?_;rintro _ _ ⟨rfl,x,rfl⟩))
     go_ret
     exact Gives.mk (by rw[HD2.out,HF.out];simp)
    ·have HF:=lH (show allB 0 65535 (rr.Dropped.drop (k+1))=allB 0 65535 rr.Dropped by have:=HV.out;rw[ehd.out,allB,d1]at this;exact this)
     go_wp2_with (first|(go_at_call 158;refine(c_sl01In).mono ?_;rintro _ _ ⟨rfl,x,rfl⟩))
     go_roundw
     case rel=>exact⟨k+1,by go_num,by omega,HF,Later.of⟩
     case measure=>simp[intOf];omega
   ·have HB:=lH (show allB 0 65535 rr.Dropped=true by have:=HV.out;rw[List.drop_of_length_le (by have:=HND.out;omega),allB]at this;rw[← this])
    clear HV
    go_wp2_with fail
    go_loopw [4] (fun v wr=>∃ (k:Nat),v=.int .i64 k∧k≤n∧Hid (ascGo recordOk TRecord.Id (prevOf rr.Records k) (rr.Records.drop k)=ascGo recordOk TRecord.Id none rr.Records)∧∃ X:Later (w.alloc (.cells #[.int .i64 rr.Room,.slice a n c,.slice a2 nd c2] 82)),wr=X.w) (fun v _=>(n - intOf v).toNat)
    case atStart=>exact⟨0,rfl,by omega,rfl,Later.of⟩
    case round =>
     obtain⟨k,rfl,hk,HV,X,rfl⟩:=hrel
     by_cases h:k<n
     ·have hkl:k<rr.Records.length:=by have:=HN.out;omega
      obtain⟨eb,eoff,es,rfl,ehb,ehd,eok,eh0,eh1,eh2,eh3⟩:=hs.atTRecord hkl
      have hx1:es.Data.size≤9223372036854775807:=eok.2.2.2.1
      have EOK:=lH eok;clear eok hkl
      cases d1:recordOk es
      ·have HF:=lH (show ascGo recordOk TRecord.Id none rr.Records=false by have:=HV.out;rw[ehd.out]at this;rw[← this];cases prevOf rr.Records k<;>simp[ascGo,d1])
       go_wp2_with (first|((with_reducible refine wp_region_later (by kernel_rfl) (by kernel_rfl) ?_);(repeat(first|go_big_quiet_step (first|(go_at_call 321;exact Gives.quiet (k_sRecordOk (by omega))))|simp only[d1]));refine wpQuiet_nil ?_;rintro _ ⟨x,rfl⟩)|(go_at_call 321;refine(k_sRecordOk (by omega)).mono ?_;rintro _ _ ⟨rfl,x,rfl⟩))
       go_ret
       exact Gives.mk (by rw[HD2.out,HF.out];rfl)
      ·skip
       by_cases hz0:k=0
       ·have HF:=lH (show ascGo recordOk TRecord.Id (prevOf rr.Records (k+1)) (rr.Records.drop (k+1))=ascGo recordOk TRecord.Id none rr.Records by have:=HV.out;rw[ehd.out,hz0]at this;rw[prevOf_succ ehd.out,← this];simp[ascGo,prevOf,d1,hz0])
        have hz':decide (0<(k:Int))=false:=by simp;omega
        have hz2:decide (0<k)=false:=by simp;omega
        clear hz0
        go_wp2_with (first|((with_reducible refine wp_region_later (by kernel_rfl) (by kernel_rfl) ?_);(repeat(first|go_big_quiet_step (first|(go_at_call 321;exact Gives.quiet (k_sRecordOk (by omega))))|simp only[d1]|simp only[hz']|simp only[hz2]));refine wpQuiet_nil ?_;rintro _ ⟨x,rfl⟩)|(go_at_call 321;refine(k_sRecordOk (by omega)).mono ?_;rintro _ _ ⟨rfl,x,rfl⟩))
        go_roundw
        case rel=>exact⟨k+1,by go_num,by omega,HF,Later.of⟩
        case measure=>simp[intOf];omega
       ·obtain⟨fb,foff,fs,hbo,fhb,fhd,fok,fh0,fh1,fh2,fh3⟩:=hs.atTRecord (show k - 1<rr.Records.length by have:=HN.out;omega)
        simp only[Option.some.injEq,Addr.mk.injEq,and_true]at hbo
        obtain⟨rfl,rfl⟩:=hbo
        have FOK:=lH fok;clear fok
        have hz':decide (0<(k:Int))=true:=by simp;omega
        have hz2:decide (0<k)=true:=by simp;omega
        have hp:prevOf rr.Records k=some fs:=by have:=prevOf_succ fhd.out;rwa[show k - 1+1=k from by omega]at this
        have HP:=lH hp;clear hp
        cases d2:decide (es.Id≤fs.Id)
        ·have HF:=lH (show ascGo recordOk TRecord.Id (prevOf rr.Records (k+1)) (rr.Records.drop (k+1))=ascGo recordOk TRecord.Id none rr.Records by have:=HV.out;rw[ehd.out,HP.out]at this;rw[prevOf_succ ehd.out,← this];have h2:decide (fs.Id<es.Id)=true:=(by simp at d2 ⊢;omega);simp only[ascGo,d1,h2,Bool.true_and])
         go_wp2_with (first|((with_reducible refine wp_region_later (by kernel_rfl) (by kernel_rfl) ?_);(repeat(first|go_big_quiet_step (first|(go_at_call 321;exact Gives.quiet (k_sRecordOk (by omega))))|simp only[d1]|simp only[d2]|simp only[hz']|simp only[hz2]));refine wpQuiet_nil ?_;rintro _ ⟨x,rfl⟩)|(go_at_call 321;refine(k_sRecordOk (by omega)).mono ?_;rintro _ _ ⟨rfl,x,rfl⟩))
         go_roundw
         case rel=>exact⟨k+1,by go_num,by omega,HF,Later.of⟩
         case measure=>simp[intOf];omega
        ·have HF:=lH (show ascGo recordOk TRecord.Id none rr.Records=false by have:=HV.out;rw[ehd.out,HP.out]at this;rw[← this];have h2:decide (fs.Id<es.Id)=false:=(by simp at d2 ⊢;omega);simp only[ascGo,d1,h2,Bool.true_and,Bool.false_and])
         go_wp2_with (first|((with_reducible refine wp_region_later (by kernel_rfl) (by kernel_rfl) ?_);(repeat(first|go_big_quiet_step (first|(go_at_call 321;exact Gives.quiet (k_sRecordOk (by omega))))|simp only[d1]|simp only[d2]|simp only[hz']|simp only[hz2]));refine wpQuiet_nil ?_;rintro _ ⟨x,rfl⟩)|(go_at_call 321;refine(k_sRecordOk (by omega)).mono ?_;rintro _ _ ⟨rfl,x,rfl⟩))
         go_ret
         exact Gives.mk (by rw[HD2.out,HF.out];rfl)
     ·have HALL:=lH (show ascGo recordOk TRecord.Id none rr.Records=true by have:=HV.out;rw[List.drop_of_length_le (by have:=HN.out;omega)]at this;rw[← this];cases prevOf rr.Records k<;>rfl)
      have hall:=ascGo_all HALL.out
      have hln:rr.Records.length=n:=HN.out
      cases d1:decide (used rr.Records≤rr.Room)
      ·have HE:=lH (show recorderOk rr=false by rw[HD2.out,HALL.out,d1];rfl)
       go_wp2_with (first|((with_reducible refine wp_region_later (by kernel_rfl) (by kernel_rfl) ?_);(repeat(first|go_big_quiet_step (first|(go_at_call 427;exact Gives.quiet (k_sl05Used)))|simp only[d1]));refine wpQuiet_nil ?_;rintro _ ⟨x,rfl⟩)|(go_at_call 427;refine(k_sl05Used).mono ?_;rintro _ _ ⟨rfl,x,rfl⟩))
       go_ret
       exact Gives.mk (by rw[HE.out];first|rfl|(rw[d1]))
      ·have HE:=lH (show recorderOk rr=true by rw[HD2.out,HALL.out,d1,HB.out];rfl)
       go_wp2_with (first|((with_reducible refine wp_region_later (by kernel_rfl) (by kernel_rfl) ?_);(repeat(first|go_big_quiet_step (first|(go_at_call 427;exact Gives.quiet (k_sl05Used)))|simp only[d1]));refine wpQuiet_nil ?_;rintro _ ⟨x,rfl⟩)|(go_at_call 427;refine(k_sl05Used).mono ?_;rintro _ _ ⟨rfl,x,rfl⟩))
       go_ret
       exact Gives.mk (by rw[HE.out];first|rfl|(rw[d1]))
 ·have kr:decide (65536<(nd:Int))=true:=by simp;omega
  have hd3:decide ((nd:Int)≤65536)=false:=by simp;omega
  go_enter Tryz.func320,Tryz.ntmps320
  go_wp2_with (first|(go_at_call 158;refine(c_sl01In).mono ?_;rintro _ _ ⟨rfl,x,rfl⟩))
  go_ret
  exact Gives.mk (by rw[HD.out,c0,hd3];rfl)
theorem RdS.slStr{B:Nat}{w:World}{a:Option Addr}{c:Nat}{l:List ByteArray}(h:RdS B w a c l):Sl encStr w a l:=fun i s hx=>by
 obtain⟨b,off,vs,h0,-,h2,h3,h4⟩:=h.2.2.2 i s hx
 exact⟨b,off,h0,h2,fun j v hv=>by
  obtain⟨rfl,-⟩:=h3
  have:=h4 j v hv
  rw[show Enc.size ByteArray=(encStr s).length from rfl]at this
  exact this⟩
def fileOutOkT(f:TFileOut):Bool:=fileOutOk f.File f.Data.size f.Queue
def fileInOkT(f:TFileIn):Bool:=fileInOk f.File f.Size f.Check f.Parts
theorem k_iFileOutOk{B n:Nat}{a:Option Addr}{c:Nat}{f:TFileOut}{w0 w:World}(hs0:RdS B w0 a c f.Queue:=by first|assumption|(apply Sl.to<;>first|assumption|infer_instance)|omega)[g:Keeps B w0 w](hn:f.Queue.length=n:=by first|assumption|(apply Sl.to<;>first|assumption|infer_instance)|omega)(hm:n≤100000000:=by first|assumption|(apply Sl.to<;>first|assumption|infer_instance)|omega)(hz:f.Data.size≤100000000:=by first|assumption|(apply Sl.to<;>first|assumption|infer_instance)|omega) :
  Calls Tryz.prog 270 #[.agg #[.int .i64 f.File,.string f.Data,.slice a n c,.bool f.Done]] w (Gives w (.bool (fileOutOkT f))) :=
 c_iFileOutOk (hs0.to g).toSlInt hn (by omega) hz
theorem k_sFileOutOk{B n:Nat}{a:Option Addr}{c:Nat}{f:TFileOut}{w0 w:World}(hs0:RdS B w0 a c f.Queue:=by first|assumption|(apply Sl.to<;>first|assumption|infer_instance)|omega)[g:Keeps B w0 w](hn:f.Queue.length=n:=by first|assumption|(apply Sl.to<;>first|assumption|infer_instance)|omega)(hm:n≤100000000:=by first|assumption|(apply Sl.to<;>first|assumption|infer_instance)|omega)(hz:f.Data.size≤100000000:=by first|assumption|(apply Sl.to<;>first|assumption|infer_instance)|omega) :
  Calls Tryz.prog 266 #[.agg #[.int .i64 f.File,.string f.Data,.slice a n c,.bool f.Done]] w (Gives w (.bool (fileOutOkT f))) :=
 c_sFileOutOk (hs0.to g).toSlInt hn (by omega) hz
theorem k_iFileInOk{B n:Nat}{a:Option Addr}{c:Nat}{f:TFileIn}{w0 w:World}(hs0:RdS B w0 a c f.Parts:=by first|assumption|(apply Sl.to<;>first|assumption|infer_instance)|omega)[g:Keeps B w0 w](hn:f.Parts.length=n:=by first|assumption|(apply Sl.to<;>first|assumption|infer_instance)|omega)(hm:n≤100000000:=by first|assumption|(apply Sl.to<;>first|assumption|infer_instance)|omega)(hz:∀ s∈f.Parts,s.size≤100000000:=by first|assumption|(apply Sl.to<;>first|assumption|infer_instance)|omega) :
  Calls Tryz.prog 230 #[.agg #[.int .i64 f.File,.int .i64 f.Size,.int .i64 f.Check,.slice a n c]] w (Gives w (.bool (fileInOkT f))) :=
 c_iFileInOk (hs0.to g).slStr hn (by omega) hz
theorem k_sFileInOk{B n:Nat}{a:Option Addr}{c:Nat}{f:TFileIn}{w0 w:World}(hs0:RdS B w0 a c f.Parts:=by first|assumption|(apply Sl.to<;>first|assumption|infer_instance)|omega)[g:Keeps B w0 w](hn:f.Parts.length=n:=by first|assumption|(apply Sl.to<;>first|assumption|infer_instance)|omega)(hm:n≤100000000:=by first|assumption|(apply Sl.to<;>first|assumption|infer_instance)|omega)(hz:∀ s∈f.Parts,s.size≤100000000:=by first|assumption|(apply Sl.to<;>first|assumption|infer_instance)|omega) :
  Calls Tryz.prog 201 #[.agg #[.int .i64 f.File,.int .i64 f.Size,.int .i64 f.Check,.slice a n c]] w (Gives w (.bool (fileInOkT f))) :=
 c_sFileInOk (hs0.to g).slStr hn (by omega) hz
def firstAt(q:Int):Nat→List TWaiting→Int
 | _,[]=>-1
 | k,s::r=>if s.Number=q then(k:Int)else firstAt q (k+1) r
theorem firstAt_is{q:Int}{s:TWaiting}{r:List TWaiting}(hs:s.Number=q):∀ (l:List TWaiting) (k j:Nat),l.drop j=s::r→(firstAt q k l=((k+j:Nat):Int)↔∀ y∈l.take j,y.Number≠q)
 | [],_,j,h=>by simp at h
 | y::t,k,0,h=>by
  rw[List.drop_zero]at h
  injection h with h1 h2
  rw[firstAt,h1,if_pos hs]
  simp
 | y::t,k,j+1,h=>by
  rw[List.drop_succ_cons]at h
  rw[firstAt,List.take_succ_cons]
  by_cases hy:y.Number=q
  ·rw[if_pos hy]
   constructor
   ·intro e;omega
   ·intro e;exact absurd hy (e y (by simp))
  ·rw[if_neg hy,show((k+(j+1):Nat):Int)=((k+1+j:Nat):Int)from by omega,firstAt_is hs t (k+1) j h]
   constructor
   ·intro e z hz
    rcases List.mem_cons.1 hz with h1|h1
    ·rw[h1];exact hy
    ·exact e z h1
   ·intro e z hz
    exact e z (List.mem_cons_of_mem _ hz)
theorem k_iindexOfOrder{B n:Nat}{a:Option Addr}{c:Nat}{q:Int}{l:List TWaiting}{w0 w:World}(hs0:RdS B w0 a c l:=by first|assumption|(apply Sl.to<;>first|assumption|infer_instance)|omega)[g:Keeps B w0 w](hn:l.length=n:=by first|assumption|(apply Sl.to<;>first|assumption|infer_instance)|omega)(hm:n≤100000000:=by first|assumption|(apply Sl.to<;>first|assumption|infer_instance)|omega) :
  Calls Tryz.prog 401 #[.slice a n c,.int .i64 q] w (Gives w (.int .i64 (firstAt q 0 l))):=by
 have HN:=lH hn
 have hs:=hs0.to g;clear hs0
 clear hn
 go_enter Tryz.func401,Tryz.ntmps401
 go_wp2_with (first|((with_reducible refine wp_region_later (by kernel_rfl) (by kernel_rfl) ?_);(repeat(first|go_big_quiet_step (first|fail)));refine wpQuiet_nil ?_;rintro _ ⟨x,rfl⟩))
 go_loopw [9] (fun v wr=>∃ k:Nat,v=.int .i64 k∧k≤n∧Hid (firstAt q k (l.drop k)=firstAt q 0 l)∧∃ y:Later w,wr=y.w) (fun v _=>(n - intOf v).toNat)
 case atStart=>exact⟨0,rfl,by omega,rfl,Later.of⟩
 case round =>
  obtain⟨k,rfl,hk,HV,y,rfl⟩:=hrel
  by_cases h:k<n
  ·have hkl:k<l.length:=by have:=HN.out;omega
   obtain⟨eb,eoff,es,rfl,ehb,ehd,eok,eh0,eh1,eh2,eh3,eh4⟩:=hs.atTWaiting hkl
   have EOK:=lH eok;clear eok hkl
   by_cases hq:es.Number=q
   ·have kq:(es.Number == q)=true:=by simp[hq]
    have HF:=lH (show(k:Int)=firstAt q 0 l by have:=HV.out;rw[ehd.out,firstAt,if_pos hq]at this;exact this)
    clear hq
    go_wp2_with (first|((with_reducible refine wp_region_later (by kernel_rfl) (by kernel_rfl) ?_);(repeat(first|go_big_quiet_step (first|fail)|simp only[kq]));refine wpQuiet_nil ?_;rintro _ ⟨x,rfl⟩))
    go_ret
    exact Gives.mk (by rw[← HF.out];rfl)
   ·have kq:(es.Number == q)=false:=by simp[hq]
    have HF:=lH (show firstAt q (k+1) (l.drop (k+1))=firstAt q 0 l by have:=HV.out;rw[ehd.out,firstAt,if_neg hq]at this;exact this)
    clear hq
    go_wp2_with (first|((with_reducible refine wp_region_later (by kernel_rfl) (by kernel_rfl) ?_);(repeat(first|go_big_quiet_step (first|fail)|simp only[kq]));refine wpQuiet_nil ?_;rintro _ ⟨x,rfl⟩))
    go_roundw
    case rel=>exact⟨k+1,by go_num,by omega,HF,Later.of⟩
    case measure=>simp[intOf];omega
  ·have HF:=lH (show -1=firstAt q 0 l by have:=HV.out;rw[List.drop_of_length_le (by have:=HN.out;omega),firstAt]at this;exact this)
   go_wp2_with (first|((with_reducible refine wp_region_later (by kernel_rfl) (by kernel_rfl) ?_);(repeat(first|go_big_quiet_step (first|fail)));refine wpQuiet_nil ?_;rintro _ ⟨x,rfl⟩))
   go_ret
   exact Gives.mk (by rw[← HF.out];rfl)
end Go.Proofs.YtgmikiidcpbjbaaGreat
