/- The contracts of MissingOf, NewFileIn and NewFileOut, the code's. No condition but on lengths. -/
import Derived.Test.YtdinhfeflobafaaGreatSWholeL
namespace Go.Proofs.YtdinhfeflobafaaGreat
set_option linter.unusedVariables false
open Go.ChangeShapes Go.WideShapes Go.ChangeAt Go.RowKit
set_option maxRecDepth 100000 in
set_option maxHeartbeats 2000000 in
theorem c_iMissingOf{a:Option Addr}{n c:Nat}{f z k:Int}{p:List ByteArray}{w:World}(hs:Sl encStr w a p)(hn:p.length=n)(hm:n≤100000000)(hsz:∀ s∈p,s.size≤100000000) :
  Calls Tryz.prog 295 #[.agg #[.int .i64 f,.int .i64 z,.int .i64 k,.slice a n c]] w (GivesSl encInt 3 1 w (missL f z k p)):=by
 have HS:=lH hsz;clear hsz
 cases c0:fileInOk f z k p
 ·have HV:=lH (show missL f z k p=[]by rw[missL,c0];rfl)
  go_enter Tryz.func295,Tryz.ntmps295
  go_wp2_with (first|((with_reducible refine wp_region_later (by kernel_rfl) (by kernel_rfl) ?_);(repeat(first|go_big_quiet_step (first|fail)));refine wpQuiet_nil ?_;rintro _ ⟨x,rfl⟩))
  refine(c_iFileInOk (hs.to inferInstance) hn (by omega) HS.out).mono ?_
  rintro _ _ ⟨rfl,y1,rfl⟩
  go_wp2_with (first|((with_reducible refine wp_region_later (by kernel_rfl) (by kernel_rfl) ?_);(repeat(first|go_big_quiet_step (first|fail)|simp only[c0]));refine wpQuiet_nil ?_;rintro _ ⟨x,rfl⟩))
  go_ret
  rw[HV.out]
  exact⟨none,0,rfl,Own.nil encInt_len,Later.of⟩
 have hpp:=fileInOk_parts c0
 have h25:n=25:=by omega
 cases c1:(z == -1)
 ·obtain⟨N,hN⟩:∃ N:Nat,countSeg z=N:=⟨(countSeg z).toNat,by have:=countSeg_bd z;omega⟩
  have hNb:N≤25:=by have:=countSeg_bd z;omega
  have HV:=lH (show missL f z k p=missGo 0 20 (p.take N)by rw[missL,c0,c1,segsIn,hN];rfl)
  have HC:=lH hN;clear hN
  have hnn:25≤n:=by omega
  clear h25 hpp
  go_enter Tryz.func295,Tryz.ntmps295
  go_wp2_with (first|((with_reducible refine wp_region_later (by kernel_rfl) (by kernel_rfl) ?_);(repeat(first|go_big_quiet_step (first|fail)));refine wpQuiet_nil ?_;rintro _ ⟨x,rfl⟩))
  refine(c_iFileInOk (hs.to inferInstance) hn (by omega) HS.out).mono ?_
  rintro _ _ ⟨rfl,y1,rfl⟩
  go_wp2_with (first|((with_reducible refine wp_region_later (by kernel_rfl) (by kernel_rfl) ?_);(repeat(first|go_big_quiet_step (first|fail)|simp only[c0]|simp only[c1]));refine wpQuiet_nil ?_;rintro _ ⟨x,rfl⟩))
  go_loopw [3,4] (fun u v wr=>∃ (j:Nat) (acc:List Int) (m:Nat) (sa:Option Addr) (sc:Nat),v=.int .i64 j∧u=.slice sa m sc∧acc.length=m∧j≤N∧m≤j∧m≤20∧Hid (acc++missGo j (20 - m) ((p.take N).drop j)=missGo 0 20 (p.take N))∧Own encInt 3 1 (w.alloc (.cells #[.int .i64 f,.int .i64 z,.int .i64 k,.slice a n c] 172)).heap.size wr sa sc acc∧∃ x:Later (w.alloc (.cells #[.int .i64 f,.int .i64 z,.int .i64 k,.slice a n c] 172)),wr=x.w) (fun _ v _=>(N - intOf v).toNat)
  case atStart=>exact⟨0,[],0,_,0,rfl,rfl,rfl,by omega,by omega,by omega,by simp[Hid],Own.nil encInt_len,Later.of⟩
  case round =>
   obtain⟨j,acc,m,sa,sc,rfl,rfl,hacc,hj,hmj,hm20,hf,hown,x0,rfl⟩:=hrel
   by_cases h:j<N
   ·have hjn:j<n:=by omega
    obtain⟨b,off,s,rfl,hb,hd,h0⟩:=hs.str (show j<p.length by omega)
    have hdd:(p.take N).drop j=s::(p.take N).drop (j+1):=by
     have hps:p[j]?=some s:=by
      have:=congrArg (fun m=>m[0]?) hd.out
      simpa using this
     have hps2:(p.take N)[j]?=some s:=by rw[List.getElem?_take_of_lt h];exact hps
     obtain⟨hl,he⟩:=List.getElem?_eq_some_iff.1 hps2
     rw[List.drop_eq_getElem_cons hl,he]
    have HDD:=lH hdd;clear hdd hd
    have kc:decide ((j:Int)<(N:Int))=true:=by simp;omega
    by_cases h20:m<20
    ·have k2:decide ((m:Int)<20)=true:=by simp;omega
     cases c2:(s.toList == [])
     ·have HF:=lH (show acc++missGo (j+1) (20 - m) ((p.take N).drop (j+1))=missGo 0 20 (p.take N)by
       have:=hf.out;rw[HDD.out,missGo,if_neg (by omega),c2]at this;exact this)
      go_wp2_with (first|((with_reducible refine wp_region_later (by kernel_rfl) (by kernel_rfl) ?_);(repeat(first|go_big_quiet_step (first|fail)));refine wpQuiet_nil ?_;rintro _ ⟨x,rfl⟩))
      refine c_iCountSegments.mono ?_
      rintro _ _ ⟨rfl,y5,rfl⟩
      rw[HC.out]
      go_wp2_with (first|((with_reducible refine wp_region_later (by kernel_rfl) (by kernel_rfl) ?_);(repeat(first|go_big_quiet_step (first|fail)|simp only[kc]|simp only[k2]|simp only[c2]));refine wpQuiet_nil ?_;rintro _ ⟨x,rfl⟩))
      go_roundw
      case rel=>exact⟨j+1,acc,m,sa,sc,by go_num,rfl,hacc,by omega,by omega,by omega,HF,Own.to hown inferInstance,Later.of⟩
      case measure=>simp[intOf];omega
     ·have HF:=lH (show(acc++[(j:Int)])++missGo (j+1) (20 - (m+1)) ((p.take N).drop (j+1))=missGo 0 20 (p.take N)by
       have:=hf.out;rw[HDD.out,missGo,if_neg (by omega),if_pos c2]at this;rw[List.append_assoc];exact this)
      go_wp2_with (first|((with_reducible refine wp_region_later (by kernel_rfl) (by kernel_rfl) ?_);(repeat(first|go_big_quiet_step (first|fail)));refine wpQuiet_nil ?_;rintro _ ⟨x,rfl⟩))
      refine c_iCountSegments.mono ?_
      rintro _ _ ⟨rfl,y5,rfl⟩
      rw[HC.out]
      go_wp2_with (first|((with_reducible refine wp_region_later (by kernel_rfl) (by kernel_rfl) ?_);(repeat(first|go_big_quiet_step (first|fail)|simp only[kc]|simp only[k2]|simp only[c2]));refine wpQuiet_nil ?_;rintro _ ⟨x,rfl⟩)|(at_builtin;refine wpList_app1 (enc:=encInt) (w0:=_) (z:=.int .i64 0) (size:=1) (bytes:=8) (j:Int) rfl (.tmp 31) (.tmp 33) rfl Tryz.underlying46 (by kernel_rfl) rfl (by decide) (by decide) rfl rfl hacc (Own.to hown inferInstance) rfl (encInt_one _) (by omega) ?_;intro sa1 sc1 x1 hown1 hgr1))
      go_roundw
      case rel=>exact⟨j+1,acc++[(j:Int)],m+1,sa1,sc1,by go_num,rfl,by simp[hacc],by omega,by omega,by omega,HF,hown1,Later.of⟩
      case measure=>simp[intOf];omega
    ·have k2:decide ((m:Int)<20)=false:=by simp;omega
     have HF:=lH (show acc=missGo 0 20 (p.take N)by
      have:=hf.out;rw[HDD.out,missGo,if_pos (by omega),List.append_nil]at this;exact this)
     go_wp2_with (first|((with_reducible refine wp_region_later (by kernel_rfl) (by kernel_rfl) ?_);(repeat(first|go_big_quiet_step (first|fail)));refine wpQuiet_nil ?_;rintro _ ⟨x,rfl⟩))
     refine c_iCountSegments.mono ?_
     rintro _ _ ⟨rfl,y5,rfl⟩
     rw[HC.out]
     go_wp2_with (first|((with_reducible refine wp_region_later (by kernel_rfl) (by kernel_rfl) ?_);(repeat(first|go_big_quiet_step (first|fail)|simp only[kc]|simp only[k2]));refine wpQuiet_nil ?_;rintro _ ⟨x,rfl⟩))
     go_ret
     rw[HV.out,← HF.out]
     exact⟨sa,sc,by rw[hacc];rfl,(Own.to hown inferInstance).mono (by simp),Later.of⟩
   ·have kc:decide ((j:Int)<(N:Int))=false:=by simp;omega
    have HF:=lH (show acc=missGo 0 20 (p.take N)by
     have:=hf.out;rw[List.drop_of_length_le (by rw[List.length_take];omega),missGo,List.append_nil]at this;exact this)
    go_wp2_with (first|((with_reducible refine wp_region_later (by kernel_rfl) (by kernel_rfl) ?_);(repeat(first|go_big_quiet_step (first|fail)));refine wpQuiet_nil ?_;rintro _ ⟨x,rfl⟩))
    refine c_iCountSegments.mono ?_
    rintro _ _ ⟨rfl,y5,rfl⟩
    rw[HC.out]
    go_wp2_with (first|((with_reducible refine wp_region_later (by kernel_rfl) (by kernel_rfl) ?_);(repeat(first|go_big_quiet_step (first|fail)|simp only[kc]));refine wpQuiet_nil ?_;rintro _ ⟨x,rfl⟩))
    go_ret
    rw[HV.out,← HF.out]
    exact⟨sa,sc,by rw[hacc];rfl,(Own.to hown inferInstance).mono (by simp),Later.of⟩
 ·obtain rfl:z=-1:=by simpa using c1
  have HV:=lH (show missL f (-1) k p=[]by rw[missL,c0];rfl)
  clear c1 h25 hpp
  go_enter Tryz.func295,Tryz.ntmps295
  go_wp2_with (first|((with_reducible refine wp_region_later (by kernel_rfl) (by kernel_rfl) ?_);(repeat(first|go_big_quiet_step (first|fail)));refine wpQuiet_nil ?_;rintro _ ⟨x,rfl⟩))
  refine(c_iFileInOk (hs.to inferInstance) hn (by omega) HS.out).mono ?_
  rintro _ _ ⟨rfl,y1,rfl⟩
  go_wp2_with (first|((with_reducible refine wp_region_later (by kernel_rfl) (by kernel_rfl) ?_);(repeat(first|go_big_quiet_step (first|fail)|simp only[c0]));refine wpQuiet_nil ?_;rintro _ ⟨x,rfl⟩))
  go_ret
  rw[HV.out]
  exact⟨none,0,rfl,Own.nil encInt_len,Later.of⟩
end Go.Proofs.YtdinhfeflobafaaGreat
