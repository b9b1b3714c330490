/- The contracts of FileText and MissingOf. No condition but on lengths. -/
import Derived.Test.YtgmikiidcpbjbaaGreatSM14
import Derived.Test.YtgmikiidcpbjbaaGreatSM9
namespace Go.Proofs.YtgmikiidcpbjbaaGreat
set_option linter.unusedVariables false
open Go.ChangeShapes Go.WideShapes Go.ChangeAt Go.RowKit
def joined(p:List ByteArray):ByteArray:=p.foldl (·++·) ⟨#[]⟩
def noEmpty(p:List ByteArray):Bool:=p.all (fun s=>!(s.toList == []))
def segsIn(z:Int)(p:List ByteArray):List ByteArray:=p.take (countSeg z).toNat
def textIs(f z k:Int)(p:List ByteArray):Bool:=fileInOk f z k p && (!(z == -1) && (noEmpty (segsIn z p) && (((joined (segsIn z p)).size:Int) == z && checkOf (joined (segsIn z p)) == k)))
def fileText(f z k:Int)(p:List ByteArray):ByteArray:=if textIs f z k p=true then joined (segsIn z p)else⟨#[]⟩
theorem joined_snoc(p:List ByteArray)(s:ByteArray):joined (p++[s])=joined p++s:=by simp[joined,List.foldl_append]
theorem noEmpty_snoc(p:List ByteArray)(s:ByteArray):noEmpty (p++[s])=(noEmpty p && !(s.toList == [])):=by simp[noEmpty,List.all_append]
theorem noEmpty_cons(p:List ByteArray)(s:ByteArray):noEmpty (s::p)=(!(s.toList == []) && noEmpty p):=by simp[noEmpty]
theorem fileInOk_parts{f z k:Int}{p:List ByteArray}(h:fileInOk f z k p=true):p.length=25∧∀ s∈p,s.size≤24:=by
 simp only[fileInOk,Bool.and_eq_true,decide_eq_true_eq]at h
 refine⟨h.2.2.2.2.1,fun s hs=>?_⟩
 have:=List.all_eq_true.1 h.2.2.2.2.2 s hs
 simpa using this
theorem take_snoc2{p:List ByteArray}{j:Nat}{s:ByteArray}(h:p[j]?=some s):p.take (j+1)=p.take j++[s]:=by
 rw[List.take_add_one,h];rfl
def tupText(t:ByteArray)(b:Bool):Value:=.tuple #[.string t,.bool b]
set_option maxRecDepth 100000 in
set_option maxHeartbeats 2000000 in
theorem c_iFileText{a:Option Addr}{n c:Nat}{f z k:Int}{p:List ByteArray}{w:World}(hs:Sl encStr w a p)(hn:p.length=n)(hm:n≤100000000)(hsz:∀ s∈p,s.size≤100000000) :
  Calls Tryz.prog 75 #[.agg #[.int .i64 f,.int .i64 z,.int .i64 k,.slice a n c]] w (Gives w (tupText (fileText f z k p) (textIs f z k p))):=by
 have HS:=lH hsz;clear hsz
 cases c0:fileInOk f z k p
 ·have HV:=lH (show textIs f z k p=false by rw[textIs,c0];rfl)
  go_enter Tryz.func75,Tryz.ntmps75
  go_wp2_with (first|((with_reducible refine wp_region_later (by kernel_rfl) (by kernel_rfl) ?_);(repeat(first|go_big_quiet_step (first|fail)));refine wpQuiet_nil ?_;rintro _ ⟨x,rfl⟩))
  refine(c_iFileInOk (hs.to inferInstance) hn (by omega) HS.out).mono ?_
  rintro _ _ ⟨rfl,y1,rfl⟩
  go_wp2_with (first|((with_reducible refine wp_region_later (by kernel_rfl) (by kernel_rfl) ?_);(repeat(first|go_big_quiet_step (first|fail)|simp only[c0]));refine wpQuiet_nil ?_;rintro _ ⟨x,rfl⟩))
  refine bodyPost_ret (v:=.tuple #[.string ⟨#[]⟩,.bool false]) ?_ rfl (Gives.mk (by rw[fileText,HV.out];rfl))
  simp[results,Tryz.results75,go_sem]
 have hpp:=fileInOk_parts c0
 have h25:n=25:=by omega
 have HP:=lH hpp.2;clear hpp
 cases c1:(z == -1)
 ·obtain⟨N,hN⟩:∃ N:Nat,countSeg z=N:=⟨(countSeg z).toNat,by have:=countSeg_bd z;omega⟩
  have hNb:N≤25:=by have:=countSeg_bd z;omega
  have HN:=lH (show segsIn z p=p.take N by rw[segsIn,hN];rfl)
  have HC:=lH hN;clear hN
  have HV:=lH (show textIs f z k p=(noEmpty (p.take N) && (((joined (p.take N)).size:Int) == z && checkOf (joined (p.take N)) == k))by rw[textIs,c0,c1,HN.out];rfl)
  have H25:=lH h25
  have hnn:25≤n:=by omega
  clear h25
  go_enter Tryz.func75,Tryz.ntmps75
  go_wp2_with (first|((with_reducible refine wp_region_later (by kernel_rfl) (by kernel_rfl) ?_);(repeat(first|go_big_quiet_step (first|fail)));refine wpQuiet_nil ?_;rintro _ ⟨x,rfl⟩))
  refine(c_iFileInOk (hs.to inferInstance) hn (by omega) HS.out).mono ?_
  rintro _ _ ⟨rfl,y1,rfl⟩
  go_wp2_with (first|((with_reducible refine wp_region_later (by kernel_rfl) (by kernel_rfl) ?_);(repeat(first|go_big_quiet_step (first|fail)|simp only[c0]|simp only[c1]));refine wpQuiet_nil ?_;rintro _ ⟨x,rfl⟩))
  refine c_iCountSegments.mono ?_
  rintro _ _ ⟨rfl,y2,rfl⟩
  rw[HC.out]
  go_wp2_with (first|((with_reducible refine wp_region_later (by kernel_rfl) (by kernel_rfl) ?_);(repeat(first|go_big_quiet_step (first|fail)));refine wpQuiet_nil ?_;rintro _ ⟨x,rfl⟩))
  go_loopw [4,17] (fun u v wr=>∃ (j:Nat) (acc:ByteArray),v=.int .i64 j∧u=.string acc∧j≤N∧acc.size≤24*j∧Hid (acc=joined (p.take j)∧noEmpty (p.take j)=true)∧∃ x:Later (w.alloc (.cells #[.int .i64 f,.int .i64 z,.int .i64 k,.slice a n c] 126)),wr=x.w) (fun _ v _=>(N - intOf v).toNat)
  case atStart=>exact⟨0,_,rfl,rfl,by omega,by simp[ByteArray.size],⟨rfl,rfl⟩,Later.of⟩
  case round =>
   obtain⟨j,acc,rfl,rfl,hj,hacc,hf,x,rfl⟩:=hrel
   by_cases h:j<N
   ·have hjn:j<n:=by omega
    obtain⟨b,off,s,rfl,hb,hd,h0⟩:=hs.str (show j<p.length by omega)
    have hps:p[j]?=some s:=by
     have:=congrArg (fun m=>m[0]?) hd.out
     simpa using this
    have hss:s.size≤24:=HP.out s (List.mem_of_getElem? hps)
    have HPS:=lH hps;clear hps hd
    cases c2:(s.toList == [])
    ·have HF:=lH (show acc++s=joined (p.take (j+1))∧noEmpty (p.take (j+1))=true by
      rw[take_snoc2 HPS.out,joined_snoc,noEmpty_snoc,hf.out.2,c2,← hf.out.1];exact⟨rfl,rfl⟩)
     go_wp2_with (first|((with_reducible refine wp_region_later (by kernel_rfl) (by kernel_rfl) ?_);(repeat(first|go_big_quiet_step (first|fail)|simp only[c2]));refine wpQuiet_nil ?_;rintro _ ⟨x,rfl⟩))
     go_roundw
     case rel=>exact⟨j+1,_,by go_num,rfl,by omega,by rw[ByteArray.size_append];omega,HF,Later.of⟩
     case measure=>simp[intOf];omega
    ·have HF:=lH (show textIs f z k p=false by
      have h8:noEmpty (p.take N)=false:=by
       cases h9:noEmpty (p.take N)
       ·rfl
       ·have hmem:s∈p.take N:=List.mem_of_getElem? (i:=j) (by rw[List.getElem?_take_of_lt h];exact HPS.out)
        have:=List.all_eq_true.1 h9 s hmem
        rw[c2]at this;cases this
      rw[HV.out,h8];rfl)
     clear HV hf
     go_wp2_with (first|((with_reducible refine wp_region_later (by kernel_rfl) (by kernel_rfl) ?_);(repeat(first|go_big_quiet_step (first|fail)|simp only[c2]));refine wpQuiet_nil ?_;rintro _ ⟨x,rfl⟩))
     refine bodyPost_ret (v:=.tuple #[.string ⟨#[]⟩,.bool false]) ?_ rfl (Gives.mk (by rw[fileText,HF.out];rfl))
     simp[results,Tryz.results75,go_sem]
   ·have hjN:j=N:=by omega
    have HF:=lH (show acc=joined (p.take N)∧noEmpty (p.take N)=true by rw[← hjN];exact hf.out)
    clear hf hjN
    have HV2:=lH (show textIs f z k p=(((acc.size:Int) == z) && (checkOf acc == k))by rw[HV.out,HF.out.2,HF.out.1];rfl)
    have HT:=lH (show joined (segsIn z p)=acc by rw[HN.out,HF.out.1])
    clear HV HF
    cases c3:((acc.size:Int) == z)
    ·have c4:((acc.size:Int) != z)=true:=by rw[bne,c3];rfl
     have HV3:=lH (show textIs f z k p=false by rw[HV2.out,c3];rfl)
     go_wp2_with (first|((with_reducible refine wp_region_later (by kernel_rfl) (by kernel_rfl) ?_);(repeat(first|go_big_quiet_step (first|(go_at_call 232;exact Gives.quiet (c_iCheckOf (by omega))))|simp only[c4]));refine wpQuiet_nil ?_;rintro _ ⟨x,rfl⟩)|(go_at_call 232;refine(c_iCheckOf (by omega)).mono ?_;rintro _ _ ⟨rfl,x,rfl⟩))
     refine bodyPost_ret (v:=.tuple #[.string ⟨#[]⟩,.bool false]) ?_ rfl (Gives.mk (by rw[fileText,HV3.out];rfl))
     simp[results,Tryz.results75,go_sem]
    ·have c4:((acc.size:Int) != z)=false:=by rw[bne,c3];rfl
     cases c5:(checkOf acc == k)
     ·have c6:(checkOf acc != k)=true:=by rw[bne,c5];rfl
      have HV3:=lH (show textIs f z k p=false by rw[HV2.out,c3,c5];rfl)
      go_wp2_with (first|((with_reducible refine wp_region_later (by kernel_rfl) (by kernel_rfl) ?_);(repeat(first|go_big_quiet_step (first|(go_at_call 232;exact Gives.quiet (c_iCheckOf (by omega))))|simp only[c4]|simp only[c6]));refine wpQuiet_nil ?_;rintro _ ⟨x,rfl⟩)|(go_at_call 232;refine(c_iCheckOf (by omega)).mono ?_;rintro _ _ ⟨rfl,x,rfl⟩))
      refine bodyPost_ret (v:=.tuple #[.string ⟨#[]⟩,.bool false]) ?_ rfl (Gives.mk (by rw[fileText,HV3.out];rfl))
      simp[results,Tryz.results75,go_sem]
     ·have c6:(checkOf acc != k)=false:=by rw[bne,c5];rfl
      have HV3:=lH (show textIs f z k p=true by rw[HV2.out,c3,c5];rfl)
      go_wp2_with (first|((with_reducible refine wp_region_later (by kernel_rfl) (by kernel_rfl) ?_);(repeat(first|go_big_quiet_step (first|(go_at_call 232;exact Gives.quiet (c_iCheckOf (by omega))))|simp only[c4]|simp only[c6]));refine wpQuiet_nil ?_;rintro _ ⟨x,rfl⟩)|(go_at_call 232;refine(c_iCheckOf (by omega)).mono ?_;rintro _ _ ⟨rfl,x,rfl⟩))
      refine bodyPost_ret (v:=.tuple #[.string acc,.bool true]) ?_ rfl (Gives.mk (by rw[fileText,HV3.out,HT.out];rfl))
      simp[results,Tryz.results75,go_sem]
 ·obtain rfl:z=-1:=by simpa using c1
  have HV:=lH (show textIs f (-1) k p=false by rw[textIs,c0];rfl)
  clear c1 h25
  go_enter Tryz.func75,Tryz.ntmps75
  go_wp2_with (first|((with_reducible refine wp_region_later (by kernel_rfl) (by kernel_rfl) ?_);(repeat(first|go_big_quiet_step (first|fail)));refine wpQuiet_nil ?_;rintro _ ⟨x,rfl⟩))
  refine(c_iFileInOk (hs.to inferInstance) hn (by omega) HS.out).mono ?_
  rintro _ _ ⟨rfl,y1,rfl⟩
  go_wp2_with (first|((with_reducible refine wp_region_later (by kernel_rfl) (by kernel_rfl) ?_);(repeat(first|go_big_quiet_step (first|fail)|simp only[c0]));refine wpQuiet_nil ?_;rintro _ ⟨x,rfl⟩))
  refine bodyPost_ret (v:=.tuple #[.string ⟨#[]⟩,.bool false]) ?_ rfl (Gives.mk (by rw[fileText,HV.out];rfl))
  simp[results,Tryz.results75,go_sem]
end Go.Proofs.YtgmikiidcpbjbaaGreat
