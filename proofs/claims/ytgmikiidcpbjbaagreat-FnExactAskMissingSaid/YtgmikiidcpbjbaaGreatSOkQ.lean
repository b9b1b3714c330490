/- The contract of what says whether a board's waiting orders are valid: the reference's. No condition but on sizes. -/
import Derived.Test.YtgmikiidcpbjbaaGreatSOkO
namespace Go.Proofs.YtgmikiidcpbjbaaGreat
set_option linter.unusedVariables false
open Go.ChangeShapes Go.WideShapes Go.ChangeAt Go.RowKit
set_option maxRecDepth 100000 in
set_option maxHeartbeats 2000000 in
theorem k_sl05Orders{B:Nat}{A:TBoardA}{bd:TBoard}{w0 w:World}(F0:TBoardF B w0 A bd)[g:Keeps B w0 w](hm:bd.Orders.length≤100000000)(ht0:0≤bd.Taken)(ht1:bd.Taken≤65535) :
  Calls Tryz.prog 396 #[.agg #[.int .i64 bd.Clock,.slice A.a0 bd.Params.length A.c0,.bool bd.Safe,.slice A.a1 bd.Limits.length A.c1,.slice A.a2 bd.Orders.length A.c2,.slice A.a3 bd.Done.length A.c3,.int .i64 bd.Recorder.Room,.slice A.a4 bd.Recorder.Records.length A.c4,.slice A.a5 bd.Recorder.Dropped.length A.c5,.int .i64 bd.Made,.int .i64 bd.Taken,.slice A.a6 bd.Asked.length A.c6]] w (Gives w (.bool (ordersOk bd.Taken bd.Orders))):=by
 have hs:=F0.q2.to g;clear F0
 obtain⟨l,hl⟩:∃ l,bd.Orders=l:=⟨_,rfl⟩
 obtain⟨taken,htk⟩:∃ t,bd.Taken=t:=⟨_,rfl⟩
 obtain⟨a,ha⟩:∃ a,A.a2=a:=⟨_,rfl⟩
 obtain⟨n,hn⟩:∃ n,l.length=n:=⟨_,rfl⟩
 rw[hl,ha]at hs
 rw[hl,hn]at hm
 rw[htk]at ht0 ht1
 rw[hl,htk,ha,hn]
 have HN:=lH hn
 clear hl htk ha hn
 have HD:=lH (show ordersOk taken l=(decide ((n:Int)≤40) && ordersFrom taken l 0 l)by rw[ordersOk,HN.out])
 by_cases h40:n≤40
 ·have k40:decide (40<(n:Int))=false:=by simp;omega
  have HD2:=lH (show ordersOk taken l=ordersFrom taken l 0 l by rw[HD.out,decide_eq_true (by omega)];rfl)
  clear HD
  go_enter Tryz.func396,Tryz.ntmps396
  go_wp2_with fail
  go_loopw [3] (fun v wr=>∃ k:Nat,v=.int .i64 k∧k≤n∧Hid (ordersFrom taken l k (l.drop k)=ordersFrom taken l 0 l)∧∃ y:Later (w.alloc (.cells #[.int .i64 bd.Clock,.slice A.a0 bd.Params.length A.c0,.bool bd.Safe,.slice A.a1 bd.Limits.length A.c1,.slice a n A.c2,.slice A.a3 bd.Done.length A.c3,.int .i64 bd.Recorder.Room,.slice A.a4 bd.Recorder.Records.length A.c4,.slice A.a5 bd.Recorder.Dropped.length A.c5,.int .i64 bd.Made,.int .i64 taken,.slice A.a6 bd.Asked.length A.c6] 84)),wr=y.w) (fun v _=>(n - intOf v).toNat)
  case atStart=>exact⟨0,rfl,by omega,rfl,Later.of⟩
  case round =>
   obtain⟨k,rfl,hk,HV,y,rfl⟩:=hrel
   by_cases h:k<n
   ·have hkl:k<l.length:=by have:=HN.out;omega
    obtain⟨eb,eoff,es,rfl,ehb,ehd,eok,eh0,eh1,eh2,eh3,eh4⟩:=hs.atTWaiting hkl
    have EOK:=lH eok;clear eok hkl
    cases d1:orderOk es.Order
    ·have HF:=lH (show ordersOk taken l=false by have:=HV.out;rw[ehd.out,ordersFrom,waitOk,d1]at this;rw[HD2.out,← this];rfl)
     go_wp2_with (first|(go_at_call 154;refine(k_sOrderOk).mono ?_;rintro _ _ ⟨rfl,x,rfl⟩))
     go_ret
     exact Gives.mk (by rw[HF.out];rfl)
    cases d2:inB es.Number 0 (taken - 1)
    ·have HF:=lH (show ordersOk taken l=false by have:=HV.out;rw[ehd.out,ordersFrom,waitOk,d1,d2]at this;rw[HD2.out,← this];rfl)
     go_wp2_with (first|(go_at_call 158;refine(c_sl01In).mono ?_;rintro _ _ ⟨rfl,x,rfl⟩)|(go_at_call 154;refine(k_sOrderOk).mono ?_;rintro _ _ ⟨rfl,x,rfl⟩))
     go_ret
     exact Gives.mk (by rw[HF.out];rfl)
    go_wp2_with (first|(go_at_call 158;refine(c_sl01In).mono ?_;rintro _ _ ⟨rfl,x,rfl⟩)|(go_at_call 154;refine(k_sOrderOk).mono ?_;rintro _ _ ⟨rfl,x,rfl⟩))
    go_loopw [5] (fun v wr=>∃ j:Nat,v=.int .i64 j∧j≤k∧Hid ((l.take j).all (fun z=>z.Number != es.Number)=true)∧∃ z:Later (y.w.alloc (.cells #[.int .i64 es.Number,.int .i64 es.Order.Kind,.int .i64 es.Order.At,.int .i64 es.Order.A,.int .i64 es.Order.B] 219)),wr=z.w) (fun v _=>(k - intOf v).toNat)
    case atStart=>exact⟨0,rfl,by omega,by rw[Hid];rfl,Later.of⟩
    case round =>
     obtain⟨j,rfl,hj,HJ,z,rfl⟩:=hrel
     by_cases hjk:j<k
     ·obtain⟨gb,goff,gs,hbo,ghb,ghd,gok,gh0,gh1,gh2,gh3,gh4⟩:=hs.atTWaiting (show j<l.length by have:=HN.out;omega)
      simp only[Option.some.injEq,Addr.mk.injEq,and_true]at hbo
      obtain⟨rfl,rfl⟩:=hbo
      have GOK:=lH gok;clear gok
      have hT:=lH (show l.take (j+1)=l.take j++[gs]by rw[List.take_succ_eq_append_getElem (by have:=HN.out;omega)];congr 1;have h0:(l.drop j)[0]?=some gs:=(by rw[ghd.out];rfl);rw[List.getElem?_drop]at h0;simp at h0;obtain⟨_,h0⟩:=List.getElem?_eq_some_iff.1 h0;rw[h0])
      cases e1:(gs.Number == es.Number)
      ·have HJ2:=lH (show(l.take (j+1)).all (fun z=>z.Number != es.Number)=true by rw[hT.out,List.all_append,HJ.out];simp only[List.all_cons,List.all_nil,bne,e1];rfl)
       go_wp2_with (first|((with_reducible refine wp_region_later (by kernel_rfl) (by kernel_rfl) ?_);(repeat(first|go_big_quiet_step (first|fail)|simp only[e1]));refine wpQuiet_nil ?_;rintro _ ⟨x,rfl⟩))
       go_roundw
       case rel=>exact⟨j+1,by go_num,by omega,HJ2,Later.of⟩
       case measure=>simp[intOf];omega
      ·have HJ2:=lH (show(l.take k).all (fun z=>z.Number != es.Number)=false by have h1:gs∈l.take k:=(List.take_subset_take_left _ (show j+1≤k by omega)) (by rw[hT.out];simp);rw[Bool.eq_false_iff];intro hh;have:=List.all_eq_true.1 hh gs h1;rw[bne,e1]at this;cases this)
       have HF:=lH (show ordersOk taken l=false by have:=HV.out;rw[ehd.out,ordersFrom,waitOk,d1,d2,HJ2.out]at this;rw[HD2.out,← this];rfl)
       go_wp2_with (first|((with_reducible refine wp_region_later (by kernel_rfl) (by kernel_rfl) ?_);(repeat(first|go_big_quiet_step (first|fail)|simp only[e1]));refine wpQuiet_nil ?_;rintro _ ⟨x,rfl⟩))
       go_ret
       exact Gives.mk (by rw[HF.out];rfl)
     have ejk:j=k:=by omega
     subst ejk
     have d3:(l.take j).all (fun z=>z.Number != es.Number)=true:=HJ.out
     have EK:=lH d1
     by_cases hz0:j=0
     ·have HF:=lH (show ordersFrom taken l (j+1) (l.drop (j+1))=ordersFrom taken l 0 l by have:=HV.out;rw[ehd.out,ordersFrom,waitOk,d1,d2,d3]at this;rw[← this];simp[prevOf,hz0,waitAsc])
      have hz':decide (0<(j:Int))=false:=by simp;omega
      have hz2:decide (0<j)=false:=by simp;omega
      clear d3 hz0
      go_wp2_with (first|((with_reducible refine wp_region_later (by kernel_rfl) (by kernel_rfl) ?_);(repeat(first|go_big_quiet_step (first|fail)|simp only[hz']|simp only[hz2]));refine wpQuiet_nil ?_;rintro _ ⟨x,rfl⟩))
      go_roundw
      case rel=>exact⟨j+1,by go_num,by omega,HF,Later.of⟩
      case measure=>simp[intOf];omega
     ·obtain⟨fb,foff,fs,hbo,fhb,fhd,fok,fh0,fh1,fh2,fh3,fh4⟩:=hs.atTWaiting (show j - 1<l.length by have:=HN.out;omega)
      simp only[Option.some.injEq,Addr.mk.injEq,and_true]at hbo
      obtain⟨rfl,rfl⟩:=hbo
      have FOK:=lH fok;clear fok
      have hz':decide (0<(j:Int))=true:=by simp;omega
      have hz2:decide (0<j)=true:=by simp;omega
      have hp:prevOf l j=some fs:=by have:=prevOf_succ fhd.out;rwa[show j - 1+1=j from by omega]at this
      have HP:=lH hp;clear hp
      cases f1:decide (es.Order.At<fs.Order.At)
      ·cases f2:(es.Order.At == fs.Order.At)
       ·have HF:=lH (show ordersFrom taken l (j+1) (l.drop (j+1))=ordersFrom taken l 0 l by have:=HV.out;rw[ehd.out,ordersFrom,waitOk,d1,d2,d3,HP.out,waitAsc,f1,f2]at this;exact this)
        clear d3
        go_wp2_with (first|((with_reducible refine wp_region_later (by kernel_rfl) (by kernel_rfl) ?_);(repeat(first|go_big_quiet_step (first|fail)|simp only[hz']|simp only[hz2]|simp only[f1]|simp only[f2]));refine wpQuiet_nil ?_;rintro _ ⟨x,rfl⟩))
        go_roundw
        case rel=>exact⟨j+1,by go_num,by omega,HF,Later.of⟩
        case measure=>simp[intOf];omega
       ·cases f3:decide (es.Number<fs.Number)
        ·have HF:=lH (show ordersFrom taken l (j+1) (l.drop (j+1))=ordersFrom taken l 0 l by have:=HV.out;rw[ehd.out,ordersFrom,waitOk,d1,d2,d3,HP.out,waitAsc,f1,f2,f3]at this;exact this)
         have F2:=lH f2
         clear d3
         go_wp2_with (first|((with_reducible refine wp_region_later (by kernel_rfl) (by kernel_rfl) ?_);(repeat(first|go_big_quiet_step (first|fail)|simp only[hz']|simp only[hz2]|simp only[f1]|simp only[f2]|simp only[f3]));refine wpQuiet_nil ?_;rintro _ ⟨x,rfl⟩))
         go_roundw
         case rel=>exact⟨j+1,by go_num,by omega,HF,Later.of⟩
         case measure=>simp[intOf];omega
        ·have HF:=lH (show ordersOk taken l=false by have:=HV.out;rw[ehd.out,ordersFrom,waitOk,d1,d2,d3,HP.out,waitAsc,f1,f2,f3]at this;rw[HD2.out,← this];rfl)
         clear d3
         go_wp2_with (first|((with_reducible refine wp_region_later (by kernel_rfl) (by kernel_rfl) ?_);(repeat(first|go_big_quiet_step (first|fail)|simp only[hz']|simp only[hz2]|simp only[f1]|simp only[f2]|simp only[f3]));refine wpQuiet_nil ?_;rintro _ ⟨x,rfl⟩))
         go_ret
         exact Gives.mk (by rw[HF.out];rfl)
      ·have HF:=lH (show ordersOk taken l=false by have:=HV.out;rw[ehd.out,ordersFrom,waitOk,d1,d2,d3,HP.out,waitAsc,f1]at this;rw[HD2.out,← this];rfl)
       clear d3
       go_wp2_with (first|((with_reducible refine wp_region_later (by kernel_rfl) (by kernel_rfl) ?_);(repeat(first|go_big_quiet_step (first|fail)|simp only[hz']|simp only[hz2]|simp only[f1]));refine wpQuiet_nil ?_;rintro _ ⟨x,rfl⟩))
       go_ret
       exact Gives.mk (by rw[HF.out];rfl)
   ·have HF:=lH (show ordersOk taken l=true by have:=HV.out;rw[List.drop_of_length_le (by have:=HN.out;omega),ordersFrom]at this;rw[HD2.out,← this])
    go_wp2_with fail
    go_ret
    exact Gives.mk (by rw[HF.out];rfl)
 ·have k40:decide (40<(n:Int))=true:=by simp;omega
  have HD2:=lH (show ordersOk taken l=false by rw[HD.out,decide_eq_false (by omega)];rfl)
  go_enter Tryz.func396,Tryz.ntmps396
  go_wp2_with fail
  go_ret
  exact Gives.mk (by rw[HD2.out];rfl)
end Go.Proofs.YtgmikiidcpbjbaaGreat
