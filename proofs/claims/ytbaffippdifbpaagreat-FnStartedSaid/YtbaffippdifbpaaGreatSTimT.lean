/- The contracts of TimesTrue, both sides. No condition but on sizes. -/
import Derived.Test.YtbaffippdifbpaaGreatSTimL
import Derived.Test.YtbaffippdifbpaaGreatSM34
import Derived.Test.YtbaffippdifbpaaGreatSM31
import Derived.Laws.ByValue
namespace Go.Proofs.YtbaffippdifbpaaGreat
set_option linter.unusedVariables false
open Go.ChangeShapes Go.WideShapes Go.ChangeAt Go.RowKit
def bOk(l:List Pair)(b:Int):Bool:=pairsOk l && inB b 0 2000000
def bLo(l:List Pair)(b:Int):Int:=if bOk l b=true then(boundsFrom b 0 l).1 else 0
def bHi(l:List Pair)(b:Int):Int:=if bOk l b=true then(boundsFrom b 0 l).2 else 0
theorem boundsOf_eq(l:List Pair)(b:Int):boundsOf l b=.tuple #[.int .i64 (bLo l b),.int .i64 (bHi l b),.bool (bOk l b)]:=by
 cases h:bOk l b
 ·simp only[bLo,bHi,h];rw[bOk]at h;rw[boundsOf,h];rfl
 ·simp only[bLo,bHi,h];rw[bOk]at h;rw[boundsOf,h];rfl
def pairTrue(r o:Int)(p:Pair):Bool:=boardTime r o p.True == p.Board
noncomputable def recTimed(l:List Pair)(r o:Int)(x:TRecord):Bool:=bOk l x.Time && (!decide ((since r o x.Time:Int)<bLo l x.Time) && !decide (bHi l x.Time<(since r o x.Time:Int) - 1))
noncomputable def timesTrue(m:TMission):Bool:=m.Ground.Pairs.all (pairTrue m.Drift.Rate m.Drift.Offset) && ((boardTime m.Drift.Rate m.Drift.Offset m.Time == m.Space.Board.Clock) && m.Ground.Records.all (recTimed m.Ground.Pairs m.Drift.Rate m.Drift.Offset))
set_option maxRecDepth 100000 in
set_option maxHeartbeats 4000000 in
theorem c_iTimesTrue{B:Nat}{vs:List Value}{m:TMission}{w:World}(h:Enc.Rd B w vs m)(ht:Enc.tot m≤1048576) :
  Calls Tryz.prog 60 #[.agg vs.toArray] w (Gives w (.bool (timesTrue m))):=by
 have HL:=lH (show vs.length=61 from Enc.len h)
 obtain⟨A,hvs,F⟩:=h
 have h2:=mbounds ht
 have hg:totL m.Ground.Offers+Enc.tot m.Ground.Sender+Enc.tot m.Ground.Unpacker+totL m.Ground.Pairs+totL m.Ground.Records+totL m.Ground.Files+totL m.Ground.Told≤1048576:=h2.2.2.1
 have n1:=totL_nonneg m.Ground.Offers;have n2:=Enc.tot_nonneg m.Ground.Sender;have n3:=Enc.tot_nonneg m.Ground.Unpacker;have n4:=totL_nonneg m.Ground.Pairs;have n5:=totL_nonneg m.Ground.Records;have n6:=totL_nonneg m.Ground.Files;have n7:=totL_nonneg m.Ground.Told
 have l1:=totL_len m.Ground.Pairs;have l2:=totL_len m.Ground.Records
 have hm5:m.Ground.Pairs.length≤1048576:=by omega
 have hm6:m.Ground.Records.length≤1048576:=by omega
 clear h2 hg n1 n2 n3 n4 n5 n6 n7 l1 l2 ht
 obtain⟨r,hr⟩:∃ r,m.Drift.Rate=r:=⟨_,rfl⟩
 obtain⟨o,ho⟩:∃ o,m.Drift.Offset=o:=⟨_,rfl⟩
 obtain⟨tm,htm⟩:∃ tm,m.Time=tm:=⟨_,rfl⟩
 obtain⟨cl,hcl⟩:∃ cl,m.Space.Board.Clock=cl:=⟨_,rfl⟩
 obtain⟨np,hnp⟩:∃ n,m.Ground.Pairs.length=n:=⟨_,rfl⟩
 obtain⟨nr,hnr⟩:∃ n,m.Ground.Records.length=n:=⟨_,rfl⟩
 have hv2:vs[2]?=some (.int .i64 r):=by rw[hvs,← hr];rfl
 have hv3:vs[3]?=some (.int .i64 o):=by rw[hvs,← ho];rfl
 have HB:=lH (Held.new w vs 62 w.heap.size rfl)
 have e0:=HB.out.cellG 0 (.int .i64 tm) (by rw[hvs,← htm];rfl)
 have e2:=HB.out.cellG 2 (.int .i64 r) hv2
 have e3:=HB.out.cellG 3 (.int .i64 o) hv3
 have e5:=HB.out.cellG 29 (.slice A.a5 np A.c5) (by rw[hvs,← hnp];rfl)
 have e6:=HB.out.cellG 30 (.slice A.a6 nr A.c6) (by rw[hvs,← hnr];rfl)
 have eC:=HB.out.cellG 37 (.int .i64 cl) (by rw[hvs,← hcl];rfl)
 have HV:=lH (show timesTrue m=(m.Ground.Pairs.all (pairTrue r o) && ((boardTime r o tm == cl) && m.Ground.Records.all (recTimed m.Ground.Pairs r o)))by rw[timesTrue,hr,ho,htm,hcl])
 rw[hnp]at hm5;rw[hnr]at hm6
 have HP:=lH hnp;have HR:=lH hnr
 have Q5:=lH F.q5;have Q6:=lH F.q6
 clear F hvs hr ho htm hcl hnp hnr
 obtain⟨T,hT⟩:∃ T,timesTrue m=T:=⟨_,rfl⟩
 rw[hT]at HV ⊢
 clear hT
 go_enter Tryz.func60,Tryz.ntmps60
 go_wp2_with (first|((with_reducible refine wp_region_later (by kernel_rfl) (by kernel_rfl) ?_);(repeat(first|go_big_quiet_step (first|fail)));refine wpQuiet_nil ?_;rintro _ ⟨x,rfl⟩))
 go_loopw [15] (fun v wr=>∃ k:Nat,v=.int .i64 k∧k≤np∧Hid ((m.Ground.Pairs.drop k).all (pairTrue r o)=m.Ground.Pairs.all (pairTrue r o))∧∃ X:Later (w.alloc (.cells vs.toArray 62)),wr=X.w) (fun v _=>(np - intOf v).toNat)
 case atStart=>exact⟨0,rfl,by omega,rfl,Later.of⟩
 case round =>
  obtain⟨k,rfl,hk,HK,X,rfl⟩:=hrel
  by_cases h:k<np
  ·have hkl:k<m.Ground.Pairs.length:=by have:=HP.out;omega
   obtain⟨eb,eoff,es,hea,ehb,ehd,eok,eh0,eh1⟩:=Q5.out.atPair hkl
   rw[hea]at e5
   (try rw[hea])
   have EOK:=lH eok;clear eok hkl hea
   cases d1:(boardTime r o es.True == es.Board)
   ·have d2:(boardTime r o es.True != es.Board)=true:=by rw[bne,d1];rfl
    have HF:=lH (show T=false by have:=HK.out;rw[ehd.out,List.all_cons,pairTrue,d1]at this;rw[HV.out,← this];rfl)
    go_wp2_with (first|((with_reducible refine wp_region_later (by kernel_rfl) (by kernel_rfl) ?_);(repeat(first|go_big_quiet_step (first|(go_at_call 49;exact Gives.quiet (c_iBoardTime)))|simp only[d1]|simp only[d2]));refine wpQuiet_nil ?_;rintro _ ⟨x,rfl⟩)|(go_at_call 49;refine(c_iBoardTime).mono ?_;rintro _ _ ⟨rfl,x,rfl⟩))
    go_ret
    exact Gives.mk (by rw[HF.out];rfl)
   ·have d2:(boardTime r o es.True != es.Board)=false:=by rw[bne,d1];rfl
    have HF:=lH (show(m.Ground.Pairs.drop (k+1)).all (pairTrue r o)=m.Ground.Pairs.all (pairTrue r o)by have:=HK.out;rw[ehd.out,List.all_cons,pairTrue,d1,Bool.true_and]at this;exact this)
    go_wp2_with (first|((with_reducible refine wp_region_later (by kernel_rfl) (by kernel_rfl) ?_);(repeat(first|go_big_quiet_step (first|(go_at_call 49;exact Gives.quiet (c_iBoardTime)))|simp only[d1]|simp only[d2]));refine wpQuiet_nil ?_;rintro _ ⟨x,rfl⟩)|(go_at_call 49;refine(c_iBoardTime).mono ?_;rintro _ _ ⟨rfl,x,rfl⟩))
    go_roundw
    case rel=>exact⟨k+1,by go_num,by omega,HF,Later.of⟩
    case measure=>simp[intOf];omega
  ·have HA:=lH (show m.Ground.Pairs.all (pairTrue r o)=true by have:=HK.out;rw[List.drop_of_length_le (by have:=HP.out;omega)]at this;rw[← this];rfl)
   clear HK
   cases d1:(boardTime r o tm == cl)
   ·have d2:(boardTime r o tm != cl)=true:=by rw[bne,d1];rfl
    have d3:(cl != boardTime r o tm)=true:=by rw[bne,BEq.comm,d1];rfl
    have HF:=lH (show T=false by rw[HV.out,d1,Bool.false_and,Bool.and_false])
    go_wp2_with (first|((with_reducible refine wp_region_later (by kernel_rfl) (by kernel_rfl) ?_);(repeat(first|go_big_quiet_step (first|(go_at_call 49;exact Gives.quiet (c_iBoardTime)))|simp only[d1]|simp only[d2]|simp only[d3]));refine wpQuiet_nil ?_;rintro _ ⟨x,rfl⟩)|(go_at_call 49;refine(c_iBoardTime).mono ?_;rintro _ _ ⟨rfl,x,rfl⟩))
    go_ret
    exact Gives.mk (by rw[HF.out];rfl)
   ·have d2:(boardTime r o tm != cl)=false:=by rw[bne,d1];rfl
    have d3:(cl != boardTime r o tm)=false:=by rw[bne,BEq.comm,d1];rfl
    have HV2:=lH (show T=m.Ground.Records.all (recTimed m.Ground.Pairs r o)by rw[HV.out,HA.out,d1];rfl)
    clear HV HA
    go_wp2_with (first|((with_reducible refine wp_region_later (by kernel_rfl) (by kernel_rfl) ?_);(repeat(first|go_big_quiet_step (first|(go_at_call 49;exact Gives.quiet (c_iBoardTime)))|simp only[d1]|simp only[d2]|simp only[d3]));refine wpQuiet_nil ?_;rintro _ ⟨x,rfl⟩)|(go_at_call 49;refine(c_iBoardTime).mono ?_;rintro _ _ ⟨rfl,x,rfl⟩))
    clear d1 d2 d3
    go_loopw [42] (fun v wr=>∃ k:Nat,v=.int .i64 k∧k≤nr∧Hid ((m.Ground.Records.drop k).all (recTimed m.Ground.Pairs r o)=m.Ground.Records.all (recTimed m.Ground.Pairs r o))∧∃ X:Later (w.alloc (.cells vs.toArray 62)),wr=X.w) (fun v _=>(nr - intOf v).toNat)
    case atStart=>exact⟨0,rfl,by omega,rfl,Later.of⟩
    case round =>
     obtain⟨k,rfl,hk,HK,X,rfl⟩:=hrel
     by_cases h:k<nr
     ·have hkl:k<m.Ground.Records.length:=by have:=HR.out;omega
      obtain⟨eb,eoff,es,hea,ehb,ehd,eok,eh0,eh1,eh2,eh3⟩:=Q6.out.atTRecord hkl
      rw[hea]at e6
      (try rw[hea])
      have hz9:es.Data.size≤9223372036854775807:=eok.2.2.2.1
      have hti:i64 es.Time:=eok.2.2.1
      have EOK:=lH eok;clear eok hkl hea
      obtain⟨tv,htv⟩:∃ tv,es.Time=tv:=⟨_,rfl⟩
      obtain⟨K,hKK⟩:∃ K,since r o tv=K:=⟨_,rfl⟩
      obtain⟨lo,hlo⟩:∃ lo,bLo m.Ground.Pairs tv=lo:=⟨_,rfl⟩
      obtain⟨hi,hhi⟩:∃ hi,bHi m.Ground.Pairs tv=hi:=⟨_,rfl⟩
      obtain⟨bo,hbo⟩:∃ bo,bOk m.Ground.Pairs tv=bo:=⟨_,rfl⟩
      have HRT:=lH (show recTimed m.Ground.Pairs r o es=(bo && (!decide ((K:Int)<lo) && !decide (hi<(K:Int) - 1)))by rw[recTimed,htv,hKK,hlo,hhi,hbo])
      have HBD:=lH (show boundsOf m.Ground.Pairs tv=.tuple #[.int .i64 lo,.int .i64 hi,.bool bo]by rw[boundsOf_eq,hlo,hhi,hbo])
      have HS:=lH (show K≤1000001∧(∀ t,t<K→reached r o tv t=false)∧(∀ t,K≤t→t<1000001→reached r o tv t=true)from hKK▸since_is r o tv)
      have HKK:=lH hKK
      have hK1:K≤1000001:=HS.out.1
      rw[htv]at eh2 hti
      clear hKK hlo hhi hbo
      have cb:∀ {W:World} [Grows w W],Calls Tryz.prog 144 #[.slice A.a5 np A.c5,.int .i64 tv] W (Gives W (.tuple #[.int .i64 lo,.int .i64 hi,.bool bo])):=fun {W} _=>by
       have:=c_iBoundsOf (w:=W) (c:=A.c5) (b:=tv) (Q5.out.toSlPair.to inferInstance) HP.out (by omega)
       rw[HBD.out]at this
       exact this
      have HX:=Held.new X.w [.int .i64 es.Id,.int .i64 es.Priority,.int .i64 tv,.string es.Data] 218 X.w.heap.size rfl
      have f2:=HX.cellG 2 (.int .i64 tv) rfl
      clear HX
      have cs:∀ {W:World} [Grows (X.w.alloc (.cells #[.int .i64 es.Id,.int .i64 es.Priority,.int .i64 tv,.string es.Data] 218)) W],Calls Tryz.prog 142 #[.int .i64 1000001,.func (.func 143) #[] #[.pointer (some ⟨w.heap.size,0,none⟩),.pointer (some ⟨X.w.heap.size,0,none⟩)]] W (Gives W (.int .i64 K)):=fun {W} hW=>by
       obtain⟨N,hN⟩:∃ N:Nat,N=Int.toNat 1000001:=⟨_,rfl⟩
       have hN2:(N:Int)=1000001:=by omega
       have:=c_search (g:=143) (cb:=#[.pointer (some ⟨w.heap.size,0,none⟩),.pointer (some ⟨X.w.heap.size,0,none⟩)]) (n:=N) (k:=K) (p:=reached r o tv) (w:=W) (enters_of Tryz.func143 (by kernel_rfl) rfl) (by omega)
        (fun {V} hV i hi=>c_reached (Bm:=w.heap.size) (Br:=X.w.heap.size)
         (fun U hU=>@e2 U (grows_trans (grows_trans (inferInstance:Grows (w.alloc (.cells vs.toArray 62)) (X.w.alloc (.cells #[.int .i64 es.Id,.int .i64 es.Priority,.int .i64 tv,.string es.Data] 218))) hW) (grows_trans hV hU)))
         (fun U hU=>@e3 U (grows_trans (grows_trans (inferInstance:Grows (w.alloc (.cells vs.toArray 62)) (X.w.alloc (.cells #[.int .i64 es.Id,.int .i64 es.Priority,.int .i64 tv,.string es.Data] 218))) hW) (grows_trans hV hU)))
         (fun U hU=>@f2 U (grows_trans hW (grows_trans hV hU)))) (by omega) HS.out.2.1 (fun t h1 h2=>HS.out.2.2 t h1 (by omega))
       rw[hN2]at this
       exact this
      clear e2 e3 f2
      cases bo
      ·skip
       skip
       have HF:=lH (show T=false by have:=HK.out;rw[ehd.out,List.all_cons,HRT.out]at this;rw[HV2.out,← this]<;>rfl)
       go_wp2_with (first|((with_reducible refine wp_region_later (by kernel_rfl) (by kernel_rfl) ?_);(repeat(first|go_big_quiet_step (first|(go_at_call 142;exact Gives.quiet (cs))|(go_at_call 144;exact Gives.quiet (cb)))));refine wpQuiet_nil ?_;rintro _ ⟨x,rfl⟩)|(go_at_call 142;refine(cs).mono ?_;rintro _ _ ⟨rfl,x,rfl⟩)|(go_at_call 144;refine(cb).mono ?_;rintro _ _ ⟨rfl,x,rfl⟩))
       go_ret
       exact Gives.mk (by rw[HF.out];rfl)
      cases d1:decide ((K:Int)<lo)
      ·cases d2:decide (hi<(K:Int) - 1)
       ·have HF:=lH (show(m.Ground.Records.drop (k+1)).all (recTimed m.Ground.Pairs r o)=m.Ground.Records.all (recTimed m.Ground.Pairs r o)by have:=HK.out;rw[ehd.out,List.all_cons,HRT.out,d1,d2]at this;exact this)
        go_wp2_with (first|((with_reducible refine wp_region_later (by kernel_rfl) (by kernel_rfl) ?_);(repeat(first|go_big_quiet_step (first|(go_at_call 142;exact Gives.quiet (cs))|(go_at_call 144;exact Gives.quiet (cb)))|simp only[d1]|simp only[d2]));refine wpQuiet_nil ?_;rintro _ ⟨x,rfl⟩)|(go_at_call 142;refine(cs).mono ?_;rintro _ _ ⟨rfl,x,rfl⟩)|(go_at_call 144;refine(cb).mono ?_;rintro _ _ ⟨rfl,x,rfl⟩))
        go_roundw
        case rel=>exact⟨k+1,by go_num,by omega,HF,Later.of⟩
        case measure=>simp[intOf];omega
       ·skip
        skip
        have HF:=lH (show T=false by have:=HK.out;rw[ehd.out,List.all_cons,HRT.out,d1,d2]at this;rw[HV2.out,← this]<;>rfl)
        go_wp2_with (first|((with_reducible refine wp_region_later (by kernel_rfl) (by kernel_rfl) ?_);(repeat(first|go_big_quiet_step (first|(go_at_call 142;exact Gives.quiet (cs))|(go_at_call 144;exact Gives.quiet (cb)))|simp only[d1]|simp only[d2]));refine wpQuiet_nil ?_;rintro _ ⟨x,rfl⟩)|(go_at_call 142;refine(cs).mono ?_;rintro _ _ ⟨rfl,x,rfl⟩)|(go_at_call 144;refine(cb).mono ?_;rintro _ _ ⟨rfl,x,rfl⟩))
        go_ret
        exact Gives.mk (by rw[HF.out];rfl)
      ·skip
       skip
       have HF:=lH (show T=false by have:=HK.out;rw[ehd.out,List.all_cons,HRT.out,d1]at this;rw[HV2.out,← this]<;>rfl)
       go_wp2_with (first|((with_reducible refine wp_region_later (by kernel_rfl) (by kernel_rfl) ?_);(repeat(first|go_big_quiet_step (first|(go_at_call 142;exact Gives.quiet (cs))|(go_at_call 144;exact Gives.quiet (cb)))|simp only[d1]));refine wpQuiet_nil ?_;rintro _ ⟨x,rfl⟩)|(go_at_call 142;refine(cs).mono ?_;rintro _ _ ⟨rfl,x,rfl⟩)|(go_at_call 144;refine(cb).mono ?_;rintro _ _ ⟨rfl,x,rfl⟩))
       go_ret
       exact Gives.mk (by rw[HF.out];rfl)
     ·have HF:=lH (show T=true by have:=HK.out;rw[List.drop_of_length_le (by have:=HR.out;omega)]at this;rw[HV2.out,← this];rfl)
      go_wp2_with (first|((with_reducible refine wp_region_later (by kernel_rfl) (by kernel_rfl) ?_);(repeat(first|go_big_quiet_step (first|fail)));refine wpQuiet_nil ?_;rintro _ ⟨x,rfl⟩))
      go_ret
      exact Gives.mk (by rw[HF.out];rfl)
end Go.Proofs.YtbaffippdifbpaaGreat
