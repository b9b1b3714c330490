/- The receiver takes a command, of the reference. No condition but on sizes. -/
import Derived.Test.YtdoilejecjaldaaGreatHRcvS3
import Derived.Test.YtdoilejecjaldaaGreatHM38
import Derived.Deep.CutRange
namespace Go.Proofs.YtdoilejecjaldaaGreat
set_option maxRecDepth 100000
set_option maxHeartbeats 4000000
set_option linter.unusedVariables false
open Go.ChangeShapes Go.WideShapes Go.ChangeAt Go.RowKit
private abbrev ad5:=Tryz.underlying77
theorem aZ8{r:M4}{s:ByteArray}{w:World}(hm:s.size≤100000000):Calls Tryz.prog 22 #[.agg #[.int .i64 r.Expect,.bool r.Locked,.bool r.Again,.int .i64 r.Taken],.string s] w (b4 w (bV0 (F9 r s))):=by
 obtain⟨e,lk,ag,tk⟩:=r
 have HB:=lH ((i9.new w [.int .i64 e,.bool lk,.bool ag,.int .i64 tk] 77 w.heap.size rfl).to (ii:d5 _ ((w.alloc (.cells #[.int .i64 e,.bool lk,.bool ag,.int .i64 tk] 77)).alloc (.cells #[.int .i64 0,.bool false,.bool false,.int .i64 0] 77))))
 have HR:=lH (i9.new (w.alloc (.cells #[.int .i64 e,.bool lk,.bool ag,.int .i64 tk] 77)) [.int .i64 0,.bool false,.bool false,.int .i64 0] 77 (w.heap.size+1) (by simp))
 have gW:d5 w ((w.alloc (.cells #[.int .i64 e,.bool lk,.bool ag,.int .i64 tk] 77)).alloc (.cells #[.int .i64 0,.bool false,.bool false,.int .i64 0] 77)):=inferInstance
 go_enter Tryz.func22,Tryz.ntmps22
 go_upto_region 1 with(fail)
 generalize ((w.alloc (.cells #[.int .i64 e,.bool lk,.bool ag,.int .i64 tk] 77)).alloc (.cells #[.int .i64 0,.bool false,.bool false,.int .i64 0] 77))=W2 at HB HR gW ⊢
 have HDC:=lH (fun(W:World)=>ao4 (s:=s) (w:=W) hm)
 cases hd:N8 s with
 | none =>
  have HV:=lH (show F9 ⟨e,lk,ag,tk⟩ s=(⟨e,lk,ag,tk⟩,⟨#[]⟩,false)by rw[F9,hd])
  rw[hd]at HDC
  have HDC:=lH (show ∀ W,Calls Tryz.prog 20 #[.string s] W (b4 W (.tuple #[.int .i64 0,.int .i64 0,.string ⟨#[]⟩,.bool false]))from HDC.out)
  clear hd
  cases c0:A9 ⟨e,lk,ag,tk⟩
  ·go_wp2_with (first|(go_at_call 73;refine gm (d8) ?_;intro x)|(go_at_call 20;refine gm (HDC.out _) ?_;intro y1)|(go_at_call 83;refine gm (M1 (x:=⟨e,lk,ag,tk⟩)) ?_;intro y2)|(refine f7 rfl _ _ rfl (w.heap.size) 0 kr (row:=[.int .i64 e,.bool lk,.bool ag,.int .i64 tk]) (HB.out.to ii) _ ad5 rfl kr kr ?_)|(refine v8 rfl _ (.tmp 4) (.tmp 26) rfl (w.heap.size+1) 0 kr (us:=[.int .i64 e,.bool lk,.bool ag,.int .i64 tk]) (cs2:=[.int .i64 e,.bool lk,.bool ag,.int .i64 tk]) (HR.out.to ii) rfl kr rfl (by simp) rfl (w0:=w) ii (Nat.le_succ _) ?_;intro z9 hx9 kx9;have HX9:=lH hx9;clear hx9;have KX9:=lH kx9;clear kx9))
   refine bodyPost_ret (v:=.tuple #[.agg #[.int .i64 e,.bool lk,.bool ag,.int .i64 tk],.string ⟨#[]⟩,.bool false]) (F6 (P:=Tryz.prog) (u:=.string ⟨#[]⟩) (v:=.bool false) rfl rfl HX9.out _ ad5 rfl kr rfl rfl) rfl ⟨by rw[HV.out];rfl,b5.of⟩
  ·go_wp2_with (first|(go_at_call 73;refine gm (d8) ?_;intro x)|(go_at_call 20;refine gm (HDC.out _) ?_;intro y1)|(go_at_call 83;refine gm (M1 (x:=⟨e,lk,ag,tk⟩)) ?_;intro y2)|(refine f7 rfl _ _ rfl (w.heap.size) 0 kr (row:=[.int .i64 e,.bool lk,.bool ag,.int .i64 tk]) (HB.out.to ii) _ ad5 rfl kr kr ?_)|(refine v8 rfl _ (.tmp 4) (.tmp 26) rfl (w.heap.size+1) 0 kr (us:=[.int .i64 e,.bool lk,.bool ag,.int .i64 tk]) (cs2:=[.int .i64 e,.bool lk,.bool ag,.int .i64 tk]) (HR.out.to ii) rfl kr rfl (by simp) rfl (w0:=w) ii (Nat.le_succ _) ?_;intro z9 hx9 kx9;have HX9:=lH hx9;clear hx9;have KX9:=lH kx9;clear kx9))
   refine bodyPost_ret (v:=.tuple #[.agg #[.int .i64 e,.bool lk,.bool ag,.int .i64 tk],.string ⟨#[]⟩,.bool false]) (F6 (P:=Tryz.prog) (u:=.string ⟨#[]⟩) (v:=.bool false) rfl rfl HX9.out _ ad5 rfl kr rfl rfl) rfl ⟨by rw[HV.out];rfl,b5.of⟩
 | some q =>
  obtain⟨k,seq,d⟩:=q
  have hq:=aB5 hd
  simp only at hq
  obtain⟨k0,k1,s0,s1,-⟩:=hq
  have HTK:=lH (show F9 ⟨e,lk,ag,tk⟩ s=if A9 ⟨e,lk,ag,tk⟩=true then(if (k == 1)=true then(⟨e,false,false,tk⟩,⟨#[]⟩,false)else if lk=true then(⟨e,lk,ag,tk⟩,⟨#[]⟩,false)else ak5 ⟨e,lk,ag,tk⟩ seq d)else(⟨e,lk,ag,tk⟩,⟨#[]⟩,false)by rw[F9,hd])
  rw[hd]at HDC
  have HDC:=lH (show ∀ W,Calls Tryz.prog 20 #[.string s] W (b4 W (.tuple #[.int .i64 k,.int .i64 seq,.string d,.bool true]))from HDC.out)
  clear hd
  cases c0:A9 ⟨e,lk,ag,tk⟩
  ·have HV:=lH (show F9 ⟨e,lk,ag,tk⟩ s=(⟨e,lk,ag,tk⟩,⟨#[]⟩,false)by rw[HTK.out,c0];rfl)
   go_wp2_with (first|(go_at_call 73;refine gm (d8) ?_;intro x)|(go_at_call 20;refine gm (HDC.out _) ?_;intro y1)|(go_at_call 83;refine gm (M1 (x:=⟨e,lk,ag,tk⟩)) ?_;intro y2)|(refine f7 rfl _ _ rfl (w.heap.size) 0 kr (row:=[.int .i64 e,.bool lk,.bool ag,.int .i64 tk]) (HB.out.to ii) _ ad5 rfl kr kr ?_)|(refine v8 rfl _ (.tmp 4) (.tmp 26) rfl (w.heap.size+1) 0 kr (us:=[.int .i64 e,.bool lk,.bool ag,.int .i64 tk]) (cs2:=[.int .i64 e,.bool lk,.bool ag,.int .i64 tk]) (HR.out.to ii) rfl kr rfl (by simp) rfl (w0:=w) ii (Nat.le_succ _) ?_;intro z9 hx9 kx9;have HX9:=lH hx9;clear hx9;have KX9:=lH kx9;clear kx9))
   refine bodyPost_ret (v:=.tuple #[.agg #[.int .i64 e,.bool lk,.bool ag,.int .i64 tk],.string ⟨#[]⟩,.bool false]) (F6 (P:=Tryz.prog) (u:=.string ⟨#[]⟩) (v:=.bool false) rfl rfl HX9.out _ ad5 rfl kr rfl rfl) rfl ⟨by rw[HV.out];rfl,b5.of⟩
  ·have hr:=c0
   simp only[A9,Bool.and_eq_true]at hr
   have he:=D6.1 hr.1;have ht:=D6.1 hr.2
   clear hr
   have he0:=he.1;have he1:=he.2;have ht0:=ht.1;have ht1:=ht.2
   clear he ht
   go_upto_region 4 with(first|(go_at_call 20;refine gm (HDC.out _) ?_;intro y1)|(refine f7 rfl _ _ rfl (w.heap.size) 0 kr (row:=[.int .i64 e,.bool lk,.bool ag,.int .i64 tk]) (HB.out.to ii) _ ad5 rfl kr kr ?_)|(go_at_call 83;refine gm (M1 (x:=⟨e,lk,ag,tk⟩)) ?_;intro y2))
   cases c1:(k == 1)
   ·have e1:=HB.out.cellG 1 _ rfl
    have e0:=HB.out.cellG 0 _ rfl
    have e3:=HB.out.cellG 3 _ rfl
    cases lk
    ·have HST:=lH (show F9 ⟨e,false,ag,tk⟩ s=ak5 ⟨e,false,ag,tk⟩ seq d by rw[HTK.out,c0,c1];rfl)
     obtain⟨n,hn⟩:∃ n,(seq - e+256) % 256=n:=⟨_,rfl⟩
     have hn0:0≤n∧n≤255:=by omega
     have HS2:=lH (show ak5 ⟨e,false,ag,tk⟩ seq d=if n=0∧tk<1000000 then(⟨(e+1) % 256,false,false,tk+1⟩,d,true)else if inB n 1 40=true then(⟨e,false,true,tk⟩,⟨#[]⟩,false)else if inB n 41 215=true then(⟨e,true,ag,tk⟩,⟨#[]⟩,false)else(⟨e,false,ag,tk⟩,⟨#[]⟩,false)by rw[ak5,hn])
     go_upto_region 11 with(fail)
     clear e1
     cases c3:(n == 0)
     ·cases c5:inB n 1 40
      ·cases c6:inB n 41 215
       ·have HV:=lH (show F9 ⟨e,false,ag,tk⟩ s=(⟨e,false,ag,tk⟩,⟨#[]⟩,false)by rw[HST.out,HS2.out,if_neg (by have h3:¬ n=0:=(by simpa using c3);omega),if_neg (by rw[c5];decide),if_neg (by rw[c6];decide)])
        go_wp2_with (first|(go_at_call 73;refine gm (d8) ?_;intro x)|(refine f7 rfl _ _ rfl (w.heap.size) 0 kr (row:=[.int .i64 e,.bool false,.bool ag,.int .i64 tk]) (HB.out.to ii) _ ad5 rfl kr kr ?_)|(refine v8 rfl _ (.tmp 4) (.tmp 69) rfl (w.heap.size+1) 0 kr (us:=[.int .i64 e,.bool false,.bool ag,.int .i64 tk]) (cs2:=[.int .i64 e,.bool false,.bool ag,.int .i64 tk]) (HR.out.to ii) rfl kr rfl (by simp) rfl (w0:=w) ii (Nat.le_succ _) ?_;intro z9 hx9 kx9;have HX9:=lH hx9;clear hx9;have KX9:=lH kx9;clear kx9))
        refine bodyPost_ret (v:=.tuple #[.agg #[.int .i64 e,.bool false,.bool ag,.int .i64 tk],.string ⟨#[]⟩,.bool false]) (F6 (P:=Tryz.prog) (u:=.string ⟨#[]⟩) (v:=.bool false) rfl rfl HX9.out _ ad5 rfl kr rfl rfl) rfl ⟨by rw[HV.out];rfl,b5.of⟩
       ·have HV:=lH (show F9 ⟨e,false,ag,tk⟩ s=(⟨e,true,ag,tk⟩,⟨#[]⟩,false)by rw[HST.out,HS2.out,if_neg (by have h3:¬ n=0:=(by simpa using c3);omega),if_neg (by rw[c5];decide),if_pos c6])
        go_upto_region 20 with(first|(go_at_call 73;refine gm (d8) ?_;intro x)|(refine v8 rfl _ (.tmp 68) _ rfl (w.heap.size) 1 kr (us:=[.bool true]) (cs2:=[.int .i64 e,.bool true,.bool ag,.int .i64 tk]) (HB.out.to ii) rfl kr rfl (by simp) rfl (w0:=w) ii nl ?_;intro z1 hx1 kx1;have HX1:=lH hx1;clear hx1;have KX1:=lH kx1;clear kx1))
        (try simp only[Act.put])
        have HR1:=lH ((HR.out.to (ii:d5 W2 _)).but KX1.out (by omega))
        clear KX1
        go_wp2_with (first|(go_at_call 73;refine gm (d8) ?_;intro x)|(refine f7 rfl _ _ rfl (w.heap.size) 0 kr (row:=[.int .i64 e,.bool true,.bool ag,.int .i64 tk]) (HX1.out.to ii) _ ad5 rfl kr kr ?_)|(refine v8 rfl _ (.tmp 4) (.tmp 69) rfl (w.heap.size+1) 0 kr (us:=[.int .i64 e,.bool true,.bool ag,.int .i64 tk]) (cs2:=[.int .i64 e,.bool true,.bool ag,.int .i64 tk]) (HR1.out.to ii) rfl kr rfl (by simp) rfl (w0:=w) ii (Nat.le_succ _) ?_;intro z9 hx9 kx9;have HX9:=lH hx9;clear hx9;have KX9:=lH kx9;clear kx9))
        refine bodyPost_ret (v:=.tuple #[.agg #[.int .i64 e,.bool true,.bool ag,.int .i64 tk],.string ⟨#[]⟩,.bool false]) (F6 (P:=Tryz.prog) (u:=.string ⟨#[]⟩) (v:=.bool false) rfl rfl HX9.out _ ad5 rfl kr rfl rfl) rfl ⟨by rw[HV.out];rfl,b5.of⟩
      ·have HV:=lH (show F9 ⟨e,false,ag,tk⟩ s=(⟨e,false,true,tk⟩,⟨#[]⟩,false)by rw[HST.out,HS2.out,if_neg (by have h3:¬ n=0:=(by simpa using c3);omega),if_pos c5])
       go_upto_region 20 with(first|(go_at_call 73;refine gm (d8) ?_;intro x)|(refine v8 rfl _ (.tmp 64) _ rfl (w.heap.size) 2 kr (us:=[.bool true]) (cs2:=[.int .i64 e,.bool false,.bool true,.int .i64 tk]) (HB.out.to ii) rfl kr rfl (by simp) rfl (w0:=w) ii nl ?_;intro z1 hx1 kx1;have HX1:=lH hx1;clear hx1;have KX1:=lH kx1;clear kx1))
       (try simp only[Act.put])
       have HR1:=lH ((HR.out.to (ii:d5 W2 _)).but KX1.out (by omega))
       clear KX1
       go_wp2_with (first|(go_at_call 73;refine gm (d8) ?_;intro x)|(refine f7 rfl _ _ rfl (w.heap.size) 0 kr (row:=[.int .i64 e,.bool false,.bool true,.int .i64 tk]) (HX1.out.to ii) _ ad5 rfl kr kr ?_)|(refine v8 rfl _ (.tmp 4) (.tmp 69) rfl (w.heap.size+1) 0 kr (us:=[.int .i64 e,.bool false,.bool true,.int .i64 tk]) (cs2:=[.int .i64 e,.bool false,.bool true,.int .i64 tk]) (HR1.out.to ii) rfl kr rfl (by simp) rfl (w0:=w) ii (Nat.le_succ _) ?_;intro z9 hx9 kx9;have HX9:=lH hx9;clear hx9;have KX9:=lH kx9;clear kx9))
       refine bodyPost_ret (v:=.tuple #[.agg #[.int .i64 e,.bool false,.bool true,.int .i64 tk],.string ⟨#[]⟩,.bool false]) (F6 (P:=Tryz.prog) (u:=.string ⟨#[]⟩) (v:=.bool false) rfl rfl HX9.out _ ad5 rfl kr rfl rfl) rfl ⟨by rw[HV.out];rfl,b5.of⟩
     ·cases c4:decide (tk<1000000)
      ·have hn00:n=0:=by simpa using c3
       have c5:inB n 1 40=false:=by rw[hn00];rfl
       have c6:inB n 41 215=false:=by rw[hn00];rfl
       have HV:=lH (show F9 ⟨e,false,ag,tk⟩ s=(⟨e,false,ag,tk⟩,⟨#[]⟩,false)by rw[HST.out,HS2.out,if_neg (by have:=of_decide_eq_false c4;omega),if_neg (by rw[c5];decide),if_neg (by rw[c6];decide)])
       go_wp2_with (first|(go_at_call 73;refine gm (d8) ?_;intro x)|(refine f7 rfl _ _ rfl (w.heap.size) 0 kr (row:=[.int .i64 e,.bool false,.bool ag,.int .i64 tk]) (HB.out.to ii) _ ad5 rfl kr kr ?_)|(refine v8 rfl _ (.tmp 4) (.tmp 69) rfl (w.heap.size+1) 0 kr (us:=[.int .i64 e,.bool false,.bool ag,.int .i64 tk]) (cs2:=[.int .i64 e,.bool false,.bool ag,.int .i64 tk]) (HR.out.to ii) rfl kr rfl (by simp) rfl (w0:=w) ii (Nat.le_succ _) ?_;intro z9 hx9 kx9;have HX9:=lH hx9;clear hx9;have KX9:=lH kx9;clear kx9))
       refine bodyPost_ret (v:=.tuple #[.agg #[.int .i64 e,.bool false,.bool ag,.int .i64 tk],.string ⟨#[]⟩,.bool false]) (F6 (P:=Tryz.prog) (u:=.string ⟨#[]⟩) (v:=.bool false) rfl rfl HX9.out _ ad5 rfl kr rfl rfl) rfl ⟨by rw[HV.out];rfl,b5.of⟩
      ·have HV:=lH (show F9 ⟨e,false,ag,tk⟩ s=(⟨(e+1) % 256,false,false,tk+1⟩,d,true)by rw[HST.out,HS2.out,if_pos ⟨by simpa using c3,of_decide_eq_true c4⟩])
       go_upto_region 13 with(first|(go_at_call 73;refine gm (d8) ?_;intro x)|(refine v8 rfl _ (.tmp 53) _ rfl (w.heap.size) 0 kr (us:=[.int .i64 ((e+1) % 256)]) (cs2:=[.int .i64 ((e+1) % 256),.bool false,.bool ag,.int .i64 tk]) (HB.out.to ii) rfl kr rfl (by simp) rfl (w0:=w) ii nl ?_;intro z1 hx1 kx1;have HX1:=lH hx1;clear hx1;have KX1:=lH kx1;clear kx1))
       (try simp only[Act.put])
       have HR1:=lH ((HR.out.to (ii:d5 W2 _)).but KX1.out (by omega))
       clear KX1
       have e5:=HX1.out.cellG 3 _ rfl
       clear e0 e3
       go_upto_region 14 with(first|(go_at_call 73;refine gm (d8) ?_;intro x)|(refine v8 rfl _ (.tmp 57) _ rfl (w.heap.size) 3 kr (us:=[.int .i64 (tk+1)]) (cs2:=[.int .i64 ((e+1) % 256),.bool false,.bool ag,.int .i64 (tk+1)]) (HX1.out.to ii) rfl kr rfl (by simp) rfl (w0:=w) ii nl ?_;intro z2 hx2 kx2;have HX2:=lH hx2;clear hx2;have KX2:=lH kx2;clear kx2))
       (try simp only[Act.put])
       have HR2:=lH ((HR1.out.to (ii:d5 z1.w _)).but KX2.out (by omega))
       clear KX2
       clear e5
       go_upto_region 15 with(first|(go_at_call 73;refine gm (d8) ?_;intro x)|(refine v8 rfl _ (.tmp 58) _ rfl (w.heap.size) 2 kr (us:=[.bool false]) (cs2:=[.int .i64 ((e+1) % 256),.bool false,.bool false,.int .i64 (tk+1)]) (HX2.out.to ii) rfl kr rfl (by simp) rfl (w0:=w) ii nl ?_;intro z3 hx3 kx3;have HX3:=lH hx3;clear hx3;have KX3:=lH kx3;clear kx3))
       (try simp only[Act.put])
       have HR3:=lH ((HR2.out.to (ii:d5 z2.w _)).but KX3.out (by omega))
       clear KX3
       go_wp2_with (first|(refine f7 rfl _ _ rfl (w.heap.size) 0 kr (row:=[.int .i64 ((e+1) % 256),.bool false,.bool false,.int .i64 (tk+1)]) (HX3.out.to ii) _ ad5 rfl kr kr ?_)|(refine v8 rfl _ (.tmp 4) (.tmp 59) rfl (w.heap.size+1) 0 kr (us:=[.int .i64 ((e+1) % 256),.bool false,.bool false,.int .i64 (tk+1)]) (cs2:=[.int .i64 ((e+1) % 256),.bool false,.bool false,.int .i64 (tk+1)]) (HR3.out.to ii) rfl kr rfl (by simp) rfl (w0:=w) ii (Nat.le_succ _) ?_;intro z9 hx9 kx9;have HX9:=lH hx9;clear hx9;have KX9:=lH kx9;clear kx9))
       refine bodyPost_ret (v:=.tuple #[.agg #[.int .i64 ((e+1) % 256),.bool false,.bool false,.int .i64 (tk+1)],.string d,.bool true]) (F6 (P:=Tryz.prog) (u:=.string d) (v:=.bool true) rfl rfl HX9.out _ ad5 rfl kr rfl rfl) rfl ⟨by rw[HV.out];rfl,b5.of⟩
    ·have HV:=lH (show F9 ⟨e,true,ag,tk⟩ s=(⟨e,true,ag,tk⟩,⟨#[]⟩,false)by rw[HTK.out,c0,c1];rfl)
     go_wp2_with (first|(go_at_call 73;refine gm (d8) ?_;intro x)|(refine f7 rfl _ _ rfl (w.heap.size) 0 kr (row:=[.int .i64 e,.bool true,.bool ag,.int .i64 tk]) (HB.out.to ii) _ ad5 rfl kr kr ?_)|(refine v8 rfl _ (.tmp 4) (.tmp 34) rfl (w.heap.size+1) 0 kr (us:=[.int .i64 e,.bool true,.bool ag,.int .i64 tk]) (cs2:=[.int .i64 e,.bool true,.bool ag,.int .i64 tk]) (HR.out.to ii) rfl kr rfl (by simp) rfl (w0:=w) ii (Nat.le_succ _) ?_;intro z9 hx9 kx9;have HX9:=lH hx9;clear hx9;have KX9:=lH kx9;clear kx9))
     refine bodyPost_ret (v:=.tuple #[.agg #[.int .i64 e,.bool true,.bool ag,.int .i64 tk],.string ⟨#[]⟩,.bool false]) (F6 (P:=Tryz.prog) (u:=.string ⟨#[]⟩) (v:=.bool false) rfl rfl HX9.out _ ad5 rfl kr rfl rfl) rfl ⟨by rw[HV.out];rfl,b5.of⟩
   ·have HV:=lH (show F9 ⟨e,lk,ag,tk⟩ s=(⟨e,false,false,tk⟩,⟨#[]⟩,false)by rw[HTK.out,c0,c1];rfl)
    go_upto_region 6 with(first|(go_at_call 73;refine gm (d8) ?_;intro x)|(refine v8 rfl _ (.tmp 29) _ rfl (w.heap.size) 1 kr (us:=[.bool false]) (cs2:=[.int .i64 e,.bool false,.bool ag,.int .i64 tk]) (HB.out.to ii) rfl kr rfl (by simp) rfl (w0:=w) ii nl ?_;intro z1 hx1 kx1;have HX1:=lH hx1;clear hx1;have KX1:=lH kx1;clear kx1))
    (try simp only[Act.put])
    have HR1:=lH ((HR.out.to (ii:d5 W2 _)).but KX1.out (by omega))
    clear KX1
    go_upto_region 7 with(first|(go_at_call 73;refine gm (d8) ?_;intro x)|(refine v8 rfl _ (.tmp 30) _ rfl (w.heap.size) 2 kr (us:=[.bool false]) (cs2:=[.int .i64 e,.bool false,.bool false,.int .i64 tk]) (HX1.out.to ii) rfl kr rfl (by simp) rfl (w0:=w) ii nl ?_;intro z2 hx2 kx2;have HX2:=lH hx2;clear hx2;have KX2:=lH kx2;clear kx2))
    (try simp only[Act.put])
    have HR2:=lH ((HR1.out.to (ii:d5 z1.w _)).but KX2.out (by omega))
    clear KX2
    go_wp2_with (first|(go_at_call 73;refine gm (d8) ?_;intro x)|(refine f7 rfl _ _ rfl (w.heap.size) 0 kr (row:=[.int .i64 e,.bool false,.bool false,.int .i64 tk]) (HX2.out.to ii) _ ad5 rfl kr kr ?_)|(refine v8 rfl _ (.tmp 4) (.tmp 31) rfl (w.heap.size+1) 0 kr (us:=[.int .i64 e,.bool false,.bool false,.int .i64 tk]) (cs2:=[.int .i64 e,.bool false,.bool false,.int .i64 tk]) (HR2.out.to ii) rfl kr rfl (by simp) rfl (w0:=w) ii (Nat.le_succ _) ?_;intro z9 hx9 kx9;have HX9:=lH hx9;clear hx9;have KX9:=lH kx9;clear kx9))
    refine bodyPost_ret (v:=.tuple #[.agg #[.int .i64 e,.bool false,.bool false,.int .i64 tk],.string ⟨#[]⟩,.bool false]) (F6 (P:=Tryz.prog) (u:=.string ⟨#[]⟩) (v:=.bool false) rfl rfl HX9.out _ ad5 rfl kr rfl rfl) rfl ⟨by rw[HV.out];rfl,b5.of⟩
