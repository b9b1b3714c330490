/- When the clock on board first shows a time: what it is, and the contracts of sort.Search, of the code's closure, and of the reference's search. No condition. -/
import Derived.Test.YtbaffippdifbpaaGreatSM5
import Derived.Test.YtbaffippdifbpaaGreatSDTy
import Derived.Test.YtbaffippdifbpaaGreatSM9
import Derived.Shelf.Abstract
namespace Go.Proofs.YtbaffippdifbpaaGreat
set_option linter.unusedVariables false
open Go.ChangeShapes Go.WideShapes Go.ChangeAt Go.RowKit
theorem boardTime_mono{r o s t:Int}(hs:0≤s)(hst:s≤t)(ht:t≤1000000):boardTime r o s≤boardTime r o t:=by
 have h1:inB s 0 1000000=true:=inB_iff.2 ⟨hs,by omega⟩
 have h2:inB t 0 1000000=true:=inB_iff.2 ⟨by omega,ht⟩
 cases hd:driftOk r o
 ·simp[boardTime,hd]
 ·have hr:-100≤r∧r≤100:=by
   simp only[driftOk,Bool.and_eq_true]at hd
   exact inB_iff.1 hd.1
  have h3:s*(1000+r)≤t*(1000+r):=Int.mul_le_mul_of_nonneg_right hst (by omega)
  rw[Int.mul_add,Int.mul_add]at h3
  simp only[boardTime,hd,h1,h2,Bool.and_self,if_true]
  generalize s*r=p at h3 ⊢
  generalize t*r=q at h3 ⊢
  omega
theorem first_ex(p:Nat→Bool):∀ n:Nat,∃ k:Nat,k≤n∧(∀ t,t<k→p t=false)∧(k<n→p k=true)
 | 0=>⟨0,Nat.le_refl _,fun _ h=>absurd h (Nat.not_lt_zero _),fun h=>absurd h (Nat.lt_irrefl _)⟩
 | n+1=>by
  obtain⟨k,h1,h2,h3⟩:=first_ex p n
  by_cases hk:k<n
  ·exact⟨k,by omega,h2,fun _=>h3 hk⟩
  ·have hkn:k=n:=by omega
   subst hkn
   cases hp:p k
   ·exact⟨k+1,by omega,fun t ht=>by
     by_cases h:t<k
     ·exact h2 t h
     ·rw[show t=k from by omega];exact hp,fun h=>by omega⟩
   ·exact⟨k,by omega,h2,fun _=>hp⟩
def reached(r o c:Int)(t:Nat):Bool:=decide (c≤boardTime r o t)
noncomputable def sinceN(n:Nat)(r o c:Int):Nat:=Classical.choose (first_ex (reached r o c) n)
theorem sinceN_is(n:Nat)(hn:(n:Int)≤1000001)(r o c:Int):sinceN n r o c≤n∧(∀ t,t<sinceN n r o c→reached r o c t=false)∧(∀ t,sinceN n r o c≤t→t<n→reached r o c t=true):=by
 have h:=Classical.choose_spec (first_ex (reached r o c) n)
 change sinceN n r o c≤n∧(∀ t,t<sinceN n r o c→reached r o c t=false)∧(sinceN n r o c<n→reached r o c (sinceN n r o c)=true)at h
 obtain⟨h1,h2,h3⟩:=h
 generalize sinceN n r o c=k at h1 h2 h3 ⊢
 refine⟨h1,h2,fun t ha hb=>?_⟩
 have h5:=h3 (Nat.lt_of_le_of_lt ha hb)
 have h4:boardTime r o k≤boardTime r o t:=boardTime_mono (by omega) (by omega) (by omega)
 simp only[reached,decide_eq_true_eq]at h5 ⊢
 omega
noncomputable def since(r o c:Int):Nat:=sinceN (Int.toNat 1000001) r o c
theorem since_is(r o c:Int):since r o c≤1000001∧(∀ t,t<since r o c→reached r o c t=false)∧(∀ t,since r o c≤t→t<1000001→reached r o c t=true):=by
 obtain⟨n,hn⟩:∃ n,Int.toNat 1000001=n:=⟨_,rfl⟩
 have h:=sinceN_is n (by omega) r o c
 rw[since,hn]
 generalize sinceN n r o c=k at h ⊢
 obtain⟨h1,h2,h3⟩:=h
 exact⟨by omega,h2,fun t ha hb=>h3 t ha (by omega)⟩
set_option maxRecDepth 100000 in
set_option maxHeartbeats 2000000 in
theorem c_search{g:Nat}{cb:Array Value}{n k:Nat}{p:Nat→Bool}{w:World}(eg:∀ args w,(callFunc g args).run Tryz.prog w=.ok (.enter g args) w)(hn:n≤4611686018427387903)
  (hf:∀ {W:World} [Grows w W] (i:Nat),i<n→Calls Tryz.prog g (#[.int .i64 i]++cb) W (Gives W (.bool (p i)))) (hk:k≤n) (h1:∀ t,t<k→p t=false) (h2:∀ t,k≤t→t<n→p t=true) :
  Calls Tryz.prog 142 #[.int .i64 n,.func (.func g) #[] cb] w (Gives w (.int .i64 k)):=by
 have HF:=lH (And.intro h1 h2);clear h1 h2
 go_enter Tryz.func142,Tryz.ntmps142
 go_wp2_with (first|((with_reducible refine wp_region_later (by kernel_rfl) (by kernel_rfl) ?_);(repeat(first|go_big_quiet_step (first|fail)));refine wpQuiet_nil ?_;rintro _ ⟨x,rfl⟩))
 go_loopw [5,6] (fun u v wr=>∃ (lo hi:Nat),u=.int .i64 lo∧v=.int .i64 hi∧lo≤k∧k≤hi∧hi≤n∧∃ y:Later w,wr=y.w) (fun u v _=>(intOf v - intOf u).toNat)
 case atStart=>exact⟨0,n,rfl,rfl,by omega,hk,by omega,Later.of⟩
 case round =>
  obtain⟨lo,hi,rfl,rfl,hlo,hhi,hhn,y,rfl⟩:=hrel
  by_cases h:lo<hi
  ·have hc:=hf (W:=y.w) ((lo+hi) / 2) (by omega)
   rw[show(((lo+hi) / 2:Nat):Int)=((lo:Int)+(hi:Int)) / 2 by omega]at hc
   cases hp:p ((lo+hi) / 2)
   ·have hk2:(lo+hi) / 2<k:=by
     by_cases hh:(lo+hi) / 2<k
     ·exact hh
     ·have:=HF.out.2 ((lo+hi) / 2) (by omega) (by omega);rw[hp]at this;cases this
    rw[hp]at hc
    have HC:=lH hc;clear hc hp hf
    go_wp2_with (first|((with_reducible refine wp_region_later (by kernel_rfl) (by kernel_rfl) ?_);(repeat(first|go_big_quiet_step (first|fail)));refine wpQuiet_nil ?_;rintro _ ⟨x,rfl⟩)|(go_at_fn g;refine HC.out.mono ?_;rintro _ _ ⟨rfl,y1,rfl⟩))
    go_roundw
    case rel=>exact⟨(lo+hi) / 2+1,hi,by rw[show((lo:Int)+(hi:Int)) / 2+1=(((lo+hi) / 2+1:Nat):Int)by omega],rfl,by omega,hhi,hhn,Later.of⟩
    case measure=>simp[intOf];omega
   ·have hk2:k≤(lo+hi) / 2:=by
     by_cases hh:k≤(lo+hi) / 2
     ·exact hh
     ·have:=HF.out.1 ((lo+hi) / 2) (by omega);rw[hp]at this;cases this
    rw[hp]at hc
    have HC:=lH hc;clear hc hp hf
    go_wp2_with (first|((with_reducible refine wp_region_later (by kernel_rfl) (by kernel_rfl) ?_);(repeat(first|go_big_quiet_step (first|fail)));refine wpQuiet_nil ?_;rintro _ ⟨x,rfl⟩)|(go_at_fn g;refine HC.out.mono ?_;rintro _ _ ⟨rfl,y1,rfl⟩))
    go_roundw
    case rel=>exact⟨lo,(lo+hi) / 2,rfl,by rw[show((lo:Int)+(hi:Int)) / 2=(((lo+hi) / 2:Nat):Int)by omega],hlo,by omega,by omega,Later.of⟩
    case measure=>simp[intOf];omega
  ·have ek:lo=k:=by omega
   subst ek
   go_wp2_with (first|((with_reducible refine wp_region_later (by kernel_rfl) (by kernel_rfl) ?_);(repeat(first|go_big_quiet_step (first|fail)));refine wpQuiet_nil ?_;rintro _ ⟨x,rfl⟩))
   go_ret
   exact Gives.mk rfl
theorem c_reached{Bm Br t:Nat}{r o c:Int}{W:World}(e0:∀ (V:World) [Grows W V],V.cell? ⟨Bm,2,none⟩=some (.int .i64 r))(e1:∀ (V:World) [Grows W V],V.cell? ⟨Bm,3,none⟩=some (.int .i64 o))(e2:∀ (V:World) [Grows W V],V.cell? ⟨Br,2,none⟩=some (.int .i64 c)) :
  Calls Tryz.prog 143 #[.int .i64 t,.pointer (some ⟨Bm,0,none⟩),.pointer (some ⟨Br,0,none⟩)] W (Gives W (.bool (reached r o c t))):=by
 go_enter Tryz.func143,Tryz.ntmps143
 go_wp2_with (first|((with_reducible refine wp_region_later (by kernel_rfl) (by kernel_rfl) ?_);(repeat(first|go_big_quiet_step (first|(go_at_call 49;exact Gives.quiet (c_iBoardTime)))));refine wpQuiet_nil ?_;rintro _ ⟨x,rfl⟩)|(go_at_call 49;refine(c_iBoardTime).mono ?_;rintro _ _ ⟨rfl,x,rfl⟩))
 go_ret
 exact Gives.mk (by rw[reached];rfl)
section
variable {P:Program} {ops:Array Oper} {C:World→Prop} {Q:Act→Prop} {o:Oper} {rest:List Oper} {a:Act}
end
theorem grows_trans{a b c:World}(h:Grows a b)(g:Grows b c):Grows a c:=⟨h.out.trans (g.out.mono h.out.size)⟩
end Go.Proofs.YtbaffippdifbpaaGreat
