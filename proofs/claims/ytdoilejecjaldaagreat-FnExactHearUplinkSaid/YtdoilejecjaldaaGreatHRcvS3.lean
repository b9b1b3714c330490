/- The receiving side of the link of the reference: texts opened, commands. No condition but on sizes. -/
import Derived.Test.YtdoilejecjaldaaGreatHRcvS2
import Derived.Test.YtdoilejecjaldaaGreatHM44
import Derived.Test.YtdoilejecjaldaaGreatHRcvI3
import Derived.Deep.CutRange
namespace Go.Proofs.YtdoilejecjaldaaGreat
set_option maxRecDepth 100000
set_option maxHeartbeats 4000000
set_option linter.unusedVariables false
open Go.ChangeShapes Go.WideShapes Go.ChangeAt Go.RowKit
theorem aS2{s:ByteArray}{w:World}(hm:s.size≤100000000):Calls Tryz.prog 81 #[.string s] w (b4 w (.tuple #[.string (bV3 (R2 s)),.bool (R2 s).isSome])):=by
 by_cases h2:s.size<2
 ·have HV:=lH (show R2 s=none by rw[R2,if_pos h2])
  have c0:decide ((s.size:Int) - 2<0)=true:=by simp;omega
  go_enter Tryz.func81,Tryz.ntmps81
  go_wp2_with (fail)
  refine bodyPost_ret (v:=.tuple #[.string ⟨#[]⟩,.bool false]) ?_ rfl (b4.mk (by rw[HV.out];rfl))
  simp[results,Tryz.results81,go_sem]
 have c0:decide ((s.size:Int) - 2<0)=false:=by simp;omega
 have hz2:((s.size:Int) - 2).toNat=s.size - 2:=by omega
 have hz3:(0:Int)≤(s.size:Int) - 2:=by omega
 have hz4:(s.size:Int) - 2≤(s.size:Int):=by omega
 obtain⟨t,ht⟩:∃ t,s.extract 0 (s.size - 2)=t:=⟨_,rfl⟩
 have htz:t.size≤100000000:=by rw[← ht];simp only[ByteArray.size_extract];omega
 cases c1:((au2 t).toList == s.toList)
 ·have HV:=lH (show R2 s=none by rw[R2,if_neg h2,ht,if_neg (by rw[c1];simp)])
  go_enter Tryz.func81,Tryz.ntmps81
  go_wp2_with (first|(go_at_call 180;refine gm (au7 htz) ?_;intro y9))
  refine bodyPost_ret (v:=.tuple #[.string ⟨#[]⟩,.bool false]) ?_ rfl (b4.mk (by rw[HV.out];rfl))
  simp[results,Tryz.results81,go_sem]
 ·have HV:=lH (show R2 s=some t by rw[R2,if_neg h2,ht,if_pos c1])
  go_enter Tryz.func81,Tryz.ntmps81
  go_wp2_with (first|(go_at_call 180;refine gm (au7 htz) ?_;intro y9))
  refine bodyPost_ret (v:=.tuple #[.string t,.bool true]) ?_ rfl (b4.mk (by rw[HV.out];rfl))
  simp[results,Tryz.results81,go_sem]
theorem aK4{kind seq:Int}{s:ByteArray}{w:World}(h:inB kind 0 1=false∨(inB kind 0 1=true∧inB seq 0 255=true∧decide (40<(s.size:Int))=true)):Calls Tryz.prog 82 #[.int .i64 kind,.int .i64 seq,.string s] w (b4 w (.string ⟨#[]⟩)):=by
 rcases h with c1|⟨c1,c2,c3⟩
 ·go_enter Tryz.func82,Tryz.ntmps82
  go_wp2_with (first|(go_at_call 73;refine gm (d8) ?_;intro x))
  go_ret
  exact b4.mk rfl
 ·go_enter Tryz.func82,Tryz.ntmps82
  go_wp2_with (first|(go_at_call 73;refine gm (d8) ?_;intro x))
  go_ret
  exact b4.mk rfl
theorem ao4{s:ByteArray}{w:World}(hm:s.size≤100000000):Calls Tryz.prog 20 #[.string s] w (b4 w (bA7 (N8 s))):=by
 cases ho:R2 s with
 | none =>
  have HV:=lH (show N8 s=none by rw[N8,ho])
  have HOT:=lH (fun(W:World)=>show Calls Tryz.prog 81 #[.string s] W (b4 W (.tuple #[.string ⟨#[]⟩,.bool false]))by have:=aS2 (s:=s) (w:=W) hm;rw[ho]at this;exact this)
  go_enter Tryz.func20,Tryz.ntmps20
  go_wp2_with (first|((with_reducible refine rl ?_);refine rq ?_;intro x)|(go_at_call 81;refine gm (HOT.out _) ?_;intro y1))
  refine bodyPost_ret (v:=.tuple #[.int .i64 0,.int .i64 0,.string ⟨#[]⟩,.bool false]) ?_ rfl (b4.mk (by rw[HV.out];rfl))
  simp[results,Tryz.results20,go_sem]
 | some t =>
  have HI:=lH (aD5 ho)
  have HOT:=lH (fun(W:World)=>show Calls Tryz.prog 81 #[.string s] W (b4 W (.tuple #[.string t,.bool true]))by have:=aS2 (s:=s) (w:=W) hm;rw[ho]at this;exact this)
  by_cases h2:2≤t.size
  ·have e0:bAt t 0=t[0].toNat:=ak7 (by omega)
   have e1:bAt t 1=t[1].toNat:=ak7 (by omega)
   have hb0:t[0].toNat<256:=t[0].toNat_lt
   have hb1:t[1].toNat<256:=t[1].toNat_lt
   have j0:(0:Int)<t.size:=by omega
   have j00:0<t.size:=by omega
   have j1:(1:Int)<t.size:=by omega
   have j11:1<t.size:=by omega
   have j2:(2:Int)≤t.size:=by omega
   have w0:wrap64 ((t[0].toNat:Nat):Int)=t[0].toNat:=by unfold wrap64;omega
   have w1:wrap64 ((t[1].toNat:Nat):Int)=t[1].toNat:=by unfold wrap64;omega
   have hx:(t.extract 2 t.size).size=t.size - 2:=by rw[ByteArray.size_extract];omega
   have k0:decide ((t.size:Int)<2)=false:=by simp;omega
   by_cases hk:aG1 t=true
   ·have hk2:=hk
    simp only[aG1,Bool.and_eq_true,decide_eq_true_eq]at hk2
    have HV:=lH (show N8 s=some ((t[0].toNat:Int),(t[1].toNat:Int),t.extract 2 t.size)by rw[N8,ho];simp only;rw[if_pos hk,e0,e1])
    have hne:((bn8 (t[0].toNat) (t[1].toNat) (t.extract 2 t.size)).toList == s.toList)=true:=by rw[← e0,← e1,bn9 ho h2];simp
    have HEC:=fun(W:World)=>aQ0 (kind:=(t[0].toNat:Int)) (seq:=(t[1].toNat:Int)) (s:=t.extract 2 t.size) (w:=W) (by omega) (by omega) (by omega) (by omega)
    clear e0 e1 ho
    go_enter Tryz.func20,Tryz.ntmps20
    go_wp2_with (first|(go_at_call 81;refine gm (HOT.out _) ?_;intro y1)|((with_reducible refine rl ?_);(repeat(first|go_big_quiet_step (first|(go_at_call 82;exact b4.quiet (HEC _)))|simp only[k0]|simp only[w0]|simp only[w1]|simp only[hne]));refine wpQuiet_nil ?_;intro x)|simp only[k0]|simp only[w0]|simp only[w1]|simp only[hne])
    refine bodyPost_ret (v:=.tuple #[.int .i64 t[0].toNat,.int .i64 t[1].toNat,.string (t.extract 2 t.size),.bool true]) ?_ rfl (b4.mk (by rw[HV.out];rfl))
    simp[results,Tryz.results20,go_sem]
   ·have HV:=lH (show N8 s=none by rw[N8,ho];simp only;rw[if_neg hk])
    have hne:s.toList.isEmpty=false:=al4 (by have:=HI.out.1;omega)
    have hk3:inB (t[0].toNat) 0 1=false∨(inB (t[0].toNat) 0 1=true∧inB (t[1].toNat) 0 255=true∧decide (40<((t.extract 2 t.size).size:Int))=true):=by
      cases h:inB (t[0].toNat) 0 1
      ·exact .inl rfl
      ·have h5:=D6.1 h
       refine .inr ⟨rfl,D6.2 (by omega),?_⟩
       simp only[aG1,Bool.and_eq_true,decide_eq_true_eq]at hk
       simp only[hx,decide_eq_true_eq];omega
    have HEC:=fun(W:World)=>aK4 (kind:=(t[0].toNat:Int)) (seq:=(t[1].toNat:Int)) (s:=t.extract 2 t.size) (w:=W) hk3
    clear e0 e1 ho hk3
    go_enter Tryz.func20,Tryz.ntmps20
    go_wp2_with (first|(go_at_call 81;refine gm (HOT.out _) ?_;intro y1)|((with_reducible refine rl ?_);(repeat(first|go_big_quiet_step (first|(go_at_call 82;exact b4.quiet (HEC _)))|simp only[k0]|simp only[w0]|simp only[w1]|simp only[hne]));refine wpQuiet_nil ?_;intro x)|simp only[k0]|simp only[w0]|simp only[w1]|simp only[hne])
    refine bodyPost_ret (v:=.tuple #[.int .i64 0,.int .i64 0,.string ⟨#[]⟩,.bool false]) ?_ rfl (b4.mk (by rw[HV.out];rfl))
    simp[results,Tryz.results20,go_sem]
  ·have k0:decide ((t.size:Int)<2)=true:=by simp;omega
   have HV:=lH (show N8 s=none by rw[N8,ho];simp only;rw[if_neg (by simp only[aG1,Bool.and_eq_true,decide_eq_true_eq];omega)])
   clear ho
   go_enter Tryz.func20,Tryz.ntmps20
   go_wp2_with (first|((with_reducible refine rl ?_);(repeat(first|go_big_quiet_step (first|fail)|simp only[k0]));refine wpQuiet_nil ?_;intro x)|(go_at_call 81;refine gm (HOT.out _) ?_;intro y1))
   refine bodyPost_ret (v:=.tuple #[.int .i64 0,.int .i64 0,.string ⟨#[]⟩,.bool false]) ?_ rfl (b4.mk (by rw[HV.out];rfl))
   simp[results,Tryz.results20,go_sem]
