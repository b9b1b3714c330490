/- The receiving side of the link of the program: texts opened, commands. No condition but on sizes. -/
import Derived.Test.YtdoilejecjaldaaGreatHM26
import Derived.Test.YtdoilejecjaldaaGreatHM31
import Derived.Deep.CutRange
namespace Go.Proofs.YtdoilejecjaldaaGreat
set_option maxRecDepth 100000
set_option maxHeartbeats 4000000
set_option linter.unusedVariables false
open Go.ChangeShapes Go.WideShapes Go.ChangeAt Go.RowKit
def bV3:Option ByteArray→ByteArray
 | some t=>t
 | none=>⟨#[]⟩
def bA7:Option (Int × Int × ByteArray)→Value
 | some q=>.tuple #[.int .i64 q.1,.int .i64 q.2.1,.string q.2.2,.bool true]
 | none=>.tuple #[.int .i64 0,.int .i64 0,.string ⟨#[]⟩,.bool false]
theorem aS0{s:ByteArray}{w:World}(hm:s.size≤100000000):Calls Tryz.prog 123 #[.string s] w (b4 w (.tuple #[.string (bV3 (R2 s)),.bool (R2 s).isSome])):=by
 by_cases h2:s.size<2
 ·have HV:=lH (show R2 s=none by rw[R2,if_pos h2])
  have c0:decide ((s.size:Int)<2)=true:=by simp;omega
  go_enter Tryz.func123,Tryz.ntmps123
  go_wp2_with (fail)
  refine bodyPost_ret (v:=.tuple #[.string ⟨#[]⟩,.bool false]) ?_ rfl (b4.mk (by rw[HV.out];rfl))
  simp[results,Tryz.results123,go_sem]
 have c0:decide ((s.size:Int)<2)=false:=by simp;omega
 have hz2:((s.size:Int) - 2).toNat=s.size - 2:=by omega
 have hz3:(0:Int)≤(s.size:Int) - 2:=by omega
 have hz4:(s.size:Int) - 2≤(s.size:Int):=by omega
 obtain⟨t,ht⟩:∃ t,s.extract 0 (s.size - 2)=t:=⟨_,rfl⟩
 have htz:t.size≤100000000:=by rw[← ht];simp only[ByteArray.size_extract];omega
 cases c1:((au2 t).toList == s.toList)
 ·have HV:=lH (show R2 s=none by rw[R2,if_neg h2,ht,if_neg (by rw[c1];simp)])
  go_enter Tryz.func123,Tryz.ntmps123
  go_wp2_with (first|(go_at_call 214;refine gm (aS1 htz) ?_;intro y9))
  refine bodyPost_ret (v:=.tuple #[.string ⟨#[]⟩,.bool false]) ?_ rfl (b4.mk (by rw[HV.out];rfl))
  simp[results,Tryz.results123,go_sem]
 ·have HV:=lH (show R2 s=some t by rw[R2,if_neg h2,ht,if_pos c1])
  go_enter Tryz.func123,Tryz.ntmps123
  go_wp2_with (first|(go_at_call 214;refine gm (aS1 htz) ?_;intro y9))
  refine bodyPost_ret (v:=.tuple #[.string t,.bool true]) ?_ rfl (b4.mk (by rw[HV.out];rfl))
  simp[results,Tryz.results123,go_sem]
theorem aw0{s:ByteArray}{w:World}(hm:s.size≤100000000):Calls Tryz.prog 36 #[.string s] w (b4 w (bA7 (N8 s))):=by
 cases ho:R2 s with
 | none =>
  have HV:=lH (show N8 s=none by rw[N8,ho])
  have HOT:=lH (fun(W:World)=>show Calls Tryz.prog 123 #[.string s] W (b4 W (.tuple #[.string ⟨#[]⟩,.bool false]))by have:=aS0 (s:=s) (w:=W) hm;rw[ho]at this;exact this)
  go_enter Tryz.func36,Tryz.ntmps36
  go_wp2_with (first|((with_reducible refine rl ?_);refine rq ?_;intro x)|(go_at_call 123;refine gm (HOT.out _) ?_;intro y1))
  refine bodyPost_ret (v:=.tuple #[.int .i64 0,.int .i64 0,.string ⟨#[]⟩,.bool false]) ?_ rfl (b4.mk (by rw[HV.out];rfl))
  simp[results,Tryz.results36,go_sem]
 | some t =>
  have HI:=lH (aD5 ho)
  have HOT:=lH (fun(W:World)=>show Calls Tryz.prog 123 #[.string s] W (b4 W (.tuple #[.string t,.bool true]))by have:=aS0 (s:=s) (w:=W) hm;rw[ho]at this;exact this)
  by_cases h2:2≤t.size
  ·have e0:bAt t 0=t[0].toNat:=ak7 (by omega)
   have e1:bAt t 1=t[1].toNat:=ak7 (by omega)
   have hb0:t[0].toNat<256:=t[0].toNat_lt
   have hb1:t[1].toNat<256:=t[1].toNat_lt
   have j0:(0:Int)<t.size:=by omega
   have j00:0<t.size:=by omega
   have j1:(1:Int)<t.size:=by omega
   have j11:1<t.size:=by omega
   have j2:(2:Int)≤t.size:=by omega
   have w0:wrap64 ((t[0].toNat:Nat):Int)=t[0].toNat:=by unfold wrap64;omega
   have w1:wrap64 ((t[1].toNat:Nat):Int)=t[1].toNat:=by unfold wrap64;omega
   by_cases h42:t.size≤42
   ·have c2:inB t.size 2 42=true:=D6.2 (by omega)
    by_cases hk:t[0].toNat≤1
    ·have c3:decide ((1:Int)<((t[0].toNat:Nat):Int))=false:=by simp;omega
     have HV:=lH (show N8 s=some ((t[0].toNat:Int),(t[1].toNat:Int),t.extract 2 t.size)by rw[N8,ho];simp only;rw[if_pos (by simp only[aG1,Bool.and_eq_true,decide_eq_true_eq];omega),e0,e1])
     clear e0 e1 ho
     go_enter Tryz.func36,Tryz.ntmps36
     go_wp2_with (first|((with_reducible refine rl ?_);(repeat(first|go_big_quiet_step (first|(go_at_call 114;exact b4.quiet (d6)))|simp only[c2]|simp only[c3]|simp only[w0]|simp only[w1]));refine wpQuiet_nil ?_;intro x)|(go_at_call 114;refine gm (d6) ?_;intro x)|(go_at_call 123;refine gm (HOT.out _) ?_;intro y1))
     refine bodyPost_ret (v:=.tuple #[.int .i64 t[0].toNat,.int .i64 t[1].toNat,.string (t.extract 2 t.size),.bool true]) ?_ rfl (b4.mk (by rw[HV.out];rfl))
     simp[results,Tryz.results36,go_sem]
    ·have c3:decide ((1:Int)<((t[0].toNat:Nat):Int))=true:=by simp;omega
     have HV:=lH (show N8 s=none by rw[N8,ho];simp only;rw[if_neg (by simp only[aG1,Bool.and_eq_true,decide_eq_true_eq];omega)])
     clear e0 e1 ho
     go_enter Tryz.func36,Tryz.ntmps36
     go_wp2_with (first|((with_reducible refine rl ?_);(repeat(first|go_big_quiet_step (first|(go_at_call 114;exact b4.quiet (d6)))|simp only[c2]|simp only[c3]));refine wpQuiet_nil ?_;intro x)|(go_at_call 114;refine gm (d6) ?_;intro x)|(go_at_call 123;refine gm (HOT.out _) ?_;intro y1))
     refine bodyPost_ret (v:=.tuple #[.int .i64 0,.int .i64 0,.string ⟨#[]⟩,.bool false]) ?_ rfl (b4.mk (by rw[HV.out];rfl))
     simp[results,Tryz.results36,go_sem]
   ·clear e0 e1
    have c2:inB t.size 2 42=false:=by cases h:inB t.size 2 42;rfl;have:=D6.1 h;omega
    have HV:=lH (show N8 s=none by rw[N8,ho];simp only;rw[if_neg (by simp only[aG1,Bool.and_eq_true,decide_eq_true_eq];omega)])
    clear ho
    go_enter Tryz.func36,Tryz.ntmps36
    go_wp2_with (first|((with_reducible refine rl ?_);(repeat(first|go_big_quiet_step (first|(go_at_call 114;exact b4.quiet (d6)))|simp only[c2]));refine wpQuiet_nil ?_;intro x)|(go_at_call 114;refine gm (d6) ?_;intro x)|(go_at_call 123;refine gm (HOT.out _) ?_;intro y1))
    refine bodyPost_ret (v:=.tuple #[.int .i64 0,.int .i64 0,.string ⟨#[]⟩,.bool false]) ?_ rfl (b4.mk (by rw[HV.out];rfl))
    simp[results,Tryz.results36,go_sem]
  ·have c2:inB t.size 2 42=false:=by cases h:inB t.size 2 42;rfl;have:=D6.1 h;omega
   have HV:=lH (show N8 s=none by rw[N8,ho];simp only;rw[if_neg (by simp only[aG1,Bool.and_eq_true,decide_eq_true_eq];omega)])
   clear ho
   go_enter Tryz.func36,Tryz.ntmps36
   go_wp2_with (first|((with_reducible refine rl ?_);(repeat(first|go_big_quiet_step (first|(go_at_call 114;exact b4.quiet (d6)))|simp only[c2]));refine wpQuiet_nil ?_;intro x)|(go_at_call 114;refine gm (d6) ?_;intro x)|(go_at_call 123;refine gm (HOT.out _) ?_;intro y1))
   refine bodyPost_ret (v:=.tuple #[.int .i64 0,.int .i64 0,.string ⟨#[]⟩,.bool false]) ?_ rfl (b4.mk (by rw[HV.out];rfl))
   simp[results,Tryz.results36,go_sem]
