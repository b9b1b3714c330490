/- FnExactGiveOrder: whatever the mission and the order, the program's function and the reference's return the same mission and the same Boolean; the result shares no memory with the arguments, which read as they did. No condition. -/
import Derived.Test.YtbaffippdifbpaaGreatWLawGiveOrder
import Derived.Test.YtbaffippdifbpaaGreatWM9
import Derived.Test.YtbaffippdifbpaaGreatWM0
namespace Go.Proofs.YtbaffippdifbpaaGreat
set_option linter.unusedVariables false
open Go.ChangeShapes Go.WideShapes Go.ChangeAt Go.RowKit
set_option maxRecDepth 100000 in
theorem FnExactGiveOrder_lifted(os:Os)(started:os.Started)(H:Type)(enc:TypeId × Value→H) :
  ReturnsInHanded {} Tryz.checked os 6 .any (Rows.fnExactGiveOrderSpec.pre6 enc Tryz.prog Tryz.f6 Rows.fnExactGiveOrderRow.domain false) (Rows.fnExactGiveOrderSpec.post enc Tryz.prog Tryz.f6 false true false false):=by
 refine returnsInHanded_of_change (C:=Tryz.checked) own started (by kernel_rfl) Tryz.func6
  (ChangeSpec.witness6 (enc:=enc) (C:=Tryz.checked) false ⟨#[],#[.agg zMission.toArray,.agg #[.int .i64 0,.int .i64 0,.int .i64 0,.int .i64 0]],[]⟩ 8 (by kernel_rfl) (by kernel_rfl) (by kernel_rfl) (by kernel_rfl)) ?_
 intro W base args ds gs before hval0 hW hcnd _
 have hval:∀ (j:Nat) t v,Tryz.f6.params[j]?=some t→args[j]?=some v→Value.okWide Tryz.prog W .any base t v:=hval0
 have hW':=hW
 obtain⟨p,q,hA0,hV,rfl,hfz,hnd⟩:=hW
 have hA:DataW.TrodAll enc Tryz.prog W 0 (fun _=>true) true Tryz.f6.params.toList args.toList ds p:=hA0
 rw[Tryz.params6]at hA hval
 obtain⟨rfl,rfl⟩:=trodVars_none hV
 obtain⟨v0,vs0,d0,ds0,p0,q0,hargs,rfl,rfl,h0,r0⟩:=trodAll_cons hA
 obtain⟨v1,vs1,d1,ds1,p1,q1,rfl,rfl,rfl,h1,r1⟩:=trodAll_cons r0
 obtain⟨rfl,rfl,rfl⟩:=trodAll_nil r1
 obtain rfl:args=#[v0,v1]:=by cases args;simp_all
 obtain⟨cb0,rfl,hcz0⟩:=okWide_struct Tryz.underlying116 (hval 0 116 v0 rfl rfl)
 obtain⟨ca0,rfl⟩:∃ ca:List Value,cb0=ca.toArray:=⟨cb0.toList,by simp⟩
 obtain⟨f0,t0⟩:=h0
 obtain⟨hl0,rd0⟩:=codes_sound 10 _ _ _ _ _ (show codes Tryz.prog 10 116=some [.int,.int,.int,.int,.int,.int,.int,.sl [.int,.int],.int,.int,.int,.int,.int,.int,.sl [.int,.str],.sl [.int,.str],.sl [.str],.int,.int,.sl [.int,.str],.int,.int,.bool,.bool,.int,.int,.bool,.str,.int,.sl [.int,.int],.sl [.int,.int,.int,.str],.sl [.int,.int,.int,.sl [.str]],.sl [.bool],.int,.bool,.bool,.int,.int,.sl [.int],.bool,.sl [.int,.int,.int],.sl [.int,.int,.int,.int,.int],.sl [.int,.int,.int],.int,.sl [.int,.int,.int,.str],.sl [.int],.int,.int,.sl [.int],.int,.int,.str,.sl [.int],.int,.sl [.str],.sl [.int,.str,.sl [.int],.bool],.int,.sl [.int,.int,.int,.str],.sl [.str],.sl [.str],.int]by kernel_rfl) t0
 obtain⟨x0,hx0⟩:=ofTMission _ hl0 rd0
 obtain⟨cb1,rfl,hcz1⟩:=okWide_struct Tryz.underlying122 (hval 1 122 v1 rfl rfl)
 obtain⟨ca1,rfl⟩:∃ ca:List Value,cb1=ca.toArray:=⟨cb1.toList,by simp⟩
 obtain⟨f1,t1⟩:=h1
 obtain⟨hl1,rd1⟩:=codes_sound 10 _ _ _ _ _ (show codes Tryz.prog 10 122=some [.int,.int,.int,.int]by kernel_rfl) t1
 obtain⟨x1,hx1⟩:=ofTOrder _ hl1 rd1
 clear hA0 hval0
 refine(Gives.below (c_lFnExactGiveOrder hx0 hx1)).mono fun e W' ⟨he,hb⟩=>?_
 subst he
 exact⟨_,rfl,law_post laidOut (by kernel_rfl) rfl rfl rfl Tryz.underlying4 hW' hb⟩
end Go.Proofs.YtbaffippdifbpaaGreat
