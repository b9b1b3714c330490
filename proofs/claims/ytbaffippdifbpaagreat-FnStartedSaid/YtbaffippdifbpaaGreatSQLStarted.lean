/- FnStarted: whatever the code, the law holds: a mission begins with what it is given; the argument reads as it did. No condition. -/
import Derived.Test.YtbaffippdifbpaaGreatSSta
import Derived.Test.YtbaffippdifbpaaGreatSM0
namespace Go.Proofs.YtbaffippdifbpaaGreat
set_option linter.unusedVariables false
open Go.ChangeShapes Go.WideShapes Go.ChangeAt Go.RowKit
set_option maxRecDepth 100000 in
theorem FnStarted_lifted(os:Os)(started:os.Started)(H:Type)(enc:TypeId × Value→H) :
  ReturnsInHanded {} Tryz.checked os 3 .any (Rows.fnStartedSpec.pre6 enc Tryz.prog Tryz.f3 Rows.fnStartedRow.domain false) (Rows.fnStartedSpec.post enc Tryz.prog Tryz.f3 false true false false):=by
 refine returnsInHanded_of_change (C:=Tryz.checked) own started (by kernel_rfl) Tryz.func3
  (ChangeSpec.witness6 (enc:=enc) (C:=Tryz.checked) false ⟨#[],#[.slice none 0 0],[]⟩ 8 (by kernel_rfl) (by kernel_rfl) (by kernel_rfl) (by kernel_rfl)) ?_
 intro W base args ds gs before hval0 hW hcnd _
 have hval:∀ (j:Nat) t v,Tryz.f3.params[j]?=some t→args[j]?=some v→Value.okWide Tryz.prog W .any base t v:=hval0
 have hW':=hW
 obtain⟨p,q,hA0,hV,rfl,hfz,hnd⟩:=hW
 have hA:DataW.TrodAll enc Tryz.prog W 0 (fun _=>true) true Tryz.f3.params.toList args.toList ds p:=hA0
 rw[Tryz.params3]at hA hval
 obtain⟨rfl,rfl⟩:=trodVars_none hV
 obtain⟨v0,vs0,d0,ds0,p0,q0,hargs,rfl,rfl,h0,r0⟩:=trodAll_cons hA
 obtain⟨rfl,rfl,rfl⟩:=trodAll_nil r0
 obtain rfl:args=#[v0]:=by cases args;simp_all
 obtain⟨xa0,xn0,xc0,rfl⟩:=okWide_slice Tryz.underlying22 (hval 0 22 v0 rfl rfl)
 obtain⟨f0,t0⟩:=h0
 obtain⟨-,rd0⟩:=codes_sound 4 _ _ _ _ _ (show codes Tryz.prog 4 22=some [.sl [.byte]]by kernel_rfl) t0
 obtain⟨u0,g0,rc0⟩:=rd0.at (j:=0) rfl
 obtain rfl:Value.slice xa0 xn0 xc0=u0:=by simpa[Value.cells]using g0
 obtain⟨a0,n0,k0,l0,e0,hn0,hc0,hm0,ok0,sl0⟩:=open_sl (fun cs=>flatByte) rc0
 cases e0
 have hz0:xn0≤9223372036854775807:=by unfold maxLen at hm0;omega
 clear hA0 hval0
 refine(Gives.below (c_lFnStarted sl0 hn0 hz0 ok0)).mono fun e W' ⟨he,hb⟩=>?_
 subst he
 exact⟨_,rfl,law_post laidOut (by kernel_rfl) rfl rfl rfl Tryz.underlying4 hW' hb⟩
end Go.Proofs.YtbaffippdifbpaaGreat
