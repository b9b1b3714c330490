/- The receiving side of the link of the reference: texts opened, commands. No condition but on sizes. -/
import Derived.Test.YtdijmbipcgalfaaGreatHM37
import Derived.Test.YtdijmbipcgalfaaGreatHM43
import Derived.Deep.CutRange
namespace Go.Proofs.YtdijmbipcgalfaaGreat
set_option maxRecDepth 100000
set_option maxHeartbeats 4000000
set_option linter.unusedVariables false
open Go.ChangeShapes Go.WideShapes Go.ChangeAt Go.RowKit
theorem aT9{s:ByteArray}{w:World}(hm:s.size≤100000000):Calls Tryz.prog 109 #[.string s] w (b5 w (.tuple #[.string (cb5 (V2 s)),.bool (V2 s).isSome])):=by
 by_cases h2:s.size<2
 ·have HV:=lH (show V2 s=none by rw[V2,if_pos h2])
  have c0:decide ((s.size:Int) - 2<0)=true:=by simp;omega
  go_enter Tryz.func109,Tryz.ntmps109
  go_wp2_with (fail)
  refine bodyPost_ret (v:=.tuple #[.string ⟨#[]⟩,.bool false]) ?_ rfl (b5.mk (by rw[HV.out];rfl))
  simp[results,Tryz.results109,go_sem]
 have c0:decide ((s.size:Int) - 2<0)=false:=by simp;omega
 have hz2:((s.size:Int) - 2).toNat=s.size - 2:=by omega
 have hz3:(0:Int)≤(s.size:Int) - 2:=by omega
 have hz4:(s.size:Int) - 2≤(s.size:Int):=by omega
 obtain⟨t,ht⟩:∃ t,s.extract 0 (s.size - 2)=t:=⟨_,rfl⟩
 have htz:t.size≤100000000:=by rw[← ht];simp only[ByteArray.size_extract];omega
 cases c1:((aF0 t).toList == s.toList)
 ·have HV:=lH (show V2 s=none by rw[V2,if_neg h2,ht,if_neg (by rw[c1];simp)])
  go_enter Tryz.func109,Tryz.ntmps109
  go_wp2_with (first|(go_at_call 209;refine gm (aU1 htz) ?_;intro y9))
  refine bodyPost_ret (v:=.tuple #[.string ⟨#[]⟩,.bool false]) ?_ rfl (b5.mk (by rw[HV.out];rfl))
  simp[results,Tryz.results109,go_sem]
 ·have HV:=lH (show V2 s=some t by rw[V2,if_neg h2,ht,if_pos c1])
  go_enter Tryz.func109,Tryz.ntmps109
  go_wp2_with (first|(go_at_call 209;refine gm (aU1 htz) ?_;intro y9))
  refine bodyPost_ret (v:=.tuple #[.string t,.bool true]) ?_ rfl (b5.mk (by rw[HV.out];rfl))
  simp[results,Tryz.results109,go_sem]
