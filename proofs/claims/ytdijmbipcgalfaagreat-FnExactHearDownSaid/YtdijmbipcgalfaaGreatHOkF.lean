/- The contracts of what says whether flat structs are valid, both sides. No condition but on sizes. -/
import Derived.Test.YtdijmbipcgalfaaGreatHDTy
import Derived.Test.YtdijmbipcgalfaaGreatHM0
namespace Go.Proofs.YtdijmbipcgalfaaGreat
set_option linter.unusedVariables false
open Go.ChangeShapes Go.WideShapes Go.ChangeAt Go.RowKit
variable {w:World}
def J0(x:an4):Bool:=inB x.Seed 0 65535 && (inB x.Burst 0 100 && (inB x.Loss 0 100))
theorem aO4{x:an4}:Calls Tryz.prog 149 #[.agg #[I x.Seed,I x.Burst,I x.Loss]] w (b5 w (.bool (J0 x))):=by
 cases c0:inB x.Seed 0 65535
 ·skip
  have HV:=lH (show J0 x=false by simp[J0,c0])
  go_enter Tryz.func149,Tryz.ntmps149
  go_wp2_with (first|(go_at_call 146;refine gm (d8) ?_;intro x))
  go_ret
  exact b5.mk (by rw[HV.out];rfl)
 cases c1:inB x.Burst 0 100
 ·skip
  have HV:=lH (show J0 x=false by simp[J0,c0,c1])
  go_enter Tryz.func149,Tryz.ntmps149
  go_wp2_with (first|(go_at_call 146;refine gm (d8) ?_;intro x))
  go_ret
  exact b5.mk (by rw[HV.out];rfl)
 cases c2:inB x.Loss 0 100
 ·skip
  have HV:=lH (show J0 x=false by simp[J0,c0,c1,c2])
  go_enter Tryz.func149,Tryz.ntmps149
  go_wp2_with (first|(go_at_call 146;refine gm (d8) ?_;intro x))
  go_ret
  exact b5.mk (by rw[HV.out];rfl)
 ·skip
  have HV:=lH (show J0 x=true by simp[J0,c0,c1,c2])
  go_enter Tryz.func149,Tryz.ntmps149
  go_wp2_with (first|(go_at_call 146;refine gm (d8) ?_;intro x))
  go_ret
  exact b5.mk (by rw[HV.out];rfl)
theorem aO5{x:an4}:Calls Tryz.prog 104 #[.agg #[I x.Seed,I x.Burst,I x.Loss]] w (b5 w (.bool (J0 x))):=by
 cases c0:inB x.Seed 0 65535
 ·skip
  have HV:=lH (show J0 x=false by simp[J0,c0])
  go_enter Tryz.func104,Tryz.ntmps104
  go_wp2_with (first|(go_at_call 101;refine gm (f5) ?_;intro x))
  go_ret
  exact b5.mk (by rw[HV.out];rfl)
 cases c1:inB x.Burst 0 100
 ·skip
  have HV:=lH (show J0 x=false by simp[J0,c0,c1])
  go_enter Tryz.func104,Tryz.ntmps104
  go_wp2_with (first|(go_at_call 101;refine gm (f5) ?_;intro x))
  go_ret
  exact b5.mk (by rw[HV.out];rfl)
 cases c2:inB x.Loss 0 100
 ·skip
  have HV:=lH (show J0 x=false by simp[J0,c0,c1,c2])
  go_enter Tryz.func104,Tryz.ntmps104
  go_wp2_with (first|(go_at_call 101;refine gm (f5) ?_;intro x))
  go_ret
  exact b5.mk (by rw[HV.out];rfl)
 ·skip
  have HV:=lH (show J0 x=true by simp[J0,c0,c1,c2])
  go_enter Tryz.func104,Tryz.ntmps104
  go_wp2_with (first|(go_at_call 101;refine gm (f5) ?_;intro x))
  go_ret
  exact b5.mk (by rw[HV.out];rfl)
def L0(x:am5):Bool:=inB x.Expect 0 255 && (inB x.Taken 0 1000000)
theorem U3{x:am5}:Calls Tryz.prog 263 #[.agg #[I x.Expect,.bool x.Locked,.bool x.Again,I x.Taken]] w (b5 w (.bool (L0 x))):=by
 cases c0:inB x.Expect 0 255
 ·skip
  have HV:=lH (show L0 x=false by simp[L0,c0])
  go_enter Tryz.func263,Tryz.ntmps263
  go_wp2_with (first|(go_at_call 146;refine gm (d8) ?_;intro x))
  go_ret
  exact b5.mk (by rw[HV.out];rfl)
 cases c1:inB x.Taken 0 1000000
 ·skip
  have HV:=lH (show L0 x=false by simp[L0,c0,c1])
  go_enter Tryz.func263,Tryz.ntmps263
  go_wp2_with (first|(go_at_call 146;refine gm (d8) ?_;intro x))
  go_ret
  exact b5.mk (by rw[HV.out];rfl)
 ·skip
  have HV:=lH (show L0 x=true by simp[L0,c0,c1])
  go_enter Tryz.func263,Tryz.ntmps263
  go_wp2_with (first|(go_at_call 146;refine gm (d8) ?_;intro x))
  go_ret
  exact b5.mk (by rw[HV.out];rfl)
theorem U4{x:am5}:Calls Tryz.prog 235 #[.agg #[I x.Expect,.bool x.Locked,.bool x.Again,I x.Taken]] w (b5 w (.bool (L0 x))):=by
 cases c0:inB x.Expect 0 255
 ·skip
  have HV:=lH (show L0 x=false by simp[L0,c0])
  go_enter Tryz.func235,Tryz.ntmps235
  go_wp2_with (first|(go_at_call 101;refine gm (f5) ?_;intro x))
  go_ret
  exact b5.mk (by rw[HV.out];rfl)
 cases c1:inB x.Taken 0 1000000
 ·skip
  have HV:=lH (show L0 x=false by simp[L0,c0,c1])
  go_enter Tryz.func235,Tryz.ntmps235
  go_wp2_with (first|(go_at_call 101;refine gm (f5) ?_;intro x))
  go_ret
  exact b5.mk (by rw[HV.out];rfl)
 ·skip
  have HV:=lH (show L0 x=true by simp[L0,c0,c1])
  go_enter Tryz.func235,Tryz.ntmps235
  go_wp2_with (first|(go_at_call 101;refine gm (f5) ?_;intro x))
  go_ret
  exact b5.mk (by rw[HV.out];rfl)
def s6(x:s8):Bool:=inB x.Id 0 65535 && (inB x.Priority 0 3 && (inB x.Time 0 1000000 && (decide ((x.Data.size:Int)≤34))))
theorem W8{x:s8}(hzData:x.Data.size≤9223372036854775807):Calls Tryz.prog 270 #[.agg #[I x.Id,I x.Priority,I x.Time,.string x.Data]] w (b5 w (.bool (s6 x))):=by
 cases c0:inB x.Id 0 65535
 ·skip
  have HV:=lH (show s6 x=false by simp[s6,c0])
  go_enter Tryz.func270,Tryz.ntmps270
  go_wp2_with (first|(go_at_call 146;refine gm (d8) ?_;intro x))
  go_ret
  exact b5.mk (by rw[HV.out];rfl)
 cases c1:inB x.Priority 0 3
 ·skip
  have HV:=lH (show s6 x=false by simp[s6,c0,c1])
  go_enter Tryz.func270,Tryz.ntmps270
  go_wp2_with (first|(go_at_call 146;refine gm (d8) ?_;intro x))
  go_ret
  exact b5.mk (by rw[HV.out];rfl)
 cases c2:inB x.Time 0 1000000
 ·skip
  have HV:=lH (show s6 x=false by simp[s6,c0,c1,c2])
  go_enter Tryz.func270,Tryz.ntmps270
  go_wp2_with (first|(go_at_call 146;refine gm (d8) ?_;intro x))
  go_ret
  exact b5.mk (by rw[HV.out];rfl)
 cases c3:decide ((x.Data.size:Int)≤34)
 ·skip
  have HV:=lH (show s6 x=false by simp[s6,c0,c1,c2,c3])
  go_enter Tryz.func270,Tryz.ntmps270
  go_wp2_with (first|(go_at_call 146;refine gm (d8) ?_;intro x))
  go_ret
  exact b5.mk (by rw[HV.out];rfl)
 ·skip
  have HV:=lH (show s6 x=true by simp[s6,c0,c1,c2,c3])
  go_enter Tryz.func270,Tryz.ntmps270
  go_wp2_with (first|(go_at_call 146;refine gm (d8) ?_;intro x))
  go_ret
  exact b5.mk (by rw[HV.out];rfl)
theorem X0{x:s8}(hzData:x.Data.size≤9223372036854775807):Calls Tryz.prog 201 #[.agg #[I x.Id,I x.Priority,I x.Time,.string x.Data]] w (b5 w (.bool (s6 x))):=by
 cases c0:inB x.Id 0 65535
 ·skip
  have HV:=lH (show s6 x=false by simp[s6,c0])
  go_enter Tryz.func201,Tryz.ntmps201
  go_wp2_with (first|(go_at_call 101;refine gm (f5) ?_;intro x))
  go_ret
  exact b5.mk (by rw[HV.out];rfl)
 cases c1:inB x.Priority 0 3
 ·skip
  have HV:=lH (show s6 x=false by simp[s6,c0,c1])
  go_enter Tryz.func201,Tryz.ntmps201
  go_wp2_with (first|(go_at_call 101;refine gm (f5) ?_;intro x))
  go_ret
  exact b5.mk (by rw[HV.out];rfl)
 cases c2:inB x.Time 0 1000000
 ·skip
  have HV:=lH (show s6 x=false by simp[s6,c0,c1,c2])
  go_enter Tryz.func201,Tryz.ntmps201
  go_wp2_with (first|(go_at_call 101;refine gm (f5) ?_;intro x))
  go_ret
  exact b5.mk (by rw[HV.out];rfl)
 cases c3:decide ((x.Data.size:Int)≤34)
 ·skip
  have HV:=lH (show s6 x=false by simp[s6,c0,c1,c2,c3])
  go_enter Tryz.func201,Tryz.ntmps201
  go_wp2_with (first|(go_at_call 101;refine gm (f5) ?_;intro x))
  go_ret
  exact b5.mk (by rw[HV.out];rfl)
 ·skip
  have HV:=lH (show s6 x=true by simp[s6,c0,c1,c2,c3])
  go_enter Tryz.func201,Tryz.ntmps201
  go_wp2_with (first|(go_at_call 101;refine gm (f5) ?_;intro x))
  go_ret
  exact b5.mk (by rw[HV.out];rfl)
def j6(x:f9):Bool:=inB x.Channel 0 2 && (inB x.Next (-1) 255 && (inB x.Lost 0 1000000 && ((x.Synced || (x.Rest.toList == [])) && (decide ((x.Rest.size:Int)≤43)))))
theorem R7{x:f9}(hzRest:x.Rest.size≤9223372036854775807:=by exact sd):Calls Tryz.prog 157 #[.agg #[I x.Channel,I x.Next,.bool x.Synced,.string x.Rest,I x.Lost]] w (b5 w (.bool (j6 x))):=by
 cases c0:inB x.Channel 0 2
 ·skip
  have HV:=lH (show j6 x=false by simp[j6,c0])
  go_enter Tryz.func157,Tryz.ntmps157
  go_wp2_with (first|(go_at_call 146;refine gm (d8) ?_;intro x))
  go_ret
  exact b5.mk (by rw[HV.out];rfl)
 cases c1:inB x.Next (-1) 255
 ·skip
  have HV:=lH (show j6 x=false by simp[j6,c0,c1])
  go_enter Tryz.func157,Tryz.ntmps157
  go_wp2_with (first|(go_at_call 146;refine gm (d8) ?_;intro x))
  go_ret
  exact b5.mk (by rw[HV.out];rfl)
 cases c2:inB x.Lost 0 1000000
 ·skip
  have HV:=lH (show j6 x=false by simp[j6,c0,c1,c2])
  go_enter Tryz.func157,Tryz.ntmps157
  go_wp2_with (first|(go_at_call 146;refine gm (d8) ?_;intro x))
  go_ret
  exact b5.mk (by rw[HV.out];rfl)
 cases c3:x.Synced
 ·cases d3:(x.Rest.toList == [])
  ·skip
   have HV:=lH (show j6 x=false by simp[j6,c0,c1,c2,c3,d3])
   go_enter Tryz.func157,Tryz.ntmps157
   go_wp2_with (first|(go_at_call 146;refine gm (d8) ?_;intro x))
   go_ret
   exact b5.mk (by rw[HV.out];rfl)
  ·cases c4:decide ((x.Rest.size:Int)≤43)
   ·skip
    have HV:=lH (show j6 x=false by simp[j6,c0,c1,c2,c3,d3,c4])
    go_enter Tryz.func157,Tryz.ntmps157
    go_wp2_with (first|(go_at_call 146;refine gm (d8) ?_;intro x))
    go_ret
    exact b5.mk (by rw[HV.out];rfl)
   ·skip
    have HV:=lH (show j6 x=true by simp[j6,c0,c1,c2,c3,d3,c4])
    go_enter Tryz.func157,Tryz.ntmps157
    go_wp2_with (first|(go_at_call 146;refine gm (d8) ?_;intro x))
    go_ret
    exact b5.mk (by rw[HV.out];rfl)
 ·cases c4:decide ((x.Rest.size:Int)≤43)
  ·skip
   have HV:=lH (show j6 x=false by simp[j6,c0,c1,c2,c3,c4])
   go_enter Tryz.func157,Tryz.ntmps157
   go_wp2_with (first|(go_at_call 146;refine gm (d8) ?_;intro x))
   go_ret
   exact b5.mk (by rw[HV.out];rfl)
  ·skip
   have HV:=lH (show j6 x=true by simp[j6,c0,c1,c2,c3,c4])
   go_enter Tryz.func157,Tryz.ntmps157
   go_wp2_with (first|(go_at_call 146;refine gm (d8) ?_;intro x))
   go_ret
   exact b5.mk (by rw[HV.out];rfl)
theorem M5{x:f9}(hzRest:x.Rest.size≤9223372036854775807:=by exact sd):Calls Tryz.prog 111 #[.agg #[I x.Channel,I x.Next,.bool x.Synced,.string x.Rest,I x.Lost]] w (b5 w (.bool (j6 x))):=by
 cases c0:inB x.Channel 0 2
 ·skip
  have HV:=lH (show j6 x=false by simp[j6,c0])
  go_enter Tryz.func111,Tryz.ntmps111
  go_wp2_with (first|(go_at_call 101;refine gm (f5) ?_;intro x))
  go_ret
  exact b5.mk (by rw[HV.out];rfl)
 cases c1:inB x.Next (-1) 255
 ·skip
  have HV:=lH (show j6 x=false by simp[j6,c0,c1])
  go_enter Tryz.func111,Tryz.ntmps111
  go_wp2_with (first|(go_at_call 101;refine gm (f5) ?_;intro x))
  go_ret
  exact b5.mk (by rw[HV.out];rfl)
 cases c2:inB x.Lost 0 1000000
 ·skip
  have HV:=lH (show j6 x=false by simp[j6,c0,c1,c2])
  go_enter Tryz.func111,Tryz.ntmps111
  go_wp2_with (first|(go_at_call 101;refine gm (f5) ?_;intro x))
  go_ret
  exact b5.mk (by rw[HV.out];rfl)
 cases c3:x.Synced
 ·cases d3:(x.Rest.toList == [])
  ·skip
   have HV:=lH (show j6 x=false by simp[j6,c0,c1,c2,c3,d3])
   go_enter Tryz.func111,Tryz.ntmps111
   go_wp2_with (first|(go_at_call 101;refine gm (f5) ?_;intro x))
   go_ret
   exact b5.mk (by rw[HV.out];rfl)
  ·cases c4:decide ((x.Rest.size:Int)≤43)
   ·skip
    have HV:=lH (show j6 x=false by simp[j6,c0,c1,c2,c3,d3,c4])
    go_enter Tryz.func111,Tryz.ntmps111
    go_wp2_with (first|(go_at_call 101;refine gm (f5) ?_;intro x))
    go_ret
    exact b5.mk (by rw[HV.out];rfl)
   ·skip
    have HV:=lH (show j6 x=true by simp[j6,c0,c1,c2,c3,d3,c4])
    go_enter Tryz.func111,Tryz.ntmps111
    go_wp2_with (first|(go_at_call 101;refine gm (f5) ?_;intro x))
    go_ret
    exact b5.mk (by rw[HV.out];rfl)
 ·cases c4:decide ((x.Rest.size:Int)≤43)
  ·skip
   have HV:=lH (show j6 x=false by simp[j6,c0,c1,c2,c3,c4])
   go_enter Tryz.func111,Tryz.ntmps111
   go_wp2_with (first|(go_at_call 101;refine gm (f5) ?_;intro x))
   go_ret
   exact b5.mk (by rw[HV.out];rfl)
  ·skip
   have HV:=lH (show j6 x=true by simp[j6,c0,c1,c2,c3,c4])
   go_enter Tryz.func111,Tryz.ntmps111
   go_wp2_with (first|(go_at_call 101;refine gm (f5) ?_;intro x))
   go_ret
   exact b5.mk (by rw[HV.out];rfl)
def A4(x:aB9):Bool:=inB x.Kind 0 4 && (inB x.At 0 1000000 && (if x.Kind=0 then inB x.A 0 7 && inB x.B 0 65535 else if x.Kind=1 then inB x.A 0 3 && (x.B == 0)else if x.Kind=2 then inB x.A 0 1 && (x.B == 0)else if x.Kind=3 then inB x.A 0 7 && (x.B == 0)else inB x.A 0 255 && (x.B == 0)))
theorem aj2{x:aB9}:Calls Tryz.prog 346 #[.agg #[I x.Kind,I x.At,I x.A,I x.B]] w (b5 w (.bool (A4 x))):=by
 cases c0:inB x.Kind 0 4
 ·skip
  have HV:=lH (show A4 x=false by simp[A4,c0])
  go_enter Tryz.func346,Tryz.ntmps346
  go_wp2_with (first|(go_at_call 146;refine gm (d8) ?_;intro x))
  go_ret
  exact b5.mk (by rw[HV.out];rfl)
 cases c1:inB x.At 0 1000000
 ·skip
  have HV:=lH (show A4 x=false by simp[A4,c0,c1])
  go_enter Tryz.func346,Tryz.ntmps346
  go_wp2_with (first|(go_at_call 146;refine gm (d8) ?_;intro x))
  go_ret
  exact b5.mk (by rw[HV.out];rfl)
 by_cases k0:x.Kind=0
 ·have b0:(x.Kind == 0)=true:=by simp[k0]
  cases c2:inB x.A 0 7
  ·have C:=lH c2
   have HV:=lH (show A4 x=false by rw[A4,c0,c1,if_pos k0];rw[c2];rfl)
   clear k0
   go_enter Tryz.func346,Tryz.ntmps346
   go_wp2_with (first|(go_at_call 146;refine gm (d8) ?_;intro x))
   go_ret
   exact b5.mk (by rw[HV.out];rfl)
  cases c3:inB x.B 0 65535
  ·skip
   have HV:=lH (show A4 x=false by rw[A4,c0,c1,if_pos k0];rw[c2,c3];rfl)
   clear k0
   go_enter Tryz.func346,Tryz.ntmps346
   go_wp2_with (first|(go_at_call 146;refine gm (d8) ?_;intro x))
   go_ret
   exact b5.mk (by rw[HV.out];rfl)
  ·skip
   have HV:=lH (show A4 x=true by rw[A4,c0,c1,if_pos k0];rw[c2,c3];rfl)
   clear k0
   go_enter Tryz.func346,Tryz.ntmps346
   go_wp2_with (first|(go_at_call 146;refine gm (d8) ?_;intro x))
   go_ret
   exact b5.mk (by rw[HV.out];rfl)
 have b0:(x.Kind == 0)=false:=by simp[k0]
 by_cases k1:x.Kind=1
 ·have b1:(x.Kind == 1)=true:=by simp[k1]
  cases c2:inB x.A 0 3
  ·have C:=lH c2
   have HV:=lH (show A4 x=false by rw[A4,c0,c1,if_neg k0,if_pos k1];rw[c2];rfl)
   clear k0 k1
   go_enter Tryz.func346,Tryz.ntmps346
   go_wp2_with (first|(go_at_call 146;refine gm (d8) ?_;intro x))
   go_ret
   exact b5.mk (by rw[HV.out];rfl)
  cases c3:(x.B == 0)
  ·skip
   have HV:=lH (show A4 x=false by rw[A4,c0,c1,if_neg k0,if_pos k1];rw[c2,c3];rfl)
   clear k0 k1
   go_enter Tryz.func346,Tryz.ntmps346
   go_wp2_with (first|(go_at_call 146;refine gm (d8) ?_;intro x))
   go_ret
   exact b5.mk (by rw[HV.out];rfl)
  ·skip
   have HV:=lH (show A4 x=true by rw[A4,c0,c1,if_neg k0,if_pos k1];rw[c2,c3];rfl)
   clear k0 k1
   go_enter Tryz.func346,Tryz.ntmps346
   go_wp2_with (first|(go_at_call 146;refine gm (d8) ?_;intro x))
   go_ret
   exact b5.mk (by rw[HV.out];rfl)
 have b1:(x.Kind == 1)=false:=by simp[k1]
 by_cases k2:x.Kind=2
 ·have b2:(x.Kind == 2)=true:=by simp[k2]
  cases c2:inB x.A 0 1
  ·have C:=lH c2
   have HV:=lH (show A4 x=false by rw[A4,c0,c1,if_neg k0,if_neg k1,if_pos k2];rw[c2];rfl)
   clear k0 k1 k2
   go_enter Tryz.func346,Tryz.ntmps346
   go_wp2_with (first|(go_at_call 146;refine gm (d8) ?_;intro x))
   go_ret
   exact b5.mk (by rw[HV.out];rfl)
  cases c3:(x.B == 0)
  ·skip
   have HV:=lH (show A4 x=false by rw[A4,c0,c1,if_neg k0,if_neg k1,if_pos k2];rw[c2,c3];rfl)
   clear k0 k1 k2
   go_enter Tryz.func346,Tryz.ntmps346
   go_wp2_with (first|(go_at_call 146;refine gm (d8) ?_;intro x))
   go_ret
   exact b5.mk (by rw[HV.out];rfl)
  ·skip
   have HV:=lH (show A4 x=true by rw[A4,c0,c1,if_neg k0,if_neg k1,if_pos k2];rw[c2,c3];rfl)
   clear k0 k1 k2
   go_enter Tryz.func346,Tryz.ntmps346
   go_wp2_with (first|(go_at_call 146;refine gm (d8) ?_;intro x))
   go_ret
   exact b5.mk (by rw[HV.out];rfl)
 have b2:(x.Kind == 2)=false:=by simp[k2]
 by_cases k3:x.Kind=3
 ·have b3:(x.Kind == 3)=true:=by simp[k3]
  cases c2:inB x.A 0 7
  ·have C:=lH c2
   have HV:=lH (show A4 x=false by rw[A4,c0,c1,if_neg k0,if_neg k1,if_neg k2,if_pos k3];rw[c2];rfl)
   clear k0 k1 k2 k3
   go_enter Tryz.func346,Tryz.ntmps346
   go_wp2_with (first|(go_at_call 146;refine gm (d8) ?_;intro x))
   go_ret
   exact b5.mk (by rw[HV.out];rfl)
  cases c3:(x.B == 0)
  ·skip
   have HV:=lH (show A4 x=false by rw[A4,c0,c1,if_neg k0,if_neg k1,if_neg k2,if_pos k3];rw[c2,c3];rfl)
   clear k0 k1 k2 k3
   go_enter Tryz.func346,Tryz.ntmps346
   go_wp2_with (first|(go_at_call 146;refine gm (d8) ?_;intro x))
   go_ret
   exact b5.mk (by rw[HV.out];rfl)
  ·skip
   have HV:=lH (show A4 x=true by rw[A4,c0,c1,if_neg k0,if_neg k1,if_neg k2,if_pos k3];rw[c2,c3];rfl)
   clear k0 k1 k2 k3
   go_enter Tryz.func346,Tryz.ntmps346
   go_wp2_with (first|(go_at_call 146;refine gm (d8) ?_;intro x))
   go_ret
   exact b5.mk (by rw[HV.out];rfl)
 have b3:(x.Kind == 3)=false:=by simp[k3]
 cases c2:inB x.A 0 255
 ·have C:=lH c2
  have HV:=lH (show A4 x=false by rw[A4,c0,c1,if_neg k0,if_neg k1,if_neg k2,if_neg k3];rw[c2];rfl)
  clear k0 k1 k2 k3
  go_enter Tryz.func346,Tryz.ntmps346
  go_wp2_with (first|(go_at_call 146;refine gm (d8) ?_;intro x))
  go_ret
  exact b5.mk (by rw[HV.out];rfl)
 cases c3:(x.B == 0)
 ·skip
  have HV:=lH (show A4 x=false by rw[A4,c0,c1,if_neg k0,if_neg k1,if_neg k2,if_neg k3];rw[c2,c3];rfl)
  clear k0 k1 k2 k3
  go_enter Tryz.func346,Tryz.ntmps346
  go_wp2_with (first|(go_at_call 146;refine gm (d8) ?_;intro x))
  go_ret
  exact b5.mk (by rw[HV.out];rfl)
 ·skip
  have HV:=lH (show A4 x=true by rw[A4,c0,c1,if_neg k0,if_neg k1,if_neg k2,if_neg k3];rw[c2,c3];rfl)
  clear k0 k1 k2 k3
  go_enter Tryz.func346,Tryz.ntmps346
  go_wp2_with (first|(go_at_call 146;refine gm (d8) ?_;intro x))
  go_ret
  exact b5.mk (by rw[HV.out];rfl)
theorem aK6{x:aB9}:Calls Tryz.prog 344 #[.agg #[I x.Kind,I x.At,I x.A,I x.B]] w (b5 w (.bool (A4 x))):=by
 cases c0:inB x.Kind 0 4
 ·skip
  have HV:=lH (show A4 x=false by simp[A4,c0])
  go_enter Tryz.func344,Tryz.ntmps344
  go_wp2_with (first|(go_at_call 101;refine gm (f5) ?_;intro x))
  go_ret
  exact b5.mk (by rw[HV.out];rfl)
 cases c1:inB x.At 0 1000000
 ·skip
  have HV:=lH (show A4 x=false by simp[A4,c0,c1])
  go_enter Tryz.func344,Tryz.ntmps344
  go_wp2_with (first|(go_at_call 101;refine gm (f5) ?_;intro x))
  go_ret
  exact b5.mk (by rw[HV.out];rfl)
 by_cases k0:x.Kind=0
 ·have b0:(x.Kind == 0)=true:=by simp[k0]
  cases c2:inB x.A 0 7
  ·have C:=lH c2
   have HV:=lH (show A4 x=false by rw[A4,c0,c1,if_pos k0];rw[c2];rfl)
   clear k0
   go_enter Tryz.func344,Tryz.ntmps344
   go_wp2_with (first|(go_at_call 101;refine gm (f5) ?_;intro x))
   go_ret
   exact b5.mk (by rw[HV.out];rfl)
  cases c3:inB x.B 0 65535
  ·skip
   have HV:=lH (show A4 x=false by rw[A4,c0,c1,if_pos k0];rw[c2,c3];rfl)
   clear k0
   go_enter Tryz.func344,Tryz.ntmps344
   go_wp2_with (first|(go_at_call 101;refine gm (f5) ?_;intro x))
   go_ret
   exact b5.mk (by rw[HV.out];rfl)
  ·skip
   have HV:=lH (show A4 x=true by rw[A4,c0,c1,if_pos k0];rw[c2,c3];rfl)
   clear k0
   go_enter Tryz.func344,Tryz.ntmps344
   go_wp2_with (first|(go_at_call 101;refine gm (f5) ?_;intro x))
   go_ret
   exact b5.mk (by rw[HV.out];rfl)
 have b0:(x.Kind == 0)=false:=by simp[k0]
 by_cases k1:x.Kind=1
 ·have b1:(x.Kind == 1)=true:=by simp[k1]
  cases c2:inB x.A 0 3
  ·have C:=lH c2
   have HV:=lH (show A4 x=false by rw[A4,c0,c1,if_neg k0,if_pos k1];rw[c2];rfl)
   clear k0 k1
   go_enter Tryz.func344,Tryz.ntmps344
   go_wp2_with (first|(go_at_call 101;refine gm (f5) ?_;intro x))
   go_ret
   exact b5.mk (by rw[HV.out];rfl)
  cases c3:(x.B == 0)
  ·skip
   have HV:=lH (show A4 x=false by rw[A4,c0,c1,if_neg k0,if_pos k1];rw[c2,c3];rfl)
   clear k0 k1
   go_enter Tryz.func344,Tryz.ntmps344
   go_wp2_with (first|(go_at_call 101;refine gm (f5) ?_;intro x))
   go_ret
   exact b5.mk (by rw[HV.out];rfl)
  ·skip
   have HV:=lH (show A4 x=true by rw[A4,c0,c1,if_neg k0,if_pos k1];rw[c2,c3];rfl)
   clear k0 k1
   go_enter Tryz.func344,Tryz.ntmps344
   go_wp2_with (first|(go_at_call 101;refine gm (f5) ?_;intro x))
   go_ret
   exact b5.mk (by rw[HV.out];rfl)
 have b1:(x.Kind == 1)=false:=by simp[k1]
 by_cases k2:x.Kind=2
 ·have b2:(x.Kind == 2)=true:=by simp[k2]
  cases c2:inB x.A 0 1
  ·have C:=lH c2
   have HV:=lH (show A4 x=false by rw[A4,c0,c1,if_neg k0,if_neg k1,if_pos k2];rw[c2];rfl)
   clear k0 k1 k2
   go_enter Tryz.func344,Tryz.ntmps344
   go_wp2_with (first|(go_at_call 101;refine gm (f5) ?_;intro x))
   go_ret
   exact b5.mk (by rw[HV.out];rfl)
  cases c3:(x.B == 0)
  ·skip
   have HV:=lH (show A4 x=false by rw[A4,c0,c1,if_neg k0,if_neg k1,if_pos k2];rw[c2,c3];rfl)
   clear k0 k1 k2
   go_enter Tryz.func344,Tryz.ntmps344
   go_wp2_with (first|(go_at_call 101;refine gm (f5) ?_;intro x))
   go_ret
   exact b5.mk (by rw[HV.out];rfl)
  ·skip
   have HV:=lH (show A4 x=true by rw[A4,c0,c1,if_neg k0,if_neg k1,if_pos k2];rw[c2,c3];rfl)
   clear k0 k1 k2
   go_enter Tryz.func344,Tryz.ntmps344
   go_wp2_with (first|(go_at_call 101;refine gm (f5) ?_;intro x))
   go_ret
   exact b5.mk (by rw[HV.out];rfl)
 have b2:(x.Kind == 2)=false:=by simp[k2]
 by_cases k3:x.Kind=3
 ·have b3:(x.Kind == 3)=true:=by simp[k3]
  cases c2:inB x.A 0 7
  ·have C:=lH c2
   have HV:=lH (show A4 x=false by rw[A4,c0,c1,if_neg k0,if_neg k1,if_neg k2,if_pos k3];rw[c2];rfl)
   clear k0 k1 k2 k3
   go_enter Tryz.func344,Tryz.ntmps344
   go_wp2_with (first|(go_at_call 101;refine gm (f5) ?_;intro x))
   go_ret
   exact b5.mk (by rw[HV.out];rfl)
  cases c3:(x.B == 0)
  ·skip
   have HV:=lH (show A4 x=false by rw[A4,c0,c1,if_neg k0,if_neg k1,if_neg k2,if_pos k3];rw[c2,c3];rfl)
   clear k0 k1 k2 k3
   go_enter Tryz.func344,Tryz.ntmps344
   go_wp2_with (first|(go_at_call 101;refine gm (f5) ?_;intro x))
   go_ret
   exact b5.mk (by rw[HV.out];rfl)
  ·skip
   have HV:=lH (show A4 x=true by rw[A4,c0,c1,if_neg k0,if_neg k1,if_neg k2,if_pos k3];rw[c2,c3];rfl)
   clear k0 k1 k2 k3
   go_enter Tryz.func344,Tryz.ntmps344
   go_wp2_with (first|(go_at_call 101;refine gm (f5) ?_;intro x))
   go_ret
   exact b5.mk (by rw[HV.out];rfl)
 have b3:(x.Kind == 3)=false:=by simp[k3]
 cases c2:inB x.A 0 255
 ·have C:=lH c2
  have HV:=lH (show A4 x=false by rw[A4,c0,c1,if_neg k0,if_neg k1,if_neg k2,if_neg k3];rw[c2];rfl)
  clear k0 k1 k2 k3
  go_enter Tryz.func344,Tryz.ntmps344
  go_wp2_with (first|(go_at_call 101;refine gm (f5) ?_;intro x))
  go_ret
  exact b5.mk (by rw[HV.out];rfl)
 cases c3:(x.B == 0)
 ·skip
  have HV:=lH (show A4 x=false by rw[A4,c0,c1,if_neg k0,if_neg k1,if_neg k2,if_neg k3];rw[c2,c3];rfl)
  clear k0 k1 k2 k3
  go_enter Tryz.func344,Tryz.ntmps344
  go_wp2_with (first|(go_at_call 101;refine gm (f5) ?_;intro x))
  go_ret
  exact b5.mk (by rw[HV.out];rfl)
 ·skip
  have HV:=lH (show A4 x=true by rw[A4,c0,c1,if_neg k0,if_neg k1,if_neg k2,if_neg k3];rw[c2,c3];rfl)
  clear k0 k1 k2 k3
  go_enter Tryz.func344,Tryz.ntmps344
  go_wp2_with (first|(go_at_call 101;refine gm (f5) ?_;intro x))
  go_ret
  exact b5.mk (by rw[HV.out];rfl)
