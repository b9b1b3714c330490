/- The contracts of what says whether flat structs are valid, both sides. No condition but on sizes. -/
import Derived.Test.YtdoilejecjaldaaGreatHM6
import Derived.Test.YtdoilejecjaldaaGreatHM0
namespace Go.Proofs.YtdoilejecjaldaaGreat
set_option linter.unusedVariables false
open Go.ChangeShapes Go.WideShapes Go.ChangeAt Go.RowKit
def J2(x:am2):Bool:=inB x.Seed 0 65535 && (inB x.Burst 0 100 && (inB x.Loss 0 100))
theorem aM8{x:am2}{w:World}:Calls Tryz.prog 117 #[.agg #[.int .i64 x.Seed,.int .i64 x.Burst,.int .i64 x.Loss]] w (b4 w (.bool (J2 x))):=by
 cases c0:inB x.Seed 0 65535
 ·skip
  have HV:=lH (show J2 x=false by simp[J2,c0])
  go_enter Tryz.func117,Tryz.ntmps117
  go_wp2_with (first|(go_at_call 114;refine gm (d6) ?_;intro x))
  go_ret
  exact b4.mk (by rw[HV.out];rfl)
 cases c1:inB x.Burst 0 100
 ·skip
  have HV:=lH (show J2 x=false by simp[J2,c0,c1])
  go_enter Tryz.func117,Tryz.ntmps117
  go_wp2_with (first|(go_at_call 114;refine gm (d6) ?_;intro x))
  go_ret
  exact b4.mk (by rw[HV.out];rfl)
 cases c2:inB x.Loss 0 100
 ·skip
  have HV:=lH (show J2 x=false by simp[J2,c0,c1,c2])
  go_enter Tryz.func117,Tryz.ntmps117
  go_wp2_with (first|(go_at_call 114;refine gm (d6) ?_;intro x))
  go_ret
  exact b4.mk (by rw[HV.out];rfl)
 ·skip
  have HV:=lH (show J2 x=true by simp[J2,c0,c1,c2])
  go_enter Tryz.func117,Tryz.ntmps117
  go_wp2_with (first|(go_at_call 114;refine gm (d6) ?_;intro x))
  go_ret
  exact b4.mk (by rw[HV.out];rfl)
theorem aM9{x:am2}{w:World}:Calls Tryz.prog 76 #[.agg #[.int .i64 x.Seed,.int .i64 x.Burst,.int .i64 x.Loss]] w (b4 w (.bool (J2 x))):=by
 cases c0:inB x.Seed 0 65535
 ·skip
  have HV:=lH (show J2 x=false by simp[J2,c0])
  go_enter Tryz.func76,Tryz.ntmps76
  go_wp2_with (first|(go_at_call 73;refine gm (d8) ?_;intro x))
  go_ret
  exact b4.mk (by rw[HV.out];rfl)
 cases c1:inB x.Burst 0 100
 ·skip
  have HV:=lH (show J2 x=false by simp[J2,c0,c1])
  go_enter Tryz.func76,Tryz.ntmps76
  go_wp2_with (first|(go_at_call 73;refine gm (d8) ?_;intro x))
  go_ret
  exact b4.mk (by rw[HV.out];rfl)
 cases c2:inB x.Loss 0 100
 ·skip
  have HV:=lH (show J2 x=false by simp[J2,c0,c1,c2])
  go_enter Tryz.func76,Tryz.ntmps76
  go_wp2_with (first|(go_at_call 73;refine gm (d8) ?_;intro x))
  go_ret
  exact b4.mk (by rw[HV.out];rfl)
 ·skip
  have HV:=lH (show J2 x=true by simp[J2,c0,c1,c2])
  go_enter Tryz.func76,Tryz.ntmps76
  go_wp2_with (first|(go_at_call 73;refine gm (d8) ?_;intro x))
  go_ret
  exact b4.mk (by rw[HV.out];rfl)
def A9(x:M4):Bool:=inB x.Expect 0 255 && (inB x.Taken 0 1000000)
theorem M0{x:M4}{w:World}:Calls Tryz.prog 124 #[.agg #[.int .i64 x.Expect,.bool x.Locked,.bool x.Again,.int .i64 x.Taken]] w (b4 w (.bool (A9 x))):=by
 cases c0:inB x.Expect 0 255
 ·skip
  have HV:=lH (show A9 x=false by simp[A9,c0])
  go_enter Tryz.func124,Tryz.ntmps124
  go_wp2_with (first|(go_at_call 114;refine gm (d6) ?_;intro x))
  go_ret
  exact b4.mk (by rw[HV.out];rfl)
 cases c1:inB x.Taken 0 1000000
 ·skip
  have HV:=lH (show A9 x=false by simp[A9,c0,c1])
  go_enter Tryz.func124,Tryz.ntmps124
  go_wp2_with (first|(go_at_call 114;refine gm (d6) ?_;intro x))
  go_ret
  exact b4.mk (by rw[HV.out];rfl)
 ·skip
  have HV:=lH (show A9 x=true by simp[A9,c0,c1])
  go_enter Tryz.func124,Tryz.ntmps124
  go_wp2_with (first|(go_at_call 114;refine gm (d6) ?_;intro x))
  go_ret
  exact b4.mk (by rw[HV.out];rfl)
theorem M1{x:M4}{w:World}:Calls Tryz.prog 83 #[.agg #[.int .i64 x.Expect,.bool x.Locked,.bool x.Again,.int .i64 x.Taken]] w (b4 w (.bool (A9 x))):=by
 cases c0:inB x.Expect 0 255
 ·skip
  have HV:=lH (show A9 x=false by simp[A9,c0])
  go_enter Tryz.func83,Tryz.ntmps83
  go_wp2_with (first|(go_at_call 73;refine gm (d8) ?_;intro x))
  go_ret
  exact b4.mk (by rw[HV.out];rfl)
 cases c1:inB x.Taken 0 1000000
 ·skip
  have HV:=lH (show A9 x=false by simp[A9,c0,c1])
  go_enter Tryz.func83,Tryz.ntmps83
  go_wp2_with (first|(go_at_call 73;refine gm (d8) ?_;intro x))
  go_ret
  exact b4.mk (by rw[HV.out];rfl)
 ·skip
  have HV:=lH (show A9 x=true by simp[A9,c0,c1])
  go_enter Tryz.func83,Tryz.ntmps83
  go_wp2_with (first|(go_at_call 73;refine gm (d8) ?_;intro x))
  go_ret
  exact b4.mk (by rw[HV.out];rfl)
def A3(x:B4):Bool:=inB x.Id 0 65535 && (inB x.Priority 0 3 && (inB x.Time 0 1000000 && (decide ((x.Data.size:Int)≤34))))
theorem Y0{x:B4}{w:World}(hzData:x.Data.size≤9223372036854775807):Calls Tryz.prog 251 #[.agg #[.int .i64 x.Id,.int .i64 x.Priority,.int .i64 x.Time,.string x.Data]] w (b4 w (.bool (A3 x))):=by
 cases c0:inB x.Id 0 65535
 ·skip
  have HV:=lH (show A3 x=false by simp[A3,c0])
  go_enter Tryz.func251,Tryz.ntmps251
  go_wp2_with (first|(go_at_call 114;refine gm (d6) ?_;intro x))
  go_ret
  exact b4.mk (by rw[HV.out];rfl)
 cases c1:inB x.Priority 0 3
 ·skip
  have HV:=lH (show A3 x=false by simp[A3,c0,c1])
  go_enter Tryz.func251,Tryz.ntmps251
  go_wp2_with (first|(go_at_call 114;refine gm (d6) ?_;intro x))
  go_ret
  exact b4.mk (by rw[HV.out];rfl)
 cases c2:inB x.Time 0 1000000
 ·skip
  have HV:=lH (show A3 x=false by simp[A3,c0,c1,c2])
  go_enter Tryz.func251,Tryz.ntmps251
  go_wp2_with (first|(go_at_call 114;refine gm (d6) ?_;intro x))
  go_ret
  exact b4.mk (by rw[HV.out];rfl)
 cases c3:decide ((x.Data.size:Int)≤34)
 ·skip
  have HV:=lH (show A3 x=false by simp[A3,c0,c1,c2,c3])
  go_enter Tryz.func251,Tryz.ntmps251
  go_wp2_with (first|(go_at_call 114;refine gm (d6) ?_;intro x))
  go_ret
  exact b4.mk (by rw[HV.out];rfl)
 ·skip
  have HV:=lH (show A3 x=true by simp[A3,c0,c1,c2,c3])
  go_enter Tryz.func251,Tryz.ntmps251
  go_wp2_with (first|(go_at_call 114;refine gm (d6) ?_;intro x))
  go_ret
  exact b4.mk (by rw[HV.out];rfl)
theorem Y2{x:B4}{w:World}(hzData:x.Data.size≤9223372036854775807):Calls Tryz.prog 242 #[.agg #[.int .i64 x.Id,.int .i64 x.Priority,.int .i64 x.Time,.string x.Data]] w (b4 w (.bool (A3 x))):=by
 cases c0:inB x.Id 0 65535
 ·skip
  have HV:=lH (show A3 x=false by simp[A3,c0])
  go_enter Tryz.func242,Tryz.ntmps242
  go_wp2_with (first|(go_at_call 73;refine gm (d8) ?_;intro x))
  go_ret
  exact b4.mk (by rw[HV.out];rfl)
 cases c1:inB x.Priority 0 3
 ·skip
  have HV:=lH (show A3 x=false by simp[A3,c0,c1])
  go_enter Tryz.func242,Tryz.ntmps242
  go_wp2_with (first|(go_at_call 73;refine gm (d8) ?_;intro x))
  go_ret
  exact b4.mk (by rw[HV.out];rfl)
 cases c2:inB x.Time 0 1000000
 ·skip
  have HV:=lH (show A3 x=false by simp[A3,c0,c1,c2])
  go_enter Tryz.func242,Tryz.ntmps242
  go_wp2_with (first|(go_at_call 73;refine gm (d8) ?_;intro x))
  go_ret
  exact b4.mk (by rw[HV.out];rfl)
 cases c3:decide ((x.Data.size:Int)≤34)
 ·skip
  have HV:=lH (show A3 x=false by simp[A3,c0,c1,c2,c3])
  go_enter Tryz.func242,Tryz.ntmps242
  go_wp2_with (first|(go_at_call 73;refine gm (d8) ?_;intro x))
  go_ret
  exact b4.mk (by rw[HV.out];rfl)
 ·skip
  have HV:=lH (show A3 x=true by simp[A3,c0,c1,c2,c3])
  go_enter Tryz.func242,Tryz.ntmps242
  go_wp2_with (first|(go_at_call 73;refine gm (d8) ?_;intro x))
  go_ret
  exact b4.mk (by rw[HV.out];rfl)
def B8(x:ai4):Bool:=inB x.Channel 0 2 && (inB x.Next (-1) 255 && (inB x.Lost 0 1000000 && ((x.Synced || (x.Rest.toList == [])) && (decide ((x.Rest.size:Int)≤43)))))
theorem ad1{x:ai4}{w:World}(hzRest:x.Rest.size≤9223372036854775807:=by exact sd):Calls Tryz.prog 203 #[.agg #[.int .i64 x.Channel,.int .i64 x.Next,.bool x.Synced,.string x.Rest,.int .i64 x.Lost]] w (b4 w (.bool (B8 x))):=by
 cases c0:inB x.Channel 0 2
 ·skip
  have HV:=lH (show B8 x=false by simp[B8,c0])
  go_enter Tryz.func203,Tryz.ntmps203
  go_wp2_with (first|(go_at_call 114;refine gm (d6) ?_;intro x))
  go_ret
  exact b4.mk (by rw[HV.out];rfl)
 cases c1:inB x.Next (-1) 255
 ·skip
  have HV:=lH (show B8 x=false by simp[B8,c0,c1])
  go_enter Tryz.func203,Tryz.ntmps203
  go_wp2_with (first|(go_at_call 114;refine gm (d6) ?_;intro x))
  go_ret
  exact b4.mk (by rw[HV.out];rfl)
 cases c2:inB x.Lost 0 1000000
 ·skip
  have HV:=lH (show B8 x=false by simp[B8,c0,c1,c2])
  go_enter Tryz.func203,Tryz.ntmps203
  go_wp2_with (first|(go_at_call 114;refine gm (d6) ?_;intro x))
  go_ret
  exact b4.mk (by rw[HV.out];rfl)
 cases c3:x.Synced
 ·cases d3:(x.Rest.toList == [])
  ·skip
   have HV:=lH (show B8 x=false by simp[B8,c0,c1,c2,c3,d3])
   go_enter Tryz.func203,Tryz.ntmps203
   go_wp2_with (first|(go_at_call 114;refine gm (d6) ?_;intro x))
   go_ret
   exact b4.mk (by rw[HV.out];rfl)
  ·cases c4:decide ((x.Rest.size:Int)≤43)
   ·skip
    have HV:=lH (show B8 x=false by simp[B8,c0,c1,c2,c3,d3,c4])
    go_enter Tryz.func203,Tryz.ntmps203
    go_wp2_with (first|(go_at_call 114;refine gm (d6) ?_;intro x))
    go_ret
    exact b4.mk (by rw[HV.out];rfl)
   ·skip
    have HV:=lH (show B8 x=true by simp[B8,c0,c1,c2,c3,d3,c4])
    go_enter Tryz.func203,Tryz.ntmps203
    go_wp2_with (first|(go_at_call 114;refine gm (d6) ?_;intro x))
    go_ret
    exact b4.mk (by rw[HV.out];rfl)
 ·cases c4:decide ((x.Rest.size:Int)≤43)
  ·skip
   have HV:=lH (show B8 x=false by simp[B8,c0,c1,c2,c3,c4])
   go_enter Tryz.func203,Tryz.ntmps203
   go_wp2_with (first|(go_at_call 114;refine gm (d6) ?_;intro x))
   go_ret
   exact b4.mk (by rw[HV.out];rfl)
  ·skip
   have HV:=lH (show B8 x=true by simp[B8,c0,c1,c2,c3,c4])
   go_enter Tryz.func203,Tryz.ntmps203
   go_wp2_with (first|(go_at_call 114;refine gm (d6) ?_;intro x))
   go_ret
   exact b4.mk (by rw[HV.out];rfl)
theorem W4{x:ai4}{w:World}(hzRest:x.Rest.size≤9223372036854775807:=by exact sd):Calls Tryz.prog 170 #[.agg #[.int .i64 x.Channel,.int .i64 x.Next,.bool x.Synced,.string x.Rest,.int .i64 x.Lost]] w (b4 w (.bool (B8 x))):=by
 cases c0:inB x.Channel 0 2
 ·skip
  have HV:=lH (show B8 x=false by simp[B8,c0])
  go_enter Tryz.func170,Tryz.ntmps170
  go_wp2_with (first|(go_at_call 73;refine gm (d8) ?_;intro x))
  go_ret
  exact b4.mk (by rw[HV.out];rfl)
 cases c1:inB x.Next (-1) 255
 ·skip
  have HV:=lH (show B8 x=false by simp[B8,c0,c1])
  go_enter Tryz.func170,Tryz.ntmps170
  go_wp2_with (first|(go_at_call 73;refine gm (d8) ?_;intro x))
  go_ret
  exact b4.mk (by rw[HV.out];rfl)
 cases c2:inB x.Lost 0 1000000
 ·skip
  have HV:=lH (show B8 x=false by simp[B8,c0,c1,c2])
  go_enter Tryz.func170,Tryz.ntmps170
  go_wp2_with (first|(go_at_call 73;refine gm (d8) ?_;intro x))
  go_ret
  exact b4.mk (by rw[HV.out];rfl)
 cases c3:x.Synced
 ·cases d3:(x.Rest.toList == [])
  ·skip
   have HV:=lH (show B8 x=false by simp[B8,c0,c1,c2,c3,d3])
   go_enter Tryz.func170,Tryz.ntmps170
   go_wp2_with (first|(go_at_call 73;refine gm (d8) ?_;intro x))
   go_ret
   exact b4.mk (by rw[HV.out];rfl)
  ·cases c4:decide ((x.Rest.size:Int)≤43)
   ·skip
    have HV:=lH (show B8 x=false by simp[B8,c0,c1,c2,c3,d3,c4])
    go_enter Tryz.func170,Tryz.ntmps170
    go_wp2_with (first|(go_at_call 73;refine gm (d8) ?_;intro x))
    go_ret
    exact b4.mk (by rw[HV.out];rfl)
   ·skip
    have HV:=lH (show B8 x=true by simp[B8,c0,c1,c2,c3,d3,c4])
    go_enter Tryz.func170,Tryz.ntmps170
    go_wp2_with (first|(go_at_call 73;refine gm (d8) ?_;intro x))
    go_ret
    exact b4.mk (by rw[HV.out];rfl)
 ·cases c4:decide ((x.Rest.size:Int)≤43)
  ·skip
   have HV:=lH (show B8 x=false by simp[B8,c0,c1,c2,c3,c4])
   go_enter Tryz.func170,Tryz.ntmps170
   go_wp2_with (first|(go_at_call 73;refine gm (d8) ?_;intro x))
   go_ret
   exact b4.mk (by rw[HV.out];rfl)
  ·skip
   have HV:=lH (show B8 x=true by simp[B8,c0,c1,c2,c3,c4])
   go_enter Tryz.func170,Tryz.ntmps170
   go_wp2_with (first|(go_at_call 73;refine gm (d8) ?_;intro x))
   go_ret
   exact b4.mk (by rw[HV.out];rfl)
def w8(x:Z3):Bool:=inB x.Kind 0 4 && (inB x.At 0 1000000 && (if x.Kind=0 then inB x.A 0 7 && inB x.B 0 65535 else if x.Kind=1 then inB x.A 0 3 && (x.B == 0)else if x.Kind=2 then inB x.A 0 1 && (x.B == 0)else if x.Kind=3 then inB x.A 0 7 && (x.B == 0)else inB x.A 0 255 && (x.B == 0)))
theorem ad0{x:Z3}{w:World}:Calls Tryz.prog 216 #[.agg #[.int .i64 x.Kind,.int .i64 x.At,.int .i64 x.A,.int .i64 x.B]] w (b4 w (.bool (w8 x))):=by
 cases c0:inB x.Kind 0 4
 ·skip
  have HV:=lH (show w8 x=false by simp[w8,c0])
  go_enter Tryz.func216,Tryz.ntmps216
  go_wp2_with (first|(go_at_call 114;refine gm (d6) ?_;intro x))
  go_ret
  exact b4.mk (by rw[HV.out];rfl)
 cases c1:inB x.At 0 1000000
 ·skip
  have HV:=lH (show w8 x=false by simp[w8,c0,c1])
  go_enter Tryz.func216,Tryz.ntmps216
  go_wp2_with (first|(go_at_call 114;refine gm (d6) ?_;intro x))
  go_ret
  exact b4.mk (by rw[HV.out];rfl)
 by_cases k0:x.Kind=0
 ·have b0:(x.Kind == 0)=true:=by simp[k0]
  cases c2:inB x.A 0 7
  ·have C:=lH c2
   have HV:=lH (show w8 x=false by rw[w8,c0,c1,if_pos k0];rw[c2];rfl)
   clear k0
   go_enter Tryz.func216,Tryz.ntmps216
   go_wp2_with (first|(go_at_call 114;refine gm (d6) ?_;intro x))
   go_ret
   exact b4.mk (by rw[HV.out];rfl)
  cases c3:inB x.B 0 65535
  ·skip
   have HV:=lH (show w8 x=false by rw[w8,c0,c1,if_pos k0];rw[c2,c3];rfl)
   clear k0
   go_enter Tryz.func216,Tryz.ntmps216
   go_wp2_with (first|(go_at_call 114;refine gm (d6) ?_;intro x))
   go_ret
   exact b4.mk (by rw[HV.out];rfl)
  ·skip
   have HV:=lH (show w8 x=true by rw[w8,c0,c1,if_pos k0];rw[c2,c3];rfl)
   clear k0
   go_enter Tryz.func216,Tryz.ntmps216
   go_wp2_with (first|(go_at_call 114;refine gm (d6) ?_;intro x))
   go_ret
   exact b4.mk (by rw[HV.out];rfl)
 have b0:(x.Kind == 0)=false:=by simp[k0]
 by_cases k1:x.Kind=1
 ·have b1:(x.Kind == 1)=true:=by simp[k1]
  cases c2:inB x.A 0 3
  ·have C:=lH c2
   have HV:=lH (show w8 x=false by rw[w8,c0,c1,if_neg k0,if_pos k1];rw[c2];rfl)
   clear k0 k1
   go_enter Tryz.func216,Tryz.ntmps216
   go_wp2_with (first|(go_at_call 114;refine gm (d6) ?_;intro x))
   go_ret
   exact b4.mk (by rw[HV.out];rfl)
  cases c3:(x.B == 0)
  ·skip
   have HV:=lH (show w8 x=false by rw[w8,c0,c1,if_neg k0,if_pos k1];rw[c2,c3];rfl)
   clear k0 k1
   go_enter Tryz.func216,Tryz.ntmps216
   go_wp2_with (first|(go_at_call 114;refine gm (d6) ?_;intro x))
   go_ret
   exact b4.mk (by rw[HV.out];rfl)
  ·skip
   have HV:=lH (show w8 x=true by rw[w8,c0,c1,if_neg k0,if_pos k1];rw[c2,c3];rfl)
   clear k0 k1
   go_enter Tryz.func216,Tryz.ntmps216
   go_wp2_with (first|(go_at_call 114;refine gm (d6) ?_;intro x))
   go_ret
   exact b4.mk (by rw[HV.out];rfl)
 have b1:(x.Kind == 1)=false:=by simp[k1]
 by_cases k2:x.Kind=2
 ·have b2:(x.Kind == 2)=true:=by simp[k2]
  cases c2:inB x.A 0 1
  ·have C:=lH c2
   have HV:=lH (show w8 x=false by rw[w8,c0,c1,if_neg k0,if_neg k1,if_pos k2];rw[c2];rfl)
   clear k0 k1 k2
   go_enter Tryz.func216,Tryz.ntmps216
   go_wp2_with (first|(go_at_call 114;refine gm (d6) ?_;intro x))
   go_ret
   exact b4.mk (by rw[HV.out];rfl)
  cases c3:(x.B == 0)
  ·skip
   have HV:=lH (show w8 x=false by rw[w8,c0,c1,if_neg k0,if_neg k1,if_pos k2];rw[c2,c3];rfl)
   clear k0 k1 k2
   go_enter Tryz.func216,Tryz.ntmps216
   go_wp2_with (first|(go_at_call 114;refine gm (d6) ?_;intro x))
   go_ret
   exact b4.mk (by rw[HV.out];rfl)
  ·skip
   have HV:=lH (show w8 x=true by rw[w8,c0,c1,if_neg k0,if_neg k1,if_pos k2];rw[c2,c3];rfl)
   clear k0 k1 k2
   go_enter Tryz.func216,Tryz.ntmps216
   go_wp2_with (first|(go_at_call 114;refine gm (d6) ?_;intro x))
   go_ret
   exact b4.mk (by rw[HV.out];rfl)
 have b2:(x.Kind == 2)=false:=by simp[k2]
 by_cases k3:x.Kind=3
 ·have b3:(x.Kind == 3)=true:=by simp[k3]
  cases c2:inB x.A 0 7
  ·have C:=lH c2
   have HV:=lH (show w8 x=false by rw[w8,c0,c1,if_neg k0,if_neg k1,if_neg k2,if_pos k3];rw[c2];rfl)
   clear k0 k1 k2 k3
   go_enter Tryz.func216,Tryz.ntmps216
   go_wp2_with (first|(go_at_call 114;refine gm (d6) ?_;intro x))
   go_ret
   exact b4.mk (by rw[HV.out];rfl)
  cases c3:(x.B == 0)
  ·skip
   have HV:=lH (show w8 x=false by rw[w8,c0,c1,if_neg k0,if_neg k1,if_neg k2,if_pos k3];rw[c2,c3];rfl)
   clear k0 k1 k2 k3
   go_enter Tryz.func216,Tryz.ntmps216
   go_wp2_with (first|(go_at_call 114;refine gm (d6) ?_;intro x))
   go_ret
   exact b4.mk (by rw[HV.out];rfl)
  ·skip
   have HV:=lH (show w8 x=true by rw[w8,c0,c1,if_neg k0,if_neg k1,if_neg k2,if_pos k3];rw[c2,c3];rfl)
   clear k0 k1 k2 k3
   go_enter Tryz.func216,Tryz.ntmps216
   go_wp2_with (first|(go_at_call 114;refine gm (d6) ?_;intro x))
   go_ret
   exact b4.mk (by rw[HV.out];rfl)
 have b3:(x.Kind == 3)=false:=by simp[k3]
 cases c2:inB x.A 0 255
 ·have C:=lH c2
  have HV:=lH (show w8 x=false by rw[w8,c0,c1,if_neg k0,if_neg k1,if_neg k2,if_neg k3];rw[c2];rfl)
  clear k0 k1 k2 k3
  go_enter Tryz.func216,Tryz.ntmps216
  go_wp2_with (first|(go_at_call 114;refine gm (d6) ?_;intro x))
  go_ret
  exact b4.mk (by rw[HV.out];rfl)
 cases c3:(x.B == 0)
 ·skip
  have HV:=lH (show w8 x=false by rw[w8,c0,c1,if_neg k0,if_neg k1,if_neg k2,if_neg k3];rw[c2,c3];rfl)
  clear k0 k1 k2 k3
  go_enter Tryz.func216,Tryz.ntmps216
  go_wp2_with (first|(go_at_call 114;refine gm (d6) ?_;intro x))
  go_ret
  exact b4.mk (by rw[HV.out];rfl)
 ·skip
  have HV:=lH (show w8 x=true by rw[w8,c0,c1,if_neg k0,if_neg k1,if_neg k2,if_neg k3];rw[c2,c3];rfl)
  clear k0 k1 k2 k3
  go_enter Tryz.func216,Tryz.ntmps216
  go_wp2_with (first|(go_at_call 114;refine gm (d6) ?_;intro x))
  go_ret
  exact b4.mk (by rw[HV.out];rfl)
theorem as7{x:Z3}{w:World}:Calls Tryz.prog 183 #[.agg #[.int .i64 x.Kind,.int .i64 x.At,.int .i64 x.A,.int .i64 x.B]] w (b4 w (.bool (w8 x))):=by
 cases c0:inB x.Kind 0 4
 ·skip
  have HV:=lH (show w8 x=false by simp[w8,c0])
  go_enter Tryz.func183,Tryz.ntmps183
  go_wp2_with (first|(go_at_call 73;refine gm (d8) ?_;intro x))
  go_ret
  exact b4.mk (by rw[HV.out];rfl)
 cases c1:inB x.At 0 1000000
 ·skip
  have HV:=lH (show w8 x=false by simp[w8,c0,c1])
  go_enter Tryz.func183,Tryz.ntmps183
  go_wp2_with (first|(go_at_call 73;refine gm (d8) ?_;intro x))
  go_ret
  exact b4.mk (by rw[HV.out];rfl)
 by_cases k0:x.Kind=0
 ·have b0:(x.Kind == 0)=true:=by simp[k0]
  cases c2:inB x.A 0 7
  ·have C:=lH c2
   have HV:=lH (show w8 x=false by rw[w8,c0,c1,if_pos k0];rw[c2];rfl)
   clear k0
   go_enter Tryz.func183,Tryz.ntmps183
   go_wp2_with (first|(go_at_call 73;refine gm (d8) ?_;intro x))
   go_ret
   exact b4.mk (by rw[HV.out];rfl)
  cases c3:inB x.B 0 65535
  ·skip
   have HV:=lH (show w8 x=false by rw[w8,c0,c1,if_pos k0];rw[c2,c3];rfl)
   clear k0
   go_enter Tryz.func183,Tryz.ntmps183
   go_wp2_with (first|(go_at_call 73;refine gm (d8) ?_;intro x))
   go_ret
   exact b4.mk (by rw[HV.out];rfl)
  ·skip
   have HV:=lH (show w8 x=true by rw[w8,c0,c1,if_pos k0];rw[c2,c3];rfl)
   clear k0
   go_enter Tryz.func183,Tryz.ntmps183
   go_wp2_with (first|(go_at_call 73;refine gm (d8) ?_;intro x))
   go_ret
   exact b4.mk (by rw[HV.out];rfl)
 have b0:(x.Kind == 0)=false:=by simp[k0]
 by_cases k1:x.Kind=1
 ·have b1:(x.Kind == 1)=true:=by simp[k1]
  cases c2:inB x.A 0 3
  ·have C:=lH c2
   have HV:=lH (show w8 x=false by rw[w8,c0,c1,if_neg k0,if_pos k1];rw[c2];rfl)
   clear k0 k1
   go_enter Tryz.func183,Tryz.ntmps183
   go_wp2_with (first|(go_at_call 73;refine gm (d8) ?_;intro x))
   go_ret
   exact b4.mk (by rw[HV.out];rfl)
  cases c3:(x.B == 0)
  ·skip
   have HV:=lH (show w8 x=false by rw[w8,c0,c1,if_neg k0,if_pos k1];rw[c2,c3];rfl)
   clear k0 k1
   go_enter Tryz.func183,Tryz.ntmps183
   go_wp2_with (first|(go_at_call 73;refine gm (d8) ?_;intro x))
   go_ret
   exact b4.mk (by rw[HV.out];rfl)
  ·skip
   have HV:=lH (show w8 x=true by rw[w8,c0,c1,if_neg k0,if_pos k1];rw[c2,c3];rfl)
   clear k0 k1
   go_enter Tryz.func183,Tryz.ntmps183
   go_wp2_with (first|(go_at_call 73;refine gm (d8) ?_;intro x))
   go_ret
   exact b4.mk (by rw[HV.out];rfl)
 have b1:(x.Kind == 1)=false:=by simp[k1]
 by_cases k2:x.Kind=2
 ·have b2:(x.Kind == 2)=true:=by simp[k2]
  cases c2:inB x.A 0 1
  ·have C:=lH c2
   have HV:=lH (show w8 x=false by rw[w8,c0,c1,if_neg k0,if_neg k1,if_pos k2];rw[c2];rfl)
   clear k0 k1 k2
   go_enter Tryz.func183,Tryz.ntmps183
   go_wp2_with (first|(go_at_call 73;refine gm (d8) ?_;intro x))
   go_ret
   exact b4.mk (by rw[HV.out];rfl)
  cases c3:(x.B == 0)
  ·skip
   have HV:=lH (show w8 x=false by rw[w8,c0,c1,if_neg k0,if_neg k1,if_pos k2];rw[c2,c3];rfl)
   clear k0 k1 k2
   go_enter Tryz.func183,Tryz.ntmps183
   go_wp2_with (first|(go_at_call 73;refine gm (d8) ?_;intro x))
   go_ret
   exact b4.mk (by rw[HV.out];rfl)
  ·skip
   have HV:=lH (show w8 x=true by rw[w8,c0,c1,if_neg k0,if_neg k1,if_pos k2];rw[c2,c3];rfl)
   clear k0 k1 k2
   go_enter Tryz.func183,Tryz.ntmps183
   go_wp2_with (first|(go_at_call 73;refine gm (d8) ?_;intro x))
   go_ret
   exact b4.mk (by rw[HV.out];rfl)
 have b2:(x.Kind == 2)=false:=by simp[k2]
 by_cases k3:x.Kind=3
 ·have b3:(x.Kind == 3)=true:=by simp[k3]
  cases c2:inB x.A 0 7
  ·have C:=lH c2
   have HV:=lH (show w8 x=false by rw[w8,c0,c1,if_neg k0,if_neg k1,if_neg k2,if_pos k3];rw[c2];rfl)
   clear k0 k1 k2 k3
   go_enter Tryz.func183,Tryz.ntmps183
   go_wp2_with (first|(go_at_call 73;refine gm (d8) ?_;intro x))
   go_ret
   exact b4.mk (by rw[HV.out];rfl)
  cases c3:(x.B == 0)
  ·skip
   have HV:=lH (show w8 x=false by rw[w8,c0,c1,if_neg k0,if_neg k1,if_neg k2,if_pos k3];rw[c2,c3];rfl)
   clear k0 k1 k2 k3
   go_enter Tryz.func183,Tryz.ntmps183
   go_wp2_with (first|(go_at_call 73;refine gm (d8) ?_;intro x))
   go_ret
   exact b4.mk (by rw[HV.out];rfl)
  ·skip
   have HV:=lH (show w8 x=true by rw[w8,c0,c1,if_neg k0,if_neg k1,if_neg k2,if_pos k3];rw[c2,c3];rfl)
   clear k0 k1 k2 k3
   go_enter Tryz.func183,Tryz.ntmps183
   go_wp2_with (first|(go_at_call 73;refine gm (d8) ?_;intro x))
   go_ret
   exact b4.mk (by rw[HV.out];rfl)
 have b3:(x.Kind == 3)=false:=by simp[k3]
 cases c2:inB x.A 0 255
 ·have C:=lH c2
  have HV:=lH (show w8 x=false by rw[w8,c0,c1,if_neg k0,if_neg k1,if_neg k2,if_neg k3];rw[c2];rfl)
  clear k0 k1 k2 k3
  go_enter Tryz.func183,Tryz.ntmps183
  go_wp2_with (first|(go_at_call 73;refine gm (d8) ?_;intro x))
  go_ret
  exact b4.mk (by rw[HV.out];rfl)
 cases c3:(x.B == 0)
 ·skip
  have HV:=lH (show w8 x=false by rw[w8,c0,c1,if_neg k0,if_neg k1,if_neg k2,if_neg k3];rw[c2,c3];rfl)
  clear k0 k1 k2 k3
  go_enter Tryz.func183,Tryz.ntmps183
  go_wp2_with (first|(go_at_call 73;refine gm (d8) ?_;intro x))
  go_ret
  exact b4.mk (by rw[HV.out];rfl)
 ·skip
  have HV:=lH (show w8 x=true by rw[w8,c0,c1,if_neg k0,if_neg k1,if_neg k2,if_neg k3];rw[c2,c3];rfl)
  clear k0 k1 k2 k3
  go_enter Tryz.func183,Tryz.ntmps183
  go_wp2_with (first|(go_at_call 73;refine gm (d8) ?_;intro x))
  go_ret
  exact b4.mk (by rw[HV.out];rfl)
