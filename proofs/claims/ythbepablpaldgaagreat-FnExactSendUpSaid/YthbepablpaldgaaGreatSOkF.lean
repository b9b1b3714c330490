/- The contracts of what says whether flat structs are valid, both sides. No condition but on sizes. -/
import Derived.Test.YthbepablpaldgaaGreatSM7
import Derived.Test.YthbepablpaldgaaGreatSM0
namespace Go.Proofs.YthbepablpaldgaaGreat
set_option linter.unusedVariables false
open Go.ChangeShapes Go.WideShapes Go.ChangeAt Go.RowKit
def channelOk(x:TChannel):Bool:=inB x.Seed 0 65535 && (inB x.Burst 0 100 && (inB x.Loss 0 100))
theorem k_iChannelOk{x:TChannel}{w:World}:Calls Tryz.prog 123 #[.agg #[.int .i64 x.Seed,.int .i64 x.Burst,.int .i64 x.Loss]] w (Gives w (.bool (channelOk x))):=by
 cases c0:inB x.Seed 0 65535
 ·skip
  have HV:=lH (show channelOk x=false by simp[channelOk,c0])
  go_enter Tryz.func123,Tryz.ntmps123
  go_wp2_with (first|(go_at_call 120;refine gm (c_ibetween) ?_;intro x))
  go_ret
  exact Gives.mk (by rw[HV.out];rfl)
 cases c1:inB x.Burst 0 100
 ·skip
  have HV:=lH (show channelOk x=false by simp[channelOk,c0,c1])
  go_enter Tryz.func123,Tryz.ntmps123
  go_wp2_with (first|(go_at_call 120;refine gm (c_ibetween) ?_;intro x))
  go_ret
  exact Gives.mk (by rw[HV.out];rfl)
 cases c2:inB x.Loss 0 100
 ·skip
  have HV:=lH (show channelOk x=false by simp[channelOk,c0,c1,c2])
  go_enter Tryz.func123,Tryz.ntmps123
  go_wp2_with (first|(go_at_call 120;refine gm (c_ibetween) ?_;intro x))
  go_ret
  exact Gives.mk (by rw[HV.out];rfl)
 ·skip
  have HV:=lH (show channelOk x=true by simp[channelOk,c0,c1,c2])
  go_enter Tryz.func123,Tryz.ntmps123
  go_wp2_with (first|(go_at_call 120;refine gm (c_ibetween) ?_;intro x))
  go_ret
  exact Gives.mk (by rw[HV.out];rfl)
theorem k_sChannelOk{x:TChannel}{w:World}:Calls Tryz.prog 85 #[.agg #[.int .i64 x.Seed,.int .i64 x.Burst,.int .i64 x.Loss]] w (Gives w (.bool (channelOk x))):=by
 cases c0:inB x.Seed 0 65535
 ·skip
  have HV:=lH (show channelOk x=false by simp[channelOk,c0])
  go_enter Tryz.func85,Tryz.ntmps85
  go_wp2_with (first|(go_at_call 82;refine gm (c_sl01In) ?_;intro x))
  go_ret
  exact Gives.mk (by rw[HV.out];rfl)
 cases c1:inB x.Burst 0 100
 ·skip
  have HV:=lH (show channelOk x=false by simp[channelOk,c0,c1])
  go_enter Tryz.func85,Tryz.ntmps85
  go_wp2_with (first|(go_at_call 82;refine gm (c_sl01In) ?_;intro x))
  go_ret
  exact Gives.mk (by rw[HV.out];rfl)
 cases c2:inB x.Loss 0 100
 ·skip
  have HV:=lH (show channelOk x=false by simp[channelOk,c0,c1,c2])
  go_enter Tryz.func85,Tryz.ntmps85
  go_wp2_with (first|(go_at_call 82;refine gm (c_sl01In) ?_;intro x))
  go_ret
  exact Gives.mk (by rw[HV.out];rfl)
 ·skip
  have HV:=lH (show channelOk x=true by simp[channelOk,c0,c1,c2])
  go_enter Tryz.func85,Tryz.ntmps85
  go_wp2_with (first|(go_at_call 82;refine gm (c_sl01In) ?_;intro x))
  go_ret
  exact Gives.mk (by rw[HV.out];rfl)
def receiverOk(x:TReceiver):Bool:=inB x.Expect 0 255 && (inB x.Taken 0 1000000)
theorem k_iReceiverOk{x:TReceiver}{w:World}:Calls Tryz.prog 217 #[.agg #[.int .i64 x.Expect,.bool x.Locked,.bool x.Again,.int .i64 x.Taken]] w (Gives w (.bool (receiverOk x))):=by
 cases c0:inB x.Expect 0 255
 ·skip
  have HV:=lH (show receiverOk x=false by simp[receiverOk,c0])
  go_enter Tryz.func217,Tryz.ntmps217
  go_wp2_with (first|(go_at_call 120;refine gm (c_ibetween) ?_;intro x))
  go_ret
  exact Gives.mk (by rw[HV.out];rfl)
 cases c1:inB x.Taken 0 1000000
 ·skip
  have HV:=lH (show receiverOk x=false by simp[receiverOk,c0,c1])
  go_enter Tryz.func217,Tryz.ntmps217
  go_wp2_with (first|(go_at_call 120;refine gm (c_ibetween) ?_;intro x))
  go_ret
  exact Gives.mk (by rw[HV.out];rfl)
 ·skip
  have HV:=lH (show receiverOk x=true by simp[receiverOk,c0,c1])
  go_enter Tryz.func217,Tryz.ntmps217
  go_wp2_with (first|(go_at_call 120;refine gm (c_ibetween) ?_;intro x))
  go_ret
  exact Gives.mk (by rw[HV.out];rfl)
theorem k_sReceiverOk{x:TReceiver}{w:World}:Calls Tryz.prog 189 #[.agg #[.int .i64 x.Expect,.bool x.Locked,.bool x.Again,.int .i64 x.Taken]] w (Gives w (.bool (receiverOk x))):=by
 cases c0:inB x.Expect 0 255
 ·skip
  have HV:=lH (show receiverOk x=false by simp[receiverOk,c0])
  go_enter Tryz.func189,Tryz.ntmps189
  go_wp2_with (first|(go_at_call 82;refine gm (c_sl01In) ?_;intro x))
  go_ret
  exact Gives.mk (by rw[HV.out];rfl)
 cases c1:inB x.Taken 0 1000000
 ·skip
  have HV:=lH (show receiverOk x=false by simp[receiverOk,c0,c1])
  go_enter Tryz.func189,Tryz.ntmps189
  go_wp2_with (first|(go_at_call 82;refine gm (c_sl01In) ?_;intro x))
  go_ret
  exact Gives.mk (by rw[HV.out];rfl)
 ·skip
  have HV:=lH (show receiverOk x=true by simp[receiverOk,c0,c1])
  go_enter Tryz.func189,Tryz.ntmps189
  go_wp2_with (first|(go_at_call 82;refine gm (c_sl01In) ?_;intro x))
  go_ret
  exact Gives.mk (by rw[HV.out];rfl)
def recordOk(x:TRecord):Bool:=inB x.Id 0 65535 && (inB x.Priority 0 3 && (inB x.Time 0 1000000 && (decide ((x.Data.size:Int)≤34))))
theorem k_iRecordOk{x:TRecord}{w:World}(hzData:x.Data.size≤9223372036854775807):Calls Tryz.prog 267 #[.agg #[.int .i64 x.Id,.int .i64 x.Priority,.int .i64 x.Time,.string x.Data]] w (Gives w (.bool (recordOk x))):=by
 cases c0:inB x.Id 0 65535
 ·skip
  have HV:=lH (show recordOk x=false by simp[recordOk,c0])
  go_enter Tryz.func267,Tryz.ntmps267
  go_wp2_with (first|(go_at_call 120;refine gm (c_ibetween) ?_;intro x))
  go_ret
  exact Gives.mk (by rw[HV.out];rfl)
 cases c1:inB x.Priority 0 3
 ·skip
  have HV:=lH (show recordOk x=false by simp[recordOk,c0,c1])
  go_enter Tryz.func267,Tryz.ntmps267
  go_wp2_with (first|(go_at_call 120;refine gm (c_ibetween) ?_;intro x))
  go_ret
  exact Gives.mk (by rw[HV.out];rfl)
 cases c2:inB x.Time 0 1000000
 ·skip
  have HV:=lH (show recordOk x=false by simp[recordOk,c0,c1,c2])
  go_enter Tryz.func267,Tryz.ntmps267
  go_wp2_with (first|(go_at_call 120;refine gm (c_ibetween) ?_;intro x))
  go_ret
  exact Gives.mk (by rw[HV.out];rfl)
 cases c3:decide ((x.Data.size:Int)≤34)
 ·skip
  have HV:=lH (show recordOk x=false by simp[recordOk,c0,c1,c2,c3])
  go_enter Tryz.func267,Tryz.ntmps267
  go_wp2_with (first|(go_at_call 120;refine gm (c_ibetween) ?_;intro x))
  go_ret
  exact Gives.mk (by rw[HV.out];rfl)
 ·skip
  have HV:=lH (show recordOk x=true by simp[recordOk,c0,c1,c2,c3])
  go_enter Tryz.func267,Tryz.ntmps267
  go_wp2_with (first|(go_at_call 120;refine gm (c_ibetween) ?_;intro x))
  go_ret
  exact Gives.mk (by rw[HV.out];rfl)
theorem k_sRecordOk{x:TRecord}{w:World}(hzData:x.Data.size≤9223372036854775807):Calls Tryz.prog 260 #[.agg #[.int .i64 x.Id,.int .i64 x.Priority,.int .i64 x.Time,.string x.Data]] w (Gives w (.bool (recordOk x))):=by
 cases c0:inB x.Id 0 65535
 ·skip
  have HV:=lH (show recordOk x=false by simp[recordOk,c0])
  go_enter Tryz.func260,Tryz.ntmps260
  go_wp2_with (first|(go_at_call 82;refine gm (c_sl01In) ?_;intro x))
  go_ret
  exact Gives.mk (by rw[HV.out];rfl)
 cases c1:inB x.Priority 0 3
 ·skip
  have HV:=lH (show recordOk x=false by simp[recordOk,c0,c1])
  go_enter Tryz.func260,Tryz.ntmps260
  go_wp2_with (first|(go_at_call 82;refine gm (c_sl01In) ?_;intro x))
  go_ret
  exact Gives.mk (by rw[HV.out];rfl)
 cases c2:inB x.Time 0 1000000
 ·skip
  have HV:=lH (show recordOk x=false by simp[recordOk,c0,c1,c2])
  go_enter Tryz.func260,Tryz.ntmps260
  go_wp2_with (first|(go_at_call 82;refine gm (c_sl01In) ?_;intro x))
  go_ret
  exact Gives.mk (by rw[HV.out];rfl)
 cases c3:decide ((x.Data.size:Int)≤34)
 ·skip
  have HV:=lH (show recordOk x=false by simp[recordOk,c0,c1,c2,c3])
  go_enter Tryz.func260,Tryz.ntmps260
  go_wp2_with (first|(go_at_call 82;refine gm (c_sl01In) ?_;intro x))
  go_ret
  exact Gives.mk (by rw[HV.out];rfl)
 ·skip
  have HV:=lH (show recordOk x=true by simp[recordOk,c0,c1,c2,c3])
  go_enter Tryz.func260,Tryz.ntmps260
  go_wp2_with (first|(go_at_call 82;refine gm (c_sl01In) ?_;intro x))
  go_ret
  exact Gives.mk (by rw[HV.out];rfl)
def unpackerOk(x:TUnpacker):Bool:=inB x.Channel 0 2 && (inB x.Next (-1) 255 && (inB x.Lost 0 1000000 && ((x.Synced || (x.Rest.toList == [])) && (decide ((x.Rest.size:Int)≤43)))))
theorem k_iUnpackerOk{x:TUnpacker}{w:World}(hzRest:x.Rest.size≤9223372036854775807:=by exact sd):Calls Tryz.prog 213 #[.agg #[.int .i64 x.Channel,.int .i64 x.Next,.bool x.Synced,.string x.Rest,.int .i64 x.Lost]] w (Gives w (.bool (unpackerOk x))):=by
 cases c0:inB x.Channel 0 2
 ·skip
  have HV:=lH (show unpackerOk x=false by simp[unpackerOk,c0])
  go_enter Tryz.func213,Tryz.ntmps213
  go_wp2_with (first|(go_at_call 120;refine gm (c_ibetween) ?_;intro x))
  go_ret
  exact Gives.mk (by rw[HV.out];rfl)
 cases c1:inB x.Next (-1) 255
 ·skip
  have HV:=lH (show unpackerOk x=false by simp[unpackerOk,c0,c1])
  go_enter Tryz.func213,Tryz.ntmps213
  go_wp2_with (first|(go_at_call 120;refine gm (c_ibetween) ?_;intro x))
  go_ret
  exact Gives.mk (by rw[HV.out];rfl)
 cases c2:inB x.Lost 0 1000000
 ·skip
  have HV:=lH (show unpackerOk x=false by simp[unpackerOk,c0,c1,c2])
  go_enter Tryz.func213,Tryz.ntmps213
  go_wp2_with (first|(go_at_call 120;refine gm (c_ibetween) ?_;intro x))
  go_ret
  exact Gives.mk (by rw[HV.out];rfl)
 cases c3:x.Synced
 ·cases d3:(x.Rest.toList == [])
  ·skip
   have HV:=lH (show unpackerOk x=false by simp[unpackerOk,c0,c1,c2,c3,d3])
   go_enter Tryz.func213,Tryz.ntmps213
   go_wp2_with (first|(go_at_call 120;refine gm (c_ibetween) ?_;intro x))
   go_ret
   exact Gives.mk (by rw[HV.out];rfl)
  ·cases c4:decide ((x.Rest.size:Int)≤43)
   ·skip
    have HV:=lH (show unpackerOk x=false by simp[unpackerOk,c0,c1,c2,c3,d3,c4])
    go_enter Tryz.func213,Tryz.ntmps213
    go_wp2_with (first|(go_at_call 120;refine gm (c_ibetween) ?_;intro x))
    go_ret
    exact Gives.mk (by rw[HV.out];rfl)
   ·skip
    have HV:=lH (show unpackerOk x=true by simp[unpackerOk,c0,c1,c2,c3,d3,c4])
    go_enter Tryz.func213,Tryz.ntmps213
    go_wp2_with (first|(go_at_call 120;refine gm (c_ibetween) ?_;intro x))
    go_ret
    exact Gives.mk (by rw[HV.out];rfl)
 ·cases c4:decide ((x.Rest.size:Int)≤43)
  ·skip
   have HV:=lH (show unpackerOk x=false by simp[unpackerOk,c0,c1,c2,c3,c4])
   go_enter Tryz.func213,Tryz.ntmps213
   go_wp2_with (first|(go_at_call 120;refine gm (c_ibetween) ?_;intro x))
   go_ret
   exact Gives.mk (by rw[HV.out];rfl)
  ·skip
   have HV:=lH (show unpackerOk x=true by simp[unpackerOk,c0,c1,c2,c3,c4])
   go_enter Tryz.func213,Tryz.ntmps213
   go_wp2_with (first|(go_at_call 120;refine gm (c_ibetween) ?_;intro x))
   go_ret
   exact Gives.mk (by rw[HV.out];rfl)
theorem k_sUnpackerOk{x:TUnpacker}{w:World}(hzRest:x.Rest.size≤9223372036854775807:=by exact sd):Calls Tryz.prog 185 #[.agg #[.int .i64 x.Channel,.int .i64 x.Next,.bool x.Synced,.string x.Rest,.int .i64 x.Lost]] w (Gives w (.bool (unpackerOk x))):=by
 cases c0:inB x.Channel 0 2
 ·skip
  have HV:=lH (show unpackerOk x=false by simp[unpackerOk,c0])
  go_enter Tryz.func185,Tryz.ntmps185
  go_wp2_with (first|(go_at_call 82;refine gm (c_sl01In) ?_;intro x))
  go_ret
  exact Gives.mk (by rw[HV.out];rfl)
 cases c1:inB x.Next (-1) 255
 ·skip
  have HV:=lH (show unpackerOk x=false by simp[unpackerOk,c0,c1])
  go_enter Tryz.func185,Tryz.ntmps185
  go_wp2_with (first|(go_at_call 82;refine gm (c_sl01In) ?_;intro x))
  go_ret
  exact Gives.mk (by rw[HV.out];rfl)
 cases c2:inB x.Lost 0 1000000
 ·skip
  have HV:=lH (show unpackerOk x=false by simp[unpackerOk,c0,c1,c2])
  go_enter Tryz.func185,Tryz.ntmps185
  go_wp2_with (first|(go_at_call 82;refine gm (c_sl01In) ?_;intro x))
  go_ret
  exact Gives.mk (by rw[HV.out];rfl)
 cases c3:x.Synced
 ·cases d3:(x.Rest.toList == [])
  ·skip
   have HV:=lH (show unpackerOk x=false by simp[unpackerOk,c0,c1,c2,c3,d3])
   go_enter Tryz.func185,Tryz.ntmps185
   go_wp2_with (first|(go_at_call 82;refine gm (c_sl01In) ?_;intro x))
   go_ret
   exact Gives.mk (by rw[HV.out];rfl)
  ·cases c4:decide ((x.Rest.size:Int)≤43)
   ·skip
    have HV:=lH (show unpackerOk x=false by simp[unpackerOk,c0,c1,c2,c3,d3,c4])
    go_enter Tryz.func185,Tryz.ntmps185
    go_wp2_with (first|(go_at_call 82;refine gm (c_sl01In) ?_;intro x))
    go_ret
    exact Gives.mk (by rw[HV.out];rfl)
   ·skip
    have HV:=lH (show unpackerOk x=true by simp[unpackerOk,c0,c1,c2,c3,d3,c4])
    go_enter Tryz.func185,Tryz.ntmps185
    go_wp2_with (first|(go_at_call 82;refine gm (c_sl01In) ?_;intro x))
    go_ret
    exact Gives.mk (by rw[HV.out];rfl)
 ·cases c4:decide ((x.Rest.size:Int)≤43)
  ·skip
   have HV:=lH (show unpackerOk x=false by simp[unpackerOk,c0,c1,c2,c3,c4])
   go_enter Tryz.func185,Tryz.ntmps185
   go_wp2_with (first|(go_at_call 82;refine gm (c_sl01In) ?_;intro x))
   go_ret
   exact Gives.mk (by rw[HV.out];rfl)
  ·skip
   have HV:=lH (show unpackerOk x=true by simp[unpackerOk,c0,c1,c2,c3,c4])
   go_enter Tryz.func185,Tryz.ntmps185
   go_wp2_with (first|(go_at_call 82;refine gm (c_sl01In) ?_;intro x))
   go_ret
   exact Gives.mk (by rw[HV.out];rfl)
def orderOk(x:TOrder):Bool:=inB x.Kind 0 4 && (inB x.At 0 1000000 && (if x.Kind=0 then inB x.A 0 7 && inB x.B 0 65535 else if x.Kind=1 then inB x.A 0 3 && (x.B == 0)else if x.Kind=2 then inB x.A 0 1 && (x.B == 0)else if x.Kind=3 then inB x.A 0 7 && (x.B == 0)else inB x.A 0 255 && (x.B == 0)))
theorem k_iOrderOk{x:TOrder}{w:World}:Calls Tryz.prog 223 #[.agg #[.int .i64 x.Kind,.int .i64 x.At,.int .i64 x.A,.int .i64 x.B]] w (Gives w (.bool (orderOk x))):=by
 cases c0:inB x.Kind 0 4
 ·skip
  have HV:=lH (show orderOk x=false by simp[orderOk,c0])
  go_enter Tryz.func223,Tryz.ntmps223
  go_wp2_with (first|(go_at_call 120;refine gm (c_ibetween) ?_;intro x))
  go_ret
  exact Gives.mk (by rw[HV.out];rfl)
 cases c1:inB x.At 0 1000000
 ·skip
  have HV:=lH (show orderOk x=false by simp[orderOk,c0,c1])
  go_enter Tryz.func223,Tryz.ntmps223
  go_wp2_with (first|(go_at_call 120;refine gm (c_ibetween) ?_;intro x))
  go_ret
  exact Gives.mk (by rw[HV.out];rfl)
 by_cases k0:x.Kind=0
 ·have b0:(x.Kind == 0)=true:=by simp[k0]
  cases c2:inB x.A 0 7
  ·have C:=lH c2
   have HV:=lH (show orderOk x=false by rw[orderOk,c0,c1,if_pos k0];rw[c2];rfl)
   clear k0
   go_enter Tryz.func223,Tryz.ntmps223
   go_wp2_with (first|(go_at_call 120;refine gm (c_ibetween) ?_;intro x))
   go_ret
   exact Gives.mk (by rw[HV.out];rfl)
  cases c3:inB x.B 0 65535
  ·skip
   have HV:=lH (show orderOk x=false by rw[orderOk,c0,c1,if_pos k0];rw[c2,c3];rfl)
   clear k0
   go_enter Tryz.func223,Tryz.ntmps223
   go_wp2_with (first|(go_at_call 120;refine gm (c_ibetween) ?_;intro x))
   go_ret
   exact Gives.mk (by rw[HV.out];rfl)
  ·skip
   have HV:=lH (show orderOk x=true by rw[orderOk,c0,c1,if_pos k0];rw[c2,c3];rfl)
   clear k0
   go_enter Tryz.func223,Tryz.ntmps223
   go_wp2_with (first|(go_at_call 120;refine gm (c_ibetween) ?_;intro x))
   go_ret
   exact Gives.mk (by rw[HV.out];rfl)
 have b0:(x.Kind == 0)=false:=by simp[k0]
 by_cases k1:x.Kind=1
 ·have b1:(x.Kind == 1)=true:=by simp[k1]
  cases c2:inB x.A 0 3
  ·have C:=lH c2
   have HV:=lH (show orderOk x=false by rw[orderOk,c0,c1,if_neg k0,if_pos k1];rw[c2];rfl)
   clear k0 k1
   go_enter Tryz.func223,Tryz.ntmps223
   go_wp2_with (first|(go_at_call 120;refine gm (c_ibetween) ?_;intro x))
   go_ret
   exact Gives.mk (by rw[HV.out];rfl)
  cases c3:(x.B == 0)
  ·skip
   have HV:=lH (show orderOk x=false by rw[orderOk,c0,c1,if_neg k0,if_pos k1];rw[c2,c3];rfl)
   clear k0 k1
   go_enter Tryz.func223,Tryz.ntmps223
   go_wp2_with (first|(go_at_call 120;refine gm (c_ibetween) ?_;intro x))
   go_ret
   exact Gives.mk (by rw[HV.out];rfl)
  ·skip
   have HV:=lH (show orderOk x=true by rw[orderOk,c0,c1,if_neg k0,if_pos k1];rw[c2,c3];rfl)
   clear k0 k1
   go_enter Tryz.func223,Tryz.ntmps223
   go_wp2_with (first|(go_at_call 120;refine gm (c_ibetween) ?_;intro x))
   go_ret
   exact Gives.mk (by rw[HV.out];rfl)
 have b1:(x.Kind == 1)=false:=by simp[k1]
 by_cases k2:x.Kind=2
 ·have b2:(x.Kind == 2)=true:=by simp[k2]
  cases c2:inB x.A 0 1
  ·have C:=lH c2
   have HV:=lH (show orderOk x=false by rw[orderOk,c0,c1,if_neg k0,if_neg k1,if_pos k2];rw[c2];rfl)
   clear k0 k1 k2
   go_enter Tryz.func223,Tryz.ntmps223
   go_wp2_with (first|(go_at_call 120;refine gm (c_ibetween) ?_;intro x))
   go_ret
   exact Gives.mk (by rw[HV.out];rfl)
  cases c3:(x.B == 0)
  ·skip
   have HV:=lH (show orderOk x=false by rw[orderOk,c0,c1,if_neg k0,if_neg k1,if_pos k2];rw[c2,c3];rfl)
   clear k0 k1 k2
   go_enter Tryz.func223,Tryz.ntmps223
   go_wp2_with (first|(go_at_call 120;refine gm (c_ibetween) ?_;intro x))
   go_ret
   exact Gives.mk (by rw[HV.out];rfl)
  ·skip
   have HV:=lH (show orderOk x=true by rw[orderOk,c0,c1,if_neg k0,if_neg k1,if_pos k2];rw[c2,c3];rfl)
   clear k0 k1 k2
   go_enter Tryz.func223,Tryz.ntmps223
   go_wp2_with (first|(go_at_call 120;refine gm (c_ibetween) ?_;intro x))
   go_ret
   exact Gives.mk (by rw[HV.out];rfl)
 have b2:(x.Kind == 2)=false:=by simp[k2]
 by_cases k3:x.Kind=3
 ·have b3:(x.Kind == 3)=true:=by simp[k3]
  cases c2:inB x.A 0 7
  ·have C:=lH c2
   have HV:=lH (show orderOk x=false by rw[orderOk,c0,c1,if_neg k0,if_neg k1,if_neg k2,if_pos k3];rw[c2];rfl)
   clear k0 k1 k2 k3
   go_enter Tryz.func223,Tryz.ntmps223
   go_wp2_with (first|(go_at_call 120;refine gm (c_ibetween) ?_;intro x))
   go_ret
   exact Gives.mk (by rw[HV.out];rfl)
  cases c3:(x.B == 0)
  ·skip
   have HV:=lH (show orderOk x=false by rw[orderOk,c0,c1,if_neg k0,if_neg k1,if_neg k2,if_pos k3];rw[c2,c3];rfl)
   clear k0 k1 k2 k3
   go_enter Tryz.func223,Tryz.ntmps223
   go_wp2_with (first|(go_at_call 120;refine gm (c_ibetween) ?_;intro x))
   go_ret
   exact Gives.mk (by rw[HV.out];rfl)
  ·skip
   have HV:=lH (show orderOk x=true by rw[orderOk,c0,c1,if_neg k0,if_neg k1,if_neg k2,if_pos k3];rw[c2,c3];rfl)
   clear k0 k1 k2 k3
   go_enter Tryz.func223,Tryz.ntmps223
   go_wp2_with (first|(go_at_call 120;refine gm (c_ibetween) ?_;intro x))
   go_ret
   exact Gives.mk (by rw[HV.out];rfl)
 have b3:(x.Kind == 3)=false:=by simp[k3]
 cases c2:inB x.A 0 255
 ·have C:=lH c2
  have HV:=lH (show orderOk x=false by rw[orderOk,c0,c1,if_neg k0,if_neg k1,if_neg k2,if_neg k3];rw[c2];rfl)
  clear k0 k1 k2 k3
  go_enter Tryz.func223,Tryz.ntmps223
  go_wp2_with (first|(go_at_call 120;refine gm (c_ibetween) ?_;intro x))
  go_ret
  exact Gives.mk (by rw[HV.out];rfl)
 cases c3:(x.B == 0)
 ·skip
  have HV:=lH (show orderOk x=false by rw[orderOk,c0,c1,if_neg k0,if_neg k1,if_neg k2,if_neg k3];rw[c2,c3];rfl)
  clear k0 k1 k2 k3
  go_enter Tryz.func223,Tryz.ntmps223
  go_wp2_with (first|(go_at_call 120;refine gm (c_ibetween) ?_;intro x))
  go_ret
  exact Gives.mk (by rw[HV.out];rfl)
 ·skip
  have HV:=lH (show orderOk x=true by rw[orderOk,c0,c1,if_neg k0,if_neg k1,if_neg k2,if_neg k3];rw[c2,c3];rfl)
  clear k0 k1 k2 k3
  go_enter Tryz.func223,Tryz.ntmps223
  go_wp2_with (first|(go_at_call 120;refine gm (c_ibetween) ?_;intro x))
  go_ret
  exact Gives.mk (by rw[HV.out];rfl)
theorem k_sOrderOk{x:TOrder}{w:World}:Calls Tryz.prog 194 #[.agg #[.int .i64 x.Kind,.int .i64 x.At,.int .i64 x.A,.int .i64 x.B]] w (Gives w (.bool (orderOk x))):=by
 cases c0:inB x.Kind 0 4
 ·skip
  have HV:=lH (show orderOk x=false by simp[orderOk,c0])
  go_enter Tryz.func194,Tryz.ntmps194
  go_wp2_with (first|(go_at_call 82;refine gm (c_sl01In) ?_;intro x))
  go_ret
  exact Gives.mk (by rw[HV.out];rfl)
 cases c1:inB x.At 0 1000000
 ·skip
  have HV:=lH (show orderOk x=false by simp[orderOk,c0,c1])
  go_enter Tryz.func194,Tryz.ntmps194
  go_wp2_with (first|(go_at_call 82;refine gm (c_sl01In) ?_;intro x))
  go_ret
  exact Gives.mk (by rw[HV.out];rfl)
 by_cases k0:x.Kind=0
 ·have b0:(x.Kind == 0)=true:=by simp[k0]
  cases c2:inB x.A 0 7
  ·have C:=lH c2
   have HV:=lH (show orderOk x=false by rw[orderOk,c0,c1,if_pos k0];rw[c2];rfl)
   clear k0
   go_enter Tryz.func194,Tryz.ntmps194
   go_wp2_with (first|(go_at_call 82;refine gm (c_sl01In) ?_;intro x))
   go_ret
   exact Gives.mk (by rw[HV.out];rfl)
  cases c3:inB x.B 0 65535
  ·skip
   have HV:=lH (show orderOk x=false by rw[orderOk,c0,c1,if_pos k0];rw[c2,c3];rfl)
   clear k0
   go_enter Tryz.func194,Tryz.ntmps194
   go_wp2_with (first|(go_at_call 82;refine gm (c_sl01In) ?_;intro x))
   go_ret
   exact Gives.mk (by rw[HV.out];rfl)
  ·skip
   have HV:=lH (show orderOk x=true by rw[orderOk,c0,c1,if_pos k0];rw[c2,c3];rfl)
   clear k0
   go_enter Tryz.func194,Tryz.ntmps194
   go_wp2_with (first|(go_at_call 82;refine gm (c_sl01In) ?_;intro x))
   go_ret
   exact Gives.mk (by rw[HV.out];rfl)
 have b0:(x.Kind == 0)=false:=by simp[k0]
 by_cases k1:x.Kind=1
 ·have b1:(x.Kind == 1)=true:=by simp[k1]
  cases c2:inB x.A 0 3
  ·have C:=lH c2
   have HV:=lH (show orderOk x=false by rw[orderOk,c0,c1,if_neg k0,if_pos k1];rw[c2];rfl)
   clear k0 k1
   go_enter Tryz.func194,Tryz.ntmps194
   go_wp2_with (first|(go_at_call 82;refine gm (c_sl01In) ?_;intro x))
   go_ret
   exact Gives.mk (by rw[HV.out];rfl)
  cases c3:(x.B == 0)
  ·skip
   have HV:=lH (show orderOk x=false by rw[orderOk,c0,c1,if_neg k0,if_pos k1];rw[c2,c3];rfl)
   clear k0 k1
   go_enter Tryz.func194,Tryz.ntmps194
   go_wp2_with (first|(go_at_call 82;refine gm (c_sl01In) ?_;intro x))
   go_ret
   exact Gives.mk (by rw[HV.out];rfl)
  ·skip
   have HV:=lH (show orderOk x=true by rw[orderOk,c0,c1,if_neg k0,if_pos k1];rw[c2,c3];rfl)
   clear k0 k1
   go_enter Tryz.func194,Tryz.ntmps194
   go_wp2_with (first|(go_at_call 82;refine gm (c_sl01In) ?_;intro x))
   go_ret
   exact Gives.mk (by rw[HV.out];rfl)
 have b1:(x.Kind == 1)=false:=by simp[k1]
 by_cases k2:x.Kind=2
 ·have b2:(x.Kind == 2)=true:=by simp[k2]
  cases c2:inB x.A 0 1
  ·have C:=lH c2
   have HV:=lH (show orderOk x=false by rw[orderOk,c0,c1,if_neg k0,if_neg k1,if_pos k2];rw[c2];rfl)
   clear k0 k1 k2
   go_enter Tryz.func194,Tryz.ntmps194
   go_wp2_with (first|(go_at_call 82;refine gm (c_sl01In) ?_;intro x))
   go_ret
   exact Gives.mk (by rw[HV.out];rfl)
  cases c3:(x.B == 0)
  ·skip
   have HV:=lH (show orderOk x=false by rw[orderOk,c0,c1,if_neg k0,if_neg k1,if_pos k2];rw[c2,c3];rfl)
   clear k0 k1 k2
   go_enter Tryz.func194,Tryz.ntmps194
   go_wp2_with (first|(go_at_call 82;refine gm (c_sl01In) ?_;intro x))
   go_ret
   exact Gives.mk (by rw[HV.out];rfl)
  ·skip
   have HV:=lH (show orderOk x=true by rw[orderOk,c0,c1,if_neg k0,if_neg k1,if_pos k2];rw[c2,c3];rfl)
   clear k0 k1 k2
   go_enter Tryz.func194,Tryz.ntmps194
   go_wp2_with (first|(go_at_call 82;refine gm (c_sl01In) ?_;intro x))
   go_ret
   exact Gives.mk (by rw[HV.out];rfl)
 have b2:(x.Kind == 2)=false:=by simp[k2]
 by_cases k3:x.Kind=3
 ·have b3:(x.Kind == 3)=true:=by simp[k3]
  cases c2:inB x.A 0 7
  ·have C:=lH c2
   have HV:=lH (show orderOk x=false by rw[orderOk,c0,c1,if_neg k0,if_neg k1,if_neg k2,if_pos k3];rw[c2];rfl)
   clear k0 k1 k2 k3
   go_enter Tryz.func194,Tryz.ntmps194
   go_wp2_with (first|(go_at_call 82;refine gm (c_sl01In) ?_;intro x))
   go_ret
   exact Gives.mk (by rw[HV.out];rfl)
  cases c3:(x.B == 0)
  ·skip
   have HV:=lH (show orderOk x=false by rw[orderOk,c0,c1,if_neg k0,if_neg k1,if_neg k2,if_pos k3];rw[c2,c3];rfl)
   clear k0 k1 k2 k3
   go_enter Tryz.func194,Tryz.ntmps194
   go_wp2_with (first|(go_at_call 82;refine gm (c_sl01In) ?_;intro x))
   go_ret
   exact Gives.mk (by rw[HV.out];rfl)
  ·skip
   have HV:=lH (show orderOk x=true by rw[orderOk,c0,c1,if_neg k0,if_neg k1,if_neg k2,if_pos k3];rw[c2,c3];rfl)
   clear k0 k1 k2 k3
   go_enter Tryz.func194,Tryz.ntmps194
   go_wp2_with (first|(go_at_call 82;refine gm (c_sl01In) ?_;intro x))
   go_ret
   exact Gives.mk (by rw[HV.out];rfl)
 have b3:(x.Kind == 3)=false:=by simp[k3]
 cases c2:inB x.A 0 255
 ·have C:=lH c2
  have HV:=lH (show orderOk x=false by rw[orderOk,c0,c1,if_neg k0,if_neg k1,if_neg k2,if_neg k3];rw[c2];rfl)
  clear k0 k1 k2 k3
  go_enter Tryz.func194,Tryz.ntmps194
  go_wp2_with (first|(go_at_call 82;refine gm (c_sl01In) ?_;intro x))
  go_ret
  exact Gives.mk (by rw[HV.out];rfl)
 cases c3:(x.B == 0)
 ·skip
  have HV:=lH (show orderOk x=false by rw[orderOk,c0,c1,if_neg k0,if_neg k1,if_neg k2,if_neg k3];rw[c2,c3];rfl)
  clear k0 k1 k2 k3
  go_enter Tryz.func194,Tryz.ntmps194
  go_wp2_with (first|(go_at_call 82;refine gm (c_sl01In) ?_;intro x))
  go_ret
  exact Gives.mk (by rw[HV.out];rfl)
 ·skip
  have HV:=lH (show orderOk x=true by rw[orderOk,c0,c1,if_neg k0,if_neg k1,if_neg k2,if_neg k3];rw[c2,c3];rfl)
  clear k0 k1 k2 k3
  go_enter Tryz.func194,Tryz.ntmps194
  go_wp2_with (first|(go_at_call 82;refine gm (c_sl01In) ?_;intro x))
  go_ret
  exact Gives.mk (by rw[HV.out];rfl)
