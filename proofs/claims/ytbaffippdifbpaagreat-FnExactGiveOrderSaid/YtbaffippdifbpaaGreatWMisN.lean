/- What a valid mission is; sizes of its parts. No condition but on sizes. -/
import Derived.Test.YtbaffippdifbpaaGreatWOkB
import Derived.Test.YtbaffippdifbpaaGreatWM13
namespace Go.Proofs.YtbaffippdifbpaaGreat
set_option linter.unusedVariables false
open Go.ChangeShapes Go.WideShapes Go.ChangeAt Go.RowKit
def missionOk(b:TMission):Bool:=inB b.Time 0 1000000 && (inB b.Light 0 50 && (inB b.Bad 0 1000000 && (driftOkT b.Drift && (orbitOkT b.Orbit && (channelOk b.Up && (channelOk b.Down && (decide ((b.Plan.length:Int)≤1500) && (flightsOk b.Ups && (flightsOk b.Downs && (groundOk b.Ground && (spaceOk b.Space && (decide ((b.Offered.length:Int)≤5000) && (decide ((b.Took.length:Int)≤5000))))))))))))))
theorem missionOk_no1{b:TMission}(h:inB b.Time 0 1000000=false):missionOk b=false:=by rw[missionOk,h];simp
theorem missionOk_no2{b:TMission}(h:inB b.Light 0 50=false):missionOk b=false:=by rw[missionOk,h];simp
theorem missionOk_no3{b:TMission}(h:inB b.Bad 0 1000000=false):missionOk b=false:=by rw[missionOk,h];simp
theorem missionOk_no4{b:TMission}(h:driftOkT b.Drift=false):missionOk b=false:=by rw[missionOk,h];simp
theorem missionOk_no5{b:TMission}(h:orbitOkT b.Orbit=false):missionOk b=false:=by rw[missionOk,h];simp
theorem missionOk_no6{b:TMission}(h:channelOk b.Up=false):missionOk b=false:=by rw[missionOk,h];simp
theorem missionOk_no7{b:TMission}(h:channelOk b.Down=false):missionOk b=false:=by rw[missionOk,h];simp
theorem missionOk_no8{b:TMission}(h:decide ((b.Plan.length:Int)≤1500)=false):missionOk b=false:=by rw[missionOk,h];simp
theorem missionOk_no9{b:TMission}(h:flightsOk b.Ups=false):missionOk b=false:=by rw[missionOk,h];simp
theorem missionOk_no10{b:TMission}(h:flightsOk b.Downs=false):missionOk b=false:=by rw[missionOk,h];simp
theorem missionOk_no11{b:TMission}(h:groundOk b.Ground=false):missionOk b=false:=by rw[missionOk,h];simp
theorem missionOk_no12{b:TMission}(h:spaceOk b.Space=false):missionOk b=false:=by rw[missionOk,h];simp
theorem missionOk_no13{b:TMission}(h:decide ((b.Offered.length:Int)≤5000)=false):missionOk b=false:=by rw[missionOk,h];simp
theorem missionOk_no14{b:TMission}(h:decide ((b.Took.length:Int)≤5000)=false):missionOk b=false:=by rw[missionOk,h];simp
theorem missionOk_yes{b:TMission}(h1:inB b.Time 0 1000000=true)(h2:inB b.Light 0 50=true)(h3:inB b.Bad 0 1000000=true)(h4:driftOkT b.Drift=true)(h5:orbitOkT b.Orbit=true)(h6:channelOk b.Up=true)(h7:channelOk b.Down=true)(h8:decide ((b.Plan.length:Int)≤1500)=true)(h9:flightsOk b.Ups=true)(h10:flightsOk b.Downs=true)(h11:groundOk b.Ground=true)(h12:spaceOk b.Space=true)(h13:decide ((b.Offered.length:Int)≤5000)=true)(h14:decide ((b.Took.length:Int)≤5000)=true):missionOk b=true:=by rw[missionOk,h1,h2,h3,h4,h5,h6,h7,h8,h9,h10,h11,h12,h13,h14];rfl
section
variable {P:Program} {ops:Array Oper} {rest:List Oper} {op:Oper} {a:Act} {w:World} {Q:Exit→Act→World→Prop}
theorem stepLoadW(hw:Region.wanted op (yielded ops a.tmps)=true)(ty:TypeId)(x:Operand)(ho:op.op=.load ty x)(b o:Nat)(hx:a.eval x=.pointer (some ⟨b,o,none⟩)){cs row:List Value}{T:TypeId}(H:Held w b cs T)
  (d:TypeDesc) (hu:P.underlying ty=some d) (hd:d.isRow=true) (hi:(P.info? ty).map (·.size)=some row.length) (hr:(cs.drop o).take row.length=row)
  (h:wpList P ops Q rest (a.put op.dst (.agg row.toArray)) w):wpList P ops Q (op::rest) a w :=
 BigFrame.wpList_want hw fun _ hK=>wp_load_mid ty x ho b o hx row d (H.range hr) hu hd hi (hK _ _ h)
end
structure MSmall(bd:TMission):Prop where
 m0:bd.Plan.length≤100000000
 m1:bd.Ups.length≤100000000
 m2:bd.Downs.length≤100000000
 m3:bd.Ground.Offers.length≤100000000
 m4:bd.Ground.Sender.Waiting.length≤100000000
 m5:bd.Ground.Pairs.length≤100000000
 m6:bd.Ground.Records.length≤100000000
 m7:bd.Ground.Files.length≤100000000
 m8:bd.Ground.Told.length≤100000000
 m9:bd.Space.Board.Params.length≤100000000
 m10:bd.Space.Board.Limits.length≤100000000
 m11:bd.Space.Board.Orders.length≤100000000
 m12:bd.Space.Board.Done.length≤100000000
 m13:bd.Space.Board.Recorder.Records.length≤100000000
 m14:bd.Space.Board.Recorder.Dropped.length≤100000000
 m15:bd.Space.Board.Asked.length≤100000000
 m16:bd.Space.Packer.Starts.length≤100000000
 m17:bd.Space.Files.length≤100000000
 m18:bd.Space.Outs.length≤100000000
 m19:bd.Space.Sent.length≤100000000
 m20:bd.Offered.length≤100000000
 m21:bd.Took.length≤100000000
 hxf:∀ y∈bd.Ground.Files,y.Parts.length≤100000000∧∀ s∈y.Parts,s.size≤100000000
 hzr:bd.Space.Packer.Rest.size≤100000000
 hxo:∀ y∈bd.Space.Outs,y.Queue.length≤100000000∧y.Data.size≤100000000
 hxs:∀ s∈bd.Space.Files,s.size≤100000000
theorem mission_small{m:TMission}(ht:Enc.tot m≤100000000):MSmall m:=by
 have h:=mbounds ht
 have hg:totL m.Ground.Offers+totL m.Ground.Sender.Waiting+(m.Ground.Unpacker.Rest.size:Int)+totL m.Ground.Pairs+totL m.Ground.Records+totL m.Ground.Files+totL m.Ground.Told≤100000000:=h.2.2.1
 have hsp:(totL m.Space.Board.Params+totL m.Space.Board.Limits+totL m.Space.Board.Orders+totL m.Space.Board.Done+(totL m.Space.Board.Recorder.Records+totL m.Space.Board.Recorder.Dropped)+totL m.Space.Board.Asked)+((m.Space.Packer.Rest.size:Int)+totL m.Space.Packer.Starts)+totL m.Space.Files+totL m.Space.Outs+totL m.Space.Sent≤100000000:=h.2.2.2.1
 have l0:=totL_len m.Plan
 have l1:=totL_len m.Ups
 have l2:=totL_len m.Downs
 have l3:=totL_len m.Ground.Offers
 have l4:=totL_len m.Ground.Sender.Waiting
 have l5:=totL_len m.Ground.Pairs
 have l6:=totL_len m.Ground.Records
 have l7:=totL_len m.Ground.Files
 have l8:=totL_len m.Ground.Told
 have l9:=totL_len m.Space.Board.Params
 have l10:=totL_len m.Space.Board.Limits
 have l11:=totL_len m.Space.Board.Orders
 have l12:=totL_len m.Space.Board.Done
 have l13:=totL_len m.Space.Board.Recorder.Records
 have l14:=totL_len m.Space.Board.Recorder.Dropped
 have l15:=totL_len m.Space.Board.Asked
 have l16:=totL_len m.Space.Packer.Starts
 have l17:=totL_len m.Space.Files
 have l18:=totL_len m.Space.Outs
 have l19:=totL_len m.Space.Sent
 have l20:=totL_len m.Offered
 have l21:=totL_len m.Took
 refine⟨by omega,by omega,by omega,by omega,by omega,by omega,by omega,by omega,by omega,by omega,by omega,by omega,by omega,by omega,by omega,by omega,by omega,by omega,by omega,by omega,by omega,by omega,fun y hy=>?_,by omega,fun y hy=>?_,fun s hs=>?_⟩
 ·have hx1:Enc.tot y≤totL m.Ground.Files:=totL_mem hy
  have hx2:totL y.Parts≤totL m.Ground.Files:=hx1
  have hx3:=totL_len y.Parts
  refine⟨by omega,fun s hs=>?_⟩
  have hs1:(s.size:Int)≤totL y.Parts:=totL_mem hs
  omega
 ·have hx1:Enc.tot y≤totL m.Space.Outs:=totL_mem hy
  have hx2:(y.Data.size:Int)+totL y.Queue≤totL m.Space.Outs:=hx1
  have hx3:=totL_len y.Queue
  exact⟨by omega,by omega⟩
 ·have hs1:(s.size:Int)≤totL m.Space.Files:=totL_mem hs
  omega
end Go.Proofs.YtbaffippdifbpaaGreat
