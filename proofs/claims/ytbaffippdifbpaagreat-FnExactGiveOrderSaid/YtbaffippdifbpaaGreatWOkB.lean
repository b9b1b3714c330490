/- What valid boards, grounds and satellites are; contracts of what BoardOk calls, said for later worlds. No condition but on sizes. -/
import Derived.Test.YtbaffippdifbpaaGreatWM17
namespace Go.Proofs.YtbaffippdifbpaaGreat
set_option linter.unusedVariables false
open Go.ChangeShapes Go.WideShapes Go.ChangeAt Go.RowKit
def limitOk(x:TLimit):Bool:=inB x.Param 0 7 && (inB x.Low 0 65535 && inB x.High 0 65535)
def doneOk(t:Int)(x:TDone):Bool:=inB x.Number 0 (t - 1) && (inB x.Time 0 1000000 && inB x.Result 0 1)
def idOk(t:Int)(x:TRecord):Bool:=!decide (t≤x.Id)
def offerOk(s:ByteArray):Bool:=inB s.size 1 40
def filesFrom:Nat→List TFileIn→Bool
 | _,[]=>true
 | k,y::r=>(fileInOkT y && (y.File == (k:Int))) && filesFrom (k+1) r
def outOk(s:ByteArray)(k:Nat)(y:TFileOut):Bool:=!decide (600<(s.size:Int)) && (fileOutOkT y && ((y.File == (k:Int)) && (y.Data.toList == s.toList)))
def outsFrom(files:List ByteArray):Nat→List TFileOut→Bool
 | _,[]=>true
 | k,y::r=>outOk (files.getD k ByteArray.empty) k y && outsFrom files (k+1) r
def boardOk(b:TBoard):Bool:=inB b.Clock 0 1000000 && (((b.Params.length:Int) == 8) && (allB 0 65535 b.Params && (decide ((b.Limits.length:Int)≤8) && (b.Limits.all limitOk && (inB b.Made 0 65535 && (inB b.Taken 0 65535 && (ordersOk b.Taken b.Orders && (decide ((b.Done.length:Int)≤5000) && (b.Done.all (doneOk b.Taken) && (recorderOk b.Recorder && (b.Recorder.Records.all (idOk b.Made) && (decide ((b.Asked.length:Int)≤5000) && (allB 0 7 b.Asked)))))))))))))
theorem boardOk_no1{b:TBoard}(h:inB b.Clock 0 1000000=false):boardOk b=false:=by rw[boardOk,h];simp
theorem boardOk_no2{b:TBoard}(h:((b.Params.length:Int) == 8)=false):boardOk b=false:=by rw[boardOk,h];simp
theorem boardOk_no3{b:TBoard}(h:allB 0 65535 b.Params=false):boardOk b=false:=by rw[boardOk,h];simp
theorem boardOk_no4{b:TBoard}(h:decide ((b.Limits.length:Int)≤8)=false):boardOk b=false:=by rw[boardOk,h];simp
theorem boardOk_no5{b:TBoard}(h:b.Limits.all limitOk=false):boardOk b=false:=by rw[boardOk,h];simp
theorem boardOk_no6{b:TBoard}(h:inB b.Made 0 65535=false):boardOk b=false:=by rw[boardOk,h];simp
theorem boardOk_no7{b:TBoard}(h:inB b.Taken 0 65535=false):boardOk b=false:=by rw[boardOk,h];simp
theorem boardOk_no8{b:TBoard}(h:ordersOk b.Taken b.Orders=false):boardOk b=false:=by rw[boardOk,h];simp
theorem boardOk_no9{b:TBoard}(h:decide ((b.Done.length:Int)≤5000)=false):boardOk b=false:=by rw[boardOk,h];simp
theorem boardOk_no10{b:TBoard}(h:b.Done.all (doneOk b.Taken)=false):boardOk b=false:=by rw[boardOk,h];simp
theorem boardOk_no11{b:TBoard}(h:recorderOk b.Recorder=false):boardOk b=false:=by rw[boardOk,h];simp
theorem boardOk_no12{b:TBoard}(h:b.Recorder.Records.all (idOk b.Made)=false):boardOk b=false:=by rw[boardOk,h];simp
theorem boardOk_no13{b:TBoard}(h:decide ((b.Asked.length:Int)≤5000)=false):boardOk b=false:=by rw[boardOk,h];simp
theorem boardOk_no14{b:TBoard}(h:allB 0 7 b.Asked=false):boardOk b=false:=by rw[boardOk,h];simp
theorem boardOk_yes{b:TBoard}(h1:inB b.Clock 0 1000000=true)(h2:((b.Params.length:Int) == 8)=true)(h3:allB 0 65535 b.Params=true)(h4:decide ((b.Limits.length:Int)≤8)=true)(h5:b.Limits.all limitOk=true)(h6:inB b.Made 0 65535=true)(h7:inB b.Taken 0 65535=true)(h8:ordersOk b.Taken b.Orders=true)(h9:decide ((b.Done.length:Int)≤5000)=true)(h10:b.Done.all (doneOk b.Taken)=true)(h11:recorderOk b.Recorder=true)(h12:b.Recorder.Records.all (idOk b.Made)=true)(h13:decide ((b.Asked.length:Int)≤5000)=true)(h14:allB 0 7 b.Asked=true):boardOk b=true:=by rw[boardOk,h1,h2,h3,h4,h5,h6,h7,h8,h9,h10,h11,h12,h13,h14];rfl
def groundOk(b:TGround):Bool:=senderOk b.Sender && (unpackerOk b.Unpacker && (pairsOk b.Pairs && ((b.Unpacker.Channel == 0) && (inB b.Notice.Expect 0 255 && (decide ((b.Offers.length:Int)≤200) && (recordsOk b.Records && (b.Offers.all offerOk && (((b.Files.length:Int) == 8) && (((b.Told.length:Int) == 8) && (filesFrom 0 b.Files))))))))))
theorem groundOk_no1{b:TGround}(h:senderOk b.Sender=false):groundOk b=false:=by rw[groundOk,h];simp
theorem groundOk_no2{b:TGround}(h:unpackerOk b.Unpacker=false):groundOk b=false:=by rw[groundOk,h];simp
theorem groundOk_no3{b:TGround}(h:pairsOk b.Pairs=false):groundOk b=false:=by rw[groundOk,h];simp
theorem groundOk_no4{b:TGround}(h:(b.Unpacker.Channel == 0)=false):groundOk b=false:=by rw[groundOk,h];simp
theorem groundOk_no5{b:TGround}(h:inB b.Notice.Expect 0 255=false):groundOk b=false:=by rw[groundOk,h];simp
theorem groundOk_no6{b:TGround}(h:decide ((b.Offers.length:Int)≤200)=false):groundOk b=false:=by rw[groundOk,h];simp
theorem groundOk_no7{b:TGround}(h:recordsOk b.Records=false):groundOk b=false:=by rw[groundOk,h];simp
theorem groundOk_no8{b:TGround}(h:b.Offers.all offerOk=false):groundOk b=false:=by rw[groundOk,h];simp
theorem groundOk_no9{b:TGround}(h:((b.Files.length:Int) == 8)=false):groundOk b=false:=by rw[groundOk,h];simp
theorem groundOk_no10{b:TGround}(h:((b.Told.length:Int) == 8)=false):groundOk b=false:=by rw[groundOk,h];simp
theorem groundOk_no11{b:TGround}(h:filesFrom 0 b.Files=false):groundOk b=false:=by rw[groundOk,h];simp
theorem groundOk_yes{b:TGround}(h1:senderOk b.Sender=true)(h2:unpackerOk b.Unpacker=true)(h3:pairsOk b.Pairs=true)(h4:(b.Unpacker.Channel == 0)=true)(h5:inB b.Notice.Expect 0 255=true)(h6:decide ((b.Offers.length:Int)≤200)=true)(h7:recordsOk b.Records=true)(h8:b.Offers.all offerOk=true)(h9:((b.Files.length:Int) == 8)=true)(h10:((b.Told.length:Int) == 8)=true)(h11:filesFrom 0 b.Files=true):groundOk b=true:=by rw[groundOk,h1,h2,h3,h4,h5,h6,h7,h8,h9,h10,h11];rfl
def spaceOk(b:TSpace):Bool:=receiverOk b.Receiver && (boardOk b.Board && (packerOk b.Packer && ((b.Packer.Channel == 0) && (inB b.Seq 0 65535 && (inB b.Begun 0 b.Board.Asked.length && (recordsOk b.Sent && (((b.Files.length:Int) == 8) && (((b.Outs.length:Int) == 8) && (outsFrom b.Files 0 b.Outs)))))))))
theorem spaceOk_no1{b:TSpace}(h:receiverOk b.Receiver=false):spaceOk b=false:=by rw[spaceOk,h];simp
theorem spaceOk_no2{b:TSpace}(h:boardOk b.Board=false):spaceOk b=false:=by rw[spaceOk,h];simp
theorem spaceOk_no3{b:TSpace}(h:packerOk b.Packer=false):spaceOk b=false:=by rw[spaceOk,h];simp
theorem spaceOk_no4{b:TSpace}(h:(b.Packer.Channel == 0)=false):spaceOk b=false:=by rw[spaceOk,h];simp
theorem spaceOk_no5{b:TSpace}(h:inB b.Seq 0 65535=false):spaceOk b=false:=by rw[spaceOk,h];simp
theorem spaceOk_no6{b:TSpace}(h:inB b.Begun 0 b.Board.Asked.length=false):spaceOk b=false:=by rw[spaceOk,h];simp
theorem spaceOk_no7{b:TSpace}(h:recordsOk b.Sent=false):spaceOk b=false:=by rw[spaceOk,h];simp
theorem spaceOk_no8{b:TSpace}(h:((b.Files.length:Int) == 8)=false):spaceOk b=false:=by rw[spaceOk,h];simp
theorem spaceOk_no9{b:TSpace}(h:((b.Outs.length:Int) == 8)=false):spaceOk b=false:=by rw[spaceOk,h];simp
theorem spaceOk_no10{b:TSpace}(h:outsFrom b.Files 0 b.Outs=false):spaceOk b=false:=by rw[spaceOk,h];simp
theorem spaceOk_yes{b:TSpace}(h1:receiverOk b.Receiver=true)(h2:boardOk b.Board=true)(h3:packerOk b.Packer=true)(h4:(b.Packer.Channel == 0)=true)(h5:inB b.Seq 0 65535=true)(h6:inB b.Begun 0 b.Board.Asked.length=true)(h7:recordsOk b.Sent=true)(h8:((b.Files.length:Int) == 8)=true)(h9:((b.Outs.length:Int) == 8)=true)(h10:outsFrom b.Files 0 b.Outs=true):spaceOk b=true:=by rw[spaceOk,h1,h2,h3,h4,h5,h6,h7,h8,h9,h10];rfl
theorem boardOk_taken{b:TBoard}(h:inB b.Taken 0 65535=true):0≤b.Taken∧b.Taken≤65535:=inB_iff.1 h
theorem k_iRecorderOkN{B n n2:Nat}{a a2:Option Addr}{c c2:Nat}{rr:TRecorder}{w0 w:World}(hs0:RdS B w0 a c rr.Records:=by first|assumption|(apply Sl.to<;>first|assumption|infer_instance)|omega)(hs20:RdS B w0 a2 c2 rr.Dropped:=by first|assumption|(apply Sl.to<;>first|assumption|infer_instance)|omega)[g:Keeps B w0 w](hn:rr.Records.length=n:=by first|assumption|(apply Sl.to<;>first|assumption|infer_instance)|omega)(hn2:rr.Dropped.length=n2:=by first|assumption|(apply Sl.to<;>first|assumption|infer_instance)|omega)(hm:n≤100000000:=by first|assumption|(apply Sl.to<;>first|assumption|infer_instance)|omega)(hm2:n2≤100000000:=by first|assumption|(apply Sl.to<;>first|assumption|infer_instance)|omega) :
  Calls Tryz.prog 240 #[.agg #[.int .i64 rr.Room,.slice a n c,.slice a2 n2 c2]] w (Gives w (.bool (recorderOk rr))):=by
 subst hn;subst hn2;exact k_iRecorderOk (hs0.to g) (hs20.to g) hm hm2
theorem k_sRecorderOkN{B n n2:Nat}{a a2:Option Addr}{c c2:Nat}{rr:TRecorder}{w0 w:World}(hs0:RdS B w0 a c rr.Records:=by first|assumption|(apply Sl.to<;>first|assumption|infer_instance)|omega)(hs20:RdS B w0 a2 c2 rr.Dropped:=by first|assumption|(apply Sl.to<;>first|assumption|infer_instance)|omega)[g:Keeps B w0 w](hn:rr.Records.length=n:=by first|assumption|(apply Sl.to<;>first|assumption|infer_instance)|omega)(hn2:rr.Dropped.length=n2:=by first|assumption|(apply Sl.to<;>first|assumption|infer_instance)|omega)(hm:n≤100000000:=by first|assumption|(apply Sl.to<;>first|assumption|infer_instance)|omega)(hm2:n2≤100000000:=by first|assumption|(apply Sl.to<;>first|assumption|infer_instance)|omega) :
  Calls Tryz.prog 246 #[.agg #[.int .i64 rr.Room,.slice a n c,.slice a2 n2 c2]] w (Gives w (.bool (recorderOk rr))):=by
 subst hn;subst hn2;exact k_sRecorderOk (hs0.to g) (hs20.to g) hm hm2
theorem k_sl05OrdersN{B n0 n1 n2 n3 n4 n5 n6:Nat}{a0 a1 a2 a3 a4 a5 a6:Option Addr}{c0 c1 c2 c3 c4 c5 c6:Nat}{bd:TBoard}{w0 w:World}(hq0:RdS B w0 a0 c0 bd.Params:=by first|assumption|(apply Sl.to<;>first|assumption|infer_instance)|omega)(hq1:RdS B w0 a1 c1 bd.Limits:=by first|assumption|(apply Sl.to<;>first|assumption|infer_instance)|omega)(hq2:RdS B w0 a2 c2 bd.Orders:=by first|assumption|(apply Sl.to<;>first|assumption|infer_instance)|omega)(hq3:RdS B w0 a3 c3 bd.Done:=by first|assumption|(apply Sl.to<;>first|assumption|infer_instance)|omega)(hq4:RdS B w0 a4 c4 bd.Recorder.Records:=by first|assumption|(apply Sl.to<;>first|assumption|infer_instance)|omega)(hq5:RdS B w0 a5 c5 bd.Recorder.Dropped:=by first|assumption|(apply Sl.to<;>first|assumption|infer_instance)|omega)(hq6:RdS B w0 a6 c6 bd.Asked:=by first|assumption|(apply Sl.to<;>first|assumption|infer_instance)|omega)[g:Keeps B w0 w](ok:okDTBoard bd:=by first|assumption|(apply Sl.to<;>first|assumption|infer_instance)|omega)(hn0:bd.Params.length=n0:=by first|assumption|(apply Sl.to<;>first|assumption|infer_instance)|omega)(hn1:bd.Limits.length=n1:=by first|assumption|(apply Sl.to<;>first|assumption|infer_instance)|omega)(hn2:bd.Orders.length=n2:=by first|assumption|(apply Sl.to<;>first|assumption|infer_instance)|omega)(hn3:bd.Done.length=n3:=by first|assumption|(apply Sl.to<;>first|assumption|infer_instance)|omega)(hn4:bd.Recorder.Records.length=n4:=by first|assumption|(apply Sl.to<;>first|assumption|infer_instance)|omega)(hn5:bd.Recorder.Dropped.length=n5:=by first|assumption|(apply Sl.to<;>first|assumption|infer_instance)|omega)(hn6:bd.Asked.length=n6:=by first|assumption|(apply Sl.to<;>first|assumption|infer_instance)|omega)(hm0:n0≤100000000:=by first|assumption|(apply Sl.to<;>first|assumption|infer_instance)|omega)(hm1:n1≤100000000:=by first|assumption|(apply Sl.to<;>first|assumption|infer_instance)|omega)(hm2:n2≤100000000:=by first|assumption|(apply Sl.to<;>first|assumption|infer_instance)|omega)(hm3:n3≤100000000:=by first|assumption|(apply Sl.to<;>first|assumption|infer_instance)|omega)(hm4:n4≤100000000:=by first|assumption|(apply Sl.to<;>first|assumption|infer_instance)|omega)(hm5:n5≤100000000:=by first|assumption|(apply Sl.to<;>first|assumption|infer_instance)|omega)(hm6:n6≤100000000:=by first|assumption|(apply Sl.to<;>first|assumption|infer_instance)|omega)  (ht0:0≤bd.Taken:=by first|assumption|(apply Sl.to<;>first|assumption|infer_instance)|omega)(ht1:bd.Taken≤65535:=by first|assumption|(apply Sl.to<;>first|assumption|infer_instance)|omega) :
  Calls Tryz.prog 247 #[.agg #[.int .i64 bd.Clock,.slice a0 n0 c0,.bool bd.Safe,.slice a1 n1 c1,.slice a2 n2 c2,.slice a3 n3 c3,.int .i64 bd.Recorder.Room,.slice a4 n4 c4,.slice a5 n5 c5,.int .i64 bd.Made,.int .i64 bd.Taken,.slice a6 n6 c6]] w (Gives w (.bool (ordersOk bd.Taken bd.Orders))):=by
 subst hn0;subst hn1;subst hn2;subst hn3;subst hn4;subst hn5;subst hn6
 exact k_sl05Orders (A:=⟨a0,c0,a1,c1,a2,c2,a3,c3,a4,c4,a5,c5,a6,c6⟩) ⟨hq0,hq1,hq2,hq3,hq4,hq5,hq6,ok⟩ hm2 ht0 ht1
end Go.Proofs.YtbaffippdifbpaaGreat
