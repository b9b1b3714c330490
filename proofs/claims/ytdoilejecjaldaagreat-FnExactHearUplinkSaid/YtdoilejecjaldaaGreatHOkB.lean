/- What valid boards, grounds and satellites are; contracts of what BoardOk calls, said for later worlds. No condition but on sizes. -/
import Derived.Test.YtdoilejecjaldaaGreatHM22
namespace Go.Proofs.YtdoilejecjaldaaGreat
set_option linter.unusedVariables false
open Go.ChangeShapes Go.WideShapes Go.ChangeAt Go.RowKit
def W6(x:V3):Bool:=inB x.Param 0 7 && (inB x.Low 0 65535 && inB x.High 0 65535)
def ac8(t:Int)(x:aa5):Bool:=inB x.Number 0 (t - 1) && (inB x.Time 0 1000000 && inB x.Result 0 1)
def aB9(t:Int)(x:B4):Bool:=!decide (t≤x.Id)
def ac1(s:ByteArray):Bool:=inB s.size 1 40
def N6:Nat→List D4→Bool
 | _,[]=>true
 | k,y::r=>(aw3 y && (y.File == (k:Int))) && N6 (k+1) r
def aA7(s:ByteArray)(k:Nat)(y:j7):Bool:=!decide (600<(s.size:Int)) && (R4 y && ((y.File == (k:Int)) && (y.Data.toList == s.toList)))
def M3(files:List ByteArray):Nat→List j7→Bool
 | _,[]=>true
 | k,y::r=>aA7 (files.getD k ByteArray.empty) k y && M3 files (k+1) r
def s9(b:D5):Bool:=inB b.Clock 0 1000000 && (((b.Params.length:Int) == 8) && (N1 0 65535 b.Params && (decide ((b.Limits.length:Int)≤8) && (b.Limits.all W6 && (inB b.Made 0 65535 && (inB b.Taken 0 65535 && (L3 b.Taken b.Orders && (decide ((b.Done.length:Int)≤5000) && (b.Done.all (ac8 b.Taken) && (L5 b.Recorder && (b.Recorder.Records.all (aB9 b.Made) && (decide ((b.Asked.length:Int)≤5000) && (N1 0 7 b.Asked)))))))))))))
theorem aQ8{b:D5}(h:inB b.Clock 0 1000000=false):s9 b=false:=by rw[s9,h];simp
theorem aQ9{b:D5}(h:((b.Params.length:Int) == 8)=false):s9 b=false:=by rw[s9,h];simp
theorem aR0{b:D5}(h:N1 0 65535 b.Params=false):s9 b=false:=by rw[s9,h];simp
theorem aR1{b:D5}(h:decide ((b.Limits.length:Int)≤8)=false):s9 b=false:=by rw[s9,h];simp
theorem al1{b:D5}(h:b.Limits.all W6=false):s9 b=false:=by rw[s9,h];simp
theorem aR2{b:D5}(h:inB b.Made 0 65535=false):s9 b=false:=by rw[s9,h];simp
theorem aR3{b:D5}(h:inB b.Taken 0 65535=false):s9 b=false:=by rw[s9,h];simp
theorem aR4{b:D5}(h:L3 b.Taken b.Orders=false):s9 b=false:=by rw[s9,h];simp
theorem aR5{b:D5}(h:decide ((b.Done.length:Int)≤5000)=false):s9 b=false:=by rw[s9,h];simp
theorem ai5{b:D5}(h:b.Done.all (ac8 b.Taken)=false):s9 b=false:=by rw[s9,h];simp
theorem aJ8{b:D5}(h:L5 b.Recorder=false):s9 b=false:=by rw[s9,h];simp
theorem aJ9{b:D5}(h:b.Recorder.Records.all (aB9 b.Made)=false):s9 b=false:=by rw[s9,h];simp
theorem aK0{b:D5}(h:decide ((b.Asked.length:Int)≤5000)=false):s9 b=false:=by rw[s9,h];simp
theorem aK1{b:D5}(h:N1 0 7 b.Asked=false):s9 b=false:=by rw[s9,h];simp
theorem aR6{b:D5}(h1:inB b.Clock 0 1000000=true)(h2:((b.Params.length:Int) == 8)=true)(h3:N1 0 65535 b.Params=true)(h4:decide ((b.Limits.length:Int)≤8)=true)(h5:b.Limits.all W6=true)(h6:inB b.Made 0 65535=true)(h7:inB b.Taken 0 65535=true)(h8:L3 b.Taken b.Orders=true)(h9:decide ((b.Done.length:Int)≤5000)=true)(h10:b.Done.all (ac8 b.Taken)=true)(h11:L5 b.Recorder=true)(h12:b.Recorder.Records.all (aB9 b.Made)=true)(h13:decide ((b.Asked.length:Int)≤5000)=true)(h14:N1 0 7 b.Asked=true):s9 b=true:=by rw[s9,h1,h2,h3,h4,h5,h6,h7,h8,h9,h10,h11,h12,h13,h14];rfl
def B5(b:I8):Bool:=Q7 b.Sender && (B8 b.Unpacker && (aj2 b.Pairs && ((b.Unpacker.Channel == 0) && (inB b.Notice.Expect 0 255 && (decide ((b.Offers.length:Int)≤200) && (R9 b.Records && (b.Offers.all ac1 && (((b.Files.length:Int) == 8) && (((b.Told.length:Int) == 8) && (N6 0 b.Files))))))))))
theorem aL8{b:I8}(h:Q7 b.Sender=false):B5 b=false:=by rw[B5,h];simp
theorem aL9{b:I8}(h:B8 b.Unpacker=false):B5 b=false:=by rw[B5,h];simp
theorem aM0{b:I8}(h:aj2 b.Pairs=false):B5 b=false:=by rw[B5,h];simp
theorem aM1{b:I8}(h:(b.Unpacker.Channel == 0)=false):B5 b=false:=by rw[B5,h];simp
theorem aM2{b:I8}(h:inB b.Notice.Expect 0 255=false):B5 b=false:=by rw[B5,h];simp
theorem aM3{b:I8}(h:decide ((b.Offers.length:Int)≤200)=false):B5 b=false:=by rw[B5,h];simp
theorem aM4{b:I8}(h:R9 b.Records=false):B5 b=false:=by rw[B5,h];simp
theorem aM5{b:I8}(h:b.Offers.all ac1=false):B5 b=false:=by rw[B5,h];simp
theorem aM6{b:I8}(h:((b.Files.length:Int) == 8)=false):B5 b=false:=by rw[B5,h];simp
theorem aG4{b:I8}(h:((b.Told.length:Int) == 8)=false):B5 b=false:=by rw[B5,h];simp
theorem ap3{b:I8}(h:N6 0 b.Files=false):B5 b=false:=by rw[B5,h];simp
theorem aM7{b:I8}(h1:Q7 b.Sender=true)(h2:B8 b.Unpacker=true)(h3:aj2 b.Pairs=true)(h4:(b.Unpacker.Channel == 0)=true)(h5:inB b.Notice.Expect 0 255=true)(h6:decide ((b.Offers.length:Int)≤200)=true)(h7:R9 b.Records=true)(h8:b.Offers.all ac1=true)(h9:((b.Files.length:Int) == 8)=true)(h10:((b.Told.length:Int) == 8)=true)(h11:N6 0 b.Files=true):B5 b=true:=by rw[B5,h1,h2,h3,h4,h5,h6,h7,h8,h9,h10,h11];rfl
def D7(b:M7):Bool:=A9 b.Receiver && (s9 b.Board && (ai1 b.Packer && ((b.Packer.Channel == 0) && (inB b.Seq 0 65535 && (inB b.Begun 0 b.Board.Asked.length && (R9 b.Sent && (((b.Files.length:Int) == 8) && (((b.Outs.length:Int) == 8) && (M3 b.Files 0 b.Outs)))))))))
theorem aT7{b:M7}(h:A9 b.Receiver=false):D7 b=false:=by rw[D7,h];simp
theorem aT8{b:M7}(h:s9 b.Board=false):D7 b=false:=by rw[D7,h];simp
theorem aT9{b:M7}(h:ai1 b.Packer=false):D7 b=false:=by rw[D7,h];simp
theorem aU0{b:M7}(h:(b.Packer.Channel == 0)=false):D7 b=false:=by rw[D7,h];simp
theorem aU1{b:M7}(h:inB b.Seq 0 65535=false):D7 b=false:=by rw[D7,h];simp
theorem aU2{b:M7}(h:inB b.Begun 0 b.Board.Asked.length=false):D7 b=false:=by rw[D7,h];simp
theorem aU3{b:M7}(h:R9 b.Sent=false):D7 b=false:=by rw[D7,h];simp
theorem aU4{b:M7}(h:((b.Files.length:Int) == 8)=false):D7 b=false:=by rw[D7,h];simp
theorem aU5{b:M7}(h:((b.Outs.length:Int) == 8)=false):D7 b=false:=by rw[D7,h];simp
theorem ac5{b:M7}(h:M3 b.Files 0 b.Outs=false):D7 b=false:=by rw[D7,h];simp
theorem aU6{b:M7}(h1:A9 b.Receiver=true)(h2:s9 b.Board=true)(h3:ai1 b.Packer=true)(h4:(b.Packer.Channel == 0)=true)(h5:inB b.Seq 0 65535=true)(h6:inB b.Begun 0 b.Board.Asked.length=true)(h7:R9 b.Sent=true)(h8:((b.Files.length:Int) == 8)=true)(h9:((b.Outs.length:Int) == 8)=true)(h10:M3 b.Files 0 b.Outs=true):D7 b=true:=by rw[D7,h1,h2,h3,h4,h5,h6,h7,h8,h9,h10];rfl
theorem ap2{b:D5}(h:inB b.Taken 0 65535=true):0≤b.Taken∧b.Taken≤65535:=D6.1 h
theorem aC1{B n n2:Nat}{a a2:Option Addr}{c c2:Nat}{rr:J0}{w0 w:World}(hs0:RdS B w0 a c rr.Records:=by exact sd)(hs20:RdS B w0 a2 c2 rr.Dropped:=by exact sd)[g:b8 B w0 w](hn:rr.Records.length=n:=by exact sd)(hn2:rr.Dropped.length=n2:=by exact sd)(hm:n≤100000000:=by exact sd)(hm2:n2≤100000000:=by exact sd) :
  Calls Tryz.prog 254 #[.agg #[.int .i64 rr.Room,.slice a n c,.slice a2 n2 c2]] w (b4 w (.bool (L5 rr))):=by
 subst hn;subst hn2;exact bg9 (hs0.to g) (hs20.to g) hm hm2
theorem as8{B n n2:Nat}{a a2:Option Addr}{c c2:Nat}{rr:J0}{w0 w:World}(hs0:RdS B w0 a c rr.Records:=by exact sd)(hs20:RdS B w0 a2 c2 rr.Dropped:=by exact sd)[g:b8 B w0 w](hn:rr.Records.length=n:=by exact sd)(hn2:rr.Dropped.length=n2:=by exact sd)(hm:n≤100000000:=by exact sd)(hm2:n2≤100000000:=by exact sd) :
  Calls Tryz.prog 243 #[.agg #[.int .i64 rr.Room,.slice a n c,.slice a2 n2 c2]] w (b4 w (.bool (L5 rr))):=by
 subst hn;subst hn2;exact bh0 (hs0.to g) (hs20.to g) hm hm2
theorem aG7{B n0 n1 n2 n3 n4 n5 n6:Nat}{a0 a1 a2 a3 a4 a5 a6:Option Addr}{c0 c1 c2 c3 c4 c5 c6:Nat}{bd:D5}{w0 w:World}(hq0:RdS B w0 a0 c0 bd.Params:=by exact sd)(hq1:RdS B w0 a1 c1 bd.Limits:=by exact sd)(hq2:RdS B w0 a2 c2 bd.Orders:=by exact sd)(hq3:RdS B w0 a3 c3 bd.Done:=by exact sd)(hq4:RdS B w0 a4 c4 bd.Recorder.Records:=by exact sd)(hq5:RdS B w0 a5 c5 bd.Recorder.Dropped:=by exact sd)(hq6:RdS B w0 a6 c6 bd.Asked:=by exact sd)[g:b8 B w0 w](ok:ar9 bd:=by exact sd)(hn0:bd.Params.length=n0:=by exact sd)(hn1:bd.Limits.length=n1:=by exact sd)(hn2:bd.Orders.length=n2:=by exact sd)(hn3:bd.Done.length=n3:=by exact sd)(hn4:bd.Recorder.Records.length=n4:=by exact sd)(hn5:bd.Recorder.Dropped.length=n5:=by exact sd)(hn6:bd.Asked.length=n6:=by exact sd)(hm0:n0≤100000000:=by exact sd)(hm1:n1≤100000000:=by exact sd)(hm2:n2≤100000000:=by exact sd)(hm3:n3≤100000000:=by exact sd)(hm4:n4≤100000000:=by exact sd)(hm5:n5≤100000000:=by exact sd)(hm6:n6≤100000000:=by exact sd)  (ht0:0≤bd.Taken:=by exact sd)(ht1:bd.Taken≤65535:=by exact sd) :
  Calls Tryz.prog 244 #[.agg #[.int .i64 bd.Clock,.slice a0 n0 c0,.bool bd.Safe,.slice a1 n1 c1,.slice a2 n2 c2,.slice a3 n3 c3,.int .i64 bd.Recorder.Room,.slice a4 n4 c4,.slice a5 n5 c5,.int .i64 bd.Made,.int .i64 bd.Taken,.slice a6 n6 c6]] w (b4 w (.bool (L3 bd.Taken bd.Orders))):=by
 subst hn0;subst hn1;subst hn2;subst hn3;subst hn4;subst hn5;subst hn6
 exact bo6 (A:=⟨a0,c0,a1,c1,a2,c2,a3,c3,a4,c4,a5,c5,a6,c6⟩) ⟨hq0,hq1,hq2,hq3,hq4,hq5,hq6,ok⟩ hm2 ht0 ht1
