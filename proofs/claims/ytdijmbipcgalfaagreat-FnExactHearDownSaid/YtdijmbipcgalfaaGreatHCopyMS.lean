/- The contracts of functions that copy structs: the reference's, of a mission. No condition but on sizes. -/
import Derived.Test.YtdijmbipcgalfaaGreatHM29
import Derived.Test.YtdijmbipcgalfaaGreatHOne
namespace Go.Proofs.YtdijmbipcgalfaaGreat
set_option maxRecDepth 100000
set_option maxHeartbeats 16000000
set_option linter.unusedVariables false
open Go.ChangeShapes Go.WideShapes Go.ChangeAt Go.RowKit
private abbrev bE1:=Tryz.underlying30
private abbrev aZ0:=Tryz.underlying74
private abbrev aZ1:=Tryz.underlying86
theorem bj0{B:Nat}{vs:List Value}{x:f7}{w:World}(h:Enc.Rd B w vs x)(ht:Enc.tot x≤100000000) :
  Calls Tryz.prog 19 #[.agg vs.toArray] w (R3 w x):=by
 obtain⟨A,rfl,F⟩:=h
 have HT:=lH (show x.Plan.length≤100000000∧x.Ups.length≤100000000∧x.Downs.length≤100000000∧x.Offered.length≤100000000∧x.Took.length≤100000000∧x.Ground.Offers.length≤100000000∧Enc.tot x.Ground.Sender≤100000000∧x.Ground.Pairs.length≤100000000∧x.Ground.Records.length≤100000000∧x.Ground.Told.length≤100000000∧x.Ground.Files.length≤100000000∧Enc.tot x.Space.Board≤100000000∧Enc.tot x.Space.Packer≤100000000∧x.Space.Files.length≤100000000∧x.Space.Sent.length≤100000000∧x.Space.Outs.length≤100000000∧True from by
  have:=bP7 x
  refine⟨?_,?_,?_,?_,?_,?_,?_,?_,?_,?_,?_,?_,?_,?_,?_,?_,trivial⟩<;>omega)
 have HT0:=lH ht;clear ht
 have HFF:=lH F;clear F
 have HTN10:=lH (show d9 x.Ground.Files≤100000000 from by
  have:=bP7 x
  have:=HT0.out;omega)
 obtain⟨rows10,hrl,hrx,hrs,hre⟩:=HFF.out.q7.rows
 have HRL10:=lH hrl;have HRX10:=lH hrx;have HRS10:=lH hrs;have HRE10:=lH hre;clear hrl hrx hrs hre
 have HTN15:=lH (show d9 x.Space.Outs≤100000000 from by
  have:=bP7 x
  have:=HT0.out;omega)
 obtain⟨rows15,hrl,hrx,hrs,hre⟩:=HFF.out.q18.rows
 have HRL15:=lH hrl;have HRX15:=lH hrx;have HRS15:=lH hrs;have HRE15:=lH hre;clear hrl hrx hrs hre
 have S0:=lH ((j5.new w (s9 x A) 90 w.heap.size rfl).to (ii:b8 _ ((w.alloc (.cells (s9 x A).toArray 90)).alloc (.cells A3.toArray 90))))
 have R0:=lH ((j5.new (w.alloc (.cells (s9 x A).toArray 90)) A3 90 (w.heap.size+1) si).to (ii:b8 _ ((w.alloc (.cells (s9 x A).toArray 90)).alloc (.cells A3.toArray 90))))
 have H0:=lH (j5.new ((w.alloc (.cells (s9 x A).toArray 90)).alloc (.cells A3.toArray 90)) A3 90 (w.heap.size+2) si)
 go_enter Tryz.func19,Tryz.ntmps19
 go_wp2_with (first|((with_reducible refine rl ?_);refine rq ?_;intro x)|(refine al8 rfl _ _ rfl w.heap.size 0 rfl (row:=(s9 x A)) (S0.out.to ii) _ Tryz.underlying90 rfl kr kr ?_)|(refine sS rfl _ _ _ rfl (w.heap.size+2) 0 rfl (us:=(s9 x A)) (cs2:=(s9 x A)) (H0.out.to ii) rfl kr rfl nb kr (w0:=w) ii si ?_;intro z0 HH0 KQ0;have S1:=lH ((S0.out.to ii).but KQ0.out om);have R1:=lH ((R0.out.to ii).but KQ0.out om);clear KQ0 S0 R0 H0;have e0:LeN (w.heap.size+3) z0.w.heap.size:=⟨HH0.out.lt⟩)|(refine bQ7 rfl _ _ rfl w.heap.size 7 rfl (S1.out.to ii) _ rfl _ Tryz.underlying64 rfl ?_)|(at_builtin;refine aE (α:=ap8) z0.w (z:=.agg #[.int .i64 0,.int .i64 0]) 2 16 rfl (.tmp _) (.tmp _) rfl Tryz.underlying64 HFF.out.q0 HT.out.1 ii ?_;intro na0 nc0 y0 O0)|(refine sS rfl _ _ _ rfl (w.heap.size+2) 7 rfl (us:=[.slice na0 x.Plan.length nc0]) (cs2:=(D1 x na0 nc0 A.a1 A.c1 A.a2 A.c2 A.a3 A.c3 A.a4 A.c4 A.a5 A.c5 A.a6 A.c6 A.a7 A.c7 A.a8 A.c8 A.a9 A.c9 A.a10 A.c10 A.a11 A.c11 A.a12 A.c12 A.a13 A.c13 A.a14 A.c14 A.a15 A.c15 A.a16 A.c16 A.a17 A.c17 A.a18 A.c18 A.a19 A.c19 A.a20 A.c20 A.a21 A.c21)) (HH0.out.to ii) rfl kr rfl nb kr (w0:=w) ii si ?_;intro z1 HZ1 KQ1;have K1:=KQ1;have RZ1:=lH ((R1.out.to ii).but KQ1.out om);have SZ1:=lH ((S1.out.to ii).but KQ1.out om);clear KQ1;have e1:LeN (w.heap.size+3) z1.w.heap.size:=⟨HZ1.out.lt⟩;clear HH0 R1 S1)|(refine bQ7 rfl _ _ rfl w.heap.size 14 rfl (SZ1.out.to ii) _ rfl _ Tryz.underlying66 rfl ?_)|(at_builtin;refine aE (α:=k5) z1.w (z:=.agg #[.int .i64 0,.string ByteArray.empty]) 2 24 rfl (.tmp _) (.tmp _) rfl Tryz.underlying66 HFF.out.q1 HT.out.2.1 ii ?_;intro na1 nc1 y1 O1)|(refine sS rfl _ _ _ rfl (w.heap.size+2) 14 rfl (us:=[.slice na1 x.Ups.length nc1]) (cs2:=(D1 x na0 nc0 na1 nc1 A.a2 A.c2 A.a3 A.c3 A.a4 A.c4 A.a5 A.c5 A.a6 A.c6 A.a7 A.c7 A.a8 A.c8 A.a9 A.c9 A.a10 A.c10 A.a11 A.c11 A.a12 A.c12 A.a13 A.c13 A.a14 A.c14 A.a15 A.c15 A.a16 A.c16 A.a17 A.c17 A.a18 A.c18 A.a19 A.c19 A.a20 A.c20 A.a21 A.c21)) (HZ1.out.to ii) rfl kr rfl nb kr (w0:=w) ii si ?_;intro z2 HZ2 KQ2;have K2:=KQ2;have RZ2:=lH ((RZ1.out.to ii).but KQ2.out om);have SZ2:=lH ((SZ1.out.to ii).but KQ2.out om);clear KQ2;have e2:LeN (w.heap.size+3) z2.w.heap.size:=⟨HZ2.out.lt⟩;clear HZ1 RZ1 SZ1)|(refine bQ7 rfl _ _ rfl w.heap.size 15 rfl (SZ2.out.to ii) _ rfl _ Tryz.underlying66 rfl ?_)|(at_builtin;refine aE (α:=k5) z2.w (z:=.agg #[.int .i64 0,.string ByteArray.empty]) 2 24 rfl (.tmp _) (.tmp _) rfl Tryz.underlying66 HFF.out.q2 HT.out.2.2.1 ii ?_;intro na2 nc2 y2 O2)|(refine sS rfl _ _ _ rfl (w.heap.size+2) 15 rfl (us:=[.slice na2 x.Downs.length nc2]) (cs2:=(D1 x na0 nc0 na1 nc1 na2 nc2 A.a3 A.c3 A.a4 A.c4 A.a5 A.c5 A.a6 A.c6 A.a7 A.c7 A.a8 A.c8 A.a9 A.c9 A.a10 A.c10 A.a11 A.c11 A.a12 A.c12 A.a13 A.c13 A.a14 A.c14 A.a15 A.c15 A.a16 A.c16 A.a17 A.c17 A.a18 A.c18 A.a19 A.c19 A.a20 A.c20 A.a21 A.c21)) (HZ2.out.to ii) rfl kr rfl nb kr (w0:=w) ii si ?_;intro z3 HZ3 KQ3;have K3:=KQ3;have RZ3:=lH ((RZ2.out.to ii).but KQ3.out om);have SZ3:=lH ((SZ2.out.to ii).but KQ3.out om);clear KQ3;have e3:LeN (w.heap.size+3) z3.w.heap.size:=⟨HZ3.out.lt⟩;clear HZ2 RZ2 SZ2)|(refine bQ7 rfl _ _ rfl w.heap.size 58 rfl (SZ3.out.to ii) _ rfl _ bE1 rfl ?_)|(at_builtin;refine aE (α:=ByteArray) z3.w (z:=.string ByteArray.empty) 1 16 rfl (.tmp _) (.tmp _) rfl bE1 HFF.out.q20 HT.out.2.2.2.1 ii ?_;intro na20 nc20 y3 O3)|(refine sS rfl _ _ _ rfl (w.heap.size+2) 58 rfl (us:=[.slice na20 x.Offered.length nc20]) (cs2:=(D1 x na0 nc0 na1 nc1 na2 nc2 A.a3 A.c3 A.a4 A.c4 A.a5 A.c5 A.a6 A.c6 A.a7 A.c7 A.a8 A.c8 A.a9 A.c9 A.a10 A.c10 A.a11 A.c11 A.a12 A.c12 A.a13 A.c13 A.a14 A.c14 A.a15 A.c15 A.a16 A.c16 A.a17 A.c17 A.a18 A.c18 A.a19 A.c19 na20 nc20 A.a21 A.c21)) (HZ3.out.to ii) rfl kr rfl nb kr (w0:=w) ii si ?_;intro z4 HZ4 KQ4;have K4:=KQ4;have RZ4:=lH ((RZ3.out.to ii).but KQ4.out om);have SZ4:=lH ((SZ3.out.to ii).but KQ4.out om);clear KQ4;have e4:LeN (w.heap.size+3) z4.w.heap.size:=⟨HZ4.out.lt⟩;clear HZ3 RZ3 SZ3)|(refine bQ7 rfl _ _ rfl w.heap.size 59 rfl (SZ4.out.to ii) _ rfl _ bE1 rfl ?_)|(at_builtin;refine aE (α:=ByteArray) z4.w (z:=.string ByteArray.empty) 1 16 rfl (.tmp _) (.tmp _) rfl bE1 HFF.out.q21 HT.out.2.2.2.2.1 ii ?_;intro na21 nc21 y4 O4)|(refine sS rfl _ _ _ rfl (w.heap.size+2) 59 rfl (us:=[.slice na21 x.Took.length nc21]) (cs2:=(D1 x na0 nc0 na1 nc1 na2 nc2 A.a3 A.c3 A.a4 A.c4 A.a5 A.c5 A.a6 A.c6 A.a7 A.c7 A.a8 A.c8 A.a9 A.c9 A.a10 A.c10 A.a11 A.c11 A.a12 A.c12 A.a13 A.c13 A.a14 A.c14 A.a15 A.c15 A.a16 A.c16 A.a17 A.c17 A.a18 A.c18 A.a19 A.c19 na20 nc20 na21 nc21)) (HZ4.out.to ii) rfl kr rfl nb kr (w0:=w) ii si ?_;intro z5 HZ5 KQ5;have K5:=KQ5;have RZ5:=lH ((RZ4.out.to ii).but KQ5.out om);have SZ5:=lH ((SZ4.out.to ii).but KQ5.out om);clear KQ5;have e5:LeN (w.heap.size+3) z5.w.heap.size:=⟨HZ5.out.lt⟩;clear HZ4 RZ4 SZ4)|(refine bQ7 rfl _ _ rfl w.heap.size 16 rfl (SZ5.out.to ii) _ rfl _ bE1 rfl ?_)|(at_builtin;refine aE (α:=ByteArray) z5.w (z:=.string ByteArray.empty) 1 16 rfl (.tmp _) (.tmp _) rfl bE1 HFF.out.q3 HT.out.2.2.2.2.2.1 ii ?_;intro na3 nc3 y5 O5)|(refine sS rfl _ _ _ rfl (w.heap.size+2) 16 rfl (us:=[.slice na3 x.Ground.Offers.length nc3]) (cs2:=(D1 x na0 nc0 na1 nc1 na2 nc2 na3 nc3 A.a4 A.c4 A.a5 A.c5 A.a6 A.c6 A.a7 A.c7 A.a8 A.c8 A.a9 A.c9 A.a10 A.c10 A.a11 A.c11 A.a12 A.c12 A.a13 A.c13 A.a14 A.c14 A.a15 A.c15 A.a16 A.c16 A.a17 A.c17 A.a18 A.c18 A.a19 A.c19 na20 nc20 na21 nc21)) (HZ5.out.to ii) rfl kr rfl nb kr (w0:=w) ii si ?_;intro z6 HZ6 KQ6;have K6:=KQ6;have RZ6:=lH ((RZ5.out.to ii).but KQ6.out om);have SZ6:=lH ((SZ5.out.to ii).but KQ6.out om);clear KQ6;have e6:LeN (w.heap.size+3) z6.w.heap.size:=⟨HZ6.out.lt⟩;clear HZ5 RZ5 SZ5)|(refine al8 rfl _ _ rfl w.heap.size 17 rfl (row:=[.int .i64 x.Ground.Sender.Next,.int .i64 x.Ground.Sender.Window,.slice A.a4 x.Ground.Sender.Waiting.length A.c4,.int .i64 x.Ground.Sender.Done]) (SZ6.out.to ii) _ Tryz.underlying69 rfl kr kr ?_))
 refine(aP1 (x:=x.Ground.Sender) ⟨A.a4,A.c4,rfl,HFF.out.q4.keep ii,HFF.out.ok.2.2.2.2.2.2.1.1⟩ (HT.out.2.2.2.2.2.2.1)).mono ?_
 rintro _ _ ⟨_,ch6,rfl,⟨b6a0,b6c0,rfl,no6⟩,y6,rfl⟩
 have O6:=lH no6;clear no6
 go_wp2_with (first|((with_reducible refine rl ?_);refine rq ?_;intro x)|(refine sS rfl _ _ _ rfl (w.heap.size+2) 17 rfl (us:=[.int .i64 x.Ground.Sender.Next,.int .i64 x.Ground.Sender.Window,.slice b6a0 x.Ground.Sender.Waiting.length b6c0,.int .i64 x.Ground.Sender.Done]) (cs2:=(D1 x na0 nc0 na1 nc1 na2 nc2 na3 nc3 b6a0 b6c0 A.a5 A.c5 A.a6 A.c6 A.a7 A.c7 A.a8 A.c8 A.a9 A.c9 A.a10 A.c10 A.a11 A.c11 A.a12 A.c12 A.a13 A.c13 A.a14 A.c14 A.a15 A.c15 A.a16 A.c16 A.a17 A.c17 A.a18 A.c18 A.a19 A.c19 na20 nc20 na21 nc21)) (HZ6.out.to ii) rfl kr rfl nb kr (w0:=w) ii si ?_;intro z7 HZ7 KQ7;have K7:=KQ7;have RZ7:=lH ((RZ6.out.to ii).but KQ7.out om);have SZ7:=lH ((SZ6.out.to ii).but KQ7.out om);clear KQ7;have e7:LeN (w.heap.size+3) z7.w.heap.size:=⟨HZ7.out.lt⟩;clear HZ6 RZ6 SZ6)|(refine bQ7 rfl _ _ rfl w.heap.size 29 rfl (SZ7.out.to ii) _ rfl _ Tryz.underlying72 rfl ?_)|(at_builtin;refine aE (α:=X1) z7.w (z:=.agg #[.int .i64 0,.int .i64 0]) 2 16 rfl (.tmp _) (.tmp _) rfl Tryz.underlying72 HFF.out.q5 HT.out.2.2.2.2.2.2.2.1 ii ?_;intro na5 nc5 y7 O7)|(refine sS rfl _ _ _ rfl (w.heap.size+2) 29 rfl (us:=[.slice na5 x.Ground.Pairs.length nc5]) (cs2:=(D1 x na0 nc0 na1 nc1 na2 nc2 na3 nc3 b6a0 b6c0 na5 nc5 A.a6 A.c6 A.a7 A.c7 A.a8 A.c8 A.a9 A.c9 A.a10 A.c10 A.a11 A.c11 A.a12 A.c12 A.a13 A.c13 A.a14 A.c14 A.a15 A.c15 A.a16 A.c16 A.a17 A.c17 A.a18 A.c18 A.a19 A.c19 na20 nc20 na21 nc21)) (HZ7.out.to ii) rfl kr rfl nb kr (w0:=w) ii si ?_;intro z8 HZ8 KQ8;have K8:=KQ8;have RZ8:=lH ((RZ7.out.to ii).but KQ8.out om);have SZ8:=lH ((SZ7.out.to ii).but KQ8.out om);clear KQ8;have e8:LeN (w.heap.size+3) z8.w.heap.size:=⟨HZ8.out.lt⟩;clear HZ7 RZ7 SZ7)|(refine bQ7 rfl _ _ rfl w.heap.size 30 rfl (SZ8.out.to ii) _ rfl _ Tryz.underlying73 rfl ?_)|(at_builtin;refine aE (α:=s8) z8.w (z:=.agg #[.int .i64 0,.int .i64 0,.int .i64 0,.string ByteArray.empty]) 4 40 rfl (.tmp _) (.tmp _) rfl Tryz.underlying73 HFF.out.q6 HT.out.2.2.2.2.2.2.2.2.1 ii ?_;intro na6 nc6 y8 O8)|(refine sS rfl _ _ _ rfl (w.heap.size+2) 30 rfl (us:=[.slice na6 x.Ground.Records.length nc6]) (cs2:=(D1 x na0 nc0 na1 nc1 na2 nc2 na3 nc3 b6a0 b6c0 na5 nc5 na6 nc6 A.a7 A.c7 A.a8 A.c8 A.a9 A.c9 A.a10 A.c10 A.a11 A.c11 A.a12 A.c12 A.a13 A.c13 A.a14 A.c14 A.a15 A.c15 A.a16 A.c16 A.a17 A.c17 A.a18 A.c18 A.a19 A.c19 na20 nc20 na21 nc21)) (HZ8.out.to ii) rfl kr rfl nb kr (w0:=w) ii si ?_;intro z9 HZ9 KQ9;have K9:=KQ9;have RZ9:=lH ((RZ8.out.to ii).but KQ9.out om);have SZ9:=lH ((SZ8.out.to ii).but KQ9.out om);clear KQ9;have e9:LeN (w.heap.size+3) z9.w.heap.size:=⟨HZ9.out.lt⟩;clear HZ8 RZ8 SZ8)|(refine bQ7 rfl _ _ rfl w.heap.size 32 rfl (SZ9.out.to ii) _ rfl _ Tryz.underlying41 rfl ?_)|(at_builtin;refine aE (α:=Bool) z9.w (z:=.bool false) 1 1 rfl (.tmp _) (.tmp _) rfl Tryz.underlying41 HFF.out.q8 HT.out.2.2.2.2.2.2.2.2.2.1 ii ?_;intro na8 nc8 y9 O9)|(refine sS rfl _ _ _ rfl (w.heap.size+2) 32 rfl (us:=[.slice na8 x.Ground.Told.length nc8]) (cs2:=(D1 x na0 nc0 na1 nc1 na2 nc2 na3 nc3 b6a0 b6c0 na5 nc5 na6 nc6 A.a7 A.c7 na8 nc8 A.a9 A.c9 A.a10 A.c10 A.a11 A.c11 A.a12 A.c12 A.a13 A.c13 A.a14 A.c14 A.a15 A.c15 A.a16 A.c16 A.a17 A.c17 A.a18 A.c18 A.a19 A.c19 na20 nc20 na21 nc21)) (HZ9.out.to ii) rfl kr rfl nb kr (w0:=w) ii si ?_;intro z10 HZ10 KQ10;have K10:=KQ10;have RZ10:=lH ((RZ9.out.to ii).but KQ10.out om);have SZ10:=lH ((SZ9.out.to ii).but KQ10.out om);clear KQ10;have e10:LeN (w.heap.size+3) z10.w.heap.size:=⟨HZ10.out.lt⟩;clear HZ9 RZ9 SZ9)|(refine Q7 rfl _ _ _ rfl (w.heap.size+2) 31 rfl (us:=[.slice (some ⟨z10.w.heap.size,0,none⟩) 0 0]) (cs2:=[.int .i64 x.Time,.int .i64 x.Light,.int .i64 x.Drift.Rate,.int .i64 x.Drift.Offset,.int .i64 x.Orbit.Period,.int .i64 x.Orbit.Start,.int .i64 x.Orbit.Length,.slice na0 x.Plan.length nc0,.int .i64 x.Up.Seed,.int .i64 x.Up.Burst,.int .i64 x.Up.Loss,.int .i64 x.Down.Seed,.int .i64 x.Down.Burst,.int .i64 x.Down.Loss,.slice na1 x.Ups.length nc1,.slice na2 x.Downs.length nc2,.slice na3 x.Ground.Offers.length nc3,.int .i64 x.Ground.Sender.Next,.int .i64 x.Ground.Sender.Window,.slice b6a0 x.Ground.Sender.Waiting.length b6c0,.int .i64 x.Ground.Sender.Done,.int .i64 x.Ground.Notice.Expect,.bool x.Ground.Notice.Locked,.bool x.Ground.Notice.Again,.int .i64 x.Ground.Unpacker.Channel,.int .i64 x.Ground.Unpacker.Next,.bool x.Ground.Unpacker.Synced,.string x.Ground.Unpacker.Rest,.int .i64 x.Ground.Unpacker.Lost,.slice na5 x.Ground.Pairs.length nc5,.slice na6 x.Ground.Records.length nc6,.slice (some ⟨z10.w.heap.size,0,none⟩) 0 0,.slice na8 x.Ground.Told.length nc8,.int .i64 x.Space.Receiver.Expect,.bool x.Space.Receiver.Locked,.bool x.Space.Receiver.Again,.int .i64 x.Space.Receiver.Taken,.int .i64 x.Space.Board.Clock,.slice A.a9 x.Space.Board.Params.length A.c9,.bool x.Space.Board.Safe,.slice A.a10 x.Space.Board.Limits.length A.c10,.slice A.a11 x.Space.Board.Orders.length A.c11,.slice A.a12 x.Space.Board.Done.length A.c12,.int .i64 x.Space.Board.Recorder.Room,.slice A.a13 x.Space.Board.Recorder.Records.length A.c13,.slice A.a14 x.Space.Board.Recorder.Dropped.length A.c14,.int .i64 x.Space.Board.Made,.int .i64 x.Space.Board.Taken,.slice A.a15 x.Space.Board.Asked.length A.c15,.int .i64 x.Space.Packer.Channel,.int .i64 x.Space.Packer.Count,.string x.Space.Packer.Rest,.slice A.a16 x.Space.Packer.Starts.length A.c16,.int .i64 x.Space.Seq,.slice A.a17 x.Space.Files.length A.c17,.slice A.a18 x.Space.Outs.length A.c18,.int .i64 x.Space.Begun,.slice A.a19 x.Space.Sent.length A.c19,.slice na20 x.Offered.length nc20,.slice na21 x.Took.length nc21,.int .i64 x.Bad]) (HZ10.out.to ii) rfl kr rfl nb kr (w0:=w) ii si ?_;intro zq10 hq10 kq10;have HQZ10:=lH hq10;have KQ10:=lH (kq10.pre (ii:b8 z10.w (z10.w.alloc (.cells #[] 179))));have RQZ10:=lH ((RZ10.out.to ii).but kq10 om);have SQZ10:=lH ((SZ10.out.to ii).but kq10 om);have OQ10:=lH ((M3.empty (α:=A8) (Own.emptyAt (B:=z10.w.heap.size) ae1 nl rfl)).keep (kq10.keeps (by have:=e10.out;omega)));clear kq10 hq10 HZ10 RZ10 SZ10))
 go_loopw [4] (fun v wr=>∃ k:Nat,v=.int .i64 k∧k≤x.Ground.Files.length∧∃ (Z:b7 w) (χ:Nat→Col) (rows:List (N2 A8)) (na:Option Addr) (nc:Nat),wr=Z.w∧Hid (j5 Z.w (w.heap.size+2) (bz7 x na0 x.Plan.length nc0 na1 x.Ups.length nc1 na2 x.Downs.length nc2 na3 x.Ground.Offers.length nc3 b6a0 x.Ground.Sender.Waiting.length b6c0 na5 x.Ground.Pairs.length nc5 na6 x.Ground.Records.length nc6 na k nc na8 x.Ground.Told.length nc8 A.a9 x.Space.Board.Params.length A.c9 A.a10 x.Space.Board.Limits.length A.c10 A.a11 x.Space.Board.Orders.length A.c11 A.a12 x.Space.Board.Done.length A.c12 A.a13 x.Space.Board.Recorder.Records.length A.c13 A.a14 x.Space.Board.Recorder.Dropped.length A.c14 A.a15 x.Space.Board.Asked.length A.c15 A.a16 x.Space.Packer.Starts.length A.c16 A.a17 x.Space.Files.length A.c17 A.a18 x.Space.Outs.length A.c18 A.a19 x.Space.Sent.length A.c19 na20 x.Offered.length nc20 na21 x.Took.length nc21) 90)∧Hid (j5 Z.w (w.heap.size) (s9 x A) 90)∧Hid (j5 Z.w (w.heap.size+1) A3 90)∧Hid (But (w.heap.size+2) z10.w Z.w)∧Hid (M3 z10.w.heap.size χ 0 Z.w na nc rows)∧Hid (rows.map (·.x)=x.Ground.Files.take k)) (fun v _=>(x.Ground.Files.length - intOf v).toNat)
 case atStart=>exact⟨0,rfl,by omega,zq10,_,[],_,_,rfl,HQZ10.out,SQZ10.out,RQZ10.out,KQ10.out,OQ10.out,rfl⟩
 case round =>
  obtain⟨k,rfl,hk,z11,ch10,rows10_,na7,nc7,rfl,hB,hS,hR,hKB,hN,hX⟩:=hrel
  clear HQZ10 RQZ10 SQZ10 KQ10 OQ10
  have ez:LeN (w.heap.size+3) z11.w.heap.size:=⟨hB.out.lt⟩
  have ez7:LeN z10.w.heap.size z11.w.heap.size:=⟨hKB.out.size⟩
  by_cases h:k<x.Ground.Files.length
  ·have HLT:=lH h
   obtain⟨b1,off1,r,hb1,hb2,hd,e0_,e1_,e2_,e3_⟩:=HRS10.out.nFileIn (k:=k) (by rw[HRL10.out];exact h)
   clear e0_ e1_ e2_ e3_
   have hr0:rows10[k]?=some r:=by have:=congrArg (fun m=>m[0]?) hd.out;simpa using this
   have HR0:=lH hr0;have HG:=lH (HRE10.out k r hr0);have HB1:=lH hb1;have HTB:=lH (show Enc.tot r.x≤100000000 from by have:=af1 (l:=x.Ground.Files) (x:=r.x) (by rw[← HRX10.out];exact List.mem_map_of_mem (List.mem_of_getElem? hr0));have:=(HTN10.out);omega);have HLN:=lH (show rows10_.length=k from by have:=congrArg List.length hX.out;simp at this;omega)
   have HXN:=lH (show(rows10_.map (·.x))++[r.x]=x.Ground.Files.take (k+1)from by rw[hX.out,List.take_add_one];congr 1;rw[← HRX10.out,List.getElem?_map,hr0];rfl);clear hd hr0 hb1
   go_wp2_with (first|((with_reducible refine rl ?_);refine rq ?_;intro x)|(refine bQ7 rfl _ _ rfl w.heap.size 31 rfl (hS.out.to ii) _ rfl _ aZ0 rfl ?_))
   refine bv4 (fun _ _ _ _ _ h=>h) fun KK hPK hKK=>?_
   refine wp_region_held_drew (S:=fun W=>b8 w W∧j5 W w.heap.size (s9 x A) 90) kr ⟨ii,hS.out.to ii⟩ (fun hH=>?_)
   refine wpAnyH_take (i:=0) (v:=?vk0) rfl kr kr kr (fun _ _ _ h=>hPK.out _ _ _ _ _ h) (Or.inl ⟨by rfl,?yk0⟩) (by assumption) ?rk0
   case yk0=>intro w hSw;clear hSw;go_simp;(try with_reducible rfl)
   (try simp only[nrm])
   refine wpAnyH_take (i:=1) (v:=?vk1) rfl kr kr kr (fun _ _ _ h=>hPK.out _ _ _ _ _ h) (Or.inl ⟨by rfl,?yk1⟩) (by assumption) ?rk1
   case yk1=>intro w hSw;clear hSw;go_simp;(try with_reducible rfl)
   (try simp only[nrm])
   refine wpAnyH_take (i:=3) (v:=?vk3) rfl kr kr kr (fun _ _ _ h=>hPK.out _ _ _ _ _ h) (Or.inl ⟨by rfl,?yk3⟩) (by assumption) ?rk3
   case yk3=>intro w hSw;clear hSw;go_simp;(try with_reducible rfl)
   (try simp only[nrm])
   refine wpAnyH_take (i:=4) (v:=?vk4) rfl kr kr kr (fun _ _ _ h=>hPK.out _ _ _ _ _ h) (Or.inl ⟨by rfl,?yk4⟩) (by assumption) ?rk4
   case yk4=>intro w hSw;clear hSw;go_simp;(try with_reducible rfl)
   (try simp only[nrm])
   refine wpAnyH_take (i:=5) (v:=_) rfl kr kr kr (fun _ _ _ h=>hPK.out _ _ _ _ _ h) (ap3 (by rfl) _ _ rfl w.heap.size 31 kr (.slice (some ⟨b1,off1,none⟩) x.Ground.Files.length A.c7) _ (fun W hW=>(hW.2.cell 31).trans (congrArg (fun q=>some (Value.slice q x.Ground.Files.length A.c7)) HB1.out)) aZ0 rfl) (by assumption) ?_
   (try simp only[nrm])
   refine wpAnyH_take (i:=6) (v:=?vk6) rfl kr kr kr (fun _ _ _ h=>hPK.out _ _ _ _ _ h) (Or.inl ⟨by rfl,?yk6⟩) (by assumption) ?rk6
   case yk6=>intro w hSw;clear hSw;go_simp;(try with_reducible rfl)
   (try simp only[nrm])
   refine wpAnyH_take (i:=7) (v:=?vk7) rfl kr kr kr (fun _ _ _ h=>hPK.out _ _ _ _ _ h) (Or.inl ⟨by rfl,?yk7⟩) (by assumption) ?rk7
   case yk7=>intro w hSw;clear hSw;go_simp;(try with_reducible rfl)
   (try simp only[nrm])
   refine wpAnyH_take (i:=8) (v:=_) rfl kr kr kr (fun _ _ _ h=>hPK.out _ _ _ _ _ h) (yieldsIf_load_mid (by rfl) _ _ rfl b1 (off1+k*4) kr [.int .i64 r.x.File,.int .i64 r.x.Size,.int .i64 r.x.Check,.slice r.a r.x.Parts.length r.c] _ (fun W hW=>HRS10.out.rangeN HR0.out HB1.out rfl rfl W hW.1) Tryz.underlying179 rfl kr) (by assumption) ?_
   (try simp only[nrm])
   refine aH2 2 9 kr ?_ ?_
   ·refine at4 rfl kr _ _ rfl (w.heap.size+2) 31 kr (hB.out.to ii) _ rfl _ aZ0 rfl ⟨ii,hH.2.to ii⟩ ?_
    (try simp only[nrm])
    refine W4 9 kr (aP7 rfl kr (f:=97) rfl Tryz.func97 kr kr [.agg #[.int .i64 r.x.File,.int .i64 r.x.Size,.int .i64 r.x.Check,.slice r.a r.x.Parts.length r.c]] kr ((aP0 (x:=r.x) ⟨r.a,r.c,rfl,HG.out.2.keep ii,HG.out.1⟩ HTB.out).mono ?_))
    rintro _ _ ⟨_,χ2,rfl,⟨ra,rc,rfl,no⟩,y,rfl⟩
    refine⟨_,rfl,⟨ii,hH.2.to ii⟩,?_⟩
    (try simp only[nrm])
    refine W4 10 kr (aq4 rfl kr _ _ rfl (z:=.agg #[.int .i64 0,.int .i64 0,.int .i64 0,.slice none 0 0]) aZ0 kr (c0:=.int .i64 r.x.File) (c1:=.int .i64 r.x.Size) (c2:=.int .i64 r.x.Check) (c3:=.slice ra r.x.Parts.length rc) kr ⟨ii,hH.2.to ii⟩ ?_)
    (try simp only[nrm])
    refine W4 11 kr (ax7 (enc:=aa0 (α:=A8)) (w0:=w) (z:=.agg #[.int .i64 0,.int .i64 0,.int .i64 0,.slice none 0 0]) (size:=4) (bytes:=48) (n:=k) (B:=z10.w.heap.size) rfl kr ⟨r.x,ra,rc⟩ _ _ rfl aZ0 kr rfl de de kr kr HLN.out (hN.out.own.to ii) (S5 _ _ _ rfl) rfl (ar6 _) (by have:=HLT.out;have:=(HT.out.2.2.2.2.2.2.2.2.2.2.1);omega) LeN.out ii LeN.out ?_)
    intro sa sc xw hown hgr hblk
    have hNe:=hN.out.own.lowNe (n:=k) (c2:=nc7) (b:=w.heap.size) (by have:=e10.out;omega);have hNe1:=hN.out.own.lowNe (n:=k) (c2:=nc7) (b:=w.heap.size+1) (by have:=e10.out;omega);have hNe2:=hN.out.own.lowNe (n:=k) (c2:=nc7) (b:=w.heap.size+2) (by have:=e10.out;omega)
    have hB1:=L6 hgr (hB.out.to (ii:b8 _ (y.w.alloc (.cells #[.int .i64 r.x.File,.int .i64 r.x.Size,.int .i64 r.x.Check,.slice ra r.x.Parts.length rc] 179)))) hNe2
    have hS1:j5 xw.w (w.heap.size) (s9 x A) 90:=L6 hgr (hS.out.to (ii:b8 _ (y.w.alloc (.cells #[.int .i64 r.x.File,.int .i64 r.x.Size,.int .i64 r.x.Check,.slice ra r.x.Parts.length rc] 179)))) hNe
    have hR1:j5 xw.w (w.heap.size+1) A3 90:=L6 hgr (hR.out.to (ii:b8 _ (y.w.alloc (.cells #[.int .i64 r.x.File,.int .i64 r.x.Size,.int .i64 r.x.Check,.slice ra r.x.Parts.length rc] 179)))) hNe1
    have hH9:b8 w xw.w∧j5 xw.w w.heap.size (s9 x A) 90:=⟨ii,hS1⟩
    refine⟨hH9,?_⟩
    (try simp only[nrm])
    refine wpAnyH_take (i:=12) (v:=?vkx12) rfl kr kr kr (fun _ _ _ h=>hPK.out _ _ _ _ _ h) (Or.inl ⟨by rfl,?ykx12⟩) (by assumption) ?rkx12
    case ykx12=>intro w hSw;clear hSw;go_simp;(try with_reducible rfl)
    (try simp only[nrm])
    refine wpAnyH_take (i:=13) (v:=?vkx13) rfl kr kr kr (fun _ _ _ h=>hPK.out _ _ _ _ _ h) (Or.inl ⟨by rfl,?ykx13⟩) (by assumption) ?rkx13
    case ykx13=>intro w hSw;clear hSw;go_simp;(try with_reducible rfl)
    (try simp only[nrm])
    refine ab0 14 rfl kr kr kr _ _ _ rfl (w.heap.size+2) 31 kr hB1 (us:=[.slice sa (k+1) sc]) kr kr rfl nb rfl (w0:=w) ii om ?_
    intro z hz hgz
    have hB2:=lH hz;have hS2:=lH (hS1.at hgz om);have hR2:=lH (hR1.at hgz om)
    refine⟨⟨ii,hS2.out⟩,?_⟩
    (try simp only[nrm])
    refine hKK.out _ _ _ ?_
    clear hKK hPK hH
    have hK2:=lH ((((hKB.out.post (ii:b8 _ (y.w.alloc (.cells #[.int .i64 r.x.File,.int .i64 r.x.Size,.int .i64 r.x.Check,.slice ra r.x.Parts.length rc] 179))))).farO hgr (fun q hq=>(hN.out.own.blk q (by rw[I6]at hq;exact hq)).1)).here hgz)
    have hN2:=lH ((hN.out.grow (W1:=z11.w.drew) (W3:=(y.w.alloc (.cells #[.int .i64 r.x.File,.int .i64 r.x.Size,.int .i64 r.x.Check,.slice ra r.x.Parts.length rc] 179))) ii LeN.out no.o0 ii HG.out.1 ii hown (by rw[← I6 _ k nc7];exact hgr) hblk).keep (aG1 hgz (by have:=e10.out;omega)))
    have hX2:=lH (show(rows10_++[(⟨r.x,ra,rc⟩:N2 A8)]).map (fun q=>q.x)=x.Ground.Files.take (k+1)from by rw[List.map_append];exact HXN.out)
    clear hB hS hR hKB hN hX hz hgz hown hgr hblk no hB1 hS1 hR1 hNe hNe1 hNe2 hH9
    have hlb:=(HT.out.2.2.2.2.2.2.2.2.2.2.1)
    go_wp2_with (first|((with_reducible refine rl ?_);refine rq ?_;intro x))
    go_roundw
    case rel=>exact⟨k+1,by go_num,by have:=HLT.out;omega,z,_,_,_,_,rfl,hB2.out,hS2.out,hR2.out,hK2.out,hN2.out,hX2.out⟩
    case measure=>have:=HLT.out;simp[intOf];omega
   ·refine aP7 rfl kr (f:=97) rfl Tryz.func97 kr kr [.agg #[.int .i64 r.x.File,.int .i64 r.x.Size,.int .i64 r.x.Check,.slice r.a r.x.Parts.length r.c]] kr ((aP0 (x:=r.x) ⟨r.a,r.c,rfl,HG.out.2.keep ii,HG.out.1⟩ HTB.out).mono ?_)
    rintro _ _ ⟨_,χ2,rfl,⟨ra,rc,rfl,no⟩,y,rfl⟩
    refine⟨_,rfl,⟨ii,hH.2.to ii⟩,?_⟩
    (try simp only[nrm])
    refine aH2 2 10 kr ?_ ?_
    ·refine at4 rfl kr _ _ rfl (w.heap.size+2) 31 kr (hB.out.to ii) _ rfl _ aZ0 rfl ⟨ii,hH.2.to ii⟩ ?_
     (try simp only[nrm])
     refine W4 10 kr (aq4 rfl kr _ _ rfl (z:=.agg #[.int .i64 0,.int .i64 0,.int .i64 0,.slice none 0 0]) aZ0 kr (c0:=.int .i64 r.x.File) (c1:=.int .i64 r.x.Size) (c2:=.int .i64 r.x.Check) (c3:=.slice ra r.x.Parts.length rc) kr ⟨ii,hH.2.to ii⟩ ?_)
     (try simp only[nrm])
     refine W4 11 kr (ax7 (enc:=aa0 (α:=A8)) (w0:=w) (z:=.agg #[.int .i64 0,.int .i64 0,.int .i64 0,.slice none 0 0]) (size:=4) (bytes:=48) (n:=k) (B:=z10.w.heap.size) rfl kr ⟨r.x,ra,rc⟩ _ _ rfl aZ0 kr rfl de de kr kr HLN.out (hN.out.own.to ii) (S5 _ _ _ rfl) rfl (ar6 _) (by have:=HLT.out;have:=(HT.out.2.2.2.2.2.2.2.2.2.2.1);omega) LeN.out ii LeN.out ?_)
     intro sa sc xw hown hgr hblk
     have hNe:=hN.out.own.lowNe (n:=k) (c2:=nc7) (b:=w.heap.size) (by have:=e10.out;omega);have hNe1:=hN.out.own.lowNe (n:=k) (c2:=nc7) (b:=w.heap.size+1) (by have:=e10.out;omega);have hNe2:=hN.out.own.lowNe (n:=k) (c2:=nc7) (b:=w.heap.size+2) (by have:=e10.out;omega)
     have hB1:=L6 hgr (hB.out.to (ii:b8 _ (y.w.alloc (.cells #[.int .i64 r.x.File,.int .i64 r.x.Size,.int .i64 r.x.Check,.slice ra r.x.Parts.length rc] 179)))) hNe2
     have hS1:j5 xw.w (w.heap.size) (s9 x A) 90:=L6 hgr (hS.out.to (ii:b8 _ (y.w.alloc (.cells #[.int .i64 r.x.File,.int .i64 r.x.Size,.int .i64 r.x.Check,.slice ra r.x.Parts.length rc] 179)))) hNe
     have hR1:j5 xw.w (w.heap.size+1) A3 90:=L6 hgr (hR.out.to (ii:b8 _ (y.w.alloc (.cells #[.int .i64 r.x.File,.int .i64 r.x.Size,.int .i64 r.x.Check,.slice ra r.x.Parts.length rc] 179)))) hNe1
     have hH9:b8 w xw.w∧j5 xw.w w.heap.size (s9 x A) 90:=⟨ii,hS1⟩
     refine⟨hH9,?_⟩
     (try simp only[nrm])
     refine wpAnyH_take (i:=12) (v:=?vky12) rfl kr kr kr (fun _ _ _ h=>hPK.out _ _ _ _ _ h) (Or.inl ⟨by rfl,?yky12⟩) (by assumption) ?rky12
     case yky12=>intro w hSw;clear hSw;go_simp;(try with_reducible rfl)
     (try simp only[nrm])
     refine wpAnyH_take (i:=13) (v:=?vky13) rfl kr kr kr (fun _ _ _ h=>hPK.out _ _ _ _ _ h) (Or.inl ⟨by rfl,?yky13⟩) (by assumption) ?rky13
     case yky13=>intro w hSw;clear hSw;go_simp;(try with_reducible rfl)
     (try simp only[nrm])
     refine ab0 14 rfl kr kr kr _ _ _ rfl (w.heap.size+2) 31 kr hB1 (us:=[.slice sa (k+1) sc]) kr kr rfl nb rfl (w0:=w) ii om ?_
     intro z hz hgz
     have hB2:=lH hz;have hS2:=lH (hS1.at hgz om);have hR2:=lH (hR1.at hgz om)
     refine⟨⟨ii,hS2.out⟩,?_⟩
     (try simp only[nrm])
     refine hKK.out _ _ _ ?_
     clear hKK hPK hH
     have hK2:=lH ((((hKB.out.post (ii:b8 _ (y.w.alloc (.cells #[.int .i64 r.x.File,.int .i64 r.x.Size,.int .i64 r.x.Check,.slice ra r.x.Parts.length rc] 179))))).farO hgr (fun q hq=>(hN.out.own.blk q (by rw[I6]at hq;exact hq)).1)).here hgz)
     have hN2:=lH ((hN.out.grow (W1:=z11.w.drew) (W3:=(y.w.alloc (.cells #[.int .i64 r.x.File,.int .i64 r.x.Size,.int .i64 r.x.Check,.slice ra r.x.Parts.length rc] 179))) ii LeN.out no.o0 ii HG.out.1 ii hown (by rw[← I6 _ k nc7];exact hgr) hblk).keep (aG1 hgz (by have:=e10.out;omega)))
     have hX2:=lH (show(rows10_++[(⟨r.x,ra,rc⟩:N2 A8)]).map (fun q=>q.x)=x.Ground.Files.take (k+1)from by rw[List.map_append];exact HXN.out)
     clear hB hS hR hKB hN hX hz hgz hown hgr hblk no hB1 hS1 hR1 hNe hNe1 hNe2 hH9
     have hlb:=(HT.out.2.2.2.2.2.2.2.2.2.2.1)
     go_wp2_with (first|((with_reducible refine rl ?_);refine rq ?_;intro x))
     go_roundw
     case rel=>exact⟨k+1,by go_num,by have:=HLT.out;omega,z,_,_,_,_,rfl,hB2.out,hS2.out,hR2.out,hK2.out,hN2.out,hX2.out⟩
     case measure=>have:=HLT.out;simp[intOf];omega
    ·refine aq4 rfl kr _ _ rfl (z:=.agg #[.int .i64 0,.int .i64 0,.int .i64 0,.slice none 0 0]) aZ0 kr (c0:=.int .i64 r.x.File) (c1:=.int .i64 r.x.Size) (c2:=.int .i64 r.x.Check) (c3:=.slice ra r.x.Parts.length rc) kr ⟨ii,hH.2.to ii⟩ ?_
     (try simp only[nrm])
     refine W4 2 kr (at4 rfl kr _ _ rfl (w.heap.size+2) 31 kr (hB.out.to ii) _ rfl _ aZ0 rfl ⟨ii,hH.2.to ii⟩ ?_)
     (try simp only[nrm])
     refine W4 11 kr (ax7 (enc:=aa0 (α:=A8)) (w0:=w) (z:=.agg #[.int .i64 0,.int .i64 0,.int .i64 0,.slice none 0 0]) (size:=4) (bytes:=48) (n:=k) (B:=z10.w.heap.size) rfl kr ⟨r.x,ra,rc⟩ _ _ rfl aZ0 kr rfl de de kr kr HLN.out (hN.out.own.to ii) (S5 _ _ _ rfl) rfl (ar6 _) (by have:=HLT.out;have:=(HT.out.2.2.2.2.2.2.2.2.2.2.1);omega) LeN.out ii LeN.out ?_)
     intro sa sc xw hown hgr hblk
     have hNe:=hN.out.own.lowNe (n:=k) (c2:=nc7) (b:=w.heap.size) (by have:=e10.out;omega);have hNe1:=hN.out.own.lowNe (n:=k) (c2:=nc7) (b:=w.heap.size+1) (by have:=e10.out;omega);have hNe2:=hN.out.own.lowNe (n:=k) (c2:=nc7) (b:=w.heap.size+2) (by have:=e10.out;omega)
     have hB1:=L6 hgr (hB.out.to (ii:b8 _ (y.w.alloc (.cells #[.int .i64 r.x.File,.int .i64 r.x.Size,.int .i64 r.x.Check,.slice ra r.x.Parts.length rc] 179)))) hNe2
     have hS1:j5 xw.w (w.heap.size) (s9 x A) 90:=L6 hgr (hS.out.to (ii:b8 _ (y.w.alloc (.cells #[.int .i64 r.x.File,.int .i64 r.x.Size,.int .i64 r.x.Check,.slice ra r.x.Parts.length rc] 179)))) hNe
     have hR1:j5 xw.w (w.heap.size+1) A3 90:=L6 hgr (hR.out.to (ii:b8 _ (y.w.alloc (.cells #[.int .i64 r.x.File,.int .i64 r.x.Size,.int .i64 r.x.Check,.slice ra r.x.Parts.length rc] 179)))) hNe1
     have hH9:b8 w xw.w∧j5 xw.w w.heap.size (s9 x A) 90:=⟨ii,hS1⟩
     refine⟨hH9,?_⟩
     (try simp only[nrm])
     refine wpAnyH_take (i:=12) (v:=?vkz12) rfl kr kr kr (fun _ _ _ h=>hPK.out _ _ _ _ _ h) (Or.inl ⟨by rfl,?ykz12⟩) (by assumption) ?rkz12
     case ykz12=>intro w hSw;clear hSw;go_simp;(try with_reducible rfl)
     (try simp only[nrm])
     refine wpAnyH_take (i:=13) (v:=?vkz13) rfl kr kr kr (fun _ _ _ h=>hPK.out _ _ _ _ _ h) (Or.inl ⟨by rfl,?ykz13⟩) (by assumption) ?rkz13
     case ykz13=>intro w hSw;clear hSw;go_simp;(try with_reducible rfl)
     (try simp only[nrm])
     refine ab0 14 rfl kr kr kr _ _ _ rfl (w.heap.size+2) 31 kr hB1 (us:=[.slice sa (k+1) sc]) kr kr rfl nb rfl (w0:=w) ii om ?_
     intro z hz hgz
     have hB2:=lH hz;have hS2:=lH (hS1.at hgz om);have hR2:=lH (hR1.at hgz om)
     refine⟨⟨ii,hS2.out⟩,?_⟩
     (try simp only[nrm])
     refine hKK.out _ _ _ ?_
     clear hKK hPK hH
     have hK2:=lH ((((hKB.out.post (ii:b8 _ (y.w.alloc (.cells #[.int .i64 r.x.File,.int .i64 r.x.Size,.int .i64 r.x.Check,.slice ra r.x.Parts.length rc] 179))))).farO hgr (fun q hq=>(hN.out.own.blk q (by rw[I6]at hq;exact hq)).1)).here hgz)
     have hN2:=lH ((hN.out.grow (W1:=z11.w.drew) (W3:=(y.w.alloc (.cells #[.int .i64 r.x.File,.int .i64 r.x.Size,.int .i64 r.x.Check,.slice ra r.x.Parts.length rc] 179))) ii LeN.out no.o0 ii HG.out.1 ii hown (by rw[← I6 _ k nc7];exact hgr) hblk).keep (aG1 hgz (by have:=e10.out;omega)))
     have hX2:=lH (show(rows10_++[(⟨r.x,ra,rc⟩:N2 A8)]).map (fun q=>q.x)=x.Ground.Files.take (k+1)from by rw[List.map_append];exact HXN.out)
     clear hB hS hR hKB hN hX hz hgz hown hgr hblk no hB1 hS1 hR1 hNe hNe1 hNe2 hH9
     have hlb:=(HT.out.2.2.2.2.2.2.2.2.2.2.1)
     go_wp2_with (first|((with_reducible refine rl ?_);refine rq ?_;intro x))
     go_roundw
     case rel=>exact⟨k+1,by go_num,by have:=HLT.out;omega,z,_,_,_,_,rfl,hB2.out,hS2.out,hR2.out,hK2.out,hN2.out,hX2.out⟩
     case measure=>have:=HLT.out;simp[intOf];omega
  obtain rfl:k=x.Ground.Files.length:=by omega
  have K11:=lH hKB.out;have HZ11:=lH hB.out;have RZ11:=lH hR.out;have SZ11:=lH hS.out;have O10:=lH hN.out;have HRX_10:=lH (hX.out.trans List.take_length);clear hKB hB hR hS hN hX
  have e11:LeN (w.heap.size+3) z11.w.heap.size:=⟨HZ11.out.lt⟩
  go_wp2_with (first|((with_reducible refine rl ?_);refine rq ?_;intro x)|(refine bQ7 rfl _ _ rfl w.heap.size 31 rfl (SZ11.out.to ii) _ rfl _ aZ0 rfl ?_)|(refine al8 rfl _ _ rfl w.heap.size 37 rfl (row:=(S8 x.Space.Board A.a9 A.c9 A.a10 A.c10 A.a11 A.c11 A.a12 A.c12 A.a13 A.c13 A.a14 A.c14 A.a15 A.c15)) (SZ11.out.to ii) _ Tryz.underlying84 rfl kr kr ?_))
  refine(bB6 (x:=x.Space.Board) ⟨⟨A.a9,A.c9,A.a10,A.c10,A.a11,A.c11,A.a12,A.c12,A.a13,A.c13,A.a14,A.c14,A.a15,A.c15⟩,rfl,⟨HFF.out.q9.keep ii,HFF.out.q10.keep ii,HFF.out.q11.keep ii,HFF.out.q12.keep ii,HFF.out.q13.keep ii,HFF.out.q14.keep ii,HFF.out.q15.keep ii,HFF.out.ok.2.2.2.2.2.2.2.1.2.1⟩⟩ (HT.out.2.2.2.2.2.2.2.2.2.2.2.1)).mono ?_
  rintro _ _ ⟨_,ch11,rfl,⟨b11A,rfl,no11⟩,y11,rfl⟩
  have O11:=lH no11;clear no11
  go_wp2_with (first|((with_reducible refine rl ?_);refine rq ?_;intro x)|(refine sS rfl _ _ _ rfl (w.heap.size+2) 37 rfl (us:=(F8 x.Space.Board b11A)) (cs2:=(D1 x na0 nc0 na1 nc1 na2 nc2 na3 nc3 b6a0 b6c0 na5 nc5 na6 nc6 na7 nc7 na8 nc8 b11A.a0 b11A.c0 b11A.a1 b11A.c1 b11A.a2 b11A.c2 b11A.a3 b11A.c3 b11A.a4 b11A.c4 b11A.a5 b11A.c5 b11A.a6 b11A.c6 A.a16 A.c16 A.a17 A.c17 A.a18 A.c18 A.a19 A.c19 na20 nc20 na21 nc21)) (HZ11.out.to ii) rfl kr rfl nb kr (w0:=w) ii si ?_;intro z12 HZ12 KQ12;have K12:=KQ12;have RZ12:=lH ((RZ11.out.to ii).but KQ12.out om);have SZ12:=lH ((SZ11.out.to ii).but KQ12.out om);clear KQ12;have e12:LeN (w.heap.size+3) z12.w.heap.size:=⟨HZ12.out.lt⟩;clear HZ11 RZ11 SZ11)|(refine al8 rfl _ _ rfl w.heap.size 49 rfl (row:=[.int .i64 x.Space.Packer.Channel,.int .i64 x.Space.Packer.Count,.string x.Space.Packer.Rest,.slice A.a16 x.Space.Packer.Starts.length A.c16]) (SZ12.out.to ii) _ Tryz.underlying85 rfl kr kr ?_))
  refine(bs7 (x:=x.Space.Packer) ⟨A.a16,A.c16,rfl,HFF.out.q16.keep ii,HFF.out.ok.2.2.2.2.2.2.2.1.2.2.1⟩ (HT.out.2.2.2.2.2.2.2.2.2.2.2.2.1)).mono ?_
  rintro _ _ ⟨_,ch12,rfl,⟨b12a0,b12c0,rfl,no12⟩,y12,rfl⟩
  have O12:=lH no12;clear no12
  go_wp2_with (first|((with_reducible refine rl ?_);refine rq ?_;intro x)|(refine sS rfl _ _ _ rfl (w.heap.size+2) 49 rfl (us:=[.int .i64 x.Space.Packer.Channel,.int .i64 x.Space.Packer.Count,.string x.Space.Packer.Rest,.slice b12a0 x.Space.Packer.Starts.length b12c0]) (cs2:=(D1 x na0 nc0 na1 nc1 na2 nc2 na3 nc3 b6a0 b6c0 na5 nc5 na6 nc6 na7 nc7 na8 nc8 b11A.a0 b11A.c0 b11A.a1 b11A.c1 b11A.a2 b11A.c2 b11A.a3 b11A.c3 b11A.a4 b11A.c4 b11A.a5 b11A.c5 b11A.a6 b11A.c6 b12a0 b12c0 A.a17 A.c17 A.a18 A.c18 A.a19 A.c19 na20 nc20 na21 nc21)) (HZ12.out.to ii) rfl kr rfl nb kr (w0:=w) ii si ?_;intro z13 HZ13 KQ13;have K13:=KQ13;have RZ13:=lH ((RZ12.out.to ii).but KQ13.out om);have SZ13:=lH ((SZ12.out.to ii).but KQ13.out om);clear KQ13;have e13:LeN (w.heap.size+3) z13.w.heap.size:=⟨HZ13.out.lt⟩;clear HZ12 RZ12 SZ12)|(refine bQ7 rfl _ _ rfl w.heap.size 54 rfl (SZ13.out.to ii) _ rfl _ bE1 rfl ?_)|(at_builtin;refine aE (α:=ByteArray) z13.w (z:=.string ByteArray.empty) 1 16 rfl (.tmp _) (.tmp _) rfl bE1 HFF.out.q17 HT.out.2.2.2.2.2.2.2.2.2.2.2.2.2.1 ii ?_;intro na17 nc17 y13 O13)|(refine sS rfl _ _ _ rfl (w.heap.size+2) 54 rfl (us:=[.slice na17 x.Space.Files.length nc17]) (cs2:=(D1 x na0 nc0 na1 nc1 na2 nc2 na3 nc3 b6a0 b6c0 na5 nc5 na6 nc6 na7 nc7 na8 nc8 b11A.a0 b11A.c0 b11A.a1 b11A.c1 b11A.a2 b11A.c2 b11A.a3 b11A.c3 b11A.a4 b11A.c4 b11A.a5 b11A.c5 b11A.a6 b11A.c6 b12a0 b12c0 na17 nc17 A.a18 A.c18 A.a19 A.c19 na20 nc20 na21 nc21)) (HZ13.out.to ii) rfl kr rfl nb kr (w0:=w) ii si ?_;intro z14 HZ14 KQ14;have K14:=KQ14;have RZ14:=lH ((RZ13.out.to ii).but KQ14.out om);have SZ14:=lH ((SZ13.out.to ii).but KQ14.out om);clear KQ14;have e14:LeN (w.heap.size+3) z14.w.heap.size:=⟨HZ14.out.lt⟩;clear HZ13 RZ13 SZ13)|(refine bQ7 rfl _ _ rfl w.heap.size 57 rfl (SZ14.out.to ii) _ rfl _ Tryz.underlying73 rfl ?_)|(at_builtin;refine aE (α:=s8) z14.w (z:=.agg #[.int .i64 0,.int .i64 0,.int .i64 0,.string ByteArray.empty]) 4 40 rfl (.tmp _) (.tmp _) rfl Tryz.underlying73 HFF.out.q19 HT.out.2.2.2.2.2.2.2.2.2.2.2.2.2.2.1 ii ?_;intro na19 nc19 y14 O14)|(refine sS rfl _ _ _ rfl (w.heap.size+2) 57 rfl (us:=[.slice na19 x.Space.Sent.length nc19]) (cs2:=(D1 x na0 nc0 na1 nc1 na2 nc2 na3 nc3 b6a0 b6c0 na5 nc5 na6 nc6 na7 nc7 na8 nc8 b11A.a0 b11A.c0 b11A.a1 b11A.c1 b11A.a2 b11A.c2 b11A.a3 b11A.c3 b11A.a4 b11A.c4 b11A.a5 b11A.c5 b11A.a6 b11A.c6 b12a0 b12c0 na17 nc17 A.a18 A.c18 na19 nc19 na20 nc20 na21 nc21)) (HZ14.out.to ii) rfl kr rfl nb kr (w0:=w) ii si ?_;intro z15 HZ15 KQ15;have K15:=KQ15;have RZ15:=lH ((RZ14.out.to ii).but KQ15.out om);have SZ15:=lH ((SZ14.out.to ii).but KQ15.out om);clear KQ15;have e15:LeN (w.heap.size+3) z15.w.heap.size:=⟨HZ15.out.lt⟩;clear HZ14 RZ14 SZ14)|(refine Q7 rfl _ _ _ rfl (w.heap.size+2) 55 rfl (us:=[.slice (some ⟨z15.w.heap.size,0,none⟩) 0 0]) (cs2:=[.int .i64 x.Time,.int .i64 x.Light,.int .i64 x.Drift.Rate,.int .i64 x.Drift.Offset,.int .i64 x.Orbit.Period,.int .i64 x.Orbit.Start,.int .i64 x.Orbit.Length,.slice na0 x.Plan.length nc0,.int .i64 x.Up.Seed,.int .i64 x.Up.Burst,.int .i64 x.Up.Loss,.int .i64 x.Down.Seed,.int .i64 x.Down.Burst,.int .i64 x.Down.Loss,.slice na1 x.Ups.length nc1,.slice na2 x.Downs.length nc2,.slice na3 x.Ground.Offers.length nc3,.int .i64 x.Ground.Sender.Next,.int .i64 x.Ground.Sender.Window,.slice b6a0 x.Ground.Sender.Waiting.length b6c0,.int .i64 x.Ground.Sender.Done,.int .i64 x.Ground.Notice.Expect,.bool x.Ground.Notice.Locked,.bool x.Ground.Notice.Again,.int .i64 x.Ground.Unpacker.Channel,.int .i64 x.Ground.Unpacker.Next,.bool x.Ground.Unpacker.Synced,.string x.Ground.Unpacker.Rest,.int .i64 x.Ground.Unpacker.Lost,.slice na5 x.Ground.Pairs.length nc5,.slice na6 x.Ground.Records.length nc6,.slice na7 x.Ground.Files.length nc7,.slice na8 x.Ground.Told.length nc8,.int .i64 x.Space.Receiver.Expect,.bool x.Space.Receiver.Locked,.bool x.Space.Receiver.Again,.int .i64 x.Space.Receiver.Taken,.int .i64 x.Space.Board.Clock,.slice b11A.a0 x.Space.Board.Params.length b11A.c0,.bool x.Space.Board.Safe,.slice b11A.a1 x.Space.Board.Limits.length b11A.c1,.slice b11A.a2 x.Space.Board.Orders.length b11A.c2,.slice b11A.a3 x.Space.Board.Done.length b11A.c3,.int .i64 x.Space.Board.Recorder.Room,.slice b11A.a4 x.Space.Board.Recorder.Records.length b11A.c4,.slice b11A.a5 x.Space.Board.Recorder.Dropped.length b11A.c5,.int .i64 x.Space.Board.Made,.int .i64 x.Space.Board.Taken,.slice b11A.a6 x.Space.Board.Asked.length b11A.c6,.int .i64 x.Space.Packer.Channel,.int .i64 x.Space.Packer.Count,.string x.Space.Packer.Rest,.slice b12a0 x.Space.Packer.Starts.length b12c0,.int .i64 x.Space.Seq,.slice na17 x.Space.Files.length nc17,.slice (some ⟨z15.w.heap.size,0,none⟩) 0 0,.int .i64 x.Space.Begun,.slice na19 x.Space.Sent.length nc19,.slice na20 x.Offered.length nc20,.slice na21 x.Took.length nc21,.int .i64 x.Bad]) (HZ15.out.to ii) rfl kr rfl nb kr (w0:=w) ii si ?_;intro zq15 hq15 kq15;have HQZ15:=lH hq15;have KQ15:=lH (kq15.pre (ii:b8 z15.w (z15.w.alloc (.cells #[] 183))));have RQZ15:=lH ((RZ15.out.to ii).but kq15 om);have SQZ15:=lH ((SZ15.out.to ii).but kq15 om);have OQ15:=lH ((M3.empty (α:=s7) (Own.emptyAt (B:=z15.w.heap.size) ae1 nl rfl)).keep (kq15.keeps (by have:=e15.out;omega)));clear kq15 hq15 HZ15 RZ15 SZ15))
  go_loopw [5] (fun v wr=>∃ k:Nat,v=.int .i64 k∧k≤x.Space.Outs.length∧∃ (Z:b7 w) (χ:Nat→Col) (rows:List (N2 s7)) (na:Option Addr) (nc:Nat),wr=Z.w∧Hid (j5 Z.w (w.heap.size+2) (bz7 x na0 x.Plan.length nc0 na1 x.Ups.length nc1 na2 x.Downs.length nc2 na3 x.Ground.Offers.length nc3 b6a0 x.Ground.Sender.Waiting.length b6c0 na5 x.Ground.Pairs.length nc5 na6 x.Ground.Records.length nc6 na7 x.Ground.Files.length nc7 na8 x.Ground.Told.length nc8 b11A.a0 x.Space.Board.Params.length b11A.c0 b11A.a1 x.Space.Board.Limits.length b11A.c1 b11A.a2 x.Space.Board.Orders.length b11A.c2 b11A.a3 x.Space.Board.Done.length b11A.c3 b11A.a4 x.Space.Board.Recorder.Records.length b11A.c4 b11A.a5 x.Space.Board.Recorder.Dropped.length b11A.c5 b11A.a6 x.Space.Board.Asked.length b11A.c6 b12a0 x.Space.Packer.Starts.length b12c0 na17 x.Space.Files.length nc17 na k nc na19 x.Space.Sent.length nc19 na20 x.Offered.length nc20 na21 x.Took.length nc21) 90)∧Hid (j5 Z.w (w.heap.size) (s9 x A) 90)∧Hid (j5 Z.w (w.heap.size+1) A3 90)∧Hid (But (w.heap.size+2) z15.w Z.w)∧Hid (M3 z15.w.heap.size χ 0 Z.w na nc rows)∧Hid (rows.map (·.x)=x.Space.Outs.take k)) (fun v _=>(x.Space.Outs.length - intOf v).toNat)
  case atStart=>exact⟨0,rfl,by omega,zq15,_,[],_,_,rfl,HQZ15.out,SQZ15.out,RQZ15.out,KQ15.out,OQ15.out,rfl⟩
  case round =>
   obtain⟨k,rfl,hk,z16,ch15,rows15_,na18,nc18,rfl,hB,hS,hR,hKB,hN,hX⟩:=hrel
   clear HQZ15 RQZ15 SQZ15 KQ15 OQ15
   have ez:LeN (w.heap.size+3) z16.w.heap.size:=⟨hB.out.lt⟩
   have ez7:LeN z15.w.heap.size z16.w.heap.size:=⟨hKB.out.size⟩
   by_cases h:k<x.Space.Outs.length
   ·have HLT:=lH h
    obtain⟨b1,off1,r,hb1,hb2,hd,e0_,e1_,e2_,e3_⟩:=HRS15.out.nFileOut (k:=k) (by rw[HRL15.out];exact h)
    clear e0_ e1_ e2_ e3_
    have hr0:rows15[k]?=some r:=by have:=congrArg (fun m=>m[0]?) hd.out;simpa using this
    have HR0:=lH hr0;have HG:=lH (HRE15.out k r hr0);have HB1:=lH hb1;have HTB:=lH (show Enc.tot r.x≤100000000 from by have:=af1 (l:=x.Space.Outs) (x:=r.x) (by rw[← HRX15.out];exact List.mem_map_of_mem (List.mem_of_getElem? hr0));have:=(HTN15.out);omega);have HLN:=lH (show rows15_.length=k from by have:=congrArg List.length hX.out;simp at this;omega)
    have HXN:=lH (show(rows15_.map (·.x))++[r.x]=x.Space.Outs.take (k+1)from by rw[hX.out,List.take_add_one];congr 1;rw[← HRX15.out,List.getElem?_map,hr0];rfl);clear hd hr0 hb1
    go_wp2_with (first|((with_reducible refine rl ?_);refine rq ?_;intro x)|(refine bQ7 rfl _ _ rfl w.heap.size 55 rfl (hS.out.to ii) _ rfl _ aZ1 rfl ?_))
    refine bv4 (fun _ _ _ _ _ h=>h) fun KK hPK hKK=>?_
    refine wp_region_held_drew (S:=fun W=>b8 w W∧j5 W w.heap.size (s9 x A) 90) kr ⟨ii,hS.out.to ii⟩ (fun hH=>?_)
    refine wpAnyH_take (i:=0) (v:=?vp0) rfl kr kr kr (fun _ _ _ h=>hPK.out _ _ _ _ _ h) (Or.inl ⟨by rfl,?yp0⟩) (by assumption) ?rp0
    case yp0=>intro w hSw;clear hSw;go_simp;(try with_reducible rfl)
    (try simp only[nrm])
    refine wpAnyH_take (i:=1) (v:=?vp1) rfl kr kr kr (fun _ _ _ h=>hPK.out _ _ _ _ _ h) (Or.inl ⟨by rfl,?yp1⟩) (by assumption) ?rp1
    case yp1=>intro w hSw;clear hSw;go_simp;(try with_reducible rfl)
    (try simp only[nrm])
    refine wpAnyH_take (i:=3) (v:=?vp3) rfl kr kr kr (fun _ _ _ h=>hPK.out _ _ _ _ _ h) (Or.inl ⟨by rfl,?yp3⟩) (by assumption) ?rp3
    case yp3=>intro w hSw;clear hSw;go_simp;(try with_reducible rfl)
    (try simp only[nrm])
    refine wpAnyH_take (i:=4) (v:=?vp4) rfl kr kr kr (fun _ _ _ h=>hPK.out _ _ _ _ _ h) (Or.inl ⟨by rfl,?yp4⟩) (by assumption) ?rp4
    case yp4=>intro w hSw;clear hSw;go_simp;(try with_reducible rfl)
    (try simp only[nrm])
    refine wpAnyH_take (i:=5) (v:=_) rfl kr kr kr (fun _ _ _ h=>hPK.out _ _ _ _ _ h) (ap3 (by rfl) _ _ rfl w.heap.size 55 kr (.slice (some ⟨b1,off1,none⟩) x.Space.Outs.length A.c18) _ (fun W hW=>(hW.2.cell 55).trans (congrArg (fun q=>some (Value.slice q x.Space.Outs.length A.c18)) HB1.out)) aZ1 rfl) (by assumption) ?_
    (try simp only[nrm])
    refine wpAnyH_take (i:=6) (v:=?vp6) rfl kr kr kr (fun _ _ _ h=>hPK.out _ _ _ _ _ h) (Or.inl ⟨by rfl,?yp6⟩) (by assumption) ?rp6
    case yp6=>intro w hSw;clear hSw;go_simp;(try with_reducible rfl)
    (try simp only[nrm])
    refine wpAnyH_take (i:=7) (v:=?vp7) rfl kr kr kr (fun _ _ _ h=>hPK.out _ _ _ _ _ h) (Or.inl ⟨by rfl,?yp7⟩) (by assumption) ?rp7
    case yp7=>intro w hSw;clear hSw;go_simp;(try with_reducible rfl)
    (try simp only[nrm])
    refine wpAnyH_take (i:=8) (v:=_) rfl kr kr kr (fun _ _ _ h=>hPK.out _ _ _ _ _ h) (yieldsIf_load_mid (by rfl) _ _ rfl b1 (off1+k*4) kr [.int .i64 r.x.File,.string r.x.Data,.slice r.a r.x.Queue.length r.c,.bool r.x.Done] _ (fun W hW=>HRS15.out.rangeN HR0.out HB1.out rfl rfl W hW.1) Tryz.underlying183 rfl kr) (by assumption) ?_
    (try simp only[nrm])
    refine aH2 2 9 kr ?_ ?_
    ·refine at4 rfl kr _ _ rfl (w.heap.size+2) 55 kr (hB.out.to ii) _ rfl _ aZ1 rfl ⟨ii,hH.2.to ii⟩ ?_
     (try simp only[nrm])
     refine W4 9 kr (aP7 rfl kr (f:=100) rfl Tryz.func100 kr kr [.agg #[.int .i64 r.x.File,.string r.x.Data,.slice r.a r.x.Queue.length r.c,.bool r.x.Done]] kr ((aJ6 (x:=r.x) ⟨r.a,r.c,rfl,HG.out.2.keep ii,HG.out.1⟩ HTB.out).mono ?_))
     rintro _ _ ⟨_,χ2,rfl,⟨ra,rc,rfl,no⟩,y,rfl⟩
     refine⟨_,rfl,⟨ii,hH.2.to ii⟩,?_⟩
     (try simp only[nrm])
     refine W4 10 kr (aq4 rfl kr _ _ rfl (z:=.agg #[.int .i64 0,.string ⟨#[]⟩,.slice none 0 0,.bool false]) aZ1 kr (c0:=.int .i64 r.x.File) (c1:=.string r.x.Data) (c2:=.slice ra r.x.Queue.length rc) (c3:=.bool r.x.Done) kr ⟨ii,hH.2.to ii⟩ ?_)
     (try simp only[nrm])
     refine W4 11 kr (ax7 (enc:=aa0 (α:=s7)) (w0:=w) (z:=.agg #[.int .i64 0,.string ⟨#[]⟩,.slice none 0 0,.bool false]) (size:=4) (bytes:=56) (n:=k) (B:=z15.w.heap.size) rfl kr ⟨r.x,ra,rc⟩ _ _ rfl aZ1 kr rfl de de kr kr HLN.out (hN.out.own.to ii) (S5 _ _ _ rfl) rfl (ar6 _) (by have:=HLT.out;have:=(HT.out.2.2.2.2.2.2.2.2.2.2.2.2.2.2.2.1);omega) LeN.out ii LeN.out ?_)
     intro sa sc xw hown hgr hblk
     have hNe:=hN.out.own.lowNe (n:=k) (c2:=nc18) (b:=w.heap.size) (by have:=e15.out;omega);have hNe1:=hN.out.own.lowNe (n:=k) (c2:=nc18) (b:=w.heap.size+1) (by have:=e15.out;omega);have hNe2:=hN.out.own.lowNe (n:=k) (c2:=nc18) (b:=w.heap.size+2) (by have:=e15.out;omega)
     have hB1:=L6 hgr (hB.out.to (ii:b8 _ (y.w.alloc (.cells #[.int .i64 r.x.File,.string r.x.Data,.slice ra r.x.Queue.length rc,.bool r.x.Done] 183)))) hNe2
     have hS1:j5 xw.w (w.heap.size) (s9 x A) 90:=L6 hgr (hS.out.to (ii:b8 _ (y.w.alloc (.cells #[.int .i64 r.x.File,.string r.x.Data,.slice ra r.x.Queue.length rc,.bool r.x.Done] 183)))) hNe
     have hR1:j5 xw.w (w.heap.size+1) A3 90:=L6 hgr (hR.out.to (ii:b8 _ (y.w.alloc (.cells #[.int .i64 r.x.File,.string r.x.Data,.slice ra r.x.Queue.length rc,.bool r.x.Done] 183)))) hNe1
     have hH9:b8 w xw.w∧j5 xw.w w.heap.size (s9 x A) 90:=⟨ii,hS1⟩
     refine⟨hH9,?_⟩
     (try simp only[nrm])
     refine wpAnyH_take (i:=12) (v:=?vpx12) rfl kr kr kr (fun _ _ _ h=>hPK.out _ _ _ _ _ h) (Or.inl ⟨by rfl,?ypx12⟩) (by assumption) ?rpx12
     case ypx12=>intro w hSw;clear hSw;go_simp;(try with_reducible rfl)
     (try simp only[nrm])
     refine wpAnyH_take (i:=13) (v:=?vpx13) rfl kr kr kr (fun _ _ _ h=>hPK.out _ _ _ _ _ h) (Or.inl ⟨by rfl,?ypx13⟩) (by assumption) ?rpx13
     case ypx13=>intro w hSw;clear hSw;go_simp;(try with_reducible rfl)
     (try simp only[nrm])
     refine ab0 14 rfl kr kr kr _ _ _ rfl (w.heap.size+2) 55 kr hB1 (us:=[.slice sa (k+1) sc]) kr kr rfl nb rfl (w0:=w) ii om ?_
     intro z hz hgz
     have hB2:=lH hz;have hS2:=lH (hS1.at hgz om);have hR2:=lH (hR1.at hgz om)
     refine⟨⟨ii,hS2.out⟩,?_⟩
     (try simp only[nrm])
     refine hKK.out _ _ _ ?_
     clear hKK hPK hH
     have hK2:=lH ((((hKB.out.post (ii:b8 _ (y.w.alloc (.cells #[.int .i64 r.x.File,.string r.x.Data,.slice ra r.x.Queue.length rc,.bool r.x.Done] 183))))).farO hgr (fun q hq=>(hN.out.own.blk q (by rw[I6]at hq;exact hq)).1)).here hgz)
     have hN2:=lH ((hN.out.grow (W1:=z16.w.drew) (W3:=(y.w.alloc (.cells #[.int .i64 r.x.File,.string r.x.Data,.slice ra r.x.Queue.length rc,.bool r.x.Done] 183))) ii LeN.out no.o0 ii HG.out.1 ii hown (by rw[← I6 _ k nc18];exact hgr) hblk).keep (aG1 hgz (by have:=e15.out;omega)))
     have hX2:=lH (show(rows15_++[(⟨r.x,ra,rc⟩:N2 s7)]).map (fun q=>q.x)=x.Space.Outs.take (k+1)from by rw[List.map_append];exact HXN.out)
     clear hB hS hR hKB hN hX hz hgz hown hgr hblk no hB1 hS1 hR1 hNe hNe1 hNe2 hH9
     have hlb:=(HT.out.2.2.2.2.2.2.2.2.2.2.2.2.2.2.2.1)
     go_wp2_with (first|((with_reducible refine rl ?_);refine rq ?_;intro x))
     go_roundw
     case rel=>exact⟨k+1,by go_num,by have:=HLT.out;omega,z,_,_,_,_,rfl,hB2.out,hS2.out,hR2.out,hK2.out,hN2.out,hX2.out⟩
     case measure=>have:=HLT.out;simp[intOf];omega
    ·refine aP7 rfl kr (f:=100) rfl Tryz.func100 kr kr [.agg #[.int .i64 r.x.File,.string r.x.Data,.slice r.a r.x.Queue.length r.c,.bool r.x.Done]] kr ((aJ6 (x:=r.x) ⟨r.a,r.c,rfl,HG.out.2.keep ii,HG.out.1⟩ HTB.out).mono ?_)
     rintro _ _ ⟨_,χ2,rfl,⟨ra,rc,rfl,no⟩,y,rfl⟩
     refine⟨_,rfl,⟨ii,hH.2.to ii⟩,?_⟩
     (try simp only[nrm])
     refine aH2 2 10 kr ?_ ?_
     ·refine at4 rfl kr _ _ rfl (w.heap.size+2) 55 kr (hB.out.to ii) _ rfl _ aZ1 rfl ⟨ii,hH.2.to ii⟩ ?_
      (try simp only[nrm])
      refine W4 10 kr (aq4 rfl kr _ _ rfl (z:=.agg #[.int .i64 0,.string ⟨#[]⟩,.slice none 0 0,.bool false]) aZ1 kr (c0:=.int .i64 r.x.File) (c1:=.string r.x.Data) (c2:=.slice ra r.x.Queue.length rc) (c3:=.bool r.x.Done) kr ⟨ii,hH.2.to ii⟩ ?_)
      (try simp only[nrm])
      refine W4 11 kr (ax7 (enc:=aa0 (α:=s7)) (w0:=w) (z:=.agg #[.int .i64 0,.string ⟨#[]⟩,.slice none 0 0,.bool false]) (size:=4) (bytes:=56) (n:=k) (B:=z15.w.heap.size) rfl kr ⟨r.x,ra,rc⟩ _ _ rfl aZ1 kr rfl de de kr kr HLN.out (hN.out.own.to ii) (S5 _ _ _ rfl) rfl (ar6 _) (by have:=HLT.out;have:=(HT.out.2.2.2.2.2.2.2.2.2.2.2.2.2.2.2.1);omega) LeN.out ii LeN.out ?_)
      intro sa sc xw hown hgr hblk
      have hNe:=hN.out.own.lowNe (n:=k) (c2:=nc18) (b:=w.heap.size) (by have:=e15.out;omega);have hNe1:=hN.out.own.lowNe (n:=k) (c2:=nc18) (b:=w.heap.size+1) (by have:=e15.out;omega);have hNe2:=hN.out.own.lowNe (n:=k) (c2:=nc18) (b:=w.heap.size+2) (by have:=e15.out;omega)
      have hB1:=L6 hgr (hB.out.to (ii:b8 _ (y.w.alloc (.cells #[.int .i64 r.x.File,.string r.x.Data,.slice ra r.x.Queue.length rc,.bool r.x.Done] 183)))) hNe2
      have hS1:j5 xw.w (w.heap.size) (s9 x A) 90:=L6 hgr (hS.out.to (ii:b8 _ (y.w.alloc (.cells #[.int .i64 r.x.File,.string r.x.Data,.slice ra r.x.Queue.length rc,.bool r.x.Done] 183)))) hNe
      have hR1:j5 xw.w (w.heap.size+1) A3 90:=L6 hgr (hR.out.to (ii:b8 _ (y.w.alloc (.cells #[.int .i64 r.x.File,.string r.x.Data,.slice ra r.x.Queue.length rc,.bool r.x.Done] 183)))) hNe1
      have hH9:b8 w xw.w∧j5 xw.w w.heap.size (s9 x A) 90:=⟨ii,hS1⟩
      refine⟨hH9,?_⟩
      (try simp only[nrm])
      refine wpAnyH_take (i:=12) (v:=?vpy12) rfl kr kr kr (fun _ _ _ h=>hPK.out _ _ _ _ _ h) (Or.inl ⟨by rfl,?ypy12⟩) (by assumption) ?rpy12
      case ypy12=>intro w hSw;clear hSw;go_simp;(try with_reducible rfl)
      (try simp only[nrm])
      refine wpAnyH_take (i:=13) (v:=?vpy13) rfl kr kr kr (fun _ _ _ h=>hPK.out _ _ _ _ _ h) (Or.inl ⟨by rfl,?ypy13⟩) (by assumption) ?rpy13
      case ypy13=>intro w hSw;clear hSw;go_simp;(try with_reducible rfl)
      (try simp only[nrm])
      refine ab0 14 rfl kr kr kr _ _ _ rfl (w.heap.size+2) 55 kr hB1 (us:=[.slice sa (k+1) sc]) kr kr rfl nb rfl (w0:=w) ii om ?_
      intro z hz hgz
      have hB2:=lH hz;have hS2:=lH (hS1.at hgz om);have hR2:=lH (hR1.at hgz om)
      refine⟨⟨ii,hS2.out⟩,?_⟩
      (try simp only[nrm])
      refine hKK.out _ _ _ ?_
      clear hKK hPK hH
      have hK2:=lH ((((hKB.out.post (ii:b8 _ (y.w.alloc (.cells #[.int .i64 r.x.File,.string r.x.Data,.slice ra r.x.Queue.length rc,.bool r.x.Done] 183))))).farO hgr (fun q hq=>(hN.out.own.blk q (by rw[I6]at hq;exact hq)).1)).here hgz)
      have hN2:=lH ((hN.out.grow (W1:=z16.w.drew) (W3:=(y.w.alloc (.cells #[.int .i64 r.x.File,.string r.x.Data,.slice ra r.x.Queue.length rc,.bool r.x.Done] 183))) ii LeN.out no.o0 ii HG.out.1 ii hown (by rw[← I6 _ k nc18];exact hgr) hblk).keep (aG1 hgz (by have:=e15.out;omega)))
      have hX2:=lH (show(rows15_++[(⟨r.x,ra,rc⟩:N2 s7)]).map (fun q=>q.x)=x.Space.Outs.take (k+1)from by rw[List.map_append];exact HXN.out)
      clear hB hS hR hKB hN hX hz hgz hown hgr hblk no hB1 hS1 hR1 hNe hNe1 hNe2 hH9
      have hlb:=(HT.out.2.2.2.2.2.2.2.2.2.2.2.2.2.2.2.1)
      go_wp2_with (first|((with_reducible refine rl ?_);refine rq ?_;intro x))
      go_roundw
      case rel=>exact⟨k+1,by go_num,by have:=HLT.out;omega,z,_,_,_,_,rfl,hB2.out,hS2.out,hR2.out,hK2.out,hN2.out,hX2.out⟩
      case measure=>have:=HLT.out;simp[intOf];omega
     ·refine aq4 rfl kr _ _ rfl (z:=.agg #[.int .i64 0,.string ⟨#[]⟩,.slice none 0 0,.bool false]) aZ1 kr (c0:=.int .i64 r.x.File) (c1:=.string r.x.Data) (c2:=.slice ra r.x.Queue.length rc) (c3:=.bool r.x.Done) kr ⟨ii,hH.2.to ii⟩ ?_
      (try simp only[nrm])
      refine W4 2 kr (at4 rfl kr _ _ rfl (w.heap.size+2) 55 kr (hB.out.to ii) _ rfl _ aZ1 rfl ⟨ii,hH.2.to ii⟩ ?_)
      (try simp only[nrm])
      refine W4 11 kr (ax7 (enc:=aa0 (α:=s7)) (w0:=w) (z:=.agg #[.int .i64 0,.string ⟨#[]⟩,.slice none 0 0,.bool false]) (size:=4) (bytes:=56) (n:=k) (B:=z15.w.heap.size) rfl kr ⟨r.x,ra,rc⟩ _ _ rfl aZ1 kr rfl de de kr kr HLN.out (hN.out.own.to ii) (S5 _ _ _ rfl) rfl (ar6 _) (by have:=HLT.out;have:=(HT.out.2.2.2.2.2.2.2.2.2.2.2.2.2.2.2.1);omega) LeN.out ii LeN.out ?_)
      intro sa sc xw hown hgr hblk
      have hNe:=hN.out.own.lowNe (n:=k) (c2:=nc18) (b:=w.heap.size) (by have:=e15.out;omega);have hNe1:=hN.out.own.lowNe (n:=k) (c2:=nc18) (b:=w.heap.size+1) (by have:=e15.out;omega);have hNe2:=hN.out.own.lowNe (n:=k) (c2:=nc18) (b:=w.heap.size+2) (by have:=e15.out;omega)
      have hB1:=L6 hgr (hB.out.to (ii:b8 _ (y.w.alloc (.cells #[.int .i64 r.x.File,.string r.x.Data,.slice ra r.x.Queue.length rc,.bool r.x.Done] 183)))) hNe2
      have hS1:j5 xw.w (w.heap.size) (s9 x A) 90:=L6 hgr (hS.out.to (ii:b8 _ (y.w.alloc (.cells #[.int .i64 r.x.File,.string r.x.Data,.slice ra r.x.Queue.length rc,.bool r.x.Done] 183)))) hNe
      have hR1:j5 xw.w (w.heap.size+1) A3 90:=L6 hgr (hR.out.to (ii:b8 _ (y.w.alloc (.cells #[.int .i64 r.x.File,.string r.x.Data,.slice ra r.x.Queue.length rc,.bool r.x.Done] 183)))) hNe1
      have hH9:b8 w xw.w∧j5 xw.w w.heap.size (s9 x A) 90:=⟨ii,hS1⟩
      refine⟨hH9,?_⟩
      (try simp only[nrm])
      refine wpAnyH_take (i:=12) (v:=?vpz12) rfl kr kr kr (fun _ _ _ h=>hPK.out _ _ _ _ _ h) (Or.inl ⟨by rfl,?ypz12⟩) (by assumption) ?rpz12
      case ypz12=>intro w hSw;clear hSw;go_simp;(try with_reducible rfl)
      (try simp only[nrm])
      refine wpAnyH_take (i:=13) (v:=?vpz13) rfl kr kr kr (fun _ _ _ h=>hPK.out _ _ _ _ _ h) (Or.inl ⟨by rfl,?ypz13⟩) (by assumption) ?rpz13
      case ypz13=>intro w hSw;clear hSw;go_simp;(try with_reducible rfl)
      (try simp only[nrm])
      refine ab0 14 rfl kr kr kr _ _ _ rfl (w.heap.size+2) 55 kr hB1 (us:=[.slice sa (k+1) sc]) kr kr rfl nb rfl (w0:=w) ii om ?_
      intro z hz hgz
      have hB2:=lH hz;have hS2:=lH (hS1.at hgz om);have hR2:=lH (hR1.at hgz om)
      refine⟨⟨ii,hS2.out⟩,?_⟩
      (try simp only[nrm])
      refine hKK.out _ _ _ ?_
      clear hKK hPK hH
      have hK2:=lH ((((hKB.out.post (ii:b8 _ (y.w.alloc (.cells #[.int .i64 r.x.File,.string r.x.Data,.slice ra r.x.Queue.length rc,.bool r.x.Done] 183))))).farO hgr (fun q hq=>(hN.out.own.blk q (by rw[I6]at hq;exact hq)).1)).here hgz)
      have hN2:=lH ((hN.out.grow (W1:=z16.w.drew) (W3:=(y.w.alloc (.cells #[.int .i64 r.x.File,.string r.x.Data,.slice ra r.x.Queue.length rc,.bool r.x.Done] 183))) ii LeN.out no.o0 ii HG.out.1 ii hown (by rw[← I6 _ k nc18];exact hgr) hblk).keep (aG1 hgz (by have:=e15.out;omega)))
      have hX2:=lH (show(rows15_++[(⟨r.x,ra,rc⟩:N2 s7)]).map (fun q=>q.x)=x.Space.Outs.take (k+1)from by rw[List.map_append];exact HXN.out)
      clear hB hS hR hKB hN hX hz hgz hown hgr hblk no hB1 hS1 hR1 hNe hNe1 hNe2 hH9
      have hlb:=(HT.out.2.2.2.2.2.2.2.2.2.2.2.2.2.2.2.1)
      go_wp2_with (first|((with_reducible refine rl ?_);refine rq ?_;intro x))
      go_roundw
      case rel=>exact⟨k+1,by go_num,by have:=HLT.out;omega,z,_,_,_,_,rfl,hB2.out,hS2.out,hR2.out,hK2.out,hN2.out,hX2.out⟩
      case measure=>have:=HLT.out;simp[intOf];omega
   obtain rfl:k=x.Space.Outs.length:=by omega
   have K16:=lH hKB.out;have HZ16:=lH hB.out;have RZ16:=lH hR.out;have SZ16:=lH hS.out;have O15:=lH hN.out;have HRX_15:=lH (hX.out.trans List.take_length);clear hKB hB hR hS hN hX
   have e16:LeN (w.heap.size+3) z16.w.heap.size:=⟨HZ16.out.lt⟩
   go_wp2_with (first|((with_reducible refine rl ?_);refine rq ?_;intro x)|(refine bQ7 rfl _ _ rfl w.heap.size 55 rfl (SZ16.out.to ii) _ rfl _ aZ1 rfl ?_)|(refine al8 rfl _ _ rfl (w.heap.size+2) 0 rfl (row:=(D1 x na0 nc0 na1 nc1 na2 nc2 na3 nc3 b6a0 b6c0 na5 nc5 na6 nc6 na7 nc7 na8 nc8 b11A.a0 b11A.c0 b11A.a1 b11A.c1 b11A.a2 b11A.c2 b11A.a3 b11A.c3 b11A.a4 b11A.c4 b11A.a5 b11A.c5 b11A.a6 b11A.c6 b12a0 b12c0 na17 nc17 na18 nc18 na19 nc19 na20 nc20 na21 nc21)) (HZ16.out.to ii) _ Tryz.underlying90 rfl kr kr ?_)|(refine sS rfl _ _ _ rfl (w.heap.size+1) 0 rfl (us:=(D1 x na0 nc0 na1 nc1 na2 nc2 na3 nc3 b6a0 b6c0 na5 nc5 na6 nc6 na7 nc7 na8 nc8 b11A.a0 b11A.c0 b11A.a1 b11A.c1 b11A.a2 b11A.c2 b11A.a3 b11A.c3 b11A.a4 b11A.c4 b11A.a5 b11A.c5 b11A.a6 b11A.c6 b12a0 b12c0 na17 nc17 na18 nc18 na19 nc19 na20 nc20 na21 nc21)) (cs2:=(D1 x na0 nc0 na1 nc1 na2 nc2 na3 nc3 b6a0 b6c0 na5 nc5 na6 nc6 na7 nc7 na8 nc8 b11A.a0 b11A.c0 b11A.a1 b11A.c1 b11A.a2 b11A.c2 b11A.a3 b11A.c3 b11A.a4 b11A.c4 b11A.a5 b11A.c5 b11A.a6 b11A.c6 b12a0 b12c0 na17 nc17 na18 nc18 na19 nc19 na20 nc20 na21 nc21)) (RZ16.out.to ii) rfl kr rfl nb kr (w0:=w) ii si ?_;intro zr HR KQr;have KR:=KQr;clear KQr))
   have GZ16:d7 (w.heap.size+3) z16.w zr.w:=KR.out.keeps om
   have GY15:d7 (w.heap.size+3) z16.w zr.w:=GZ16
   have GZ15:d7 (w.heap.size+3) z15.w zr.w:=d7.trans (K16.out.keeps om) GZ16
   have GY14:d7 (w.heap.size+3) y14.w zr.w:=d7.trans (K15.out.keeps om) GZ15
   have GZ14:d7 (w.heap.size+3) z14.w zr.w:=d7.trans (ii:d7 (w.heap.size+3) z14.w y14.w) GY14
   have GY13:d7 (w.heap.size+3) y13.w zr.w:=d7.trans (K14.out.keeps om) GZ14
   have GZ13:d7 (w.heap.size+3) z13.w zr.w:=d7.trans (ii:d7 (w.heap.size+3) z13.w y13.w) GY13
   have GY12:d7 (w.heap.size+3) y12.w zr.w:=d7.trans (K13.out.keeps om) GZ13
   have GZ12:d7 (w.heap.size+3) z12.w zr.w:=d7.trans (ii:d7 (w.heap.size+3) z12.w y12.w) GY12
   have GY11:d7 (w.heap.size+3) y11.w zr.w:=d7.trans (K12.out.keeps om) GZ12
   have GZ11:d7 (w.heap.size+3) z11.w zr.w:=d7.trans (ii:d7 (w.heap.size+3) z11.w y11.w) GY11
   have GY10:d7 (w.heap.size+3) z11.w zr.w:=GZ11
   have GZ10:d7 (w.heap.size+3) z10.w zr.w:=d7.trans (K11.out.keeps om) GZ11
   have GY9:d7 (w.heap.size+3) y9.w zr.w:=d7.trans (K10.out.keeps om) GZ10
   have GZ9:d7 (w.heap.size+3) z9.w zr.w:=d7.trans (ii:d7 (w.heap.size+3) z9.w y9.w) GY9
   have GY8:d7 (w.heap.size+3) y8.w zr.w:=d7.trans (K9.out.keeps om) GZ9
   have GZ8:d7 (w.heap.size+3) z8.w zr.w:=d7.trans (ii:d7 (w.heap.size+3) z8.w y8.w) GY8
   have GY7:d7 (w.heap.size+3) y7.w zr.w:=d7.trans (K8.out.keeps om) GZ8
   have GZ7:d7 (w.heap.size+3) z7.w zr.w:=d7.trans (ii:d7 (w.heap.size+3) z7.w y7.w) GY7
   have GY6:d7 (w.heap.size+3) y6.w zr.w:=d7.trans (K7.out.keeps om) GZ7
   have GZ6:d7 (w.heap.size+3) z6.w zr.w:=d7.trans (ii:d7 (w.heap.size+3) z6.w y6.w) GY6
   have GY5:d7 (w.heap.size+3) y5.w zr.w:=d7.trans (K6.out.keeps om) GZ6
   have GZ5:d7 (w.heap.size+3) z5.w zr.w:=d7.trans (ii:d7 (w.heap.size+3) z5.w y5.w) GY5
   have GY4:d7 (w.heap.size+3) y4.w zr.w:=d7.trans (K5.out.keeps om) GZ5
   have GZ4:d7 (w.heap.size+3) z4.w zr.w:=d7.trans (ii:d7 (w.heap.size+3) z4.w y4.w) GY4
   have GY3:d7 (w.heap.size+3) y3.w zr.w:=d7.trans (K4.out.keeps om) GZ4
   have GZ3:d7 (w.heap.size+3) z3.w zr.w:=d7.trans (ii:d7 (w.heap.size+3) z3.w y3.w) GY3
   have GY2:d7 (w.heap.size+3) y2.w zr.w:=d7.trans (K3.out.keeps om) GZ3
   have GZ2:d7 (w.heap.size+3) z2.w zr.w:=d7.trans (ii:d7 (w.heap.size+3) z2.w y2.w) GY2
   have GY1:d7 (w.heap.size+3) y1.w zr.w:=d7.trans (K2.out.keeps om) GZ2
   have GZ1:d7 (w.heap.size+3) z1.w zr.w:=d7.trans (ii:d7 (w.heap.size+3) z1.w y1.w) GY1
   have GY0:d7 (w.heap.size+3) y0.w zr.w:=d7.trans (K1.out.keeps om) GZ1
   obtain⟨D,hD⟩:∃ D:List (Nat × Nat × (Nat→Col)),D=[(y0.w.heap.size,0,(fun _=>(0,0))),(y1.w.heap.size,1,(fun _=>(0,0))),(y2.w.heap.size,2,(fun _=>(0,0))),(y3.w.heap.size,20,(fun _=>(0,0))),(y4.w.heap.size,21,(fun _=>(0,0))),(y5.w.heap.size,3,(fun _=>(0,0))),(y6.w.heap.size,4,ch6),(y7.w.heap.size,5,(fun _=>(0,0))),(y8.w.heap.size,6,(fun _=>(0,0))),(y9.w.heap.size,8,(fun _=>(0,0))),(z11.w.heap.size,7,ch10),(y11.w.heap.size,9,ch11),(y12.w.heap.size,16,ch12),(y13.w.heap.size,17,(fun _=>(0,0))),(y14.w.heap.size,19,(fun _=>(0,0))),(z16.w.heap.size,18,ch15)]:=⟨_,rfl⟩
   have e0:D[0]?=some (y0.w.heap.size,0,(fun _=>(0,0))):=by rw[hD];rfl
   have e1:D[1]?=some (y1.w.heap.size,1,(fun _=>(0,0))):=by rw[hD];rfl
   have e2:D[2]?=some (y2.w.heap.size,2,(fun _=>(0,0))):=by rw[hD];rfl
   have e3:D[3]?=some (y3.w.heap.size,20,(fun _=>(0,0))):=by rw[hD];rfl
   have e4:D[4]?=some (y4.w.heap.size,21,(fun _=>(0,0))):=by rw[hD];rfl
   have e5:D[5]?=some (y5.w.heap.size,3,(fun _=>(0,0))):=by rw[hD];rfl
   have e6:D[6]?=some (y6.w.heap.size,4,ch6):=by rw[hD];rfl
   have e7:D[7]?=some (y7.w.heap.size,5,(fun _=>(0,0))):=by rw[hD];rfl
   have e8:D[8]?=some (y8.w.heap.size,6,(fun _=>(0,0))):=by rw[hD];rfl
   have e9:D[9]?=some (y9.w.heap.size,8,(fun _=>(0,0))):=by rw[hD];rfl
   have e10:D[10]?=some (z11.w.heap.size,7,ch10):=by rw[hD];rfl
   have e11:D[11]?=some (y11.w.heap.size,9,ch11):=by rw[hD];rfl
   have e12:D[12]?=some (y12.w.heap.size,16,ch12):=by rw[hD];rfl
   have e13:D[13]?=some (y13.w.heap.size,17,(fun _=>(0,0))):=by rw[hD];rfl
   have e14:D[14]?=some (y14.w.heap.size,19,(fun _=>(0,0))):=by rw[hD];rfl
   have e15:D[15]?=some (z16.w.heap.size,18,ch15):=by rw[hD];rfl
   clear hD
   have P0:∀ b,j9 D b=j9 (D.drop 0) b:=fun _=>rfl
   have C0:∀ b,z0.w.heap.size≤b→b<y0.w.heap.size→j9 D b=B9 0 ((fun _=>(0,0)) b):=fun b h1 h2=>(P0 b).trans (i9 e0 h2)
   have P1:∀ b,y0.w.heap.size≤b→j9 D b=j9 (D.drop 1) b:=fun b hb=>(P0 b).trans (f8 e0 hb)
   have C1:∀ b,z1.w.heap.size≤b→b<y1.w.heap.size→j9 D b=B9 1 ((fun _=>(0,0)) b):=fun b h1 h2=>(P1 b (Nat.le_trans K1.out.size h1)).trans (i9 e1 h2)
   have P2:∀ b,y1.w.heap.size≤b→j9 D b=j9 (D.drop 2) b:=fun b hb=>(P1 b (Nat.le_trans (Nat.le_trans K1.out.size y1.size_le) hb)).trans (f8 e1 hb)
   have C2:∀ b,z2.w.heap.size≤b→b<y2.w.heap.size→j9 D b=B9 2 ((fun _=>(0,0)) b):=fun b h1 h2=>(P2 b (Nat.le_trans K2.out.size h1)).trans (i9 e2 h2)
   have P3:∀ b,y2.w.heap.size≤b→j9 D b=j9 (D.drop 3) b:=fun b hb=>(P2 b (Nat.le_trans (Nat.le_trans K2.out.size y2.size_le) hb)).trans (f8 e2 hb)
   have C3:∀ b,z3.w.heap.size≤b→b<y3.w.heap.size→j9 D b=B9 20 ((fun _=>(0,0)) b):=fun b h1 h2=>(P3 b (Nat.le_trans K3.out.size h1)).trans (i9 e3 h2)
   have P4:∀ b,y3.w.heap.size≤b→j9 D b=j9 (D.drop 4) b:=fun b hb=>(P3 b (Nat.le_trans (Nat.le_trans K3.out.size y3.size_le) hb)).trans (f8 e3 hb)
   have C4:∀ b,z4.w.heap.size≤b→b<y4.w.heap.size→j9 D b=B9 21 ((fun _=>(0,0)) b):=fun b h1 h2=>(P4 b (Nat.le_trans K4.out.size h1)).trans (i9 e4 h2)
   have P5:∀ b,y4.w.heap.size≤b→j9 D b=j9 (D.drop 5) b:=fun b hb=>(P4 b (Nat.le_trans (Nat.le_trans K4.out.size y4.size_le) hb)).trans (f8 e4 hb)
   have C5:∀ b,z5.w.heap.size≤b→b<y5.w.heap.size→j9 D b=B9 3 ((fun _=>(0,0)) b):=fun b h1 h2=>(P5 b (Nat.le_trans K5.out.size h1)).trans (i9 e5 h2)
   have P6:∀ b,y5.w.heap.size≤b→j9 D b=j9 (D.drop 6) b:=fun b hb=>(P5 b (Nat.le_trans (Nat.le_trans K5.out.size y5.size_le) hb)).trans (f8 e5 hb)
   have C6:∀ b,z6.w.heap.size≤b→b<y6.w.heap.size→j9 D b=B9 4 (ch6 b):=fun b h1 h2=>(P6 b (Nat.le_trans K6.out.size h1)).trans (i9 e6 h2)
   have P7:∀ b,y6.w.heap.size≤b→j9 D b=j9 (D.drop 7) b:=fun b hb=>(P6 b (Nat.le_trans (Nat.le_trans K6.out.size y6.size_le) hb)).trans (f8 e6 hb)
   have C7:∀ b,z7.w.heap.size≤b→b<y7.w.heap.size→j9 D b=B9 5 ((fun _=>(0,0)) b):=fun b h1 h2=>(P7 b (Nat.le_trans K7.out.size h1)).trans (i9 e7 h2)
   have P8:∀ b,y7.w.heap.size≤b→j9 D b=j9 (D.drop 8) b:=fun b hb=>(P7 b (Nat.le_trans (Nat.le_trans K7.out.size y7.size_le) hb)).trans (f8 e7 hb)
   have C8:∀ b,z8.w.heap.size≤b→b<y8.w.heap.size→j9 D b=B9 6 ((fun _=>(0,0)) b):=fun b h1 h2=>(P8 b (Nat.le_trans K8.out.size h1)).trans (i9 e8 h2)
   have P9:∀ b,y8.w.heap.size≤b→j9 D b=j9 (D.drop 9) b:=fun b hb=>(P8 b (Nat.le_trans (Nat.le_trans K8.out.size y8.size_le) hb)).trans (f8 e8 hb)
   have C9:∀ b,z9.w.heap.size≤b→b<y9.w.heap.size→j9 D b=B9 8 ((fun _=>(0,0)) b):=fun b h1 h2=>(P9 b (Nat.le_trans K9.out.size h1)).trans (i9 e9 h2)
   have P10:∀ b,y9.w.heap.size≤b→j9 D b=j9 (D.drop 10) b:=fun b hb=>(P9 b (Nat.le_trans (Nat.le_trans K9.out.size y9.size_le) hb)).trans (f8 e9 hb)
   have C10:∀ b,z10.w.heap.size≤b→b<z11.w.heap.size→j9 D b=B9 7 (ch10 b):=fun b h1 h2=>(P10 b (Nat.le_trans K10.out.size h1)).trans (i9 e10 h2)
   have P11:∀ b,z11.w.heap.size≤b→j9 D b=j9 (D.drop 11) b:=fun b hb=>(P10 b (Nat.le_trans (Nat.le_trans K10.out.size K11.out.size) hb)).trans (f8 e10 hb)
   have C11:∀ b,z11.w.heap.size≤b→b<y11.w.heap.size→j9 D b=B9 9 (ch11 b):=fun b h1 h2=>(P11 b (Nat.le_trans nl h1)).trans (i9 e11 h2)
   have P12:∀ b,y11.w.heap.size≤b→j9 D b=j9 (D.drop 12) b:=fun b hb=>(P11 b (Nat.le_trans (Nat.le_trans nl y11.size_le) hb)).trans (f8 e11 hb)
   have C12:∀ b,z12.w.heap.size≤b→b<y12.w.heap.size→j9 D b=B9 16 (ch12 b):=fun b h1 h2=>(P12 b (Nat.le_trans K12.out.size h1)).trans (i9 e12 h2)
   have P13:∀ b,y12.w.heap.size≤b→j9 D b=j9 (D.drop 13) b:=fun b hb=>(P12 b (Nat.le_trans (Nat.le_trans K12.out.size y12.size_le) hb)).trans (f8 e12 hb)
   have C13:∀ b,z13.w.heap.size≤b→b<y13.w.heap.size→j9 D b=B9 17 ((fun _=>(0,0)) b):=fun b h1 h2=>(P13 b (Nat.le_trans K13.out.size h1)).trans (i9 e13 h2)
   have P14:∀ b,y13.w.heap.size≤b→j9 D b=j9 (D.drop 14) b:=fun b hb=>(P13 b (Nat.le_trans (Nat.le_trans K13.out.size y13.size_le) hb)).trans (f8 e13 hb)
   have C14:∀ b,z14.w.heap.size≤b→b<y14.w.heap.size→j9 D b=B9 19 ((fun _=>(0,0)) b):=fun b h1 h2=>(P14 b (Nat.le_trans K14.out.size h1)).trans (i9 e14 h2)
   have P15:∀ b,y14.w.heap.size≤b→j9 D b=j9 (D.drop 15) b:=fun b hb=>(P14 b (Nat.le_trans (Nat.le_trans K14.out.size y14.size_le) hb)).trans (f8 e14 hb)
   have C15:∀ b,z15.w.heap.size≤b→b<z16.w.heap.size→j9 D b=B9 18 (ch15 b):=fun b h1 h2=>(P15 b (Nat.le_trans K15.out.size h1)).trans (i9 e15 h2)
   have Q6:=lH ((((O6.out.re C6).mono (LeN.out (a:=w.heap.size+3))).keep GY6).mono (B2:=w.heap.size) om)
   have Q11:=lH ((((O11.out.re C11).mono (LeN.out (a:=w.heap.size+3))).keep GY11).mono (B2:=w.heap.size) om)
   have Q12:=lH ((((O12.out.re C12).mono (LeN.out (a:=w.heap.size+3))).keep GY12).mono (B2:=w.heap.size) om)
   refine bodyPost_ret (v:=.agg (D1 x na0 nc0 na1 nc1 na2 nc2 na3 nc3 b6a0 b6c0 na5 nc5 na6 nc6 na7 nc7 na8 nc8 b11A.a0 b11A.c0 b11A.a1 b11A.c1 b11A.a2 b11A.c2 b11A.a3 b11A.c3 b11A.a4 b11A.c4 b11A.a5 b11A.c5 b11A.a6 b11A.c6 b12a0 b12c0 na17 nc17 na18 nc18 na19 nc19 na20 nc20 na21 nc21).toArray) (A7 (P:=Tryz.prog) rfl rfl HR.out _ Tryz.underlying90 rfl kr) rfl ⟨(D1 x na0 nc0 na1 nc1 na2 nc2 na3 nc3 b6a0 b6c0 na5 nc5 na6 nc6 na7 nc7 na8 nc8 b11A.a0 b11A.c0 b11A.a1 b11A.c1 b11A.a2 b11A.c2 b11A.a3 b11A.c3 b11A.a4 b11A.c4 b11A.a5 b11A.c5 b11A.a6 b11A.c6 b12a0 b12c0 na17 nc17 na18 nc18 na19 nc19 na20 nc20 na21 nc21),j9 D,rfl,⟨⟨na0,nc0,na1,nc1,na2,nc2,na3,nc3,b6a0,b6c0,na5,nc5,na6,nc6,na7,nc7,na8,nc8,b11A.a0,b11A.c0,b11A.a1,b11A.c1,b11A.a2,b11A.c2,b11A.a3,b11A.c3,b11A.a4,b11A.c4,b11A.a5,b11A.c5,b11A.a6,b11A.c6,b12a0,b12c0,na17,nc17,na18,nc18,na19,nc19,na20,nc20,na21,nc21⟩,rfl,⟨((((O0.out.re C0).mono (LeN.out (a:=w.heap.size+3))).keep GY0).mono om),((((O1.out.re C1).mono (LeN.out (a:=w.heap.size+3))).keep GY1).mono om),((((O2.out.re C2).mono (LeN.out (a:=w.heap.size+3))).keep GY2).mono om),((((O5.out.re C5).mono (LeN.out (a:=w.heap.size+3))).keep GY5).mono om),Q6.out.o0,((((O7.out.re C7).mono (LeN.out (a:=w.heap.size+3))).keep GY7).mono om),((((O8.out.re C8).mono (LeN.out (a:=w.heap.size+3))).keep GY8).mono om),⟨_,HRX_10.out,((((O10.out.re C10).mono (LeN.out (a:=w.heap.size+3))).keep GY10).mono om)⟩,((((O9.out.re C9).mono (LeN.out (a:=w.heap.size+3))).keep GY9).mono om),Q11.out.o0,Q11.out.o1,Q11.out.o2,Q11.out.o3,Q11.out.o4,Q11.out.o5,Q11.out.o6,Q12.out.o0,((((O13.out.re C13).mono (LeN.out (a:=w.heap.size+3))).keep GY13).mono om),⟨_,HRX_15.out,((((O15.out.re C15).mono (LeN.out (a:=w.heap.size+3))).keep GY15).mono om)⟩,((((O14.out.re C14).mono (LeN.out (a:=w.heap.size+3))).keep GY14).mono om),((((O3.out.re C3).mono (LeN.out (a:=w.heap.size+3))).keep GY3).mono om),((((O4.out.re C4).mono (LeN.out (a:=w.heap.size+3))).keep GY4).mono om),HFF.out.ok⟩⟩,b7.of⟩
