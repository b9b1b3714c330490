/- The contracts of functions that copy structs: the code's, of a mission. No condition but on sizes. -/
import Derived.Test.YtdijmbipcgalfaaGreatHM29
namespace Go.Proofs.YtdijmbipcgalfaaGreat
set_option maxRecDepth 100000
set_option maxHeartbeats 16000000
set_option linter.unusedVariables false
open Go.ChangeShapes Go.WideShapes Go.ChangeAt Go.RowKit
theorem bd9{B:Nat}{vs:List Value}{x:f7}{w:World}(h:Enc.Rd B w vs x)(ht:Enc.tot x≤100000000) :
  Calls Tryz.prog 35 #[.agg vs.toArray] w (R3 w x):=by
 obtain⟨A,rfl,F⟩:=h
 have HT:=lH (show x.Plan.length≤100000000∧x.Ups.length≤100000000∧x.Downs.length≤100000000∧x.Ground.Offers.length≤100000000∧Enc.tot x.Ground.Sender≤100000000∧x.Ground.Pairs.length≤100000000∧x.Ground.Records.length≤100000000∧x.Ground.Files.length≤100000000∧x.Ground.Told.length≤100000000∧Enc.tot x.Space.Board≤100000000∧Enc.tot x.Space.Packer≤100000000∧x.Space.Files.length≤100000000∧x.Space.Outs.length≤100000000∧x.Space.Sent.length≤100000000∧x.Offered.length≤100000000∧x.Took.length≤100000000∧True from by
  have:=bP7 x
  refine⟨?_,?_,?_,?_,?_,?_,?_,?_,?_,?_,?_,?_,?_,?_,?_,?_,trivial⟩<;>omega)
 have HT0:=lH ht;clear ht
 have HFF:=lH F;clear F
 have HTN7:=lH (show d9 x.Ground.Files≤100000000 from by
  have:=bP7 x
  have:=HT0.out;omega)
 obtain⟨rows7,hrl,hrx,hrs,hre⟩:=HFF.out.q7.rows
 have HRL7:=lH hrl;have HRX7:=lH hrx;have HRS7:=lH hrs;have HRE7:=lH hre;clear hrl hrx hrs hre
 have HTN12:=lH (show d9 x.Space.Outs≤100000000 from by
  have:=bP7 x
  have:=HT0.out;omega)
 obtain⟨rows12,hrl,hrx,hrs,hre⟩:=HFF.out.q18.rows
 have HRL12:=lH hrl;have HRX12:=lH hrx;have HRS12:=lH hrs;have HRE12:=lH hre;clear hrl hrx hrs hre
 have S0:=lH ((j5.new w (s9 x A) 90 w.heap.size rfl).to (ii:b8 _ ((w.alloc (.cells (s9 x A).toArray 90)).alloc (.cells A3.toArray 90))))
 have R0:=lH ((j5.new (w.alloc (.cells (s9 x A).toArray 90)) A3 90 (w.heap.size+1) si).to (ii:b8 _ ((w.alloc (.cells (s9 x A).toArray 90)).alloc (.cells A3.toArray 90))))
 go_enter Tryz.func35,Tryz.ntmps35
 go_wp2_with (first|((with_reducible refine rl ?_);refine rq ?_;intro x)|(refine bQ7 rfl _ _ rfl w.heap.size 7 rfl (S0.out.to ii) _ rfl _ Tryz.underlying64 rfl ?_))
 refine(bB5 (HFF.out.q0.keep ii) (HT.out.1)).mono ?_
 rintro _ _ ⟨na0,nc0,rfl,no0,y0,rfl⟩
 have O0:=lH no0;clear no0
 go_wp2_with (first|((with_reducible refine rl ?_);refine rq ?_;intro x)|(refine sS rfl _ _ _ rfl (w.heap.size) 7 rfl (us:=[.slice na0 x.Plan.length nc0]) (cs2:=(D1 x na0 nc0 A.a1 A.c1 A.a2 A.c2 A.a3 A.c3 A.a4 A.c4 A.a5 A.c5 A.a6 A.c6 A.a7 A.c7 A.a8 A.c8 A.a9 A.c9 A.a10 A.c10 A.a11 A.c11 A.a12 A.c12 A.a13 A.c13 A.a14 A.c14 A.a15 A.c15 A.a16 A.c16 A.a17 A.c17 A.a18 A.c18 A.a19 A.c19 A.a20 A.c20 A.a21 A.c21)) (S0.out.to ii) rfl kr rfl nb kr (w0:=w) ii si ?_;intro z1 HZ1 KQ1;have K1:=KQ1;have RZ1:=lH ((R0.out.to ii).but KQ1.out om);clear KQ1;have e1:LeN (w.heap.size+2) z1.w.heap.size:=⟨RZ1.out.lt⟩;clear R0 S0)|(refine bQ7 rfl _ _ rfl w.heap.size 14 rfl (HZ1.out.to ii) _ rfl _ Tryz.underlying66 rfl ?_))
 refine(aE1 (HFF.out.q1.keep ii) (HT.out.2.1)).mono ?_
 rintro _ _ ⟨na1,nc1,rfl,no1,y1,rfl⟩
 have O1:=lH no1;clear no1
 go_wp2_with (first|((with_reducible refine rl ?_);refine rq ?_;intro x)|(refine sS rfl _ _ _ rfl (w.heap.size) 14 rfl (us:=[.slice na1 x.Ups.length nc1]) (cs2:=(D1 x na0 nc0 na1 nc1 A.a2 A.c2 A.a3 A.c3 A.a4 A.c4 A.a5 A.c5 A.a6 A.c6 A.a7 A.c7 A.a8 A.c8 A.a9 A.c9 A.a10 A.c10 A.a11 A.c11 A.a12 A.c12 A.a13 A.c13 A.a14 A.c14 A.a15 A.c15 A.a16 A.c16 A.a17 A.c17 A.a18 A.c18 A.a19 A.c19 A.a20 A.c20 A.a21 A.c21)) (HZ1.out.to ii) rfl kr rfl nb kr (w0:=w) ii si ?_;intro z2 HZ2 KQ2;have K2:=KQ2;have RZ2:=lH ((RZ1.out.to ii).but KQ2.out om);clear KQ2;have e2:LeN (w.heap.size+2) z2.w.heap.size:=⟨RZ2.out.lt⟩;clear HZ1 RZ1)|(refine bQ7 rfl _ _ rfl w.heap.size 15 rfl (HZ2.out.to ii) _ rfl _ Tryz.underlying66 rfl ?_))
 refine(aE1 (HFF.out.q2.keep ii) (HT.out.2.2.1)).mono ?_
 rintro _ _ ⟨na2,nc2,rfl,no2,y2,rfl⟩
 have O2:=lH no2;clear no2
 go_wp2_with (first|((with_reducible refine rl ?_);refine rq ?_;intro x)|(refine sS rfl _ _ _ rfl (w.heap.size) 15 rfl (us:=[.slice na2 x.Downs.length nc2]) (cs2:=(D1 x na0 nc0 na1 nc1 na2 nc2 A.a3 A.c3 A.a4 A.c4 A.a5 A.c5 A.a6 A.c6 A.a7 A.c7 A.a8 A.c8 A.a9 A.c9 A.a10 A.c10 A.a11 A.c11 A.a12 A.c12 A.a13 A.c13 A.a14 A.c14 A.a15 A.c15 A.a16 A.c16 A.a17 A.c17 A.a18 A.c18 A.a19 A.c19 A.a20 A.c20 A.a21 A.c21)) (HZ2.out.to ii) rfl kr rfl nb kr (w0:=w) ii si ?_;intro z3 HZ3 KQ3;have K3:=KQ3;have RZ3:=lH ((RZ2.out.to ii).but KQ3.out om);clear KQ3;have e3:LeN (w.heap.size+2) z3.w.heap.size:=⟨RZ3.out.lt⟩;clear HZ2 RZ2)|(refine bQ7 rfl _ _ rfl w.heap.size 16 rfl (HZ3.out.to ii) _ rfl _ Tryz.underlying30 rfl ?_))
 refine(ae8 (HFF.out.q3.keep ii) (HT.out.2.2.2.1)).mono ?_
 rintro _ _ ⟨na3,nc3,rfl,no3,y3,rfl⟩
 have O3:=lH no3;clear no3
 go_wp2_with (first|((with_reducible refine rl ?_);refine rq ?_;intro x)|(refine sS rfl _ _ _ rfl (w.heap.size) 16 rfl (us:=[.slice na3 x.Ground.Offers.length nc3]) (cs2:=(D1 x na0 nc0 na1 nc1 na2 nc2 na3 nc3 A.a4 A.c4 A.a5 A.c5 A.a6 A.c6 A.a7 A.c7 A.a8 A.c8 A.a9 A.c9 A.a10 A.c10 A.a11 A.c11 A.a12 A.c12 A.a13 A.c13 A.a14 A.c14 A.a15 A.c15 A.a16 A.c16 A.a17 A.c17 A.a18 A.c18 A.a19 A.c19 A.a20 A.c20 A.a21 A.c21)) (HZ3.out.to ii) rfl kr rfl nb kr (w0:=w) ii si ?_;intro z4 HZ4 KQ4;have K4:=KQ4;have RZ4:=lH ((RZ3.out.to ii).but KQ4.out om);clear KQ4;have e4:LeN (w.heap.size+2) z4.w.heap.size:=⟨RZ4.out.lt⟩;clear HZ3 RZ3)|(refine al8 rfl _ _ rfl w.heap.size 17 rfl (row:=[.int .i64 x.Ground.Sender.Next,.int .i64 x.Ground.Sender.Window,.slice A.a4 x.Ground.Sender.Waiting.length A.c4,.int .i64 x.Ground.Sender.Done]) (HZ4.out.to ii) _ Tryz.underlying69 rfl kr kr ?_))
 refine(aJ5 (x:=x.Ground.Sender) ⟨A.a4,A.c4,rfl,HFF.out.q4.keep ii,HFF.out.ok.2.2.2.2.2.2.1.1⟩ (HT.out.2.2.2.2.1)).mono ?_
 rintro _ _ ⟨_,ch4,rfl,⟨b4a0,b4c0,rfl,no4⟩,y4,rfl⟩
 have O4:=lH no4;clear no4
 go_wp2_with (first|((with_reducible refine rl ?_);refine rq ?_;intro x)|(refine sS rfl _ _ _ rfl (w.heap.size) 17 rfl (us:=[.int .i64 x.Ground.Sender.Next,.int .i64 x.Ground.Sender.Window,.slice b4a0 x.Ground.Sender.Waiting.length b4c0,.int .i64 x.Ground.Sender.Done]) (cs2:=(D1 x na0 nc0 na1 nc1 na2 nc2 na3 nc3 b4a0 b4c0 A.a5 A.c5 A.a6 A.c6 A.a7 A.c7 A.a8 A.c8 A.a9 A.c9 A.a10 A.c10 A.a11 A.c11 A.a12 A.c12 A.a13 A.c13 A.a14 A.c14 A.a15 A.c15 A.a16 A.c16 A.a17 A.c17 A.a18 A.c18 A.a19 A.c19 A.a20 A.c20 A.a21 A.c21)) (HZ4.out.to ii) rfl kr rfl nb kr (w0:=w) ii si ?_;intro z5 HZ5 KQ5;have K5:=KQ5;have RZ5:=lH ((RZ4.out.to ii).but KQ5.out om);clear KQ5;have e5:LeN (w.heap.size+2) z5.w.heap.size:=⟨RZ5.out.lt⟩;clear HZ4 RZ4)|(refine bQ7 rfl _ _ rfl w.heap.size 29 rfl (HZ5.out.to ii) _ rfl _ Tryz.underlying72 rfl ?_))
 refine(bB4 (HFF.out.q5.keep ii) (HT.out.2.2.2.2.2.1)).mono ?_
 rintro _ _ ⟨na5,nc5,rfl,no5,y5,rfl⟩
 have O5:=lH no5;clear no5
 go_wp2_with (first|((with_reducible refine rl ?_);refine rq ?_;intro x)|(refine sS rfl _ _ _ rfl (w.heap.size) 29 rfl (us:=[.slice na5 x.Ground.Pairs.length nc5]) (cs2:=(D1 x na0 nc0 na1 nc1 na2 nc2 na3 nc3 b4a0 b4c0 na5 nc5 A.a6 A.c6 A.a7 A.c7 A.a8 A.c8 A.a9 A.c9 A.a10 A.c10 A.a11 A.c11 A.a12 A.c12 A.a13 A.c13 A.a14 A.c14 A.a15 A.c15 A.a16 A.c16 A.a17 A.c17 A.a18 A.c18 A.a19 A.c19 A.a20 A.c20 A.a21 A.c21)) (HZ5.out.to ii) rfl kr rfl nb kr (w0:=w) ii si ?_;intro z6 HZ6 KQ6;have K6:=KQ6;have RZ6:=lH ((RZ5.out.to ii).but KQ6.out om);clear KQ6;have e6:LeN (w.heap.size+2) z6.w.heap.size:=⟨RZ6.out.lt⟩;clear HZ5 RZ5)|(refine bQ7 rfl _ _ rfl w.heap.size 30 rfl (HZ6.out.to ii) _ rfl _ Tryz.underlying73 rfl ?_))
 refine(au9 (HFF.out.q6.keep ii) (HT.out.2.2.2.2.2.2.1)).mono ?_
 rintro _ _ ⟨na6,nc6,rfl,no6,y6,rfl⟩
 have O6:=lH no6;clear no6
 go_wp2_with (first|((with_reducible refine rl ?_);refine rq ?_;intro x)|(refine sS rfl _ _ _ rfl (w.heap.size) 30 rfl (us:=[.slice na6 x.Ground.Records.length nc6]) (cs2:=(D1 x na0 nc0 na1 nc1 na2 nc2 na3 nc3 b4a0 b4c0 na5 nc5 na6 nc6 A.a7 A.c7 A.a8 A.c8 A.a9 A.c9 A.a10 A.c10 A.a11 A.c11 A.a12 A.c12 A.a13 A.c13 A.a14 A.c14 A.a15 A.c15 A.a16 A.c16 A.a17 A.c17 A.a18 A.c18 A.a19 A.c19 A.a20 A.c20 A.a21 A.c21)) (HZ6.out.to ii) rfl kr rfl nb kr (w0:=w) ii si ?_;intro z7 HZ7 KQ7;have K7:=KQ7;have RZ7:=lH ((RZ6.out.to ii).but KQ7.out om);clear KQ7;have e7:LeN (w.heap.size+2) z7.w.heap.size:=⟨RZ7.out.lt⟩;clear HZ6 RZ6)|(refine bQ7 rfl _ _ rfl w.heap.size 31 rfl (HZ7.out.to ii) _ rfl _ Tryz.underlying74 rfl ?_))
 refine(aW7 (HRS7.out.to ii) HRL7.out (HT.out.2.2.2.2.2.2.2.1)).mono ?_
 rintro _ _ ⟨na7,nc7,rfl,no7,y7,rfl⟩
 rw[HRL7.out]
 have O7:=lH (as6.start no7);clear no7
 go_wp2_with (first|((with_reducible refine rl ?_);refine rq ?_;intro x)|(refine Q7 rfl _ _ _ rfl (w.heap.size) 31 rfl (us:=[.slice na7 x.Ground.Files.length nc7]) (cs2:=(D1 x na0 nc0 na1 nc1 na2 nc2 na3 nc3 b4a0 b4c0 na5 nc5 na6 nc6 na7 nc7 A.a8 A.c8 A.a9 A.c9 A.a10 A.c10 A.a11 A.c11 A.a12 A.c12 A.a13 A.c13 A.a14 A.c14 A.a15 A.c15 A.a16 A.c16 A.a17 A.c17 A.a18 A.c18 A.a19 A.c19 A.a20 A.c20 A.a21 A.c21)) (HZ7.out.to ii) rfl kr rfl nb kr (w0:=w) ii si ?_;intro zq7 hq7 kq7;have HQZ7:=lH hq7;have KQ7:=lH (kq7.pre (ii:b8 z7.w y7.w));have RQZ7:=lH ((RZ7.out.to ii).but kq7 om);have OQ7:=lH (O7.out.but kq7 (by have:=e7.out;omega));clear O7 kq7 hq7)|(refine bQ7 rfl _ _ rfl w.heap.size 31 rfl (HQZ7.out.to ii) _ rfl _ Tryz.underlying74 rfl ?_))
 go_loopw [67] (fun v wr=>∃ k:Nat,v=.int .i64 k∧k≤x.Ground.Files.length∧∃ (Z:b7 w) (χ:Nat→Col) (rows:List (N2 A8)),wr=Z.w∧Hid (j5 Z.w (w.heap.size) (D1 x na0 nc0 na1 nc1 na2 nc2 na3 nc3 b4a0 b4c0 na5 nc5 na6 nc6 na7 nc7 A.a8 A.c8 A.a9 A.c9 A.a10 A.c10 A.a11 A.c11 A.a12 A.c12 A.a13 A.c13 A.a14 A.c14 A.a15 A.c15 A.a16 A.c16 A.a17 A.c17 A.a18 A.c18 A.a19 A.c19 A.a20 A.c20 A.a21 A.c21) 90)∧Hid (j5 Z.w (w.heap.size+1) A3 90)∧Hid (But (w.heap.size) z7.w Z.w)∧Hid (as6 z7.w.heap.size χ Z.w na7 nc7 rows7 rows k)) (fun v _=>(x.Ground.Files.length - intOf v).toNat)
 case atStart=>exact⟨0,rfl,by omega,zq7,_,_,rfl,HQZ7.out,RQZ7.out,KQ7.out,OQ7.out⟩
 case round =>
  obtain⟨k,rfl,hk,z8,ch7,rows7_,rfl,hB,hR,hKB,hN⟩:=hrel
  clear HQZ7 RQZ7 KQ7 OQ7
  by_cases h:k<x.Ground.Files.length
  ·have NP:=hN.out
   obtain⟨g,rfl,hg1,hg2⟩:=NP.own.open (n:=0) (by rw[NP.len,HRL7.out];omega)
   obtain⟨b1,off1,r,hb1,hb2,hd,e0,e1,e2,e3⟩:=NP.own.sl.nFileIn (k:=k) (by rw[NP.len,HRL7.out];exact h)
   cases hb1
   simp only[Nat.zero_add]at e0 e1 e2 e3
   have hr0:rows7[k]?=some r:=by rw[← NP.left k nl];have:=congrArg (fun m=>m[0]?) hd.out;simpa using this
   have HKL:=lH (show k<rows7_.length by rw[NP.len,HRL7.out];exact h)
   have HR0:=lH hr0;have HG:=lH (HRE7.out k r hr0);have HTB:=lH (show Enc.tot r.x≤100000000 from by have:=af1 (l:=x.Ground.Files) (x:=r.x) (by rw[← HRX7.out];exact List.mem_map_of_mem (List.mem_of_getElem? hr0));have:=(HTN7.out);omega);clear NP hd hr0
   have ez:LeN (w.heap.size+2) z8.w.heap.size:=⟨hR.out.lt⟩
   have ez7:LeN z7.w.heap.size z8.w.heap.size:=⟨hKB.out.size⟩
   have HLT:=lH h
   go_wp2_with (first|((with_reducible refine rl ?_);refine rq ?_;intro x)|(refine bQ7 rfl _ _ rfl w.heap.size 31 rfl (hB.out.to ii) _ rfl _ Tryz.underlying74 rfl ?_))
   have HF:=lH (j5.new z8.w [.int .i64 r.x.File,.int .i64 r.x.Size,.int .i64 r.x.Check,.slice r.a r.x.Parts.length r.c] 179 z8.w.heap.size rfl)
   refine bv4 (fun _ _ _ _ _ h=>h) fun KK hPK hKK=>?_
   refine wp_region_held_drew (S:=fun W=>j5 W (w.heap.size) [.int .i64 x.Time,.int .i64 x.Light,.int .i64 x.Drift.Rate,.int .i64 x.Drift.Offset,.int .i64 x.Orbit.Period,.int .i64 x.Orbit.Start,.int .i64 x.Orbit.Length,.slice na0 x.Plan.length nc0,.int .i64 x.Up.Seed,.int .i64 x.Up.Burst,.int .i64 x.Up.Loss,.int .i64 x.Down.Seed,.int .i64 x.Down.Burst,.int .i64 x.Down.Loss,.slice na1 x.Ups.length nc1,.slice na2 x.Downs.length nc2,.slice na3 x.Ground.Offers.length nc3,.int .i64 x.Ground.Sender.Next,.int .i64 x.Ground.Sender.Window,.slice b4a0 x.Ground.Sender.Waiting.length b4c0,.int .i64 x.Ground.Sender.Done,.int .i64 x.Ground.Notice.Expect,.bool x.Ground.Notice.Locked,.bool x.Ground.Notice.Again,.int .i64 x.Ground.Unpacker.Channel,.int .i64 x.Ground.Unpacker.Next,.bool x.Ground.Unpacker.Synced,.string x.Ground.Unpacker.Rest,.int .i64 x.Ground.Unpacker.Lost,.slice na5 x.Ground.Pairs.length nc5,.slice na6 x.Ground.Records.length nc6,.slice (some ⟨g,0,none⟩) x.Ground.Files.length nc7,.slice A.a8 x.Ground.Told.length A.c8,.int .i64 x.Space.Receiver.Expect,.bool x.Space.Receiver.Locked,.bool x.Space.Receiver.Again,.int .i64 x.Space.Receiver.Taken,.int .i64 x.Space.Board.Clock,.slice A.a9 x.Space.Board.Params.length A.c9,.bool x.Space.Board.Safe,.slice A.a10 x.Space.Board.Limits.length A.c10,.slice A.a11 x.Space.Board.Orders.length A.c11,.slice A.a12 x.Space.Board.Done.length A.c12,.int .i64 x.Space.Board.Recorder.Room,.slice A.a13 x.Space.Board.Recorder.Records.length A.c13,.slice A.a14 x.Space.Board.Recorder.Dropped.length A.c14,.int .i64 x.Space.Board.Made,.int .i64 x.Space.Board.Taken,.slice A.a15 x.Space.Board.Asked.length A.c15,.int .i64 x.Space.Packer.Channel,.int .i64 x.Space.Packer.Count,.string x.Space.Packer.Rest,.slice A.a16 x.Space.Packer.Starts.length A.c16,.int .i64 x.Space.Seq,.slice A.a17 x.Space.Files.length A.c17,.slice A.a18 x.Space.Outs.length A.c18,.int .i64 x.Space.Begun,.slice A.a19 x.Space.Sent.length A.c19,.slice A.a20 x.Offered.length A.c20,.slice A.a21 x.Took.length A.c21,.int .i64 x.Bad] 90∧j5 W z8.w.heap.size [.int .i64 r.x.File,.int .i64 r.x.Size,.int .i64 r.x.Check,.slice r.a r.x.Parts.length r.c] 179) kr ⟨hB.out.to ii,HF.out.to ii⟩ (fun hH=>?_)
   refine wpAnyH_take (i:=0) (v:=?vh0) rfl kr kr kr (fun _ _ _ h=>hPK.out _ _ _ _ _ h) (Or.inl ⟨by rfl,?yh0⟩) (by assumption) ?rh0
   case yh0=>intro w hSw;clear hSw;go_simp;(try with_reducible rfl)
   (try simp only[nrm])
   refine wpAnyH_take (i:=1) (v:=?vh1) rfl kr kr kr (fun _ _ _ h=>hPK.out _ _ _ _ _ h) (Or.inl ⟨by rfl,?yh1⟩) (by assumption) ?rh1
   case yh1=>intro w hSw;clear hSw;go_simp;(try with_reducible rfl)
   (try simp only[nrm])
   refine wpAnyH_take (i:=2) (v:=?vh2) rfl kr kr kr (fun _ _ _ h=>hPK.out _ _ _ _ _ h) (Or.inl ⟨by rfl,?yh2⟩) (by assumption) ?rh2
   case yh2=>intro w hSw;clear hSw;go_simp;(try with_reducible rfl)
   (try simp only[nrm])
   refine wpAnyH_take (i:=3) (v:=_) rfl kr kr kr (fun _ _ _ h=>hPK.out _ _ _ _ _ h) (ap3 (by rfl) _ _ rfl _ _ rfl _ _ (fun W hW=>(hW.1.cell 31).trans rfl) Tryz.underlying74 rfl) (by assumption) ?_
   (try simp only[nrm])
   refine wpAnyH_take (i:=4) (v:=?vh4) rfl kr kr kr (fun _ _ _ h=>hPK.out _ _ _ _ _ h) (Or.inl ⟨by rfl,?yh4⟩) (by assumption) ?rh4
   case yh4=>intro w hSw;clear hSw;go_simp;(try with_reducible rfl)
   (try simp only[nrm])
   refine wpAnyH_take (i:=5) (v:=_) rfl kr kr kr (fun _ _ _ h=>hPK.out _ _ _ _ _ h) (yieldsIf_load_mid (by rfl) _ _ rfl _ _ rfl [.int .i64 r.x.File,.int .i64 r.x.Size,.int .i64 r.x.Check,.slice r.a r.x.Parts.length r.c] _ (fun W hW=>hW.2.range (n:=4) rfl) Tryz.underlying179 rfl kr) (by assumption) ?_
   (try simp only[nrm])
   refine wpAnyH_ready (rs:=[6]) kr si ?_
   refine AllReadyH.cons (i:=6) (rs:=[]) rfl (fun K hK=>?_) AllReadyH.nil
   refine ax9 rfl (f:=140) rfl Tryz.func140 kr kr [.agg #[.int .i64 r.x.File,.int .i64 r.x.Size,.int .i64 r.x.Check,.slice r.a r.x.Parts.length r.c]] kr ((bi7 (x:=r.x) ⟨r.a,r.c,rfl,HG.out.2.keep ii,HG.out.1⟩ HTB.out).mono ?_)
   rintro _ _ ⟨_,χ2,rfl,⟨ra,rc,rfl,no⟩,y,rfl⟩
   refine⟨_,rfl,hK.out _ _ ⟨hH.1.to ii,hH.2.to ii⟩ (fun hH2=>?_)⟩
   (try simp only[nrm])
   clear hK K hH
   have hH:=hH2;clear hH2
   refine wpAnyH_take (i:=7) (v:=?vh7) rfl kr kr kr (fun _ _ _ h=>hPK.out _ _ _ _ _ h) (Or.inl ⟨by rfl,?yh7⟩) (by assumption) ?rh7
   case yh7=>intro w hSw;clear hSw;go_simp;(try with_reducible rfl)
   (try simp only[nrm])
   refine ay1 8 rfl kr kr kr _ _ _ rfl k kr (hN.out.own.to ii) HKL.out ⟨r.x,ra,rc⟩ rfl kr kr rfl (w0:=w) ii LeN.out ?_
   intro z ho hg
   have hB2:=lH (hH.1.at hg (by have:=e7.out;omega))
   refine⟨⟨hB2.out,hH.2.at hg om⟩,?_⟩
   (try simp only[nrm])
   clear hH
   refine hKK.out _ _ _ ?_
   clear hKK hPK
   have hR2:=lH ((hR.out.to (ii:b8 _ y.w)).at hg (by have:=e7.out;omega))
   have hK2:=lH ((hKB.out.post (ii:b8 _ y.w)).far hg hg1)
   have hN2:=lH (hN.out.step (W1:=(z8.w.alloc (.cells #[.int .i64 r.x.File,.int .i64 r.x.Size,.int .i64 r.x.Check,.slice r.a r.x.Parts.length r.c] 179)).drew) ii LeN.out no.o0 ii HR0.out rfl HG.out.1 ho hg)
   clear hB hR hKB hN ho hg no HF e0 e1 e2 e3 HG HTB HR0 HKL
   have hlb:=(HT.out.2.2.2.2.2.2.2.1)
   go_wp2_with (first|((with_reducible refine rl ?_);refine rq ?_;intro x))
   go_roundw
   case rel=>exact⟨k+1,by go_num,by have:=HLT.out;omega,z,_,_,rfl,hB2.out,hR2.out,hK2.out,hN2.out⟩
   case measure=>have:=HLT.out;simp[intOf];omega
  have K8:=lH hKB.out;have HZ8:=lH hB.out;have RZ8:=lH hR.out;have O7:=lH (hN.out.fin (by rw[hN.out.len,HRL7.out];omega));have HRX_7:=lH (hN.out.xs.trans HRX7.out);clear hKB hB hR hN
  have e8:LeN (w.heap.size+2) z8.w.heap.size:=⟨RZ8.out.lt⟩
  go_wp2_with (first|((with_reducible refine rl ?_);refine rq ?_;intro x)|(refine bQ7 rfl _ _ rfl w.heap.size 32 rfl (HZ8.out.to ii) _ rfl _ Tryz.underlying41 rfl ?_))
  refine(bB3 (HFF.out.q8.keep ii) (HT.out.2.2.2.2.2.2.2.2.1)).mono ?_
  rintro _ _ ⟨na8,nc8,rfl,no8,y8,rfl⟩
  have O8:=lH no8;clear no8
  go_wp2_with (first|((with_reducible refine rl ?_);refine rq ?_;intro x)|(refine sS rfl _ _ _ rfl (w.heap.size) 32 rfl (us:=[.slice na8 x.Ground.Told.length nc8]) (cs2:=(D1 x na0 nc0 na1 nc1 na2 nc2 na3 nc3 b4a0 b4c0 na5 nc5 na6 nc6 na7 nc7 na8 nc8 A.a9 A.c9 A.a10 A.c10 A.a11 A.c11 A.a12 A.c12 A.a13 A.c13 A.a14 A.c14 A.a15 A.c15 A.a16 A.c16 A.a17 A.c17 A.a18 A.c18 A.a19 A.c19 A.a20 A.c20 A.a21 A.c21)) (HZ8.out.to ii) rfl kr rfl nb kr (w0:=w) ii si ?_;intro z9 HZ9 KQ9;have K9:=KQ9;have RZ9:=lH ((RZ8.out.to ii).but KQ9.out om);clear KQ9;have e9:LeN (w.heap.size+2) z9.w.heap.size:=⟨RZ9.out.lt⟩;clear HZ8 RZ8)|(refine al8 rfl _ _ rfl w.heap.size 37 rfl (row:=(S8 x.Space.Board A.a9 A.c9 A.a10 A.c10 A.a11 A.c11 A.a12 A.c12 A.a13 A.c13 A.a14 A.c14 A.a15 A.c15)) (HZ9.out.to ii) _ Tryz.underlying84 rfl kr kr ?_))
  refine(bs4 (x:=x.Space.Board) ⟨⟨A.a9,A.c9,A.a10,A.c10,A.a11,A.c11,A.a12,A.c12,A.a13,A.c13,A.a14,A.c14,A.a15,A.c15⟩,rfl,⟨HFF.out.q9.keep ii,HFF.out.q10.keep ii,HFF.out.q11.keep ii,HFF.out.q12.keep ii,HFF.out.q13.keep ii,HFF.out.q14.keep ii,HFF.out.q15.keep ii,HFF.out.ok.2.2.2.2.2.2.2.1.2.1⟩⟩ (HT.out.2.2.2.2.2.2.2.2.2.1)).mono ?_
  rintro _ _ ⟨_,ch9,rfl,⟨b9A,rfl,no9⟩,y9,rfl⟩
  have O9:=lH no9;clear no9
  go_wp2_with (first|((with_reducible refine rl ?_);refine rq ?_;intro x)|(refine sS rfl _ _ _ rfl (w.heap.size) 37 rfl (us:=(F8 x.Space.Board b9A)) (cs2:=(D1 x na0 nc0 na1 nc1 na2 nc2 na3 nc3 b4a0 b4c0 na5 nc5 na6 nc6 na7 nc7 na8 nc8 b9A.a0 b9A.c0 b9A.a1 b9A.c1 b9A.a2 b9A.c2 b9A.a3 b9A.c3 b9A.a4 b9A.c4 b9A.a5 b9A.c5 b9A.a6 b9A.c6 A.a16 A.c16 A.a17 A.c17 A.a18 A.c18 A.a19 A.c19 A.a20 A.c20 A.a21 A.c21)) (HZ9.out.to ii) rfl kr rfl nb kr (w0:=w) ii si ?_;intro z10 HZ10 KQ10;have K10:=KQ10;have RZ10:=lH ((RZ9.out.to ii).but KQ10.out om);clear KQ10;have e10:LeN (w.heap.size+2) z10.w.heap.size:=⟨RZ10.out.lt⟩;clear HZ9 RZ9)|(refine al8 rfl _ _ rfl w.heap.size 49 rfl (row:=[.int .i64 x.Space.Packer.Channel,.int .i64 x.Space.Packer.Count,.string x.Space.Packer.Rest,.slice A.a16 x.Space.Packer.Starts.length A.c16]) (HZ10.out.to ii) _ Tryz.underlying85 rfl kr kr ?_))
  refine(bi8 (x:=x.Space.Packer) ⟨A.a16,A.c16,rfl,HFF.out.q16.keep ii,HFF.out.ok.2.2.2.2.2.2.2.1.2.2.1⟩ (HT.out.2.2.2.2.2.2.2.2.2.2.1)).mono ?_
  rintro _ _ ⟨_,ch10,rfl,⟨b10a0,b10c0,rfl,no10⟩,y10,rfl⟩
  have O10:=lH no10;clear no10
  go_wp2_with (first|((with_reducible refine rl ?_);refine rq ?_;intro x)|(refine sS rfl _ _ _ rfl (w.heap.size) 49 rfl (us:=[.int .i64 x.Space.Packer.Channel,.int .i64 x.Space.Packer.Count,.string x.Space.Packer.Rest,.slice b10a0 x.Space.Packer.Starts.length b10c0]) (cs2:=(D1 x na0 nc0 na1 nc1 na2 nc2 na3 nc3 b4a0 b4c0 na5 nc5 na6 nc6 na7 nc7 na8 nc8 b9A.a0 b9A.c0 b9A.a1 b9A.c1 b9A.a2 b9A.c2 b9A.a3 b9A.c3 b9A.a4 b9A.c4 b9A.a5 b9A.c5 b9A.a6 b9A.c6 b10a0 b10c0 A.a17 A.c17 A.a18 A.c18 A.a19 A.c19 A.a20 A.c20 A.a21 A.c21)) (HZ10.out.to ii) rfl kr rfl nb kr (w0:=w) ii si ?_;intro z11 HZ11 KQ11;have K11:=KQ11;have RZ11:=lH ((RZ10.out.to ii).but KQ11.out om);clear KQ11;have e11:LeN (w.heap.size+2) z11.w.heap.size:=⟨RZ11.out.lt⟩;clear HZ10 RZ10)|(refine bQ7 rfl _ _ rfl w.heap.size 54 rfl (HZ11.out.to ii) _ rfl _ Tryz.underlying30 rfl ?_))
  refine(ae8 (HFF.out.q17.keep ii) (HT.out.2.2.2.2.2.2.2.2.2.2.2.1)).mono ?_
  rintro _ _ ⟨na17,nc17,rfl,no17,y11,rfl⟩
  have O11:=lH no17;clear no17
  go_wp2_with (first|((with_reducible refine rl ?_);refine rq ?_;intro x)|(refine sS rfl _ _ _ rfl (w.heap.size) 54 rfl (us:=[.slice na17 x.Space.Files.length nc17]) (cs2:=(D1 x na0 nc0 na1 nc1 na2 nc2 na3 nc3 b4a0 b4c0 na5 nc5 na6 nc6 na7 nc7 na8 nc8 b9A.a0 b9A.c0 b9A.a1 b9A.c1 b9A.a2 b9A.c2 b9A.a3 b9A.c3 b9A.a4 b9A.c4 b9A.a5 b9A.c5 b9A.a6 b9A.c6 b10a0 b10c0 na17 nc17 A.a18 A.c18 A.a19 A.c19 A.a20 A.c20 A.a21 A.c21)) (HZ11.out.to ii) rfl kr rfl nb kr (w0:=w) ii si ?_;intro z12 HZ12 KQ12;have K12:=KQ12;have RZ12:=lH ((RZ11.out.to ii).but KQ12.out om);clear KQ12;have e12:LeN (w.heap.size+2) z12.w.heap.size:=⟨RZ12.out.lt⟩;clear HZ11 RZ11)|(refine bQ7 rfl _ _ rfl w.heap.size 55 rfl (HZ12.out.to ii) _ rfl _ Tryz.underlying86 rfl ?_))
  refine(aQ9 (HRS12.out.to ii) HRL12.out (HT.out.2.2.2.2.2.2.2.2.2.2.2.2.1)).mono ?_
  rintro _ _ ⟨na18,nc18,rfl,no18,y12,rfl⟩
  rw[HRL12.out]
  have O12:=lH (as6.start no18);clear no18
  go_wp2_with (first|((with_reducible refine rl ?_);refine rq ?_;intro x)|(refine Q7 rfl _ _ _ rfl (w.heap.size) 55 rfl (us:=[.slice na18 x.Space.Outs.length nc18]) (cs2:=(D1 x na0 nc0 na1 nc1 na2 nc2 na3 nc3 b4a0 b4c0 na5 nc5 na6 nc6 na7 nc7 na8 nc8 b9A.a0 b9A.c0 b9A.a1 b9A.c1 b9A.a2 b9A.c2 b9A.a3 b9A.c3 b9A.a4 b9A.c4 b9A.a5 b9A.c5 b9A.a6 b9A.c6 b10a0 b10c0 na17 nc17 na18 nc18 A.a19 A.c19 A.a20 A.c20 A.a21 A.c21)) (HZ12.out.to ii) rfl kr rfl nb kr (w0:=w) ii si ?_;intro zq12 hq12 kq12;have HQZ12:=lH hq12;have KQ12:=lH (kq12.pre (ii:b8 z12.w y12.w));have RQZ12:=lH ((RZ12.out.to ii).but kq12 om);have OQ12:=lH (O12.out.but kq12 (by have:=e12.out;omega));clear O12 kq12 hq12)|(refine bQ7 rfl _ _ rfl w.heap.size 55 rfl (HQZ12.out.to ii) _ rfl _ Tryz.underlying86 rfl ?_))
  go_loopw [127] (fun v wr=>∃ k:Nat,v=.int .i64 k∧k≤x.Space.Outs.length∧∃ (Z:b7 w) (χ:Nat→Col) (rows:List (N2 s7)),wr=Z.w∧Hid (j5 Z.w (w.heap.size) (D1 x na0 nc0 na1 nc1 na2 nc2 na3 nc3 b4a0 b4c0 na5 nc5 na6 nc6 na7 nc7 na8 nc8 b9A.a0 b9A.c0 b9A.a1 b9A.c1 b9A.a2 b9A.c2 b9A.a3 b9A.c3 b9A.a4 b9A.c4 b9A.a5 b9A.c5 b9A.a6 b9A.c6 b10a0 b10c0 na17 nc17 na18 nc18 A.a19 A.c19 A.a20 A.c20 A.a21 A.c21) 90)∧Hid (j5 Z.w (w.heap.size+1) A3 90)∧Hid (But (w.heap.size) z12.w Z.w)∧Hid (as6 z12.w.heap.size χ Z.w na18 nc18 rows12 rows k)) (fun v _=>(x.Space.Outs.length - intOf v).toNat)
  case atStart=>exact⟨0,rfl,by omega,zq12,_,_,rfl,HQZ12.out,RQZ12.out,KQ12.out,OQ12.out⟩
  case round =>
   obtain⟨k,rfl,hk,z13,ch12,rows12_,rfl,hB,hR,hKB,hN⟩:=hrel
   clear HQZ12 RQZ12 KQ12 OQ12
   by_cases h:k<x.Space.Outs.length
   ·have NP:=hN.out
    obtain⟨g,rfl,hg1,hg2⟩:=NP.own.open (n:=0) (by rw[NP.len,HRL12.out];omega)
    obtain⟨b1,off1,r,hb1,hb2,hd,e0,e1,e2,e3⟩:=NP.own.sl.nFileOut (k:=k) (by rw[NP.len,HRL12.out];exact h)
    cases hb1
    simp only[Nat.zero_add]at e0 e1 e2 e3
    have hr0:rows12[k]?=some r:=by rw[← NP.left k nl];have:=congrArg (fun m=>m[0]?) hd.out;simpa using this
    have HKL:=lH (show k<rows12_.length by rw[NP.len,HRL12.out];exact h)
    have HR0:=lH hr0;have HG:=lH (HRE12.out k r hr0);have HTB:=lH (show Enc.tot r.x≤100000000 from by have:=af1 (l:=x.Space.Outs) (x:=r.x) (by rw[← HRX12.out];exact List.mem_map_of_mem (List.mem_of_getElem? hr0));have:=(HTN12.out);omega);clear NP hd hr0
    have ez:LeN (w.heap.size+2) z13.w.heap.size:=⟨hR.out.lt⟩
    have ez7:LeN z12.w.heap.size z13.w.heap.size:=⟨hKB.out.size⟩
    have HLT:=lH h
    go_wp2_with (first|((with_reducible refine rl ?_);refine rq ?_;intro x)|(refine bQ7 rfl _ _ rfl w.heap.size 55 rfl (hB.out.to ii) _ rfl _ Tryz.underlying86 rfl ?_))
    have HF:=lH (j5.new z13.w [.int .i64 r.x.File,.string r.x.Data,.slice r.a r.x.Queue.length r.c,.bool r.x.Done] 183 z13.w.heap.size rfl)
    refine bv4 (fun _ _ _ _ _ h=>h) fun KK hPK hKK=>?_
    refine wp_region_held_drew (S:=fun W=>j5 W (w.heap.size) [.int .i64 x.Time,.int .i64 x.Light,.int .i64 x.Drift.Rate,.int .i64 x.Drift.Offset,.int .i64 x.Orbit.Period,.int .i64 x.Orbit.Start,.int .i64 x.Orbit.Length,.slice na0 x.Plan.length nc0,.int .i64 x.Up.Seed,.int .i64 x.Up.Burst,.int .i64 x.Up.Loss,.int .i64 x.Down.Seed,.int .i64 x.Down.Burst,.int .i64 x.Down.Loss,.slice na1 x.Ups.length nc1,.slice na2 x.Downs.length nc2,.slice na3 x.Ground.Offers.length nc3,.int .i64 x.Ground.Sender.Next,.int .i64 x.Ground.Sender.Window,.slice b4a0 x.Ground.Sender.Waiting.length b4c0,.int .i64 x.Ground.Sender.Done,.int .i64 x.Ground.Notice.Expect,.bool x.Ground.Notice.Locked,.bool x.Ground.Notice.Again,.int .i64 x.Ground.Unpacker.Channel,.int .i64 x.Ground.Unpacker.Next,.bool x.Ground.Unpacker.Synced,.string x.Ground.Unpacker.Rest,.int .i64 x.Ground.Unpacker.Lost,.slice na5 x.Ground.Pairs.length nc5,.slice na6 x.Ground.Records.length nc6,.slice na7 x.Ground.Files.length nc7,.slice na8 x.Ground.Told.length nc8,.int .i64 x.Space.Receiver.Expect,.bool x.Space.Receiver.Locked,.bool x.Space.Receiver.Again,.int .i64 x.Space.Receiver.Taken,.int .i64 x.Space.Board.Clock,.slice b9A.a0 x.Space.Board.Params.length b9A.c0,.bool x.Space.Board.Safe,.slice b9A.a1 x.Space.Board.Limits.length b9A.c1,.slice b9A.a2 x.Space.Board.Orders.length b9A.c2,.slice b9A.a3 x.Space.Board.Done.length b9A.c3,.int .i64 x.Space.Board.Recorder.Room,.slice b9A.a4 x.Space.Board.Recorder.Records.length b9A.c4,.slice b9A.a5 x.Space.Board.Recorder.Dropped.length b9A.c5,.int .i64 x.Space.Board.Made,.int .i64 x.Space.Board.Taken,.slice b9A.a6 x.Space.Board.Asked.length b9A.c6,.int .i64 x.Space.Packer.Channel,.int .i64 x.Space.Packer.Count,.string x.Space.Packer.Rest,.slice b10a0 x.Space.Packer.Starts.length b10c0,.int .i64 x.Space.Seq,.slice na17 x.Space.Files.length nc17,.slice (some ⟨g,0,none⟩) x.Space.Outs.length nc18,.int .i64 x.Space.Begun,.slice A.a19 x.Space.Sent.length A.c19,.slice A.a20 x.Offered.length A.c20,.slice A.a21 x.Took.length A.c21,.int .i64 x.Bad] 90∧j5 W z13.w.heap.size [.int .i64 r.x.File,.string r.x.Data,.slice r.a r.x.Queue.length r.c,.bool r.x.Done] 183) kr ⟨hB.out.to ii,HF.out.to ii⟩ (fun hH=>?_)
    refine wpAnyH_take (i:=0) (v:=?vm0) rfl kr kr kr (fun _ _ _ h=>hPK.out _ _ _ _ _ h) (Or.inl ⟨by rfl,?ym0⟩) (by assumption) ?rm0
    case ym0=>intro w hSw;clear hSw;go_simp;(try with_reducible rfl)
    (try simp only[nrm])
    refine wpAnyH_take (i:=1) (v:=?vm1) rfl kr kr kr (fun _ _ _ h=>hPK.out _ _ _ _ _ h) (Or.inl ⟨by rfl,?ym1⟩) (by assumption) ?rm1
    case ym1=>intro w hSw;clear hSw;go_simp;(try with_reducible rfl)
    (try simp only[nrm])
    refine wpAnyH_take (i:=2) (v:=?vm2) rfl kr kr kr (fun _ _ _ h=>hPK.out _ _ _ _ _ h) (Or.inl ⟨by rfl,?ym2⟩) (by assumption) ?rm2
    case ym2=>intro w hSw;clear hSw;go_simp;(try with_reducible rfl)
    (try simp only[nrm])
    refine wpAnyH_take (i:=3) (v:=_) rfl kr kr kr (fun _ _ _ h=>hPK.out _ _ _ _ _ h) (ap3 (by rfl) _ _ rfl _ _ rfl _ _ (fun W hW=>(hW.1.cell 55).trans rfl) Tryz.underlying86 rfl) (by assumption) ?_
    (try simp only[nrm])
    refine wpAnyH_take (i:=4) (v:=?vm4) rfl kr kr kr (fun _ _ _ h=>hPK.out _ _ _ _ _ h) (Or.inl ⟨by rfl,?ym4⟩) (by assumption) ?rm4
    case ym4=>intro w hSw;clear hSw;go_simp;(try with_reducible rfl)
    (try simp only[nrm])
    refine wpAnyH_take (i:=5) (v:=_) rfl kr kr kr (fun _ _ _ h=>hPK.out _ _ _ _ _ h) (yieldsIf_load_mid (by rfl) _ _ rfl _ _ rfl [.int .i64 r.x.File,.string r.x.Data,.slice r.a r.x.Queue.length r.c,.bool r.x.Done] _ (fun W hW=>hW.2.range (n:=4) rfl) Tryz.underlying183 rfl kr) (by assumption) ?_
    (try simp only[nrm])
    refine wpAnyH_ready (rs:=[6]) kr si ?_
    refine AllReadyH.cons (i:=6) (rs:=[]) rfl (fun K hK=>?_) AllReadyH.nil
    refine ax9 rfl (f:=145) rfl Tryz.func145 kr kr [.agg #[.int .i64 r.x.File,.string r.x.Data,.slice r.a r.x.Queue.length r.c,.bool r.x.Done]] kr ((bd8 (x:=r.x) ⟨r.a,r.c,rfl,HG.out.2.keep ii,HG.out.1⟩ HTB.out).mono ?_)
    rintro _ _ ⟨_,χ2,rfl,⟨ra,rc,rfl,no⟩,y,rfl⟩
    refine⟨_,rfl,hK.out _ _ ⟨hH.1.to ii,hH.2.to ii⟩ (fun hH2=>?_)⟩
    (try simp only[nrm])
    clear hK K hH
    have hH:=hH2;clear hH2
    refine wpAnyH_take (i:=7) (v:=?vm7) rfl kr kr kr (fun _ _ _ h=>hPK.out _ _ _ _ _ h) (Or.inl ⟨by rfl,?ym7⟩) (by assumption) ?rm7
    case ym7=>intro w hSw;clear hSw;go_simp;(try with_reducible rfl)
    (try simp only[nrm])
    refine ay1 8 rfl kr kr kr _ _ _ rfl k kr (hN.out.own.to ii) HKL.out ⟨r.x,ra,rc⟩ rfl kr kr rfl (w0:=w) ii LeN.out ?_
    intro z ho hg
    have hB2:=lH (hH.1.at hg (by have:=e12.out;omega))
    refine⟨⟨hB2.out,hH.2.at hg om⟩,?_⟩
    (try simp only[nrm])
    clear hH
    refine hKK.out _ _ _ ?_
    clear hKK hPK
    have hR2:=lH ((hR.out.to (ii:b8 _ y.w)).at hg (by have:=e12.out;omega))
    have hK2:=lH ((hKB.out.post (ii:b8 _ y.w)).far hg hg1)
    have hN2:=lH (hN.out.step (W1:=(z13.w.alloc (.cells #[.int .i64 r.x.File,.string r.x.Data,.slice r.a r.x.Queue.length r.c,.bool r.x.Done] 183)).drew) ii LeN.out no.o0 ii HR0.out rfl HG.out.1 ho hg)
    clear hB hR hKB hN ho hg no HF e0 e1 e2 e3 HG HTB HR0 HKL
    have hlb:=(HT.out.2.2.2.2.2.2.2.2.2.2.2.2.1)
    go_wp2_with (first|((with_reducible refine rl ?_);refine rq ?_;intro x))
    go_roundw
    case rel=>exact⟨k+1,by go_num,by have:=HLT.out;omega,z,_,_,rfl,hB2.out,hR2.out,hK2.out,hN2.out⟩
    case measure=>have:=HLT.out;simp[intOf];omega
   have K13:=lH hKB.out;have HZ13:=lH hB.out;have RZ13:=lH hR.out;have O12:=lH (hN.out.fin (by rw[hN.out.len,HRL12.out];omega));have HRX_12:=lH (hN.out.xs.trans HRX12.out);clear hKB hB hR hN
   have e13:LeN (w.heap.size+2) z13.w.heap.size:=⟨RZ13.out.lt⟩
   go_wp2_with (first|((with_reducible refine rl ?_);refine rq ?_;intro x)|(refine bQ7 rfl _ _ rfl w.heap.size 57 rfl (HZ13.out.to ii) _ rfl _ Tryz.underlying73 rfl ?_))
   refine(au9 (HFF.out.q19.keep ii) (HT.out.2.2.2.2.2.2.2.2.2.2.2.2.2.1)).mono ?_
   rintro _ _ ⟨na19,nc19,rfl,no19,y13,rfl⟩
   have O13:=lH no19;clear no19
   go_wp2_with (first|((with_reducible refine rl ?_);refine rq ?_;intro x)|(refine sS rfl _ _ _ rfl (w.heap.size) 57 rfl (us:=[.slice na19 x.Space.Sent.length nc19]) (cs2:=(D1 x na0 nc0 na1 nc1 na2 nc2 na3 nc3 b4a0 b4c0 na5 nc5 na6 nc6 na7 nc7 na8 nc8 b9A.a0 b9A.c0 b9A.a1 b9A.c1 b9A.a2 b9A.c2 b9A.a3 b9A.c3 b9A.a4 b9A.c4 b9A.a5 b9A.c5 b9A.a6 b9A.c6 b10a0 b10c0 na17 nc17 na18 nc18 na19 nc19 A.a20 A.c20 A.a21 A.c21)) (HZ13.out.to ii) rfl kr rfl nb kr (w0:=w) ii si ?_;intro z14 HZ14 KQ14;have K14:=KQ14;have RZ14:=lH ((RZ13.out.to ii).but KQ14.out om);clear KQ14;have e14:LeN (w.heap.size+2) z14.w.heap.size:=⟨RZ14.out.lt⟩;clear HZ13 RZ13)|(refine bQ7 rfl _ _ rfl w.heap.size 58 rfl (HZ14.out.to ii) _ rfl _ Tryz.underlying30 rfl ?_))
   refine(ae8 (HFF.out.q20.keep ii) (HT.out.2.2.2.2.2.2.2.2.2.2.2.2.2.2.1)).mono ?_
   rintro _ _ ⟨na20,nc20,rfl,no20,y14,rfl⟩
   have O14:=lH no20;clear no20
   go_wp2_with (first|((with_reducible refine rl ?_);refine rq ?_;intro x)|(refine sS rfl _ _ _ rfl (w.heap.size) 58 rfl (us:=[.slice na20 x.Offered.length nc20]) (cs2:=(D1 x na0 nc0 na1 nc1 na2 nc2 na3 nc3 b4a0 b4c0 na5 nc5 na6 nc6 na7 nc7 na8 nc8 b9A.a0 b9A.c0 b9A.a1 b9A.c1 b9A.a2 b9A.c2 b9A.a3 b9A.c3 b9A.a4 b9A.c4 b9A.a5 b9A.c5 b9A.a6 b9A.c6 b10a0 b10c0 na17 nc17 na18 nc18 na19 nc19 na20 nc20 A.a21 A.c21)) (HZ14.out.to ii) rfl kr rfl nb kr (w0:=w) ii si ?_;intro z15 HZ15 KQ15;have K15:=KQ15;have RZ15:=lH ((RZ14.out.to ii).but KQ15.out om);clear KQ15;have e15:LeN (w.heap.size+2) z15.w.heap.size:=⟨RZ15.out.lt⟩;clear HZ14 RZ14)|(refine bQ7 rfl _ _ rfl w.heap.size 59 rfl (HZ15.out.to ii) _ rfl _ Tryz.underlying30 rfl ?_))
   refine(ae8 (HFF.out.q21.keep ii) (HT.out.2.2.2.2.2.2.2.2.2.2.2.2.2.2.2.1)).mono ?_
   rintro _ _ ⟨na21,nc21,rfl,no21,y15,rfl⟩
   have O15:=lH no21;clear no21
   go_wp2_with (first|((with_reducible refine rl ?_);refine rq ?_;intro x)|(refine sS rfl _ _ _ rfl (w.heap.size) 59 rfl (us:=[.slice na21 x.Took.length nc21]) (cs2:=(D1 x na0 nc0 na1 nc1 na2 nc2 na3 nc3 b4a0 b4c0 na5 nc5 na6 nc6 na7 nc7 na8 nc8 b9A.a0 b9A.c0 b9A.a1 b9A.c1 b9A.a2 b9A.c2 b9A.a3 b9A.c3 b9A.a4 b9A.c4 b9A.a5 b9A.c5 b9A.a6 b9A.c6 b10a0 b10c0 na17 nc17 na18 nc18 na19 nc19 na20 nc20 na21 nc21)) (HZ15.out.to ii) rfl kr rfl nb kr (w0:=w) ii si ?_;intro z16 HZ16 KQ16;have K16:=KQ16;have RZ16:=lH ((RZ15.out.to ii).but KQ16.out om);clear KQ16;have e16:LeN (w.heap.size+2) z16.w.heap.size:=⟨RZ16.out.lt⟩;clear HZ15 RZ15)|(refine al8 rfl _ _ rfl (w.heap.size) 0 rfl (row:=(D1 x na0 nc0 na1 nc1 na2 nc2 na3 nc3 b4a0 b4c0 na5 nc5 na6 nc6 na7 nc7 na8 nc8 b9A.a0 b9A.c0 b9A.a1 b9A.c1 b9A.a2 b9A.c2 b9A.a3 b9A.c3 b9A.a4 b9A.c4 b9A.a5 b9A.c5 b9A.a6 b9A.c6 b10a0 b10c0 na17 nc17 na18 nc18 na19 nc19 na20 nc20 na21 nc21)) (HZ16.out.to ii) _ Tryz.underlying90 rfl kr kr ?_)|(refine sS rfl _ _ _ rfl (w.heap.size+1) 0 rfl (us:=(D1 x na0 nc0 na1 nc1 na2 nc2 na3 nc3 b4a0 b4c0 na5 nc5 na6 nc6 na7 nc7 na8 nc8 b9A.a0 b9A.c0 b9A.a1 b9A.c1 b9A.a2 b9A.c2 b9A.a3 b9A.c3 b9A.a4 b9A.c4 b9A.a5 b9A.c5 b9A.a6 b9A.c6 b10a0 b10c0 na17 nc17 na18 nc18 na19 nc19 na20 nc20 na21 nc21)) (cs2:=(D1 x na0 nc0 na1 nc1 na2 nc2 na3 nc3 b4a0 b4c0 na5 nc5 na6 nc6 na7 nc7 na8 nc8 b9A.a0 b9A.c0 b9A.a1 b9A.c1 b9A.a2 b9A.c2 b9A.a3 b9A.c3 b9A.a4 b9A.c4 b9A.a5 b9A.c5 b9A.a6 b9A.c6 b10a0 b10c0 na17 nc17 na18 nc18 na19 nc19 na20 nc20 na21 nc21)) (RZ16.out.to ii) rfl kr rfl nb kr (w0:=w) ii si ?_;intro zr HR KQr;have KR:=KQr;clear KQr))
   have GZ16:d7 (w.heap.size+2) z16.w zr.w:=KR.out.keeps om
   have GY15:d7 (w.heap.size+2) y15.w zr.w:=d7.trans (K16.out.keeps om) GZ16
   have GZ15:d7 (w.heap.size+2) z15.w zr.w:=d7.trans (ii:d7 (w.heap.size+2) z15.w y15.w) GY15
   have GY14:d7 (w.heap.size+2) y14.w zr.w:=d7.trans (K15.out.keeps om) GZ15
   have GZ14:d7 (w.heap.size+2) z14.w zr.w:=d7.trans (ii:d7 (w.heap.size+2) z14.w y14.w) GY14
   have GY13:d7 (w.heap.size+2) y13.w zr.w:=d7.trans (K14.out.keeps om) GZ14
   have GZ13:d7 (w.heap.size+2) z13.w zr.w:=d7.trans (ii:d7 (w.heap.size+2) z13.w y13.w) GY13
   have GY12:d7 (w.heap.size+2) z13.w zr.w:=GZ13
   have GZ12:d7 (w.heap.size+2) z12.w zr.w:=d7.trans (K13.out.keeps om) GZ13
   have GY11:d7 (w.heap.size+2) y11.w zr.w:=d7.trans (K12.out.keeps om) GZ12
   have GZ11:d7 (w.heap.size+2) z11.w zr.w:=d7.trans (ii:d7 (w.heap.size+2) z11.w y11.w) GY11
   have GY10:d7 (w.heap.size+2) y10.w zr.w:=d7.trans (K11.out.keeps om) GZ11
   have GZ10:d7 (w.heap.size+2) z10.w zr.w:=d7.trans (ii:d7 (w.heap.size+2) z10.w y10.w) GY10
   have GY9:d7 (w.heap.size+2) y9.w zr.w:=d7.trans (K10.out.keeps om) GZ10
   have GZ9:d7 (w.heap.size+2) z9.w zr.w:=d7.trans (ii:d7 (w.heap.size+2) z9.w y9.w) GY9
   have GY8:d7 (w.heap.size+2) y8.w zr.w:=d7.trans (K9.out.keeps om) GZ9
   have GZ8:d7 (w.heap.size+2) z8.w zr.w:=d7.trans (ii:d7 (w.heap.size+2) z8.w y8.w) GY8
   have GY7:d7 (w.heap.size+2) z8.w zr.w:=GZ8
   have GZ7:d7 (w.heap.size+2) z7.w zr.w:=d7.trans (K8.out.keeps om) GZ8
   have GY6:d7 (w.heap.size+2) y6.w zr.w:=d7.trans (K7.out.keeps om) GZ7
   have GZ6:d7 (w.heap.size+2) z6.w zr.w:=d7.trans (ii:d7 (w.heap.size+2) z6.w y6.w) GY6
   have GY5:d7 (w.heap.size+2) y5.w zr.w:=d7.trans (K6.out.keeps om) GZ6
   have GZ5:d7 (w.heap.size+2) z5.w zr.w:=d7.trans (ii:d7 (w.heap.size+2) z5.w y5.w) GY5
   have GY4:d7 (w.heap.size+2) y4.w zr.w:=d7.trans (K5.out.keeps om) GZ5
   have GZ4:d7 (w.heap.size+2) z4.w zr.w:=d7.trans (ii:d7 (w.heap.size+2) z4.w y4.w) GY4
   have GY3:d7 (w.heap.size+2) y3.w zr.w:=d7.trans (K4.out.keeps om) GZ4
   have GZ3:d7 (w.heap.size+2) z3.w zr.w:=d7.trans (ii:d7 (w.heap.size+2) z3.w y3.w) GY3
   have GY2:d7 (w.heap.size+2) y2.w zr.w:=d7.trans (K3.out.keeps om) GZ3
   have GZ2:d7 (w.heap.size+2) z2.w zr.w:=d7.trans (ii:d7 (w.heap.size+2) z2.w y2.w) GY2
   have GY1:d7 (w.heap.size+2) y1.w zr.w:=d7.trans (K2.out.keeps om) GZ2
   have GZ1:d7 (w.heap.size+2) z1.w zr.w:=d7.trans (ii:d7 (w.heap.size+2) z1.w y1.w) GY1
   have GY0:d7 (w.heap.size+2) y0.w zr.w:=d7.trans (K1.out.keeps om) GZ1
   obtain⟨D,hD⟩:∃ D:List (Nat × Nat × (Nat→Col)),D=[(y0.w.heap.size,0,(fun _=>(0,0))),(y1.w.heap.size,1,(fun _=>(0,0))),(y2.w.heap.size,2,(fun _=>(0,0))),(y3.w.heap.size,3,(fun _=>(0,0))),(y4.w.heap.size,4,ch4),(y5.w.heap.size,5,(fun _=>(0,0))),(y6.w.heap.size,6,(fun _=>(0,0))),(z8.w.heap.size,7,ch7),(y8.w.heap.size,8,(fun _=>(0,0))),(y9.w.heap.size,9,ch9),(y10.w.heap.size,16,ch10),(y11.w.heap.size,17,(fun _=>(0,0))),(z13.w.heap.size,18,ch12),(y13.w.heap.size,19,(fun _=>(0,0))),(y14.w.heap.size,20,(fun _=>(0,0))),(y15.w.heap.size,21,(fun _=>(0,0)))]:=⟨_,rfl⟩
   have e0:D[0]?=some (y0.w.heap.size,0,(fun _=>(0,0))):=by rw[hD];rfl
   have e1:D[1]?=some (y1.w.heap.size,1,(fun _=>(0,0))):=by rw[hD];rfl
   have e2:D[2]?=some (y2.w.heap.size,2,(fun _=>(0,0))):=by rw[hD];rfl
   have e3:D[3]?=some (y3.w.heap.size,3,(fun _=>(0,0))):=by rw[hD];rfl
   have e4:D[4]?=some (y4.w.heap.size,4,ch4):=by rw[hD];rfl
   have e5:D[5]?=some (y5.w.heap.size,5,(fun _=>(0,0))):=by rw[hD];rfl
   have e6:D[6]?=some (y6.w.heap.size,6,(fun _=>(0,0))):=by rw[hD];rfl
   have e7:D[7]?=some (z8.w.heap.size,7,ch7):=by rw[hD];rfl
   have e8:D[8]?=some (y8.w.heap.size,8,(fun _=>(0,0))):=by rw[hD];rfl
   have e9:D[9]?=some (y9.w.heap.size,9,ch9):=by rw[hD];rfl
   have e10:D[10]?=some (y10.w.heap.size,16,ch10):=by rw[hD];rfl
   have e11:D[11]?=some (y11.w.heap.size,17,(fun _=>(0,0))):=by rw[hD];rfl
   have e12:D[12]?=some (z13.w.heap.size,18,ch12):=by rw[hD];rfl
   have e13:D[13]?=some (y13.w.heap.size,19,(fun _=>(0,0))):=by rw[hD];rfl
   have e14:D[14]?=some (y14.w.heap.size,20,(fun _=>(0,0))):=by rw[hD];rfl
   have e15:D[15]?=some (y15.w.heap.size,21,(fun _=>(0,0))):=by rw[hD];rfl
   clear hD
   have P0:∀ b,j9 D b=j9 (D.drop 0) b:=fun _=>rfl
   have C0:∀ b,((w.alloc (.cells (s9 x A).toArray 90)).alloc (.cells A3.toArray 90)).heap.size≤b→b<y0.w.heap.size→j9 D b=B9 0 ((fun _=>(0,0)) b):=fun b h1 h2=>(P0 b).trans (i9 e0 h2)
   have P1:∀ b,y0.w.heap.size≤b→j9 D b=j9 (D.drop 1) b:=fun b hb=>(P0 b).trans (f8 e0 hb)
   have C1:∀ b,z1.w.heap.size≤b→b<y1.w.heap.size→j9 D b=B9 1 ((fun _=>(0,0)) b):=fun b h1 h2=>(P1 b (Nat.le_trans K1.out.size h1)).trans (i9 e1 h2)
   have P2:∀ b,y1.w.heap.size≤b→j9 D b=j9 (D.drop 2) b:=fun b hb=>(P1 b (Nat.le_trans (Nat.le_trans K1.out.size y1.size_le) hb)).trans (f8 e1 hb)
   have C2:∀ b,z2.w.heap.size≤b→b<y2.w.heap.size→j9 D b=B9 2 ((fun _=>(0,0)) b):=fun b h1 h2=>(P2 b (Nat.le_trans K2.out.size h1)).trans (i9 e2 h2)
   have P3:∀ b,y2.w.heap.size≤b→j9 D b=j9 (D.drop 3) b:=fun b hb=>(P2 b (Nat.le_trans (Nat.le_trans K2.out.size y2.size_le) hb)).trans (f8 e2 hb)
   have C3:∀ b,z3.w.heap.size≤b→b<y3.w.heap.size→j9 D b=B9 3 ((fun _=>(0,0)) b):=fun b h1 h2=>(P3 b (Nat.le_trans K3.out.size h1)).trans (i9 e3 h2)
   have P4:∀ b,y3.w.heap.size≤b→j9 D b=j9 (D.drop 4) b:=fun b hb=>(P3 b (Nat.le_trans (Nat.le_trans K3.out.size y3.size_le) hb)).trans (f8 e3 hb)
   have C4:∀ b,z4.w.heap.size≤b→b<y4.w.heap.size→j9 D b=B9 4 (ch4 b):=fun b h1 h2=>(P4 b (Nat.le_trans K4.out.size h1)).trans (i9 e4 h2)
   have P5:∀ b,y4.w.heap.size≤b→j9 D b=j9 (D.drop 5) b:=fun b hb=>(P4 b (Nat.le_trans (Nat.le_trans K4.out.size y4.size_le) hb)).trans (f8 e4 hb)
   have C5:∀ b,z5.w.heap.size≤b→b<y5.w.heap.size→j9 D b=B9 5 ((fun _=>(0,0)) b):=fun b h1 h2=>(P5 b (Nat.le_trans K5.out.size h1)).trans (i9 e5 h2)
   have P6:∀ b,y5.w.heap.size≤b→j9 D b=j9 (D.drop 6) b:=fun b hb=>(P5 b (Nat.le_trans (Nat.le_trans K5.out.size y5.size_le) hb)).trans (f8 e5 hb)
   have C6:∀ b,z6.w.heap.size≤b→b<y6.w.heap.size→j9 D b=B9 6 ((fun _=>(0,0)) b):=fun b h1 h2=>(P6 b (Nat.le_trans K6.out.size h1)).trans (i9 e6 h2)
   have P7:∀ b,y6.w.heap.size≤b→j9 D b=j9 (D.drop 7) b:=fun b hb=>(P6 b (Nat.le_trans (Nat.le_trans K6.out.size y6.size_le) hb)).trans (f8 e6 hb)
   have C7:∀ b,z7.w.heap.size≤b→b<z8.w.heap.size→j9 D b=B9 7 (ch7 b):=fun b h1 h2=>(P7 b (Nat.le_trans K7.out.size h1)).trans (i9 e7 h2)
   have P8:∀ b,z8.w.heap.size≤b→j9 D b=j9 (D.drop 8) b:=fun b hb=>(P7 b (Nat.le_trans (Nat.le_trans K7.out.size K8.out.size) hb)).trans (f8 e7 hb)
   have C8:∀ b,z8.w.heap.size≤b→b<y8.w.heap.size→j9 D b=B9 8 ((fun _=>(0,0)) b):=fun b h1 h2=>(P8 b (Nat.le_trans nl h1)).trans (i9 e8 h2)
   have P9:∀ b,y8.w.heap.size≤b→j9 D b=j9 (D.drop 9) b:=fun b hb=>(P8 b (Nat.le_trans (Nat.le_trans nl y8.size_le) hb)).trans (f8 e8 hb)
   have C9:∀ b,z9.w.heap.size≤b→b<y9.w.heap.size→j9 D b=B9 9 (ch9 b):=fun b h1 h2=>(P9 b (Nat.le_trans K9.out.size h1)).trans (i9 e9 h2)
   have P10:∀ b,y9.w.heap.size≤b→j9 D b=j9 (D.drop 10) b:=fun b hb=>(P9 b (Nat.le_trans (Nat.le_trans K9.out.size y9.size_le) hb)).trans (f8 e9 hb)
   have C10:∀ b,z10.w.heap.size≤b→b<y10.w.heap.size→j9 D b=B9 16 (ch10 b):=fun b h1 h2=>(P10 b (Nat.le_trans K10.out.size h1)).trans (i9 e10 h2)
   have P11:∀ b,y10.w.heap.size≤b→j9 D b=j9 (D.drop 11) b:=fun b hb=>(P10 b (Nat.le_trans (Nat.le_trans K10.out.size y10.size_le) hb)).trans (f8 e10 hb)
   have C11:∀ b,z11.w.heap.size≤b→b<y11.w.heap.size→j9 D b=B9 17 ((fun _=>(0,0)) b):=fun b h1 h2=>(P11 b (Nat.le_trans K11.out.size h1)).trans (i9 e11 h2)
   have P12:∀ b,y11.w.heap.size≤b→j9 D b=j9 (D.drop 12) b:=fun b hb=>(P11 b (Nat.le_trans (Nat.le_trans K11.out.size y11.size_le) hb)).trans (f8 e11 hb)
   have C12:∀ b,z12.w.heap.size≤b→b<z13.w.heap.size→j9 D b=B9 18 (ch12 b):=fun b h1 h2=>(P12 b (Nat.le_trans K12.out.size h1)).trans (i9 e12 h2)
   have P13:∀ b,z13.w.heap.size≤b→j9 D b=j9 (D.drop 13) b:=fun b hb=>(P12 b (Nat.le_trans (Nat.le_trans K12.out.size K13.out.size) hb)).trans (f8 e12 hb)
   have C13:∀ b,z13.w.heap.size≤b→b<y13.w.heap.size→j9 D b=B9 19 ((fun _=>(0,0)) b):=fun b h1 h2=>(P13 b (Nat.le_trans nl h1)).trans (i9 e13 h2)
   have P14:∀ b,y13.w.heap.size≤b→j9 D b=j9 (D.drop 14) b:=fun b hb=>(P13 b (Nat.le_trans (Nat.le_trans nl y13.size_le) hb)).trans (f8 e13 hb)
   have C14:∀ b,z14.w.heap.size≤b→b<y14.w.heap.size→j9 D b=B9 20 ((fun _=>(0,0)) b):=fun b h1 h2=>(P14 b (Nat.le_trans K14.out.size h1)).trans (i9 e14 h2)
   have P15:∀ b,y14.w.heap.size≤b→j9 D b=j9 (D.drop 15) b:=fun b hb=>(P14 b (Nat.le_trans (Nat.le_trans K14.out.size y14.size_le) hb)).trans (f8 e14 hb)
   have C15:∀ b,z15.w.heap.size≤b→b<y15.w.heap.size→j9 D b=B9 21 ((fun _=>(0,0)) b):=fun b h1 h2=>(P15 b (Nat.le_trans K15.out.size h1)).trans (i9 e15 h2)
   have Q4:=lH ((((O4.out.re C4).mono (LeN.out (a:=w.heap.size+2))).keep GY4).mono (B2:=w.heap.size) om)
   have Q9:=lH ((((O9.out.re C9).mono (LeN.out (a:=w.heap.size+2))).keep GY9).mono (B2:=w.heap.size) om)
   have Q10:=lH ((((O10.out.re C10).mono (LeN.out (a:=w.heap.size+2))).keep GY10).mono (B2:=w.heap.size) om)
   refine bodyPost_ret (v:=.agg (D1 x na0 nc0 na1 nc1 na2 nc2 na3 nc3 b4a0 b4c0 na5 nc5 na6 nc6 na7 nc7 na8 nc8 b9A.a0 b9A.c0 b9A.a1 b9A.c1 b9A.a2 b9A.c2 b9A.a3 b9A.c3 b9A.a4 b9A.c4 b9A.a5 b9A.c5 b9A.a6 b9A.c6 b10a0 b10c0 na17 nc17 na18 nc18 na19 nc19 na20 nc20 na21 nc21).toArray) (A7 (P:=Tryz.prog) rfl rfl HR.out _ Tryz.underlying90 rfl kr) rfl ⟨(D1 x na0 nc0 na1 nc1 na2 nc2 na3 nc3 b4a0 b4c0 na5 nc5 na6 nc6 na7 nc7 na8 nc8 b9A.a0 b9A.c0 b9A.a1 b9A.c1 b9A.a2 b9A.c2 b9A.a3 b9A.c3 b9A.a4 b9A.c4 b9A.a5 b9A.c5 b9A.a6 b9A.c6 b10a0 b10c0 na17 nc17 na18 nc18 na19 nc19 na20 nc20 na21 nc21),j9 D,rfl,⟨⟨na0,nc0,na1,nc1,na2,nc2,na3,nc3,b4a0,b4c0,na5,nc5,na6,nc6,na7,nc7,na8,nc8,b9A.a0,b9A.c0,b9A.a1,b9A.c1,b9A.a2,b9A.c2,b9A.a3,b9A.c3,b9A.a4,b9A.c4,b9A.a5,b9A.c5,b9A.a6,b9A.c6,b10a0,b10c0,na17,nc17,na18,nc18,na19,nc19,na20,nc20,na21,nc21⟩,rfl,⟨((((O0.out.re C0).mono (LeN.out (a:=w.heap.size+2))).keep GY0).mono om),((((O1.out.re C1).mono (LeN.out (a:=w.heap.size+2))).keep GY1).mono om),((((O2.out.re C2).mono (LeN.out (a:=w.heap.size+2))).keep GY2).mono om),((((O3.out.re C3).mono (LeN.out (a:=w.heap.size+2))).keep GY3).mono om),Q4.out.o0,((((O5.out.re C5).mono (LeN.out (a:=w.heap.size+2))).keep GY5).mono om),((((O6.out.re C6).mono (LeN.out (a:=w.heap.size+2))).keep GY6).mono om),⟨_,HRX_7.out,((((O7.out.re C7).mono (LeN.out (a:=w.heap.size+2))).keep GY7).mono om)⟩,((((O8.out.re C8).mono (LeN.out (a:=w.heap.size+2))).keep GY8).mono om),Q9.out.o0,Q9.out.o1,Q9.out.o2,Q9.out.o3,Q9.out.o4,Q9.out.o5,Q9.out.o6,Q10.out.o0,((((O11.out.re C11).mono (LeN.out (a:=w.heap.size+2))).keep GY11).mono om),⟨_,HRX_12.out,((((O12.out.re C12).mono (LeN.out (a:=w.heap.size+2))).keep GY12).mono om)⟩,((((O13.out.re C13).mono (LeN.out (a:=w.heap.size+2))).keep GY13).mono om),((((O14.out.re C14).mono (LeN.out (a:=w.heap.size+2))).keep GY14).mono om),((((O15.out.re C15).mono (LeN.out (a:=w.heap.size+2))).keep GY15).mono om),HFF.out.ok⟩⟩,b7.of⟩
