/- What is held in marked structs with slices. No condition but on sizes. -/
import Derived.Test.YthbepablpaldgaaGreatSM44
import Derived.Test.YthbepablpaldgaaGreatSM34
namespace Go.Proofs.YthbepablpaldgaaGreat
set_option maxRecDepth 100000
set_option maxHeartbeats 2000000
set_option linter.unusedVariables false
open Go.ChangeShapes Go.WideShapes Go.ChangeAt Go.RowKit
theorem o_lheldPacker{B:Nat}{a0:Option Addr}{c0:Nat}{x:TPacker}{k:Int}{w:World}(q0:RdS B w a0 c0 (mkMPacker x k).Starts)(ht:Enc.tot x≤100000000)(h1:0≤k)(h2:k≤400000000000) :
  Calls Tryz.prog 161 #[.agg #[.int .i64 x.Channel,.int .i64 x.Count,.string x.Rest,.slice a0 x.Starts.length c0],.int .i64 k] w (Gives w (.int .i64 (mnMPacker x k))):=by
 have htot:Enc.tot x=(x.Rest.size:Int)+totL x.Starts:=rfl
 have t3:=totL_nonneg x.Starts;have l3:=totL_len x.Starts
 obtain⟨K1,hk1⟩:∃ K:Int,K=k+(x.Starts.length:Int)*((1:Nat):Int):=⟨_,rfl⟩
 have hK1:k≤K1∧K1≤k+5*totL x.Starts:=by omega
 have hp1:0≤K1:=by omega
 have hn1:¬ K1<0:=by omega
 have Q0:=lH (show RdS B w a0 c0 (mkL x.Starts (k))by exact q0)
 have HK1:=lH hk1
 clear hk1 q0
 have HB:=lH (Held.new w [.int .i64 x.Channel,.int .i64 x.Count,.string x.Rest,.slice a0 x.Starts.length c0] 85 w.heap.size rfl)
 go_enter Tryz.func161,Tryz.ntmps161
 go_wp2_with (first|(refine stepLoad1 rfl _ _ rfl w.heap.size 3 rfl (HB.out.to ii) _ rfl _ Tryz.underlying46 rfl ?_))
 refine(o_lheldIntS (Q0.out.keep ii) (by omega) (by omega) (by omega)).mono ?_
 intro e0 w1 hq0
 obtain⟨he,y0,hw⟩:=hq0
 obtain rfl:e0=.returned (.int .i64 K1):=he.trans (by rw[HK1.out]<;>rfl)
 clear he;subst hw
 go_wp2_with (fail)
 go_ret
 have E1:=HK1.out
 exact Gives.mk (by rw[E1];rfl)
theorem o_lheldSender{B:Nat}{a0:Option Addr}{c0:Nat}{x:TSender}{k:Int}{w:World}(q0:RdS B w a0 c0 (mkMSender x k).Waiting)(ht:Enc.tot x≤100000000)(h1:0≤k)(h2:k≤400000000000) :
  Calls Tryz.prog 155 #[.agg #[.int .i64 x.Next,.int .i64 x.Window,.slice a0 x.Waiting.length c0,.int .i64 x.Done],.int .i64 k] w (Gives w (.int .i64 (mnMSender x k))):=by
 have htot:Enc.tot x=totL x.Waiting:=rfl
 have t2:=totL_nonneg x.Waiting;have l2:=totL_len x.Waiting
 obtain⟨K1,hk1⟩:∃ K:Int,K=k+(x.Waiting.length:Int)*((2:Nat):Int):=⟨_,rfl⟩
 have hK1:k≤K1∧K1≤k+5*totL x.Waiting:=by omega
 have hp1:0≤K1:=by omega
 have hn1:¬ K1<0:=by omega
 have Q0:=lH (show RdS B w a0 c0 (mkL x.Waiting (k))by exact q0)
 have HK1:=lH hk1
 clear hk1 q0
 have HB:=lH (Held.new w [.int .i64 x.Next,.int .i64 x.Window,.slice a0 x.Waiting.length c0,.int .i64 x.Done] 69 w.heap.size rfl)
 go_enter Tryz.func155,Tryz.ntmps155
 go_wp2_with (first|(refine stepLoad1 rfl _ _ rfl w.heap.size 2 rfl (HB.out.to ii) _ rfl _ Tryz.underlying67 rfl ?_))
 refine(o_lheldSentS (Q0.out.keep ii) (by omega) (by omega) (by omega)).mono ?_
 intro e0 w1 hq0
 obtain⟨he,y0,hw⟩:=hq0
 obtain rfl:e0=.returned (.int .i64 K1):=he.trans (by rw[HK1.out]<;>rfl)
 clear he;subst hw
 go_wp2_with (fail)
 go_ret
 have E1:=HK1.out
 exact Gives.mk (by rw[E1];rfl)
theorem o_lheldRecorder{B:Nat}{a0:Option Addr}{c0:Nat}{a1:Option Addr}{c1:Nat}{x:TRecorder}{k:Int}{w:World}(q0:RdS B w a0 c0 (mkMRecorder x k).Records)(q1:RdS B w a1 c1 (mkMRecorder x k).Dropped)(ht:Enc.tot x≤100000000)(h1:0≤k)(h2:k≤400000000000) :
  Calls Tryz.prog 248 #[.agg #[.int .i64 x.Room,.slice a0 x.Records.length c0,.slice a1 x.Dropped.length c1],.int .i64 k] w (Gives w (.int .i64 (mnMRecorder x k))):=by
 have htot:Enc.tot x=totL x.Records+totL x.Dropped:=rfl
 have t1:=totL_nonneg x.Records;have l1:=totL_len x.Records
 have t2:=totL_nonneg x.Dropped;have l2:=totL_len x.Dropped
 obtain⟨K1,hk1⟩:∃ K:Int,K=k+(x.Records.length:Int)*((4:Nat):Int):=⟨_,rfl⟩
 have hK1:k≤K1∧K1≤k+5*totL x.Records:=by omega
 have hp1:0≤K1:=by omega
 have hn1:¬ K1<0:=by omega
 have Q0:=lH (show RdS B w a0 c0 (mkL x.Records (k))by exact q0)
 obtain⟨K2,hk2⟩:∃ K:Int,K=K1+(x.Dropped.length:Int)*((1:Nat):Int):=⟨_,rfl⟩
 have hK2:K1≤K2∧K2≤K1+5*totL x.Dropped:=by omega
 have hp2:0≤K2:=by omega
 have hn2:¬ K2<0:=by omega
 have Q1:=lH (show RdS B w a1 c1 (mkL x.Dropped (K1))by rw[hk1];exact q1)
 have HK1:=lH hk1
 have HK2:=lH hk2
 clear hk1 hk2 q0 q1
 have HB:=lH (Held.new w [.int .i64 x.Room,.slice a0 x.Records.length c0,.slice a1 x.Dropped.length c1] 82 w.heap.size rfl)
 go_enter Tryz.func248,Tryz.ntmps248
 go_wp2_with (first|(refine stepLoad1 rfl _ _ rfl w.heap.size 1 rfl (HB.out.to ii) _ rfl _ Tryz.underlying73 rfl ?_))
 refine(o_lheldRecordS (Q0.out.keep ii) (by omega) (by omega) (by omega)).mono ?_
 intro e0 w1 hq0
 obtain⟨he,y0,hw⟩:=hq0
 obtain rfl:e0=.returned (.int .i64 K1):=he.trans (by rw[HK1.out]<;>rfl)
 clear he;subst hw
 go_wp2_with (first|(refine stepLoad1 rfl _ _ rfl w.heap.size 2 rfl (HB.out.to ii) _ rfl _ Tryz.underlying46 rfl ?_))
 refine(o_lheldIntS (Q1.out.keep ii) (by omega) (by omega) (by omega)).mono ?_
 intro e1 w2 hq1
 obtain⟨he,y1,hw⟩:=hq1
 obtain rfl:e1=.returned (.int .i64 K2):=he.trans (by rw[HK2.out]<;>rfl)
 clear he;subst hw
 go_wp2_with (fail)
 go_ret
 have E1:=HK1.out
 have E2:=HK2.out
 exact Gives.mk (by rw[E2,E1];rfl)
theorem o_lheldBoard{B:Nat}{A:TBoardA}{x:TBoard}{k:Int}{w:World}(F:TBoardF B w A (mkMBoard x k))(ht:Enc.tot x≤100000000)(h1:0≤k)(h2:k≤300000000000) :
  Calls Tryz.prog 160 #[.agg (dBoard x A).toArray,.int .i64 k] w (Gives w (.int .i64 (mnMBoard x k))):=by
 have htot:Enc.tot x=totL x.Params+totL x.Limits+totL x.Orders+totL x.Done+Enc.tot x.Recorder+totL x.Asked:=rfl
 have t1:=totL_nonneg x.Params;have l1:=totL_len x.Params
 have t3:=totL_nonneg x.Limits;have l3:=totL_len x.Limits
 have t4:=totL_nonneg x.Orders;have l4:=totL_len x.Orders
 have t5:=totL_nonneg x.Done;have l5:=totL_len x.Done
 have t6:=Enc.tot_nonneg x.Recorder
 have t9:=totL_nonneg x.Asked;have l9:=totL_len x.Asked
 obtain⟨K1,hk1⟩:∃ K:Int,K=k+(x.Params.length:Int)*((1:Nat):Int):=⟨_,rfl⟩
 have hK1:k≤K1∧K1≤k+5*totL x.Params:=by omega
 have hp1:0≤K1:=by omega
 have hn1:¬ K1<0:=by omega
 have Q0:=lH (show RdS B w A.a0 A.c0 (mkL x.Params (k))by exact F.q0)
 obtain⟨K2,hk2⟩:∃ K:Int,K=K1+(x.Limits.length:Int)*((3:Nat):Int):=⟨_,rfl⟩
 have hK2:K1≤K2∧K2≤K1+5*totL x.Limits:=by omega
 have hp2:0≤K2:=by omega
 have hn2:¬ K2<0:=by omega
 have Q1:=lH (show RdS B w A.a1 A.c1 (mkL x.Limits (K1))by rw[hk1];exact F.q1)
 obtain⟨K3,hk3⟩:∃ K:Int,K=K2+(x.Orders.length:Int)*((5:Nat):Int):=⟨_,rfl⟩
 have hK3:K2≤K3∧K3≤K2+5*totL x.Orders:=by omega
 have hp3:0≤K3:=by omega
 have hn3:¬ K3<0:=by omega
 have Q2:=lH (show RdS B w A.a2 A.c2 (mkL x.Orders (K2))by rw[hk2,hk1];exact F.q2)
 obtain⟨K4,hk4⟩:∃ K:Int,K=K3+(x.Done.length:Int)*((3:Nat):Int):=⟨_,rfl⟩
 have hK4:K3≤K4∧K4≤K3+5*totL x.Done:=by omega
 have hp4:0≤K4:=by omega
 have hn4:¬ K4<0:=by omega
 have Q3:=lH (show RdS B w A.a3 A.c3 (mkL x.Done (K3))by rw[hk3,hk2,hk1];exact F.q3)
 obtain⟨K5,hk5⟩:∃ K:Int,K=mnMRecorder x.Recorder (K4):=⟨_,rfl⟩
 have hb:=mnMRecorder_le x.Recorder K4
 have hK5:K4≤K5∧K5≤K4+5*Enc.tot x.Recorder:=by omega
 clear hb
 have hp5:0≤K5:=by omega
 have hn5:¬ K5<0:=by omega
 have Q4_0:=lH (show RdS B w A.a4 A.c4 (mkMRecorder x.Recorder (K4)).Records by rw[hk4,hk3,hk2,hk1];exact F.q4)
 have Q4_1:=lH (show RdS B w A.a5 A.c5 (mkMRecorder x.Recorder (K4)).Dropped by rw[hk4,hk3,hk2,hk1];exact F.q5)
 obtain⟨K6,hk6⟩:∃ K:Int,K=K5+(x.Asked.length:Int)*((1:Nat):Int):=⟨_,rfl⟩
 have hK6:K5≤K6∧K6≤K5+5*totL x.Asked:=by omega
 have hp6:0≤K6:=by omega
 have hn6:¬ K6<0:=by omega
 have Q5:=lH (show RdS B w A.a6 A.c6 (mkL x.Asked (K5))by rw[hk5,hk4,hk3,hk2,hk1];exact F.q6)
 have HK1:=lH hk1
 have HK2:=lH hk2
 have HK3:=lH hk3
 have HK4:=lH hk4
 have HK5:=lH hk5
 have HK6:=lH hk6
 clear hk1 hk2 hk3 hk4 hk5 hk6 F
 have HB:=lH (Held.new w (dBoard x A) 84 w.heap.size rfl)
 go_enter Tryz.func160,Tryz.ntmps160
 go_wp2_with (first|(refine stepLoad1 rfl _ _ rfl w.heap.size 1 rfl (HB.out.to ii) _ rfl _ Tryz.underlying46 rfl ?_))
 refine(o_lheldIntS (Q0.out.keep ii) (by omega) (by omega) (by omega)).mono ?_
 intro e0 w1 hq0
 obtain⟨he,y0,hw⟩:=hq0
 obtain rfl:e0=.returned (.int .i64 K1):=he.trans (by rw[HK1.out]<;>rfl)
 clear he;subst hw
 go_wp2_with (first|(refine stepLoad1 rfl _ _ rfl w.heap.size 3 rfl (HB.out.to ii) _ rfl _ Tryz.underlying78 rfl ?_))
 refine(o_lheldLimitS (Q1.out.keep ii) (by omega) (by omega) (by omega)).mono ?_
 intro e1 w2 hq1
 obtain⟨he,y1,hw⟩:=hq1
 obtain rfl:e1=.returned (.int .i64 K2):=he.trans (by rw[HK2.out]<;>rfl)
 clear he;subst hw
 go_wp2_with (first|(refine stepLoad1 rfl _ _ rfl w.heap.size 4 rfl (HB.out.to ii) _ rfl _ Tryz.underlying79 rfl ?_))
 refine(o_lheldWaitingS (Q2.out.keep ii) (by omega) (by omega) (by omega)).mono ?_
 intro e2 w3 hq2
 obtain⟨he,y2,hw⟩:=hq2
 obtain rfl:e2=.returned (.int .i64 K3):=he.trans (by rw[HK3.out]<;>rfl)
 clear he;subst hw
 go_wp2_with (first|(refine stepLoad1 rfl _ _ rfl w.heap.size 5 rfl (HB.out.to ii) _ rfl _ Tryz.underlying80 rfl ?_))
 refine(o_lheldDoneS (Q3.out.keep ii) (by omega) (by omega) (by omega)).mono ?_
 intro e3 w4 hq3
 obtain⟨he,y3,hw⟩:=hq3
 obtain rfl:e3=.returned (.int .i64 K4):=he.trans (by rw[HK4.out]<;>rfl)
 clear he;subst hw
 go_wp2_with (first|(refine stepLoad rfl _ _ rfl (w.heap.size) 6 rfl (row:=[.int .i64 x.Recorder.Room,.slice A.a4 x.Recorder.Records.length A.c4,.slice A.a5 x.Recorder.Dropped.length A.c5]) (HB.out.to ii) _ Tryz.underlying82 rfl kr kr ?_))
 refine(o_lheldRecorder (x:=x.Recorder) (Q4_0.out.keep ii) (Q4_1.out.keep ii) (by omega) (by omega) (by omega)).mono ?_
 intro e4 w5 hq4
 obtain⟨he,y4,hw⟩:=hq4
 obtain rfl:e4=.returned (.int .i64 K5):=he.trans (by rw[HK5.out]<;>rfl)
 clear he;subst hw
 go_wp2_with (first|(refine stepLoad1 rfl _ _ rfl w.heap.size 11 rfl (HB.out.to ii) _ rfl _ Tryz.underlying46 rfl ?_))
 refine(o_lheldIntS (Q5.out.keep ii) (by omega) (by omega) (by omega)).mono ?_
 intro e5 w6 hq5
 obtain⟨he,y5,hw⟩:=hq5
 obtain rfl:e5=.returned (.int .i64 K6):=he.trans (by rw[HK6.out]<;>rfl)
 clear he;subst hw
 go_wp2_with (fail)
 go_ret
 have E1:=HK1.out
 have E2:=HK2.out
 have E3:=HK3.out
 have E4:=HK4.out
 have E5:=HK5.out
 have E6:=HK6.out
 exact Gives.mk (by rw[E6,E5,E4,E3,E2,E1];rfl)
theorem o_lheldGround{B:Nat}{A:TGroundA}{x:TGround}{k:Int}{w:World}(F:TGroundF B w A (mkMGround x k))(ht:Enc.tot x≤100000000)(h1:0≤k)(h2:k≤200000000000) :
  Calls Tryz.prog 52 #[.agg (dGround x A).toArray,.int .i64 k] w (Gives w (.int .i64 (mnMGround x k))):=by
 have htot:Enc.tot x=totL x.Offers+Enc.tot x.Sender+Enc.tot x.Unpacker+totL x.Pairs+totL x.Records+totL x.Files+totL x.Told:=rfl
 have t0:=totL_nonneg x.Offers;have l0:=totL_len x.Offers
 have t1:=Enc.tot_nonneg x.Sender
 have t3:=Enc.tot_nonneg x.Unpacker
 have t4:=totL_nonneg x.Pairs;have l4:=totL_len x.Pairs
 have t5:=totL_nonneg x.Records;have l5:=totL_len x.Records
 have t6:=totL_nonneg x.Files;have l6:=totL_len x.Files
 have t7:=totL_nonneg x.Told;have l7:=totL_len x.Told
 obtain⟨K1,hk1⟩:∃ K:Int,K=k+(x.Offers.length:Int)*((1:Nat):Int):=⟨_,rfl⟩
 have hK1:k≤K1∧K1≤k+5*totL x.Offers:=by omega
 have hp1:0≤K1:=by omega
 have hn1:¬ K1<0:=by omega
 have Q0:=lH (show RdS B w A.a0 A.c0 (mkL x.Offers (k))by exact F.q0)
 obtain⟨K2,hk2⟩:∃ K:Int,K=mnMSender x.Sender (K1):=⟨_,rfl⟩
 have hb:=mnMSender_le x.Sender K1
 have hK2:K1≤K2∧K2≤K1+5*Enc.tot x.Sender:=by omega
 clear hb
 have hp2:0≤K2:=by omega
 have hn2:¬ K2<0:=by omega
 have Q1_0:=lH (show RdS B w A.a1 A.c1 (mkMSender x.Sender (K1)).Waiting by rw[hk1];exact F.q1)
 obtain⟨K3,hk3⟩:∃ K:Int,K=K2+(x.Pairs.length:Int)*((2:Nat):Int):=⟨_,rfl⟩
 have hK3:K2≤K3∧K3≤K2+5*totL x.Pairs:=by omega
 have hp3:0≤K3:=by omega
 have hn3:¬ K3<0:=by omega
 have Q2:=lH (show RdS B w A.a2 A.c2 (mkL x.Pairs (K2))by rw[hk2,hk1];exact F.q2)
 obtain⟨K4,hk4⟩:∃ K:Int,K=K3+(x.Records.length:Int)*((4:Nat):Int):=⟨_,rfl⟩
 have hK4:K3≤K4∧K4≤K3+5*totL x.Records:=by omega
 have hp4:0≤K4:=by omega
 have hn4:¬ K4<0:=by omega
 have Q3:=lH (show RdS B w A.a3 A.c3 (mkL x.Records (K3))by rw[hk3,hk2,hk1];exact F.q3)
 obtain⟨K5,hk5⟩:∃ K:Int,K=mnN mn1FileIn x.Files (K4):=⟨_,rfl⟩
 have hb:=mnN_le mn1FileIn mn1FileIn_le x.Files K4
 have hK5:K4≤K5∧K5≤K4+5*totL x.Files:=by omega
 clear hb
 have hp5:0≤K5:=by omega
 have hn5:¬ K5<0:=by omega
 have Q4:=lH (show RdS B w A.a4 A.c4 (mkN mk1FileIn mn1FileIn x.Files (K4))by rw[hk4,hk3,hk2,hk1];exact F.q4)
 obtain⟨K6,hk6⟩:∃ K:Int,K=K5+(x.Told.length:Int)*((1:Nat):Int):=⟨_,rfl⟩
 have hK6:K5≤K6∧K6≤K5+5*totL x.Told:=by omega
 have hp6:0≤K6:=by omega
 have hn6:¬ K6<0:=by omega
 have Q5:=lH (show RdS B w A.a5 A.c5 (mkL x.Told (K5))by rw[hk5,hk4,hk3,hk2,hk1];exact F.q5)
 have HK1:=lH hk1
 have HK2:=lH hk2
 have HK3:=lH hk3
 have HK4:=lH hk4
 have HK5:=lH hk5
 have HK6:=lH hk6
 clear hk1 hk2 hk3 hk4 hk5 hk6 F
 have HB:=lH (Held.new w (dGround x A) 76 w.heap.size rfl)
 go_enter Tryz.func52,Tryz.ntmps52
 go_wp2_with (first|(refine stepLoad1 rfl _ _ rfl w.heap.size 0 rfl (HB.out.to ii) _ rfl _ Tryz.underlying30 rfl ?_))
 refine(o_lheldStringS (Q0.out.keep ii) (by omega) (by omega) (by omega)).mono ?_
 intro e0 w1 hq0
 obtain⟨he,y0,hw⟩:=hq0
 obtain rfl:e0=.returned (.int .i64 K1):=he.trans (by rw[HK1.out]<;>rfl)
 clear he;subst hw
 go_wp2_with (first|(refine stepLoad rfl _ _ rfl (w.heap.size) 1 rfl (row:=[.int .i64 x.Sender.Next,.int .i64 x.Sender.Window,.slice A.a1 x.Sender.Waiting.length A.c1,.int .i64 x.Sender.Done]) (HB.out.to ii) _ Tryz.underlying69 rfl kr kr ?_))
 refine(o_lheldSender (x:=x.Sender) (Q1_0.out.keep ii) (by omega) (by omega) (by omega)).mono ?_
 intro e1 w2 hq1
 obtain⟨he,y1,hw⟩:=hq1
 obtain rfl:e1=.returned (.int .i64 K2):=he.trans (by rw[HK2.out]<;>rfl)
 clear he;subst hw
 go_wp2_with (first|(refine stepLoad1 rfl _ _ rfl w.heap.size 13 rfl (HB.out.to ii) _ rfl _ Tryz.underlying72 rfl ?_))
 refine(o_lheldPairS (Q2.out.keep ii) (by omega) (by omega) (by omega)).mono ?_
 intro e2 w3 hq2
 obtain⟨he,y2,hw⟩:=hq2
 obtain rfl:e2=.returned (.int .i64 K3):=he.trans (by rw[HK3.out]<;>rfl)
 clear he;subst hw
 go_wp2_with (first|(refine stepLoad1 rfl _ _ rfl w.heap.size 14 rfl (HB.out.to ii) _ rfl _ Tryz.underlying73 rfl ?_))
 refine(o_lheldRecordS (Q3.out.keep ii) (by omega) (by omega) (by omega)).mono ?_
 intro e3 w4 hq3
 obtain⟨he,y3,hw⟩:=hq3
 obtain rfl:e3=.returned (.int .i64 K4):=he.trans (by rw[HK4.out]<;>rfl)
 clear he;subst hw
 go_wp2_with (first|(refine stepLoad1 rfl _ _ rfl w.heap.size 15 rfl (HB.out.to ii) _ rfl _ Tryz.underlying74 rfl ?_))
 refine(o_lheldFileInS (Q4.out.keep ii) (by omega) (by omega) (by omega)).mono ?_
 intro e4 w5 hq4
 obtain⟨he,y4,hw⟩:=hq4
 obtain rfl:e4=.returned (.int .i64 K5):=he.trans (by rw[HK5.out]<;>rfl)
 clear he;subst hw
 go_wp2_with (first|(refine stepLoad1 rfl _ _ rfl w.heap.size 16 rfl (HB.out.to ii) _ rfl _ Tryz.underlying41 rfl ?_))
 refine(o_lheldBoolS (Q5.out.keep ii) (by omega) (by omega) (by omega)).mono ?_
 intro e5 w6 hq5
 obtain⟨he,y5,hw⟩:=hq5
 obtain rfl:e5=.returned (.int .i64 K6):=he.trans (by rw[HK6.out]<;>rfl)
 clear he;subst hw
 go_wp2_with (fail)
 go_ret
 have E1:=HK1.out
 have E2:=HK2.out
 have E3:=HK3.out
 have E4:=HK4.out
 have E5:=HK5.out
 have E6:=HK6.out
 exact Gives.mk (by rw[E6,E5,E4,E3,E2,E1];rfl)
theorem o_lheldSpace{B:Nat}{A:TSpaceA}{x:TSpace}{k:Int}{w:World}(F:TSpaceF B w A (mkMSpace x k))(ht:Enc.tot x≤100000000)(h1:0≤k)(h2:k≤200000000000) :
  Calls Tryz.prog 53 #[.agg (dSpace x A).toArray,.int .i64 k] w (Gives w (.int .i64 (mnMSpace x k))):=by
 have htot:Enc.tot x=Enc.tot x.Board+Enc.tot x.Packer+totL x.Files+totL x.Outs+totL x.Sent:=rfl
 have t1:=Enc.tot_nonneg x.Board
 have t2:=Enc.tot_nonneg x.Packer
 have t4:=totL_nonneg x.Files;have l4:=totL_len x.Files
 have t5:=totL_nonneg x.Outs;have l5:=totL_len x.Outs
 have t7:=totL_nonneg x.Sent;have l7:=totL_len x.Sent
 obtain⟨K1,hk1⟩:∃ K:Int,K=mnMBoard x.Board (k):=⟨_,rfl⟩
 have hb:=mnMBoard_le x.Board k
 have hK1:k≤K1∧K1≤k+5*Enc.tot x.Board:=by omega
 clear hb
 have hp1:0≤K1:=by omega
 have hn1:¬ K1<0:=by omega
 have Q0:=lH (show TBoardF B w ⟨A.a0,A.c0,A.a1,A.c1,A.a2,A.c2,A.a3,A.c3,A.a4,A.c4,A.a5,A.c5,A.a6,A.c6⟩ (mkMBoard x.Board (k))by exact⟨F.q0,F.q1,F.q2,F.q3,F.q4,F.q5,F.q6,F.ok.2.1⟩)
 obtain⟨K2,hk2⟩:∃ K:Int,K=mnMPacker x.Packer (K1):=⟨_,rfl⟩
 have hb:=mnMPacker_le x.Packer K1
 have hK2:K1≤K2∧K2≤K1+5*Enc.tot x.Packer:=by omega
 clear hb
 have hp2:0≤K2:=by omega
 have hn2:¬ K2<0:=by omega
 have Q1_0:=lH (show RdS B w A.a7 A.c7 (mkMPacker x.Packer (K1)).Starts by rw[hk1];exact F.q7)
 obtain⟨K3,hk3⟩:∃ K:Int,K=K2+(x.Files.length:Int)*((1:Nat):Int):=⟨_,rfl⟩
 have hK3:K2≤K3∧K3≤K2+5*totL x.Files:=by omega
 have hp3:0≤K3:=by omega
 have hn3:¬ K3<0:=by omega
 have Q2:=lH (show RdS B w A.a8 A.c8 (mkL x.Files (K2))by rw[hk2,hk1];exact F.q8)
 obtain⟨K4,hk4⟩:∃ K:Int,K=mnN mn1FileOut x.Outs (K3):=⟨_,rfl⟩
 have hb:=mnN_le mn1FileOut mn1FileOut_le x.Outs K3
 have hK4:K3≤K4∧K4≤K3+5*totL x.Outs:=by omega
 clear hb
 have hp4:0≤K4:=by omega
 have hn4:¬ K4<0:=by omega
 have Q3:=lH (show RdS B w A.a9 A.c9 (mkN mk1FileOut mn1FileOut x.Outs (K3))by rw[hk3,hk2,hk1];exact F.q9)
 obtain⟨K5,hk5⟩:∃ K:Int,K=K4+(x.Sent.length:Int)*((4:Nat):Int):=⟨_,rfl⟩
 have hK5:K4≤K5∧K5≤K4+5*totL x.Sent:=by omega
 have hp5:0≤K5:=by omega
 have hn5:¬ K5<0:=by omega
 have Q4:=lH (show RdS B w A.a10 A.c10 (mkL x.Sent (K4))by rw[hk4,hk3,hk2,hk1];exact F.q10)
 have HK1:=lH hk1
 have HK2:=lH hk2
 have HK3:=lH hk3
 have HK4:=lH hk4
 have HK5:=lH hk5
 clear hk1 hk2 hk3 hk4 hk5 F
 have HB:=lH (Held.new w (dSpace x A) 88 w.heap.size rfl)
 go_enter Tryz.func53,Tryz.ntmps53
 go_wp2_with (first|(refine stepLoad rfl _ _ rfl (w.heap.size) 4 rfl (row:=(dBoard x.Board A)) (HB.out.to ii) _ Tryz.underlying84 rfl kr kr ?_))
 refine(o_lheldBoard (x:=x.Board) (Q0.out.keep ii) (by omega) (by omega) (by omega)).mono ?_
 intro e0 w1 hq0
 obtain⟨he,y0,hw⟩:=hq0
 obtain rfl:e0=.returned (.int .i64 K1):=he.trans (by rw[HK1.out]<;>rfl)
 clear he;subst hw
 go_wp2_with (first|(refine stepLoad rfl _ _ rfl (w.heap.size) 16 rfl (row:=[.int .i64 x.Packer.Channel,.int .i64 x.Packer.Count,.string x.Packer.Rest,.slice A.a7 x.Packer.Starts.length A.c7]) (HB.out.to ii) _ Tryz.underlying85 rfl kr kr ?_))
 refine(o_lheldPacker (x:=x.Packer) (Q1_0.out.keep ii) (by omega) (by omega) (by omega)).mono ?_
 intro e1 w2 hq1
 obtain⟨he,y1,hw⟩:=hq1
 obtain rfl:e1=.returned (.int .i64 K2):=he.trans (by rw[HK2.out]<;>rfl)
 clear he;subst hw
 go_wp2_with (first|(refine stepLoad1 rfl _ _ rfl w.heap.size 21 rfl (HB.out.to ii) _ rfl _ Tryz.underlying30 rfl ?_))
 refine(o_lheldStringS (Q2.out.keep ii) (by omega) (by omega) (by omega)).mono ?_
 intro e2 w3 hq2
 obtain⟨he,y2,hw⟩:=hq2
 obtain rfl:e2=.returned (.int .i64 K3):=he.trans (by rw[HK3.out]<;>rfl)
 clear he;subst hw
 go_wp2_with (first|(refine stepLoad1 rfl _ _ rfl w.heap.size 22 rfl (HB.out.to ii) _ rfl _ Tryz.underlying86 rfl ?_))
 refine(o_lheldFileOutS (Q3.out.keep ii) (by omega) (by omega) (by omega)).mono ?_
 intro e3 w4 hq3
 obtain⟨he,y3,hw⟩:=hq3
 obtain rfl:e3=.returned (.int .i64 K4):=he.trans (by rw[HK4.out]<;>rfl)
 clear he;subst hw
 go_wp2_with (first|(refine stepLoad1 rfl _ _ rfl w.heap.size 24 rfl (HB.out.to ii) _ rfl _ Tryz.underlying73 rfl ?_))
 refine(o_lheldRecordS (Q4.out.keep ii) (by omega) (by omega) (by omega)).mono ?_
 intro e4 w5 hq4
 obtain⟨he,y4,hw⟩:=hq4
 obtain rfl:e4=.returned (.int .i64 K5):=he.trans (by rw[HK5.out]<;>rfl)
 clear he;subst hw
 go_wp2_with (fail)
 go_ret
 have E1:=HK1.out
 have E2:=HK2.out
 have E3:=HK3.out
 have E4:=HK4.out
 have E5:=HK5.out
 exact Gives.mk (by rw[E5,E4,E3,E2,E1];rfl)
theorem o_lheldMission{B:Nat}{A:TMissionA}{x:TMission}{k:Int}{w:World}(F:TMissionF B w A (mkMMission x k))(ht:Enc.tot x≤100000000)(h1:0≤k)(h2:k≤100000000000) :
  Calls Tryz.prog 11 #[.agg (dMission x A).toArray,.int .i64 k] w (Gives w (.int .i64 (mnMMission x k))):=by
 have htot:Enc.tot x=totL x.Plan+totL x.Ups+totL x.Downs+Enc.tot x.Ground+Enc.tot x.Space+totL x.Offered+totL x.Took:=rfl
 have t4:=totL_nonneg x.Plan;have l4:=totL_len x.Plan
 have t7:=totL_nonneg x.Ups;have l7:=totL_len x.Ups
 have t8:=totL_nonneg x.Downs;have l8:=totL_len x.Downs
 have t9:=Enc.tot_nonneg x.Ground
 have t10:=Enc.tot_nonneg x.Space
 have t11:=totL_nonneg x.Offered;have l11:=totL_len x.Offered
 have t12:=totL_nonneg x.Took;have l12:=totL_len x.Took
 obtain⟨K1,hk1⟩:∃ K:Int,K=k+(x.Plan.length:Int)*((2:Nat):Int):=⟨_,rfl⟩
 have hK1:k≤K1∧K1≤k+5*totL x.Plan:=by omega
 have hp1:0≤K1:=by omega
 have hn1:¬ K1<0:=by omega
 have Q0:=lH (show RdS B w A.a0 A.c0 (mkL x.Plan (k))by exact F.q0)
 obtain⟨K2,hk2⟩:∃ K:Int,K=K1+(x.Ups.length:Int)*((2:Nat):Int):=⟨_,rfl⟩
 have hK2:K1≤K2∧K2≤K1+5*totL x.Ups:=by omega
 have hp2:0≤K2:=by omega
 have hn2:¬ K2<0:=by omega
 have Q1:=lH (show RdS B w A.a1 A.c1 (mkL x.Ups (K1))by rw[hk1];exact F.q1)
 obtain⟨K3,hk3⟩:∃ K:Int,K=K2+(x.Downs.length:Int)*((2:Nat):Int):=⟨_,rfl⟩
 have hK3:K2≤K3∧K3≤K2+5*totL x.Downs:=by omega
 have hp3:0≤K3:=by omega
 have hn3:¬ K3<0:=by omega
 have Q2:=lH (show RdS B w A.a2 A.c2 (mkL x.Downs (K2))by rw[hk2,hk1];exact F.q2)
 obtain⟨K4,hk4⟩:∃ K:Int,K=mnMGround x.Ground (K3):=⟨_,rfl⟩
 have hb:=mnMGround_le x.Ground K3
 have hK4:K3≤K4∧K4≤K3+5*Enc.tot x.Ground:=by omega
 clear hb
 have hp4:0≤K4:=by omega
 have hn4:¬ K4<0:=by omega
 have Q3:=lH (show TGroundF B w ⟨A.a3,A.c3,A.a4,A.c4,A.a5,A.c5,A.a6,A.c6,A.a7,A.c7,A.a8,A.c8⟩ (mkMGround x.Ground (K3))by rw[hk3,hk2,hk1];exact⟨F.q3,F.q4,F.q5,F.q6,F.q7,F.q8,F.ok.2.2.2.2.2.2.1⟩)
 obtain⟨K5,hk5⟩:∃ K:Int,K=mnMSpace x.Space (K4):=⟨_,rfl⟩
 have hb:=mnMSpace_le x.Space K4
 have hK5:K4≤K5∧K5≤K4+5*Enc.tot x.Space:=by omega
 clear hb
 have hp5:0≤K5:=by omega
 have hn5:¬ K5<0:=by omega
 have Q4:=lH (show TSpaceF B w ⟨A.a9,A.c9,A.a10,A.c10,A.a11,A.c11,A.a12,A.c12,A.a13,A.c13,A.a14,A.c14,A.a15,A.c15,A.a16,A.c16,A.a17,A.c17,A.a18,A.c18,A.a19,A.c19⟩ (mkMSpace x.Space (K4))by rw[hk4,hk3,hk2,hk1];exact⟨F.q9,F.q10,F.q11,F.q12,F.q13,F.q14,F.q15,F.q16,F.q17,F.q18,F.q19,F.ok.2.2.2.2.2.2.2.1⟩)
 obtain⟨K6,hk6⟩:∃ K:Int,K=K5+(x.Offered.length:Int)*((1:Nat):Int):=⟨_,rfl⟩
 have hK6:K5≤K6∧K6≤K5+5*totL x.Offered:=by omega
 have hp6:0≤K6:=by omega
 have hn6:¬ K6<0:=by omega
 have Q5:=lH (show RdS B w A.a20 A.c20 (mkL x.Offered (K5))by rw[hk5,hk4,hk3,hk2,hk1];exact F.q20)
 obtain⟨K7,hk7⟩:∃ K:Int,K=K6+(x.Took.length:Int)*((1:Nat):Int):=⟨_,rfl⟩
 have hK7:K6≤K7∧K7≤K6+5*totL x.Took:=by omega
 have hp7:0≤K7:=by omega
 have hn7:¬ K7<0:=by omega
 have Q6:=lH (show RdS B w A.a21 A.c21 (mkL x.Took (K6))by rw[hk6,hk5,hk4,hk3,hk2,hk1];exact F.q21)
 have HK1:=lH hk1
 have HK2:=lH hk2
 have HK3:=lH hk3
 have HK4:=lH hk4
 have HK5:=lH hk5
 have HK6:=lH hk6
 have HK7:=lH hk7
 clear hk1 hk2 hk3 hk4 hk5 hk6 hk7 F
 have HB:=lH (Held.new w (dMission x A) 90 w.heap.size rfl)
 go_enter Tryz.func11,Tryz.ntmps11
 go_wp2_with (first|(refine stepLoad1 rfl _ _ rfl w.heap.size 7 rfl (HB.out.to ii) _ rfl _ Tryz.underlying64 rfl ?_))
 refine(o_lheldSlotS (Q0.out.keep ii) (by omega) (by omega) (by omega)).mono ?_
 intro e0 w1 hq0
 obtain⟨he,y0,hw⟩:=hq0
 obtain rfl:e0=.returned (.int .i64 K1):=he.trans (by rw[HK1.out]<;>rfl)
 clear he;subst hw
 go_wp2_with (first|(refine stepLoad1 rfl _ _ rfl w.heap.size 14 rfl (HB.out.to ii) _ rfl _ Tryz.underlying66 rfl ?_))
 refine(o_lheldFlightS (Q1.out.keep ii) (by omega) (by omega) (by omega)).mono ?_
 intro e1 w2 hq1
 obtain⟨he,y1,hw⟩:=hq1
 obtain rfl:e1=.returned (.int .i64 K2):=he.trans (by rw[HK2.out]<;>rfl)
 clear he;subst hw
 go_wp2_with (first|(refine stepLoad1 rfl _ _ rfl w.heap.size 15 rfl (HB.out.to ii) _ rfl _ Tryz.underlying66 rfl ?_))
 refine(o_lheldFlightS (Q2.out.keep ii) (by omega) (by omega) (by omega)).mono ?_
 intro e2 w3 hq2
 obtain⟨he,y2,hw⟩:=hq2
 obtain rfl:e2=.returned (.int .i64 K3):=he.trans (by rw[HK3.out]<;>rfl)
 clear he;subst hw
 go_wp2_with (first|(refine stepLoad rfl _ _ rfl (w.heap.size) 16 rfl (row:=(cGround x.Ground A.a3 A.c3 A.a4 A.c4 A.a5 A.c5 A.a6 A.c6 A.a7 A.c7 A.a8 A.c8)) (HB.out.to ii) _ Tryz.underlying76 rfl kr kr ?_))
 refine(o_lheldGround (x:=x.Ground) (Q3.out.keep ii) (by omega) (by omega) (by omega)).mono ?_
 intro e3 w4 hq3
 obtain⟨he,y3,hw⟩:=hq3
 obtain rfl:e3=.returned (.int .i64 K4):=he.trans (by rw[HK4.out]<;>rfl)
 clear he;subst hw
 go_wp2_with (first|(refine stepLoad rfl _ _ rfl (w.heap.size) 33 rfl (row:=(cSpace x.Space A.a9 A.c9 A.a10 A.c10 A.a11 A.c11 A.a12 A.c12 A.a13 A.c13 A.a14 A.c14 A.a15 A.c15 A.a16 A.c16 A.a17 A.c17 A.a18 A.c18 A.a19 A.c19)) (HB.out.to ii) _ Tryz.underlying88 rfl kr kr ?_))
 refine(o_lheldSpace (x:=x.Space) (Q4.out.keep ii) (by omega) (by omega) (by omega)).mono ?_
 intro e4 w5 hq4
 obtain⟨he,y4,hw⟩:=hq4
 obtain rfl:e4=.returned (.int .i64 K5):=he.trans (by rw[HK5.out]<;>rfl)
 clear he;subst hw
 go_wp2_with (first|(refine stepLoad1 rfl _ _ rfl w.heap.size 58 rfl (HB.out.to ii) _ rfl _ Tryz.underlying30 rfl ?_))
 refine(o_lheldStringS (Q5.out.keep ii) (by omega) (by omega) (by omega)).mono ?_
 intro e5 w6 hq5
 obtain⟨he,y5,hw⟩:=hq5
 obtain rfl:e5=.returned (.int .i64 K6):=he.trans (by rw[HK6.out]<;>rfl)
 clear he;subst hw
 go_wp2_with (first|(refine stepLoad1 rfl _ _ rfl w.heap.size 59 rfl (HB.out.to ii) _ rfl _ Tryz.underlying30 rfl ?_))
 refine(o_lheldStringS (Q6.out.keep ii) (by omega) (by omega) (by omega)).mono ?_
 intro e6 w7 hq6
 obtain⟨he,y6,hw⟩:=hq6
 obtain rfl:e6=.returned (.int .i64 K7):=he.trans (by rw[HK7.out]<;>rfl)
 clear he;subst hw
 go_wp2_with (fail)
 go_ret
 have E1:=HK1.out
 have E2:=HK2.out
 have E3:=HK3.out
 have E4:=HK4.out
 have E5:=HK5.out
 have E6:=HK6.out
 have E7:=HK7.out
 exact Gives.mk (by rw[E7,E6,E5,E4,E3,E2,E1];rfl)
