/- What is held in marked structs with slices. No condition but on sizes. -/
import Derived.Test.YtdijmbipcgalfaaGreatHM41
import Derived.Test.YtdijmbipcgalfaaGreatHM29
namespace Go.Proofs.YtdijmbipcgalfaaGreat
set_option maxRecDepth 100000
set_option maxHeartbeats 2000000
set_option linter.unusedVariables false
open Go.ChangeShapes Go.WideShapes Go.ChangeAt Go.RowKit
variable {k:Int}{B c0:Nat}{a0:Option Addr}{w:World}
theorem bj4{x:Q8}(q0:RdS B w a0 c0 (aG5 x k).Starts)(ht:Enc.tot x≤100000000)(h1:0≤k)(h2:k≤400000000000) :
  Calls Tryz.prog 194 #[.agg #[.int .i64 x.Channel,.int .i64 x.Count,.string x.Rest,.slice a0 x.Starts.length c0],.int .i64 k] w (b5 w (.int .i64 (aa8 x k))):=by
 have htot:Enc.tot x=(x.Rest.size:Int)+d9 x.Starts:=rfl
 have t3:=d6 x.Starts;have l3:=f6 x.Starts
 obtain⟨K1,hk1⟩:∃ K:Int,K=k+(x.Starts.length:Int)*((1:Nat):Int):=⟨_,rfl⟩
 have hK1:k≤K1∧K1≤k+5*d9 x.Starts:=by omega
 have hp1:0≤K1:=by omega
 have hn1:¬ K1<0:=by omega
 have Q0:=lH (show RdS B w a0 c0 (mkL x.Starts (k))by exact q0)
 have HK1:=lH hk1
 clear hk1 q0
 have HB:=lH (j5.new w [.int .i64 x.Channel,.int .i64 x.Count,.string x.Rest,.slice a0 x.Starts.length c0] 85 w.heap.size rfl)
 go_enter Tryz.func194,Tryz.ntmps194
 go_wp2_with (first|(refine lB rfl _ _ rfl w.heap.size 3 rfl HB rfl Tryz.underlying46 ?_))
 refine(an0 (Q0.out.keep ii) om om om).mono ?_
 intro e0 w1 hq0
 obtain⟨he,y0,hw⟩:=hq0
 obtain rfl:e0=.returned (.int .i64 K1):=he.trans (by rw[HK1.out]<;>rfl)
 clear he;subst hw
 go_wp2_with (fail)
 go_ret
 have E1:=HK1.out
 exact b5.mk (by rw[E1];rfl)
theorem bj5{x:E8}(q0:RdS B w a0 c0 (aG6 x k).Waiting)(ht:Enc.tot x≤100000000)(h1:0≤k)(h2:k≤400000000000) :
  Calls Tryz.prog 188 #[.agg #[.int .i64 x.Next,.int .i64 x.Window,.slice a0 x.Waiting.length c0,.int .i64 x.Done],.int .i64 k] w (b5 w (.int .i64 (Y9 x k))):=by
 have htot:Enc.tot x=d9 x.Waiting:=rfl
 have t2:=d6 x.Waiting;have l2:=f6 x.Waiting
 obtain⟨K1,hk1⟩:∃ K:Int,K=k+(x.Waiting.length:Int)*((2:Nat):Int):=⟨_,rfl⟩
 have hK1:k≤K1∧K1≤k+5*d9 x.Waiting:=by omega
 have hp1:0≤K1:=by omega
 have hn1:¬ K1<0:=by omega
 have Q0:=lH (show RdS B w a0 c0 (mkL x.Waiting (k))by exact q0)
 have HK1:=lH hk1
 clear hk1 q0
 have HB:=lH (j5.new w [.int .i64 x.Next,.int .i64 x.Window,.slice a0 x.Waiting.length c0,.int .i64 x.Done] 69 w.heap.size rfl)
 go_enter Tryz.func188,Tryz.ntmps188
 go_wp2_with (first|(refine lB rfl _ _ rfl w.heap.size 2 rfl HB rfl Tryz.underlying67 ?_))
 refine(bt2 (Q0.out.keep ii) om om om).mono ?_
 intro e0 w1 hq0
 obtain⟨he,y0,hw⟩:=hq0
 obtain rfl:e0=.returned (.int .i64 K1):=he.trans (by rw[HK1.out]<;>rfl)
 clear he;subst hw
 go_wp2_with (fail)
 go_ret
 have E1:=HK1.out
 exact b5.mk (by rw[E1];rfl)
theorem aY2{a1:Option Addr}{c1:Nat}{x:I9}(q0:RdS B w a0 c0 (am9 x k).Records)(q1:RdS B w a1 c1 (am9 x k).Dropped)(ht:Enc.tot x≤100000000)(h1:0≤k)(h2:k≤400000000000) :
  Calls Tryz.prog 294 #[.agg #[.int .i64 x.Room,.slice a0 x.Records.length c0,.slice a1 x.Dropped.length c1],.int .i64 k] w (b5 w (.int .i64 (ac1 x k))):=by
 have htot:Enc.tot x=d9 x.Records+d9 x.Dropped:=rfl
 have t1:=d6 x.Records;have l1:=f6 x.Records
 have t2:=d6 x.Dropped;have l2:=f6 x.Dropped
 obtain⟨K1,hk1⟩:∃ K:Int,K=k+(x.Records.length:Int)*((4:Nat):Int):=⟨_,rfl⟩
 have hK1:k≤K1∧K1≤k+5*d9 x.Records:=by omega
 have hp1:0≤K1:=by omega
 have hn1:¬ K1<0:=by omega
 have Q0:=lH (show RdS B w a0 c0 (mkL x.Records (k))by exact q0)
 obtain⟨K2,hk2⟩:∃ K:Int,K=K1+(x.Dropped.length:Int)*((1:Nat):Int):=⟨_,rfl⟩
 have hK2:K1≤K2∧K2≤K1+5*d9 x.Dropped:=by omega
 have hp2:0≤K2:=by omega
 have hn2:¬ K2<0:=by omega
 have Q1:=lH (show RdS B w a1 c1 (mkL x.Dropped (K1))by rw[hk1];exact q1)
 have HK1:=lH hk1
 have HK2:=lH hk2
 clear hk1 hk2 q0 q1
 have HB:=lH (j5.new w [.int .i64 x.Room,.slice a0 x.Records.length c0,.slice a1 x.Dropped.length c1] 82 w.heap.size rfl)
 go_enter Tryz.func294,Tryz.ntmps294
 go_wp2_with (first|(refine lB rfl _ _ rfl w.heap.size 1 rfl HB rfl Tryz.underlying73 ?_))
 refine(av0 (Q0.out.keep ii) om om om).mono ?_
 intro e0 w1 hq0
 obtain⟨he,y0,hw⟩:=hq0
 obtain rfl:e0=.returned (.int .i64 K1):=he.trans (by rw[HK1.out]<;>rfl)
 clear he;subst hw
 go_wp2_with (first|(refine lB rfl _ _ rfl w.heap.size 2 rfl HB rfl Tryz.underlying46 ?_))
 refine(an0 (Q1.out.keep ii) om om om).mono ?_
 intro e1 w2 hq1
 obtain⟨he,y1,hw⟩:=hq1
 obtain rfl:e1=.returned (.int .i64 K2):=he.trans (by rw[HK2.out]<;>rfl)
 clear he;subst hw
 go_wp2_with (fail)
 go_ret
 have E1:=HK1.out
 have E2:=HK2.out
 exact b5.mk (by rw[E2,E1];rfl)
theorem bs8{A:af9}{x:I3}(F:an3 B w A (aO7 x k))(ht:Enc.tot x≤100000000)(h1:0≤k)(h2:k≤300000000000) :
  Calls Tryz.prog 193 #[.agg (F8 x A).toArray,.int .i64 k] w (b5 w (.int .i64 (ac0 x k))):=by
 have htot:Enc.tot x=d9 x.Params+d9 x.Limits+d9 x.Orders+d9 x.Done+Enc.tot x.Recorder+d9 x.Asked:=rfl
 have t1:=d6 x.Params;have l1:=f6 x.Params
 have t3:=d6 x.Limits;have l3:=f6 x.Limits
 have t4:=d6 x.Orders;have l4:=f6 x.Orders
 have t5:=d6 x.Done;have l5:=f6 x.Done
 have t6:=Enc.tot_nonneg x.Recorder
 have t9:=d6 x.Asked;have l9:=f6 x.Asked
 obtain⟨K1,hk1⟩:∃ K:Int,K=k+(x.Params.length:Int)*((1:Nat):Int):=⟨_,rfl⟩
 have hK1:k≤K1∧K1≤k+5*d9 x.Params:=by omega
 have hp1:0≤K1:=by omega
 have hn1:¬ K1<0:=by omega
 have Q0:=lH (show RdS B w A.a0 A.c0 (mkL x.Params (k))by exact F.q0)
 obtain⟨K2,hk2⟩:∃ K:Int,K=K1+(x.Limits.length:Int)*((3:Nat):Int):=⟨_,rfl⟩
 have hK2:K1≤K2∧K2≤K1+5*d9 x.Limits:=by omega
 have hp2:0≤K2:=by omega
 have hn2:¬ K2<0:=by omega
 have Q1:=lH (show RdS B w A.a1 A.c1 (mkL x.Limits (K1))by rw[hk1];exact F.q1)
 obtain⟨K3,hk3⟩:∃ K:Int,K=K2+(x.Orders.length:Int)*((5:Nat):Int):=⟨_,rfl⟩
 have hK3:K2≤K3∧K3≤K2+5*d9 x.Orders:=by omega
 have hp3:0≤K3:=by omega
 have hn3:¬ K3<0:=by omega
 have Q2:=lH (show RdS B w A.a2 A.c2 (mkL x.Orders (K2))by rw[hk2,hk1];exact F.q2)
 obtain⟨K4,hk4⟩:∃ K:Int,K=K3+(x.Done.length:Int)*((3:Nat):Int):=⟨_,rfl⟩
 have hK4:K3≤K4∧K4≤K3+5*d9 x.Done:=by omega
 have hp4:0≤K4:=by omega
 have hn4:¬ K4<0:=by omega
 have Q3:=lH (show RdS B w A.a3 A.c3 (mkL x.Done (K3))by rw[hk3,hk2,hk1];exact F.q3)
 obtain⟨K5,hk5⟩:∃ K:Int,K=ac1 x.Recorder (K4):=⟨_,rfl⟩
 have hb:=au6 x.Recorder K4
 have hK5:K4≤K5∧K5≤K4+5*Enc.tot x.Recorder:=by omega
 clear hb
 have hp5:0≤K5:=by omega
 have hn5:¬ K5<0:=by omega
 have Q4_0:=lH (show RdS B w A.a4 A.c4 (am9 x.Recorder (K4)).Records by rw[hk4,hk3,hk2,hk1];exact F.q4)
 have Q4_1:=lH (show RdS B w A.a5 A.c5 (am9 x.Recorder (K4)).Dropped by rw[hk4,hk3,hk2,hk1];exact F.q5)
 obtain⟨K6,hk6⟩:∃ K:Int,K=K5+(x.Asked.length:Int)*((1:Nat):Int):=⟨_,rfl⟩
 have hK6:K5≤K6∧K6≤K5+5*d9 x.Asked:=by omega
 have hp6:0≤K6:=by omega
 have hn6:¬ K6<0:=by omega
 have Q5:=lH (show RdS B w A.a6 A.c6 (mkL x.Asked (K5))by rw[hk5,hk4,hk3,hk2,hk1];exact F.q6)
 have HK1:=lH hk1
 have HK2:=lH hk2
 have HK3:=lH hk3
 have HK4:=lH hk4
 have HK5:=lH hk5
 have HK6:=lH hk6
 clear hk1 hk2 hk3 hk4 hk5 hk6 F
 have HB:=lH (j5.new w (F8 x A) 84 w.heap.size rfl)
 go_enter Tryz.func193,Tryz.ntmps193
 go_wp2_with (first|(refine lB rfl _ _ rfl w.heap.size 1 rfl HB rfl Tryz.underlying46 ?_))
 refine(an0 (Q0.out.keep ii) om om om).mono ?_
 intro e0 w1 hq0
 obtain⟨he,y0,hw⟩:=hq0
 obtain rfl:e0=.returned (.int .i64 K1):=he.trans (by rw[HK1.out]<;>rfl)
 clear he;subst hw
 go_wp2_with (first|(refine lB rfl _ _ rfl w.heap.size 3 rfl HB rfl Tryz.underlying78 ?_))
 refine(bj3 (Q1.out.keep ii) om om om).mono ?_
 intro e1 w2 hq1
 obtain⟨he,y1,hw⟩:=hq1
 obtain rfl:e1=.returned (.int .i64 K2):=he.trans (by rw[HK2.out]<;>rfl)
 clear he;subst hw
 go_wp2_with (first|(refine lB rfl _ _ rfl w.heap.size 4 rfl HB rfl Tryz.underlying79 ?_))
 refine(aY3 (Q2.out.keep ii) om om om).mono ?_
 intro e2 w3 hq2
 obtain⟨he,y2,hw⟩:=hq2
 obtain rfl:e2=.returned (.int .i64 K3):=he.trans (by rw[HK3.out]<;>rfl)
 clear he;subst hw
 go_wp2_with (first|(refine lB rfl _ _ rfl w.heap.size 5 rfl HB rfl Tryz.underlying80 ?_))
 refine(bt0 (Q3.out.keep ii) om om om).mono ?_
 intro e3 w4 hq3
 obtain⟨he,y3,hw⟩:=hq3
 obtain rfl:e3=.returned (.int .i64 K4):=he.trans (by rw[HK4.out]<;>rfl)
 clear he;subst hw
 go_wp2_with (first|(refine lA rfl _ _ rfl (w.heap.size) 6 rfl [.int .i64 x.Recorder.Room,.slice A.a4 x.Recorder.Records.length A.c4,.slice A.a5 x.Recorder.Dropped.length A.c5] HB Tryz.underlying82 ?_))
 refine(aY2 (x:=x.Recorder) (Q4_0.out.keep ii) (Q4_1.out.keep ii) om om om).mono ?_
 intro e4 w5 hq4
 obtain⟨he,y4,hw⟩:=hq4
 obtain rfl:e4=.returned (.int .i64 K5):=he.trans (by rw[HK5.out]<;>rfl)
 clear he;subst hw
 go_wp2_with (first|(refine lB rfl _ _ rfl w.heap.size 11 rfl HB rfl Tryz.underlying46 ?_))
 refine(an0 (Q5.out.keep ii) om om om).mono ?_
 intro e5 w6 hq5
 obtain⟨he,y5,hw⟩:=hq5
 obtain rfl:e5=.returned (.int .i64 K6):=he.trans (by rw[HK6.out]<;>rfl)
 clear he;subst hw
 go_wp2_with (fail)
 go_ret
 have E1:=HK1.out
 have E2:=HK2.out
 have E3:=HK3.out
 have E4:=HK4.out
 have E5:=HK5.out
 have E6:=HK6.out
 exact b5.mk (by rw[E6,E5,E4,E3,E2,E1];rfl)
theorem bj2{A:ab1}{x:I8}(F:al1 B w A (aG4 x k))(ht:Enc.tot x≤100000000)(h1:0≤k)(h2:k≤200000000000) :
  Calls Tryz.prog 58 #[.agg (M1 x A).toArray,.int .i64 k] w (b5 w (.int .i64 (aa7 x k))):=by
 have htot:Enc.tot x=d9 x.Offers+Enc.tot x.Sender+Enc.tot x.Unpacker+d9 x.Pairs+d9 x.Records+d9 x.Files+d9 x.Told:=rfl
 have t0:=d6 x.Offers;have l0:=f6 x.Offers
 have t1:=Enc.tot_nonneg x.Sender
 have t3:=Enc.tot_nonneg x.Unpacker
 have t4:=d6 x.Pairs;have l4:=f6 x.Pairs
 have t5:=d6 x.Records;have l5:=f6 x.Records
 have t6:=d6 x.Files;have l6:=f6 x.Files
 have t7:=d6 x.Told;have l7:=f6 x.Told
 obtain⟨K1,hk1⟩:∃ K:Int,K=k+(x.Offers.length:Int)*((1:Nat):Int):=⟨_,rfl⟩
 have hK1:k≤K1∧K1≤k+5*d9 x.Offers:=by omega
 have hp1:0≤K1:=by omega
 have hn1:¬ K1<0:=by omega
 have Q0:=lH (show RdS B w A.a0 A.c0 (mkL x.Offers (k))by exact F.q0)
 obtain⟨K2,hk2⟩:∃ K:Int,K=Y9 x.Sender (K1):=⟨_,rfl⟩
 have hb:=az6 x.Sender K1
 have hK2:K1≤K2∧K2≤K1+5*Enc.tot x.Sender:=by omega
 clear hb
 have hp2:0≤K2:=by omega
 have hn2:¬ K2<0:=by omega
 have Q1_0:=lH (show RdS B w A.a1 A.c1 (aG6 x.Sender (K1)).Waiting by rw[hk1];exact F.q1)
 obtain⟨K3,hk3⟩:∃ K:Int,K=K2+(x.Pairs.length:Int)*((2:Nat):Int):=⟨_,rfl⟩
 have hK3:K2≤K3∧K3≤K2+5*d9 x.Pairs:=by omega
 have hp3:0≤K3:=by omega
 have hn3:¬ K3<0:=by omega
 have Q2:=lH (show RdS B w A.a2 A.c2 (mkL x.Pairs (K2))by rw[hk2,hk1];exact F.q2)
 obtain⟨K4,hk4⟩:∃ K:Int,K=K3+(x.Records.length:Int)*((4:Nat):Int):=⟨_,rfl⟩
 have hK4:K3≤K4∧K4≤K3+5*d9 x.Records:=by omega
 have hp4:0≤K4:=by omega
 have hn4:¬ K4<0:=by omega
 have Q3:=lH (show RdS B w A.a3 A.c3 (mkL x.Records (K3))by rw[hk3,hk2,hk1];exact F.q3)
 obtain⟨K5,hk5⟩:∃ K:Int,K=mnN F6 x.Files (K4):=⟨_,rfl⟩
 have hb:=au7 F6 ao6 x.Files K4
 have hK5:K4≤K5∧K5≤K4+5*d9 x.Files:=by omega
 clear hb
 have hp5:0≤K5:=by omega
 have hn5:¬ K5<0:=by omega
 have Q4:=lH (show RdS B w A.a4 A.c4 (mkN aa6 F6 x.Files (K4))by rw[hk4,hk3,hk2,hk1];exact F.q4)
 obtain⟨K6,hk6⟩:∃ K:Int,K=K5+(x.Told.length:Int)*((1:Nat):Int):=⟨_,rfl⟩
 have hK6:K5≤K6∧K6≤K5+5*d9 x.Told:=by omega
 have hp6:0≤K6:=by omega
 have hn6:¬ K6<0:=by omega
 have Q5:=lH (show RdS B w A.a5 A.c5 (mkL x.Told (K5))by rw[hk5,hk4,hk3,hk2,hk1];exact F.q5)
 have HK1:=lH hk1
 have HK2:=lH hk2
 have HK3:=lH hk3
 have HK4:=lH hk4
 have HK5:=lH hk5
 have HK6:=lH hk6
 clear hk1 hk2 hk3 hk4 hk5 hk6 F
 have HB:=lH (j5.new w (M1 x A) 76 w.heap.size rfl)
 go_enter Tryz.func58,Tryz.ntmps58
 go_wp2_with (first|(refine lB rfl _ _ rfl w.heap.size 0 rfl HB rfl Tryz.underlying30 ?_))
 refine(aj4 (Q0.out.keep ii) om om om).mono ?_
 intro e0 w1 hq0
 obtain⟨he,y0,hw⟩:=hq0
 obtain rfl:e0=.returned (.int .i64 K1):=he.trans (by rw[HK1.out]<;>rfl)
 clear he;subst hw
 go_wp2_with (first|(refine lA rfl _ _ rfl (w.heap.size) 1 rfl [.int .i64 x.Sender.Next,.int .i64 x.Sender.Window,.slice A.a1 x.Sender.Waiting.length A.c1,.int .i64 x.Sender.Done] HB Tryz.underlying69 ?_))
 refine(bj5 (x:=x.Sender) (Q1_0.out.keep ii) om om om).mono ?_
 intro e1 w2 hq1
 obtain⟨he,y1,hw⟩:=hq1
 obtain rfl:e1=.returned (.int .i64 K2):=he.trans (by rw[HK2.out]<;>rfl)
 clear he;subst hw
 go_wp2_with (first|(refine lB rfl _ _ rfl w.heap.size 13 rfl HB rfl Tryz.underlying72 ?_))
 refine(bt1 (Q2.out.keep ii) om om om).mono ?_
 intro e2 w3 hq2
 obtain⟨he,y2,hw⟩:=hq2
 obtain rfl:e2=.returned (.int .i64 K3):=he.trans (by rw[HK3.out]<;>rfl)
 clear he;subst hw
 go_wp2_with (first|(refine lB rfl _ _ rfl w.heap.size 14 rfl HB rfl Tryz.underlying73 ?_))
 refine(av0 (Q3.out.keep ii) om om om).mono ?_
 intro e3 w4 hq3
 obtain⟨he,y3,hw⟩:=hq3
 obtain rfl:e3=.returned (.int .i64 K4):=he.trans (by rw[HK4.out]<;>rfl)
 clear he;subst hw
 go_wp2_with (first|(refine lB rfl _ _ rfl w.heap.size 15 rfl HB rfl Tryz.underlying74 ?_))
 refine(be1 (Q4.out.keep ii) om om om).mono ?_
 intro e4 w5 hq4
 obtain⟨he,y4,hw⟩:=hq4
 obtain rfl:e4=.returned (.int .i64 K5):=he.trans (by rw[HK5.out]<;>rfl)
 clear he;subst hw
 go_wp2_with (first|(refine lB rfl _ _ rfl w.heap.size 16 rfl HB rfl Tryz.underlying41 ?_))
 refine(bs9 (Q5.out.keep ii) om om om).mono ?_
 intro e5 w6 hq5
 obtain⟨he,y5,hw⟩:=hq5
 obtain rfl:e5=.returned (.int .i64 K6):=he.trans (by rw[HK6.out]<;>rfl)
 clear he;subst hw
 go_wp2_with (fail)
 go_ret
 have E1:=HK1.out
 have E2:=HK2.out
 have E3:=HK3.out
 have E4:=HK4.out
 have E5:=HK5.out
 have E6:=HK6.out
 exact b5.mk (by rw[E6,E5,E4,E3,E2,E1];rfl)
theorem bt4{A:ah7}{x:M0}(F:aq7 B w A (aO8 x k))(ht:Enc.tot x≤100000000)(h1:0≤k)(h2:k≤200000000000) :
  Calls Tryz.prog 59 #[.agg (S9 x A).toArray,.int .i64 k] w (b5 w (.int .i64 (al7 x k))):=by
 have htot:Enc.tot x=Enc.tot x.Board+Enc.tot x.Packer+d9 x.Files+d9 x.Outs+d9 x.Sent:=rfl
 have t1:=Enc.tot_nonneg x.Board
 have t2:=Enc.tot_nonneg x.Packer
 have t4:=d6 x.Files;have l4:=f6 x.Files
 have t5:=d6 x.Outs;have l5:=f6 x.Outs
 have t7:=d6 x.Sent;have l7:=f6 x.Sent
 obtain⟨K1,hk1⟩:∃ K:Int,K=ac0 x.Board (k):=⟨_,rfl⟩
 have hb:=aD9 x.Board k
 have hK1:k≤K1∧K1≤k+5*Enc.tot x.Board:=by omega
 clear hb
 have hp1:0≤K1:=by omega
 have hn1:¬ K1<0:=by omega
 have Q0:=lH (show an3 B w ⟨A.a0,A.c0,A.a1,A.c1,A.a2,A.c2,A.a3,A.c3,A.a4,A.c4,A.a5,A.c5,A.a6,A.c6⟩ (aO7 x.Board (k))by exact⟨F.q0,F.q1,F.q2,F.q3,F.q4,F.q5,F.q6,F.ok.2.1⟩)
 obtain⟨K2,hk2⟩:∃ K:Int,K=aa8 x.Packer (K1):=⟨_,rfl⟩
 have hb:=az5 x.Packer K1
 have hK2:K1≤K2∧K2≤K1+5*Enc.tot x.Packer:=by omega
 clear hb
 have hp2:0≤K2:=by omega
 have hn2:¬ K2<0:=by omega
 have Q1_0:=lH (show RdS B w A.a7 A.c7 (aG5 x.Packer (K1)).Starts by rw[hk1];exact F.q7)
 obtain⟨K3,hk3⟩:∃ K:Int,K=K2+(x.Files.length:Int)*((1:Nat):Int):=⟨_,rfl⟩
 have hK3:K2≤K3∧K3≤K2+5*d9 x.Files:=by omega
 have hp3:0≤K3:=by omega
 have hn3:¬ K3<0:=by omega
 have Q2:=lH (show RdS B w A.a8 A.c8 (mkL x.Files (K2))by rw[hk2,hk1];exact F.q8)
 obtain⟨K4,hk4⟩:∃ K:Int,K=mnN F9 x.Outs (K3):=⟨_,rfl⟩
 have hb:=au7 F9 al6 x.Outs K3
 have hK4:K3≤K4∧K4≤K3+5*d9 x.Outs:=by omega
 clear hb
 have hp4:0≤K4:=by omega
 have hn4:¬ K4<0:=by omega
 have Q3:=lH (show RdS B w A.a9 A.c9 (mkN ad0 F9 x.Outs (K3))by rw[hk3,hk2,hk1];exact F.q9)
 obtain⟨K5,hk5⟩:∃ K:Int,K=K4+(x.Sent.length:Int)*((4:Nat):Int):=⟨_,rfl⟩
 have hK5:K4≤K5∧K5≤K4+5*d9 x.Sent:=by omega
 have hp5:0≤K5:=by omega
 have hn5:¬ K5<0:=by omega
 have Q4:=lH (show RdS B w A.a10 A.c10 (mkL x.Sent (K4))by rw[hk4,hk3,hk2,hk1];exact F.q10)
 have HK1:=lH hk1
 have HK2:=lH hk2
 have HK3:=lH hk3
 have HK4:=lH hk4
 have HK5:=lH hk5
 clear hk1 hk2 hk3 hk4 hk5 F
 have HB:=lH (j5.new w (S9 x A) 88 w.heap.size rfl)
 go_enter Tryz.func59,Tryz.ntmps59
 go_wp2_with (first|(refine lA rfl _ _ rfl (w.heap.size) 4 rfl (F8 x.Board A) HB Tryz.underlying84 ?_))
 refine(bs8 (x:=x.Board) (Q0.out.keep ii) om om om).mono ?_
 intro e0 w1 hq0
 obtain⟨he,y0,hw⟩:=hq0
 obtain rfl:e0=.returned (.int .i64 K1):=he.trans (by rw[HK1.out]<;>rfl)
 clear he;subst hw
 go_wp2_with (first|(refine lA rfl _ _ rfl (w.heap.size) 16 rfl [.int .i64 x.Packer.Channel,.int .i64 x.Packer.Count,.string x.Packer.Rest,.slice A.a7 x.Packer.Starts.length A.c7] HB Tryz.underlying85 ?_))
 refine(bj4 (x:=x.Packer) (Q1_0.out.keep ii) om om om).mono ?_
 intro e1 w2 hq1
 obtain⟨he,y1,hw⟩:=hq1
 obtain rfl:e1=.returned (.int .i64 K2):=he.trans (by rw[HK2.out]<;>rfl)
 clear he;subst hw
 go_wp2_with (first|(refine lB rfl _ _ rfl w.heap.size 21 rfl HB rfl Tryz.underlying30 ?_))
 refine(aj4 (Q2.out.keep ii) om om om).mono ?_
 intro e2 w3 hq2
 obtain⟨he,y2,hw⟩:=hq2
 obtain rfl:e2=.returned (.int .i64 K3):=he.trans (by rw[HK3.out]<;>rfl)
 clear he;subst hw
 go_wp2_with (first|(refine lB rfl _ _ rfl w.heap.size 22 rfl HB rfl Tryz.underlying86 ?_))
 refine(aY1 (Q3.out.keep ii) om om om).mono ?_
 intro e3 w4 hq3
 obtain⟨he,y3,hw⟩:=hq3
 obtain rfl:e3=.returned (.int .i64 K4):=he.trans (by rw[HK4.out]<;>rfl)
 clear he;subst hw
 go_wp2_with (first|(refine lB rfl _ _ rfl w.heap.size 24 rfl HB rfl Tryz.underlying73 ?_))
 refine(av0 (Q4.out.keep ii) om om om).mono ?_
 intro e4 w5 hq4
 obtain⟨he,y4,hw⟩:=hq4
 obtain rfl:e4=.returned (.int .i64 K5):=he.trans (by rw[HK5.out]<;>rfl)
 clear he;subst hw
 go_wp2_with (fail)
 go_ret
 have E1:=HK1.out
 have E2:=HK2.out
 have E3:=HK3.out
 have E4:=HK4.out
 have E5:=HK5.out
 exact b5.mk (by rw[E5,E4,E3,E2,E1];rfl)
theorem be2{A:I1}{x:f7}(F:ad7 B w A (i8 x k))(ht:Enc.tot x≤100000000)(h1:0≤k)(h2:k≤100000000000) :
  Calls Tryz.prog 11 #[.agg (s9 x A).toArray,.int .i64 k] w (b5 w (.int .i64 (ag7 x k))):=by
 have htot:Enc.tot x=d9 x.Plan+d9 x.Ups+d9 x.Downs+Enc.tot x.Ground+Enc.tot x.Space+d9 x.Offered+d9 x.Took:=rfl
 have t4:=d6 x.Plan;have l4:=f6 x.Plan
 have t7:=d6 x.Ups;have l7:=f6 x.Ups
 have t8:=d6 x.Downs;have l8:=f6 x.Downs
 have t9:=Enc.tot_nonneg x.Ground
 have t10:=Enc.tot_nonneg x.Space
 have t11:=d6 x.Offered;have l11:=f6 x.Offered
 have t12:=d6 x.Took;have l12:=f6 x.Took
 obtain⟨K1,hk1⟩:∃ K:Int,K=k+(x.Plan.length:Int)*((2:Nat):Int):=⟨_,rfl⟩
 have hK1:k≤K1∧K1≤k+5*d9 x.Plan:=by omega
 have hp1:0≤K1:=by omega
 have hn1:¬ K1<0:=by omega
 have Q0:=lH (show RdS B w A.a0 A.c0 (mkL x.Plan (k))by exact F.q0)
 obtain⟨K2,hk2⟩:∃ K:Int,K=K1+(x.Ups.length:Int)*((2:Nat):Int):=⟨_,rfl⟩
 have hK2:K1≤K2∧K2≤K1+5*d9 x.Ups:=by omega
 have hp2:0≤K2:=by omega
 have hn2:¬ K2<0:=by omega
 have Q1:=lH (show RdS B w A.a1 A.c1 (mkL x.Ups (K1))by rw[hk1];exact F.q1)
 obtain⟨K3,hk3⟩:∃ K:Int,K=K2+(x.Downs.length:Int)*((2:Nat):Int):=⟨_,rfl⟩
 have hK3:K2≤K3∧K3≤K2+5*d9 x.Downs:=by omega
 have hp3:0≤K3:=by omega
 have hn3:¬ K3<0:=by omega
 have Q2:=lH (show RdS B w A.a2 A.c2 (mkL x.Downs (K2))by rw[hk2,hk1];exact F.q2)
 obtain⟨K4,hk4⟩:∃ K:Int,K=aa7 x.Ground (K3):=⟨_,rfl⟩
 have hb:=az4 x.Ground K3
 have hK4:K3≤K4∧K4≤K3+5*Enc.tot x.Ground:=by omega
 clear hb
 have hp4:0≤K4:=by omega
 have hn4:¬ K4<0:=by omega
 have Q3:=lH (show al1 B w ⟨A.a3,A.c3,A.a4,A.c4,A.a5,A.c5,A.a6,A.c6,A.a7,A.c7,A.a8,A.c8⟩ (aG4 x.Ground (K3))by rw[hk3,hk2,hk1];exact⟨F.q3,F.q4,F.q5,F.q6,F.q7,F.q8,F.ok.2.2.2.2.2.2.1⟩)
 obtain⟨K5,hk5⟩:∃ K:Int,K=al7 x.Space (K4):=⟨_,rfl⟩
 have hb:=aE0 x.Space K4
 have hK5:K4≤K5∧K5≤K4+5*Enc.tot x.Space:=by omega
 clear hb
 have hp5:0≤K5:=by omega
 have hn5:¬ K5<0:=by omega
 have Q4:=lH (show aq7 B w ⟨A.a9,A.c9,A.a10,A.c10,A.a11,A.c11,A.a12,A.c12,A.a13,A.c13,A.a14,A.c14,A.a15,A.c15,A.a16,A.c16,A.a17,A.c17,A.a18,A.c18,A.a19,A.c19⟩ (aO8 x.Space (K4))by rw[hk4,hk3,hk2,hk1];exact⟨F.q9,F.q10,F.q11,F.q12,F.q13,F.q14,F.q15,F.q16,F.q17,F.q18,F.q19,F.ok.2.2.2.2.2.2.2.1⟩)
 obtain⟨K6,hk6⟩:∃ K:Int,K=K5+(x.Offered.length:Int)*((1:Nat):Int):=⟨_,rfl⟩
 have hK6:K5≤K6∧K6≤K5+5*d9 x.Offered:=by omega
 have hp6:0≤K6:=by omega
 have hn6:¬ K6<0:=by omega
 have Q5:=lH (show RdS B w A.a20 A.c20 (mkL x.Offered (K5))by rw[hk5,hk4,hk3,hk2,hk1];exact F.q20)
 obtain⟨K7,hk7⟩:∃ K:Int,K=K6+(x.Took.length:Int)*((1:Nat):Int):=⟨_,rfl⟩
 have hK7:K6≤K7∧K7≤K6+5*d9 x.Took:=by omega
 have hp7:0≤K7:=by omega
 have hn7:¬ K7<0:=by omega
 have Q6:=lH (show RdS B w A.a21 A.c21 (mkL x.Took (K6))by rw[hk6,hk5,hk4,hk3,hk2,hk1];exact F.q21)
 have HK1:=lH hk1
 have HK2:=lH hk2
 have HK3:=lH hk3
 have HK4:=lH hk4
 have HK5:=lH hk5
 have HK6:=lH hk6
 have HK7:=lH hk7
 clear hk1 hk2 hk3 hk4 hk5 hk6 hk7 F
 have HB:=lH (j5.new w (s9 x A) 90 w.heap.size rfl)
 go_enter Tryz.func11,Tryz.ntmps11
 go_wp2_with (first|(refine lB rfl _ _ rfl w.heap.size 7 rfl HB rfl Tryz.underlying64 ?_))
 refine(bt3 (Q0.out.keep ii) om om om).mono ?_
 intro e0 w1 hq0
 obtain⟨he,y0,hw⟩:=hq0
 obtain rfl:e0=.returned (.int .i64 K1):=he.trans (by rw[HK1.out]<;>rfl)
 clear he;subst hw
 go_wp2_with (first|(refine lB rfl _ _ rfl w.heap.size 14 rfl HB rfl Tryz.underlying66 ?_))
 refine(aE2 (Q1.out.keep ii) om om om).mono ?_
 intro e1 w2 hq1
 obtain⟨he,y1,hw⟩:=hq1
 obtain rfl:e1=.returned (.int .i64 K2):=he.trans (by rw[HK2.out]<;>rfl)
 clear he;subst hw
 go_wp2_with (first|(refine lB rfl _ _ rfl w.heap.size 15 rfl HB rfl Tryz.underlying66 ?_))
 refine(aE2 (Q2.out.keep ii) om om om).mono ?_
 intro e2 w3 hq2
 obtain⟨he,y2,hw⟩:=hq2
 obtain rfl:e2=.returned (.int .i64 K3):=he.trans (by rw[HK3.out]<;>rfl)
 clear he;subst hw
 go_wp2_with (first|(refine lA rfl _ _ rfl (w.heap.size) 16 rfl (X3 x.Ground A.a3 A.c3 A.a4 A.c4 A.a5 A.c5 A.a6 A.c6 A.a7 A.c7 A.a8 A.c8) HB Tryz.underlying76 ?_))
 refine(bj2 (x:=x.Ground) (Q3.out.keep ii) om om om).mono ?_
 intro e3 w4 hq3
 obtain⟨he,y3,hw⟩:=hq3
 obtain rfl:e3=.returned (.int .i64 K4):=he.trans (by rw[HK4.out]<;>rfl)
 clear he;subst hw
 go_wp2_with (first|(refine lA rfl _ _ rfl (w.heap.size) 33 rfl (ad9 x.Space A.a9 A.c9 A.a10 A.c10 A.a11 A.c11 A.a12 A.c12 A.a13 A.c13 A.a14 A.c14 A.a15 A.c15 A.a16 A.c16 A.a17 A.c17 A.a18 A.c18 A.a19 A.c19) HB Tryz.underlying88 ?_))
 refine(bt4 (x:=x.Space) (Q4.out.keep ii) om om om).mono ?_
 intro e4 w5 hq4
 obtain⟨he,y4,hw⟩:=hq4
 obtain rfl:e4=.returned (.int .i64 K5):=he.trans (by rw[HK5.out]<;>rfl)
 clear he;subst hw
 go_wp2_with (first|(refine lB rfl _ _ rfl w.heap.size 58 rfl HB rfl Tryz.underlying30 ?_))
 refine(aj4 (Q5.out.keep ii) om om om).mono ?_
 intro e5 w6 hq5
 obtain⟨he,y5,hw⟩:=hq5
 obtain rfl:e5=.returned (.int .i64 K6):=he.trans (by rw[HK6.out]<;>rfl)
 clear he;subst hw
 go_wp2_with (first|(refine lB rfl _ _ rfl w.heap.size 59 rfl HB rfl Tryz.underlying30 ?_))
 refine(aj4 (Q6.out.keep ii) om om om).mono ?_
 intro e6 w7 hq6
 obtain⟨he,y6,hw⟩:=hq6
 obtain rfl:e6=.returned (.int .i64 K7):=he.trans (by rw[HK7.out]<;>rfl)
 clear he;subst hw
 go_wp2_with (fail)
 go_ret
 have E1:=HK1.out
 have E2:=HK2.out
 have E3:=HK3.out
 have E4:=HK4.out
 have E5:=HK5.out
 have E6:=HK6.out
 have E7:=HK7.out
 exact b5.mk (by rw[E7,E6,E5,E4,E3,E2,E1];rfl)
