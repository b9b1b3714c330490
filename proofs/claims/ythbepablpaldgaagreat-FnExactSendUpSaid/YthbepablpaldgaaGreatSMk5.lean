/- Marks in structs with slices. No condition but on sizes. -/
import Derived.Test.YthbepablpaldgaaGreatSM44
import Derived.Test.YthbepablpaldgaaGreatSM34
namespace Go.Proofs.YthbepablpaldgaaGreat
set_option maxRecDepth 100000
set_option maxHeartbeats 2000000
set_option linter.unusedVariables false
open Go.ChangeShapes Go.WideShapes Go.ChangeAt Go.RowKit
theorem o_lmarkPacker{B o:Nat}{χ:Nat→Col}{a0:Option Addr}{c0:Nat}{x:TPacker}{k:Int}{w:World}(F:TPackerO B χ o w a0 c0 x)(hf:Fresh χ w)(hB:B≤w.heap.size)(ho:o+1≤1000)(ht:Enc.tot x≤100000000)(h1:0≤k)(h2:k≤400000000000) :
  Calls Tryz.prog 153 #[.agg #[.int .i64 x.Channel,.int .i64 x.Count,.string x.Rest,.slice a0 x.Starts.length c0],.int .i64 k] w (Mkd (mnMPacker x k) (fun w2=>TPackerO B χ o w2 a0 c0 (mkMPacker x k)) (Fr B χ (Rng o (o+1)) w)):=by
 have htot:Enc.tot x=(x.Rest.size:Int)+totL x.Starts:=rfl
 have t3:=totL_nonneg x.Starts;have l3:=totL_len x.Starts
 have HOK:=lH F.ok
 have HB0:=lH (Held.new w [.int .i64 x.Channel,.int .i64 x.Count,.string x.Rest,.slice a0 x.Starts.length c0] 85 w.heap.size rfl)
 have hFB:1000≤(χ w.heap.size).1:=hf _ nl
 have FA0:=lH (show Fr B χ (Rng o (o+0)) w (w.alloc (.cells #[.int .i64 x.Channel,.int .i64 x.Count,.string x.Rest,.slice a0 x.Starts.length c0] 85))from Fr.grows _ _ _ _ _)
 have HFF:=lH F;clear F
 have HFR:=lH hf;clear hf
 go_enter Tryz.func153,Tryz.ntmps153
 go_wp2_with (first|(refine stepLoad1 rfl _ _ rfl w.heap.size 3 rfl (HB0.out.to ii) _ rfl _ Tryz.underlying46 rfl ?_))
 refine(o_lmarkIntS (HFF.out.o0.fr FA0.out (Rng.out (.inr (by omega)))) (by omega) (by omega) (by omega)).mono ?_
 intro e0 w1 hq0
 obtain⟨he,hi,F1⟩:=hq0
 obtain⟨K1,hK⟩:∃ K:Int,K=k+(x.Starts.length:Int)*((1:Nat):Int):=⟨_,rfl⟩
 obtain rfl:e0=.returned (.int .i64 K1):=he.trans (by rw[hK]<;>rfl)
 have hK1:k≤K1∧K1≤k+5*totL x.Starts:=by omega
 have HK1:=lH hK;have HI0:=lH hi
 have HG0:=lH (show Fr B χ (Rng (o+0) (o+1)) _ w1 from F1.rng0)
 clear he hK hi F1
 have HB1:=lH (HB0.out.frm HG0.out (by omega) hFB)
 have FA1:=lH (FA0.out.tr HG0.out (by omega) (by omega))
 go_wp2_with (fail)
 go_ret
 have FB1:=lH (show Fr B χ (Rng (o+1) (o+1)) w1 w1 from Fr.refl _ _ _ _)
 have E1:=HK1.out;clear HK1;subst E1
 exact⟨rfl,⟨HI0.out.fr FB1.out (Rng.out (.inl (by omega))),HOK.out⟩,FA1.out⟩
theorem o_lmarkSender{B o:Nat}{χ:Nat→Col}{a0:Option Addr}{c0:Nat}{x:TSender}{k:Int}{w:World}(F:TSenderO B χ o w a0 c0 x)(hf:Fresh χ w)(hB:B≤w.heap.size)(ho:o+1≤1000)(ht:Enc.tot x≤100000000)(h1:0≤k)(h2:k≤400000000000) :
  Calls Tryz.prog 147 #[.agg #[.int .i64 x.Next,.int .i64 x.Window,.slice a0 x.Waiting.length c0,.int .i64 x.Done],.int .i64 k] w (Mkd (mnMSender x k) (fun w2=>TSenderO B χ o w2 a0 c0 (mkMSender x k)) (Fr B χ (Rng o (o+1)) w)):=by
 have htot:Enc.tot x=totL x.Waiting:=rfl
 have t2:=totL_nonneg x.Waiting;have l2:=totL_len x.Waiting
 have HOK:=lH F.ok
 have HB0:=lH (Held.new w [.int .i64 x.Next,.int .i64 x.Window,.slice a0 x.Waiting.length c0,.int .i64 x.Done] 69 w.heap.size rfl)
 have hFB:1000≤(χ w.heap.size).1:=hf _ nl
 have FA0:=lH (show Fr B χ (Rng o (o+0)) w (w.alloc (.cells #[.int .i64 x.Next,.int .i64 x.Window,.slice a0 x.Waiting.length c0,.int .i64 x.Done] 69))from Fr.grows _ _ _ _ _)
 have HFF:=lH F;clear F
 have HFR:=lH hf;clear hf
 go_enter Tryz.func147,Tryz.ntmps147
 go_wp2_with (first|(refine stepLoad1 rfl _ _ rfl w.heap.size 2 rfl (HB0.out.to ii) _ rfl _ Tryz.underlying67 rfl ?_))
 refine(o_lmarkSentS (HFF.out.o0.fr FA0.out (Rng.out (.inr (by omega)))) (by omega) (by omega) (by omega)).mono ?_
 intro e0 w1 hq0
 obtain⟨he,hi,F1⟩:=hq0
 obtain⟨K1,hK⟩:∃ K:Int,K=k+(x.Waiting.length:Int)*((2:Nat):Int):=⟨_,rfl⟩
 obtain rfl:e0=.returned (.int .i64 K1):=he.trans (by rw[hK]<;>rfl)
 have hK1:k≤K1∧K1≤k+5*totL x.Waiting:=by omega
 have HK1:=lH hK;have HI0:=lH hi
 have HG0:=lH (show Fr B χ (Rng (o+0) (o+1)) _ w1 from F1.rng0)
 clear he hK hi F1
 have HB1:=lH (HB0.out.frm HG0.out (by omega) hFB)
 have FA1:=lH (FA0.out.tr HG0.out (by omega) (by omega))
 go_wp2_with (fail)
 go_ret
 have FB1:=lH (show Fr B χ (Rng (o+1) (o+1)) w1 w1 from Fr.refl _ _ _ _)
 have E1:=HK1.out;clear HK1;subst E1
 exact⟨rfl,⟨HI0.out.fr FB1.out (Rng.out (.inl (by omega))),HOK.out⟩,FA1.out⟩
theorem o_lmarkRecorder{B o:Nat}{χ:Nat→Col}{a0:Option Addr}{c0:Nat}{a1:Option Addr}{c1:Nat}{x:TRecorder}{k:Int}{w:World}(F:TRecorderO B χ o w a0 c0 a1 c1 x)(hf:Fresh χ w)(hB:B≤w.heap.size)(ho:o+2≤1000)(ht:Enc.tot x≤100000000)(h1:0≤k)(h2:k≤400000000000) :
  Calls Tryz.prog 242 #[.agg #[.int .i64 x.Room,.slice a0 x.Records.length c0,.slice a1 x.Dropped.length c1],.int .i64 k] w (Mkd (mnMRecorder x k) (fun w2=>TRecorderO B χ o w2 a0 c0 a1 c1 (mkMRecorder x k)) (Fr B χ (Rng o (o+2)) w)):=by
 have htot:Enc.tot x=totL x.Records+totL x.Dropped:=rfl
 have t1:=totL_nonneg x.Records;have l1:=totL_len x.Records
 have t2:=totL_nonneg x.Dropped;have l2:=totL_len x.Dropped
 have HOK:=lH F.ok
 have HB0:=lH (Held.new w [.int .i64 x.Room,.slice a0 x.Records.length c0,.slice a1 x.Dropped.length c1] 82 w.heap.size rfl)
 have hFB:1000≤(χ w.heap.size).1:=hf _ nl
 have FA0:=lH (show Fr B χ (Rng o (o+0)) w (w.alloc (.cells #[.int .i64 x.Room,.slice a0 x.Records.length c0,.slice a1 x.Dropped.length c1] 82))from Fr.grows _ _ _ _ _)
 have HFF:=lH F;clear F
 have HFR:=lH hf;clear hf
 go_enter Tryz.func242,Tryz.ntmps242
 go_wp2_with (first|(refine stepLoad1 rfl _ _ rfl w.heap.size 1 rfl (HB0.out.to ii) _ rfl _ Tryz.underlying73 rfl ?_))
 refine(o_lmarkRecordS (HFF.out.o0.fr FA0.out (Rng.out (.inr (by omega)))) (by omega) (by omega) (by omega)).mono ?_
 intro e0 w1 hq0
 obtain⟨he,hi,F1⟩:=hq0
 obtain⟨K1,hK⟩:∃ K:Int,K=k+(x.Records.length:Int)*((4:Nat):Int):=⟨_,rfl⟩
 obtain rfl:e0=.returned (.int .i64 K1):=he.trans (by rw[hK]<;>rfl)
 have hK1:k≤K1∧K1≤k+5*totL x.Records:=by omega
 have HK1:=lH hK;have HI0:=lH hi
 have HG0:=lH (show Fr B χ (Rng (o+0) (o+1)) _ w1 from F1.rng0)
 clear he hK hi F1
 have HB1:=lH (HB0.out.frm HG0.out (by omega) hFB)
 have FA1:=lH (FA0.out.tr HG0.out (by omega) (by omega))
 go_wp2_with (first|(refine stepLoad1 rfl _ _ rfl w.heap.size 2 rfl (HB1.out.to ii) _ rfl _ Tryz.underlying46 rfl ?_))
 refine(o_lmarkIntS (HFF.out.o1.fr FA1.out (Rng.out (.inr (by omega)))) (by omega) (by omega) (by omega)).mono ?_
 intro e1 w2 hq1
 obtain⟨he,hi,F1⟩:=hq1
 obtain⟨K2,hK⟩:∃ K:Int,K=K1+(x.Dropped.length:Int)*((1:Nat):Int):=⟨_,rfl⟩
 obtain rfl:e1=.returned (.int .i64 K2):=he.trans (by rw[hK]<;>rfl)
 have hK2:K1≤K2∧K2≤K1+5*totL x.Dropped:=by omega
 have HK2:=lH hK;have HI1:=lH hi
 have HG1:=lH (show Fr B χ (Rng (o+1) (o+2)) _ w2 from F1.rng0)
 clear he hK hi F1
 have HB2:=lH (HB1.out.frm HG1.out (by omega) hFB)
 have FA2:=lH (FA1.out.tr HG1.out (by omega) (by omega))
 go_wp2_with (fail)
 go_ret
 have FB2:=lH (show Fr B χ (Rng (o+2) (o+2)) w2 w2 from Fr.refl _ _ _ _)
 have FB1:=lH (HG1.out.tr FB2.out (by omega) (by omega))
 have E1:=HK1.out;clear HK1;subst E1
 have E2:=HK2.out;clear HK2;subst E2
 exact⟨rfl,⟨HI0.out.fr FB1.out (Rng.out (.inl (by omega))),HI1.out.fr FB2.out (Rng.out (.inl (by omega))),HOK.out⟩,FA2.out⟩
theorem o_lmarkBoard{B o:Nat}{χ:Nat→Col}{A:TBoardA}{x:TBoard}{k:Int}{w:World}(F:TBoardO B χ o w A x)(hf:Fresh χ w)(hB:B≤w.heap.size)(ho:o+7≤1000)(ht:Enc.tot x≤100000000)(h1:0≤k)(h2:k≤300000000000) :
  Calls Tryz.prog 152 #[.agg (dBoard x A).toArray,.int .i64 k] w (Mkd (mnMBoard x k) (fun w2=>TBoardO B χ o w2 A (mkMBoard x k)) (Fr B χ (Rng o (o+7)) w)):=by
 have htot:Enc.tot x=totL x.Params+totL x.Limits+totL x.Orders+totL x.Done+Enc.tot x.Recorder+totL x.Asked:=rfl
 have t1:=totL_nonneg x.Params;have l1:=totL_len x.Params
 have t3:=totL_nonneg x.Limits;have l3:=totL_len x.Limits
 have t4:=totL_nonneg x.Orders;have l4:=totL_len x.Orders
 have t5:=totL_nonneg x.Done;have l5:=totL_len x.Done
 have t6:=Enc.tot_nonneg x.Recorder
 have t9:=totL_nonneg x.Asked;have l9:=totL_len x.Asked
 have HOK:=lH F.ok
 have HB0:=lH (Held.new w (dBoard x A) 84 w.heap.size rfl)
 have hFB:1000≤(χ w.heap.size).1:=hf _ nl
 have FA0:=lH (show Fr B χ (Rng o (o+0)) w (w.alloc (.cells (dBoard x A).toArray 84))from Fr.grows _ _ _ _ _)
 have HFF:=lH F;clear F
 have HFR:=lH hf;clear hf
 go_enter Tryz.func152,Tryz.ntmps152
 go_wp2_with (first|(refine stepLoad1 rfl _ _ rfl w.heap.size 1 rfl (HB0.out.to ii) _ rfl _ Tryz.underlying46 rfl ?_))
 refine(o_lmarkIntS (HFF.out.o0.fr FA0.out (Rng.out (.inr (by omega)))) (by omega) (by omega) (by omega)).mono ?_
 intro e0 w1 hq0
 obtain⟨he,hi,F1⟩:=hq0
 obtain⟨K1,hK⟩:∃ K:Int,K=k+(x.Params.length:Int)*((1:Nat):Int):=⟨_,rfl⟩
 obtain rfl:e0=.returned (.int .i64 K1):=he.trans (by rw[hK]<;>rfl)
 have hK1:k≤K1∧K1≤k+5*totL x.Params:=by omega
 have HK1:=lH hK;have HI0:=lH hi
 have HG0:=lH (show Fr B χ (Rng (o+0) (o+1)) _ w1 from F1.rng0)
 clear he hK hi F1
 have HB1:=lH (HB0.out.frm HG0.out (by omega) hFB)
 have FA1:=lH (FA0.out.tr HG0.out (by omega) (by omega))
 go_wp2_with (first|(refine stepLoad1 rfl _ _ rfl w.heap.size 3 rfl (HB1.out.to ii) _ rfl _ Tryz.underlying78 rfl ?_))
 refine(o_lmarkLimitS (HFF.out.o1.fr FA1.out (Rng.out (.inr (by omega)))) (by omega) (by omega) (by omega)).mono ?_
 intro e1 w2 hq1
 obtain⟨he,hi,F1⟩:=hq1
 obtain⟨K2,hK⟩:∃ K:Int,K=K1+(x.Limits.length:Int)*((3:Nat):Int):=⟨_,rfl⟩
 obtain rfl:e1=.returned (.int .i64 K2):=he.trans (by rw[hK]<;>rfl)
 have hK2:K1≤K2∧K2≤K1+5*totL x.Limits:=by omega
 have HK2:=lH hK;have HI1:=lH hi
 have HG1:=lH (show Fr B χ (Rng (o+1) (o+2)) _ w2 from F1.rng0)
 clear he hK hi F1
 have HB2:=lH (HB1.out.frm HG1.out (by omega) hFB)
 have FA2:=lH (FA1.out.tr HG1.out (by omega) (by omega))
 go_wp2_with (first|(refine stepLoad1 rfl _ _ rfl w.heap.size 4 rfl (HB2.out.to ii) _ rfl _ Tryz.underlying79 rfl ?_))
 refine(o_lmarkWaitingS (HFF.out.o2.fr FA2.out (Rng.out (.inr (by omega)))) (by omega) (by omega) (by omega)).mono ?_
 intro e2 w3 hq2
 obtain⟨he,hi,F1⟩:=hq2
 obtain⟨K3,hK⟩:∃ K:Int,K=K2+(x.Orders.length:Int)*((5:Nat):Int):=⟨_,rfl⟩
 obtain rfl:e2=.returned (.int .i64 K3):=he.trans (by rw[hK]<;>rfl)
 have hK3:K2≤K3∧K3≤K2+5*totL x.Orders:=by omega
 have HK3:=lH hK;have HI2:=lH hi
 have HG2:=lH (show Fr B χ (Rng (o+2) (o+3)) _ w3 from F1.rng0)
 clear he hK hi F1
 have HB3:=lH (HB2.out.frm HG2.out (by omega) hFB)
 have FA3:=lH (FA2.out.tr HG2.out (by omega) (by omega))
 go_wp2_with (first|(refine stepLoad1 rfl _ _ rfl w.heap.size 5 rfl (HB3.out.to ii) _ rfl _ Tryz.underlying80 rfl ?_))
 refine(o_lmarkDoneS (HFF.out.o3.fr FA3.out (Rng.out (.inr (by omega)))) (by omega) (by omega) (by omega)).mono ?_
 intro e3 w4 hq3
 obtain⟨he,hi,F1⟩:=hq3
 obtain⟨K4,hK⟩:∃ K:Int,K=K3+(x.Done.length:Int)*((3:Nat):Int):=⟨_,rfl⟩
 obtain rfl:e3=.returned (.int .i64 K4):=he.trans (by rw[hK]<;>rfl)
 have hK4:K3≤K4∧K4≤K3+5*totL x.Done:=by omega
 have HK4:=lH hK;have HI3:=lH hi
 have HG3:=lH (show Fr B χ (Rng (o+3) (o+4)) _ w4 from F1.rng0)
 clear he hK hi F1
 have HB4:=lH (HB3.out.frm HG3.out (by omega) hFB)
 have FA4:=lH (FA3.out.tr HG3.out (by omega) (by omega))
 go_wp2_with (first|(refine stepLoad rfl _ _ rfl (w.heap.size) 6 rfl (row:=[.int .i64 x.Recorder.Room,.slice A.a4 x.Recorder.Records.length A.c4,.slice A.a5 x.Recorder.Dropped.length A.c5]) (HB4.out.to ii) _ Tryz.underlying82 rfl kr kr ?_))
 refine(o_lmarkRecorder (x:=x.Recorder) ⟨(HFF.out.o4.fr FA4.out (Rng.out (.inr (by omega)))),(HFF.out.o5.fr FA4.out (Rng.out (.inr (by omega)))),HOK.out.2.1⟩ (HFR.out.mono FA4.out.size) (Nat.le_trans hB FA4.out.size) (by omega) (by omega) (by omega) (by omega)).mono ?_
 intro e4 w5 hq4
 obtain⟨he,hi,F1⟩:=hq4
 obtain⟨K5,hK⟩:∃ K:Int,K=mnMRecorder x.Recorder (K4):=⟨_,rfl⟩
 obtain rfl:e4=.returned (.int .i64 K5):=he.trans (by rw[hK]<;>rfl)
 have hb:=mnMRecorder_le x.Recorder K4
 have hK5:K4≤K5∧K5≤K4+5*Enc.tot x.Recorder:=by omega
 have HK5:=lH hK;have HI4:=lH hi
 have HG4:=lH (show Fr B χ (Rng (o+4) (o+6)) _ w5 from F1)
 clear he hK hi F1 hb
 have HB5:=lH (HB4.out.frm HG4.out (by omega) hFB)
 have FA5:=lH (FA4.out.tr HG4.out (by omega) (by omega))
 go_wp2_with (first|(refine stepLoad1 rfl _ _ rfl w.heap.size 11 rfl (HB5.out.to ii) _ rfl _ Tryz.underlying46 rfl ?_))
 refine(o_lmarkIntS (HFF.out.o6.fr FA5.out (Rng.out (.inr (by omega)))) (by omega) (by omega) (by omega)).mono ?_
 intro e5 w6 hq5
 obtain⟨he,hi,F1⟩:=hq5
 obtain⟨K6,hK⟩:∃ K:Int,K=K5+(x.Asked.length:Int)*((1:Nat):Int):=⟨_,rfl⟩
 obtain rfl:e5=.returned (.int .i64 K6):=he.trans (by rw[hK]<;>rfl)
 have hK6:K5≤K6∧K6≤K5+5*totL x.Asked:=by omega
 have HK6:=lH hK;have HI5:=lH hi
 have HG5:=lH (show Fr B χ (Rng (o+6) (o+7)) _ w6 from F1.rng0)
 clear he hK hi F1
 have HB6:=lH (HB5.out.frm HG5.out (by omega) hFB)
 have FA6:=lH (FA5.out.tr HG5.out (by omega) (by omega))
 go_wp2_with (fail)
 go_ret
 have FB6:=lH (show Fr B χ (Rng (o+7) (o+7)) w6 w6 from Fr.refl _ _ _ _)
 have FB5:=lH (HG5.out.tr FB6.out (by omega) (by omega))
 have FB4:=lH (HG4.out.tr FB5.out (by omega) (by omega))
 have FB3:=lH (HG3.out.tr FB4.out (by omega) (by omega))
 have FB2:=lH (HG2.out.tr FB3.out (by omega) (by omega))
 have FB1:=lH (HG1.out.tr FB2.out (by omega) (by omega))
 have E1:=HK1.out;clear HK1;subst E1
 have E2:=HK2.out;clear HK2;subst E2
 have E3:=HK3.out;clear HK3;subst E3
 have E4:=HK4.out;clear HK4;subst E4
 have E5:=HK5.out;clear HK5;subst E5
 have E6:=HK6.out;clear HK6;subst E6
 exact⟨rfl,⟨HI0.out.fr FB1.out (Rng.out (.inl (by omega))),HI1.out.fr FB2.out (Rng.out (.inl (by omega))),HI2.out.fr FB3.out (Rng.out (.inl (by omega))),HI3.out.fr FB4.out (Rng.out (.inl (by omega))),HI4.out.o0.fr FB5.out (Rng.out (.inl (by omega))),HI4.out.o1.fr FB5.out (Rng.out (.inl (by omega))),HI5.out.fr FB6.out (Rng.out (.inl (by omega))),HOK.out⟩,FA6.out⟩
theorem o_lmarkGround{B o:Nat}{χ:Nat→Col}{A:TGroundA}{x:TGround}{k:Int}{w:World}(F:TGroundO B χ o w A x)(hf:Fresh χ w)(hB:B≤w.heap.size)(ho:o+6≤1000)(ht:Enc.tot x≤100000000)(h1:0≤k)(h2:k≤200000000000) :
  Calls Tryz.prog 47 #[.agg (dGround x A).toArray,.int .i64 k] w (Mkd (mnMGround x k) (fun w2=>TGroundO B χ o w2 A (mkMGround x k)) (Fr B χ (Rng o (o+6)) w)):=by
 have htot:Enc.tot x=totL x.Offers+Enc.tot x.Sender+Enc.tot x.Unpacker+totL x.Pairs+totL x.Records+totL x.Files+totL x.Told:=rfl
 have t0:=totL_nonneg x.Offers;have l0:=totL_len x.Offers
 have t1:=Enc.tot_nonneg x.Sender
 have t3:=Enc.tot_nonneg x.Unpacker
 have t4:=totL_nonneg x.Pairs;have l4:=totL_len x.Pairs
 have t5:=totL_nonneg x.Records;have l5:=totL_len x.Records
 have t6:=totL_nonneg x.Files;have l6:=totL_len x.Files
 have t7:=totL_nonneg x.Told;have l7:=totL_len x.Told
 have HOK:=lH F.ok
 have HB0:=lH (Held.new w (dGround x A) 76 w.heap.size rfl)
 have hFB:1000≤(χ w.heap.size).1:=hf _ nl
 have FA0:=lH (show Fr B χ (Rng o (o+0)) w (w.alloc (.cells (dGround x A).toArray 76))from Fr.grows _ _ _ _ _)
 have HFF:=lH F;clear F
 have HFR:=lH hf;clear hf
 go_enter Tryz.func47,Tryz.ntmps47
 go_wp2_with (first|(refine stepLoad1 rfl _ _ rfl w.heap.size 0 rfl (HB0.out.to ii) _ rfl _ Tryz.underlying30 rfl ?_))
 refine(o_lmarkStringS (HFF.out.o0.fr FA0.out (Rng.out (.inr (by omega)))) (by omega) (by omega) (by omega)).mono ?_
 intro e0 w1 hq0
 obtain⟨he,hi,F1⟩:=hq0
 obtain⟨K1,hK⟩:∃ K:Int,K=k+(x.Offers.length:Int)*((1:Nat):Int):=⟨_,rfl⟩
 obtain rfl:e0=.returned (.int .i64 K1):=he.trans (by rw[hK]<;>rfl)
 have hK1:k≤K1∧K1≤k+5*totL x.Offers:=by omega
 have HK1:=lH hK;have HI0:=lH hi
 have HG0:=lH (show Fr B χ (Rng (o+0) (o+1)) _ w1 from F1.rng0)
 clear he hK hi F1
 have HB1:=lH (HB0.out.frm HG0.out (by omega) hFB)
 have FA1:=lH (FA0.out.tr HG0.out (by omega) (by omega))
 go_wp2_with (first|(refine stepLoad rfl _ _ rfl (w.heap.size) 1 rfl (row:=[.int .i64 x.Sender.Next,.int .i64 x.Sender.Window,.slice A.a1 x.Sender.Waiting.length A.c1,.int .i64 x.Sender.Done]) (HB1.out.to ii) _ Tryz.underlying69 rfl kr kr ?_))
 refine(o_lmarkSender (x:=x.Sender) ⟨(HFF.out.o1.fr FA1.out (Rng.out (.inr (by omega)))),HOK.out.1⟩ (HFR.out.mono FA1.out.size) (Nat.le_trans hB FA1.out.size) (by omega) (by omega) (by omega) (by omega)).mono ?_
 intro e1 w2 hq1
 obtain⟨he,hi,F1⟩:=hq1
 obtain⟨K2,hK⟩:∃ K:Int,K=mnMSender x.Sender (K1):=⟨_,rfl⟩
 obtain rfl:e1=.returned (.int .i64 K2):=he.trans (by rw[hK]<;>rfl)
 have hb:=mnMSender_le x.Sender K1
 have hK2:K1≤K2∧K2≤K1+5*Enc.tot x.Sender:=by omega
 have HK2:=lH hK;have HI1:=lH hi
 have HG1:=lH (show Fr B χ (Rng (o+1) (o+2)) _ w2 from F1)
 clear he hK hi F1 hb
 have HB2:=lH (HB1.out.frm HG1.out (by omega) hFB)
 have FA2:=lH (FA1.out.tr HG1.out (by omega) (by omega))
 go_wp2_with (first|(refine stepLoad1 rfl _ _ rfl w.heap.size 13 rfl (HB2.out.to ii) _ rfl _ Tryz.underlying72 rfl ?_))
 refine(o_lmarkPairS (HFF.out.o2.fr FA2.out (Rng.out (.inr (by omega)))) (by omega) (by omega) (by omega)).mono ?_
 intro e2 w3 hq2
 obtain⟨he,hi,F1⟩:=hq2
 obtain⟨K3,hK⟩:∃ K:Int,K=K2+(x.Pairs.length:Int)*((2:Nat):Int):=⟨_,rfl⟩
 obtain rfl:e2=.returned (.int .i64 K3):=he.trans (by rw[hK]<;>rfl)
 have hK3:K2≤K3∧K3≤K2+5*totL x.Pairs:=by omega
 have HK3:=lH hK;have HI2:=lH hi
 have HG2:=lH (show Fr B χ (Rng (o+2) (o+3)) _ w3 from F1.rng0)
 clear he hK hi F1
 have HB3:=lH (HB2.out.frm HG2.out (by omega) hFB)
 have FA3:=lH (FA2.out.tr HG2.out (by omega) (by omega))
 go_wp2_with (first|(refine stepLoad1 rfl _ _ rfl w.heap.size 14 rfl (HB3.out.to ii) _ rfl _ Tryz.underlying73 rfl ?_))
 refine(o_lmarkRecordS (HFF.out.o3.fr FA3.out (Rng.out (.inr (by omega)))) (by omega) (by omega) (by omega)).mono ?_
 intro e3 w4 hq3
 obtain⟨he,hi,F1⟩:=hq3
 obtain⟨K4,hK⟩:∃ K:Int,K=K3+(x.Records.length:Int)*((4:Nat):Int):=⟨_,rfl⟩
 obtain rfl:e3=.returned (.int .i64 K4):=he.trans (by rw[hK]<;>rfl)
 have hK4:K3≤K4∧K4≤K3+5*totL x.Records:=by omega
 have HK4:=lH hK;have HI3:=lH hi
 have HG3:=lH (show Fr B χ (Rng (o+3) (o+4)) _ w4 from F1.rng0)
 clear he hK hi F1
 have HB4:=lH (HB3.out.frm HG3.out (by omega) hFB)
 have FA4:=lH (FA3.out.tr HG3.out (by omega) (by omega))
 go_wp2_with (first|(refine stepLoad1 rfl _ _ rfl w.heap.size 15 rfl (HB4.out.to ii) _ rfl _ Tryz.underlying74 rfl ?_))
 refine(o_lmarkFileInX (HFF.out.o4.elim fun r hr=>⟨r,hr.1,hr.2.fr FA4.out (fun _=>Rng.out (.inr (by omega)))⟩) (by omega) (by omega) (by omega)).mono ?_
 intro e4 w5 hq4
 obtain⟨he,hi,F1⟩:=hq4
 obtain⟨K5,hK⟩:∃ K:Int,K=mnN mn1FileIn x.Files (K4):=⟨_,rfl⟩
 obtain rfl:e4=.returned (.int .i64 K5):=he.trans (by rw[hK]<;>rfl)
 have hb:=mnN_le mn1FileIn mn1FileIn_le x.Files K4
 have hK5:K4≤K5∧K5≤K4+5*totL x.Files:=by omega
 have HK5:=lH hK;have HI4:=lH hi
 have HG4:=lH (show Fr B χ (Rng (o+4) (o+5)) _ w5 from F1)
 clear he hK hi F1 hb
 have HB5:=lH (HB4.out.frm HG4.out (by omega) hFB)
 have FA5:=lH (FA4.out.tr HG4.out (by omega) (by omega))
 go_wp2_with (first|(refine stepLoad1 rfl _ _ rfl w.heap.size 16 rfl (HB5.out.to ii) _ rfl _ Tryz.underlying41 rfl ?_))
 refine(o_lmarkBoolS (HFF.out.o5.fr FA5.out (Rng.out (.inr (by omega)))) (by omega) (by omega) (by omega)).mono ?_
 intro e5 w6 hq5
 obtain⟨he,hi,F1⟩:=hq5
 obtain⟨K6,hK⟩:∃ K:Int,K=K5+(x.Told.length:Int)*((1:Nat):Int):=⟨_,rfl⟩
 obtain rfl:e5=.returned (.int .i64 K6):=he.trans (by rw[hK]<;>rfl)
 have hK6:K5≤K6∧K6≤K5+5*totL x.Told:=by omega
 have HK6:=lH hK;have HI5:=lH hi
 have HG5:=lH (show Fr B χ (Rng (o+5) (o+6)) _ w6 from F1.rng0)
 clear he hK hi F1
 have HB6:=lH (HB5.out.frm HG5.out (by omega) hFB)
 have FA6:=lH (FA5.out.tr HG5.out (by omega) (by omega))
 go_wp2_with (fail)
 go_ret
 have FB6:=lH (show Fr B χ (Rng (o+6) (o+6)) w6 w6 from Fr.refl _ _ _ _)
 have FB5:=lH (HG5.out.tr FB6.out (by omega) (by omega))
 have FB4:=lH (HG4.out.tr FB5.out (by omega) (by omega))
 have FB3:=lH (HG3.out.tr FB4.out (by omega) (by omega))
 have FB2:=lH (HG2.out.tr FB3.out (by omega) (by omega))
 have FB1:=lH (HG1.out.tr FB2.out (by omega) (by omega))
 have E1:=HK1.out;clear HK1;subst E1
 have E2:=HK2.out;clear HK2;subst E2
 have E3:=HK3.out;clear HK3;subst E3
 have E4:=HK4.out;clear HK4;subst E4
 have E5:=HK5.out;clear HK5;subst E5
 have E6:=HK6.out;clear HK6;subst E6
 exact⟨rfl,⟨HI0.out.fr FB1.out (Rng.out (.inl (by omega))),HI1.out.o0.fr FB2.out (Rng.out (.inl (by omega))),HI2.out.fr FB3.out (Rng.out (.inl (by omega))),HI3.out.fr FB4.out (Rng.out (.inl (by omega))),HI4.out.elim fun r hr=>⟨r,hr.1,hr.2.fr FB5.out (fun _=>Rng.out (.inl (by omega)))⟩,HI5.out.fr FB6.out (Rng.out (.inl (by omega))),HOK.out⟩,FA6.out⟩
theorem o_lmarkSpace{B o:Nat}{χ:Nat→Col}{A:TSpaceA}{x:TSpace}{k:Int}{w:World}(F:TSpaceO B χ o w A x)(hf:Fresh χ w)(hB:B≤w.heap.size)(ho:o+11≤1000)(ht:Enc.tot x≤100000000)(h1:0≤k)(h2:k≤200000000000) :
  Calls Tryz.prog 48 #[.agg (dSpace x A).toArray,.int .i64 k] w (Mkd (mnMSpace x k) (fun w2=>TSpaceO B χ o w2 A (mkMSpace x k)) (Fr B χ (Rng o (o+11)) w)):=by
 have htot:Enc.tot x=Enc.tot x.Board+Enc.tot x.Packer+totL x.Files+totL x.Outs+totL x.Sent:=rfl
 have t1:=Enc.tot_nonneg x.Board
 have t2:=Enc.tot_nonneg x.Packer
 have t4:=totL_nonneg x.Files;have l4:=totL_len x.Files
 have t5:=totL_nonneg x.Outs;have l5:=totL_len x.Outs
 have t7:=totL_nonneg x.Sent;have l7:=totL_len x.Sent
 have HOK:=lH F.ok
 have HB0:=lH (Held.new w (dSpace x A) 88 w.heap.size rfl)
 have hFB:1000≤(χ w.heap.size).1:=hf _ nl
 have FA0:=lH (show Fr B χ (Rng o (o+0)) w (w.alloc (.cells (dSpace x A).toArray 88))from Fr.grows _ _ _ _ _)
 have HFF:=lH F;clear F
 have HFR:=lH hf;clear hf
 go_enter Tryz.func48,Tryz.ntmps48
 go_wp2_with (first|(refine stepLoad rfl _ _ rfl (w.heap.size) 4 rfl (row:=(dBoard x.Board A)) (HB0.out.to ii) _ Tryz.underlying84 rfl kr kr ?_))
 refine(o_lmarkBoard (A:=⟨A.a0,A.c0,A.a1,A.c1,A.a2,A.c2,A.a3,A.c3,A.a4,A.c4,A.a5,A.c5,A.a6,A.c6⟩) (x:=x.Board) ⟨(HFF.out.o0.fr FA0.out (Rng.out (.inr (by omega)))),(HFF.out.o1.fr FA0.out (Rng.out (.inr (by omega)))),(HFF.out.o2.fr FA0.out (Rng.out (.inr (by omega)))),(HFF.out.o3.fr FA0.out (Rng.out (.inr (by omega)))),(HFF.out.o4.fr FA0.out (Rng.out (.inr (by omega)))),(HFF.out.o5.fr FA0.out (Rng.out (.inr (by omega)))),(HFF.out.o6.fr FA0.out (Rng.out (.inr (by omega)))),HOK.out.2.1⟩ (HFR.out.mono FA0.out.size) (Nat.le_trans hB FA0.out.size) (by omega) (by omega) (by omega) (by omega)).mono ?_
 intro e0 w1 hq0
 obtain⟨he,hi,F1⟩:=hq0
 obtain⟨K1,hK⟩:∃ K:Int,K=mnMBoard x.Board (k):=⟨_,rfl⟩
 obtain rfl:e0=.returned (.int .i64 K1):=he.trans (by rw[hK]<;>rfl)
 have hb:=mnMBoard_le x.Board k
 have hK1:k≤K1∧K1≤k+5*Enc.tot x.Board:=by omega
 have HK1:=lH hK;have HI0:=lH hi
 have HG0:=lH (show Fr B χ (Rng (o+0) (o+7)) _ w1 from F1)
 clear he hK hi F1 hb
 have HB1:=lH (HB0.out.frm HG0.out (by omega) hFB)
 have FA1:=lH (FA0.out.tr HG0.out (by omega) (by omega))
 go_wp2_with (first|(refine stepLoad rfl _ _ rfl (w.heap.size) 16 rfl (row:=[.int .i64 x.Packer.Channel,.int .i64 x.Packer.Count,.string x.Packer.Rest,.slice A.a7 x.Packer.Starts.length A.c7]) (HB1.out.to ii) _ Tryz.underlying85 rfl kr kr ?_))
 refine(o_lmarkPacker (x:=x.Packer) ⟨(HFF.out.o7.fr FA1.out (Rng.out (.inr (by omega)))),HOK.out.2.2.1⟩ (HFR.out.mono FA1.out.size) (Nat.le_trans hB FA1.out.size) (by omega) (by omega) (by omega) (by omega)).mono ?_
 intro e1 w2 hq1
 obtain⟨he,hi,F1⟩:=hq1
 obtain⟨K2,hK⟩:∃ K:Int,K=mnMPacker x.Packer (K1):=⟨_,rfl⟩
 obtain rfl:e1=.returned (.int .i64 K2):=he.trans (by rw[hK]<;>rfl)
 have hb:=mnMPacker_le x.Packer K1
 have hK2:K1≤K2∧K2≤K1+5*Enc.tot x.Packer:=by omega
 have HK2:=lH hK;have HI1:=lH hi
 have HG1:=lH (show Fr B χ (Rng (o+7) (o+8)) _ w2 from F1)
 clear he hK hi F1 hb
 have HB2:=lH (HB1.out.frm HG1.out (by omega) hFB)
 have FA2:=lH (FA1.out.tr HG1.out (by omega) (by omega))
 go_wp2_with (first|(refine stepLoad1 rfl _ _ rfl w.heap.size 21 rfl (HB2.out.to ii) _ rfl _ Tryz.underlying30 rfl ?_))
 refine(o_lmarkStringS (HFF.out.o8.fr FA2.out (Rng.out (.inr (by omega)))) (by omega) (by omega) (by omega)).mono ?_
 intro e2 w3 hq2
 obtain⟨he,hi,F1⟩:=hq2
 obtain⟨K3,hK⟩:∃ K:Int,K=K2+(x.Files.length:Int)*((1:Nat):Int):=⟨_,rfl⟩
 obtain rfl:e2=.returned (.int .i64 K3):=he.trans (by rw[hK]<;>rfl)
 have hK3:K2≤K3∧K3≤K2+5*totL x.Files:=by omega
 have HK3:=lH hK;have HI2:=lH hi
 have HG2:=lH (show Fr B χ (Rng (o+8) (o+9)) _ w3 from F1.rng0)
 clear he hK hi F1
 have HB3:=lH (HB2.out.frm HG2.out (by omega) hFB)
 have FA3:=lH (FA2.out.tr HG2.out (by omega) (by omega))
 go_wp2_with (first|(refine stepLoad1 rfl _ _ rfl w.heap.size 22 rfl (HB3.out.to ii) _ rfl _ Tryz.underlying86 rfl ?_))
 refine(o_lmarkFileOutX (HFF.out.o9.elim fun r hr=>⟨r,hr.1,hr.2.fr FA3.out (fun _=>Rng.out (.inr (by omega)))⟩) (by omega) (by omega) (by omega)).mono ?_
 intro e3 w4 hq3
 obtain⟨he,hi,F1⟩:=hq3
 obtain⟨K4,hK⟩:∃ K:Int,K=mnN mn1FileOut x.Outs (K3):=⟨_,rfl⟩
 obtain rfl:e3=.returned (.int .i64 K4):=he.trans (by rw[hK]<;>rfl)
 have hb:=mnN_le mn1FileOut mn1FileOut_le x.Outs K3
 have hK4:K3≤K4∧K4≤K3+5*totL x.Outs:=by omega
 have HK4:=lH hK;have HI3:=lH hi
 have HG3:=lH (show Fr B χ (Rng (o+9) (o+10)) _ w4 from F1)
 clear he hK hi F1 hb
 have HB4:=lH (HB3.out.frm HG3.out (by omega) hFB)
 have FA4:=lH (FA3.out.tr HG3.out (by omega) (by omega))
 go_wp2_with (first|(refine stepLoad1 rfl _ _ rfl w.heap.size 24 rfl (HB4.out.to ii) _ rfl _ Tryz.underlying73 rfl ?_))
 refine(o_lmarkRecordS (HFF.out.o10.fr FA4.out (Rng.out (.inr (by omega)))) (by omega) (by omega) (by omega)).mono ?_
 intro e4 w5 hq4
 obtain⟨he,hi,F1⟩:=hq4
 obtain⟨K5,hK⟩:∃ K:Int,K=K4+(x.Sent.length:Int)*((4:Nat):Int):=⟨_,rfl⟩
 obtain rfl:e4=.returned (.int .i64 K5):=he.trans (by rw[hK]<;>rfl)
 have hK5:K4≤K5∧K5≤K4+5*totL x.Sent:=by omega
 have HK5:=lH hK;have HI4:=lH hi
 have HG4:=lH (show Fr B χ (Rng (o+10) (o+11)) _ w5 from F1.rng0)
 clear he hK hi F1
 have HB5:=lH (HB4.out.frm HG4.out (by omega) hFB)
 have FA5:=lH (FA4.out.tr HG4.out (by omega) (by omega))
 go_wp2_with (fail)
 go_ret
 have FB5:=lH (show Fr B χ (Rng (o+11) (o+11)) w5 w5 from Fr.refl _ _ _ _)
 have FB4:=lH (HG4.out.tr FB5.out (by omega) (by omega))
 have FB3:=lH (HG3.out.tr FB4.out (by omega) (by omega))
 have FB2:=lH (HG2.out.tr FB3.out (by omega) (by omega))
 have FB1:=lH (HG1.out.tr FB2.out (by omega) (by omega))
 have E1:=HK1.out;clear HK1;subst E1
 have E2:=HK2.out;clear HK2;subst E2
 have E3:=HK3.out;clear HK3;subst E3
 have E4:=HK4.out;clear HK4;subst E4
 have E5:=HK5.out;clear HK5;subst E5
 exact⟨rfl,⟨HI0.out.o0.fr FB1.out (Rng.out (.inl (by omega))),HI0.out.o1.fr FB1.out (Rng.out (.inl (by omega))),HI0.out.o2.fr FB1.out (Rng.out (.inl (by omega))),HI0.out.o3.fr FB1.out (Rng.out (.inl (by omega))),HI0.out.o4.fr FB1.out (Rng.out (.inl (by omega))),HI0.out.o5.fr FB1.out (Rng.out (.inl (by omega))),HI0.out.o6.fr FB1.out (Rng.out (.inl (by omega))),HI1.out.o0.fr FB2.out (Rng.out (.inl (by omega))),HI2.out.fr FB3.out (Rng.out (.inl (by omega))),HI3.out.elim fun r hr=>⟨r,hr.1,hr.2.fr FB4.out (fun _=>Rng.out (.inl (by omega)))⟩,HI4.out.fr FB5.out (Rng.out (.inl (by omega))),HOK.out⟩,FA5.out⟩
theorem o_lmarkMission{B o:Nat}{χ:Nat→Col}{A:TMissionA}{x:TMission}{k:Int}{w:World}(F:TMissionO B χ o w A x)(hf:Fresh χ w)(hB:B≤w.heap.size)(ho:o+22≤1000)(ht:Enc.tot x≤100000000)(h1:0≤k)(h2:k≤100000000000) :
  Calls Tryz.prog 10 #[.agg (dMission x A).toArray,.int .i64 k] w (Mkd (mnMMission x k) (fun w2=>TMissionO B χ o w2 A (mkMMission x k)) (Fr B χ (Rng o (o+22)) w)):=by
 have htot:Enc.tot x=totL x.Plan+totL x.Ups+totL x.Downs+Enc.tot x.Ground+Enc.tot x.Space+totL x.Offered+totL x.Took:=rfl
 have t4:=totL_nonneg x.Plan;have l4:=totL_len x.Plan
 have t7:=totL_nonneg x.Ups;have l7:=totL_len x.Ups
 have t8:=totL_nonneg x.Downs;have l8:=totL_len x.Downs
 have t9:=Enc.tot_nonneg x.Ground
 have t10:=Enc.tot_nonneg x.Space
 have t11:=totL_nonneg x.Offered;have l11:=totL_len x.Offered
 have t12:=totL_nonneg x.Took;have l12:=totL_len x.Took
 have HOK:=lH F.ok
 have HB0:=lH (Held.new w (dMission x A) 90 w.heap.size rfl)
 have hFB:1000≤(χ w.heap.size).1:=hf _ nl
 have FA0:=lH (show Fr B χ (Rng o (o+0)) w (w.alloc (.cells (dMission x A).toArray 90))from Fr.grows _ _ _ _ _)
 have HFF:=lH F;clear F
 have HFR:=lH hf;clear hf
 go_enter Tryz.func10,Tryz.ntmps10
 go_wp2_with (first|(refine stepLoad1 rfl _ _ rfl w.heap.size 7 rfl (HB0.out.to ii) _ rfl _ Tryz.underlying64 rfl ?_))
 refine(o_lmarkSlotS (HFF.out.o0.fr FA0.out (Rng.out (.inr (by omega)))) (by omega) (by omega) (by omega)).mono ?_
 intro e0 w1 hq0
 obtain⟨he,hi,F1⟩:=hq0
 obtain⟨K1,hK⟩:∃ K:Int,K=k+(x.Plan.length:Int)*((2:Nat):Int):=⟨_,rfl⟩
 obtain rfl:e0=.returned (.int .i64 K1):=he.trans (by rw[hK]<;>rfl)
 have hK1:k≤K1∧K1≤k+5*totL x.Plan:=by omega
 have HK1:=lH hK;have HI0:=lH hi
 have HG0:=lH (show Fr B χ (Rng (o+0) (o+1)) _ w1 from F1.rng0)
 clear he hK hi F1
 have HB1:=lH (HB0.out.frm HG0.out (by omega) hFB)
 have FA1:=lH (FA0.out.tr HG0.out (by omega) (by omega))
 go_wp2_with (first|(refine stepLoad1 rfl _ _ rfl w.heap.size 14 rfl (HB1.out.to ii) _ rfl _ Tryz.underlying66 rfl ?_))
 refine(o_lmarkFlightS (HFF.out.o1.fr FA1.out (Rng.out (.inr (by omega)))) (by omega) (by omega) (by omega)).mono ?_
 intro e1 w2 hq1
 obtain⟨he,hi,F1⟩:=hq1
 obtain⟨K2,hK⟩:∃ K:Int,K=K1+(x.Ups.length:Int)*((2:Nat):Int):=⟨_,rfl⟩
 obtain rfl:e1=.returned (.int .i64 K2):=he.trans (by rw[hK]<;>rfl)
 have hK2:K1≤K2∧K2≤K1+5*totL x.Ups:=by omega
 have HK2:=lH hK;have HI1:=lH hi
 have HG1:=lH (show Fr B χ (Rng (o+1) (o+2)) _ w2 from F1.rng0)
 clear he hK hi F1
 have HB2:=lH (HB1.out.frm HG1.out (by omega) hFB)
 have FA2:=lH (FA1.out.tr HG1.out (by omega) (by omega))
 go_wp2_with (first|(refine stepLoad1 rfl _ _ rfl w.heap.size 15 rfl (HB2.out.to ii) _ rfl _ Tryz.underlying66 rfl ?_))
 refine(o_lmarkFlightS (HFF.out.o2.fr FA2.out (Rng.out (.inr (by omega)))) (by omega) (by omega) (by omega)).mono ?_
 intro e2 w3 hq2
 obtain⟨he,hi,F1⟩:=hq2
 obtain⟨K3,hK⟩:∃ K:Int,K=K2+(x.Downs.length:Int)*((2:Nat):Int):=⟨_,rfl⟩
 obtain rfl:e2=.returned (.int .i64 K3):=he.trans (by rw[hK]<;>rfl)
 have hK3:K2≤K3∧K3≤K2+5*totL x.Downs:=by omega
 have HK3:=lH hK;have HI2:=lH hi
 have HG2:=lH (show Fr B χ (Rng (o+2) (o+3)) _ w3 from F1.rng0)
 clear he hK hi F1
 have HB3:=lH (HB2.out.frm HG2.out (by omega) hFB)
 have FA3:=lH (FA2.out.tr HG2.out (by omega) (by omega))
 go_wp2_with (first|(refine stepLoad rfl _ _ rfl (w.heap.size) 16 rfl (row:=(cGround x.Ground A.a3 A.c3 A.a4 A.c4 A.a5 A.c5 A.a6 A.c6 A.a7 A.c7 A.a8 A.c8)) (HB3.out.to ii) _ Tryz.underlying76 rfl kr kr ?_))
 refine(o_lmarkGround (A:=⟨A.a3,A.c3,A.a4,A.c4,A.a5,A.c5,A.a6,A.c6,A.a7,A.c7,A.a8,A.c8⟩) (x:=x.Ground) ⟨(HFF.out.o3.fr FA3.out (Rng.out (.inr (by omega)))),(HFF.out.o4.fr FA3.out (Rng.out (.inr (by omega)))),(HFF.out.o5.fr FA3.out (Rng.out (.inr (by omega)))),(HFF.out.o6.fr FA3.out (Rng.out (.inr (by omega)))),(HFF.out.o7.elim fun r hr=>⟨r,hr.1,hr.2.fr FA3.out (fun _=>Rng.out (.inr (by omega)))⟩),(HFF.out.o8.fr FA3.out (Rng.out (.inr (by omega)))),HOK.out.2.2.2.2.2.2.1⟩ (HFR.out.mono FA3.out.size) (Nat.le_trans hB FA3.out.size) (by omega) (by omega) (by omega) (by omega)).mono ?_
 intro e3 w4 hq3
 obtain⟨he,hi,F1⟩:=hq3
 obtain⟨K4,hK⟩:∃ K:Int,K=mnMGround x.Ground (K3):=⟨_,rfl⟩
 obtain rfl:e3=.returned (.int .i64 K4):=he.trans (by rw[hK]<;>rfl)
 have hb:=mnMGround_le x.Ground K3
 have hK4:K3≤K4∧K4≤K3+5*Enc.tot x.Ground:=by omega
 have HK4:=lH hK;have HI3:=lH hi
 have HG3:=lH (show Fr B χ (Rng (o+3) (o+9)) _ w4 from F1)
 clear he hK hi F1 hb
 have HB4:=lH (HB3.out.frm HG3.out (by omega) hFB)
 have FA4:=lH (FA3.out.tr HG3.out (by omega) (by omega))
 go_wp2_with (first|(refine stepLoad rfl _ _ rfl (w.heap.size) 33 rfl (row:=(cSpace x.Space A.a9 A.c9 A.a10 A.c10 A.a11 A.c11 A.a12 A.c12 A.a13 A.c13 A.a14 A.c14 A.a15 A.c15 A.a16 A.c16 A.a17 A.c17 A.a18 A.c18 A.a19 A.c19)) (HB4.out.to ii) _ Tryz.underlying88 rfl kr kr ?_))
 refine(o_lmarkSpace (A:=⟨A.a9,A.c9,A.a10,A.c10,A.a11,A.c11,A.a12,A.c12,A.a13,A.c13,A.a14,A.c14,A.a15,A.c15,A.a16,A.c16,A.a17,A.c17,A.a18,A.c18,A.a19,A.c19⟩) (x:=x.Space) ⟨(HFF.out.o9.fr FA4.out (Rng.out (.inr (by omega)))),(HFF.out.o10.fr FA4.out (Rng.out (.inr (by omega)))),(HFF.out.o11.fr FA4.out (Rng.out (.inr (by omega)))),(HFF.out.o12.fr FA4.out (Rng.out (.inr (by omega)))),(HFF.out.o13.fr FA4.out (Rng.out (.inr (by omega)))),(HFF.out.o14.fr FA4.out (Rng.out (.inr (by omega)))),(HFF.out.o15.fr FA4.out (Rng.out (.inr (by omega)))),(HFF.out.o16.fr FA4.out (Rng.out (.inr (by omega)))),(HFF.out.o17.fr FA4.out (Rng.out (.inr (by omega)))),(HFF.out.o18.elim fun r hr=>⟨r,hr.1,hr.2.fr FA4.out (fun _=>Rng.out (.inr (by omega)))⟩),(HFF.out.o19.fr FA4.out (Rng.out (.inr (by omega)))),HOK.out.2.2.2.2.2.2.2.1⟩ (HFR.out.mono FA4.out.size) (Nat.le_trans hB FA4.out.size) (by omega) (by omega) (by omega) (by omega)).mono ?_
 intro e4 w5 hq4
 obtain⟨he,hi,F1⟩:=hq4
 obtain⟨K5,hK⟩:∃ K:Int,K=mnMSpace x.Space (K4):=⟨_,rfl⟩
 obtain rfl:e4=.returned (.int .i64 K5):=he.trans (by rw[hK]<;>rfl)
 have hb:=mnMSpace_le x.Space K4
 have hK5:K4≤K5∧K5≤K4+5*Enc.tot x.Space:=by omega
 have HK5:=lH hK;have HI4:=lH hi
 have HG4:=lH (show Fr B χ (Rng (o+9) (o+20)) _ w5 from F1)
 clear he hK hi F1 hb
 have HB5:=lH (HB4.out.frm HG4.out (by omega) hFB)
 have FA5:=lH (FA4.out.tr HG4.out (by omega) (by omega))
 go_wp2_with (first|(refine stepLoad1 rfl _ _ rfl w.heap.size 58 rfl (HB5.out.to ii) _ rfl _ Tryz.underlying30 rfl ?_))
 refine(o_lmarkStringS (HFF.out.o20.fr FA5.out (Rng.out (.inr (by omega)))) (by omega) (by omega) (by omega)).mono ?_
 intro e5 w6 hq5
 obtain⟨he,hi,F1⟩:=hq5
 obtain⟨K6,hK⟩:∃ K:Int,K=K5+(x.Offered.length:Int)*((1:Nat):Int):=⟨_,rfl⟩
 obtain rfl:e5=.returned (.int .i64 K6):=he.trans (by rw[hK]<;>rfl)
 have hK6:K5≤K6∧K6≤K5+5*totL x.Offered:=by omega
 have HK6:=lH hK;have HI5:=lH hi
 have HG5:=lH (show Fr B χ (Rng (o+20) (o+21)) _ w6 from F1.rng0)
 clear he hK hi F1
 have HB6:=lH (HB5.out.frm HG5.out (by omega) hFB)
 have FA6:=lH (FA5.out.tr HG5.out (by omega) (by omega))
 go_wp2_with (first|(refine stepLoad1 rfl _ _ rfl w.heap.size 59 rfl (HB6.out.to ii) _ rfl _ Tryz.underlying30 rfl ?_))
 refine(o_lmarkStringS (HFF.out.o21.fr FA6.out (Rng.out (.inr (by omega)))) (by omega) (by omega) (by omega)).mono ?_
 intro e6 w7 hq6
 obtain⟨he,hi,F1⟩:=hq6
 obtain⟨K7,hK⟩:∃ K:Int,K=K6+(x.Took.length:Int)*((1:Nat):Int):=⟨_,rfl⟩
 obtain rfl:e6=.returned (.int .i64 K7):=he.trans (by rw[hK]<;>rfl)
 have hK7:K6≤K7∧K7≤K6+5*totL x.Took:=by omega
 have HK7:=lH hK;have HI6:=lH hi
 have HG6:=lH (show Fr B χ (Rng (o+21) (o+22)) _ w7 from F1.rng0)
 clear he hK hi F1
 have HB7:=lH (HB6.out.frm HG6.out (by omega) hFB)
 have FA7:=lH (FA6.out.tr HG6.out (by omega) (by omega))
 go_wp2_with (fail)
 go_ret
 have FB7:=lH (show Fr B χ (Rng (o+22) (o+22)) w7 w7 from Fr.refl _ _ _ _)
 have FB6:=lH (HG6.out.tr FB7.out (by omega) (by omega))
 have FB5:=lH (HG5.out.tr FB6.out (by omega) (by omega))
 have FB4:=lH (HG4.out.tr FB5.out (by omega) (by omega))
 have FB3:=lH (HG3.out.tr FB4.out (by omega) (by omega))
 have FB2:=lH (HG2.out.tr FB3.out (by omega) (by omega))
 have FB1:=lH (HG1.out.tr FB2.out (by omega) (by omega))
 have E1:=HK1.out;clear HK1;subst E1
 have E2:=HK2.out;clear HK2;subst E2
 have E3:=HK3.out;clear HK3;subst E3
 have E4:=HK4.out;clear HK4;subst E4
 have E5:=HK5.out;clear HK5;subst E5
 have E6:=HK6.out;clear HK6;subst E6
 have E7:=HK7.out;clear HK7;subst E7
 exact⟨rfl,⟨HI0.out.fr FB1.out (Rng.out (.inl (by omega))),HI1.out.fr FB2.out (Rng.out (.inl (by omega))),HI2.out.fr FB3.out (Rng.out (.inl (by omega))),HI3.out.o0.fr FB4.out (Rng.out (.inl (by omega))),HI3.out.o1.fr FB4.out (Rng.out (.inl (by omega))),HI3.out.o2.fr FB4.out (Rng.out (.inl (by omega))),HI3.out.o3.fr FB4.out (Rng.out (.inl (by omega))),HI3.out.o4.elim fun r hr=>⟨r,hr.1,hr.2.fr FB4.out (fun _=>Rng.out (.inl (by omega)))⟩,HI3.out.o5.fr FB4.out (Rng.out (.inl (by omega))),HI4.out.o0.fr FB5.out (Rng.out (.inl (by omega))),HI4.out.o1.fr FB5.out (Rng.out (.inl (by omega))),HI4.out.o2.fr FB5.out (Rng.out (.inl (by omega))),HI4.out.o3.fr FB5.out (Rng.out (.inl (by omega))),HI4.out.o4.fr FB5.out (Rng.out (.inl (by omega))),HI4.out.o5.fr FB5.out (Rng.out (.inl (by omega))),HI4.out.o6.fr FB5.out (Rng.out (.inl (by omega))),HI4.out.o7.fr FB5.out (Rng.out (.inl (by omega))),HI4.out.o8.fr FB5.out (Rng.out (.inl (by omega))),HI4.out.o9.elim fun r hr=>⟨r,hr.1,hr.2.fr FB5.out (fun _=>Rng.out (.inl (by omega)))⟩,HI4.out.o10.fr FB5.out (Rng.out (.inl (by omega))),HI5.out.fr FB6.out (Rng.out (.inl (by omega))),HI6.out.fr FB7.out (Rng.out (.inl (by omega))),HOK.out⟩,FA7.out⟩
