/- Marks in structs with slices. No condition but on sizes. -/
import Derived.Test.YtdoilejecjaldaaGreatHM41
import Derived.Test.YtdoilejecjaldaaGreatHM31
namespace Go.Proofs.YtdoilejecjaldaaGreat
set_option maxRecDepth 100000
set_option maxHeartbeats 2000000
set_option linter.unusedVariables false
open Go.ChangeShapes Go.WideShapes Go.ChangeAt Go.RowKit
theorem bi3{B o:Nat}{χ:Nat→Col}{a0:Option Addr}{c0:Nat}{x:R5}{k:Int}{w:World}(F:aa7 B χ o w a0 c0 x)(hf:ap5 χ w)(hB:B≤w.heap.size)(ho:o+1≤1000)(ht:Enc.tot x≤100000000)(h1:0≤k)(h2:k≤400000000000) :
  Calls Tryz.prog 149 #[.agg #[.int .i64 x.Channel,.int .i64 x.Count,.string x.Rest,.slice a0 x.Starts.length c0],.int .i64 k] w (Mkd (aa3 x k) (fun w2=>aa7 B χ o w2 a0 c0 (aE8 x k)) (Fr B χ (Rng o (o+1)) w)):=by
 have htot:Enc.tot x=(x.Rest.size:Int)+d7 x.Starts:=rfl
 have t3:=b7 x.Starts;have l3:=d9 x.Starts
 have HOK:=lH F.ok
 have HB0:=lH (i9.new w [.int .i64 x.Channel,.int .i64 x.Count,.string x.Rest,.slice a0 x.Starts.length c0] 85 w.heap.size rfl)
 have hFB:1000≤(χ w.heap.size).1:=hf _ nl
 have FA0:=lH (show Fr B χ (Rng o (o+0)) w (w.alloc (.cells #[.int .i64 x.Channel,.int .i64 x.Count,.string x.Rest,.slice a0 x.Starts.length c0] 85))from Fr.grows _ _ _ _ _)
 have HFF:=lH F;clear F
 have HFR:=lH hf;clear hf
 go_enter Tryz.func149,Tryz.ntmps149
 go_wp2_with (first|(refine f8 rfl _ _ rfl w.heap.size 3 rfl (HB0.out.to ii) _ rfl _ Tryz.underlying46 rfl ?_))
 refine(aq3 (HFF.out.o0.fr FA0.out (Rng.out (.inr (by omega)))) (by omega) (by omega) (by omega)).mono ?_
 intro e0 w1 hq0
 obtain⟨he,hi,F1⟩:=hq0
 obtain⟨K1,hK⟩:∃ K:Int,K=k+(x.Starts.length:Int)*((1:Nat):Int):=⟨_,rfl⟩
 obtain rfl:e0=.returned (.int .i64 K1):=he.trans (by rw[hK]<;>rfl)
 have hK1:k≤K1∧K1≤k+5*d7 x.Starts:=by omega
 have HK1:=lH hK;have HI0:=lH hi
 have HG0:=lH (show Fr B χ (Rng (o+0) (o+1)) _ w1 from F1.rng0)
 clear he hK hi F1
 have HB1:=lH (HB0.out.frm HG0.out (by omega) hFB)
 have FA1:=lH (FA0.out.tr HG0.out (by omega) (by omega))
 go_wp2_with (fail)
 go_ret
 have FB1:=lH (show Fr B χ (Rng (o+1) (o+1)) w1 w1 from Fr.refl _ _ _ _)
 have E1:=HK1.out;clear HK1;subst E1
 exact⟨rfl,⟨HI0.out.fr FB1.out (Rng.out (.inl (by omega))),HOK.out⟩,FA1.out⟩
theorem bi4{B o:Nat}{χ:Nat→Col}{a0:Option Addr}{c0:Nat}{x:R6}{k:Int}{w:World}(F:aa8 B χ o w a0 c0 x)(hf:ap5 χ w)(hB:B≤w.heap.size)(ho:o+1≤1000)(ht:Enc.tot x≤100000000)(h1:0≤k)(h2:k≤400000000000) :
  Calls Tryz.prog 143 #[.agg #[.int .i64 x.Next,.int .i64 x.Window,.slice a0 x.Waiting.length c0,.int .i64 x.Done],.int .i64 k] w (Mkd (Y4 x k) (fun w2=>aa8 B χ o w2 a0 c0 (aE9 x k)) (Fr B χ (Rng o (o+1)) w)):=by
 have htot:Enc.tot x=d7 x.Waiting:=rfl
 have t2:=b7 x.Waiting;have l2:=d9 x.Waiting
 have HOK:=lH F.ok
 have HB0:=lH (i9.new w [.int .i64 x.Next,.int .i64 x.Window,.slice a0 x.Waiting.length c0,.int .i64 x.Done] 69 w.heap.size rfl)
 have hFB:1000≤(χ w.heap.size).1:=hf _ nl
 have FA0:=lH (show Fr B χ (Rng o (o+0)) w (w.alloc (.cells #[.int .i64 x.Next,.int .i64 x.Window,.slice a0 x.Waiting.length c0,.int .i64 x.Done] 69))from Fr.grows _ _ _ _ _)
 have HFF:=lH F;clear F
 have HFR:=lH hf;clear hf
 go_enter Tryz.func143,Tryz.ntmps143
 go_wp2_with (first|(refine f8 rfl _ _ rfl w.heap.size 2 rfl (HB0.out.to ii) _ rfl _ Tryz.underlying67 rfl ?_))
 refine(bq4 (HFF.out.o0.fr FA0.out (Rng.out (.inr (by omega)))) (by omega) (by omega) (by omega)).mono ?_
 intro e0 w1 hq0
 obtain⟨he,hi,F1⟩:=hq0
 obtain⟨K1,hK⟩:∃ K:Int,K=k+(x.Waiting.length:Int)*((2:Nat):Int):=⟨_,rfl⟩
 obtain rfl:e0=.returned (.int .i64 K1):=he.trans (by rw[hK]<;>rfl)
 have hK1:k≤K1∧K1≤k+5*d7 x.Waiting:=by omega
 have HK1:=lH hK;have HI0:=lH hi
 have HG0:=lH (show Fr B χ (Rng (o+0) (o+1)) _ w1 from F1.rng0)
 clear he hK hi F1
 have HB1:=lH (HB0.out.frm HG0.out (by omega) hFB)
 have FA1:=lH (FA0.out.tr HG0.out (by omega) (by omega))
 go_wp2_with (fail)
 go_ret
 have FB1:=lH (show Fr B χ (Rng (o+1) (o+1)) w1 w1 from Fr.refl _ _ _ _)
 have E1:=HK1.out;clear HK1;subst E1
 exact⟨rfl,⟨HI0.out.fr FB1.out (Rng.out (.inl (by omega))),HOK.out⟩,FA1.out⟩
theorem aW5{B o:Nat}{χ:Nat→Col}{a0:Option Addr}{c0:Nat}{a1:Option Addr}{c1:Nat}{x:J0}{k:Int}{w:World}(F:U7 B χ o w a0 c0 a1 c1 x)(hf:ap5 χ w)(hB:B≤w.heap.size)(ho:o+2≤1000)(ht:Enc.tot x≤100000000)(h1:0≤k)(h2:k≤400000000000) :
  Calls Tryz.prog 234 #[.agg #[.int .i64 x.Room,.slice a0 x.Records.length c0,.slice a1 x.Dropped.length c1],.int .i64 k] w (Mkd (ab9 x k) (fun w2=>U7 B χ o w2 a0 c0 a1 c1 (al3 x k)) (Fr B χ (Rng o (o+2)) w)):=by
 have htot:Enc.tot x=d7 x.Records+d7 x.Dropped:=rfl
 have t1:=b7 x.Records;have l1:=d9 x.Records
 have t2:=b7 x.Dropped;have l2:=d9 x.Dropped
 have HOK:=lH F.ok
 have HB0:=lH (i9.new w [.int .i64 x.Room,.slice a0 x.Records.length c0,.slice a1 x.Dropped.length c1] 82 w.heap.size rfl)
 have hFB:1000≤(χ w.heap.size).1:=hf _ nl
 have FA0:=lH (show Fr B χ (Rng o (o+0)) w (w.alloc (.cells #[.int .i64 x.Room,.slice a0 x.Records.length c0,.slice a1 x.Dropped.length c1] 82))from Fr.grows _ _ _ _ _)
 have HFF:=lH F;clear F
 have HFR:=lH hf;clear hf
 go_enter Tryz.func234,Tryz.ntmps234
 go_wp2_with (first|(refine f8 rfl _ _ rfl w.heap.size 1 rfl (HB0.out.to ii) _ rfl _ Tryz.underlying73 rfl ?_))
 refine(at6 (HFF.out.o0.fr FA0.out (Rng.out (.inr (by omega)))) (by omega) (by omega) (by omega)).mono ?_
 intro e0 w1 hq0
 obtain⟨he,hi,F1⟩:=hq0
 obtain⟨K1,hK⟩:∃ K:Int,K=k+(x.Records.length:Int)*((4:Nat):Int):=⟨_,rfl⟩
 obtain rfl:e0=.returned (.int .i64 K1):=he.trans (by rw[hK]<;>rfl)
 have hK1:k≤K1∧K1≤k+5*d7 x.Records:=by omega
 have HK1:=lH hK;have HI0:=lH hi
 have HG0:=lH (show Fr B χ (Rng (o+0) (o+1)) _ w1 from F1.rng0)
 clear he hK hi F1
 have HB1:=lH (HB0.out.frm HG0.out (by omega) hFB)
 have FA1:=lH (FA0.out.tr HG0.out (by omega) (by omega))
 go_wp2_with (first|(refine f8 rfl _ _ rfl w.heap.size 2 rfl (HB1.out.to ii) _ rfl _ Tryz.underlying46 rfl ?_))
 refine(aq3 (HFF.out.o1.fr FA1.out (Rng.out (.inr (by omega)))) (by omega) (by omega) (by omega)).mono ?_
 intro e1 w2 hq1
 obtain⟨he,hi,F1⟩:=hq1
 obtain⟨K2,hK⟩:∃ K:Int,K=K1+(x.Dropped.length:Int)*((1:Nat):Int):=⟨_,rfl⟩
 obtain rfl:e1=.returned (.int .i64 K2):=he.trans (by rw[hK]<;>rfl)
 have hK2:K1≤K2∧K2≤K1+5*d7 x.Dropped:=by omega
 have HK2:=lH hK;have HI1:=lH hi
 have HG1:=lH (show Fr B χ (Rng (o+1) (o+2)) _ w2 from F1.rng0)
 clear he hK hi F1
 have HB2:=lH (HB1.out.frm HG1.out (by omega) hFB)
 have FA2:=lH (FA1.out.tr HG1.out (by omega) (by omega))
 go_wp2_with (fail)
 go_ret
 have FB2:=lH (show Fr B χ (Rng (o+2) (o+2)) w2 w2 from Fr.refl _ _ _ _)
 have FB1:=lH (HG1.out.tr FB2.out (by omega) (by omega))
 have E1:=HK1.out;clear HK1;subst E1
 have E2:=HK2.out;clear HK2;subst E2
 exact⟨rfl,⟨HI0.out.fr FB1.out (Rng.out (.inl (by omega))),HI1.out.fr FB2.out (Rng.out (.inl (by omega))),HOK.out⟩,FA2.out⟩
theorem bq0{B o:Nat}{χ:Nat→Col}{A:af3}{x:D5}{k:Int}{w:World}(F:ad6 B χ o w A x)(hf:ap5 χ w)(hB:B≤w.heap.size)(ho:o+7≤1000)(ht:Enc.tot x≤100000000)(h1:0≤k)(h2:k≤300000000000) :
  Calls Tryz.prog 148 #[.agg (I0 x A).toArray,.int .i64 k] w (Mkd (ab8 x k) (fun w2=>ad6 B χ o w2 A (aN0 x k)) (Fr B χ (Rng o (o+7)) w)):=by
 have htot:Enc.tot x=d7 x.Params+d7 x.Limits+d7 x.Orders+d7 x.Done+Enc.tot x.Recorder+d7 x.Asked:=rfl
 have t1:=b7 x.Params;have l1:=d9 x.Params
 have t3:=b7 x.Limits;have l3:=d9 x.Limits
 have t4:=b7 x.Orders;have l4:=d9 x.Orders
 have t5:=b7 x.Done;have l5:=d9 x.Done
 have t6:=Enc.tot_nonneg x.Recorder
 have t9:=b7 x.Asked;have l9:=d9 x.Asked
 have HOK:=lH F.ok
 have HB0:=lH (i9.new w (I0 x A) 84 w.heap.size rfl)
 have hFB:1000≤(χ w.heap.size).1:=hf _ nl
 have FA0:=lH (show Fr B χ (Rng o (o+0)) w (w.alloc (.cells (I0 x A).toArray 84))from Fr.grows _ _ _ _ _)
 have HFF:=lH F;clear F
 have HFR:=lH hf;clear hf
 go_enter Tryz.func148,Tryz.ntmps148
 go_wp2_with (first|(refine f8 rfl _ _ rfl w.heap.size 1 rfl (HB0.out.to ii) _ rfl _ Tryz.underlying46 rfl ?_))
 refine(aq3 (HFF.out.o0.fr FA0.out (Rng.out (.inr (by omega)))) (by omega) (by omega) (by omega)).mono ?_
 intro e0 w1 hq0
 obtain⟨he,hi,F1⟩:=hq0
 obtain⟨K1,hK⟩:∃ K:Int,K=k+(x.Params.length:Int)*((1:Nat):Int):=⟨_,rfl⟩
 obtain rfl:e0=.returned (.int .i64 K1):=he.trans (by rw[hK]<;>rfl)
 have hK1:k≤K1∧K1≤k+5*d7 x.Params:=by omega
 have HK1:=lH hK;have HI0:=lH hi
 have HG0:=lH (show Fr B χ (Rng (o+0) (o+1)) _ w1 from F1.rng0)
 clear he hK hi F1
 have HB1:=lH (HB0.out.frm HG0.out (by omega) hFB)
 have FA1:=lH (FA0.out.tr HG0.out (by omega) (by omega))
 go_wp2_with (first|(refine f8 rfl _ _ rfl w.heap.size 3 rfl (HB1.out.to ii) _ rfl _ Tryz.underlying78 rfl ?_))
 refine(bi2 (HFF.out.o1.fr FA1.out (Rng.out (.inr (by omega)))) (by omega) (by omega) (by omega)).mono ?_
 intro e1 w2 hq1
 obtain⟨he,hi,F1⟩:=hq1
 obtain⟨K2,hK⟩:∃ K:Int,K=K1+(x.Limits.length:Int)*((3:Nat):Int):=⟨_,rfl⟩
 obtain rfl:e1=.returned (.int .i64 K2):=he.trans (by rw[hK]<;>rfl)
 have hK2:K1≤K2∧K2≤K1+5*d7 x.Limits:=by omega
 have HK2:=lH hK;have HI1:=lH hi
 have HG1:=lH (show Fr B χ (Rng (o+1) (o+2)) _ w2 from F1.rng0)
 clear he hK hi F1
 have HB2:=lH (HB1.out.frm HG1.out (by omega) hFB)
 have FA2:=lH (FA1.out.tr HG1.out (by omega) (by omega))
 go_wp2_with (first|(refine f8 rfl _ _ rfl w.heap.size 4 rfl (HB2.out.to ii) _ rfl _ Tryz.underlying79 rfl ?_))
 refine(aW6 (HFF.out.o2.fr FA2.out (Rng.out (.inr (by omega)))) (by omega) (by omega) (by omega)).mono ?_
 intro e2 w3 hq2
 obtain⟨he,hi,F1⟩:=hq2
 obtain⟨K3,hK⟩:∃ K:Int,K=K2+(x.Orders.length:Int)*((5:Nat):Int):=⟨_,rfl⟩
 obtain rfl:e2=.returned (.int .i64 K3):=he.trans (by rw[hK]<;>rfl)
 have hK3:K2≤K3∧K3≤K2+5*d7 x.Orders:=by omega
 have HK3:=lH hK;have HI2:=lH hi
 have HG2:=lH (show Fr B χ (Rng (o+2) (o+3)) _ w3 from F1.rng0)
 clear he hK hi F1
 have HB3:=lH (HB2.out.frm HG2.out (by omega) hFB)
 have FA3:=lH (FA2.out.tr HG2.out (by omega) (by omega))
 go_wp2_with (first|(refine f8 rfl _ _ rfl w.heap.size 5 rfl (HB3.out.to ii) _ rfl _ Tryz.underlying80 rfl ?_))
 refine(bq2 (HFF.out.o3.fr FA3.out (Rng.out (.inr (by omega)))) (by omega) (by omega) (by omega)).mono ?_
 intro e3 w4 hq3
 obtain⟨he,hi,F1⟩:=hq3
 obtain⟨K4,hK⟩:∃ K:Int,K=K3+(x.Done.length:Int)*((3:Nat):Int):=⟨_,rfl⟩
 obtain rfl:e3=.returned (.int .i64 K4):=he.trans (by rw[hK]<;>rfl)
 have hK4:K3≤K4∧K4≤K3+5*d7 x.Done:=by omega
 have HK4:=lH hK;have HI3:=lH hi
 have HG3:=lH (show Fr B χ (Rng (o+3) (o+4)) _ w4 from F1.rng0)
 clear he hK hi F1
 have HB4:=lH (HB3.out.frm HG3.out (by omega) hFB)
 have FA4:=lH (FA3.out.tr HG3.out (by omega) (by omega))
 go_wp2_with (first|(refine f7 rfl _ _ rfl (w.heap.size) 6 rfl (row:=[.int .i64 x.Recorder.Room,.slice A.a4 x.Recorder.Records.length A.c4,.slice A.a5 x.Recorder.Dropped.length A.c5]) (HB4.out.to ii) _ Tryz.underlying82 rfl kr kr ?_))
 refine(aW5 (x:=x.Recorder) ⟨(HFF.out.o4.fr FA4.out (Rng.out (.inr (by omega)))),(HFF.out.o5.fr FA4.out (Rng.out (.inr (by omega)))),HOK.out.2.1⟩ (HFR.out.mono FA4.out.size) (Nat.le_trans hB FA4.out.size) (by omega) (by omega) (by omega) (by omega)).mono ?_
 intro e4 w5 hq4
 obtain⟨he,hi,F1⟩:=hq4
 obtain⟨K5,hK⟩:∃ K:Int,K=ab9 x.Recorder (K4):=⟨_,rfl⟩
 obtain rfl:e4=.returned (.int .i64 K5):=he.trans (by rw[hK]<;>rfl)
 have hb:=at1 x.Recorder K4
 have hK5:K4≤K5∧K5≤K4+5*Enc.tot x.Recorder:=by omega
 have HK5:=lH hK;have HI4:=lH hi
 have HG4:=lH (show Fr B χ (Rng (o+4) (o+6)) _ w5 from F1)
 clear he hK hi F1 hb
 have HB5:=lH (HB4.out.frm HG4.out (by omega) hFB)
 have FA5:=lH (FA4.out.tr HG4.out (by omega) (by omega))
 go_wp2_with (first|(refine f8 rfl _ _ rfl w.heap.size 11 rfl (HB5.out.to ii) _ rfl _ Tryz.underlying46 rfl ?_))
 refine(aq3 (HFF.out.o6.fr FA5.out (Rng.out (.inr (by omega)))) (by omega) (by omega) (by omega)).mono ?_
 intro e5 w6 hq5
 obtain⟨he,hi,F1⟩:=hq5
 obtain⟨K6,hK⟩:∃ K:Int,K=K5+(x.Asked.length:Int)*((1:Nat):Int):=⟨_,rfl⟩
 obtain rfl:e5=.returned (.int .i64 K6):=he.trans (by rw[hK]<;>rfl)
 have hK6:K5≤K6∧K6≤K5+5*d7 x.Asked:=by omega
 have HK6:=lH hK;have HI5:=lH hi
 have HG5:=lH (show Fr B χ (Rng (o+6) (o+7)) _ w6 from F1.rng0)
 clear he hK hi F1
 have HB6:=lH (HB5.out.frm HG5.out (by omega) hFB)
 have FA6:=lH (FA5.out.tr HG5.out (by omega) (by omega))
 go_wp2_with (fail)
 go_ret
 have FB6:=lH (show Fr B χ (Rng (o+7) (o+7)) w6 w6 from Fr.refl _ _ _ _)
 have FB5:=lH (HG5.out.tr FB6.out (by omega) (by omega))
 have FB4:=lH (HG4.out.tr FB5.out (by omega) (by omega))
 have FB3:=lH (HG3.out.tr FB4.out (by omega) (by omega))
 have FB2:=lH (HG2.out.tr FB3.out (by omega) (by omega))
 have FB1:=lH (HG1.out.tr FB2.out (by omega) (by omega))
 have E1:=HK1.out;clear HK1;subst E1
 have E2:=HK2.out;clear HK2;subst E2
 have E3:=HK3.out;clear HK3;subst E3
 have E4:=HK4.out;clear HK4;subst E4
 have E5:=HK5.out;clear HK5;subst E5
 have E6:=HK6.out;clear HK6;subst E6
 exact⟨rfl,⟨HI0.out.fr FB1.out (Rng.out (.inl (by omega))),HI1.out.fr FB2.out (Rng.out (.inl (by omega))),HI2.out.fr FB3.out (Rng.out (.inl (by omega))),HI3.out.fr FB4.out (Rng.out (.inl (by omega))),HI4.out.o0.fr FB5.out (Rng.out (.inl (by omega))),HI4.out.o1.fr FB5.out (Rng.out (.inl (by omega))),HI5.out.fr FB6.out (Rng.out (.inl (by omega))),HOK.out⟩,FA6.out⟩
theorem bi1{B o:Nat}{χ:Nat→Col}{A:aa6}{x:I8}{k:Int}{w:World}(F:X4 B χ o w A x)(hf:ap5 χ w)(hB:B≤w.heap.size)(ho:o+6≤1000)(ht:Enc.tot x≤100000000)(h1:0≤k)(h2:k≤200000000000) :
  Calls Tryz.prog 50 #[.agg (M8 x A).toArray,.int .i64 k] w (Mkd (aa2 x k) (fun w2=>X4 B χ o w2 A (aE7 x k)) (Fr B χ (Rng o (o+6)) w)):=by
 have htot:Enc.tot x=d7 x.Offers+Enc.tot x.Sender+Enc.tot x.Unpacker+d7 x.Pairs+d7 x.Records+d7 x.Files+d7 x.Told:=rfl
 have t0:=b7 x.Offers;have l0:=d9 x.Offers
 have t1:=Enc.tot_nonneg x.Sender
 have t3:=Enc.tot_nonneg x.Unpacker
 have t4:=b7 x.Pairs;have l4:=d9 x.Pairs
 have t5:=b7 x.Records;have l5:=d9 x.Records
 have t6:=b7 x.Files;have l6:=d9 x.Files
 have t7:=b7 x.Told;have l7:=d9 x.Told
 have HOK:=lH F.ok
 have HB0:=lH (i9.new w (M8 x A) 76 w.heap.size rfl)
 have hFB:1000≤(χ w.heap.size).1:=hf _ nl
 have FA0:=lH (show Fr B χ (Rng o (o+0)) w (w.alloc (.cells (M8 x A).toArray 76))from Fr.grows _ _ _ _ _)
 have HFF:=lH F;clear F
 have HFR:=lH hf;clear hf
 go_enter Tryz.func50,Tryz.ntmps50
 go_wp2_with (first|(refine f8 rfl _ _ rfl w.heap.size 0 rfl (HB0.out.to ii) _ rfl _ Tryz.underlying30 rfl ?_))
 refine(ah9 (HFF.out.o0.fr FA0.out (Rng.out (.inr (by omega)))) (by omega) (by omega) (by omega)).mono ?_
 intro e0 w1 hq0
 obtain⟨he,hi,F1⟩:=hq0
 obtain⟨K1,hK⟩:∃ K:Int,K=k+(x.Offers.length:Int)*((1:Nat):Int):=⟨_,rfl⟩
 obtain rfl:e0=.returned (.int .i64 K1):=he.trans (by rw[hK]<;>rfl)
 have hK1:k≤K1∧K1≤k+5*d7 x.Offers:=by omega
 have HK1:=lH hK;have HI0:=lH hi
 have HG0:=lH (show Fr B χ (Rng (o+0) (o+1)) _ w1 from F1.rng0)
 clear he hK hi F1
 have HB1:=lH (HB0.out.frm HG0.out (by omega) hFB)
 have FA1:=lH (FA0.out.tr HG0.out (by omega) (by omega))
 go_wp2_with (first|(refine f7 rfl _ _ rfl (w.heap.size) 1 rfl (row:=[.int .i64 x.Sender.Next,.int .i64 x.Sender.Window,.slice A.a1 x.Sender.Waiting.length A.c1,.int .i64 x.Sender.Done]) (HB1.out.to ii) _ Tryz.underlying69 rfl kr kr ?_))
 refine(bi4 (x:=x.Sender) ⟨(HFF.out.o1.fr FA1.out (Rng.out (.inr (by omega)))),HOK.out.1⟩ (HFR.out.mono FA1.out.size) (Nat.le_trans hB FA1.out.size) (by omega) (by omega) (by omega) (by omega)).mono ?_
 intro e1 w2 hq1
 obtain⟨he,hi,F1⟩:=hq1
 obtain⟨K2,hK⟩:∃ K:Int,K=Y4 x.Sender (K1):=⟨_,rfl⟩
 obtain rfl:e1=.returned (.int .i64 K2):=he.trans (by rw[hK]<;>rfl)
 have hb:=ay9 x.Sender K1
 have hK2:K1≤K2∧K2≤K1+5*Enc.tot x.Sender:=by omega
 have HK2:=lH hK;have HI1:=lH hi
 have HG1:=lH (show Fr B χ (Rng (o+1) (o+2)) _ w2 from F1)
 clear he hK hi F1 hb
 have HB2:=lH (HB1.out.frm HG1.out (by omega) hFB)
 have FA2:=lH (FA1.out.tr HG1.out (by omega) (by omega))
 go_wp2_with (first|(refine f8 rfl _ _ rfl w.heap.size 13 rfl (HB2.out.to ii) _ rfl _ Tryz.underlying72 rfl ?_))
 refine(bq3 (HFF.out.o2.fr FA2.out (Rng.out (.inr (by omega)))) (by omega) (by omega) (by omega)).mono ?_
 intro e2 w3 hq2
 obtain⟨he,hi,F1⟩:=hq2
 obtain⟨K3,hK⟩:∃ K:Int,K=K2+(x.Pairs.length:Int)*((2:Nat):Int):=⟨_,rfl⟩
 obtain rfl:e2=.returned (.int .i64 K3):=he.trans (by rw[hK]<;>rfl)
 have hK3:K2≤K3∧K3≤K2+5*d7 x.Pairs:=by omega
 have HK3:=lH hK;have HI2:=lH hi
 have HG2:=lH (show Fr B χ (Rng (o+2) (o+3)) _ w3 from F1.rng0)
 clear he hK hi F1
 have HB3:=lH (HB2.out.frm HG2.out (by omega) hFB)
 have FA3:=lH (FA2.out.tr HG2.out (by omega) (by omega))
 go_wp2_with (first|(refine f8 rfl _ _ rfl w.heap.size 14 rfl (HB3.out.to ii) _ rfl _ Tryz.underlying73 rfl ?_))
 refine(at6 (HFF.out.o3.fr FA3.out (Rng.out (.inr (by omega)))) (by omega) (by omega) (by omega)).mono ?_
 intro e3 w4 hq3
 obtain⟨he,hi,F1⟩:=hq3
 obtain⟨K4,hK⟩:∃ K:Int,K=K3+(x.Records.length:Int)*((4:Nat):Int):=⟨_,rfl⟩
 obtain rfl:e3=.returned (.int .i64 K4):=he.trans (by rw[hK]<;>rfl)
 have hK4:K3≤K4∧K4≤K3+5*d7 x.Records:=by omega
 have HK4:=lH hK;have HI3:=lH hi
 have HG3:=lH (show Fr B χ (Rng (o+3) (o+4)) _ w4 from F1.rng0)
 clear he hK hi F1
 have HB4:=lH (HB3.out.frm HG3.out (by omega) hFB)
 have FA4:=lH (FA3.out.tr HG3.out (by omega) (by omega))
 go_wp2_with (first|(refine f8 rfl _ _ rfl w.heap.size 15 rfl (HB4.out.to ii) _ rfl _ Tryz.underlying74 rfl ?_))
 refine(bc8 (HFF.out.o4.elim fun r hr=>⟨r,hr.1,hr.2.fr FA4.out (fun _=>Rng.out (.inr (by omega)))⟩) (by omega) (by omega) (by omega)).mono ?_
 intro e4 w5 hq4
 obtain⟨he,hi,F1⟩:=hq4
 obtain⟨K5,hK⟩:∃ K:Int,K=mnN I2 x.Files (K4):=⟨_,rfl⟩
 obtain rfl:e4=.returned (.int .i64 K5):=he.trans (by rw[hK]<;>rfl)
 have hb:=at2 I2 an1 x.Files K4
 have hK5:K4≤K5∧K5≤K4+5*d7 x.Files:=by omega
 have HK5:=lH hK;have HI4:=lH hi
 have HG4:=lH (show Fr B χ (Rng (o+4) (o+5)) _ w5 from F1)
 clear he hK hi F1 hb
 have HB5:=lH (HB4.out.frm HG4.out (by omega) hFB)
 have FA5:=lH (FA4.out.tr HG4.out (by omega) (by omega))
 go_wp2_with (first|(refine f8 rfl _ _ rfl w.heap.size 16 rfl (HB5.out.to ii) _ rfl _ Tryz.underlying41 rfl ?_))
 refine(bq1 (HFF.out.o5.fr FA5.out (Rng.out (.inr (by omega)))) (by omega) (by omega) (by omega)).mono ?_
 intro e5 w6 hq5
 obtain⟨he,hi,F1⟩:=hq5
 obtain⟨K6,hK⟩:∃ K:Int,K=K5+(x.Told.length:Int)*((1:Nat):Int):=⟨_,rfl⟩
 obtain rfl:e5=.returned (.int .i64 K6):=he.trans (by rw[hK]<;>rfl)
 have hK6:K5≤K6∧K6≤K5+5*d7 x.Told:=by omega
 have HK6:=lH hK;have HI5:=lH hi
 have HG5:=lH (show Fr B χ (Rng (o+5) (o+6)) _ w6 from F1.rng0)
 clear he hK hi F1
 have HB6:=lH (HB5.out.frm HG5.out (by omega) hFB)
 have FA6:=lH (FA5.out.tr HG5.out (by omega) (by omega))
 go_wp2_with (fail)
 go_ret
 have FB6:=lH (show Fr B χ (Rng (o+6) (o+6)) w6 w6 from Fr.refl _ _ _ _)
 have FB5:=lH (HG5.out.tr FB6.out (by omega) (by omega))
 have FB4:=lH (HG4.out.tr FB5.out (by omega) (by omega))
 have FB3:=lH (HG3.out.tr FB4.out (by omega) (by omega))
 have FB2:=lH (HG2.out.tr FB3.out (by omega) (by omega))
 have FB1:=lH (HG1.out.tr FB2.out (by omega) (by omega))
 have E1:=HK1.out;clear HK1;subst E1
 have E2:=HK2.out;clear HK2;subst E2
 have E3:=HK3.out;clear HK3;subst E3
 have E4:=HK4.out;clear HK4;subst E4
 have E5:=HK5.out;clear HK5;subst E5
 have E6:=HK6.out;clear HK6;subst E6
 exact⟨rfl,⟨HI0.out.fr FB1.out (Rng.out (.inl (by omega))),HI1.out.o0.fr FB2.out (Rng.out (.inl (by omega))),HI2.out.fr FB3.out (Rng.out (.inl (by omega))),HI3.out.fr FB4.out (Rng.out (.inl (by omega))),HI4.out.elim fun r hr=>⟨r,hr.1,hr.2.fr FB5.out (fun _=>Rng.out (.inl (by omega)))⟩,HI5.out.fr FB6.out (Rng.out (.inl (by omega))),HOK.out⟩,FA6.out⟩
theorem bq6{B o:Nat}{χ:Nat→Col}{A:ag9}{x:M7}{k:Int}{w:World}(F:ad7 B χ o w A x)(hf:ap5 χ w)(hB:B≤w.heap.size)(ho:o+11≤1000)(ht:Enc.tot x≤100000000)(h1:0≤k)(h2:k≤200000000000) :
  Calls Tryz.prog 51 #[.agg (U3 x A).toArray,.int .i64 k] w (Mkd (ak1 x k) (fun w2=>ad7 B χ o w2 A (aN1 x k)) (Fr B χ (Rng o (o+11)) w)):=by
 have htot:Enc.tot x=Enc.tot x.Board+Enc.tot x.Packer+d7 x.Files+d7 x.Outs+d7 x.Sent:=rfl
 have t1:=Enc.tot_nonneg x.Board
 have t2:=Enc.tot_nonneg x.Packer
 have t4:=b7 x.Files;have l4:=d9 x.Files
 have t5:=b7 x.Outs;have l5:=d9 x.Outs
 have t7:=b7 x.Sent;have l7:=d9 x.Sent
 have HOK:=lH F.ok
 have HB0:=lH (i9.new w (U3 x A) 88 w.heap.size rfl)
 have hFB:1000≤(χ w.heap.size).1:=hf _ nl
 have FA0:=lH (show Fr B χ (Rng o (o+0)) w (w.alloc (.cells (U3 x A).toArray 88))from Fr.grows _ _ _ _ _)
 have HFF:=lH F;clear F
 have HFR:=lH hf;clear hf
 go_enter Tryz.func51,Tryz.ntmps51
 go_wp2_with (first|(refine f7 rfl _ _ rfl (w.heap.size) 4 rfl (row:=(I0 x.Board A)) (HB0.out.to ii) _ Tryz.underlying84 rfl kr kr ?_))
 refine(bq0 (A:=⟨A.a0,A.c0,A.a1,A.c1,A.a2,A.c2,A.a3,A.c3,A.a4,A.c4,A.a5,A.c5,A.a6,A.c6⟩) (x:=x.Board) ⟨(HFF.out.o0.fr FA0.out (Rng.out (.inr (by omega)))),(HFF.out.o1.fr FA0.out (Rng.out (.inr (by omega)))),(HFF.out.o2.fr FA0.out (Rng.out (.inr (by omega)))),(HFF.out.o3.fr FA0.out (Rng.out (.inr (by omega)))),(HFF.out.o4.fr FA0.out (Rng.out (.inr (by omega)))),(HFF.out.o5.fr FA0.out (Rng.out (.inr (by omega)))),(HFF.out.o6.fr FA0.out (Rng.out (.inr (by omega)))),HOK.out.2.1⟩ (HFR.out.mono FA0.out.size) (Nat.le_trans hB FA0.out.size) (by omega) (by omega) (by omega) (by omega)).mono ?_
 intro e0 w1 hq0
 obtain⟨he,hi,F1⟩:=hq0
 obtain⟨K1,hK⟩:∃ K:Int,K=ab8 x.Board (k):=⟨_,rfl⟩
 obtain rfl:e0=.returned (.int .i64 K1):=he.trans (by rw[hK]<;>rfl)
 have hb:=aC9 x.Board k
 have hK1:k≤K1∧K1≤k+5*Enc.tot x.Board:=by omega
 have HK1:=lH hK;have HI0:=lH hi
 have HG0:=lH (show Fr B χ (Rng (o+0) (o+7)) _ w1 from F1)
 clear he hK hi F1 hb
 have HB1:=lH (HB0.out.frm HG0.out (by omega) hFB)
 have FA1:=lH (FA0.out.tr HG0.out (by omega) (by omega))
 go_wp2_with (first|(refine f7 rfl _ _ rfl (w.heap.size) 16 rfl (row:=[.int .i64 x.Packer.Channel,.int .i64 x.Packer.Count,.string x.Packer.Rest,.slice A.a7 x.Packer.Starts.length A.c7]) (HB1.out.to ii) _ Tryz.underlying85 rfl kr kr ?_))
 refine(bi3 (x:=x.Packer) ⟨(HFF.out.o7.fr FA1.out (Rng.out (.inr (by omega)))),HOK.out.2.2.1⟩ (HFR.out.mono FA1.out.size) (Nat.le_trans hB FA1.out.size) (by omega) (by omega) (by omega) (by omega)).mono ?_
 intro e1 w2 hq1
 obtain⟨he,hi,F1⟩:=hq1
 obtain⟨K2,hK⟩:∃ K:Int,K=aa3 x.Packer (K1):=⟨_,rfl⟩
 obtain rfl:e1=.returned (.int .i64 K2):=he.trans (by rw[hK]<;>rfl)
 have hb:=ay8 x.Packer K1
 have hK2:K1≤K2∧K2≤K1+5*Enc.tot x.Packer:=by omega
 have HK2:=lH hK;have HI1:=lH hi
 have HG1:=lH (show Fr B χ (Rng (o+7) (o+8)) _ w2 from F1)
 clear he hK hi F1 hb
 have HB2:=lH (HB1.out.frm HG1.out (by omega) hFB)
 have FA2:=lH (FA1.out.tr HG1.out (by omega) (by omega))
 go_wp2_with (first|(refine f8 rfl _ _ rfl w.heap.size 21 rfl (HB2.out.to ii) _ rfl _ Tryz.underlying30 rfl ?_))
 refine(ah9 (HFF.out.o8.fr FA2.out (Rng.out (.inr (by omega)))) (by omega) (by omega) (by omega)).mono ?_
 intro e2 w3 hq2
 obtain⟨he,hi,F1⟩:=hq2
 obtain⟨K3,hK⟩:∃ K:Int,K=K2+(x.Files.length:Int)*((1:Nat):Int):=⟨_,rfl⟩
 obtain rfl:e2=.returned (.int .i64 K3):=he.trans (by rw[hK]<;>rfl)
 have hK3:K2≤K3∧K3≤K2+5*d7 x.Files:=by omega
 have HK3:=lH hK;have HI2:=lH hi
 have HG2:=lH (show Fr B χ (Rng (o+8) (o+9)) _ w3 from F1.rng0)
 clear he hK hi F1
 have HB3:=lH (HB2.out.frm HG2.out (by omega) hFB)
 have FA3:=lH (FA2.out.tr HG2.out (by omega) (by omega))
 go_wp2_with (first|(refine f8 rfl _ _ rfl w.heap.size 22 rfl (HB3.out.to ii) _ rfl _ Tryz.underlying86 rfl ?_))
 refine(aW4 (HFF.out.o9.elim fun r hr=>⟨r,hr.1,hr.2.fr FA3.out (fun _=>Rng.out (.inr (by omega)))⟩) (by omega) (by omega) (by omega)).mono ?_
 intro e3 w4 hq3
 obtain⟨he,hi,F1⟩:=hq3
 obtain⟨K4,hK⟩:∃ K:Int,K=mnN I4 x.Outs (K3):=⟨_,rfl⟩
 obtain rfl:e3=.returned (.int .i64 K4):=he.trans (by rw[hK]<;>rfl)
 have hb:=at2 I4 ak0 x.Outs K3
 have hK4:K3≤K4∧K4≤K3+5*d7 x.Outs:=by omega
 have HK4:=lH hK;have HI3:=lH hi
 have HG3:=lH (show Fr B χ (Rng (o+9) (o+10)) _ w4 from F1)
 clear he hK hi F1 hb
 have HB4:=lH (HB3.out.frm HG3.out (by omega) hFB)
 have FA4:=lH (FA3.out.tr HG3.out (by omega) (by omega))
 go_wp2_with (first|(refine f8 rfl _ _ rfl w.heap.size 24 rfl (HB4.out.to ii) _ rfl _ Tryz.underlying73 rfl ?_))
 refine(at6 (HFF.out.o10.fr FA4.out (Rng.out (.inr (by omega)))) (by omega) (by omega) (by omega)).mono ?_
 intro e4 w5 hq4
 obtain⟨he,hi,F1⟩:=hq4
 obtain⟨K5,hK⟩:∃ K:Int,K=K4+(x.Sent.length:Int)*((4:Nat):Int):=⟨_,rfl⟩
 obtain rfl:e4=.returned (.int .i64 K5):=he.trans (by rw[hK]<;>rfl)
 have hK5:K4≤K5∧K5≤K4+5*d7 x.Sent:=by omega
 have HK5:=lH hK;have HI4:=lH hi
 have HG4:=lH (show Fr B χ (Rng (o+10) (o+11)) _ w5 from F1.rng0)
 clear he hK hi F1
 have HB5:=lH (HB4.out.frm HG4.out (by omega) hFB)
 have FA5:=lH (FA4.out.tr HG4.out (by omega) (by omega))
 go_wp2_with (fail)
 go_ret
 have FB5:=lH (show Fr B χ (Rng (o+11) (o+11)) w5 w5 from Fr.refl _ _ _ _)
 have FB4:=lH (HG4.out.tr FB5.out (by omega) (by omega))
 have FB3:=lH (HG3.out.tr FB4.out (by omega) (by omega))
 have FB2:=lH (HG2.out.tr FB3.out (by omega) (by omega))
 have FB1:=lH (HG1.out.tr FB2.out (by omega) (by omega))
 have E1:=HK1.out;clear HK1;subst E1
 have E2:=HK2.out;clear HK2;subst E2
 have E3:=HK3.out;clear HK3;subst E3
 have E4:=HK4.out;clear HK4;subst E4
 have E5:=HK5.out;clear HK5;subst E5
 exact⟨rfl,⟨HI0.out.o0.fr FB1.out (Rng.out (.inl (by omega))),HI0.out.o1.fr FB1.out (Rng.out (.inl (by omega))),HI0.out.o2.fr FB1.out (Rng.out (.inl (by omega))),HI0.out.o3.fr FB1.out (Rng.out (.inl (by omega))),HI0.out.o4.fr FB1.out (Rng.out (.inl (by omega))),HI0.out.o5.fr FB1.out (Rng.out (.inl (by omega))),HI0.out.o6.fr FB1.out (Rng.out (.inl (by omega))),HI1.out.o0.fr FB2.out (Rng.out (.inl (by omega))),HI2.out.fr FB3.out (Rng.out (.inl (by omega))),HI3.out.elim fun r hr=>⟨r,hr.1,hr.2.fr FB4.out (fun _=>Rng.out (.inl (by omega)))⟩,HI4.out.fr FB5.out (Rng.out (.inl (by omega))),HOK.out⟩,FA5.out⟩
theorem bc9{B o:Nat}{χ:Nat→Col}{A:I9}{x:f5}{k:Int}{w:World}(F:I1 B χ o w A x)(hf:ap5 χ w)(hB:B≤w.heap.size)(ho:o+22≤1000)(ht:Enc.tot x≤100000000)(h1:0≤k)(h2:k≤100000000000) :
  Calls Tryz.prog 9 #[.agg (A0 x A).toArray,.int .i64 k] w (Mkd (af8 x k) (fun w2=>I1 B χ o w2 A (f9 x k)) (Fr B χ (Rng o (o+22)) w)):=by
 have htot:Enc.tot x=d7 x.Plan+d7 x.Ups+d7 x.Downs+Enc.tot x.Ground+Enc.tot x.Space+d7 x.Offered+d7 x.Took:=rfl
 have t4:=b7 x.Plan;have l4:=d9 x.Plan
 have t7:=b7 x.Ups;have l7:=d9 x.Ups
 have t8:=b7 x.Downs;have l8:=d9 x.Downs
 have t9:=Enc.tot_nonneg x.Ground
 have t10:=Enc.tot_nonneg x.Space
 have t11:=b7 x.Offered;have l11:=d9 x.Offered
 have t12:=b7 x.Took;have l12:=d9 x.Took
 have HOK:=lH F.ok
 have HB0:=lH (i9.new w (A0 x A) 90 w.heap.size rfl)
 have hFB:1000≤(χ w.heap.size).1:=hf _ nl
 have FA0:=lH (show Fr B χ (Rng o (o+0)) w (w.alloc (.cells (A0 x A).toArray 90))from Fr.grows _ _ _ _ _)
 have HFF:=lH F;clear F
 have HFR:=lH hf;clear hf
 go_enter Tryz.func9,Tryz.ntmps9
 go_wp2_with (first|(refine f8 rfl _ _ rfl w.heap.size 7 rfl (HB0.out.to ii) _ rfl _ Tryz.underlying64 rfl ?_))
 refine(bq5 (HFF.out.o0.fr FA0.out (Rng.out (.inr (by omega)))) (by omega) (by omega) (by omega)).mono ?_
 intro e0 w1 hq0
 obtain⟨he,hi,F1⟩:=hq0
 obtain⟨K1,hK⟩:∃ K:Int,K=k+(x.Plan.length:Int)*((2:Nat):Int):=⟨_,rfl⟩
 obtain rfl:e0=.returned (.int .i64 K1):=he.trans (by rw[hK]<;>rfl)
 have hK1:k≤K1∧K1≤k+5*d7 x.Plan:=by omega
 have HK1:=lH hK;have HI0:=lH hi
 have HG0:=lH (show Fr B χ (Rng (o+0) (o+1)) _ w1 from F1.rng0)
 clear he hK hi F1
 have HB1:=lH (HB0.out.frm HG0.out (by omega) hFB)
 have FA1:=lH (FA0.out.tr HG0.out (by omega) (by omega))
 go_wp2_with (first|(refine f8 rfl _ _ rfl w.heap.size 14 rfl (HB1.out.to ii) _ rfl _ Tryz.underlying66 rfl ?_))
 refine(aD3 (HFF.out.o1.fr FA1.out (Rng.out (.inr (by omega)))) (by omega) (by omega) (by omega)).mono ?_
 intro e1 w2 hq1
 obtain⟨he,hi,F1⟩:=hq1
 obtain⟨K2,hK⟩:∃ K:Int,K=K1+(x.Ups.length:Int)*((2:Nat):Int):=⟨_,rfl⟩
 obtain rfl:e1=.returned (.int .i64 K2):=he.trans (by rw[hK]<;>rfl)
 have hK2:K1≤K2∧K2≤K1+5*d7 x.Ups:=by omega
 have HK2:=lH hK;have HI1:=lH hi
 have HG1:=lH (show Fr B χ (Rng (o+1) (o+2)) _ w2 from F1.rng0)
 clear he hK hi F1
 have HB2:=lH (HB1.out.frm HG1.out (by omega) hFB)
 have FA2:=lH (FA1.out.tr HG1.out (by omega) (by omega))
 go_wp2_with (first|(refine f8 rfl _ _ rfl w.heap.size 15 rfl (HB2.out.to ii) _ rfl _ Tryz.underlying66 rfl ?_))
 refine(aD3 (HFF.out.o2.fr FA2.out (Rng.out (.inr (by omega)))) (by omega) (by omega) (by omega)).mono ?_
 intro e2 w3 hq2
 obtain⟨he,hi,F1⟩:=hq2
 obtain⟨K3,hK⟩:∃ K:Int,K=K2+(x.Downs.length:Int)*((2:Nat):Int):=⟨_,rfl⟩
 obtain rfl:e2=.returned (.int .i64 K3):=he.trans (by rw[hK]<;>rfl)
 have hK3:K2≤K3∧K3≤K2+5*d7 x.Downs:=by omega
 have HK3:=lH hK;have HI2:=lH hi
 have HG2:=lH (show Fr B χ (Rng (o+2) (o+3)) _ w3 from F1.rng0)
 clear he hK hi F1
 have HB3:=lH (HB2.out.frm HG2.out (by omega) hFB)
 have FA3:=lH (FA2.out.tr HG2.out (by omega) (by omega))
 go_wp2_with (first|(refine f7 rfl _ _ rfl (w.heap.size) 16 rfl (row:=(X0 x.Ground A.a3 A.c3 A.a4 A.c4 A.a5 A.c5 A.a6 A.c6 A.a7 A.c7 A.a8 A.c8)) (HB3.out.to ii) _ Tryz.underlying76 rfl kr kr ?_))
 refine(bi1 (A:=⟨A.a3,A.c3,A.a4,A.c4,A.a5,A.c5,A.a6,A.c6,A.a7,A.c7,A.a8,A.c8⟩) (x:=x.Ground) ⟨(HFF.out.o3.fr FA3.out (Rng.out (.inr (by omega)))),(HFF.out.o4.fr FA3.out (Rng.out (.inr (by omega)))),(HFF.out.o5.fr FA3.out (Rng.out (.inr (by omega)))),(HFF.out.o6.fr FA3.out (Rng.out (.inr (by omega)))),(HFF.out.o7.elim fun r hr=>⟨r,hr.1,hr.2.fr FA3.out (fun _=>Rng.out (.inr (by omega)))⟩),(HFF.out.o8.fr FA3.out (Rng.out (.inr (by omega)))),HOK.out.2.2.2.2.2.2.1⟩ (HFR.out.mono FA3.out.size) (Nat.le_trans hB FA3.out.size) (by omega) (by omega) (by omega) (by omega)).mono ?_
 intro e3 w4 hq3
 obtain⟨he,hi,F1⟩:=hq3
 obtain⟨K4,hK⟩:∃ K:Int,K=aa2 x.Ground (K3):=⟨_,rfl⟩
 obtain rfl:e3=.returned (.int .i64 K4):=he.trans (by rw[hK]<;>rfl)
 have hb:=ay7 x.Ground K3
 have hK4:K3≤K4∧K4≤K3+5*Enc.tot x.Ground:=by omega
 have HK4:=lH hK;have HI3:=lH hi
 have HG3:=lH (show Fr B χ (Rng (o+3) (o+9)) _ w4 from F1)
 clear he hK hi F1 hb
 have HB4:=lH (HB3.out.frm HG3.out (by omega) hFB)
 have FA4:=lH (FA3.out.tr HG3.out (by omega) (by omega))
 go_wp2_with (first|(refine f7 rfl _ _ rfl (w.heap.size) 33 rfl (row:=(ad9 x.Space A.a9 A.c9 A.a10 A.c10 A.a11 A.c11 A.a12 A.c12 A.a13 A.c13 A.a14 A.c14 A.a15 A.c15 A.a16 A.c16 A.a17 A.c17 A.a18 A.c18 A.a19 A.c19)) (HB4.out.to ii) _ Tryz.underlying88 rfl kr kr ?_))
 refine(bq6 (A:=⟨A.a9,A.c9,A.a10,A.c10,A.a11,A.c11,A.a12,A.c12,A.a13,A.c13,A.a14,A.c14,A.a15,A.c15,A.a16,A.c16,A.a17,A.c17,A.a18,A.c18,A.a19,A.c19⟩) (x:=x.Space) ⟨(HFF.out.o9.fr FA4.out (Rng.out (.inr (by omega)))),(HFF.out.o10.fr FA4.out (Rng.out (.inr (by omega)))),(HFF.out.o11.fr FA4.out (Rng.out (.inr (by omega)))),(HFF.out.o12.fr FA4.out (Rng.out (.inr (by omega)))),(HFF.out.o13.fr FA4.out (Rng.out (.inr (by omega)))),(HFF.out.o14.fr FA4.out (Rng.out (.inr (by omega)))),(HFF.out.o15.fr FA4.out (Rng.out (.inr (by omega)))),(HFF.out.o16.fr FA4.out (Rng.out (.inr (by omega)))),(HFF.out.o17.fr FA4.out (Rng.out (.inr (by omega)))),(HFF.out.o18.elim fun r hr=>⟨r,hr.1,hr.2.fr FA4.out (fun _=>Rng.out (.inr (by omega)))⟩),(HFF.out.o19.fr FA4.out (Rng.out (.inr (by omega)))),HOK.out.2.2.2.2.2.2.2.1⟩ (HFR.out.mono FA4.out.size) (Nat.le_trans hB FA4.out.size) (by omega) (by omega) (by omega) (by omega)).mono ?_
 intro e4 w5 hq4
 obtain⟨he,hi,F1⟩:=hq4
 obtain⟨K5,hK⟩:∃ K:Int,K=ak1 x.Space (K4):=⟨_,rfl⟩
 obtain rfl:e4=.returned (.int .i64 K5):=he.trans (by rw[hK]<;>rfl)
 have hb:=aD0 x.Space K4
 have hK5:K4≤K5∧K5≤K4+5*Enc.tot x.Space:=by omega
 have HK5:=lH hK;have HI4:=lH hi
 have HG4:=lH (show Fr B χ (Rng (o+9) (o+20)) _ w5 from F1)
 clear he hK hi F1 hb
 have HB5:=lH (HB4.out.frm HG4.out (by omega) hFB)
 have FA5:=lH (FA4.out.tr HG4.out (by omega) (by omega))
 go_wp2_with (first|(refine f8 rfl _ _ rfl w.heap.size 58 rfl (HB5.out.to ii) _ rfl _ Tryz.underlying30 rfl ?_))
 refine(ah9 (HFF.out.o20.fr FA5.out (Rng.out (.inr (by omega)))) (by omega) (by omega) (by omega)).mono ?_
 intro e5 w6 hq5
 obtain⟨he,hi,F1⟩:=hq5
 obtain⟨K6,hK⟩:∃ K:Int,K=K5+(x.Offered.length:Int)*((1:Nat):Int):=⟨_,rfl⟩
 obtain rfl:e5=.returned (.int .i64 K6):=he.trans (by rw[hK]<;>rfl)
 have hK6:K5≤K6∧K6≤K5+5*d7 x.Offered:=by omega
 have HK6:=lH hK;have HI5:=lH hi
 have HG5:=lH (show Fr B χ (Rng (o+20) (o+21)) _ w6 from F1.rng0)
 clear he hK hi F1
 have HB6:=lH (HB5.out.frm HG5.out (by omega) hFB)
 have FA6:=lH (FA5.out.tr HG5.out (by omega) (by omega))
 go_wp2_with (first|(refine f8 rfl _ _ rfl w.heap.size 59 rfl (HB6.out.to ii) _ rfl _ Tryz.underlying30 rfl ?_))
 refine(ah9 (HFF.out.o21.fr FA6.out (Rng.out (.inr (by omega)))) (by omega) (by omega) (by omega)).mono ?_
 intro e6 w7 hq6
 obtain⟨he,hi,F1⟩:=hq6
 obtain⟨K7,hK⟩:∃ K:Int,K=K6+(x.Took.length:Int)*((1:Nat):Int):=⟨_,rfl⟩
 obtain rfl:e6=.returned (.int .i64 K7):=he.trans (by rw[hK]<;>rfl)
 have hK7:K6≤K7∧K7≤K6+5*d7 x.Took:=by omega
 have HK7:=lH hK;have HI6:=lH hi
 have HG6:=lH (show Fr B χ (Rng (o+21) (o+22)) _ w7 from F1.rng0)
 clear he hK hi F1
 have HB7:=lH (HB6.out.frm HG6.out (by omega) hFB)
 have FA7:=lH (FA6.out.tr HG6.out (by omega) (by omega))
 go_wp2_with (fail)
 go_ret
 have FB7:=lH (show Fr B χ (Rng (o+22) (o+22)) w7 w7 from Fr.refl _ _ _ _)
 have FB6:=lH (HG6.out.tr FB7.out (by omega) (by omega))
 have FB5:=lH (HG5.out.tr FB6.out (by omega) (by omega))
 have FB4:=lH (HG4.out.tr FB5.out (by omega) (by omega))
 have FB3:=lH (HG3.out.tr FB4.out (by omega) (by omega))
 have FB2:=lH (HG2.out.tr FB3.out (by omega) (by omega))
 have FB1:=lH (HG1.out.tr FB2.out (by omega) (by omega))
 have E1:=HK1.out;clear HK1;subst E1
 have E2:=HK2.out;clear HK2;subst E2
 have E3:=HK3.out;clear HK3;subst E3
 have E4:=HK4.out;clear HK4;subst E4
 have E5:=HK5.out;clear HK5;subst E5
 have E6:=HK6.out;clear HK6;subst E6
 have E7:=HK7.out;clear HK7;subst E7
 exact⟨rfl,⟨HI0.out.fr FB1.out (Rng.out (.inl (by omega))),HI1.out.fr FB2.out (Rng.out (.inl (by omega))),HI2.out.fr FB3.out (Rng.out (.inl (by omega))),HI3.out.o0.fr FB4.out (Rng.out (.inl (by omega))),HI3.out.o1.fr FB4.out (Rng.out (.inl (by omega))),HI3.out.o2.fr FB4.out (Rng.out (.inl (by omega))),HI3.out.o3.fr FB4.out (Rng.out (.inl (by omega))),HI3.out.o4.elim fun r hr=>⟨r,hr.1,hr.2.fr FB4.out (fun _=>Rng.out (.inl (by omega)))⟩,HI3.out.o5.fr FB4.out (Rng.out (.inl (by omega))),HI4.out.o0.fr FB5.out (Rng.out (.inl (by omega))),HI4.out.o1.fr FB5.out (Rng.out (.inl (by omega))),HI4.out.o2.fr FB5.out (Rng.out (.inl (by omega))),HI4.out.o3.fr FB5.out (Rng.out (.inl (by omega))),HI4.out.o4.fr FB5.out (Rng.out (.inl (by omega))),HI4.out.o5.fr FB5.out (Rng.out (.inl (by omega))),HI4.out.o6.fr FB5.out (Rng.out (.inl (by omega))),HI4.out.o7.fr FB5.out (Rng.out (.inl (by omega))),HI4.out.o8.fr FB5.out (Rng.out (.inl (by omega))),HI4.out.o9.elim fun r hr=>⟨r,hr.1,hr.2.fr FB5.out (fun _=>Rng.out (.inl (by omega)))⟩,HI4.out.o10.fr FB5.out (Rng.out (.inl (by omega))),HI5.out.fr FB6.out (Rng.out (.inl (by omega))),HI6.out.fr FB7.out (Rng.out (.inl (by omega))),HOK.out⟩,FA7.out⟩
