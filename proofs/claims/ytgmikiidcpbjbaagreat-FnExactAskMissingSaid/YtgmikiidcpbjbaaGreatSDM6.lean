/- The contracts of the size and the equality of a mission. No condition but on sizes. -/
import Derived.Test.YtgmikiidcpbjbaaGreatSM14
namespace Go.Proofs.YtgmikiidcpbjbaaGreat
set_option linter.unusedVariables false
open Go.ChangeShapes Go.WideShapes Go.ChangeAt Go.RowKit
set_option maxRecDepth 100000 in
set_option maxHeartbeats 2000000 in
theorem d_lszMission{B:Nat}{vs:List Value}{x:TMission}{left:Int}{w:World}(h:Enc.Rd B w vs x)(hl:0≤left)(hl2:left≤1048576) :
  Calls Tryz.prog 15 #[.agg vs.toArray,.int .i64 left] w (Gives w (.int .i64 (szD left (Enc.tot x)))):=by
 obtain⟨A,rfl,F⟩:=h
 have n0:=totL_nonneg x.Plan
 have n1:=totL_nonneg x.Ups
 have n2:=totL_nonneg x.Downs
 have n3:=Enc.tot_nonneg x.Ground
 have n4:=Enc.tot_nonneg x.Space
 have n5:=totL_nonneg x.Offered
 have n6:=totL_nonneg x.Took
 have HOK:=lH F.ok
 have htot:Enc.tot x=totL x.Plan+totL x.Ups+totL x.Downs+Enc.tot x.Ground+Enc.tot x.Space+totL x.Offered+totL x.Took:=rfl
 have HTOT:=lH htot;clear htot
 have HB:=lH (Held.new w (dMission x A) 60 w.heap.size rfl)
 have HFF:=lH F;clear F
 go_enter Tryz.func15,Tryz.ntmps15
 go_wp2_with (first|((with_reducible refine wp_region_later (by kernel_rfl) (by kernel_rfl) ?_);(repeat(first|go_big_quiet_step (first|fail)));refine wpQuiet_nil ?_;rintro _ ⟨x,rfl⟩))
 refine(d_lszSlotS (HFF.out.q0.keep inferInstance) (by omega) (by omega)).mono ?_
 rintro _ _ ⟨rfl,y0,rfl⟩
 by_cases h0:left - totL x.Plan<0
 ·have HV:=lH (show szD left (Enc.tot x)=-1 from szD_neg (by rw[HTOT.out];omega))
  rw[szD_neg h0]
  go_wp2_with (first|((with_reducible refine wp_region_later (by kernel_rfl) (by kernel_rfl) ?_);(repeat(first|go_big_quiet_step (first|fail)));refine wpQuiet_nil ?_;rintro _ ⟨x,rfl⟩))
  go_ret
  exact Gives.mk (by rw[HV.out];rfl)
 rw[szD_pos h0]
 go_wp2_with (first|((with_reducible refine wp_region_later (by kernel_rfl) (by kernel_rfl) ?_);(repeat(first|go_big_quiet_step (first|fail)));refine wpQuiet_nil ?_;rintro _ ⟨x,rfl⟩))
 refine(d_lszFlightS (HFF.out.q1.keep inferInstance) (by omega) (by omega)).mono ?_
 rintro _ _ ⟨rfl,y1,rfl⟩
 by_cases h1:left - totL x.Plan - totL x.Ups<0
 ·have HV:=lH (show szD left (Enc.tot x)=-1 from szD_neg (by rw[HTOT.out];omega))
  rw[szD_neg h1]
  go_wp2_with (first|((with_reducible refine wp_region_later (by kernel_rfl) (by kernel_rfl) ?_);(repeat(first|go_big_quiet_step (first|fail)));refine wpQuiet_nil ?_;rintro _ ⟨x,rfl⟩))
  go_ret
  exact Gives.mk (by rw[HV.out];rfl)
 rw[szD_pos h1]
 go_wp2_with (first|((with_reducible refine wp_region_later (by kernel_rfl) (by kernel_rfl) ?_);(repeat(first|go_big_quiet_step (first|fail)));refine wpQuiet_nil ?_;rintro _ ⟨x,rfl⟩))
 refine(d_lszFlightS (HFF.out.q2.keep inferInstance) (by omega) (by omega)).mono ?_
 rintro _ _ ⟨rfl,y2,rfl⟩
 by_cases h2:left - totL x.Plan - totL x.Ups - totL x.Downs<0
 ·have HV:=lH (show szD left (Enc.tot x)=-1 from szD_neg (by rw[HTOT.out];omega))
  rw[szD_neg h2]
  go_wp2_with (first|((with_reducible refine wp_region_later (by kernel_rfl) (by kernel_rfl) ?_);(repeat(first|go_big_quiet_step (first|fail)));refine wpQuiet_nil ?_;rintro _ ⟨x,rfl⟩))
  go_ret
  exact Gives.mk (by rw[HV.out];rfl)
 rw[szD_pos h2]
 go_wp2_with (first|((with_reducible refine wp_region_later (by kernel_rfl) (by kernel_rfl) ?_);(repeat(first|go_big_quiet_step (first|fail)));refine wpQuiet_nil ?_;rintro _ ⟨x,rfl⟩)|(refine stepLoad rfl _ _ rfl (w.heap.size) 16 rfl (row:=(cGround x.Ground A.a3 A.c3 A.a4 A.c4 A.a5 A.c5 A.a6 A.c6 A.a7 A.c7 A.a8 A.c8)) (HB.out.to inferInstance) _ Tryz.underlying43 rfl (by kernel_rfl) (by kernel_rfl) ?_))
 refine(d_lszGround (x:=x.Ground) ⟨⟨A.a3,A.c3,A.a4,A.c4,A.a5,A.c5,A.a6,A.c6,A.a7,A.c7,A.a8,A.c8⟩,rfl,⟨HFF.out.q3.keep inferInstance,HFF.out.q4.keep inferInstance,HFF.out.q5.keep inferInstance,HFF.out.q6.keep inferInstance,HFF.out.q7.keep inferInstance,HFF.out.q8.keep inferInstance,HOK.out.2.2.2.2.2.2.1⟩⟩ (by omega) (by omega)).mono ?_
 rintro _ _ ⟨rfl,y3,rfl⟩
 by_cases h3:left - totL x.Plan - totL x.Ups - totL x.Downs - Enc.tot x.Ground<0
 ·have HV:=lH (show szD left (Enc.tot x)=-1 from szD_neg (by rw[HTOT.out];omega))
  rw[szD_neg h3]
  go_wp2_with (first|((with_reducible refine wp_region_later (by kernel_rfl) (by kernel_rfl) ?_);(repeat(first|go_big_quiet_step (first|fail)));refine wpQuiet_nil ?_;rintro _ ⟨x,rfl⟩))
  go_ret
  exact Gives.mk (by rw[HV.out];rfl)
 rw[szD_pos h3]
 go_wp2_with (first|((with_reducible refine wp_region_later (by kernel_rfl) (by kernel_rfl) ?_);(repeat(first|go_big_quiet_step (first|fail)));refine wpQuiet_nil ?_;rintro _ ⟨x,rfl⟩)|(refine stepLoad rfl _ _ rfl (w.heap.size) 33 rfl (row:=(cSpace x.Space A.a9 A.c9 A.a10 A.c10 A.a11 A.c11 A.a12 A.c12 A.a13 A.c13 A.a14 A.c14 A.a15 A.c15 A.a16 A.c16 A.a17 A.c17 A.a18 A.c18 A.a19 A.c19)) (HB.out.to inferInstance) _ Tryz.underlying58 rfl (by kernel_rfl) (by kernel_rfl) ?_))
 refine(d_lszSpace (x:=x.Space) ⟨⟨A.a9,A.c9,A.a10,A.c10,A.a11,A.c11,A.a12,A.c12,A.a13,A.c13,A.a14,A.c14,A.a15,A.c15,A.a16,A.c16,A.a17,A.c17,A.a18,A.c18,A.a19,A.c19⟩,rfl,⟨HFF.out.q9.keep inferInstance,HFF.out.q10.keep inferInstance,HFF.out.q11.keep inferInstance,HFF.out.q12.keep inferInstance,HFF.out.q13.keep inferInstance,HFF.out.q14.keep inferInstance,HFF.out.q15.keep inferInstance,HFF.out.q16.keep inferInstance,HFF.out.q17.keep inferInstance,HFF.out.q18.keep inferInstance,HFF.out.q19.keep inferInstance,HOK.out.2.2.2.2.2.2.2.1⟩⟩ (by omega) (by omega)).mono ?_
 rintro _ _ ⟨rfl,y4,rfl⟩
 by_cases h4:left - totL x.Plan - totL x.Ups - totL x.Downs - Enc.tot x.Ground - Enc.tot x.Space<0
 ·have HV:=lH (show szD left (Enc.tot x)=-1 from szD_neg (by rw[HTOT.out];omega))
  rw[szD_neg h4]
  go_wp2_with (first|((with_reducible refine wp_region_later (by kernel_rfl) (by kernel_rfl) ?_);(repeat(first|go_big_quiet_step (first|fail)));refine wpQuiet_nil ?_;rintro _ ⟨x,rfl⟩))
  go_ret
  exact Gives.mk (by rw[HV.out];rfl)
 rw[szD_pos h4]
 go_wp2_with (first|((with_reducible refine wp_region_later (by kernel_rfl) (by kernel_rfl) ?_);(repeat(first|go_big_quiet_step (first|fail)));refine wpQuiet_nil ?_;rintro _ ⟨x,rfl⟩))
 refine(d_lszStringS (HFF.out.q20.keep inferInstance) (by omega) (by omega)).mono ?_
 rintro _ _ ⟨rfl,y5,rfl⟩
 by_cases h5:left - totL x.Plan - totL x.Ups - totL x.Downs - Enc.tot x.Ground - Enc.tot x.Space - totL x.Offered<0
 ·have HV:=lH (show szD left (Enc.tot x)=-1 from szD_neg (by rw[HTOT.out];omega))
  rw[szD_neg h5]
  go_wp2_with (first|((with_reducible refine wp_region_later (by kernel_rfl) (by kernel_rfl) ?_);(repeat(first|go_big_quiet_step (first|fail)));refine wpQuiet_nil ?_;rintro _ ⟨x,rfl⟩))
  go_ret
  exact Gives.mk (by rw[HV.out];rfl)
 rw[szD_pos h5]
 go_wp2_with (first|((with_reducible refine wp_region_later (by kernel_rfl) (by kernel_rfl) ?_);(repeat(first|go_big_quiet_step (first|fail)));refine wpQuiet_nil ?_;rintro _ ⟨x,rfl⟩))
 refine(d_lszStringS (HFF.out.q21.keep inferInstance) (by omega) (by omega)).mono ?_
 rintro _ _ ⟨rfl,y6,rfl⟩
 by_cases h6:left - totL x.Plan - totL x.Ups - totL x.Downs - Enc.tot x.Ground - Enc.tot x.Space - totL x.Offered - totL x.Took<0
 ·have HV:=lH (show szD left (Enc.tot x)=-1 from szD_neg (by rw[HTOT.out];omega))
  rw[szD_neg h6]
  go_wp2_with (first|((with_reducible refine wp_region_later (by kernel_rfl) (by kernel_rfl) ?_);(repeat(first|go_big_quiet_step (first|fail)));refine wpQuiet_nil ?_;rintro _ ⟨x,rfl⟩))
  go_ret
  exact Gives.mk (by rw[HV.out];rfl)
 rw[szD_pos h6]
 have HV:=lH (show szD left (Enc.tot x)=left - totL x.Plan - totL x.Ups - totL x.Downs - Enc.tot x.Ground - Enc.tot x.Space - totL x.Offered - totL x.Took by rw[szD_pos (by rw[HTOT.out];omega),HTOT.out]<;>omega)
 go_wp2_with (first|((with_reducible refine wp_region_later (by kernel_rfl) (by kernel_rfl) ?_);(repeat(first|go_big_quiet_step (first|fail)));refine wpQuiet_nil ?_;rintro _ ⟨x,rfl⟩))
 go_ret
 exact Gives.mk (by rw[HV.out];rfl)
set_option maxRecDepth 100000 in
set_option maxHeartbeats 2000000 in
theorem d_leqMission{B B2:Nat}{vs vs2:List Value}{x:TMission}{w:World}(h:Enc.Rd B w vs x)(h2:Enc.Rd B2 w vs2 x) :
  Calls Tryz.prog 19 #[.agg vs.toArray,.agg vs2.toArray] w (Gives w (.bool true)):=by
 obtain⟨A,rfl,F⟩:=h
 obtain⟨mA,rfl,mF⟩:=h2
 have HOK:=lH F.ok
 have HB:=lH ((Held.new w (dMission x A) 90 w.heap.size rfl).to (inferInstance:Grows _ ((w.alloc (.cells (dMission x A).toArray 90)).alloc (.cells (dMission x mA).toArray 90))))
 have HC:=lH (Held.new (w.alloc (.cells (dMission x A).toArray 90)) (dMission x mA) 90 (w.heap.size+1) (by simp))
 have HFF:=lH F;clear F
 have HMF:=lH mF;clear mF
 go_enter Tryz.func19,Tryz.ntmps19
 go_wp2_with (first|((with_reducible refine wp_region_later (by kernel_rfl) (by kernel_rfl) ?_);(repeat(first|go_big_quiet_step (first|fail)));refine wpQuiet_nil ?_;rintro _ ⟨x,rfl⟩)|(refine stepLoad rfl _ _ rfl (w.heap.size) 2 rfl (row:=[.int .i64 x.Drift.Rate,.int .i64 x.Drift.Offset]) (HB.out.to inferInstance) _ Tryz.underlying62 rfl (by kernel_rfl) (by kernel_rfl) ?_)|(refine stepLoad rfl _ _ rfl (w.heap.size+1) 2 rfl (row:=[.int .i64 x.Drift.Rate,.int .i64 x.Drift.Offset]) (HC.out.to inferInstance) _ Tryz.underlying62 rfl (by kernel_rfl) (by kernel_rfl) ?_))
 refine(d_leqDrift (B:=0) (B2:=0) (x:=x.Drift) ⟨rfl,HOK.out.2.2.1⟩ ⟨rfl,HOK.out.2.2.1⟩).mono ?_
 rintro _ _ ⟨rfl,y0,rfl⟩
 go_wp2_with (first|((with_reducible refine wp_region_later (by kernel_rfl) (by kernel_rfl) ?_);(repeat(first|go_big_quiet_step (first|fail)));refine wpQuiet_nil ?_;rintro _ ⟨x,rfl⟩)|(refine stepLoad rfl _ _ rfl (w.heap.size) 4 rfl (row:=[.int .i64 x.Orbit.Period,.int .i64 x.Orbit.Start,.int .i64 x.Orbit.Length]) (HB.out.to inferInstance) _ Tryz.underlying63 rfl (by kernel_rfl) (by kernel_rfl) ?_)|(refine stepLoad rfl _ _ rfl (w.heap.size+1) 4 rfl (row:=[.int .i64 x.Orbit.Period,.int .i64 x.Orbit.Start,.int .i64 x.Orbit.Length]) (HC.out.to inferInstance) _ Tryz.underlying63 rfl (by kernel_rfl) (by kernel_rfl) ?_))
 refine(d_leqOrbit (B:=0) (B2:=0) (x:=x.Orbit) ⟨rfl,HOK.out.2.2.2.1⟩ ⟨rfl,HOK.out.2.2.2.1⟩).mono ?_
 rintro _ _ ⟨rfl,y1,rfl⟩
 go_wp2_with (first|((with_reducible refine wp_region_later (by kernel_rfl) (by kernel_rfl) ?_);(repeat(first|go_big_quiet_step (first|fail)));refine wpQuiet_nil ?_;rintro _ ⟨x,rfl⟩))
 refine(d_leqSlotS (HFF.out.q0.keep inferInstance) (HMF.out.q0.keep inferInstance)).mono ?_
 rintro _ _ ⟨rfl,y2,rfl⟩
 go_wp2_with (first|((with_reducible refine wp_region_later (by kernel_rfl) (by kernel_rfl) ?_);(repeat(first|go_big_quiet_step (first|fail)));refine wpQuiet_nil ?_;rintro _ ⟨x,rfl⟩)|(refine stepLoad rfl _ _ rfl (w.heap.size) 8 rfl (row:=[.int .i64 x.Up.Seed,.int .i64 x.Up.Burst,.int .i64 x.Up.Loss]) (HB.out.to inferInstance) _ Tryz.underlying65 rfl (by kernel_rfl) (by kernel_rfl) ?_)|(refine stepLoad rfl _ _ rfl (w.heap.size+1) 8 rfl (row:=[.int .i64 x.Up.Seed,.int .i64 x.Up.Burst,.int .i64 x.Up.Loss]) (HC.out.to inferInstance) _ Tryz.underlying65 rfl (by kernel_rfl) (by kernel_rfl) ?_))
 refine(d_leqChannel (B:=0) (B2:=0) (x:=x.Up) ⟨rfl,HOK.out.2.2.2.2.1⟩ ⟨rfl,HOK.out.2.2.2.2.1⟩).mono ?_
 rintro _ _ ⟨rfl,y3,rfl⟩
 go_wp2_with (first|((with_reducible refine wp_region_later (by kernel_rfl) (by kernel_rfl) ?_);(repeat(first|go_big_quiet_step (first|fail)));refine wpQuiet_nil ?_;rintro _ ⟨x,rfl⟩)|(refine stepLoad rfl _ _ rfl (w.heap.size) 11 rfl (row:=[.int .i64 x.Down.Seed,.int .i64 x.Down.Burst,.int .i64 x.Down.Loss]) (HB.out.to inferInstance) _ Tryz.underlying65 rfl (by kernel_rfl) (by kernel_rfl) ?_)|(refine stepLoad rfl _ _ rfl (w.heap.size+1) 11 rfl (row:=[.int .i64 x.Down.Seed,.int .i64 x.Down.Burst,.int .i64 x.Down.Loss]) (HC.out.to inferInstance) _ Tryz.underlying65 rfl (by kernel_rfl) (by kernel_rfl) ?_))
 refine(d_leqChannel (B:=0) (B2:=0) (x:=x.Down) ⟨rfl,HOK.out.2.2.2.2.2.1⟩ ⟨rfl,HOK.out.2.2.2.2.2.1⟩).mono ?_
 rintro _ _ ⟨rfl,y4,rfl⟩
 go_wp2_with (first|((with_reducible refine wp_region_later (by kernel_rfl) (by kernel_rfl) ?_);(repeat(first|go_big_quiet_step (first|fail)));refine wpQuiet_nil ?_;rintro _ ⟨x,rfl⟩))
 refine(d_leqFlightS (HFF.out.q1.keep inferInstance) (HMF.out.q1.keep inferInstance)).mono ?_
 rintro _ _ ⟨rfl,y5,rfl⟩
 go_wp2_with (first|((with_reducible refine wp_region_later (by kernel_rfl) (by kernel_rfl) ?_);(repeat(first|go_big_quiet_step (first|fail)));refine wpQuiet_nil ?_;rintro _ ⟨x,rfl⟩))
 refine(d_leqFlightS (HFF.out.q2.keep inferInstance) (HMF.out.q2.keep inferInstance)).mono ?_
 rintro _ _ ⟨rfl,y6,rfl⟩
 go_wp2_with (first|((with_reducible refine wp_region_later (by kernel_rfl) (by kernel_rfl) ?_);(repeat(first|go_big_quiet_step (first|fail)));refine wpQuiet_nil ?_;rintro _ ⟨x,rfl⟩)|(refine stepLoad rfl _ _ rfl (w.heap.size) 16 rfl (row:=(cGround x.Ground A.a3 A.c3 A.a4 A.c4 A.a5 A.c5 A.a6 A.c6 A.a7 A.c7 A.a8 A.c8)) (HB.out.to inferInstance) _ Tryz.underlying76 rfl (by kernel_rfl) (by kernel_rfl) ?_)|(refine stepLoad rfl _ _ rfl (w.heap.size+1) 16 rfl (row:=(cGround x.Ground mA.a3 mA.c3 mA.a4 mA.c4 mA.a5 mA.c5 mA.a6 mA.c6 mA.a7 mA.c7 mA.a8 mA.c8)) (HC.out.to inferInstance) _ Tryz.underlying76 rfl (by kernel_rfl) (by kernel_rfl) ?_))
 refine(d_leqGround (x:=x.Ground) ⟨⟨A.a3,A.c3,A.a4,A.c4,A.a5,A.c5,A.a6,A.c6,A.a7,A.c7,A.a8,A.c8⟩,rfl,⟨HFF.out.q3.keep inferInstance,HFF.out.q4.keep inferInstance,HFF.out.q5.keep inferInstance,HFF.out.q6.keep inferInstance,HFF.out.q7.keep inferInstance,HFF.out.q8.keep inferInstance,HOK.out.2.2.2.2.2.2.1⟩⟩ ⟨⟨mA.a3,mA.c3,mA.a4,mA.c4,mA.a5,mA.c5,mA.a6,mA.c6,mA.a7,mA.c7,mA.a8,mA.c8⟩,rfl,⟨HMF.out.q3.keep inferInstance,HMF.out.q4.keep inferInstance,HMF.out.q5.keep inferInstance,HMF.out.q6.keep inferInstance,HMF.out.q7.keep inferInstance,HMF.out.q8.keep inferInstance,HOK.out.2.2.2.2.2.2.1⟩⟩).mono ?_
 rintro _ _ ⟨rfl,y7,rfl⟩
 go_wp2_with (first|((with_reducible refine wp_region_later (by kernel_rfl) (by kernel_rfl) ?_);(repeat(first|go_big_quiet_step (first|fail)));refine wpQuiet_nil ?_;rintro _ ⟨x,rfl⟩)|(refine stepLoad rfl _ _ rfl (w.heap.size) 33 rfl (row:=(cSpace x.Space A.a9 A.c9 A.a10 A.c10 A.a11 A.c11 A.a12 A.c12 A.a13 A.c13 A.a14 A.c14 A.a15 A.c15 A.a16 A.c16 A.a17 A.c17 A.a18 A.c18 A.a19 A.c19)) (HB.out.to inferInstance) _ Tryz.underlying88 rfl (by kernel_rfl) (by kernel_rfl) ?_)|(refine stepLoad rfl _ _ rfl (w.heap.size+1) 33 rfl (row:=(cSpace x.Space mA.a9 mA.c9 mA.a10 mA.c10 mA.a11 mA.c11 mA.a12 mA.c12 mA.a13 mA.c13 mA.a14 mA.c14 mA.a15 mA.c15 mA.a16 mA.c16 mA.a17 mA.c17 mA.a18 mA.c18 mA.a19 mA.c19)) (HC.out.to inferInstance) _ Tryz.underlying88 rfl (by kernel_rfl) (by kernel_rfl) ?_))
 refine(d_leqSpace (x:=x.Space) ⟨⟨A.a9,A.c9,A.a10,A.c10,A.a11,A.c11,A.a12,A.c12,A.a13,A.c13,A.a14,A.c14,A.a15,A.c15,A.a16,A.c16,A.a17,A.c17,A.a18,A.c18,A.a19,A.c19⟩,rfl,⟨HFF.out.q9.keep inferInstance,HFF.out.q10.keep inferInstance,HFF.out.q11.keep inferInstance,HFF.out.q12.keep inferInstance,HFF.out.q13.keep inferInstance,HFF.out.q14.keep inferInstance,HFF.out.q15.keep inferInstance,HFF.out.q16.keep inferInstance,HFF.out.q17.keep inferInstance,HFF.out.q18.keep inferInstance,HFF.out.q19.keep inferInstance,HOK.out.2.2.2.2.2.2.2.1⟩⟩ ⟨⟨mA.a9,mA.c9,mA.a10,mA.c10,mA.a11,mA.c11,mA.a12,mA.c12,mA.a13,mA.c13,mA.a14,mA.c14,mA.a15,mA.c15,mA.a16,mA.c16,mA.a17,mA.c17,mA.a18,mA.c18,mA.a19,mA.c19⟩,rfl,⟨HMF.out.q9.keep inferInstance,HMF.out.q10.keep inferInstance,HMF.out.q11.keep inferInstance,HMF.out.q12.keep inferInstance,HMF.out.q13.keep inferInstance,HMF.out.q14.keep inferInstance,HMF.out.q15.keep inferInstance,HMF.out.q16.keep inferInstance,HMF.out.q17.keep inferInstance,HMF.out.q18.keep inferInstance,HMF.out.q19.keep inferInstance,HOK.out.2.2.2.2.2.2.2.1⟩⟩).mono ?_
 rintro _ _ ⟨rfl,y8,rfl⟩
 go_wp2_with (first|((with_reducible refine wp_region_later (by kernel_rfl) (by kernel_rfl) ?_);(repeat(first|go_big_quiet_step (first|fail)));refine wpQuiet_nil ?_;rintro _ ⟨x,rfl⟩))
 refine(d_leqStringS (HFF.out.q20.keep inferInstance) (HMF.out.q20.keep inferInstance)).mono ?_
 rintro _ _ ⟨rfl,y9,rfl⟩
 go_wp2_with (first|((with_reducible refine wp_region_later (by kernel_rfl) (by kernel_rfl) ?_);(repeat(first|go_big_quiet_step (first|fail)));refine wpQuiet_nil ?_;rintro _ ⟨x,rfl⟩))
 refine(d_leqStringS (HFF.out.q21.keep inferInstance) (HMF.out.q21.keep inferInstance)).mono ?_
 rintro _ _ ⟨rfl,y10,rfl⟩
 go_wp2_with (first|((with_reducible refine wp_region_later (by kernel_rfl) (by kernel_rfl) ?_);(repeat(first|go_big_quiet_step (first|fail)));refine wpQuiet_nil ?_;rintro _ ⟨x,rfl⟩))
 go_ret
 exact Gives.mk rfl
end Go.Proofs.YtgmikiidcpbjbaaGreat
