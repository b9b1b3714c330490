/- The contracts of the size and the equality of a mission. No condition but on sizes. -/
import Derived.Test.YtbaffippdifbpaaGreatMM21
namespace Go.Proofs.YtbaffippdifbpaaGreat
set_option linter.unusedVariables false
open Go.ChangeShapes Go.WideShapes Go.ChangeAt Go.RowKit
set_option maxRecDepth 100000 in
set_option maxHeartbeats 2000000 in
theorem d_leqMission{B B2:Nat}{vs vs2:List Value}{x:TMission}{w:World}(h:Enc.Rd B w vs x)(h2:Enc.Rd B2 w vs2 x) :
  Calls Tryz.prog 24 #[.agg vs.toArray,.agg vs2.toArray] w (Gives w (.bool true)):=by
 obtain⟨A,rfl,F⟩:=h
 obtain⟨mA,rfl,mF⟩:=h2
 have HOK:=lH F.ok
 have HB:=lH ((Held.new w (cMission x A.a0 A.c0 A.a1 A.c1 A.a2 A.c2 A.a3 A.c3 A.a4 A.c4 A.a5 A.c5 A.a6 A.c6 A.a7 A.c7 A.a8 A.c8 A.a9 A.c9 A.a10 A.c10 A.a11 A.c11 A.a12 A.c12 A.a13 A.c13 A.a14 A.c14 A.a15 A.c15 A.a16 A.c16 A.a17 A.c17 A.a18 A.c18 A.a19 A.c19 A.a20 A.c20 A.a21 A.c21) 62 w.heap.size rfl).to (inferInstance:Grows _ ((w.alloc (.cells (cMission x A.a0 A.c0 A.a1 A.c1 A.a2 A.c2 A.a3 A.c3 A.a4 A.c4 A.a5 A.c5 A.a6 A.c6 A.a7 A.c7 A.a8 A.c8 A.a9 A.c9 A.a10 A.c10 A.a11 A.c11 A.a12 A.c12 A.a13 A.c13 A.a14 A.c14 A.a15 A.c15 A.a16 A.c16 A.a17 A.c17 A.a18 A.c18 A.a19 A.c19 A.a20 A.c20 A.a21 A.c21).toArray 62)).alloc (.cells (cMission x mA.a0 mA.c0 mA.a1 mA.c1 mA.a2 mA.c2 mA.a3 mA.c3 mA.a4 mA.c4 mA.a5 mA.c5 mA.a6 mA.c6 mA.a7 mA.c7 mA.a8 mA.c8 mA.a9 mA.c9 mA.a10 mA.c10 mA.a11 mA.c11 mA.a12 mA.c12 mA.a13 mA.c13 mA.a14 mA.c14 mA.a15 mA.c15 mA.a16 mA.c16 mA.a17 mA.c17 mA.a18 mA.c18 mA.a19 mA.c19 mA.a20 mA.c20 mA.a21 mA.c21).toArray 62))))
 have HC:=lH (Held.new (w.alloc (.cells (cMission x A.a0 A.c0 A.a1 A.c1 A.a2 A.c2 A.a3 A.c3 A.a4 A.c4 A.a5 A.c5 A.a6 A.c6 A.a7 A.c7 A.a8 A.c8 A.a9 A.c9 A.a10 A.c10 A.a11 A.c11 A.a12 A.c12 A.a13 A.c13 A.a14 A.c14 A.a15 A.c15 A.a16 A.c16 A.a17 A.c17 A.a18 A.c18 A.a19 A.c19 A.a20 A.c20 A.a21 A.c21).toArray 62)) (cMission x mA.a0 mA.c0 mA.a1 mA.c1 mA.a2 mA.c2 mA.a3 mA.c3 mA.a4 mA.c4 mA.a5 mA.c5 mA.a6 mA.c6 mA.a7 mA.c7 mA.a8 mA.c8 mA.a9 mA.c9 mA.a10 mA.c10 mA.a11 mA.c11 mA.a12 mA.c12 mA.a13 mA.c13 mA.a14 mA.c14 mA.a15 mA.c15 mA.a16 mA.c16 mA.a17 mA.c17 mA.a18 mA.c18 mA.a19 mA.c19 mA.a20 mA.c20 mA.a21 mA.c21) 62 (w.heap.size+1) (by simp))
 have HFF:=lH F;clear F
 have HMF:=lH mF;clear mF
 go_enter Tryz.func24,Tryz.ntmps24
 go_wp2_with (first|((with_reducible refine wp_region_later (by kernel_rfl) (by kernel_rfl) ?_);(repeat(first|go_big_quiet_step (first|fail)));refine wpQuiet_nil ?_;rintro _ ⟨x,rfl⟩)|(refine stepLoad rfl _ _ rfl (w.heap.size) 2 rfl (row:=[.int .i64 x.Drift.Rate,.int .i64 x.Drift.Offset]) (HB.out.to inferInstance) _ Tryz.underlying25 rfl (by kernel_rfl) (by kernel_rfl) ?_)|(refine stepLoad rfl _ _ rfl (w.heap.size+1) 2 rfl (row:=[.int .i64 x.Drift.Rate,.int .i64 x.Drift.Offset]) (HC.out.to inferInstance) _ Tryz.underlying25 rfl (by kernel_rfl) (by kernel_rfl) ?_))
 refine(d_leqDrift (B:=0) (B2:=0) (x:=x.Drift) ⟨rfl,HOK.out.2.2.1⟩ ⟨rfl,HOK.out.2.2.1⟩).mono ?_
 rintro _ _ ⟨rfl,y0,rfl⟩
 go_wp2_with (first|((with_reducible refine wp_region_later (by kernel_rfl) (by kernel_rfl) ?_);(repeat(first|go_big_quiet_step (first|fail)));refine wpQuiet_nil ?_;rintro _ ⟨x,rfl⟩)|(refine stepLoad rfl _ _ rfl (w.heap.size) 4 rfl (row:=[.int .i64 x.Orbit.Period,.int .i64 x.Orbit.Start,.int .i64 x.Orbit.Length]) (HB.out.to inferInstance) _ Tryz.underlying27 rfl (by kernel_rfl) (by kernel_rfl) ?_)|(refine stepLoad rfl _ _ rfl (w.heap.size+1) 4 rfl (row:=[.int .i64 x.Orbit.Period,.int .i64 x.Orbit.Start,.int .i64 x.Orbit.Length]) (HC.out.to inferInstance) _ Tryz.underlying27 rfl (by kernel_rfl) (by kernel_rfl) ?_))
 refine(d_leqOrbit (B:=0) (B2:=0) (x:=x.Orbit) ⟨rfl,HOK.out.2.2.2.1⟩ ⟨rfl,HOK.out.2.2.2.1⟩).mono ?_
 rintro _ _ ⟨rfl,y1,rfl⟩
 go_wp2_with (first|((with_reducible refine wp_region_later (by kernel_rfl) (by kernel_rfl) ?_);(repeat(first|go_big_quiet_step (first|fail)));refine wpQuiet_nil ?_;rintro _ ⟨x,rfl⟩))
 refine(d_leqSlotS (HFF.out.q0.keep inferInstance) (HMF.out.q0.keep inferInstance)).mono ?_
 rintro _ _ ⟨rfl,y2,rfl⟩
 go_wp2_with (first|((with_reducible refine wp_region_later (by kernel_rfl) (by kernel_rfl) ?_);(repeat(first|go_big_quiet_step (first|fail)));refine wpQuiet_nil ?_;rintro _ ⟨x,rfl⟩)|(refine stepLoad rfl _ _ rfl (w.heap.size) 8 rfl (row:=[.int .i64 x.Up.Seed,.int .i64 x.Up.Burst,.int .i64 x.Up.Loss]) (HB.out.to inferInstance) _ Tryz.underlying30 rfl (by kernel_rfl) (by kernel_rfl) ?_)|(refine stepLoad rfl _ _ rfl (w.heap.size+1) 8 rfl (row:=[.int .i64 x.Up.Seed,.int .i64 x.Up.Burst,.int .i64 x.Up.Loss]) (HC.out.to inferInstance) _ Tryz.underlying30 rfl (by kernel_rfl) (by kernel_rfl) ?_))
 refine(d_leqChannel (B:=0) (B2:=0) (x:=x.Up) ⟨rfl,HOK.out.2.2.2.2.1⟩ ⟨rfl,HOK.out.2.2.2.2.1⟩).mono ?_
 rintro _ _ ⟨rfl,y3,rfl⟩
 go_wp2_with (first|((with_reducible refine wp_region_later (by kernel_rfl) (by kernel_rfl) ?_);(repeat(first|go_big_quiet_step (first|fail)));refine wpQuiet_nil ?_;rintro _ ⟨x,rfl⟩)|(refine stepLoad rfl _ _ rfl (w.heap.size) 11 rfl (row:=[.int .i64 x.Down.Seed,.int .i64 x.Down.Burst,.int .i64 x.Down.Loss]) (HB.out.to inferInstance) _ Tryz.underlying30 rfl (by kernel_rfl) (by kernel_rfl) ?_)|(refine stepLoad rfl _ _ rfl (w.heap.size+1) 11 rfl (row:=[.int .i64 x.Down.Seed,.int .i64 x.Down.Burst,.int .i64 x.Down.Loss]) (HC.out.to inferInstance) _ Tryz.underlying30 rfl (by kernel_rfl) (by kernel_rfl) ?_))
 refine(d_leqChannel (B:=0) (B2:=0) (x:=x.Down) ⟨rfl,HOK.out.2.2.2.2.2.1⟩ ⟨rfl,HOK.out.2.2.2.2.2.1⟩).mono ?_
 rintro _ _ ⟨rfl,y4,rfl⟩
 go_wp2_with (first|((with_reducible refine wp_region_later (by kernel_rfl) (by kernel_rfl) ?_);(repeat(first|go_big_quiet_step (first|fail)));refine wpQuiet_nil ?_;rintro _ ⟨x,rfl⟩))
 refine(d_leqFlightS (HFF.out.q1.keep inferInstance) (HMF.out.q1.keep inferInstance)).mono ?_
 rintro _ _ ⟨rfl,y5,rfl⟩
 go_wp2_with (first|((with_reducible refine wp_region_later (by kernel_rfl) (by kernel_rfl) ?_);(repeat(first|go_big_quiet_step (first|fail)));refine wpQuiet_nil ?_;rintro _ ⟨x,rfl⟩))
 refine(d_leqFlightS (HFF.out.q2.keep inferInstance) (HMF.out.q2.keep inferInstance)).mono ?_
 rintro _ _ ⟨rfl,y6,rfl⟩
 go_wp2_with (first|((with_reducible refine wp_region_later (by kernel_rfl) (by kernel_rfl) ?_);(repeat(first|go_big_quiet_step (first|fail)));refine wpQuiet_nil ?_;rintro _ ⟨x,rfl⟩)|(refine stepLoad rfl _ _ rfl (w.heap.size) 16 rfl (row:=(cGround x.Ground A.a3 A.c3 A.a4 A.c4 A.a5 A.c5 A.a6 A.c6 A.a7 A.c7 A.a8 A.c8)) (HB.out.to inferInstance) _ Tryz.underlying45 rfl (by kernel_rfl) (by kernel_rfl) ?_)|(refine stepLoad rfl _ _ rfl (w.heap.size+1) 16 rfl (row:=(cGround x.Ground mA.a3 mA.c3 mA.a4 mA.c4 mA.a5 mA.c5 mA.a6 mA.c6 mA.a7 mA.c7 mA.a8 mA.c8)) (HC.out.to inferInstance) _ Tryz.underlying45 rfl (by kernel_rfl) (by kernel_rfl) ?_))
 refine(d_leqGround (x:=x.Ground) ⟨⟨A.a3,A.c3,A.a4,A.c4,A.a5,A.c5,A.a6,A.c6,A.a7,A.c7,A.a8,A.c8⟩,rfl,⟨HFF.out.q3.keep inferInstance,HFF.out.q4.keep inferInstance,HFF.out.q5.keep inferInstance,HFF.out.q6.keep inferInstance,HFF.out.q7.keep inferInstance,HFF.out.q8.keep inferInstance,HOK.out.2.2.2.2.2.2.1⟩⟩ ⟨⟨mA.a3,mA.c3,mA.a4,mA.c4,mA.a5,mA.c5,mA.a6,mA.c6,mA.a7,mA.c7,mA.a8,mA.c8⟩,rfl,⟨HMF.out.q3.keep inferInstance,HMF.out.q4.keep inferInstance,HMF.out.q5.keep inferInstance,HMF.out.q6.keep inferInstance,HMF.out.q7.keep inferInstance,HMF.out.q8.keep inferInstance,HOK.out.2.2.2.2.2.2.1⟩⟩).mono ?_
 rintro _ _ ⟨rfl,y7,rfl⟩
 go_wp2_with (first|((with_reducible refine wp_region_later (by kernel_rfl) (by kernel_rfl) ?_);(repeat(first|go_big_quiet_step (first|fail)));refine wpQuiet_nil ?_;rintro _ ⟨x,rfl⟩)|(refine stepLoad rfl _ _ rfl (w.heap.size) 33 rfl (row:=(cSpace x.Space A.a9 A.c9 A.a10 A.c10 A.a11 A.c11 A.a12 A.c12 A.a13 A.c13 A.a14 A.c14 A.a15 A.c15 A.a16 A.c16 A.a17 A.c17 A.a18 A.c18 A.a19 A.c19)) (HB.out.to inferInstance) _ Tryz.underlying60 rfl (by kernel_rfl) (by kernel_rfl) ?_)|(refine stepLoad rfl _ _ rfl (w.heap.size+1) 33 rfl (row:=(cSpace x.Space mA.a9 mA.c9 mA.a10 mA.c10 mA.a11 mA.c11 mA.a12 mA.c12 mA.a13 mA.c13 mA.a14 mA.c14 mA.a15 mA.c15 mA.a16 mA.c16 mA.a17 mA.c17 mA.a18 mA.c18 mA.a19 mA.c19)) (HC.out.to inferInstance) _ Tryz.underlying60 rfl (by kernel_rfl) (by kernel_rfl) ?_))
 refine(d_leqSpace (x:=x.Space) ⟨⟨A.a9,A.c9,A.a10,A.c10,A.a11,A.c11,A.a12,A.c12,A.a13,A.c13,A.a14,A.c14,A.a15,A.c15,A.a16,A.c16,A.a17,A.c17,A.a18,A.c18,A.a19,A.c19⟩,rfl,⟨HFF.out.q9.keep inferInstance,HFF.out.q10.keep inferInstance,HFF.out.q11.keep inferInstance,HFF.out.q12.keep inferInstance,HFF.out.q13.keep inferInstance,HFF.out.q14.keep inferInstance,HFF.out.q15.keep inferInstance,HFF.out.q16.keep inferInstance,HFF.out.q17.keep inferInstance,HFF.out.q18.keep inferInstance,HFF.out.q19.keep inferInstance,HOK.out.2.2.2.2.2.2.2.1⟩⟩ ⟨⟨mA.a9,mA.c9,mA.a10,mA.c10,mA.a11,mA.c11,mA.a12,mA.c12,mA.a13,mA.c13,mA.a14,mA.c14,mA.a15,mA.c15,mA.a16,mA.c16,mA.a17,mA.c17,mA.a18,mA.c18,mA.a19,mA.c19⟩,rfl,⟨HMF.out.q9.keep inferInstance,HMF.out.q10.keep inferInstance,HMF.out.q11.keep inferInstance,HMF.out.q12.keep inferInstance,HMF.out.q13.keep inferInstance,HMF.out.q14.keep inferInstance,HMF.out.q15.keep inferInstance,HMF.out.q16.keep inferInstance,HMF.out.q17.keep inferInstance,HMF.out.q18.keep inferInstance,HMF.out.q19.keep inferInstance,HOK.out.2.2.2.2.2.2.2.1⟩⟩).mono ?_
 rintro _ _ ⟨rfl,y8,rfl⟩
 go_wp2_with (first|((with_reducible refine wp_region_later (by kernel_rfl) (by kernel_rfl) ?_);(repeat(first|go_big_quiet_step (first|fail)));refine wpQuiet_nil ?_;rintro _ ⟨x,rfl⟩))
 refine(d_leqStringS (HFF.out.q20.keep inferInstance) (HMF.out.q20.keep inferInstance)).mono ?_
 rintro _ _ ⟨rfl,y9,rfl⟩
 go_wp2_with (first|((with_reducible refine wp_region_later (by kernel_rfl) (by kernel_rfl) ?_);(repeat(first|go_big_quiet_step (first|fail)));refine wpQuiet_nil ?_;rintro _ ⟨x,rfl⟩))
 refine(d_leqStringS (HFF.out.q21.keep inferInstance) (HMF.out.q21.keep inferInstance)).mono ?_
 rintro _ _ ⟨rfl,y10,rfl⟩
 go_wp2_with (first|((with_reducible refine wp_region_later (by kernel_rfl) (by kernel_rfl) ?_);(repeat(first|go_big_quiet_step (first|fail)));refine wpQuiet_nil ?_;rintro _ ⟨x,rfl⟩))
 go_ret
 exact Gives.mk rfl
end Go.Proofs.YtbaffippdifbpaaGreat
