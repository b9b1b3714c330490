/- The contract of MissionOk, the code's. No condition but on sizes. The contract of MissionOk, the reference's. No condition but on sizes. The contracts of MissionOk, both sides. No condition but on sizes. The contracts of LedgerOk, both sides. No condition but on sizes. What walks of functions from a mission to a mission share. No condition but on sizes. A mission's marks, and what is held. No condition but on sizes. EncodeOrder of both sides, and what GiveOrder comes to. No condition but on sizes. An offer more, in a mission of the call's own. No condition but on sizes. -/
import Derived.Test.YtbaffippdifbpaaGreatMM39
import Derived.Test.YtbaffippdifbpaaGreatMOkAi
import Derived.Test.YtbaffippdifbpaaGreatMOkAs
import Derived.Test.YtbaffippdifbpaaGreatMOkGs
import Derived.Test.YtbaffippdifbpaaGreatMM28
import Derived.Test.YtbaffippdifbpaaGreatMM31
import Derived.Test.YtbaffippdifbpaaGreatMM36
import Derived.Test.YtbaffippdifbpaaGreatMCopyMI
import Derived.Test.YtbaffippdifbpaaGreatMCopyMS
import Derived.Test.YtbaffippdifbpaaGreatMMk5
import Derived.Test.YtbaffippdifbpaaGreatMMk6
import Derived.Test.YtbaffippdifbpaaGreatMLto3
import Derived.Test.YtbaffippdifbpaaGreatMM8
import Derived.Test.YtbaffippdifbpaaGreatMM21
import Derived.Test.YtbaffippdifbpaaGreatMNB
namespace Go.Proofs.YtbaffippdifbpaaGreat
set_option linter.unusedVariables false
open Go.ChangeShapes Go.WideShapes Go.ChangeAt Go.RowKit
set_option maxRecDepth 100000 in
set_option maxHeartbeats 8000000 in
theorem c_iMissionOk{B:Nat}{vs:List Value}{m:TMission}{w:World}(h:Enc.Rd B w vs m)(ht:Enc.tot m≤100000000) :
  Calls Tryz.prog 55 #[.agg vs.toArray] w (Gives w (.bool (missionOk m))):=by
 obtain⟨A,hvs,F⟩:=h
 have M:=lH (mission_small ht)
 have FH:=lH F
 clear F ht
 obtain⟨n0,hn0⟩:∃ n,m.Plan.length=n:=⟨_,rfl⟩
 obtain⟨n20,hn20⟩:∃ n,m.Offered.length=n:=⟨_,rfl⟩
 obtain⟨n21,hn21⟩:∃ n,m.Took.length=n:=⟨_,rfl⟩
 rw[hn0,hn20,hn21]at hvs
 have hm0:n0≤100000000:=hn0▸M.out.m0
 have hm20:n20≤100000000:=hn20▸M.out.m20
 have hm21:n21≤100000000:=hn21▸M.out.m21
 have HN0:=lH hn0;have HN20:=lH hn20;have HN21:=lH hn21
 clear hn0 hn20 hn21
 have HB:=lH (Held.new w vs 62 w.heap.size rfl)
 have e0:=HB.out.cellG 0 (.int .i64 m.Time) (by rw[hvs];rfl)
 have e1:=HB.out.cellG 1 (.int .i64 m.Light) (by rw[hvs];rfl)
 have e7:=HB.out.cellG 7 (.slice A.a0 n0 A.c0) (by rw[hvs];rfl)
 have e14:=HB.out.cellG 14 (.slice A.a1 m.Ups.length A.c1) (by rw[hvs];rfl)
 have e15:=HB.out.cellG 15 (.slice A.a2 m.Downs.length A.c2) (by rw[hvs];rfl)
 have e58:=HB.out.cellG 58 (.slice A.a20 n20 A.c20) (by rw[hvs];rfl)
 have e59:=HB.out.cellG 59 (.slice A.a21 n21 A.c21) (by rw[hvs];rfl)
 have e60:=HB.out.cellG 60 (.int .i64 m.Bad) (by rw[hvs];rfl)
 have HVS:=lH hvs;clear hvs
 go_enter Tryz.func55,Tryz.ntmps55
 go_wp2_with (first|((with_reducible refine wp_region_later (by kernel_rfl) (by kernel_rfl) ?_);(repeat(first|go_big_quiet_step (first|fail)));refine wpQuiet_nil ?_;rintro _ ⟨x,rfl⟩))
 refine(c_ibetween).mono ?_
 rintro _ _ ⟨rfl,y1,rfl⟩
 cases g1:inB m.Time 0 1000000
 ·have HF:=lH (show missionOk m=false from missionOk_no1 g1)
  clear g1
  go_wp2_with (first|((with_reducible refine wp_region_later (by kernel_rfl) (by kernel_rfl) ?_);(repeat(first|go_big_quiet_step (first|fail)));refine wpQuiet_nil ?_;rintro _ ⟨x,rfl⟩))
  go_ret
  exact Gives.mk (by rw[HF.out];rfl)
 have T1:=lH g1;clear g1
 go_wp2_with (first|((with_reducible refine wp_region_later (by kernel_rfl) (by kernel_rfl) ?_);(repeat(first|go_big_quiet_step (first|fail)));refine wpQuiet_nil ?_;rintro _ ⟨x,rfl⟩))
 refine(c_ibetween).mono ?_
 rintro _ _ ⟨rfl,y2,rfl⟩
 cases g2:inB m.Light 0 50
 ·have HF:=lH (show missionOk m=false from missionOk_no2 g2)
  clear g2
  go_wp2_with (first|((with_reducible refine wp_region_later (by kernel_rfl) (by kernel_rfl) ?_);(repeat(first|go_big_quiet_step (first|fail)));refine wpQuiet_nil ?_;rintro _ ⟨x,rfl⟩))
  go_ret
  exact Gives.mk (by rw[HF.out];rfl)
 have T2:=lH g2;clear g2
 go_wp2_with (first|((with_reducible refine wp_region_later (by kernel_rfl) (by kernel_rfl) ?_);(repeat(first|go_big_quiet_step (first|fail)));refine wpQuiet_nil ?_;rintro _ ⟨x,rfl⟩))
 refine(c_ibetween).mono ?_
 rintro _ _ ⟨rfl,y3,rfl⟩
 cases g3:inB m.Bad 0 1000000
 ·have HF:=lH (show missionOk m=false from missionOk_no3 g3)
  clear g3
  go_wp2_with (first|((with_reducible refine wp_region_later (by kernel_rfl) (by kernel_rfl) ?_);(repeat(first|go_big_quiet_step (first|fail)));refine wpQuiet_nil ?_;rintro _ ⟨x,rfl⟩))
  go_ret
  exact Gives.mk (by rw[HF.out];rfl)
 have T3:=lH g3;clear g3
 go_wp2_with (first|((with_reducible refine wp_region_later (by kernel_rfl) (by kernel_rfl) ?_);(repeat(first|go_big_quiet_step (first|fail)));refine wpQuiet_nil ?_;rintro _ ⟨x,rfl⟩)|(refine stepLoadW (by first|kernel_rfl|go_simp) _ _ rfl w.heap.size 2 rfl (row:=[.int .i64 m.Drift.Rate,.int .i64 m.Drift.Offset]) (HB.out.to inferInstance) _ Tryz.underlying25 rfl (by kernel_rfl) (by rw[HVS.out];kernel_rfl) ?_)|(refine step_loadw (by first|kernel_rfl|go_simp) _ _ rfl w.heap.size 2 rfl (row:=[.int .i64 m.Drift.Rate,.int .i64 m.Drift.Offset]) (HB.out.to inferInstance) _ Tryz.underlying25 rfl (by kernel_rfl) (by rw[HVS.out];kernel_rfl) ?_)|(refine step_loadp _ _ rfl w.heap.size 2 rfl (row:=[.int .i64 m.Drift.Rate,.int .i64 m.Drift.Offset]) (HB.out.to inferInstance) _ Tryz.underlying25 rfl (by kernel_rfl) (by rw[HVS.out];kernel_rfl) ?_))
 refine(k_iDriftOk (x:=m.Drift)).mono ?_
 rintro _ _ ⟨rfl,y4,rfl⟩
 cases g4:driftOkT m.Drift
 ·have HF:=lH (show missionOk m=false from missionOk_no4 g4)
  clear g4
  go_wp2_with (first|((with_reducible refine wp_region_later (by kernel_rfl) (by kernel_rfl) ?_);(repeat(first|go_big_quiet_step (first|fail)));refine wpQuiet_nil ?_;rintro _ ⟨x,rfl⟩))
  go_ret
  exact Gives.mk (by rw[HF.out];rfl)
 have T4:=lH g4;clear g4
 go_wp2_with (first|((with_reducible refine wp_region_later (by kernel_rfl) (by kernel_rfl) ?_);(repeat(first|go_big_quiet_step (first|fail)));refine wpQuiet_nil ?_;rintro _ ⟨x,rfl⟩)|(refine stepLoadW (by first|kernel_rfl|go_simp) _ _ rfl w.heap.size 4 rfl (row:=[.int .i64 m.Orbit.Period,.int .i64 m.Orbit.Start,.int .i64 m.Orbit.Length]) (HB.out.to inferInstance) _ Tryz.underlying27 rfl (by kernel_rfl) (by rw[HVS.out];kernel_rfl) ?_)|(refine step_loadw (by first|kernel_rfl|go_simp) _ _ rfl w.heap.size 4 rfl (row:=[.int .i64 m.Orbit.Period,.int .i64 m.Orbit.Start,.int .i64 m.Orbit.Length]) (HB.out.to inferInstance) _ Tryz.underlying27 rfl (by kernel_rfl) (by rw[HVS.out];kernel_rfl) ?_)|(refine step_loadp _ _ rfl w.heap.size 4 rfl (row:=[.int .i64 m.Orbit.Period,.int .i64 m.Orbit.Start,.int .i64 m.Orbit.Length]) (HB.out.to inferInstance) _ Tryz.underlying27 rfl (by kernel_rfl) (by rw[HVS.out];kernel_rfl) ?_))
 refine(k_iOrbitOk (x:=m.Orbit)).mono ?_
 rintro _ _ ⟨rfl,y5,rfl⟩
 cases g5:orbitOkT m.Orbit
 ·have HF:=lH (show missionOk m=false from missionOk_no5 g5)
  clear g5
  go_wp2_with (first|((with_reducible refine wp_region_later (by kernel_rfl) (by kernel_rfl) ?_);(repeat(first|go_big_quiet_step (first|fail)));refine wpQuiet_nil ?_;rintro _ ⟨x,rfl⟩))
  go_ret
  exact Gives.mk (by rw[HF.out];rfl)
 have T5:=lH g5;clear g5
 go_wp2_with (first|((with_reducible refine wp_region_later (by kernel_rfl) (by kernel_rfl) ?_);(repeat(first|go_big_quiet_step (first|fail)));refine wpQuiet_nil ?_;rintro _ ⟨x,rfl⟩)|(refine stepLoadW (by first|kernel_rfl|go_simp) _ _ rfl w.heap.size 8 rfl (row:=[.int .i64 m.Up.Seed,.int .i64 m.Up.Burst,.int .i64 m.Up.Loss]) (HB.out.to inferInstance) _ Tryz.underlying30 rfl (by kernel_rfl) (by rw[HVS.out];kernel_rfl) ?_)|(refine step_loadw (by first|kernel_rfl|go_simp) _ _ rfl w.heap.size 8 rfl (row:=[.int .i64 m.Up.Seed,.int .i64 m.Up.Burst,.int .i64 m.Up.Loss]) (HB.out.to inferInstance) _ Tryz.underlying30 rfl (by kernel_rfl) (by rw[HVS.out];kernel_rfl) ?_)|(refine step_loadp _ _ rfl w.heap.size 8 rfl (row:=[.int .i64 m.Up.Seed,.int .i64 m.Up.Burst,.int .i64 m.Up.Loss]) (HB.out.to inferInstance) _ Tryz.underlying30 rfl (by kernel_rfl) (by rw[HVS.out];kernel_rfl) ?_))
 refine(k_iChannelOk (x:=m.Up)).mono ?_
 rintro _ _ ⟨rfl,y6,rfl⟩
 cases g6:channelOk m.Up
 ·have HF:=lH (show missionOk m=false from missionOk_no6 g6)
  clear g6
  go_wp2_with (first|((with_reducible refine wp_region_later (by kernel_rfl) (by kernel_rfl) ?_);(repeat(first|go_big_quiet_step (first|fail)));refine wpQuiet_nil ?_;rintro _ ⟨x,rfl⟩))
  go_ret
  exact Gives.mk (by rw[HF.out];rfl)
 have T6:=lH g6;clear g6
 go_wp2_with (first|((with_reducible refine wp_region_later (by kernel_rfl) (by kernel_rfl) ?_);(repeat(first|go_big_quiet_step (first|fail)));refine wpQuiet_nil ?_;rintro _ ⟨x,rfl⟩)|(refine stepLoadW (by first|kernel_rfl|go_simp) _ _ rfl w.heap.size 11 rfl (row:=[.int .i64 m.Down.Seed,.int .i64 m.Down.Burst,.int .i64 m.Down.Loss]) (HB.out.to inferInstance) _ Tryz.underlying30 rfl (by kernel_rfl) (by rw[HVS.out];kernel_rfl) ?_)|(refine step_loadw (by first|kernel_rfl|go_simp) _ _ rfl w.heap.size 11 rfl (row:=[.int .i64 m.Down.Seed,.int .i64 m.Down.Burst,.int .i64 m.Down.Loss]) (HB.out.to inferInstance) _ Tryz.underlying30 rfl (by kernel_rfl) (by rw[HVS.out];kernel_rfl) ?_)|(refine step_loadp _ _ rfl w.heap.size 11 rfl (row:=[.int .i64 m.Down.Seed,.int .i64 m.Down.Burst,.int .i64 m.Down.Loss]) (HB.out.to inferInstance) _ Tryz.underlying30 rfl (by kernel_rfl) (by rw[HVS.out];kernel_rfl) ?_))
 refine(k_iChannelOk (x:=m.Down)).mono ?_
 rintro _ _ ⟨rfl,y7,rfl⟩
 cases g7:channelOk m.Down
 ·have HF:=lH (show missionOk m=false from missionOk_no7 g7)
  clear g7
  go_wp2_with (first|((with_reducible refine wp_region_later (by kernel_rfl) (by kernel_rfl) ?_);(repeat(first|go_big_quiet_step (first|fail)));refine wpQuiet_nil ?_;rintro _ ⟨x,rfl⟩))
  go_ret
  exact Gives.mk (by rw[HF.out];rfl)
 have T7:=lH g7;clear g7
 by_cases h8:n0≤1500
 rotate_left
 ·have k8:decide (1500<(n0:Int))=true:=by simp;omega
  have k8b:decide ((n0:Int)≤1500)=false:=by simp;omega
  have HF:=lH (show missionOk m=false from missionOk_no8 (by rw[HN0.out];exact k8b))
  clear h8
  go_wp2_with (first|((with_reducible refine wp_region_later (by kernel_rfl) (by kernel_rfl) ?_);(repeat(first|go_big_quiet_step (first|fail)|simp only[k8]|simp only[k8b]));refine wpQuiet_nil ?_;rintro _ ⟨x,rfl⟩))
  go_ret
  exact Gives.mk (by rw[HF.out];rfl)
 have k8:decide (1500<(n0:Int))=false:=by simp;omega
 have k8b:decide ((n0:Int)≤1500)=true:=by simp;omega
 have T8:=lH (show decide ((m.Plan.length:Int)≤1500)=true by rw[HN0.out];exact k8b)
 clear h8
 go_wp2_with (first|((with_reducible refine wp_region_later (by kernel_rfl) (by kernel_rfl) ?_);(repeat(first|go_big_quiet_step (first|fail)|simp only[k8]|simp only[k8b]));refine wpQuiet_nil ?_;rintro _ ⟨x,rfl⟩))
 refine(k_iflightsOkN (l:=m.Ups) FH.out.q1 rfl M.out.m1).mono ?_
 rintro _ _ ⟨rfl,y9,rfl⟩
 cases g9:flightsOk m.Ups
 ·have HF:=lH (show missionOk m=false from missionOk_no9 g9)
  clear g9
  go_wp2_with (first|((with_reducible refine wp_region_later (by kernel_rfl) (by kernel_rfl) ?_);(repeat(first|go_big_quiet_step (first|fail)));refine wpQuiet_nil ?_;rintro _ ⟨x,rfl⟩))
  go_ret
  exact Gives.mk (by rw[HF.out];rfl)
 have T9:=lH g9;clear g9
 go_wp2_with (first|((with_reducible refine wp_region_later (by kernel_rfl) (by kernel_rfl) ?_);(repeat(first|go_big_quiet_step (first|fail)|simp only[k8]|simp only[k8b]));refine wpQuiet_nil ?_;rintro _ ⟨x,rfl⟩))
 refine(k_iflightsOkN (l:=m.Downs) FH.out.q2 rfl M.out.m2).mono ?_
 rintro _ _ ⟨rfl,y10,rfl⟩
 cases g10:flightsOk m.Downs
 ·have HF:=lH (show missionOk m=false from missionOk_no10 g10)
  clear g10
  go_wp2_with (first|((with_reducible refine wp_region_later (by kernel_rfl) (by kernel_rfl) ?_);(repeat(first|go_big_quiet_step (first|fail)));refine wpQuiet_nil ?_;rintro _ ⟨x,rfl⟩))
  go_ret
  exact Gives.mk (by rw[HF.out];rfl)
 have T10:=lH g10;clear g10
 go_wp2_with (first|((with_reducible refine wp_region_later (by kernel_rfl) (by kernel_rfl) ?_);(repeat(first|go_big_quiet_step (first|fail)|simp only[k8]|simp only[k8b]));refine wpQuiet_nil ?_;rintro _ ⟨x,rfl⟩)|(refine stepLoadW (by first|kernel_rfl|go_simp) _ _ rfl w.heap.size 16 rfl (row:=(cGround m.Ground A.a3 A.c3 A.a4 A.c4 A.a5 A.c5 A.a6 A.c6 A.a7 A.c7 A.a8 A.c8)) (HB.out.to inferInstance) _ Tryz.underlying45 rfl (by kernel_rfl) (by rw[HVS.out];kernel_rfl) ?_)|(refine step_loadw (by first|kernel_rfl|go_simp) _ _ rfl w.heap.size 16 rfl (row:=(cGround m.Ground A.a3 A.c3 A.a4 A.c4 A.a5 A.c5 A.a6 A.c6 A.a7 A.c7 A.a8 A.c8)) (HB.out.to inferInstance) _ Tryz.underlying45 rfl (by kernel_rfl) (by rw[HVS.out];kernel_rfl) ?_)|(refine step_loadp _ _ rfl w.heap.size 16 rfl (row:=(cGround m.Ground A.a3 A.c3 A.a4 A.c4 A.a5 A.c5 A.a6 A.c6 A.a7 A.c7 A.a8 A.c8)) (HB.out.to inferInstance) _ Tryz.underlying45 rfl (by kernel_rfl) (by rw[HVS.out];kernel_rfl) ?_))
 refine(k_igroundOk (bd:=m.Ground) FH.out.q3 FH.out.q4 FH.out.q5 FH.out.q6 FH.out.q7 FH.out.q8 FH.out.ok.2.2.2.2.2.2.1 rfl rfl rfl rfl rfl rfl M.out.m3 M.out.m4 M.out.m5 M.out.m6 M.out.m7 M.out.m8 M.out.hxf).mono ?_
 rintro _ _ ⟨rfl,y11,rfl⟩
 cases g11:groundOk m.Ground
 ·have HF:=lH (show missionOk m=false from missionOk_no11 g11)
  clear g11
  go_wp2_with (first|((with_reducible refine wp_region_later (by kernel_rfl) (by kernel_rfl) ?_);(repeat(first|go_big_quiet_step (first|fail)));refine wpQuiet_nil ?_;rintro _ ⟨x,rfl⟩))
  go_ret
  exact Gives.mk (by rw[HF.out];rfl)
 have T11:=lH g11;clear g11
 go_wp2_with (first|((with_reducible refine wp_region_later (by kernel_rfl) (by kernel_rfl) ?_);(repeat(first|go_big_quiet_step (first|fail)|simp only[k8]|simp only[k8b]));refine wpQuiet_nil ?_;rintro _ ⟨x,rfl⟩)|(refine stepLoadW (by first|kernel_rfl|go_simp) _ _ rfl w.heap.size 33 rfl (row:=(cSpace m.Space A.a9 A.c9 A.a10 A.c10 A.a11 A.c11 A.a12 A.c12 A.a13 A.c13 A.a14 A.c14 A.a15 A.c15 A.a16 A.c16 A.a17 A.c17 A.a18 A.c18 A.a19 A.c19)) (HB.out.to inferInstance) _ Tryz.underlying60 rfl (by kernel_rfl) (by rw[HVS.out];kernel_rfl) ?_)|(refine step_loadw (by first|kernel_rfl|go_simp) _ _ rfl w.heap.size 33 rfl (row:=(cSpace m.Space A.a9 A.c9 A.a10 A.c10 A.a11 A.c11 A.a12 A.c12 A.a13 A.c13 A.a14 A.c14 A.a15 A.c15 A.a16 A.c16 A.a17 A.c17 A.a18 A.c18 A.a19 A.c19)) (HB.out.to inferInstance) _ Tryz.underlying60 rfl (by kernel_rfl) (by rw[HVS.out];kernel_rfl) ?_)|(refine step_loadp _ _ rfl w.heap.size 33 rfl (row:=(cSpace m.Space A.a9 A.c9 A.a10 A.c10 A.a11 A.c11 A.a12 A.c12 A.a13 A.c13 A.a14 A.c14 A.a15 A.c15 A.a16 A.c16 A.a17 A.c17 A.a18 A.c18 A.a19 A.c19)) (HB.out.to inferInstance) _ Tryz.underlying60 rfl (by kernel_rfl) (by rw[HVS.out];kernel_rfl) ?_))
 refine(k_ispaceOk (bd:=m.Space) FH.out.q9 FH.out.q10 FH.out.q11 FH.out.q12 FH.out.q13 FH.out.q14 FH.out.q15 FH.out.q16 FH.out.q17 FH.out.q18 FH.out.q19 FH.out.ok.2.2.2.2.2.2.2.1 rfl rfl rfl rfl rfl rfl rfl rfl rfl rfl rfl M.out.m9 M.out.m10 M.out.m11 M.out.m12 M.out.m13 M.out.m14 M.out.m15 M.out.m16 M.out.m17 M.out.m18 M.out.m19 M.out.hzr M.out.hxo M.out.hxs).mono ?_
 rintro _ _ ⟨rfl,y12,rfl⟩
 cases g12:spaceOk m.Space
 ·have HF:=lH (show missionOk m=false from missionOk_no12 g12)
  clear g12
  go_wp2_with (first|((with_reducible refine wp_region_later (by kernel_rfl) (by kernel_rfl) ?_);(repeat(first|go_big_quiet_step (first|fail)));refine wpQuiet_nil ?_;rintro _ ⟨x,rfl⟩))
  go_ret
  exact Gives.mk (by rw[HF.out];rfl)
 have T12:=lH g12;clear g12
 by_cases h13:n20≤5000
 rotate_left
 ·have k13:decide (5000<(n20:Int))=true:=by simp;omega
  have k13b:decide ((n20:Int)≤5000)=false:=by simp;omega
  have HF:=lH (show missionOk m=false from missionOk_no13 (by rw[HN20.out];exact k13b))
  clear h13
  go_wp2_with (first|((with_reducible refine wp_region_later (by kernel_rfl) (by kernel_rfl) ?_);(repeat(first|go_big_quiet_step (first|fail)|simp only[k8]|simp only[k8b]|simp only[k13]|simp only[k13b]));refine wpQuiet_nil ?_;rintro _ ⟨x,rfl⟩))
  go_ret
  exact Gives.mk (by rw[HF.out];rfl)
 have k13:decide (5000<(n20:Int))=false:=by simp;omega
 have k13b:decide ((n20:Int)≤5000)=true:=by simp;omega
 have T13:=lH (show decide ((m.Offered.length:Int)≤5000)=true by rw[HN20.out];exact k13b)
 clear h13
 by_cases h14:n21≤5000
 rotate_left
 ·have k14:decide (5000<(n21:Int))=true:=by simp;omega
  have k14b:decide ((n21:Int)≤5000)=false:=by simp;omega
  have HF:=lH (show missionOk m=false from missionOk_no14 (by rw[HN21.out];exact k14b))
  clear h14
  go_wp2_with (first|((with_reducible refine wp_region_later (by kernel_rfl) (by kernel_rfl) ?_);(repeat(first|go_big_quiet_step (first|fail)|simp only[k8]|simp only[k8b]|simp only[k13]|simp only[k13b]|simp only[k14]|simp only[k14b]));refine wpQuiet_nil ?_;rintro _ ⟨x,rfl⟩))
  go_ret
  exact Gives.mk (by rw[HF.out];rfl)
 have k14:decide (5000<(n21:Int))=false:=by simp;omega
 have k14b:decide ((n21:Int)≤5000)=true:=by simp;omega
 have T14:=lH (show decide ((m.Took.length:Int)≤5000)=true by rw[HN21.out];exact k14b)
 clear h14
 go_wp2_with (first|((with_reducible refine wp_region_later (by kernel_rfl) (by kernel_rfl) ?_);(repeat(first|go_big_quiet_step (first|fail)|simp only[k8]|simp only[k8b]|simp only[k13]|simp only[k13b]|simp only[k14]|simp only[k14b]));refine wpQuiet_nil ?_;rintro _ ⟨x,rfl⟩))
 go_ret
 exact Gives.mk (by rw[missionOk_yes T1.out T2.out T3.out T4.out T5.out T6.out T7.out T8.out T9.out T10.out T11.out T12.out T13.out T14.out];rfl)
end Go.Proofs.YtbaffippdifbpaaGreat
namespace Go.Proofs.YtbaffippdifbpaaGreat
set_option linter.unusedVariables false
open Go.ChangeShapes Go.WideShapes Go.ChangeAt Go.RowKit
set_option maxRecDepth 100000 in
set_option maxHeartbeats 8000000 in
theorem c_sMissionOk{B:Nat}{vs:List Value}{m:TMission}{w:World}(h:Enc.Rd B w vs m)(ht:Enc.tot m≤100000000) :
  Calls Tryz.prog 67 #[.agg vs.toArray] w (Gives w (.bool (missionOk m))):=by
 obtain⟨A,hvs,F⟩:=h
 have M:=lH (mission_small ht)
 have FH:=lH F
 clear F ht
 obtain⟨n0,hn0⟩:∃ n,m.Plan.length=n:=⟨_,rfl⟩
 obtain⟨n20,hn20⟩:∃ n,m.Offered.length=n:=⟨_,rfl⟩
 obtain⟨n21,hn21⟩:∃ n,m.Took.length=n:=⟨_,rfl⟩
 rw[hn0,hn20,hn21]at hvs
 have hm0:n0≤100000000:=hn0▸M.out.m0
 have hm20:n20≤100000000:=hn20▸M.out.m20
 have hm21:n21≤100000000:=hn21▸M.out.m21
 have HN0:=lH hn0;have HN20:=lH hn20;have HN21:=lH hn21
 clear hn0 hn20 hn21
 have HB:=lH (Held.new w vs 62 w.heap.size rfl)
 have e0:=HB.out.cellG 0 (.int .i64 m.Time) (by rw[hvs];rfl)
 have e1:=HB.out.cellG 1 (.int .i64 m.Light) (by rw[hvs];rfl)
 have e7:=HB.out.cellG 7 (.slice A.a0 n0 A.c0) (by rw[hvs];rfl)
 have e14:=HB.out.cellG 14 (.slice A.a1 m.Ups.length A.c1) (by rw[hvs];rfl)
 have e15:=HB.out.cellG 15 (.slice A.a2 m.Downs.length A.c2) (by rw[hvs];rfl)
 have e58:=HB.out.cellG 58 (.slice A.a20 n20 A.c20) (by rw[hvs];rfl)
 have e59:=HB.out.cellG 59 (.slice A.a21 n21 A.c21) (by rw[hvs];rfl)
 have e60:=HB.out.cellG 60 (.int .i64 m.Bad) (by rw[hvs];rfl)
 have HVS:=lH hvs;clear hvs
 go_enter Tryz.func67,Tryz.ntmps67
 dsimp only[List.append]
 go_wp2_with (first|((with_reducible refine wp_region_later (by kernel_rfl) (by kernel_rfl) ?_);(repeat(first|go_big_quiet_step (first|fail)));refine wpQuiet_nil ?_;rintro _ ⟨x,rfl⟩))
 refine(c_sl01In).mono ?_
 rintro _ _ ⟨rfl,y1,rfl⟩
 cases g1:inB m.Time 0 1000000
 ·have HF:=lH (show missionOk m=false from missionOk_no1 g1)
  clear g1
  go_wp2_with (first|((with_reducible refine wp_region_later (by kernel_rfl) (by kernel_rfl) ?_);(repeat(first|go_big_quiet_step (first|fail)));refine wpQuiet_nil ?_;rintro _ ⟨x,rfl⟩))
  go_ret
  exact Gives.mk (by rw[HF.out];rfl)
 have T1:=lH g1;clear g1
 go_wp2_with (first|((with_reducible refine wp_region_later (by kernel_rfl) (by kernel_rfl) ?_);(repeat(first|go_big_quiet_step (first|fail)));refine wpQuiet_nil ?_;rintro _ ⟨x,rfl⟩))
 refine(c_sl01In).mono ?_
 rintro _ _ ⟨rfl,y2,rfl⟩
 cases g2:inB m.Light 0 50
 ·have HF:=lH (show missionOk m=false from missionOk_no2 g2)
  clear g2
  go_wp2_with (first|((with_reducible refine wp_region_later (by kernel_rfl) (by kernel_rfl) ?_);(repeat(first|go_big_quiet_step (first|fail)));refine wpQuiet_nil ?_;rintro _ ⟨x,rfl⟩))
  go_ret
  exact Gives.mk (by rw[HF.out];rfl)
 have T2:=lH g2;clear g2
 go_wp2_with (first|((with_reducible refine wp_region_later (by kernel_rfl) (by kernel_rfl) ?_);(repeat(first|go_big_quiet_step (first|fail)));refine wpQuiet_nil ?_;rintro _ ⟨x,rfl⟩))
 refine(c_sl01In).mono ?_
 rintro _ _ ⟨rfl,y3,rfl⟩
 cases g3:inB m.Bad 0 1000000
 ·have HF:=lH (show missionOk m=false from missionOk_no3 g3)
  clear g3
  go_wp2_with (first|((with_reducible refine wp_region_later (by kernel_rfl) (by kernel_rfl) ?_);(repeat(first|go_big_quiet_step (first|fail)));refine wpQuiet_nil ?_;rintro _ ⟨x,rfl⟩))
  go_ret
  exact Gives.mk (by rw[HF.out];rfl)
 have T3:=lH g3;clear g3
 go_wp2_with (first|((with_reducible refine wp_region_later (by kernel_rfl) (by kernel_rfl) ?_);(repeat(first|go_big_quiet_step (first|fail)));refine wpQuiet_nil ?_;rintro _ ⟨x,rfl⟩)|(refine stepLoadW (by first|kernel_rfl|go_simp) _ _ rfl w.heap.size 2 rfl (row:=[.int .i64 m.Drift.Rate,.int .i64 m.Drift.Offset]) (HB.out.to inferInstance) _ Tryz.underlying25 rfl (by kernel_rfl) (by rw[HVS.out];kernel_rfl) ?_)|(refine step_loadw (by first|kernel_rfl|go_simp) _ _ rfl w.heap.size 2 rfl (row:=[.int .i64 m.Drift.Rate,.int .i64 m.Drift.Offset]) (HB.out.to inferInstance) _ Tryz.underlying25 rfl (by kernel_rfl) (by rw[HVS.out];kernel_rfl) ?_)|(refine step_loadp _ _ rfl w.heap.size 2 rfl (row:=[.int .i64 m.Drift.Rate,.int .i64 m.Drift.Offset]) (HB.out.to inferInstance) _ Tryz.underlying25 rfl (by kernel_rfl) (by rw[HVS.out];kernel_rfl) ?_))
 refine(k_sDriftOk (x:=m.Drift)).mono ?_
 rintro _ _ ⟨rfl,y4,rfl⟩
 cases g4:driftOkT m.Drift
 ·have HF:=lH (show missionOk m=false from missionOk_no4 g4)
  clear g4
  go_wp2_with (first|((with_reducible refine wp_region_later (by kernel_rfl) (by kernel_rfl) ?_);(repeat(first|go_big_quiet_step (first|fail)));refine wpQuiet_nil ?_;rintro _ ⟨x,rfl⟩))
  go_ret
  exact Gives.mk (by rw[HF.out];rfl)
 have T4:=lH g4;clear g4
 go_wp2_with (first|((with_reducible refine wp_region_later (by kernel_rfl) (by kernel_rfl) ?_);(repeat(first|go_big_quiet_step (first|fail)));refine wpQuiet_nil ?_;rintro _ ⟨x,rfl⟩)|(refine stepLoadW (by first|kernel_rfl|go_simp) _ _ rfl w.heap.size 4 rfl (row:=[.int .i64 m.Orbit.Period,.int .i64 m.Orbit.Start,.int .i64 m.Orbit.Length]) (HB.out.to inferInstance) _ Tryz.underlying27 rfl (by kernel_rfl) (by rw[HVS.out];kernel_rfl) ?_)|(refine step_loadw (by first|kernel_rfl|go_simp) _ _ rfl w.heap.size 4 rfl (row:=[.int .i64 m.Orbit.Period,.int .i64 m.Orbit.Start,.int .i64 m.Orbit.Length]) (HB.out.to inferInstance) _ Tryz.underlying27 rfl (by kernel_rfl) (by rw[HVS.out];kernel_rfl) ?_)|(refine step_loadp _ _ rfl w.heap.size 4 rfl (row:=[.int .i64 m.Orbit.Period,.int .i64 m.Orbit.Start,.int .i64 m.Orbit.Length]) (HB.out.to inferInstance) _ Tryz.underlying27 rfl (by kernel_rfl) (by rw[HVS.out];kernel_rfl) ?_))
 refine(k_sOrbitOk (x:=m.Orbit)).mono ?_
 rintro _ _ ⟨rfl,y5,rfl⟩
 cases g5:orbitOkT m.Orbit
 ·have HF:=lH (show missionOk m=false from missionOk_no5 g5)
  clear g5
  go_wp2_with (first|((with_reducible refine wp_region_later (by kernel_rfl) (by kernel_rfl) ?_);(repeat(first|go_big_quiet_step (first|fail)));refine wpQuiet_nil ?_;rintro _ ⟨x,rfl⟩))
  go_ret
  exact Gives.mk (by rw[HF.out];rfl)
 have T5:=lH g5;clear g5
 go_wp2_with (first|((with_reducible refine wp_region_later (by kernel_rfl) (by kernel_rfl) ?_);(repeat(first|go_big_quiet_step (first|fail)));refine wpQuiet_nil ?_;rintro _ ⟨x,rfl⟩)|(refine stepLoadW (by first|kernel_rfl|go_simp) _ _ rfl w.heap.size 8 rfl (row:=[.int .i64 m.Up.Seed,.int .i64 m.Up.Burst,.int .i64 m.Up.Loss]) (HB.out.to inferInstance) _ Tryz.underlying30 rfl (by kernel_rfl) (by rw[HVS.out];kernel_rfl) ?_)|(refine step_loadw (by first|kernel_rfl|go_simp) _ _ rfl w.heap.size 8 rfl (row:=[.int .i64 m.Up.Seed,.int .i64 m.Up.Burst,.int .i64 m.Up.Loss]) (HB.out.to inferInstance) _ Tryz.underlying30 rfl (by kernel_rfl) (by rw[HVS.out];kernel_rfl) ?_)|(refine step_loadp _ _ rfl w.heap.size 8 rfl (row:=[.int .i64 m.Up.Seed,.int .i64 m.Up.Burst,.int .i64 m.Up.Loss]) (HB.out.to inferInstance) _ Tryz.underlying30 rfl (by kernel_rfl) (by rw[HVS.out];kernel_rfl) ?_))
 refine(k_sChannelOk (x:=m.Up)).mono ?_
 rintro _ _ ⟨rfl,y6,rfl⟩
 cases g6:channelOk m.Up
 ·have HF:=lH (show missionOk m=false from missionOk_no6 g6)
  clear g6
  go_wp2_with (first|((with_reducible refine wp_region_later (by kernel_rfl) (by kernel_rfl) ?_);(repeat(first|go_big_quiet_step (first|fail)));refine wpQuiet_nil ?_;rintro _ ⟨x,rfl⟩))
  go_ret
  exact Gives.mk (by rw[HF.out];rfl)
 have T6:=lH g6;clear g6
 go_wp2_with (first|((with_reducible refine wp_region_later (by kernel_rfl) (by kernel_rfl) ?_);(repeat(first|go_big_quiet_step (first|fail)));refine wpQuiet_nil ?_;rintro _ ⟨x,rfl⟩)|(refine stepLoadW (by first|kernel_rfl|go_simp) _ _ rfl w.heap.size 11 rfl (row:=[.int .i64 m.Down.Seed,.int .i64 m.Down.Burst,.int .i64 m.Down.Loss]) (HB.out.to inferInstance) _ Tryz.underlying30 rfl (by kernel_rfl) (by rw[HVS.out];kernel_rfl) ?_)|(refine step_loadw (by first|kernel_rfl|go_simp) _ _ rfl w.heap.size 11 rfl (row:=[.int .i64 m.Down.Seed,.int .i64 m.Down.Burst,.int .i64 m.Down.Loss]) (HB.out.to inferInstance) _ Tryz.underlying30 rfl (by kernel_rfl) (by rw[HVS.out];kernel_rfl) ?_)|(refine step_loadp _ _ rfl w.heap.size 11 rfl (row:=[.int .i64 m.Down.Seed,.int .i64 m.Down.Burst,.int .i64 m.Down.Loss]) (HB.out.to inferInstance) _ Tryz.underlying30 rfl (by kernel_rfl) (by rw[HVS.out];kernel_rfl) ?_))
 refine(k_sChannelOk (x:=m.Down)).mono ?_
 rintro _ _ ⟨rfl,y7,rfl⟩
 cases g7:channelOk m.Down
 ·have HF:=lH (show missionOk m=false from missionOk_no7 g7)
  clear g7
  go_wp2_with (first|((with_reducible refine wp_region_later (by kernel_rfl) (by kernel_rfl) ?_);(repeat(first|go_big_quiet_step (first|fail)));refine wpQuiet_nil ?_;rintro _ ⟨x,rfl⟩))
  go_ret
  exact Gives.mk (by rw[HF.out];rfl)
 have T7:=lH g7;clear g7
 by_cases h8:n0≤1500
 rotate_left
 ·have k8:decide (1500<(n0:Int))=true:=by simp;omega
  have k8b:decide ((n0:Int)≤1500)=false:=by simp;omega
  have HF:=lH (show missionOk m=false from missionOk_no8 (by rw[HN0.out];exact k8b))
  clear h8
  go_wp2_with (first|((with_reducible refine wp_region_later (by kernel_rfl) (by kernel_rfl) ?_);(repeat(first|go_big_quiet_step (first|fail)|simp only[k8]|simp only[k8b]));refine wpQuiet_nil ?_;rintro _ ⟨x,rfl⟩))
  go_ret
  exact Gives.mk (by rw[HF.out];rfl)
 have k8:decide (1500<(n0:Int))=false:=by simp;omega
 have k8b:decide ((n0:Int)≤1500)=true:=by simp;omega
 have T8:=lH (show decide ((m.Plan.length:Int)≤1500)=true by rw[HN0.out];exact k8b)
 clear h8
 go_wp2_with (first|((with_reducible refine wp_region_later (by kernel_rfl) (by kernel_rfl) ?_);(repeat(first|go_big_quiet_step (first|fail)|simp only[k8]|simp only[k8b]));refine wpQuiet_nil ?_;rintro _ ⟨x,rfl⟩))
 refine(k_sflightsOkN (l:=m.Ups) FH.out.q1 rfl M.out.m1).mono ?_
 rintro _ _ ⟨rfl,y9,rfl⟩
 cases g9:flightsOk m.Ups
 ·have HF:=lH (show missionOk m=false from missionOk_no9 g9)
  clear g9
  go_wp2_with (first|((with_reducible refine wp_region_later (by kernel_rfl) (by kernel_rfl) ?_);(repeat(first|go_big_quiet_step (first|fail)));refine wpQuiet_nil ?_;rintro _ ⟨x,rfl⟩))
  go_ret
  exact Gives.mk (by rw[HF.out];rfl)
 have T9:=lH g9;clear g9
 go_wp2_with (first|((with_reducible refine wp_region_later (by kernel_rfl) (by kernel_rfl) ?_);(repeat(first|go_big_quiet_step (first|fail)|simp only[k8]|simp only[k8b]));refine wpQuiet_nil ?_;rintro _ ⟨x,rfl⟩))
 refine(k_sflightsOkN (l:=m.Downs) FH.out.q2 rfl M.out.m2).mono ?_
 rintro _ _ ⟨rfl,y10,rfl⟩
 cases g10:flightsOk m.Downs
 ·have HF:=lH (show missionOk m=false from missionOk_no10 g10)
  clear g10
  go_wp2_with (first|((with_reducible refine wp_region_later (by kernel_rfl) (by kernel_rfl) ?_);(repeat(first|go_big_quiet_step (first|fail)));refine wpQuiet_nil ?_;rintro _ ⟨x,rfl⟩))
  go_ret
  exact Gives.mk (by rw[HF.out];rfl)
 have T10:=lH g10;clear g10
 go_wp2_with (first|((with_reducible refine wp_region_later (by kernel_rfl) (by kernel_rfl) ?_);(repeat(first|go_big_quiet_step (first|fail)|simp only[k8]|simp only[k8b]));refine wpQuiet_nil ?_;rintro _ ⟨x,rfl⟩)|(refine stepLoadW (by first|kernel_rfl|go_simp) _ _ rfl w.heap.size 16 rfl (row:=(cGround m.Ground A.a3 A.c3 A.a4 A.c4 A.a5 A.c5 A.a6 A.c6 A.a7 A.c7 A.a8 A.c8)) (HB.out.to inferInstance) _ Tryz.underlying45 rfl (by kernel_rfl) (by rw[HVS.out];kernel_rfl) ?_)|(refine step_loadw (by first|kernel_rfl|go_simp) _ _ rfl w.heap.size 16 rfl (row:=(cGround m.Ground A.a3 A.c3 A.a4 A.c4 A.a5 A.c5 A.a6 A.c6 A.a7 A.c7 A.a8 A.c8)) (HB.out.to inferInstance) _ Tryz.underlying45 rfl (by kernel_rfl) (by rw[HVS.out];kernel_rfl) ?_)|(refine step_loadp _ _ rfl w.heap.size 16 rfl (row:=(cGround m.Ground A.a3 A.c3 A.a4 A.c4 A.a5 A.c5 A.a6 A.c6 A.a7 A.c7 A.a8 A.c8)) (HB.out.to inferInstance) _ Tryz.underlying45 rfl (by kernel_rfl) (by rw[HVS.out];kernel_rfl) ?_))
 refine(k_sgroundOk (bd:=m.Ground) FH.out.q3 FH.out.q4 FH.out.q5 FH.out.q6 FH.out.q7 FH.out.q8 FH.out.ok.2.2.2.2.2.2.1 rfl rfl rfl rfl rfl rfl M.out.m3 M.out.m4 M.out.m5 M.out.m6 M.out.m7 M.out.m8 M.out.hxf).mono ?_
 rintro _ _ ⟨rfl,y11,rfl⟩
 cases g11:groundOk m.Ground
 ·have HF:=lH (show missionOk m=false from missionOk_no11 g11)
  clear g11
  go_wp2_with (first|((with_reducible refine wp_region_later (by kernel_rfl) (by kernel_rfl) ?_);(repeat(first|go_big_quiet_step (first|fail)));refine wpQuiet_nil ?_;rintro _ ⟨x,rfl⟩))
  go_ret
  exact Gives.mk (by rw[HF.out];rfl)
 have T11:=lH g11;clear g11
 go_wp2_with (first|((with_reducible refine wp_region_later (by kernel_rfl) (by kernel_rfl) ?_);(repeat(first|go_big_quiet_step (first|fail)|simp only[k8]|simp only[k8b]));refine wpQuiet_nil ?_;rintro _ ⟨x,rfl⟩)|(refine stepLoadW (by first|kernel_rfl|go_simp) _ _ rfl w.heap.size 33 rfl (row:=(cSpace m.Space A.a9 A.c9 A.a10 A.c10 A.a11 A.c11 A.a12 A.c12 A.a13 A.c13 A.a14 A.c14 A.a15 A.c15 A.a16 A.c16 A.a17 A.c17 A.a18 A.c18 A.a19 A.c19)) (HB.out.to inferInstance) _ Tryz.underlying60 rfl (by kernel_rfl) (by rw[HVS.out];kernel_rfl) ?_)|(refine step_loadw (by first|kernel_rfl|go_simp) _ _ rfl w.heap.size 33 rfl (row:=(cSpace m.Space A.a9 A.c9 A.a10 A.c10 A.a11 A.c11 A.a12 A.c12 A.a13 A.c13 A.a14 A.c14 A.a15 A.c15 A.a16 A.c16 A.a17 A.c17 A.a18 A.c18 A.a19 A.c19)) (HB.out.to inferInstance) _ Tryz.underlying60 rfl (by kernel_rfl) (by rw[HVS.out];kernel_rfl) ?_)|(refine step_loadp _ _ rfl w.heap.size 33 rfl (row:=(cSpace m.Space A.a9 A.c9 A.a10 A.c10 A.a11 A.c11 A.a12 A.c12 A.a13 A.c13 A.a14 A.c14 A.a15 A.c15 A.a16 A.c16 A.a17 A.c17 A.a18 A.c18 A.a19 A.c19)) (HB.out.to inferInstance) _ Tryz.underlying60 rfl (by kernel_rfl) (by rw[HVS.out];kernel_rfl) ?_))
 refine(k_sspaceOk (bd:=m.Space) FH.out.q9 FH.out.q10 FH.out.q11 FH.out.q12 FH.out.q13 FH.out.q14 FH.out.q15 FH.out.q16 FH.out.q17 FH.out.q18 FH.out.q19 FH.out.ok.2.2.2.2.2.2.2.1 rfl rfl rfl rfl rfl rfl rfl rfl rfl rfl rfl M.out.m9 M.out.m10 M.out.m11 M.out.m12 M.out.m13 M.out.m14 M.out.m15 M.out.m16 M.out.m17 M.out.m18 M.out.m19 M.out.hzr M.out.hxo M.out.hxs).mono ?_
 rintro _ _ ⟨rfl,y12,rfl⟩
 cases g12:spaceOk m.Space
 ·have HF:=lH (show missionOk m=false from missionOk_no12 g12)
  clear g12
  go_wp2_with (first|((with_reducible refine wp_region_later (by kernel_rfl) (by kernel_rfl) ?_);(repeat(first|go_big_quiet_step (first|fail)));refine wpQuiet_nil ?_;rintro _ ⟨x,rfl⟩))
  go_ret
  exact Gives.mk (by rw[HF.out];rfl)
 have T12:=lH g12;clear g12
 by_cases h13:n20≤5000
 rotate_left
 ·have k13:decide (5000<(n20:Int))=true:=by simp;omega
  have k13b:decide ((n20:Int)≤5000)=false:=by simp;omega
  have HF:=lH (show missionOk m=false from missionOk_no13 (by rw[HN20.out];exact k13b))
  clear h13
  go_wp2_with (first|((with_reducible refine wp_region_later (by kernel_rfl) (by kernel_rfl) ?_);(repeat(first|go_big_quiet_step (first|fail)|simp only[k8]|simp only[k8b]|simp only[k13]|simp only[k13b]));refine wpQuiet_nil ?_;rintro _ ⟨x,rfl⟩))
  go_ret
  exact Gives.mk (by rw[HF.out];rfl)
 have k13:decide (5000<(n20:Int))=false:=by simp;omega
 have k13b:decide ((n20:Int)≤5000)=true:=by simp;omega
 have T13:=lH (show decide ((m.Offered.length:Int)≤5000)=true by rw[HN20.out];exact k13b)
 clear h13
 by_cases h14:n21≤5000
 rotate_left
 ·have k14:decide (5000<(n21:Int))=true:=by simp;omega
  have k14b:decide ((n21:Int)≤5000)=false:=by simp;omega
  have HF:=lH (show missionOk m=false from missionOk_no14 (by rw[HN21.out];exact k14b))
  clear h14
  go_wp2_with (first|((with_reducible refine wp_region_later (by kernel_rfl) (by kernel_rfl) ?_);(repeat(first|go_big_quiet_step (first|fail)|simp only[k8]|simp only[k8b]|simp only[k13]|simp only[k13b]|simp only[k14]|simp only[k14b]));refine wpQuiet_nil ?_;rintro _ ⟨x,rfl⟩))
  go_ret
  exact Gives.mk (by rw[HF.out];rfl)
 have k14:decide (5000<(n21:Int))=false:=by simp;omega
 have k14b:decide ((n21:Int)≤5000)=true:=by simp;omega
 have T14:=lH (show decide ((m.Took.length:Int)≤5000)=true by rw[HN21.out];exact k14b)
 clear h14
 go_wp2_with (first|((with_reducible refine wp_region_later (by kernel_rfl) (by kernel_rfl) ?_);(repeat(first|go_big_quiet_step (first|fail)|simp only[k8]|simp only[k8b]|simp only[k13]|simp only[k13b]|simp only[k14]|simp only[k14b]));refine wpQuiet_nil ?_;rintro _ ⟨x,rfl⟩))
 go_ret
 exact Gives.mk (by rw[missionOk_yes T1.out T2.out T3.out T4.out T5.out T6.out T7.out T8.out T9.out T10.out T11.out T12.out T13.out T14.out];rfl)
end Go.Proofs.YtbaffippdifbpaaGreat
namespace Go.Proofs.YtbaffippdifbpaaGreat
set_option linter.unusedVariables false
open Go.ChangeShapes Go.WideShapes Go.ChangeAt Go.RowKit
end Go.Proofs.YtbaffippdifbpaaGreat
namespace Go.Proofs.YtbaffippdifbpaaGreat
set_option linter.unusedVariables false
open Go.ChangeShapes Go.WideShapes Go.ChangeAt Go.RowKit
end Go.Proofs.YtbaffippdifbpaaGreat
namespace Go.Proofs.YtbaffippdifbpaaGreat
set_option linter.unusedVariables false
open Go.ChangeShapes Go.WideShapes Go.ChangeAt Go.RowKit
theorem om_to{B o:Nat}{χ:Nat→Col}{w w2:World}{vs:List Value}{m:TMission}(h:EncO.O B χ o w vs m)(g:Grows w w2):EncO.O B χ o w2 vs m:=by
 obtain⟨A,h0,h1⟩:=h
 exact⟨A,h0,h1.to g⟩
theorem om_keep{B o:Nat}{χ:Nat→Col}{w w2:World}{vs:List Value}{m:TMission}(h:EncO.O B χ o w vs m)(g:Keeps B w w2):EncO.O B χ o w2 vs m:=by
 obtain⟨A,h0,h1⟩:=h
 exact⟨A,h0,h1.keep g⟩
theorem om_mono{B B2 o:Nat}{χ:Nat→Col}{w:World}{vs:List Value}{m:TMission}(h:EncO.O B χ o w vs m)(g:B2≤B):EncO.O B2 χ o w vs m:=by
 obtain⟨A,h0,h1⟩:=h
 exact⟨A,h0,h1.mono g⟩
theorem len_mission{B:Nat}{w:World}{vs:List Value}{m:TMission}(h:Enc.Rd B w vs m):vs.length=61:=Enc.len h
end Go.Proofs.YtbaffippdifbpaaGreat
namespace Go.Proofs.YtbaffippdifbpaaGreat
set_option linter.unusedVariables false
open Go.ChangeShapes Go.WideShapes Go.ChangeAt Go.RowKit
theorem cellsM_mk(m:TMission)(k:Int)(A:TMissionA):([.int .i64 (mkMMission m k).Time,.int .i64 (mkMMission m k).Light,.int .i64 (mkMMission m k).Drift.Rate,.int .i64 (mkMMission m k).Drift.Offset,.int .i64 (mkMMission m k).Orbit.Period,.int .i64 (mkMMission m k).Orbit.Start,.int .i64 (mkMMission m k).Orbit.Length,.slice A.a0 (mkMMission m k).Plan.length A.c0,.int .i64 (mkMMission m k).Up.Seed,.int .i64 (mkMMission m k).Up.Burst,.int .i64 (mkMMission m k).Up.Loss,.int .i64 (mkMMission m k).Down.Seed,.int .i64 (mkMMission m k).Down.Burst,.int .i64 (mkMMission m k).Down.Loss,.slice A.a1 (mkMMission m k).Ups.length A.c1,.slice A.a2 (mkMMission m k).Downs.length A.c2,.slice A.a3 (mkMMission m k).Ground.Offers.length A.c3,.int .i64 (mkMMission m k).Ground.Sender.Next,.int .i64 (mkMMission m k).Ground.Sender.Window,.slice A.a4 (mkMMission m k).Ground.Sender.Waiting.length A.c4,.int .i64 (mkMMission m k).Ground.Sender.Done,.int .i64 (mkMMission m k).Ground.Notice.Expect,.bool (mkMMission m k).Ground.Notice.Locked,.bool (mkMMission m k).Ground.Notice.Again,.int .i64 (mkMMission m k).Ground.Unpacker.Channel,.int .i64 (mkMMission m k).Ground.Unpacker.Next,.bool (mkMMission m k).Ground.Unpacker.Synced,.string (mkMMission m k).Ground.Unpacker.Rest,.int .i64 (mkMMission m k).Ground.Unpacker.Lost,.slice A.a5 (mkMMission m k).Ground.Pairs.length A.c5,.slice A.a6 (mkMMission m k).Ground.Records.length A.c6,.slice A.a7 (mkMMission m k).Ground.Files.length A.c7,.slice A.a8 (mkMMission m k).Ground.Told.length A.c8,.int .i64 (mkMMission m k).Space.Receiver.Expect,.bool (mkMMission m k).Space.Receiver.Locked,.bool (mkMMission m k).Space.Receiver.Again,.int .i64 (mkMMission m k).Space.Receiver.Taken,.int .i64 (mkMMission m k).Space.Board.Clock,.slice A.a9 (mkMMission m k).Space.Board.Params.length A.c9,.bool (mkMMission m k).Space.Board.Safe,.slice A.a10 (mkMMission m k).Space.Board.Limits.length A.c10,.slice A.a11 (mkMMission m k).Space.Board.Orders.length A.c11,.slice A.a12 (mkMMission m k).Space.Board.Done.length A.c12,.int .i64 (mkMMission m k).Space.Board.Recorder.Room,.slice A.a13 (mkMMission m k).Space.Board.Recorder.Records.length A.c13,.slice A.a14 (mkMMission m k).Space.Board.Recorder.Dropped.length A.c14,.int .i64 (mkMMission m k).Space.Board.Made,.int .i64 (mkMMission m k).Space.Board.Taken,.slice A.a15 (mkMMission m k).Space.Board.Asked.length A.c15,.int .i64 (mkMMission m k).Space.Packer.Channel,.int .i64 (mkMMission m k).Space.Packer.Count,.string (mkMMission m k).Space.Packer.Rest,.slice A.a16 (mkMMission m k).Space.Packer.Starts.length A.c16,.int .i64 (mkMMission m k).Space.Seq,.slice A.a17 (mkMMission m k).Space.Files.length A.c17,.slice A.a18 (mkMMission m k).Space.Outs.length A.c18,.int .i64 (mkMMission m k).Space.Begun,.slice A.a19 (mkMMission m k).Space.Sent.length A.c19,.slice A.a20 (mkMMission m k).Offered.length A.c20,.slice A.a21 (mkMMission m k).Took.length A.c21,.int .i64 (mkMMission m k).Bad]:List Value)=[.int .i64 m.Time,.int .i64 m.Light,.int .i64 m.Drift.Rate,.int .i64 m.Drift.Offset,.int .i64 m.Orbit.Period,.int .i64 m.Orbit.Start,.int .i64 m.Orbit.Length,.slice A.a0 m.Plan.length A.c0,.int .i64 m.Up.Seed,.int .i64 m.Up.Burst,.int .i64 m.Up.Loss,.int .i64 m.Down.Seed,.int .i64 m.Down.Burst,.int .i64 m.Down.Loss,.slice A.a1 m.Ups.length A.c1,.slice A.a2 m.Downs.length A.c2,.slice A.a3 m.Ground.Offers.length A.c3,.int .i64 m.Ground.Sender.Next,.int .i64 m.Ground.Sender.Window,.slice A.a4 m.Ground.Sender.Waiting.length A.c4,.int .i64 m.Ground.Sender.Done,.int .i64 m.Ground.Notice.Expect,.bool m.Ground.Notice.Locked,.bool m.Ground.Notice.Again,.int .i64 m.Ground.Unpacker.Channel,.int .i64 m.Ground.Unpacker.Next,.bool m.Ground.Unpacker.Synced,.string m.Ground.Unpacker.Rest,.int .i64 m.Ground.Unpacker.Lost,.slice A.a5 m.Ground.Pairs.length A.c5,.slice A.a6 m.Ground.Records.length A.c6,.slice A.a7 m.Ground.Files.length A.c7,.slice A.a8 m.Ground.Told.length A.c8,.int .i64 m.Space.Receiver.Expect,.bool m.Space.Receiver.Locked,.bool m.Space.Receiver.Again,.int .i64 m.Space.Receiver.Taken,.int .i64 m.Space.Board.Clock,.slice A.a9 m.Space.Board.Params.length A.c9,.bool m.Space.Board.Safe,.slice A.a10 m.Space.Board.Limits.length A.c10,.slice A.a11 m.Space.Board.Orders.length A.c11,.slice A.a12 m.Space.Board.Done.length A.c12,.int .i64 m.Space.Board.Recorder.Room,.slice A.a13 m.Space.Board.Recorder.Records.length A.c13,.slice A.a14 m.Space.Board.Recorder.Dropped.length A.c14,.int .i64 m.Space.Board.Made,.int .i64 m.Space.Board.Taken,.slice A.a15 m.Space.Board.Asked.length A.c15,.int .i64 m.Space.Packer.Channel,.int .i64 m.Space.Packer.Count,.string m.Space.Packer.Rest,.slice A.a16 m.Space.Packer.Starts.length A.c16,.int .i64 m.Space.Seq,.slice A.a17 m.Space.Files.length A.c17,.slice A.a18 m.Space.Outs.length A.c18,.int .i64 m.Space.Begun,.slice A.a19 m.Space.Sent.length A.c19,.slice A.a20 m.Offered.length A.c20,.slice A.a21 m.Took.length A.c21,.int .i64 m.Bad]:=by
 have e0:(mkMMission m k).Plan.length=m.Plan.length:=mkL_length _ _
 have e1:(mkMMission m k).Ups.length=m.Ups.length:=mkL_length _ _
 have e2:(mkMMission m k).Downs.length=m.Downs.length:=mkL_length _ _
 have e3:(mkMMission m k).Ground.Offers.length=m.Ground.Offers.length:=mkL_length _ _
 have e4:(mkMMission m k).Ground.Sender.Waiting.length=m.Ground.Sender.Waiting.length:=mkL_length _ _
 have e5:(mkMMission m k).Ground.Pairs.length=m.Ground.Pairs.length:=mkL_length _ _
 have e6:(mkMMission m k).Ground.Records.length=m.Ground.Records.length:=mkL_length _ _
 have e7:(mkMMission m k).Ground.Files.length=m.Ground.Files.length:=mkN_length _ _ _ _
 have e8:(mkMMission m k).Ground.Told.length=m.Ground.Told.length:=mkL_length _ _
 have e9:(mkMMission m k).Space.Board.Params.length=m.Space.Board.Params.length:=mkL_length _ _
 have e10:(mkMMission m k).Space.Board.Limits.length=m.Space.Board.Limits.length:=mkL_length _ _
 have e11:(mkMMission m k).Space.Board.Orders.length=m.Space.Board.Orders.length:=mkL_length _ _
 have e12:(mkMMission m k).Space.Board.Done.length=m.Space.Board.Done.length:=mkL_length _ _
 have e13:(mkMMission m k).Space.Board.Recorder.Records.length=m.Space.Board.Recorder.Records.length:=mkL_length _ _
 have e14:(mkMMission m k).Space.Board.Recorder.Dropped.length=m.Space.Board.Recorder.Dropped.length:=mkL_length _ _
 have e15:(mkMMission m k).Space.Board.Asked.length=m.Space.Board.Asked.length:=mkL_length _ _
 have e16:(mkMMission m k).Space.Packer.Starts.length=m.Space.Packer.Starts.length:=mkL_length _ _
 have e17:(mkMMission m k).Space.Files.length=m.Space.Files.length:=mkL_length _ _
 have e18:(mkMMission m k).Space.Outs.length=m.Space.Outs.length:=mkN_length _ _ _ _
 have e19:(mkMMission m k).Space.Sent.length=m.Space.Sent.length:=mkL_length _ _
 have e20:(mkMMission m k).Offered.length=m.Offered.length:=mkL_length _ _
 have e21:(mkMMission m k).Took.length=m.Took.length:=mkL_length _ _
 rw[e0,e1,e2,e3,e4,e5,e6,e7,e8,e9,e10,e11,e12,e13,e14,e15,e16,e17,e18,e19,e20,e21]
 rfl
theorem o_markM{B:Nat}{χ:Nat→Col}{w:World}{vs:List Value}{m:TMission}{k:Int}(h:EncO.O B χ 0 w vs m)(hf:Fresh χ w)(hB:B≤w.heap.size)(ht:Enc.tot m≤100000000)(h1:0≤k)(h2:k≤100000000000) :
  Calls Tryz.prog 31 #[.agg vs.toArray,.int .i64 k] w (Mkd (mnMMission m k) (fun w2=>EncO.O B χ 0 w2 vs (mkMMission m k)) (Fr B χ (Rng 0 22) w)):=by
 obtain⟨A,rfl,F⟩:=h
 refine(o_lmarkMission F hf hB (by omega) ht h1 h2).mono fun e w2 hq=>?_
 obtain⟨he,ho,hr⟩:=hq
 exact⟨he,⟨A,(cellsM_mk m k A).symm,ho⟩,by simpa using hr⟩
theorem o_heldM{B:Nat}{w:World}{vs:List Value}{m:TMission}{k:Int}(h:Enc.Rd B w vs (mkMMission m k))(ht:Enc.tot m≤100000000)(h1:0≤k)(h2:k≤100000000000) :
  Calls Tryz.prog 32 #[.agg vs.toArray,.int .i64 k] w (Gives w (.int .i64 (mnMMission m k))):=by
 obtain⟨A,rfl,F⟩:=h
 rw[cellsM_mk m k A]
 exact o_lheldMission F ht h1 h2
theorem om_old{B U o:Nat}{χ:Nat→Col}{w:World}{vs:List Value}{m:TMission}(h:EncO.O B χ o w vs m)(g:w.heap.size≤U):EncO.O B (paint U χ (fun _=>(0,0)) (fun _=>(1000,0))) o w vs m:=by
 obtain⟨A,h0,h1⟩:=h
 exact⟨A,h0,h1.old g⟩
theorem growsTr{a b c:World}(h:Grows a b)(k:Grows b c):Grows a c:=⟨h.out.trans (k.out.mono h.out.size)⟩
theorem stepLoadG{P:Program}{ops:Array Oper}{rest:List Oper}{op:Oper}{a:Act}{w:World}{Q:Exit→Act→World→Prop}(hw:Region.wanted op (yielded ops a.tmps)=true)(ty:TypeId)(x:Operand)(ho:op.op=.load ty x)(b o:Nat)(hx:a.eval x=.pointer (some ⟨b,o,none⟩)){cs row:List Value}{T:TypeId}(H:Held w b cs T)
  (d:TypeDesc) (hu:P.underlying ty=some d) (hd:d.isRow=true) (hi:(P.info? ty).map (·.size)=some row.length) (hr:(cs.drop o).take row.length=row)
  (h:wpList P ops Q rest (a.put op.dst (.agg row.toArray)) w):wpList P ops Q (op::rest) a w :=
 wpList_step fun K hK=>st_loadH hw ty x ho b o hx H d hu hd hi hr (hK _ _ h)
theorem Later.ofG{W w:World}(h:Grows W w):∃ x:Later W,w=x.w:=⟨⟨w,h.out⟩,rfl⟩
end Go.Proofs.YtbaffippdifbpaaGreat
namespace Go.Proofs.YtbaffippdifbpaaGreat
set_option linter.unusedVariables false
open Go.ChangeShapes Go.WideShapes Go.ChangeAt Go.RowKit
def wordN(m n:Int):ByteArray:=if m=1 then word1 n else if m=2 then word2 n else word3 n
@[go_sem] theorem word3_size(n:Int):(word3 n).size=3:=rfl
@[go_sem] theorem wordN_one(n:Int):wordN 1 n=word1 n:=rfl
@[go_sem] theorem wordN_two(n:Int):wordN 2 n=word2 n:=rfl
@[go_sem] theorem wordN_three(n:Int):wordN 3 n=word3 n:=rfl
def GivesOB{α:Type}[E:EncO α](w:World)(x:α)(b:Bool):Ending→World→Prop:=fun e w'=>∃ (vs:List Value) (χ:Nat→Col),e=.returned (.tuple #[.agg vs.toArray,.bool b])∧E.O w.heap.size χ 0 w' vs x∧∃ y:Later w,w'=y.w
section
variable {P:Program} {ops:Array Oper} {op:Oper} {a:Act} {w:World} {Q:Exit→Act→World→Prop} {S:World→Prop} {md:Region.Mode} {fuel:Nat} {listed:Array Bool} {i:Nat}
end
end Go.Proofs.YtbaffippdifbpaaGreat
namespace Go.Proofs.YtbaffippdifbpaaGreat
set_option linter.unusedVariables false
open Go.ChangeShapes Go.WideShapes Go.ChangeAt Go.RowKit
end Go.Proofs.YtbaffippdifbpaaGreat
namespace Go.Proofs.YtbaffippdifbpaaGreat
set_option linter.unusedVariables false
open Go.ChangeShapes Go.WideShapes Go.ChangeAt Go.RowKit
section
variable {P:Program} {ops:Array Oper} {op:Oper} {a:Act} {w:World} {Q:Exit→Act→World→Prop} {S:World→Prop} {md:Region.Mode} {fuel:Nat} {listed:Array Bool} {i:Nat}
end
end Go.Proofs.YtbaffippdifbpaaGreat
namespace Go.Proofs.YtbaffippdifbpaaGreat
set_option linter.unusedVariables false
open Go.ChangeShapes Go.WideShapes Go.ChangeAt Go.RowKit
def fileIn0(k:Nat):TFileIn:=⟨k,-1,-1,List.replicate 25 ⟨#[]⟩⟩
def fileOut0(k:Nat)(s:ByteArray):TFileOut:=⟨k,s,[],true⟩
def insOf:Nat→List ByteArray→List TFileIn
 | _,[]=>[]
 | k,_::r=>fileIn0 k::insOf (k+1) r
def outsOf:Nat→List ByteArray→List TFileOut
 | _,[]=>[]
 | k,s::r=>fileOut0 k s::outsOf (k+1) r
theorem insOf_len:∀ (l:List ByteArray) (k:Nat),(insOf k l).length=l.length
 | [],_=>rfl
 | _::r,k=>by simp[insOf,insOf_len r (k+1)]
theorem outsOf_len:∀ (l:List ByteArray) (k:Nat),(outsOf k l).length=l.length
 | [],_=>rfl
 | _::r,k=>by simp[outsOf,outsOf_len r (k+1)]
theorem insOf_snoc(y:ByteArray):∀ (l:List ByteArray) (k:Nat),insOf k (l++[y])=insOf k l++[fileIn0 (k+l.length)]
 | [],k=>by simp[insOf]
 | _::r,k=>by rw[List.cons_append,insOf,insOf_snoc y r (k+1),insOf,List.cons_append,List.length_cons,show k+1+r.length=k+(r.length+1)by omega]
theorem outsOf_snoc(y:ByteArray):∀ (l:List ByteArray) (k:Nat),outsOf k (l++[y])=outsOf k l++[fileOut0 (k+l.length) y]
 | [],k=>by simp[outsOf]
 | _::r,k=>by rw[List.cons_append,outsOf,outsOf_snoc y r (k+1),outsOf,List.cons_append,List.length_cons,show k+1+r.length=k+(r.length+1)by omega]
def newM(light:Int)(d:TDrift)(o:TOrbit)(pl:List Slot)(up down:TChannel)(room:Int)(L:List TLimit)(fs:List ByteArray):TMission :=
 ⟨0,light,d,o,pl,up,down,[],[],⟨[],⟨0,5,[],0⟩,⟨0,false,false⟩,⟨0,-1,false,⟨#[]⟩,0⟩,[],[],insOf 0 fs,List.replicate 8 false⟩,
  ⟨⟨0,false,false,0⟩,{ newBoard room L with Clock:=boardTime d.Rate d.Offset 0 },⟨0,0,⟨#[]⟩,[]⟩,0,fs,outsOf 0 fs,0,[]⟩,[],[],0⟩
def zeroM:TMission:=⟨0,0,⟨0,0⟩,⟨0,0,0⟩,[],⟨0,0,0⟩,⟨0,0,0⟩,[],[],⟨[],⟨0,0,[],0⟩,⟨0,false,false⟩,⟨0,0,false,⟨#[]⟩,0⟩,[],[],[],[]⟩,
  ⟨⟨0,false,false,0⟩,⟨0,[],false,[],[],[],⟨0,[],[]⟩,0,0,[]⟩,⟨0,0,⟨#[]⟩,[]⟩,0,[],[],0,[]⟩,[],[],0⟩
def newOk(light:Int)(d:TDrift)(o:TOrbit)(pl:List Slot)(up down:TChannel)(room:Int)(L:List TLimit)(fs:List ByteArray):Bool :=
 boardOk (newBoard room L) && (decide (fs.length=8) && missionOk (newM light d o pl up down room L fs))
def newMission(light:Int)(d:TDrift)(o:TOrbit)(pl:List Slot)(up down:TChannel)(room:Int)(L:List TLimit)(fs:List ByteArray):TMission :=
 if newOk light d o pl up down room L fs=true then newM light d o pl up down room L fs else zeroM
end Go.Proofs.YtbaffippdifbpaaGreat
namespace Go.Proofs.YtbaffippdifbpaaGreat
set_option linter.unusedVariables false
open Go.ChangeShapes Go.WideShapes Go.ChangeAt Go.RowKit
theorem totL_slots:∀ pl:List Slot,totL pl=pl.length
 | []=>rfl
 | x::r=>by
  have h:Enc.tot x=0:=rfl
  simp only[totL,totL_slots r,h,List.length_cons];omega
theorem totL_lims:∀ l:List TLimit,totL l=l.length
 | []=>rfl
 | x::r=>by
  have h:Enc.tot x=0:=rfl
  simp only[totL,totL_lims r,h,List.length_cons];omega
theorem totL_ins:∀ (l:List ByteArray) (k:Nat),totL (insOf k l)=26*l.length
 | [],_=>rfl
 | _::r,k=>by
  have h:Enc.tot (fileIn0 k)=25:=rfl
  simp only[insOf,totL,totL_ins r,h,List.length_cons];omega
theorem totL_outs:∀ (l:List ByteArray) (k:Nat),totL (outsOf k l)=totL l
 | [],_=>rfl
 | s::r,k=>by
  have h:Enc.tot (fileOut0 k s)=s.size+0:=rfl
  have h2:Enc.tot s=(s.size:Int):=rfl
  simp only[outsOf,totL,totL_outs r,h,h2];omega
theorem newM_tot{light:Int}{d:TDrift}{o:TOrbit}{pl:List Slot}{up down:TChannel}{room:Int}{L:List TLimit}{fs:List ByteArray}:Enc.tot (newM light d o pl up down room L fs)=pl.length+26*fs.length+16+L.length+2*totL fs:=by
 have h1:Enc.tot (newM light d o pl up down room L fs)=totL pl+0+0+(0+0+0+0+0+totL (insOf 0 fs)+8)+((8+totL L+0+0+0+0)+0+totL fs+totL (outsOf 0 fs)+0)+0+0:=rfl
 rw[h1,totL_slots,totL_ins,totL_outs,totL_lims];omega
theorem plan_okD{p s l:Int}{Q:List Request}(hQ:∀ r∈Q,i64 r.Id∧i64 r.Ready∧i64 r.Deadline):∀ x∈planAll p s l Q,okDSlot x:=fun x hx=>by
 obtain⟨-,r,hr,h1,h2⟩:=plan_mem x hx
 have h3:=inB_iff.1 h2
 obtain⟨k1,k2,k3⟩:=hQ r hr
 refine⟨?_,h1▸k1,trivial⟩
 unfold i64 at *;omega
theorem bt_i64(r o t:Int):i64 (boardTime r o t):=by
 unfold boardTime
 split
 ·rename_i h
  rw[Bool.and_eq_true,driftOk,Bool.and_eq_true]at h
  obtain⟨⟨h1,h2⟩,h3⟩:=h
  have h1:=inB_iff.1 h1;have h2:=inB_iff.1 h2;have h3:=inB_iff.1 h3
  have:=bd_mul h3.1 h3.2 h1.1 h1.2
  unfold i64;omega
 ·unfold i64;omega
theorem newM_okD{light:Int}{d:TDrift}{o:TOrbit}{pl:List Slot}{up down:TChannel}{room:Int}{L:List TLimit}{fs:List ByteArray}(h1:i64 light)(h2:okDTDrift d)(h3:okDTOrbit o)(h4:okDTChannel up)(h5:okDTChannel down)(h6:i64 room):okDTMission (newM light d o pl up down room L fs):=by
 have z:i64 0:=by unfold i64;omega
 have z5:i64 5:=by unfold i64;omega
 have z1:i64 (-1):=by unfold i64;omega
 exact⟨z,h1,h2,h3,h4,h5,⟨⟨z,z5,z,trivial⟩,⟨z,trivial⟩,⟨z,z1,Nat.zero_le _,z,trivial⟩,trivial⟩,⟨⟨z,z,trivial⟩,⟨bt_i64 _ _ _,⟨h6,trivial⟩,z,z,trivial⟩,⟨z,z,Nat.zero_le _,trivial⟩,z,z,trivial⟩,z,trivial⟩
end Go.Proofs.YtbaffippdifbpaaGreat
namespace Go.Proofs.YtbaffippdifbpaaGreat
set_option linter.unusedVariables false
open Go.ChangeShapes Go.WideShapes Go.ChangeAt Go.RowKit
theorem Own.tyAt{α:Type}{enc:α→List Value}{T size B:Nat}{w:World}{a:Option Addr}{c:Nat}{l:List α}(h:Own enc T size B w a c l):∀ k,blkOf a=some k→∃ D,w.heap[k]?=some (.cells D T (0,0)):=by
 obtain⟨-,-,⟨h1,-⟩|⟨g,cap,cur,hv,-,hh,-⟩⟩:=h
 ·simp only[Value.slice.injEq]at h1
  obtain⟨rfl,-⟩:=h1
  exact fun k hk=>by cases hk
 ·simp only[Value.slice.injEq]at hv
  obtain⟨rfl,-⟩:=hv
  exact fun k hk=>by cases hk;exact⟨cur,hh⟩
def tyOf(w:World)(b:Nat):Nat:=match w.heap[b]? with|some (.cells _ T _)=>T|_=>0
def newCol(w:World)(U:Nat)(χ:Nat→Col)(b:Nat):Col :=
 if tyOf w b=205 then(0,0)else if tyOf w b=4 then(8,0)else if tyOf w b=3 then(9,0)else if tyOf w b=149 then(10,0)else if tyOf w b=143 then(18,0)else
 if b<U then(17,0)else((χ b).1+7,(χ b).2)
theorem newM_own{B U:Nat}{w:World}{χ1 χ2:Nat→Col}{light:Int}{d:TDrift}{o:TOrbit}{pl:List Slot}{up down:TChannel}{room:Int}{L:List TLimit}{fs:List ByteArray}{a0 a7 a8 a9 a10 a17 a18:Option Addr}{c0 c7 c8 c9 c10 c17 c18:Nat}{rows:List (NRow TFileIn)}{rows2:List (NRow TFileOut)}
  (h0:Own encSlot 205 2 B w a0 c0 pl) (g0:∀ x∈pl,okDSlot x) (h7:OwnN U χ1 0 w a7 c7 rows) (e7:rows.map (·.x)=insOf 0 fs) (hU:B≤U) (h8:Own encBoo 4 1 B w a8 c8 (List.replicate 8 false)) (h9:Own encInt 3 1 B w a9 c9 (List.replicate 8 0))
  (h10:Own encTLimit 149 3 B w a10 c10 L) (g10:∀ x∈L,okDTLimit x) (h17:Own encStr 9 1 B w a17 c17 fs) (g17:∀ s∈fs,s.size≤9223372036854775807) (l17:∀ k,blkOf a17=some k→k<U)
  (h18:OwnN B χ2 0 w a18 c18 rows2) (e18:rows2.map (·.x)=outsOf 0 fs) (n18:∀ r∈rows2,r.a=none) (hok:okDTMission (newM light d o pl up down room L fs)) :
  TMissionO B (newCol w U χ1) 0 w ⟨a0,c0,none,0,none,0,none,0,none,0,none,0,none,0,a7,c7,a8,c8,a9,c9,a10,c10,none,0,none,0,none,0,none,0,none,0,none,0,a17,c17,a18,c18,none,0,none,0,none,0⟩ (newM light d o pl up down room L fs):=by
 have ty:∀ {b:Nat} {D:Array Value} {T:Nat},w.heap[b]?=some (.cells D T (0,0))→tyOf w b=T:=fun h=>by rw[tyOf,h]
 refine⟨⟨h0,fun k hk=>?_,g0⟩,OwnC.nil,OwnC.nil,OwnC.nil,OwnC.nil,OwnC.nil,OwnC.nil,⟨rows,e7,(h7.mono hU).own,fun k hk=>?_,fun k r hr=>⟨(h7.each k r hr).1,((h7.each k r hr).2.own).mono hU,fun b hb=>?_,(h7.each k r hr).2.good⟩⟩,⟨h8,fun k hk=>?_,fun _ _=>trivial⟩,
  ⟨h9,fun k hk=>?_,fun x hx=>by rw[List.eq_of_mem_replicate hx];show i64 0;unfold i64;omega⟩,⟨h10,fun k hk=>?_,g10⟩,OwnC.nil,OwnC.nil,OwnC.nil,OwnC.nil,OwnC.nil,OwnC.nil,⟨h17,fun k hk=>?_,g17⟩,⟨rows2,e18,h18.own,fun k hk=>?_,fun k r hr=>⟨(h18.each k r hr).1,(h18.each k r hr).2.own,fun b hb=>?_,(h18.each k r hr).2.good⟩⟩,OwnC.nil,OwnC.nil,OwnC.nil,hok⟩
 ·obtain⟨D,hD⟩:=h0.tyAt k hk;simp[newCol,ty hD]
 ·obtain⟨D,hD⟩:=h7.own.tyAt k hk
  have h2:=(h7.own.blk k hk).1
  have h3:=h7.col k hk
  simp[newCol,ty (show w.heap[k]?=some (.cells D 140 (0,0))from hD),show ¬ k<U by omega,h3]
 ·obtain⟨D,hD⟩:=(h7.each k r hr).2.own.tyAt b hb
  have h2:=((h7.each k r hr).2.own.blk b hb).1
  have h3:=(h7.each k r hr).2.col b hb
  simp[newCol,ty (show w.heap[b]?=some (.cells D 9 (0,0))from hD),show ¬ b<U by omega,h3]
 ·obtain⟨D,hD⟩:=h8.tyAt k hk;simp[newCol,ty hD]
 ·obtain⟨D,hD⟩:=h9.tyAt k hk;simp[newCol,ty hD]
 ·obtain⟨D,hD⟩:=h10.tyAt k hk;simp[newCol,ty hD]
 ·obtain⟨D,hD⟩:=h17.tyAt k hk;simp[newCol,ty hD,l17 k hk]
 ·obtain⟨D,hD⟩:=h18.own.tyAt k hk;simp[newCol,ty (show w.heap[k]?=some (.cells D 143 (0,0))from hD)]
 ·rw[n18 r (List.mem_of_getElem? hr)]at hb;cases hb
theorem zeroM_own{B:Nat}{χ:Nat→Col}{w:World}:EncO.O B χ 0 w [.int .i64 0,.int .i64 0,.int .i64 0,.int .i64 0,.int .i64 0,.int .i64 0,.int .i64 0,.slice none 0 0,.int .i64 0,.int .i64 0,.int .i64 0,.int .i64 0,.int .i64 0,.int .i64 0,.slice none 0 0,.slice none 0 0,.slice none 0 0,.int .i64 0,.int .i64 0,.slice none 0 0,.int .i64 0,.int .i64 0,.bool false,.bool false,.int .i64 0,.int .i64 0,.bool false,.string ⟨#[]⟩,.int .i64 0,.slice none 0 0,.slice none 0 0,.slice none 0 0,.slice none 0 0,.int .i64 0,.bool false,.bool false,.int .i64 0,.int .i64 0,.slice none 0 0,.bool false,.slice none 0 0,.slice none 0 0,.slice none 0 0,.int .i64 0,.slice none 0 0,.slice none 0 0,.int .i64 0,.int .i64 0,.slice none 0 0,.int .i64 0,.int .i64 0,.string ⟨#[]⟩,.slice none 0 0,.int .i64 0,.slice none 0 0,.slice none 0 0,.int .i64 0,.slice none 0 0,.slice none 0 0,.slice none 0 0,.int .i64 0] zeroM :=
 ⟨⟨none,0,none,0,none,0,none,0,none,0,none,0,none,0,none,0,none,0,none,0,none,0,none,0,none,0,none,0,none,0,none,0,none,0,none,0,none,0,none,0,none,0,none,0⟩,rfl,OwnC.nil,OwnC.nil,OwnC.nil,OwnC.nil,OwnC.nil,OwnC.nil,OwnC.nil,⟨[],rfl,OwnN.nil⟩,OwnC.nil,OwnC.nil,OwnC.nil,OwnC.nil,OwnC.nil,OwnC.nil,OwnC.nil,OwnC.nil,OwnC.nil,OwnC.nil,⟨[],rfl,OwnN.nil⟩,OwnC.nil,OwnC.nil,OwnC.nil,by
  have z:i64 0:=by unfold i64;omega
  exact⟨z,z,⟨z,z,trivial⟩,⟨z,z,z,trivial⟩,⟨z,z,z,trivial⟩,⟨z,z,z,trivial⟩,⟨⟨z,z,z,trivial⟩,⟨z,trivial⟩,⟨z,z,Nat.zero_le _,z,trivial⟩,trivial⟩,⟨⟨z,z,trivial⟩,⟨z,⟨z,trivial⟩,z,z,trivial⟩,⟨z,z,Nat.zero_le _,trivial⟩,z,z,trivial⟩,z,trivial⟩⟩
end Go.Proofs.YtbaffippdifbpaaGreat
