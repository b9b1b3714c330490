/- The contract of MissionOk, the code's. No condition but on sizes. The contract of MissionOk, the reference's. No condition but on sizes. The contracts of MissionOk, both sides. No condition but on sizes. The contracts of LedgerOk, both sides. No condition but on sizes. What walks of functions from a mission to a mission share. No condition but on sizes. A mission's marks, and what is held. No condition but on sizes. EncodeOrder of both sides, and what GiveOrder comes to. No condition but on sizes. An offer more, in a mission of the call's own. No condition but on sizes. What a new mission is. -/
import Derived.Test.YtbaffippdifbpaaGreatSM38
import Derived.Test.YtbaffippdifbpaaGreatSOkAi
import Derived.Test.YtbaffippdifbpaaGreatSOkAs
import Derived.Test.YtbaffippdifbpaaGreatSOkGs
import Derived.Test.YtbaffippdifbpaaGreatSM31
import Derived.Test.YtbaffippdifbpaaGreatSM34
import Derived.Test.YtbaffippdifbpaaGreatSTimT
import Derived.Test.YtbaffippdifbpaaGreatSCopyMI
import Derived.Test.YtbaffippdifbpaaGreatSCopyMS
import Derived.Test.YtbaffippdifbpaaGreatSLto3
import Derived.Test.YtbaffippdifbpaaGreatSM16
import Derived.Test.YtbaffippdifbpaaGreatSM25
import Derived.Test.YtbaffippdifbpaaGreatSNB
import Derived.Test.YtbaffippdifbpaaGreatSM5
namespace Go.Proofs.YtbaffippdifbpaaGreat
set_option linter.unusedVariables false
open Go.ChangeShapes Go.WideShapes Go.ChangeAt Go.RowKit
set_option maxRecDepth 100000 in
set_option maxHeartbeats 8000000 in
theorem c_iMissionOk{B:Nat}{vs:List Value}{m:TMission}{w:World}(h:Enc.Rd B w vs m)(ht:Enc.tot m≤100000000) :
  Calls Tryz.prog 55 #[.agg vs.toArray] w (Gives w (.bool (missionOk m))):=by
 obtain⟨A,hvs,F⟩:=h
 have M:=lH (mission_small ht)
 have FH:=lH F
 clear F ht
 obtain⟨n0,hn0⟩:∃ n,m.Plan.length=n:=⟨_,rfl⟩
 obtain⟨n20,hn20⟩:∃ n,m.Offered.length=n:=⟨_,rfl⟩
 obtain⟨n21,hn21⟩:∃ n,m.Took.length=n:=⟨_,rfl⟩
 rw[hn0,hn20,hn21]at hvs
 have hm0:n0≤100000000:=hn0▸M.out.m0
 have hm20:n20≤100000000:=hn20▸M.out.m20
 have hm21:n21≤100000000:=hn21▸M.out.m21
 have HN0:=lH hn0;have HN20:=lH hn20;have HN21:=lH hn21
 clear hn0 hn20 hn21
 have HB:=lH (Held.new w vs 62 w.heap.size rfl)
 have e0:=HB.out.cellG 0 (.int .i64 m.Time) (by rw[hvs];rfl)
 have e1:=HB.out.cellG 1 (.int .i64 m.Light) (by rw[hvs];rfl)
 have e7:=HB.out.cellG 7 (.slice A.a0 n0 A.c0) (by rw[hvs];rfl)
 have e14:=HB.out.cellG 14 (.slice A.a1 m.Ups.length A.c1) (by rw[hvs];rfl)
 have e15:=HB.out.cellG 15 (.slice A.a2 m.Downs.length A.c2) (by rw[hvs];rfl)
 have e58:=HB.out.cellG 58 (.slice A.a20 n20 A.c20) (by rw[hvs];rfl)
 have e59:=HB.out.cellG 59 (.slice A.a21 n21 A.c21) (by rw[hvs];rfl)
 have e60:=HB.out.cellG 60 (.int .i64 m.Bad) (by rw[hvs];rfl)
 have HVS:=lH hvs;clear hvs
 go_enter Tryz.func55,Tryz.ntmps55
 go_wp2_with (first|((with_reducible refine wp_region_later (by kernel_rfl) (by kernel_rfl) ?_);(repeat(first|go_big_quiet_step (first|fail)));refine wpQuiet_nil ?_;rintro _ ⟨x,rfl⟩))
 refine(c_ibetween).mono ?_
 rintro _ _ ⟨rfl,y1,rfl⟩
 cases g1:inB m.Time 0 1000000
 ·have HF:=lH (show missionOk m=false from missionOk_no1 g1)
  clear g1
  go_wp2_with (first|((with_reducible refine wp_region_later (by kernel_rfl) (by kernel_rfl) ?_);(repeat(first|go_big_quiet_step (first|fail)));refine wpQuiet_nil ?_;rintro _ ⟨x,rfl⟩))
  go_ret
  exact Gives.mk (by rw[HF.out];rfl)
 have T1:=lH g1;clear g1
 go_wp2_with (first|((with_reducible refine wp_region_later (by kernel_rfl) (by kernel_rfl) ?_);(repeat(first|go_big_quiet_step (first|fail)));refine wpQuiet_nil ?_;rintro _ ⟨x,rfl⟩))
 refine(c_ibetween).mono ?_
 rintro _ _ ⟨rfl,y2,rfl⟩
 cases g2:inB m.Light 0 50
 ·have HF:=lH (show missionOk m=false from missionOk_no2 g2)
  clear g2
  go_wp2_with (first|((with_reducible refine wp_region_later (by kernel_rfl) (by kernel_rfl) ?_);(repeat(first|go_big_quiet_step (first|fail)));refine wpQuiet_nil ?_;rintro _ ⟨x,rfl⟩))
  go_ret
  exact Gives.mk (by rw[HF.out];rfl)
 have T2:=lH g2;clear g2
 go_wp2_with (first|((with_reducible refine wp_region_later (by kernel_rfl) (by kernel_rfl) ?_);(repeat(first|go_big_quiet_step (first|fail)));refine wpQuiet_nil ?_;rintro _ ⟨x,rfl⟩))
 refine(c_ibetween).mono ?_
 rintro _ _ ⟨rfl,y3,rfl⟩
 cases g3:inB m.Bad 0 1000000
 ·have HF:=lH (show missionOk m=false from missionOk_no3 g3)
  clear g3
  go_wp2_with (first|((with_reducible refine wp_region_later (by kernel_rfl) (by kernel_rfl) ?_);(repeat(first|go_big_quiet_step (first|fail)));refine wpQuiet_nil ?_;rintro _ ⟨x,rfl⟩))
  go_ret
  exact Gives.mk (by rw[HF.out];rfl)
 have T3:=lH g3;clear g3
 go_wp2_with (first|((with_reducible refine wp_region_later (by kernel_rfl) (by kernel_rfl) ?_);(repeat(first|go_big_quiet_step (first|fail)));refine wpQuiet_nil ?_;rintro _ ⟨x,rfl⟩)|(refine stepLoadW (by first|kernel_rfl|go_simp) _ _ rfl w.heap.size 2 rfl (row:=[.int .i64 m.Drift.Rate,.int .i64 m.Drift.Offset]) (HB.out.to inferInstance) _ Tryz.underlying25 rfl (by kernel_rfl) (by rw[HVS.out];kernel_rfl) ?_)|(refine step_loadw (by first|kernel_rfl|go_simp) _ _ rfl w.heap.size 2 rfl (row:=[.int .i64 m.Drift.Rate,.int .i64 m.Drift.Offset]) (HB.out.to inferInstance) _ Tryz.underlying25 rfl (by kernel_rfl) (by rw[HVS.out];kernel_rfl) ?_)|(refine step_loadp _ _ rfl w.heap.size 2 rfl (row:=[.int .i64 m.Drift.Rate,.int .i64 m.Drift.Offset]) (HB.out.to inferInstance) _ Tryz.underlying25 rfl (by kernel_rfl) (by rw[HVS.out];kernel_rfl) ?_))
 refine(k_iDriftOk (x:=m.Drift)).mono ?_
 rintro _ _ ⟨rfl,y4,rfl⟩
 cases g4:driftOkT m.Drift
 ·have HF:=lH (show missionOk m=false from missionOk_no4 g4)
  clear g4
  go_wp2_with (first|((with_reducible refine wp_region_later (by kernel_rfl) (by kernel_rfl) ?_);(repeat(first|go_big_quiet_step (first|fail)));refine wpQuiet_nil ?_;rintro _ ⟨x,rfl⟩))
  go_ret
  exact Gives.mk (by rw[HF.out];rfl)
 have T4:=lH g4;clear g4
 go_wp2_with (first|((with_reducible refine wp_region_later (by kernel_rfl) (by kernel_rfl) ?_);(repeat(first|go_big_quiet_step (first|fail)));refine wpQuiet_nil ?_;rintro _ ⟨x,rfl⟩)|(refine stepLoadW (by first|kernel_rfl|go_simp) _ _ rfl w.heap.size 4 rfl (row:=[.int .i64 m.Orbit.Period,.int .i64 m.Orbit.Start,.int .i64 m.Orbit.Length]) (HB.out.to inferInstance) _ Tryz.underlying27 rfl (by kernel_rfl) (by rw[HVS.out];kernel_rfl) ?_)|(refine step_loadw (by first|kernel_rfl|go_simp) _ _ rfl w.heap.size 4 rfl (row:=[.int .i64 m.Orbit.Period,.int .i64 m.Orbit.Start,.int .i64 m.Orbit.Length]) (HB.out.to inferInstance) _ Tryz.underlying27 rfl (by kernel_rfl) (by rw[HVS.out];kernel_rfl) ?_)|(refine step_loadp _ _ rfl w.heap.size 4 rfl (row:=[.int .i64 m.Orbit.Period,.int .i64 m.Orbit.Start,.int .i64 m.Orbit.Length]) (HB.out.to inferInstance) _ Tryz.underlying27 rfl (by kernel_rfl) (by rw[HVS.out];kernel_rfl) ?_))
 refine(k_iOrbitOk (x:=m.Orbit)).mono ?_
 rintro _ _ ⟨rfl,y5,rfl⟩
 cases g5:orbitOkT m.Orbit
 ·have HF:=lH (show missionOk m=false from missionOk_no5 g5)
  clear g5
  go_wp2_with (first|((with_reducible refine wp_region_later (by kernel_rfl) (by kernel_rfl) ?_);(repeat(first|go_big_quiet_step (first|fail)));refine wpQuiet_nil ?_;rintro _ ⟨x,rfl⟩))
  go_ret
  exact Gives.mk (by rw[HF.out];rfl)
 have T5:=lH g5;clear g5
 go_wp2_with (first|((with_reducible refine wp_region_later (by kernel_rfl) (by kernel_rfl) ?_);(repeat(first|go_big_quiet_step (first|fail)));refine wpQuiet_nil ?_;rintro _ ⟨x,rfl⟩)|(refine stepLoadW (by first|kernel_rfl|go_simp) _ _ rfl w.heap.size 8 rfl (row:=[.int .i64 m.Up.Seed,.int .i64 m.Up.Burst,.int .i64 m.Up.Loss]) (HB.out.to inferInstance) _ Tryz.underlying30 rfl (by kernel_rfl) (by rw[HVS.out];kernel_rfl) ?_)|(refine step_loadw (by first|kernel_rfl|go_simp) _ _ rfl w.heap.size 8 rfl (row:=[.int .i64 m.Up.Seed,.int .i64 m.Up.Burst,.int .i64 m.Up.Loss]) (HB.out.to inferInstance) _ Tryz.underlying30 rfl (by kernel_rfl) (by rw[HVS.out];kernel_rfl) ?_)|(refine step_loadp _ _ rfl w.heap.size 8 rfl (row:=[.int .i64 m.Up.Seed,.int .i64 m.Up.Burst,.int .i64 m.Up.Loss]) (HB.out.to inferInstance) _ Tryz.underlying30 rfl (by kernel_rfl) (by rw[HVS.out];kernel_rfl) ?_))
 refine(k_iChannelOk (x:=m.Up)).mono ?_
 rintro _ _ ⟨rfl,y6,rfl⟩
 cases g6:channelOk m.Up
 ·have HF:=lH (show missionOk m=false from missionOk_no6 g6)
  clear g6
  go_wp2_with (first|((with_reducible refine wp_region_later (by kernel_rfl) (by kernel_rfl) ?_);(repeat(first|go_big_quiet_step (first|fail)));refine wpQuiet_nil ?_;rintro _ ⟨x,rfl⟩))
  go_ret
  exact Gives.mk (by rw[HF.out];rfl)
 have T6:=lH g6;clear g6
 go_wp2_with (first|((with_reducible refine wp_region_later (by kernel_rfl) (by kernel_rfl) ?_);(repeat(first|go_big_quiet_step (first|fail)));refine wpQuiet_nil ?_;rintro _ ⟨x,rfl⟩)|(refine stepLoadW (by first|kernel_rfl|go_simp) _ _ rfl w.heap.size 11 rfl (row:=[.int .i64 m.Down.Seed,.int .i64 m.Down.Burst,.int .i64 m.Down.Loss]) (HB.out.to inferInstance) _ Tryz.underlying30 rfl (by kernel_rfl) (by rw[HVS.out];kernel_rfl) ?_)|(refine step_loadw (by first|kernel_rfl|go_simp) _ _ rfl w.heap.size 11 rfl (row:=[.int .i64 m.Down.Seed,.int .i64 m.Down.Burst,.int .i64 m.Down.Loss]) (HB.out.to inferInstance) _ Tryz.underlying30 rfl (by kernel_rfl) (by rw[HVS.out];kernel_rfl) ?_)|(refine step_loadp _ _ rfl w.heap.size 11 rfl (row:=[.int .i64 m.Down.Seed,.int .i64 m.Down.Burst,.int .i64 m.Down.Loss]) (HB.out.to inferInstance) _ Tryz.underlying30 rfl (by kernel_rfl) (by rw[HVS.out];kernel_rfl) ?_))
 refine(k_iChannelOk (x:=m.Down)).mono ?_
 rintro _ _ ⟨rfl,y7,rfl⟩
 cases g7:channelOk m.Down
 ·have HF:=lH (show missionOk m=false from missionOk_no7 g7)
  clear g7
  go_wp2_with (first|((with_reducible refine wp_region_later (by kernel_rfl) (by kernel_rfl) ?_);(repeat(first|go_big_quiet_step (first|fail)));refine wpQuiet_nil ?_;rintro _ ⟨x,rfl⟩))
  go_ret
  exact Gives.mk (by rw[HF.out];rfl)
 have T7:=lH g7;clear g7
 by_cases h8:n0≤1500
 rotate_left
 ·have k8:decide (1500<(n0:Int))=true:=by simp;omega
  have k8b:decide ((n0:Int)≤1500)=false:=by simp;omega
  have HF:=lH (show missionOk m=false from missionOk_no8 (by rw[HN0.out];exact k8b))
  clear h8
  go_wp2_with (first|((with_reducible refine wp_region_later (by kernel_rfl) (by kernel_rfl) ?_);(repeat(first|go_big_quiet_step (first|fail)|simp only[k8]|simp only[k8b]));refine wpQuiet_nil ?_;rintro _ ⟨x,rfl⟩))
  go_ret
  exact Gives.mk (by rw[HF.out];rfl)
 have k8:decide (1500<(n0:Int))=false:=by simp;omega
 have k8b:decide ((n0:Int)≤1500)=true:=by simp;omega
 have T8:=lH (show decide ((m.Plan.length:Int)≤1500)=true by rw[HN0.out];exact k8b)
 clear h8
 go_wp2_with (first|((with_reducible refine wp_region_later (by kernel_rfl) (by kernel_rfl) ?_);(repeat(first|go_big_quiet_step (first|fail)|simp only[k8]|simp only[k8b]));refine wpQuiet_nil ?_;rintro _ ⟨x,rfl⟩))
 refine(k_iflightsOkN (l:=m.Ups) FH.out.q1 rfl M.out.m1).mono ?_
 rintro _ _ ⟨rfl,y9,rfl⟩
 cases g9:flightsOk m.Ups
 ·have HF:=lH (show missionOk m=false from missionOk_no9 g9)
  clear g9
  go_wp2_with (first|((with_reducible refine wp_region_later (by kernel_rfl) (by kernel_rfl) ?_);(repeat(first|go_big_quiet_step (first|fail)));refine wpQuiet_nil ?_;rintro _ ⟨x,rfl⟩))
  go_ret
  exact Gives.mk (by rw[HF.out];rfl)
 have T9:=lH g9;clear g9
 go_wp2_with (first|((with_reducible refine wp_region_later (by kernel_rfl) (by kernel_rfl) ?_);(repeat(first|go_big_quiet_step (first|fail)|simp only[k8]|simp only[k8b]));refine wpQuiet_nil ?_;rintro _ ⟨x,rfl⟩))
 refine(k_iflightsOkN (l:=m.Downs) FH.out.q2 rfl M.out.m2).mono ?_
 rintro _ _ ⟨rfl,y10,rfl⟩
 cases g10:flightsOk m.Downs
 ·have HF:=lH (show missionOk m=false from missionOk_no10 g10)
  clear g10
  go_wp2_with (first|((with_reducible refine wp_region_later (by kernel_rfl) (by kernel_rfl) ?_);(repeat(first|go_big_quiet_step (first|fail)));refine wpQuiet_nil ?_;rintro _ ⟨x,rfl⟩))
  go_ret
  exact Gives.mk (by rw[HF.out];rfl)
 have T10:=lH g10;clear g10
 go_wp2_with (first|((with_reducible refine wp_region_later (by kernel_rfl) (by kernel_rfl) ?_);(repeat(first|go_big_quiet_step (first|fail)|simp only[k8]|simp only[k8b]));refine wpQuiet_nil ?_;rintro _ ⟨x,rfl⟩)|(refine stepLoadW (by first|kernel_rfl|go_simp) _ _ rfl w.heap.size 16 rfl (row:=(cGround m.Ground A.a3 A.c3 A.a4 A.c4 A.a5 A.c5 A.a6 A.c6 A.a7 A.c7 A.a8 A.c8)) (HB.out.to inferInstance) _ Tryz.underlying45 rfl (by kernel_rfl) (by rw[HVS.out];kernel_rfl) ?_)|(refine step_loadw (by first|kernel_rfl|go_simp) _ _ rfl w.heap.size 16 rfl (row:=(cGround m.Ground A.a3 A.c3 A.a4 A.c4 A.a5 A.c5 A.a6 A.c6 A.a7 A.c7 A.a8 A.c8)) (HB.out.to inferInstance) _ Tryz.underlying45 rfl (by kernel_rfl) (by rw[HVS.out];kernel_rfl) ?_)|(refine step_loadp _ _ rfl w.heap.size 16 rfl (row:=(cGround m.Ground A.a3 A.c3 A.a4 A.c4 A.a5 A.c5 A.a6 A.c6 A.a7 A.c7 A.a8 A.c8)) (HB.out.to inferInstance) _ Tryz.underlying45 rfl (by kernel_rfl) (by rw[HVS.out];kernel_rfl) ?_))
 refine(k_igroundOk (bd:=m.Ground) FH.out.q3 FH.out.q4 FH.out.q5 FH.out.q6 FH.out.q7 FH.out.q8 FH.out.ok.2.2.2.2.2.2.1 rfl rfl rfl rfl rfl rfl M.out.m3 M.out.m4 M.out.m5 M.out.m6 M.out.m7 M.out.m8 M.out.hxf).mono ?_
 rintro _ _ ⟨rfl,y11,rfl⟩
 cases g11:groundOk m.Ground
 ·have HF:=lH (show missionOk m=false from missionOk_no11 g11)
  clear g11
  go_wp2_with (first|((with_reducible refine wp_region_later (by kernel_rfl) (by kernel_rfl) ?_);(repeat(first|go_big_quiet_step (first|fail)));refine wpQuiet_nil ?_;rintro _ ⟨x,rfl⟩))
  go_ret
  exact Gives.mk (by rw[HF.out];rfl)
 have T11:=lH g11;clear g11
 go_wp2_with (first|((with_reducible refine wp_region_later (by kernel_rfl) (by kernel_rfl) ?_);(repeat(first|go_big_quiet_step (first|fail)|simp only[k8]|simp only[k8b]));refine wpQuiet_nil ?_;rintro _ ⟨x,rfl⟩)|(refine stepLoadW (by first|kernel_rfl|go_simp) _ _ rfl w.heap.size 33 rfl (row:=(cSpace m.Space A.a9 A.c9 A.a10 A.c10 A.a11 A.c11 A.a12 A.c12 A.a13 A.c13 A.a14 A.c14 A.a15 A.c15 A.a16 A.c16 A.a17 A.c17 A.a18 A.c18 A.a19 A.c19)) (HB.out.to inferInstance) _ Tryz.underlying60 rfl (by kernel_rfl) (by rw[HVS.out];kernel_rfl) ?_)|(refine step_loadw (by first|kernel_rfl|go_simp) _ _ rfl w.heap.size 33 rfl (row:=(cSpace m.Space A.a9 A.c9 A.a10 A.c10 A.a11 A.c11 A.a12 A.c12 A.a13 A.c13 A.a14 A.c14 A.a15 A.c15 A.a16 A.c16 A.a17 A.c17 A.a18 A.c18 A.a19 A.c19)) (HB.out.to inferInstance) _ Tryz.underlying60 rfl (by kernel_rfl) (by rw[HVS.out];kernel_rfl) ?_)|(refine step_loadp _ _ rfl w.heap.size 33 rfl (row:=(cSpace m.Space A.a9 A.c9 A.a10 A.c10 A.a11 A.c11 A.a12 A.c12 A.a13 A.c13 A.a14 A.c14 A.a15 A.c15 A.a16 A.c16 A.a17 A.c17 A.a18 A.c18 A.a19 A.c19)) (HB.out.to inferInstance) _ Tryz.underlying60 rfl (by kernel_rfl) (by rw[HVS.out];kernel_rfl) ?_))
 refine(k_ispaceOk (bd:=m.Space) FH.out.q9 FH.out.q10 FH.out.q11 FH.out.q12 FH.out.q13 FH.out.q14 FH.out.q15 FH.out.q16 FH.out.q17 FH.out.q18 FH.out.q19 FH.out.ok.2.2.2.2.2.2.2.1 rfl rfl rfl rfl rfl rfl rfl rfl rfl rfl rfl M.out.m9 M.out.m10 M.out.m11 M.out.m12 M.out.m13 M.out.m14 M.out.m15 M.out.m16 M.out.m17 M.out.m18 M.out.m19 M.out.hzr M.out.hxo M.out.hxs).mono ?_
 rintro _ _ ⟨rfl,y12,rfl⟩
 cases g12:spaceOk m.Space
 ·have HF:=lH (show missionOk m=false from missionOk_no12 g12)
  clear g12
  go_wp2_with (first|((with_reducible refine wp_region_later (by kernel_rfl) (by kernel_rfl) ?_);(repeat(first|go_big_quiet_step (first|fail)));refine wpQuiet_nil ?_;rintro _ ⟨x,rfl⟩))
  go_ret
  exact Gives.mk (by rw[HF.out];rfl)
 have T12:=lH g12;clear g12
 by_cases h13:n20≤5000
 rotate_left
 ·have k13:decide (5000<(n20:Int))=true:=by simp;omega
  have k13b:decide ((n20:Int)≤5000)=false:=by simp;omega
  have HF:=lH (show missionOk m=false from missionOk_no13 (by rw[HN20.out];exact k13b))
  clear h13
  go_wp2_with (first|((with_reducible refine wp_region_later (by kernel_rfl) (by kernel_rfl) ?_);(repeat(first|go_big_quiet_step (first|fail)|simp only[k8]|simp only[k8b]|simp only[k13]|simp only[k13b]));refine wpQuiet_nil ?_;rintro _ ⟨x,rfl⟩))
  go_ret
  exact Gives.mk (by rw[HF.out];rfl)
 have k13:decide (5000<(n20:Int))=false:=by simp;omega
 have k13b:decide ((n20:Int)≤5000)=true:=by simp;omega
 have T13:=lH (show decide ((m.Offered.length:Int)≤5000)=true by rw[HN20.out];exact k13b)
 clear h13
 by_cases h14:n21≤5000
 rotate_left
 ·have k14:decide (5000<(n21:Int))=true:=by simp;omega
  have k14b:decide ((n21:Int)≤5000)=false:=by simp;omega
  have HF:=lH (show missionOk m=false from missionOk_no14 (by rw[HN21.out];exact k14b))
  clear h14
  go_wp2_with (first|((with_reducible refine wp_region_later (by kernel_rfl) (by kernel_rfl) ?_);(repeat(first|go_big_quiet_step (first|fail)|simp only[k8]|simp only[k8b]|simp only[k13]|simp only[k13b]|simp only[k14]|simp only[k14b]));refine wpQuiet_nil ?_;rintro _ ⟨x,rfl⟩))
  go_ret
  exact Gives.mk (by rw[HF.out];rfl)
 have k14:decide (5000<(n21:Int))=false:=by simp;omega
 have k14b:decide ((n21:Int)≤5000)=true:=by simp;omega
 have T14:=lH (show decide ((m.Took.length:Int)≤5000)=true by rw[HN21.out];exact k14b)
 clear h14
 go_wp2_with (first|((with_reducible refine wp_region_later (by kernel_rfl) (by kernel_rfl) ?_);(repeat(first|go_big_quiet_step (first|fail)|simp only[k8]|simp only[k8b]|simp only[k13]|simp only[k13b]|simp only[k14]|simp only[k14b]));refine wpQuiet_nil ?_;rintro _ ⟨x,rfl⟩))
 go_ret
 exact Gives.mk (by rw[missionOk_yes T1.out T2.out T3.out T4.out T5.out T6.out T7.out T8.out T9.out T10.out T11.out T12.out T13.out T14.out];rfl)
end Go.Proofs.YtbaffippdifbpaaGreat
namespace Go.Proofs.YtbaffippdifbpaaGreat
set_option linter.unusedVariables false
open Go.ChangeShapes Go.WideShapes Go.ChangeAt Go.RowKit
set_option maxRecDepth 100000 in
set_option maxHeartbeats 8000000 in
theorem c_sMissionOk{B:Nat}{vs:List Value}{m:TMission}{w:World}(h:Enc.Rd B w vs m)(ht:Enc.tot m≤100000000) :
  Calls Tryz.prog 67 #[.agg vs.toArray] w (Gives w (.bool (missionOk m))):=by
 obtain⟨A,hvs,F⟩:=h
 have M:=lH (mission_small ht)
 have FH:=lH F
 clear F ht
 obtain⟨n0,hn0⟩:∃ n,m.Plan.length=n:=⟨_,rfl⟩
 obtain⟨n20,hn20⟩:∃ n,m.Offered.length=n:=⟨_,rfl⟩
 obtain⟨n21,hn21⟩:∃ n,m.Took.length=n:=⟨_,rfl⟩
 rw[hn0,hn20,hn21]at hvs
 have hm0:n0≤100000000:=hn0▸M.out.m0
 have hm20:n20≤100000000:=hn20▸M.out.m20
 have hm21:n21≤100000000:=hn21▸M.out.m21
 have HN0:=lH hn0;have HN20:=lH hn20;have HN21:=lH hn21
 clear hn0 hn20 hn21
 have HB:=lH (Held.new w vs 62 w.heap.size rfl)
 have e0:=HB.out.cellG 0 (.int .i64 m.Time) (by rw[hvs];rfl)
 have e1:=HB.out.cellG 1 (.int .i64 m.Light) (by rw[hvs];rfl)
 have e7:=HB.out.cellG 7 (.slice A.a0 n0 A.c0) (by rw[hvs];rfl)
 have e14:=HB.out.cellG 14 (.slice A.a1 m.Ups.length A.c1) (by rw[hvs];rfl)
 have e15:=HB.out.cellG 15 (.slice A.a2 m.Downs.length A.c2) (by rw[hvs];rfl)
 have e58:=HB.out.cellG 58 (.slice A.a20 n20 A.c20) (by rw[hvs];rfl)
 have e59:=HB.out.cellG 59 (.slice A.a21 n21 A.c21) (by rw[hvs];rfl)
 have e60:=HB.out.cellG 60 (.int .i64 m.Bad) (by rw[hvs];rfl)
 have HVS:=lH hvs;clear hvs
 go_enter Tryz.func67,Tryz.ntmps67
 dsimp only[List.append]
 go_wp2_with (first|((with_reducible refine wp_region_later (by kernel_rfl) (by kernel_rfl) ?_);(repeat(first|go_big_quiet_step (first|fail)));refine wpQuiet_nil ?_;rintro _ ⟨x,rfl⟩))
 refine(c_sl01In).mono ?_
 rintro _ _ ⟨rfl,y1,rfl⟩
 cases g1:inB m.Time 0 1000000
 ·have HF:=lH (show missionOk m=false from missionOk_no1 g1)
  clear g1
  go_wp2_with (first|((with_reducible refine wp_region_later (by kernel_rfl) (by kernel_rfl) ?_);(repeat(first|go_big_quiet_step (first|fail)));refine wpQuiet_nil ?_;rintro _ ⟨x,rfl⟩))
  go_ret
  exact Gives.mk (by rw[HF.out];rfl)
 have T1:=lH g1;clear g1
 go_wp2_with (first|((with_reducible refine wp_region_later (by kernel_rfl) (by kernel_rfl) ?_);(repeat(first|go_big_quiet_step (first|fail)));refine wpQuiet_nil ?_;rintro _ ⟨x,rfl⟩))
 refine(c_sl01In).mono ?_
 rintro _ _ ⟨rfl,y2,rfl⟩
 cases g2:inB m.Light 0 50
 ·have HF:=lH (show missionOk m=false from missionOk_no2 g2)
  clear g2
  go_wp2_with (first|((with_reducible refine wp_region_later (by kernel_rfl) (by kernel_rfl) ?_);(repeat(first|go_big_quiet_step (first|fail)));refine wpQuiet_nil ?_;rintro _ ⟨x,rfl⟩))
  go_ret
  exact Gives.mk (by rw[HF.out];rfl)
 have T2:=lH g2;clear g2
 go_wp2_with (first|((with_reducible refine wp_region_later (by kernel_rfl) (by kernel_rfl) ?_);(repeat(first|go_big_quiet_step (first|fail)));refine wpQuiet_nil ?_;rintro _ ⟨x,rfl⟩))
 refine(c_sl01In).mono ?_
 rintro _ _ ⟨rfl,y3,rfl⟩
 cases g3:inB m.Bad 0 1000000
 ·have HF:=lH (show missionOk m=false from missionOk_no3 g3)
  clear g3
  go_wp2_with (first|((with_reducible refine wp_region_later (by kernel_rfl) (by kernel_rfl) ?_);(repeat(first|go_big_quiet_step (first|fail)));refine wpQuiet_nil ?_;rintro _ ⟨x,rfl⟩))
  go_ret
  exact Gives.mk (by rw[HF.out];rfl)
 have T3:=lH g3;clear g3
 go_wp2_with (first|((with_reducible refine wp_region_later (by kernel_rfl) (by kernel_rfl) ?_);(repeat(first|go_big_quiet_step (first|fail)));refine wpQuiet_nil ?_;rintro _ ⟨x,rfl⟩)|(refine stepLoadW (by first|kernel_rfl|go_simp) _ _ rfl w.heap.size 2 rfl (row:=[.int .i64 m.Drift.Rate,.int .i64 m.Drift.Offset]) (HB.out.to inferInstance) _ Tryz.underlying25 rfl (by kernel_rfl) (by rw[HVS.out];kernel_rfl) ?_)|(refine step_loadw (by first|kernel_rfl|go_simp) _ _ rfl w.heap.size 2 rfl (row:=[.int .i64 m.Drift.Rate,.int .i64 m.Drift.Offset]) (HB.out.to inferInstance) _ Tryz.underlying25 rfl (by kernel_rfl) (by rw[HVS.out];kernel_rfl) ?_)|(refine step_loadp _ _ rfl w.heap.size 2 rfl (row:=[.int .i64 m.Drift.Rate,.int .i64 m.Drift.Offset]) (HB.out.to inferInstance) _ Tryz.underlying25 rfl (by kernel_rfl) (by rw[HVS.out];kernel_rfl) ?_))
 refine(k_sDriftOk (x:=m.Drift)).mono ?_
 rintro _ _ ⟨rfl,y4,rfl⟩
 cases g4:driftOkT m.Drift
 ·have HF:=lH (show missionOk m=false from missionOk_no4 g4)
  clear g4
  go_wp2_with (first|((with_reducible refine wp_region_later (by kernel_rfl) (by kernel_rfl) ?_);(repeat(first|go_big_quiet_step (first|fail)));refine wpQuiet_nil ?_;rintro _ ⟨x,rfl⟩))
  go_ret
  exact Gives.mk (by rw[HF.out];rfl)
 have T4:=lH g4;clear g4
 go_wp2_with (first|((with_reducible refine wp_region_later (by kernel_rfl) (by kernel_rfl) ?_);(repeat(first|go_big_quiet_step (first|fail)));refine wpQuiet_nil ?_;rintro _ ⟨x,rfl⟩)|(refine stepLoadW (by first|kernel_rfl|go_simp) _ _ rfl w.heap.size 4 rfl (row:=[.int .i64 m.Orbit.Period,.int .i64 m.Orbit.Start,.int .i64 m.Orbit.Length]) (HB.out.to inferInstance) _ Tryz.underlying27 rfl (by kernel_rfl) (by rw[HVS.out];kernel_rfl) ?_)|(refine step_loadw (by first|kernel_rfl|go_simp) _ _ rfl w.heap.size 4 rfl (row:=[.int .i64 m.Orbit.Period,.int .i64 m.Orbit.Start,.int .i64 m.Orbit.Length]) (HB.out.to inferInstance) _ Tryz.underlying27 rfl (by kernel_rfl) (by rw[HVS.out];kernel_rfl) ?_)|(refine step_loadp _ _ rfl w.heap.size 4 rfl (row:=[.int .i64 m.Orbit.Period,.int .i64 m.Orbit.Start,.int .i64 m.Orbit.Length]) (HB.out.to inferInstance) _ Tryz.underlying27 rfl (by kernel_rfl) (by rw[HVS.out];kernel_rfl) ?_))
 refine(k_sOrbitOk (x:=m.Orbit)).mono ?_
 rintro _ _ ⟨rfl,y5,rfl⟩
 cases g5:orbitOkT m.Orbit
 ·have HF:=lH (show missionOk m=false from missionOk_no5 g5)
  clear g5
  go_wp2_with (first|((with_reducible refine wp_region_later (by kernel_rfl) (by kernel_rfl) ?_);(repeat(first|go_big_quiet_step (first|fail)));refine wpQuiet_nil ?_;rintro _ ⟨x,rfl⟩))
  go_ret
  exact Gives.mk (by rw[HF.out];rfl)
 have T5:=lH g5;clear g5
 go_wp2_with (first|((with_reducible refine wp_region_later (by kernel_rfl) (by kernel_rfl) ?_);(repeat(first|go_big_quiet_step (first|fail)));refine wpQuiet_nil ?_;rintro _ ⟨x,rfl⟩)|(refine stepLoadW (by first|kernel_rfl|go_simp) _ _ rfl w.heap.size 8 rfl (row:=[.int .i64 m.Up.Seed,.int .i64 m.Up.Burst,.int .i64 m.Up.Loss]) (HB.out.to inferInstance) _ Tryz.underlying30 rfl (by kernel_rfl) (by rw[HVS.out];kernel_rfl) ?_)|(refine step_loadw (by first|kernel_rfl|go_simp) _ _ rfl w.heap.size 8 rfl (row:=[.int .i64 m.Up.Seed,.int .i64 m.Up.Burst,.int .i64 m.Up.Loss]) (HB.out.to inferInstance) _ Tryz.underlying30 rfl (by kernel_rfl) (by rw[HVS.out];kernel_rfl) ?_)|(refine step_loadp _ _ rfl w.heap.size 8 rfl (row:=[.int .i64 m.Up.Seed,.int .i64 m.Up.Burst,.int .i64 m.Up.Loss]) (HB.out.to inferInstance) _ Tryz.underlying30 rfl (by kernel_rfl) (by rw[HVS.out];kernel_rfl) ?_))
 refine(k_sChannelOk (x:=m.Up)).mono ?_
 rintro _ _ ⟨rfl,y6,rfl⟩
 cases g6:channelOk m.Up
 ·have HF:=lH (show missionOk m=false from missionOk_no6 g6)
  clear g6
  go_wp2_with (first|((with_reducible refine wp_region_later (by kernel_rfl) (by kernel_rfl) ?_);(repeat(first|go_big_quiet_step (first|fail)));refine wpQuiet_nil ?_;rintro _ ⟨x,rfl⟩))
  go_ret
  exact Gives.mk (by rw[HF.out];rfl)
 have T6:=lH g6;clear g6
 go_wp2_with (first|((with_reducible refine wp_region_later (by kernel_rfl) (by kernel_rfl) ?_);(repeat(first|go_big_quiet_step (first|fail)));refine wpQuiet_nil ?_;rintro _ ⟨x,rfl⟩)|(refine stepLoadW (by first|kernel_rfl|go_simp) _ _ rfl w.heap.size 11 rfl (row:=[.int .i64 m.Down.Seed,.int .i64 m.Down.Burst,.int .i64 m.Down.Loss]) (HB.out.to inferInstance) _ Tryz.underlying30 rfl (by kernel_rfl) (by rw[HVS.out];kernel_rfl) ?_)|(refine step_loadw (by first|kernel_rfl|go_simp) _ _ rfl w.heap.size 11 rfl (row:=[.int .i64 m.Down.Seed,.int .i64 m.Down.Burst,.int .i64 m.Down.Loss]) (HB.out.to inferInstance) _ Tryz.underlying30 rfl (by kernel_rfl) (by rw[HVS.out];kernel_rfl) ?_)|(refine step_loadp _ _ rfl w.heap.size 11 rfl (row:=[.int .i64 m.Down.Seed,.int .i64 m.Down.Burst,.int .i64 m.Down.Loss]) (HB.out.to inferInstance) _ Tryz.underlying30 rfl (by kernel_rfl) (by rw[HVS.out];kernel_rfl) ?_))
 refine(k_sChannelOk (x:=m.Down)).mono ?_
 rintro _ _ ⟨rfl,y7,rfl⟩
 cases g7:channelOk m.Down
 ·have HF:=lH (show missionOk m=false from missionOk_no7 g7)
  clear g7
  go_wp2_with (first|((with_reducible refine wp_region_later (by kernel_rfl) (by kernel_rfl) ?_);(repeat(first|go_big_quiet_step (first|fail)));refine wpQuiet_nil ?_;rintro _ ⟨x,rfl⟩))
  go_ret
  exact Gives.mk (by rw[HF.out];rfl)
 have T7:=lH g7;clear g7
 by_cases h8:n0≤1500
 rotate_left
 ·have k8:decide (1500<(n0:Int))=true:=by simp;omega
  have k8b:decide ((n0:Int)≤1500)=false:=by simp;omega
  have HF:=lH (show missionOk m=false from missionOk_no8 (by rw[HN0.out];exact k8b))
  clear h8
  go_wp2_with (first|((with_reducible refine wp_region_later (by kernel_rfl) (by kernel_rfl) ?_);(repeat(first|go_big_quiet_step (first|fail)|simp only[k8]|simp only[k8b]));refine wpQuiet_nil ?_;rintro _ ⟨x,rfl⟩))
  go_ret
  exact Gives.mk (by rw[HF.out];rfl)
 have k8:decide (1500<(n0:Int))=false:=by simp;omega
 have k8b:decide ((n0:Int)≤1500)=true:=by simp;omega
 have T8:=lH (show decide ((m.Plan.length:Int)≤1500)=true by rw[HN0.out];exact k8b)
 clear h8
 go_wp2_with (first|((with_reducible refine wp_region_later (by kernel_rfl) (by kernel_rfl) ?_);(repeat(first|go_big_quiet_step (first|fail)|simp only[k8]|simp only[k8b]));refine wpQuiet_nil ?_;rintro _ ⟨x,rfl⟩))
 refine(k_sflightsOkN (l:=m.Ups) FH.out.q1 rfl M.out.m1).mono ?_
 rintro _ _ ⟨rfl,y9,rfl⟩
 cases g9:flightsOk m.Ups
 ·have HF:=lH (show missionOk m=false from missionOk_no9 g9)
  clear g9
  go_wp2_with (first|((with_reducible refine wp_region_later (by kernel_rfl) (by kernel_rfl) ?_);(repeat(first|go_big_quiet_step (first|fail)));refine wpQuiet_nil ?_;rintro _ ⟨x,rfl⟩))
  go_ret
  exact Gives.mk (by rw[HF.out];rfl)
 have T9:=lH g9;clear g9
 go_wp2_with (first|((with_reducible refine wp_region_later (by kernel_rfl) (by kernel_rfl) ?_);(repeat(first|go_big_quiet_step (first|fail)|simp only[k8]|simp only[k8b]));refine wpQuiet_nil ?_;rintro _ ⟨x,rfl⟩))
 refine(k_sflightsOkN (l:=m.Downs) FH.out.q2 rfl M.out.m2).mono ?_
 rintro _ _ ⟨rfl,y10,rfl⟩
 cases g10:flightsOk m.Downs
 ·have HF:=lH (show missionOk m=false from missionOk_no10 g10)
  clear g10
  go_wp2_with (first|((with_reducible refine wp_region_later (by kernel_rfl) (by kernel_rfl) ?_);(repeat(first|go_big_quiet_step (first|fail)));refine wpQuiet_nil ?_;rintro _ ⟨x,rfl⟩))
  go_ret
  exact Gives.mk (by rw[HF.out];rfl)
 have T10:=lH g10;clear g10
 go_wp2_with (first|((with_reducible refine wp_region_later (by kernel_rfl) (by kernel_rfl) ?_);(repeat(first|go_big_quiet_step (first|fail)|simp only[k8]|simp only[k8b]));refine wpQuiet_nil ?_;rintro _ ⟨x,rfl⟩)|(refine stepLoadW (by first|kernel_rfl|go_simp) _ _ rfl w.heap.size 16 rfl (row:=(cGround m.Ground A.a3 A.c3 A.a4 A.c4 A.a5 A.c5 A.a6 A.c6 A.a7 A.c7 A.a8 A.c8)) (HB.out.to inferInstance) _ Tryz.underlying45 rfl (by kernel_rfl) (by rw[HVS.out];kernel_rfl) ?_)|(refine step_loadw (by first|kernel_rfl|go_simp) _ _ rfl w.heap.size 16 rfl (row:=(cGround m.Ground A.a3 A.c3 A.a4 A.c4 A.a5 A.c5 A.a6 A.c6 A.a7 A.c7 A.a8 A.c8)) (HB.out.to inferInstance) _ Tryz.underlying45 rfl (by kernel_rfl) (by rw[HVS.out];kernel_rfl) ?_)|(refine step_loadp _ _ rfl w.heap.size 16 rfl (row:=(cGround m.Ground A.a3 A.c3 A.a4 A.c4 A.a5 A.c5 A.a6 A.c6 A.a7 A.c7 A.a8 A.c8)) (HB.out.to inferInstance) _ Tryz.underlying45 rfl (by kernel_rfl) (by rw[HVS.out];kernel_rfl) ?_))
 refine(k_sgroundOk (bd:=m.Ground) FH.out.q3 FH.out.q4 FH.out.q5 FH.out.q6 FH.out.q7 FH.out.q8 FH.out.ok.2.2.2.2.2.2.1 rfl rfl rfl rfl rfl rfl M.out.m3 M.out.m4 M.out.m5 M.out.m6 M.out.m7 M.out.m8 M.out.hxf).mono ?_
 rintro _ _ ⟨rfl,y11,rfl⟩
 cases g11:groundOk m.Ground
 ·have HF:=lH (show missionOk m=false from missionOk_no11 g11)
  clear g11
  go_wp2_with (first|((with_reducible refine wp_region_later (by kernel_rfl) (by kernel_rfl) ?_);(repeat(first|go_big_quiet_step (first|fail)));refine wpQuiet_nil ?_;rintro _ ⟨x,rfl⟩))
  go_ret
  exact Gives.mk (by rw[HF.out];rfl)
 have T11:=lH g11;clear g11
 go_wp2_with (first|((with_reducible refine wp_region_later (by kernel_rfl) (by kernel_rfl) ?_);(repeat(first|go_big_quiet_step (first|fail)|simp only[k8]|simp only[k8b]));refine wpQuiet_nil ?_;rintro _ ⟨x,rfl⟩)|(refine stepLoadW (by first|kernel_rfl|go_simp) _ _ rfl w.heap.size 33 rfl (row:=(cSpace m.Space A.a9 A.c9 A.a10 A.c10 A.a11 A.c11 A.a12 A.c12 A.a13 A.c13 A.a14 A.c14 A.a15 A.c15 A.a16 A.c16 A.a17 A.c17 A.a18 A.c18 A.a19 A.c19)) (HB.out.to inferInstance) _ Tryz.underlying60 rfl (by kernel_rfl) (by rw[HVS.out];kernel_rfl) ?_)|(refine step_loadw (by first|kernel_rfl|go_simp) _ _ rfl w.heap.size 33 rfl (row:=(cSpace m.Space A.a9 A.c9 A.a10 A.c10 A.a11 A.c11 A.a12 A.c12 A.a13 A.c13 A.a14 A.c14 A.a15 A.c15 A.a16 A.c16 A.a17 A.c17 A.a18 A.c18 A.a19 A.c19)) (HB.out.to inferInstance) _ Tryz.underlying60 rfl (by kernel_rfl) (by rw[HVS.out];kernel_rfl) ?_)|(refine step_loadp _ _ rfl w.heap.size 33 rfl (row:=(cSpace m.Space A.a9 A.c9 A.a10 A.c10 A.a11 A.c11 A.a12 A.c12 A.a13 A.c13 A.a14 A.c14 A.a15 A.c15 A.a16 A.c16 A.a17 A.c17 A.a18 A.c18 A.a19 A.c19)) (HB.out.to inferInstance) _ Tryz.underlying60 rfl (by kernel_rfl) (by rw[HVS.out];kernel_rfl) ?_))
 refine(k_sspaceOk (bd:=m.Space) FH.out.q9 FH.out.q10 FH.out.q11 FH.out.q12 FH.out.q13 FH.out.q14 FH.out.q15 FH.out.q16 FH.out.q17 FH.out.q18 FH.out.q19 FH.out.ok.2.2.2.2.2.2.2.1 rfl rfl rfl rfl rfl rfl rfl rfl rfl rfl rfl M.out.m9 M.out.m10 M.out.m11 M.out.m12 M.out.m13 M.out.m14 M.out.m15 M.out.m16 M.out.m17 M.out.m18 M.out.m19 M.out.hzr M.out.hxo M.out.hxs).mono ?_
 rintro _ _ ⟨rfl,y12,rfl⟩
 cases g12:spaceOk m.Space
 ·have HF:=lH (show missionOk m=false from missionOk_no12 g12)
  clear g12
  go_wp2_with (first|((with_reducible refine wp_region_later (by kernel_rfl) (by kernel_rfl) ?_);(repeat(first|go_big_quiet_step (first|fail)));refine wpQuiet_nil ?_;rintro _ ⟨x,rfl⟩))
  go_ret
  exact Gives.mk (by rw[HF.out];rfl)
 have T12:=lH g12;clear g12
 by_cases h13:n20≤5000
 rotate_left
 ·have k13:decide (5000<(n20:Int))=true:=by simp;omega
  have k13b:decide ((n20:Int)≤5000)=false:=by simp;omega
  have HF:=lH (show missionOk m=false from missionOk_no13 (by rw[HN20.out];exact k13b))
  clear h13
  go_wp2_with (first|((with_reducible refine wp_region_later (by kernel_rfl) (by kernel_rfl) ?_);(repeat(first|go_big_quiet_step (first|fail)|simp only[k8]|simp only[k8b]|simp only[k13]|simp only[k13b]));refine wpQuiet_nil ?_;rintro _ ⟨x,rfl⟩))
  go_ret
  exact Gives.mk (by rw[HF.out];rfl)
 have k13:decide (5000<(n20:Int))=false:=by simp;omega
 have k13b:decide ((n20:Int)≤5000)=true:=by simp;omega
 have T13:=lH (show decide ((m.Offered.length:Int)≤5000)=true by rw[HN20.out];exact k13b)
 clear h13
 by_cases h14:n21≤5000
 rotate_left
 ·have k14:decide (5000<(n21:Int))=true:=by simp;omega
  have k14b:decide ((n21:Int)≤5000)=false:=by simp;omega
  have HF:=lH (show missionOk m=false from missionOk_no14 (by rw[HN21.out];exact k14b))
  clear h14
  go_wp2_with (first|((with_reducible refine wp_region_later (by kernel_rfl) (by kernel_rfl) ?_);(repeat(first|go_big_quiet_step (first|fail)|simp only[k8]|simp only[k8b]|simp only[k13]|simp only[k13b]|simp only[k14]|simp only[k14b]));refine wpQuiet_nil ?_;rintro _ ⟨x,rfl⟩))
  go_ret
  exact Gives.mk (by rw[HF.out];rfl)
 have k14:decide (5000<(n21:Int))=false:=by simp;omega
 have k14b:decide ((n21:Int)≤5000)=true:=by simp;omega
 have T14:=lH (show decide ((m.Took.length:Int)≤5000)=true by rw[HN21.out];exact k14b)
 clear h14
 go_wp2_with (first|((with_reducible refine wp_region_later (by kernel_rfl) (by kernel_rfl) ?_);(repeat(first|go_big_quiet_step (first|fail)|simp only[k8]|simp only[k8b]|simp only[k13]|simp only[k13b]|simp only[k14]|simp only[k14b]));refine wpQuiet_nil ?_;rintro _ ⟨x,rfl⟩))
 go_ret
 exact Gives.mk (by rw[missionOk_yes T1.out T2.out T3.out T4.out T5.out T6.out T7.out T8.out T9.out T10.out T11.out T12.out T13.out T14.out];rfl)
end Go.Proofs.YtbaffippdifbpaaGreat
namespace Go.Proofs.YtbaffippdifbpaaGreat
set_option linter.unusedVariables false
open Go.ChangeShapes Go.WideShapes Go.ChangeAt Go.RowKit
end Go.Proofs.YtbaffippdifbpaaGreat
namespace Go.Proofs.YtbaffippdifbpaaGreat
set_option linter.unusedVariables false
open Go.ChangeShapes Go.WideShapes Go.ChangeAt Go.RowKit
noncomputable def ledgerOk(m:TMission):Bool:=missionOk m && (commandsOnce m && (ordersOnce m && (recordsOnce m && (filesTrue m && timesTrue m))))
set_option maxRecDepth 100000 in
set_option maxHeartbeats 2000000 in
theorem c_iLedgerOk{B:Nat}{vs:List Value}{m:TMission}{w:World}(h:Enc.Rd B w vs m)(ht:Enc.tot m≤1048576) :
  Calls Tryz.prog 12 #[.agg vs.toArray] w (Gives w (.bool (ledgerOk m))):=by
 have HL:=lH (show vs.length=61 from Enc.len h)
 have HM:=lH h;clear h
 have HT:=lH ht;clear ht
 have HB:=lH (Held.new w vs 62 w.heap.size rfl)
 go_enter Tryz.func12,Tryz.ntmps12
 go_wp2_with (first|((with_reducible refine wp_region_later (by kernel_rfl) (by kernel_rfl) ?_);(repeat(first|go_big_quiet_step (first|fail)));refine wpQuiet_nil ?_;rintro _ ⟨x,rfl⟩)|(refine stepLoadW (by first|kernel_rfl|go_simp) _ _ rfl w.heap.size 0 rfl (row:=vs) (HB.out.to inferInstance) _ Tryz.underlying62 rfl (by rw[HL.out];kernel_rfl) (by rw[List.drop_zero,List.take_length]) ?_))
 refine(c_iMissionOk (m:=m) (Enc.keep HM.out inferInstance) (Int.le_trans HT.out (by decide))).mono ?_
 rintro _ _ ⟨rfl,y0,rfl⟩
 cases g0:missionOk m
 ·have HF:=lH (show ledgerOk m=false by rw[ledgerOk,g0];rfl)
  clear g0
  go_wp2_with (first|((with_reducible refine wp_region_later (by kernel_rfl) (by kernel_rfl) ?_);(repeat(first|go_big_quiet_step (first|fail)));refine wpQuiet_nil ?_;rintro _ ⟨x,rfl⟩))
  go_ret
  exact Gives.mk (by rw[HF.out];rfl)
 go_wp2_with (first|((with_reducible refine wp_region_later (by kernel_rfl) (by kernel_rfl) ?_);(repeat(first|go_big_quiet_step (first|fail)));refine wpQuiet_nil ?_;rintro _ ⟨x,rfl⟩)|(refine stepLoadW (by first|kernel_rfl|go_simp) _ _ rfl w.heap.size 0 rfl (row:=vs) (HB.out.to inferInstance) _ Tryz.underlying62 rfl (by rw[HL.out];kernel_rfl) (by rw[List.drop_zero,List.take_length]) ?_))
 refine(c_iCommandsOnce (m:=m) (Enc.keep HM.out inferInstance) HT.out).mono ?_
 rintro _ _ ⟨rfl,y1,rfl⟩
 cases g1:commandsOnce m
 ·have HF:=lH (show ledgerOk m=false by rw[ledgerOk,g0,g1];rfl)
  clear g1
  go_wp2_with (first|((with_reducible refine wp_region_later (by kernel_rfl) (by kernel_rfl) ?_);(repeat(first|go_big_quiet_step (first|fail)));refine wpQuiet_nil ?_;rintro _ ⟨x,rfl⟩))
  go_ret
  exact Gives.mk (by rw[HF.out];rfl)
 go_wp2_with (first|((with_reducible refine wp_region_later (by kernel_rfl) (by kernel_rfl) ?_);(repeat(first|go_big_quiet_step (first|fail)));refine wpQuiet_nil ?_;rintro _ ⟨x,rfl⟩)|(refine stepLoadW (by first|kernel_rfl|go_simp) _ _ rfl w.heap.size 0 rfl (row:=vs) (HB.out.to inferInstance) _ Tryz.underlying62 rfl (by rw[HL.out];kernel_rfl) (by rw[List.drop_zero,List.take_length]) ?_))
 refine(c_iOrdersOnce (m:=m) (Enc.keep HM.out inferInstance) HT.out).mono ?_
 rintro _ _ ⟨rfl,y2,rfl⟩
 cases g2:ordersOnce m
 ·have HF:=lH (show ledgerOk m=false by rw[ledgerOk,g0,g1,g2];rfl)
  clear g2
  go_wp2_with (first|((with_reducible refine wp_region_later (by kernel_rfl) (by kernel_rfl) ?_);(repeat(first|go_big_quiet_step (first|fail)));refine wpQuiet_nil ?_;rintro _ ⟨x,rfl⟩))
  go_ret
  exact Gives.mk (by rw[HF.out];rfl)
 go_wp2_with (first|((with_reducible refine wp_region_later (by kernel_rfl) (by kernel_rfl) ?_);(repeat(first|go_big_quiet_step (first|fail)));refine wpQuiet_nil ?_;rintro _ ⟨x,rfl⟩)|(refine stepLoadW (by first|kernel_rfl|go_simp) _ _ rfl w.heap.size 0 rfl (row:=vs) (HB.out.to inferInstance) _ Tryz.underlying62 rfl (by rw[HL.out];kernel_rfl) (by rw[List.drop_zero,List.take_length]) ?_))
 refine(c_iRecordsOnce (m:=m) (Enc.keep HM.out inferInstance) HT.out).mono ?_
 rintro _ _ ⟨rfl,y3,rfl⟩
 cases g3:recordsOnce m
 ·have HF:=lH (show ledgerOk m=false by rw[ledgerOk,g0,g1,g2,g3];rfl)
  clear g3
  go_wp2_with (first|((with_reducible refine wp_region_later (by kernel_rfl) (by kernel_rfl) ?_);(repeat(first|go_big_quiet_step (first|fail)));refine wpQuiet_nil ?_;rintro _ ⟨x,rfl⟩))
  go_ret
  exact Gives.mk (by rw[HF.out];rfl)
 go_wp2_with (first|((with_reducible refine wp_region_later (by kernel_rfl) (by kernel_rfl) ?_);(repeat(first|go_big_quiet_step (first|fail)));refine wpQuiet_nil ?_;rintro _ ⟨x,rfl⟩)|(refine stepLoadW (by first|kernel_rfl|go_simp) _ _ rfl w.heap.size 0 rfl (row:=vs) (HB.out.to inferInstance) _ Tryz.underlying62 rfl (by rw[HL.out];kernel_rfl) (by rw[List.drop_zero,List.take_length]) ?_))
 refine(c_iFilesTrue (m:=m) (Enc.keep HM.out inferInstance) HT.out).mono ?_
 rintro _ _ ⟨rfl,y4,rfl⟩
 cases g4:filesTrue m
 ·have HF:=lH (show ledgerOk m=false by rw[ledgerOk,g0,g1,g2,g3,g4];rfl)
  clear g4
  go_wp2_with (first|((with_reducible refine wp_region_later (by kernel_rfl) (by kernel_rfl) ?_);(repeat(first|go_big_quiet_step (first|fail)));refine wpQuiet_nil ?_;rintro _ ⟨x,rfl⟩))
  go_ret
  exact Gives.mk (by rw[HF.out];rfl)
 go_wp2_with (first|((with_reducible refine wp_region_later (by kernel_rfl) (by kernel_rfl) ?_);(repeat(first|go_big_quiet_step (first|fail)));refine wpQuiet_nil ?_;rintro _ ⟨x,rfl⟩)|(refine stepLoadW (by first|kernel_rfl|go_simp) _ _ rfl w.heap.size 0 rfl (row:=vs) (HB.out.to inferInstance) _ Tryz.underlying62 rfl (by rw[HL.out];kernel_rfl) (by rw[List.drop_zero,List.take_length]) ?_))
 refine(c_iTimesTrue (m:=m) (Enc.keep HM.out inferInstance) HT.out).mono ?_
 rintro _ _ ⟨rfl,y5,rfl⟩
 cases g5:timesTrue m
 ·have HF:=lH (show ledgerOk m=false by rw[ledgerOk,g0,g1,g2,g3,g4,g5];rfl)
  clear g5
  go_wp2_with (first|((with_reducible refine wp_region_later (by kernel_rfl) (by kernel_rfl) ?_);(repeat(first|go_big_quiet_step (first|fail)));refine wpQuiet_nil ?_;rintro _ ⟨x,rfl⟩))
  go_ret
  exact Gives.mk (by rw[HF.out];rfl)
 have HF:=lH (show ledgerOk m=true by rw[ledgerOk,g0,g1,g2,g3,g4,g5];rfl)
 go_wp2_with (first|((with_reducible refine wp_region_later (by kernel_rfl) (by kernel_rfl) ?_);(repeat(first|go_big_quiet_step (first|fail)));refine wpQuiet_nil ?_;rintro _ ⟨x,rfl⟩))
 go_ret
 exact Gives.mk (by rw[HF.out];rfl)
end Go.Proofs.YtbaffippdifbpaaGreat
namespace Go.Proofs.YtbaffippdifbpaaGreat
set_option linter.unusedVariables false
open Go.ChangeShapes Go.WideShapes Go.ChangeAt Go.RowKit
theorem om_to{B o:Nat}{χ:Nat→Col}{w w2:World}{vs:List Value}{m:TMission}(h:EncO.O B χ o w vs m)(g:Grows w w2):EncO.O B χ o w2 vs m:=by
 obtain⟨A,h0,h1⟩:=h
 exact⟨A,h0,h1.to g⟩
theorem om_keep{B o:Nat}{χ:Nat→Col}{w w2:World}{vs:List Value}{m:TMission}(h:EncO.O B χ o w vs m)(g:Keeps B w w2):EncO.O B χ o w2 vs m:=by
 obtain⟨A,h0,h1⟩:=h
 exact⟨A,h0,h1.keep g⟩
theorem om_mono{B B2 o:Nat}{χ:Nat→Col}{w:World}{vs:List Value}{m:TMission}(h:EncO.O B χ o w vs m)(g:B2≤B):EncO.O B2 χ o w vs m:=by
 obtain⟨A,h0,h1⟩:=h
 exact⟨A,h0,h1.mono g⟩
theorem len_mission{B:Nat}{w:World}{vs:List Value}{m:TMission}(h:Enc.Rd B w vs m):vs.length=61:=Enc.len h
end Go.Proofs.YtbaffippdifbpaaGreat
namespace Go.Proofs.YtbaffippdifbpaaGreat
set_option linter.unusedVariables false
open Go.ChangeShapes Go.WideShapes Go.ChangeAt Go.RowKit
theorem stepLoadG{P:Program}{ops:Array Oper}{rest:List Oper}{op:Oper}{a:Act}{w:World}{Q:Exit→Act→World→Prop}(hw:Region.wanted op (yielded ops a.tmps)=true)(ty:TypeId)(x:Operand)(ho:op.op=.load ty x)(b o:Nat)(hx:a.eval x=.pointer (some ⟨b,o,none⟩)){cs row:List Value}{T:TypeId}(H:Held w b cs T)
  (d:TypeDesc) (hu:P.underlying ty=some d) (hd:d.isRow=true) (hi:(P.info? ty).map (·.size)=some row.length) (hr:(cs.drop o).take row.length=row)
  (h:wpList P ops Q rest (a.put op.dst (.agg row.toArray)) w):wpList P ops Q (op::rest) a w :=
 wpList_step fun K hK=>st_loadH hw ty x ho b o hx H d hu hd hi hr (hK _ _ h)
end Go.Proofs.YtbaffippdifbpaaGreat
namespace Go.Proofs.YtbaffippdifbpaaGreat
set_option linter.unusedVariables false
open Go.ChangeShapes Go.WideShapes Go.ChangeAt Go.RowKit
def wordN(m n:Int):ByteArray:=if m=1 then word1 n else if m=2 then word2 n else word3 n
@[go_sem] theorem word3_size(n:Int):(word3 n).size=3:=rfl
@[go_sem] theorem wordN_one(n:Int):wordN 1 n=word1 n:=rfl
@[go_sem] theorem wordN_two(n:Int):wordN 2 n=word2 n:=rfl
@[go_sem] theorem wordN_three(n:Int):wordN 3 n=word3 n:=rfl
def GivesOB{α:Type}[E:EncO α](w:World)(x:α)(b:Bool):Ending→World→Prop:=fun e w'=>∃ (vs:List Value) (χ:Nat→Col),e=.returned (.tuple #[.agg vs.toArray,.bool b])∧E.O w.heap.size χ 0 w' vs x∧∃ y:Later w,w'=y.w
section
variable {P:Program} {ops:Array Oper} {op:Oper} {a:Act} {w:World} {Q:Exit→Act→World→Prop} {S:World→Prop} {md:Region.Mode} {fuel:Nat} {listed:Array Bool} {i:Nat}
end
end Go.Proofs.YtbaffippdifbpaaGreat
namespace Go.Proofs.YtbaffippdifbpaaGreat
set_option linter.unusedVariables false
open Go.ChangeShapes Go.WideShapes Go.ChangeAt Go.RowKit
end Go.Proofs.YtbaffippdifbpaaGreat
namespace Go.Proofs.YtbaffippdifbpaaGreat
set_option linter.unusedVariables false
open Go.ChangeShapes Go.WideShapes Go.ChangeAt Go.RowKit
def fileIn0(k:Nat):TFileIn:=⟨k,-1,-1,List.replicate 25 ⟨#[]⟩⟩
def fileOut0(k:Nat)(s:ByteArray):TFileOut:=⟨k,s,[],true⟩
def insOf:Nat→List ByteArray→List TFileIn
 | _,[]=>[]
 | k,_::r=>fileIn0 k::insOf (k+1) r
def outsOf:Nat→List ByteArray→List TFileOut
 | _,[]=>[]
 | k,s::r=>fileOut0 k s::outsOf (k+1) r
theorem insOf_len:∀ (l:List ByteArray) (k:Nat),(insOf k l).length=l.length
 | [],_=>rfl
 | _::r,k=>by simp[insOf,insOf_len r (k+1)]
theorem outsOf_len:∀ (l:List ByteArray) (k:Nat),(outsOf k l).length=l.length
 | [],_=>rfl
 | _::r,k=>by simp[outsOf,outsOf_len r (k+1)]
theorem insOf_snoc(y:ByteArray):∀ (l:List ByteArray) (k:Nat),insOf k (l++[y])=insOf k l++[fileIn0 (k+l.length)]
 | [],k=>by simp[insOf]
 | _::r,k=>by rw[List.cons_append,insOf,insOf_snoc y r (k+1),insOf,List.cons_append,List.length_cons,show k+1+r.length=k+(r.length+1)by omega]
theorem outsOf_snoc(y:ByteArray):∀ (l:List ByteArray) (k:Nat),outsOf k (l++[y])=outsOf k l++[fileOut0 (k+l.length) y]
 | [],k=>by simp[outsOf]
 | _::r,k=>by rw[List.cons_append,outsOf,outsOf_snoc y r (k+1),outsOf,List.cons_append,List.length_cons,show k+1+r.length=k+(r.length+1)by omega]
def newM(light:Int)(d:TDrift)(o:TOrbit)(pl:List Slot)(up down:TChannel)(room:Int)(L:List TLimit)(fs:List ByteArray):TMission :=
 ⟨0,light,d,o,pl,up,down,[],[],⟨[],⟨0,5,[],0⟩,⟨0,false,false⟩,⟨0,-1,false,⟨#[]⟩,0⟩,[],[],insOf 0 fs,List.replicate 8 false⟩,
  ⟨⟨0,false,false,0⟩,{ newBoard room L with Clock:=boardTime d.Rate d.Offset 0 },⟨0,0,⟨#[]⟩,[]⟩,0,fs,outsOf 0 fs,0,[]⟩,[],[],0⟩
def zeroM:TMission:=⟨0,0,⟨0,0⟩,⟨0,0,0⟩,[],⟨0,0,0⟩,⟨0,0,0⟩,[],[],⟨[],⟨0,0,[],0⟩,⟨0,false,false⟩,⟨0,0,false,⟨#[]⟩,0⟩,[],[],[],[]⟩,
  ⟨⟨0,false,false,0⟩,⟨0,[],false,[],[],[],⟨0,[],[]⟩,0,0,[]⟩,⟨0,0,⟨#[]⟩,[]⟩,0,[],[],0,[]⟩,[],[],0⟩
def newOk(light:Int)(d:TDrift)(o:TOrbit)(pl:List Slot)(up down:TChannel)(room:Int)(L:List TLimit)(fs:List ByteArray):Bool :=
 boardOk (newBoard room L) && (decide (fs.length=8) && missionOk (newM light d o pl up down room L fs))
def newMission(light:Int)(d:TDrift)(o:TOrbit)(pl:List Slot)(up down:TChannel)(room:Int)(L:List TLimit)(fs:List ByteArray):TMission :=
 if newOk light d o pl up down room L fs=true then newM light d o pl up down room L fs else zeroM
end Go.Proofs.YtbaffippdifbpaaGreat
namespace Go.Proofs.YtbaffippdifbpaaGreat
set_option linter.unusedVariables false
open Go.ChangeShapes Go.WideShapes Go.ChangeAt Go.RowKit
theorem Own.tyAt{α:Type}{enc:α→List Value}{T size B:Nat}{w:World}{a:Option Addr}{c:Nat}{l:List α}(h:Own enc T size B w a c l):∀ k,blkOf a=some k→∃ D,w.heap[k]?=some (.cells D T (0,0)):=by
 obtain⟨-,-,⟨h1,-⟩|⟨g,cap,cur,hv,-,hh,-⟩⟩:=h
 ·simp only[Value.slice.injEq]at h1
  obtain⟨rfl,-⟩:=h1
  exact fun k hk=>by cases hk
 ·simp only[Value.slice.injEq]at hv
  obtain⟨rfl,-⟩:=hv
  exact fun k hk=>by cases hk;exact⟨cur,hh⟩
def tyOf(w:World)(b:Nat):Nat:=match w.heap[b]? with|some (.cells _ T _)=>T|_=>0
def newCol(w:World)(U:Nat)(χ:Nat→Col)(b:Nat):Col :=
 if tyOf w b=205 then(0,0)else if tyOf w b=4 then(8,0)else if tyOf w b=3 then(9,0)else if tyOf w b=149 then(10,0)else if tyOf w b=143 then(18,0)else
 if b<U then(17,0)else((χ b).1+7,(χ b).2)
theorem newM_own{B U:Nat}{w:World}{χ1 χ2:Nat→Col}{light:Int}{d:TDrift}{o:TOrbit}{pl:List Slot}{up down:TChannel}{room:Int}{L:List TLimit}{fs:List ByteArray}{a0 a7 a8 a9 a10 a17 a18:Option Addr}{c0 c7 c8 c9 c10 c17 c18:Nat}{rows:List (NRow TFileIn)}{rows2:List (NRow TFileOut)}
  (h0:Own encSlot 205 2 B w a0 c0 pl) (g0:∀ x∈pl,okDSlot x) (h7:OwnN U χ1 0 w a7 c7 rows) (e7:rows.map (·.x)=insOf 0 fs) (hU:B≤U) (h8:Own encBoo 4 1 B w a8 c8 (List.replicate 8 false)) (h9:Own encInt 3 1 B w a9 c9 (List.replicate 8 0))
  (h10:Own encTLimit 149 3 B w a10 c10 L) (g10:∀ x∈L,okDTLimit x) (h17:Own encStr 9 1 B w a17 c17 fs) (g17:∀ s∈fs,s.size≤9223372036854775807) (l17:∀ k,blkOf a17=some k→k<U)
  (h18:OwnN B χ2 0 w a18 c18 rows2) (e18:rows2.map (·.x)=outsOf 0 fs) (n18:∀ r∈rows2,r.a=none) (hok:okDTMission (newM light d o pl up down room L fs)) :
  TMissionO B (newCol w U χ1) 0 w ⟨a0,c0,none,0,none,0,none,0,none,0,none,0,none,0,a7,c7,a8,c8,a9,c9,a10,c10,none,0,none,0,none,0,none,0,none,0,none,0,a17,c17,a18,c18,none,0,none,0,none,0⟩ (newM light d o pl up down room L fs):=by
 have ty:∀ {b:Nat} {D:Array Value} {T:Nat},w.heap[b]?=some (.cells D T (0,0))→tyOf w b=T:=fun h=>by rw[tyOf,h]
 refine⟨⟨h0,fun k hk=>?_,g0⟩,OwnC.nil,OwnC.nil,OwnC.nil,OwnC.nil,OwnC.nil,OwnC.nil,⟨rows,e7,(h7.mono hU).own,fun k hk=>?_,fun k r hr=>⟨(h7.each k r hr).1,((h7.each k r hr).2.own).mono hU,fun b hb=>?_,(h7.each k r hr).2.good⟩⟩,⟨h8,fun k hk=>?_,fun _ _=>trivial⟩,
  ⟨h9,fun k hk=>?_,fun x hx=>by rw[List.eq_of_mem_replicate hx];show i64 0;unfold i64;omega⟩,⟨h10,fun k hk=>?_,g10⟩,OwnC.nil,OwnC.nil,OwnC.nil,OwnC.nil,OwnC.nil,OwnC.nil,⟨h17,fun k hk=>?_,g17⟩,⟨rows2,e18,h18.own,fun k hk=>?_,fun k r hr=>⟨(h18.each k r hr).1,(h18.each k r hr).2.own,fun b hb=>?_,(h18.each k r hr).2.good⟩⟩,OwnC.nil,OwnC.nil,OwnC.nil,hok⟩
 ·obtain⟨D,hD⟩:=h0.tyAt k hk;simp[newCol,ty hD]
 ·obtain⟨D,hD⟩:=h7.own.tyAt k hk
  have h2:=(h7.own.blk k hk).1
  have h3:=h7.col k hk
  simp[newCol,ty (show w.heap[k]?=some (.cells D 140 (0,0))from hD),show ¬ k<U by omega,h3]
 ·obtain⟨D,hD⟩:=(h7.each k r hr).2.own.tyAt b hb
  have h2:=((h7.each k r hr).2.own.blk b hb).1
  have h3:=(h7.each k r hr).2.col b hb
  simp[newCol,ty (show w.heap[b]?=some (.cells D 9 (0,0))from hD),show ¬ b<U by omega,h3]
 ·obtain⟨D,hD⟩:=h8.tyAt k hk;simp[newCol,ty hD]
 ·obtain⟨D,hD⟩:=h9.tyAt k hk;simp[newCol,ty hD]
 ·obtain⟨D,hD⟩:=h10.tyAt k hk;simp[newCol,ty hD]
 ·obtain⟨D,hD⟩:=h17.tyAt k hk;simp[newCol,ty hD,l17 k hk]
 ·obtain⟨D,hD⟩:=h18.own.tyAt k hk;simp[newCol,ty (show w.heap[k]?=some (.cells D 143 (0,0))from hD)]
 ·rw[n18 r (List.mem_of_getElem? hr)]at hb;cases hb
theorem zeroM_own{B:Nat}{χ:Nat→Col}{w:World}:EncO.O B χ 0 w [.int .i64 0,.int .i64 0,.int .i64 0,.int .i64 0,.int .i64 0,.int .i64 0,.int .i64 0,.slice none 0 0,.int .i64 0,.int .i64 0,.int .i64 0,.int .i64 0,.int .i64 0,.int .i64 0,.slice none 0 0,.slice none 0 0,.slice none 0 0,.int .i64 0,.int .i64 0,.slice none 0 0,.int .i64 0,.int .i64 0,.bool false,.bool false,.int .i64 0,.int .i64 0,.bool false,.string ⟨#[]⟩,.int .i64 0,.slice none 0 0,.slice none 0 0,.slice none 0 0,.slice none 0 0,.int .i64 0,.bool false,.bool false,.int .i64 0,.int .i64 0,.slice none 0 0,.bool false,.slice none 0 0,.slice none 0 0,.slice none 0 0,.int .i64 0,.slice none 0 0,.slice none 0 0,.int .i64 0,.int .i64 0,.slice none 0 0,.int .i64 0,.int .i64 0,.string ⟨#[]⟩,.slice none 0 0,.int .i64 0,.slice none 0 0,.slice none 0 0,.int .i64 0,.slice none 0 0,.slice none 0 0,.slice none 0 0,.int .i64 0] zeroM :=
 ⟨⟨none,0,none,0,none,0,none,0,none,0,none,0,none,0,none,0,none,0,none,0,none,0,none,0,none,0,none,0,none,0,none,0,none,0,none,0,none,0,none,0,none,0,none,0⟩,rfl,OwnC.nil,OwnC.nil,OwnC.nil,OwnC.nil,OwnC.nil,OwnC.nil,OwnC.nil,⟨[],rfl,OwnN.nil⟩,OwnC.nil,OwnC.nil,OwnC.nil,OwnC.nil,OwnC.nil,OwnC.nil,OwnC.nil,OwnC.nil,OwnC.nil,OwnC.nil,⟨[],rfl,OwnN.nil⟩,OwnC.nil,OwnC.nil,OwnC.nil,by
  have z:i64 0:=by unfold i64;omega
  exact⟨z,z,⟨z,z,trivial⟩,⟨z,z,z,trivial⟩,⟨z,z,z,trivial⟩,⟨z,z,z,trivial⟩,⟨⟨z,z,z,trivial⟩,⟨z,trivial⟩,⟨z,z,Nat.zero_le _,z,trivial⟩,trivial⟩,⟨⟨z,z,trivial⟩,⟨z,⟨z,trivial⟩,z,z,trivial⟩,⟨z,z,Nat.zero_le _,trivial⟩,z,z,trivial⟩,z,trivial⟩⟩
end Go.Proofs.YtbaffippdifbpaaGreat
