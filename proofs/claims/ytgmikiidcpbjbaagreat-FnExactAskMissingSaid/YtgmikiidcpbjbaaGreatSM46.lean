/- The contract of MissionOk, the reference's. No condition but on sizes. The contracts of MissionOk, both sides. No condition but on sizes. The contracts of LedgerOk, both sides. -/
import Derived.Test.YtgmikiidcpbjbaaGreatSM37
import Derived.Test.YtgmikiidcpbjbaaGreatSOkAs
import Derived.Test.YtgmikiidcpbjbaaGreatSOkGs
import Derived.Test.YtgmikiidcpbjbaaGreatSM43
import Derived.Test.YtgmikiidcpbjbaaGreatSM21
import Derived.Test.YtgmikiidcpbjbaaGreatSRecO
import Derived.Test.YtgmikiidcpbjbaaGreatSFilT
import Derived.Test.YtgmikiidcpbjbaaGreatSTimT
import Derived.Test.YtgmikiidcpbjbaaGreatSCopyMI
import Derived.Test.YtgmikiidcpbjbaaGreatSCopyMS
import Derived.Test.YtgmikiidcpbjbaaGreatSMk4
import Derived.Test.YtgmikiidcpbjbaaGreatSM29
import Derived.Test.YtgmikiidcpbjbaaGreatSM0
import Derived.Test.YtgmikiidcpbjbaaGreatSOwnS
namespace Go.Proofs.YtgmikiidcpbjbaaGreat
set_option linter.unusedVariables false
open Go.ChangeShapes Go.WideShapes Go.ChangeAt Go.RowKit
set_option maxRecDepth 100000 in
set_option maxHeartbeats 8000000 in
theorem c_sMissionOk{B:Nat}{vs:List Value}{m:TMission}{w:World}(h:Enc.Rd B w vs m)(ht:Enc.tot m≤100000000) :
  Calls Tryz.prog 60 #[.agg vs.toArray] w (Gives w (.bool (missionOk m))):=by
 obtain⟨A,hvs,F⟩:=h
 have M:=lH (mission_small ht)
 have FH:=lH F
 clear F ht
 obtain⟨n0,hn0⟩:∃ n,m.Plan.length=n:=⟨_,rfl⟩
 obtain⟨n20,hn20⟩:∃ n,m.Offered.length=n:=⟨_,rfl⟩
 obtain⟨n21,hn21⟩:∃ n,m.Took.length=n:=⟨_,rfl⟩
 rw[hn0,hn20,hn21]at hvs
 have hm0:n0≤100000000:=hn0▸M.out.m0
 have hm20:n20≤100000000:=hn20▸M.out.m20
 have hm21:n21≤100000000:=hn21▸M.out.m21
 have HN0:=lH hn0;have HN20:=lH hn20;have HN21:=lH hn21
 clear hn0 hn20 hn21
 have HB:=lH (Held.new w vs 90 w.heap.size rfl)
 have e0:=HB.out.cellG 0 (.int .i64 m.Time) (by rw[hvs];rfl)
 have e1:=HB.out.cellG 1 (.int .i64 m.Light) (by rw[hvs];rfl)
 have e7:=HB.out.cellG 7 (.slice A.a0 n0 A.c0) (by rw[hvs];rfl)
 have e14:=HB.out.cellG 14 (.slice A.a1 m.Ups.length A.c1) (by rw[hvs];rfl)
 have e15:=HB.out.cellG 15 (.slice A.a2 m.Downs.length A.c2) (by rw[hvs];rfl)
 have e58:=HB.out.cellG 58 (.slice A.a20 n20 A.c20) (by rw[hvs];rfl)
 have e59:=HB.out.cellG 59 (.slice A.a21 n21 A.c21) (by rw[hvs];rfl)
 have e60:=HB.out.cellG 60 (.int .i64 m.Bad) (by rw[hvs];rfl)
 have HVS:=lH hvs;clear hvs
 go_enter Tryz.func60,Tryz.ntmps60
 dsimp only[List.append]
 go_wp2_with (first|((with_reducible refine wp_region_later (by kernel_rfl) (by kernel_rfl) ?_);(repeat(first|go_big_quiet_step (first|fail)));refine wpQuiet_nil ?_;rintro _ ⟨x,rfl⟩))
 refine(c_sl01In).mono ?_
 rintro _ _ ⟨rfl,y1,rfl⟩
 cases g1:inB m.Time 0 1000000
 ·have HF:=lH (show missionOk m=false from missionOk_no1 g1)
  clear g1
  go_wp2_with (first|((with_reducible refine wp_region_later (by kernel_rfl) (by kernel_rfl) ?_);(repeat(first|go_big_quiet_step (first|fail)));refine wpQuiet_nil ?_;rintro _ ⟨x,rfl⟩))
  go_ret
  exact Gives.mk (by rw[HF.out];rfl)
 have T1:=lH g1;clear g1
 go_wp2_with (first|((with_reducible refine wp_region_later (by kernel_rfl) (by kernel_rfl) ?_);(repeat(first|go_big_quiet_step (first|fail)));refine wpQuiet_nil ?_;rintro _ ⟨x,rfl⟩))
 refine(c_sl01In).mono ?_
 rintro _ _ ⟨rfl,y2,rfl⟩
 cases g2:inB m.Light 0 50
 ·have HF:=lH (show missionOk m=false from missionOk_no2 g2)
  clear g2
  go_wp2_with (first|((with_reducible refine wp_region_later (by kernel_rfl) (by kernel_rfl) ?_);(repeat(first|go_big_quiet_step (first|fail)));refine wpQuiet_nil ?_;rintro _ ⟨x,rfl⟩))
  go_ret
  exact Gives.mk (by rw[HF.out];rfl)
 have T2:=lH g2;clear g2
 go_wp2_with (first|((with_reducible refine wp_region_later (by kernel_rfl) (by kernel_rfl) ?_);(repeat(first|go_big_quiet_step (first|fail)));refine wpQuiet_nil ?_;rintro _ ⟨x,rfl⟩))
 refine(c_sl01In).mono ?_
 rintro _ _ ⟨rfl,y3,rfl⟩
 cases g3:inB m.Bad 0 1000000
 ·have HF:=lH (show missionOk m=false from missionOk_no3 g3)
  clear g3
  go_wp2_with (first|((with_reducible refine wp_region_later (by kernel_rfl) (by kernel_rfl) ?_);(repeat(first|go_big_quiet_step (first|fail)));refine wpQuiet_nil ?_;rintro _ ⟨x,rfl⟩))
  go_ret
  exact Gives.mk (by rw[HF.out];rfl)
 have T3:=lH g3;clear g3
 go_wp2_with (first|((with_reducible refine wp_region_later (by kernel_rfl) (by kernel_rfl) ?_);(repeat(first|go_big_quiet_step (first|fail)));refine wpQuiet_nil ?_;rintro _ ⟨x,rfl⟩)|(refine stepLoadW (by first|kernel_rfl|go_simp) _ _ rfl w.heap.size 2 rfl (row:=[.int .i64 m.Drift.Rate,.int .i64 m.Drift.Offset]) (HB.out.to inferInstance) _ Tryz.underlying62 rfl (by kernel_rfl) (by rw[HVS.out];kernel_rfl) ?_)|(refine step_loadw (by first|kernel_rfl|go_simp) _ _ rfl w.heap.size 2 rfl (row:=[.int .i64 m.Drift.Rate,.int .i64 m.Drift.Offset]) (HB.out.to inferInstance) _ Tryz.underlying62 rfl (by kernel_rfl) (by rw[HVS.out];kernel_rfl) ?_)|(refine step_loadp _ _ rfl w.heap.size 2 rfl (row:=[.int .i64 m.Drift.Rate,.int .i64 m.Drift.Offset]) (HB.out.to inferInstance) _ Tryz.underlying62 rfl (by kernel_rfl) (by rw[HVS.out];kernel_rfl) ?_))
 refine(k_sDriftOk (x:=m.Drift)).mono ?_
 rintro _ _ ⟨rfl,y4,rfl⟩
 cases g4:driftOkT m.Drift
 ·have HF:=lH (show missionOk m=false from missionOk_no4 g4)
  clear g4
  go_wp2_with (first|((with_reducible refine wp_region_later (by kernel_rfl) (by kernel_rfl) ?_);(repeat(first|go_big_quiet_step (first|fail)));refine wpQuiet_nil ?_;rintro _ ⟨x,rfl⟩))
  go_ret
  exact Gives.mk (by rw[HF.out];rfl)
 have T4:=lH g4;clear g4
 go_wp2_with (first|((with_reducible refine wp_region_later (by kernel_rfl) (by kernel_rfl) ?_);(repeat(first|go_big_quiet_step (first|fail)));refine wpQuiet_nil ?_;rintro _ ⟨x,rfl⟩)|(refine stepLoadW (by first|kernel_rfl|go_simp) _ _ rfl w.heap.size 4 rfl (row:=[.int .i64 m.Orbit.Period,.int .i64 m.Orbit.Start,.int .i64 m.Orbit.Length]) (HB.out.to inferInstance) _ Tryz.underlying63 rfl (by kernel_rfl) (by rw[HVS.out];kernel_rfl) ?_)|(refine step_loadw (by first|kernel_rfl|go_simp) _ _ rfl w.heap.size 4 rfl (row:=[.int .i64 m.Orbit.Period,.int .i64 m.Orbit.Start,.int .i64 m.Orbit.Length]) (HB.out.to inferInstance) _ Tryz.underlying63 rfl (by kernel_rfl) (by rw[HVS.out];kernel_rfl) ?_)|(refine step_loadp _ _ rfl w.heap.size 4 rfl (row:=[.int .i64 m.Orbit.Period,.int .i64 m.Orbit.Start,.int .i64 m.Orbit.Length]) (HB.out.to inferInstance) _ Tryz.underlying63 rfl (by kernel_rfl) (by rw[HVS.out];kernel_rfl) ?_))
 refine(k_sOrbitOk (x:=m.Orbit)).mono ?_
 rintro _ _ ⟨rfl,y5,rfl⟩
 cases g5:orbitOkT m.Orbit
 ·have HF:=lH (show missionOk m=false from missionOk_no5 g5)
  clear g5
  go_wp2_with (first|((with_reducible refine wp_region_later (by kernel_rfl) (by kernel_rfl) ?_);(repeat(first|go_big_quiet_step (first|fail)));refine wpQuiet_nil ?_;rintro _ ⟨x,rfl⟩))
  go_ret
  exact Gives.mk (by rw[HF.out];rfl)
 have T5:=lH g5;clear g5
 go_wp2_with (first|((with_reducible refine wp_region_later (by kernel_rfl) (by kernel_rfl) ?_);(repeat(first|go_big_quiet_step (first|fail)));refine wpQuiet_nil ?_;rintro _ ⟨x,rfl⟩)|(refine stepLoadW (by first|kernel_rfl|go_simp) _ _ rfl w.heap.size 8 rfl (row:=[.int .i64 m.Up.Seed,.int .i64 m.Up.Burst,.int .i64 m.Up.Loss]) (HB.out.to inferInstance) _ Tryz.underlying65 rfl (by kernel_rfl) (by rw[HVS.out];kernel_rfl) ?_)|(refine step_loadw (by first|kernel_rfl|go_simp) _ _ rfl w.heap.size 8 rfl (row:=[.int .i64 m.Up.Seed,.int .i64 m.Up.Burst,.int .i64 m.Up.Loss]) (HB.out.to inferInstance) _ Tryz.underlying65 rfl (by kernel_rfl) (by rw[HVS.out];kernel_rfl) ?_)|(refine step_loadp _ _ rfl w.heap.size 8 rfl (row:=[.int .i64 m.Up.Seed,.int .i64 m.Up.Burst,.int .i64 m.Up.Loss]) (HB.out.to inferInstance) _ Tryz.underlying65 rfl (by kernel_rfl) (by rw[HVS.out];kernel_rfl) ?_))
 refine(k_sChannelOk (x:=m.Up)).mono ?_
 rintro _ _ ⟨rfl,y6,rfl⟩
 cases g6:channelOk m.Up
 ·have HF:=lH (show missionOk m=false from missionOk_no6 g6)
  clear g6
  go_wp2_with (first|((with_reducible refine wp_region_later (by kernel_rfl) (by kernel_rfl) ?_);(repeat(first|go_big_quiet_step (first|fail)));refine wpQuiet_nil ?_;rintro _ ⟨x,rfl⟩))
  go_ret
  exact Gives.mk (by rw[HF.out];rfl)
 have T6:=lH g6;clear g6
 go_wp2_with (first|((with_reducible refine wp_region_later (by kernel_rfl) (by kernel_rfl) ?_);(repeat(first|go_big_quiet_step (first|fail)));refine wpQuiet_nil ?_;rintro _ ⟨x,rfl⟩)|(refine stepLoadW (by first|kernel_rfl|go_simp) _ _ rfl w.heap.size 11 rfl (row:=[.int .i64 m.Down.Seed,.int .i64 m.Down.Burst,.int .i64 m.Down.Loss]) (HB.out.to inferInstance) _ Tryz.underlying65 rfl (by kernel_rfl) (by rw[HVS.out];kernel_rfl) ?_)|(refine step_loadw (by first|kernel_rfl|go_simp) _ _ rfl w.heap.size 11 rfl (row:=[.int .i64 m.Down.Seed,.int .i64 m.Down.Burst,.int .i64 m.Down.Loss]) (HB.out.to inferInstance) _ Tryz.underlying65 rfl (by kernel_rfl) (by rw[HVS.out];kernel_rfl) ?_)|(refine step_loadp _ _ rfl w.heap.size 11 rfl (row:=[.int .i64 m.Down.Seed,.int .i64 m.Down.Burst,.int .i64 m.Down.Loss]) (HB.out.to inferInstance) _ Tryz.underlying65 rfl (by kernel_rfl) (by rw[HVS.out];kernel_rfl) ?_))
 refine(k_sChannelOk (x:=m.Down)).mono ?_
 rintro _ _ ⟨rfl,y7,rfl⟩
 cases g7:channelOk m.Down
 ·have HF:=lH (show missionOk m=false from missionOk_no7 g7)
  clear g7
  go_wp2_with (first|((with_reducible refine wp_region_later (by kernel_rfl) (by kernel_rfl) ?_);(repeat(first|go_big_quiet_step (first|fail)));refine wpQuiet_nil ?_;rintro _ ⟨x,rfl⟩))
  go_ret
  exact Gives.mk (by rw[HF.out];rfl)
 have T7:=lH g7;clear g7
 by_cases h8:n0≤1500
 rotate_left
 ·have k8:decide (1500<(n0:Int))=true:=by simp;omega
  have k8b:decide ((n0:Int)≤1500)=false:=by simp;omega
  have HF:=lH (show missionOk m=false from missionOk_no8 (by rw[HN0.out];exact k8b))
  clear h8
  go_wp2_with (first|((with_reducible refine wp_region_later (by kernel_rfl) (by kernel_rfl) ?_);(repeat(first|go_big_quiet_step (first|fail)|simp only[k8]|simp only[k8b]));refine wpQuiet_nil ?_;rintro _ ⟨x,rfl⟩))
  go_ret
  exact Gives.mk (by rw[HF.out];rfl)
 have k8:decide (1500<(n0:Int))=false:=by simp;omega
 have k8b:decide ((n0:Int)≤1500)=true:=by simp;omega
 have T8:=lH (show decide ((m.Plan.length:Int)≤1500)=true by rw[HN0.out];exact k8b)
 clear h8
 go_wp2_with (first|((with_reducible refine wp_region_later (by kernel_rfl) (by kernel_rfl) ?_);(repeat(first|go_big_quiet_step (first|fail)|simp only[k8]|simp only[k8b]));refine wpQuiet_nil ?_;rintro _ ⟨x,rfl⟩))
 refine(k_sflightsOkN (l:=m.Ups) FH.out.q1 rfl M.out.m1).mono ?_
 rintro _ _ ⟨rfl,y9,rfl⟩
 cases g9:flightsOk m.Ups
 ·have HF:=lH (show missionOk m=false from missionOk_no9 g9)
  clear g9
  go_wp2_with (first|((with_reducible refine wp_region_later (by kernel_rfl) (by kernel_rfl) ?_);(repeat(first|go_big_quiet_step (first|fail)));refine wpQuiet_nil ?_;rintro _ ⟨x,rfl⟩))
  go_ret
  exact Gives.mk (by rw[HF.out];rfl)
 have T9:=lH g9;clear g9
 go_wp2_with (first|((with_reducible refine wp_region_later (by kernel_rfl) (by kernel_rfl) ?_);(repeat(first|go_big_quiet_step (first|fail)|simp only[k8]|simp only[k8b]));refine wpQuiet_nil ?_;rintro _ ⟨x,rfl⟩))
 refine(k_sflightsOkN (l:=m.Downs) FH.out.q2 rfl M.out.m2).mono ?_
 rintro _ _ ⟨rfl,y10,rfl⟩
 cases g10:flightsOk m.Downs
 ·have HF:=lH (show missionOk m=false from missionOk_no10 g10)
  clear g10
  go_wp2_with (first|((with_reducible refine wp_region_later (by kernel_rfl) (by kernel_rfl) ?_);(repeat(first|go_big_quiet_step (first|fail)));refine wpQuiet_nil ?_;rintro _ ⟨x,rfl⟩))
  go_ret
  exact Gives.mk (by rw[HF.out];rfl)
 have T10:=lH g10;clear g10
 go_wp2_with (first|((with_reducible refine wp_region_later (by kernel_rfl) (by kernel_rfl) ?_);(repeat(first|go_big_quiet_step (first|fail)|simp only[k8]|simp only[k8b]));refine wpQuiet_nil ?_;rintro _ ⟨x,rfl⟩)|(refine stepLoadW (by first|kernel_rfl|go_simp) _ _ rfl w.heap.size 16 rfl (row:=(cGround m.Ground A.a3 A.c3 A.a4 A.c4 A.a5 A.c5 A.a6 A.c6 A.a7 A.c7 A.a8 A.c8)) (HB.out.to inferInstance) _ Tryz.underlying76 rfl (by kernel_rfl) (by rw[HVS.out];kernel_rfl) ?_)|(refine step_loadw (by first|kernel_rfl|go_simp) _ _ rfl w.heap.size 16 rfl (row:=(cGround m.Ground A.a3 A.c3 A.a4 A.c4 A.a5 A.c5 A.a6 A.c6 A.a7 A.c7 A.a8 A.c8)) (HB.out.to inferInstance) _ Tryz.underlying76 rfl (by kernel_rfl) (by rw[HVS.out];kernel_rfl) ?_)|(refine step_loadp _ _ rfl w.heap.size 16 rfl (row:=(cGround m.Ground A.a3 A.c3 A.a4 A.c4 A.a5 A.c5 A.a6 A.c6 A.a7 A.c7 A.a8 A.c8)) (HB.out.to inferInstance) _ Tryz.underlying76 rfl (by kernel_rfl) (by rw[HVS.out];kernel_rfl) ?_))
 refine(k_sgroundOk (bd:=m.Ground) FH.out.q3 FH.out.q4 FH.out.q5 FH.out.q6 FH.out.q7 FH.out.q8 FH.out.ok.2.2.2.2.2.2.1 rfl rfl rfl rfl rfl rfl M.out.m3 M.out.m4 M.out.m5 M.out.m6 M.out.m7 M.out.m8 M.out.hxf).mono ?_
 rintro _ _ ⟨rfl,y11,rfl⟩
 cases g11:groundOk m.Ground
 ·have HF:=lH (show missionOk m=false from missionOk_no11 g11)
  clear g11
  go_wp2_with (first|((with_reducible refine wp_region_later (by kernel_rfl) (by kernel_rfl) ?_);(repeat(first|go_big_quiet_step (first|fail)));refine wpQuiet_nil ?_;rintro _ ⟨x,rfl⟩))
  go_ret
  exact Gives.mk (by rw[HF.out];rfl)
 have T11:=lH g11;clear g11
 go_wp2_with (first|((with_reducible refine wp_region_later (by kernel_rfl) (by kernel_rfl) ?_);(repeat(first|go_big_quiet_step (first|fail)|simp only[k8]|simp only[k8b]));refine wpQuiet_nil ?_;rintro _ ⟨x,rfl⟩)|(refine stepLoadW (by first|kernel_rfl|go_simp) _ _ rfl w.heap.size 33 rfl (row:=(cSpace m.Space A.a9 A.c9 A.a10 A.c10 A.a11 A.c11 A.a12 A.c12 A.a13 A.c13 A.a14 A.c14 A.a15 A.c15 A.a16 A.c16 A.a17 A.c17 A.a18 A.c18 A.a19 A.c19)) (HB.out.to inferInstance) _ Tryz.underlying88 rfl (by kernel_rfl) (by rw[HVS.out];kernel_rfl) ?_)|(refine step_loadw (by first|kernel_rfl|go_simp) _ _ rfl w.heap.size 33 rfl (row:=(cSpace m.Space A.a9 A.c9 A.a10 A.c10 A.a11 A.c11 A.a12 A.c12 A.a13 A.c13 A.a14 A.c14 A.a15 A.c15 A.a16 A.c16 A.a17 A.c17 A.a18 A.c18 A.a19 A.c19)) (HB.out.to inferInstance) _ Tryz.underlying88 rfl (by kernel_rfl) (by rw[HVS.out];kernel_rfl) ?_)|(refine step_loadp _ _ rfl w.heap.size 33 rfl (row:=(cSpace m.Space A.a9 A.c9 A.a10 A.c10 A.a11 A.c11 A.a12 A.c12 A.a13 A.c13 A.a14 A.c14 A.a15 A.c15 A.a16 A.c16 A.a17 A.c17 A.a18 A.c18 A.a19 A.c19)) (HB.out.to inferInstance) _ Tryz.underlying88 rfl (by kernel_rfl) (by rw[HVS.out];kernel_rfl) ?_))
 refine(k_sspaceOk (bd:=m.Space) FH.out.q9 FH.out.q10 FH.out.q11 FH.out.q12 FH.out.q13 FH.out.q14 FH.out.q15 FH.out.q16 FH.out.q17 FH.out.q18 FH.out.q19 FH.out.ok.2.2.2.2.2.2.2.1 rfl rfl rfl rfl rfl rfl rfl rfl rfl rfl rfl M.out.m9 M.out.m10 M.out.m11 M.out.m12 M.out.m13 M.out.m14 M.out.m15 M.out.m16 M.out.m17 M.out.m18 M.out.m19 M.out.hzr M.out.hxo M.out.hxs).mono ?_
 rintro _ _ ⟨rfl,y12,rfl⟩
 cases g12:spaceOk m.Space
 ·have HF:=lH (show missionOk m=false from missionOk_no12 g12)
  clear g12
  go_wp2_with (first|((with_reducible refine wp_region_later (by kernel_rfl) (by kernel_rfl) ?_);(repeat(first|go_big_quiet_step (first|fail)));refine wpQuiet_nil ?_;rintro _ ⟨x,rfl⟩))
  go_ret
  exact Gives.mk (by rw[HF.out];rfl)
 have T12:=lH g12;clear g12
 by_cases h13:n20≤5000
 rotate_left
 ·have k13:decide (5000<(n20:Int))=true:=by simp;omega
  have k13b:decide ((n20:Int)≤5000)=false:=by simp;omega
  have HF:=lH (show missionOk m=false from missionOk_no13 (by rw[HN20.out];exact k13b))
  clear h13
  go_wp2_with (first|((with_reducible refine wp_region_later (by kernel_rfl) (by kernel_rfl) ?_);(repeat(first|go_big_quiet_step (first|fail)|simp only[k8]|simp only[k8b]|simp only[k13]|simp only[k13b]));refine wpQuiet_nil ?_;rintro _ ⟨x,rfl⟩))
  go_ret
  exact Gives.mk (by rw[HF.out];rfl)
 have k13:decide (5000<(n20:Int))=false:=by simp;omega
 have k13b:decide ((n20:Int)≤5000)=true:=by simp;omega
 have T13:=lH (show decide ((m.Offered.length:Int)≤5000)=true by rw[HN20.out];exact k13b)
 clear h13
 by_cases h14:n21≤5000
 rotate_left
 ·have k14:decide (5000<(n21:Int))=true:=by simp;omega
  have k14b:decide ((n21:Int)≤5000)=false:=by simp;omega
  have HF:=lH (show missionOk m=false from missionOk_no14 (by rw[HN21.out];exact k14b))
  clear h14
  go_wp2_with (first|((with_reducible refine wp_region_later (by kernel_rfl) (by kernel_rfl) ?_);(repeat(first|go_big_quiet_step (first|fail)|simp only[k8]|simp only[k8b]|simp only[k13]|simp only[k13b]|simp only[k14]|simp only[k14b]));refine wpQuiet_nil ?_;rintro _ ⟨x,rfl⟩))
  go_ret
  exact Gives.mk (by rw[HF.out];rfl)
 have k14:decide (5000<(n21:Int))=false:=by simp;omega
 have k14b:decide ((n21:Int)≤5000)=true:=by simp;omega
 have T14:=lH (show decide ((m.Took.length:Int)≤5000)=true by rw[HN21.out];exact k14b)
 clear h14
 go_wp2_with (first|((with_reducible refine wp_region_later (by kernel_rfl) (by kernel_rfl) ?_);(repeat(first|go_big_quiet_step (first|fail)|simp only[k8]|simp only[k8b]|simp only[k13]|simp only[k13b]|simp only[k14]|simp only[k14b]));refine wpQuiet_nil ?_;rintro _ ⟨x,rfl⟩))
 go_ret
 exact Gives.mk (by rw[missionOk_yes T1.out T2.out T3.out T4.out T5.out T6.out T7.out T8.out T9.out T10.out T11.out T12.out T13.out T14.out];rfl)
theorem om_to{B o:Nat}{χ:Nat→Col}{w w2:World}{vs:List Value}{m:TMission}(h:EncO.O B χ o w vs m)(g:Grows w w2):EncO.O B χ o w2 vs m:=by
 obtain⟨A,h0,h1⟩:=h
 exact⟨A,h0,h1.to g⟩
theorem om_keep{B o:Nat}{χ:Nat→Col}{w w2:World}{vs:List Value}{m:TMission}(h:EncO.O B χ o w vs m)(g:Keeps B w w2):EncO.O B χ o w2 vs m:=by
 obtain⟨A,h0,h1⟩:=h
 exact⟨A,h0,h1.keep g⟩
theorem om_mono{B B2 o:Nat}{χ:Nat→Col}{w:World}{vs:List Value}{m:TMission}(h:EncO.O B χ o w vs m)(g:B2≤B):EncO.O B2 χ o w vs m:=by
 obtain⟨A,h0,h1⟩:=h
 exact⟨A,h0,h1.mono g⟩
theorem len_mission{B:Nat}{w:World}{vs:List Value}{m:TMission}(h:Enc.Rd B w vs m):vs.length=61:=Enc.len h
theorem o_lmarkPacker{B o:Nat}{χ:Nat→Col}{a0:Option Addr}{c0:Nat}{x:TPacker}{k:Int}{w:World}(F:TPackerO B χ o w a0 c0 x)(hf:Fresh χ w)(hB:B≤w.heap.size)(ho:o+1≤1000)(ht:Enc.tot x≤100000000)(h1:0≤k)(h2:k≤400000000000) :
  Calls Tryz.prog 254 #[.agg #[.int .i64 x.Channel,.int .i64 x.Count,.string x.Rest,.slice a0 x.Starts.length c0],.int .i64 k] w (Mkd (mnMPacker x k) (fun w2=>TPackerO B χ o w2 a0 c0 (mkMPacker x k)) (Fr B χ (Rng o (o+1)) w)):=by
 have htot:Enc.tot x=(x.Rest.size:Int)+totL x.Starts:=rfl
 have t3:=totL_nonneg x.Starts;have l3:=totL_len x.Starts
 have HOK:=lH F.ok
 have HB0:=lH (Held.new w [.int .i64 x.Channel,.int .i64 x.Count,.string x.Rest,.slice a0 x.Starts.length c0] 85 w.heap.size rfl)
 have hFB:1000≤(χ w.heap.size).1:=hf _ (Nat.le_refl _)
 have FA0:=lH (show Fr B χ (Rng o (o+0)) w (w.alloc (.cells #[.int .i64 x.Channel,.int .i64 x.Count,.string x.Rest,.slice a0 x.Starts.length c0] 85))from Fr.grows _ _ _ _ _)
 have HFF:=lH F;clear F
 have HFR:=lH hf;clear hf
 go_enter Tryz.func254,Tryz.ntmps254
 go_wp2_with (first|((with_reducible refine wp_region_later (by kernel_rfl) (by kernel_rfl) ?_);(repeat(first|go_big_quiet_step (first|fail)));refine wpQuiet_nil ?_;rintro _ ⟨x,rfl⟩)|(refine stepLoad1 rfl _ _ rfl w.heap.size 3 rfl (HB0.out.to inferInstance) _ rfl _ Tryz.underlying46 rfl ?_))
 refine(o_lmarkIntS (HFF.out.o0.fr FA0.out (Rng.out (.inr (by omega)))) (by omega) (by omega) (by omega)).mono ?_
 intro e0 w1 hq0
 obtain⟨he,hi,F1⟩:=hq0
 obtain⟨K1,hK⟩:∃ K:Int,K=k+(x.Starts.length:Int)*((1:Nat):Int):=⟨_,rfl⟩
 obtain rfl:e0=.returned (.int .i64 K1):=he.trans (by rw[hK]<;>rfl)
 have hK1:k≤K1∧K1≤k+5*totL x.Starts:=by omega
 have HK1:=lH hK;have HI0:=lH hi
 have HG0:=lH (show Fr B χ (Rng (o+0) (o+1)) _ w1 from F1.rng0)
 clear he hK hi F1
 have HB1:=lH (HB0.out.frm HG0.out (by omega) hFB)
 have FA1:=lH (FA0.out.tr HG0.out (by omega) (by omega))
 go_wp2_with (first|((with_reducible refine wp_region_later (by kernel_rfl) (by kernel_rfl) ?_);(repeat(first|go_big_quiet_step (first|fail)));refine wpQuiet_nil ?_;rintro _ ⟨x,rfl⟩))
 go_ret
 have FB1:=lH (show Fr B χ (Rng (o+1) (o+1)) w1 w1 from Fr.refl _ _ _ _)
 have E1:=HK1.out;clear HK1;subst E1
 exact⟨rfl,⟨HI0.out.fr FB1.out (Rng.out (.inl (by omega))),HOK.out⟩,FA1.out⟩
theorem o_lmarkSender{B o:Nat}{χ:Nat→Col}{a0:Option Addr}{c0:Nat}{x:TSender}{k:Int}{w:World}(F:TSenderO B χ o w a0 c0 x)(hf:Fresh χ w)(hB:B≤w.heap.size)(ho:o+1≤1000)(ht:Enc.tot x≤100000000)(h1:0≤k)(h2:k≤400000000000) :
  Calls Tryz.prog 248 #[.agg #[.int .i64 x.Next,.int .i64 x.Window,.slice a0 x.Waiting.length c0,.int .i64 x.Done],.int .i64 k] w (Mkd (mnMSender x k) (fun w2=>TSenderO B χ o w2 a0 c0 (mkMSender x k)) (Fr B χ (Rng o (o+1)) w)):=by
 have htot:Enc.tot x=totL x.Waiting:=rfl
 have t2:=totL_nonneg x.Waiting;have l2:=totL_len x.Waiting
 have HOK:=lH F.ok
 have HB0:=lH (Held.new w [.int .i64 x.Next,.int .i64 x.Window,.slice a0 x.Waiting.length c0,.int .i64 x.Done] 69 w.heap.size rfl)
 have hFB:1000≤(χ w.heap.size).1:=hf _ (Nat.le_refl _)
 have FA0:=lH (show Fr B χ (Rng o (o+0)) w (w.alloc (.cells #[.int .i64 x.Next,.int .i64 x.Window,.slice a0 x.Waiting.length c0,.int .i64 x.Done] 69))from Fr.grows _ _ _ _ _)
 have HFF:=lH F;clear F
 have HFR:=lH hf;clear hf
 go_enter Tryz.func248,Tryz.ntmps248
 go_wp2_with (first|((with_reducible refine wp_region_later (by kernel_rfl) (by kernel_rfl) ?_);(repeat(first|go_big_quiet_step (first|fail)));refine wpQuiet_nil ?_;rintro _ ⟨x,rfl⟩)|(refine stepLoad1 rfl _ _ rfl w.heap.size 2 rfl (HB0.out.to inferInstance) _ rfl _ Tryz.underlying67 rfl ?_))
 refine(o_lmarkSentS (HFF.out.o0.fr FA0.out (Rng.out (.inr (by omega)))) (by omega) (by omega) (by omega)).mono ?_
 intro e0 w1 hq0
 obtain⟨he,hi,F1⟩:=hq0
 obtain⟨K1,hK⟩:∃ K:Int,K=k+(x.Waiting.length:Int)*((2:Nat):Int):=⟨_,rfl⟩
 obtain rfl:e0=.returned (.int .i64 K1):=he.trans (by rw[hK]<;>rfl)
 have hK1:k≤K1∧K1≤k+5*totL x.Waiting:=by omega
 have HK1:=lH hK;have HI0:=lH hi
 have HG0:=lH (show Fr B χ (Rng (o+0) (o+1)) _ w1 from F1.rng0)
 clear he hK hi F1
 have HB1:=lH (HB0.out.frm HG0.out (by omega) hFB)
 have FA1:=lH (FA0.out.tr HG0.out (by omega) (by omega))
 go_wp2_with (first|((with_reducible refine wp_region_later (by kernel_rfl) (by kernel_rfl) ?_);(repeat(first|go_big_quiet_step (first|fail)));refine wpQuiet_nil ?_;rintro _ ⟨x,rfl⟩))
 go_ret
 have FB1:=lH (show Fr B χ (Rng (o+1) (o+1)) w1 w1 from Fr.refl _ _ _ _)
 have E1:=HK1.out;clear HK1;subst E1
 exact⟨rfl,⟨HI0.out.fr FB1.out (Rng.out (.inl (by omega))),HOK.out⟩,FA1.out⟩
theorem o_lmarkRecorder{B o:Nat}{χ:Nat→Col}{a0:Option Addr}{c0:Nat}{a1:Option Addr}{c1:Nat}{x:TRecorder}{k:Int}{w:World}(F:TRecorderO B χ o w a0 c0 a1 c1 x)(hf:Fresh χ w)(hB:B≤w.heap.size)(ho:o+2≤1000)(ht:Enc.tot x≤100000000)(h1:0≤k)(h2:k≤400000000000) :
  Calls Tryz.prog 389 #[.agg #[.int .i64 x.Room,.slice a0 x.Records.length c0,.slice a1 x.Dropped.length c1],.int .i64 k] w (Mkd (mnMRecorder x k) (fun w2=>TRecorderO B χ o w2 a0 c0 a1 c1 (mkMRecorder x k)) (Fr B χ (Rng o (o+2)) w)):=by
 have htot:Enc.tot x=totL x.Records+totL x.Dropped:=rfl
 have t1:=totL_nonneg x.Records;have l1:=totL_len x.Records
 have t2:=totL_nonneg x.Dropped;have l2:=totL_len x.Dropped
 have HOK:=lH F.ok
 have HB0:=lH (Held.new w [.int .i64 x.Room,.slice a0 x.Records.length c0,.slice a1 x.Dropped.length c1] 82 w.heap.size rfl)
 have hFB:1000≤(χ w.heap.size).1:=hf _ (Nat.le_refl _)
 have FA0:=lH (show Fr B χ (Rng o (o+0)) w (w.alloc (.cells #[.int .i64 x.Room,.slice a0 x.Records.length c0,.slice a1 x.Dropped.length c1] 82))from Fr.grows _ _ _ _ _)
 have HFF:=lH F;clear F
 have HFR:=lH hf;clear hf
 go_enter Tryz.func389,Tryz.ntmps389
 go_wp2_with (first|((with_reducible refine wp_region_later (by kernel_rfl) (by kernel_rfl) ?_);(repeat(first|go_big_quiet_step (first|fail)));refine wpQuiet_nil ?_;rintro _ ⟨x,rfl⟩)|(refine stepLoad1 rfl _ _ rfl w.heap.size 1 rfl (HB0.out.to inferInstance) _ rfl _ Tryz.underlying73 rfl ?_))
 refine(o_lmarkRecordS (HFF.out.o0.fr FA0.out (Rng.out (.inr (by omega)))) (by omega) (by omega) (by omega)).mono ?_
 intro e0 w1 hq0
 obtain⟨he,hi,F1⟩:=hq0
 obtain⟨K1,hK⟩:∃ K:Int,K=k+(x.Records.length:Int)*((4:Nat):Int):=⟨_,rfl⟩
 obtain rfl:e0=.returned (.int .i64 K1):=he.trans (by rw[hK]<;>rfl)
 have hK1:k≤K1∧K1≤k+5*totL x.Records:=by omega
 have HK1:=lH hK;have HI0:=lH hi
 have HG0:=lH (show Fr B χ (Rng (o+0) (o+1)) _ w1 from F1.rng0)
 clear he hK hi F1
 have HB1:=lH (HB0.out.frm HG0.out (by omega) hFB)
 have FA1:=lH (FA0.out.tr HG0.out (by omega) (by omega))
 go_wp2_with (first|((with_reducible refine wp_region_later (by kernel_rfl) (by kernel_rfl) ?_);(repeat(first|go_big_quiet_step (first|fail)));refine wpQuiet_nil ?_;rintro _ ⟨x,rfl⟩)|(refine stepLoad1 rfl _ _ rfl w.heap.size 2 rfl (HB1.out.to inferInstance) _ rfl _ Tryz.underlying46 rfl ?_))
 refine(o_lmarkIntS (HFF.out.o1.fr FA1.out (Rng.out (.inr (by omega)))) (by omega) (by omega) (by omega)).mono ?_
 intro e1 w2 hq1
 obtain⟨he,hi,F1⟩:=hq1
 obtain⟨K2,hK⟩:∃ K:Int,K=K1+(x.Dropped.length:Int)*((1:Nat):Int):=⟨_,rfl⟩
 obtain rfl:e1=.returned (.int .i64 K2):=he.trans (by rw[hK]<;>rfl)
 have hK2:K1≤K2∧K2≤K1+5*totL x.Dropped:=by omega
 have HK2:=lH hK;have HI1:=lH hi
 have HG1:=lH (show Fr B χ (Rng (o+1) (o+2)) _ w2 from F1.rng0)
 clear he hK hi F1
 have HB2:=lH (HB1.out.frm HG1.out (by omega) hFB)
 have FA2:=lH (FA1.out.tr HG1.out (by omega) (by omega))
 go_wp2_with (first|((with_reducible refine wp_region_later (by kernel_rfl) (by kernel_rfl) ?_);(repeat(first|go_big_quiet_step (first|fail)));refine wpQuiet_nil ?_;rintro _ ⟨x,rfl⟩))
 go_ret
 have FB2:=lH (show Fr B χ (Rng (o+2) (o+2)) w2 w2 from Fr.refl _ _ _ _)
 have FB1:=lH (HG1.out.tr FB2.out (by omega) (by omega))
 have E1:=HK1.out;clear HK1;subst E1
 have E2:=HK2.out;clear HK2;subst E2
 exact⟨rfl,⟨HI0.out.fr FB1.out (Rng.out (.inl (by omega))),HI1.out.fr FB2.out (Rng.out (.inl (by omega))),HOK.out⟩,FA2.out⟩
set_option maxRecDepth 100000 in
set_option maxHeartbeats 2000000 in
theorem o_lmarkBoard{B o:Nat}{χ:Nat→Col}{A:TBoardA}{x:TBoard}{k:Int}{w:World}(F:TBoardO B χ o w A x)(hf:Fresh χ w)(hB:B≤w.heap.size)(ho:o+7≤1000)(ht:Enc.tot x≤100000000)(h1:0≤k)(h2:k≤300000000000) :
  Calls Tryz.prog 253 #[.agg (dBoard x A).toArray,.int .i64 k] w (Mkd (mnMBoard x k) (fun w2=>TBoardO B χ o w2 A (mkMBoard x k)) (Fr B χ (Rng o (o+7)) w)):=by
 have htot:Enc.tot x=totL x.Params+totL x.Limits+totL x.Orders+totL x.Done+Enc.tot x.Recorder+totL x.Asked:=rfl
 have t1:=totL_nonneg x.Params;have l1:=totL_len x.Params
 have t3:=totL_nonneg x.Limits;have l3:=totL_len x.Limits
 have t4:=totL_nonneg x.Orders;have l4:=totL_len x.Orders
 have t5:=totL_nonneg x.Done;have l5:=totL_len x.Done
 have t6:=Enc.tot_nonneg x.Recorder
 have t9:=totL_nonneg x.Asked;have l9:=totL_len x.Asked
 have HOK:=lH F.ok
 have HB0:=lH (Held.new w (dBoard x A) 84 w.heap.size rfl)
 have hFB:1000≤(χ w.heap.size).1:=hf _ (Nat.le_refl _)
 have FA0:=lH (show Fr B χ (Rng o (o+0)) w (w.alloc (.cells (dBoard x A).toArray 84))from Fr.grows _ _ _ _ _)
 have HFF:=lH F;clear F
 have HFR:=lH hf;clear hf
 go_enter Tryz.func253,Tryz.ntmps253
 go_wp2_with (first|((with_reducible refine wp_region_later (by kernel_rfl) (by kernel_rfl) ?_);(repeat(first|go_big_quiet_step (first|fail)));refine wpQuiet_nil ?_;rintro _ ⟨x,rfl⟩)|(refine stepLoad1 rfl _ _ rfl w.heap.size 1 rfl (HB0.out.to inferInstance) _ rfl _ Tryz.underlying46 rfl ?_))
 refine(o_lmarkIntS (HFF.out.o0.fr FA0.out (Rng.out (.inr (by omega)))) (by omega) (by omega) (by omega)).mono ?_
 intro e0 w1 hq0
 obtain⟨he,hi,F1⟩:=hq0
 obtain⟨K1,hK⟩:∃ K:Int,K=k+(x.Params.length:Int)*((1:Nat):Int):=⟨_,rfl⟩
 obtain rfl:e0=.returned (.int .i64 K1):=he.trans (by rw[hK]<;>rfl)
 have hK1:k≤K1∧K1≤k+5*totL x.Params:=by omega
 have HK1:=lH hK;have HI0:=lH hi
 have HG0:=lH (show Fr B χ (Rng (o+0) (o+1)) _ w1 from F1.rng0)
 clear he hK hi F1
 have HB1:=lH (HB0.out.frm HG0.out (by omega) hFB)
 have FA1:=lH (FA0.out.tr HG0.out (by omega) (by omega))
 go_wp2_with (first|((with_reducible refine wp_region_later (by kernel_rfl) (by kernel_rfl) ?_);(repeat(first|go_big_quiet_step (first|fail)));refine wpQuiet_nil ?_;rintro _ ⟨x,rfl⟩)|(refine stepLoad1 rfl _ _ rfl w.heap.size 3 rfl (HB1.out.to inferInstance) _ rfl _ Tryz.underlying78 rfl ?_))
 refine(o_lmarkLimitS (HFF.out.o1.fr FA1.out (Rng.out (.inr (by omega)))) (by omega) (by omega) (by omega)).mono ?_
 intro e1 w2 hq1
 obtain⟨he,hi,F1⟩:=hq1
 obtain⟨K2,hK⟩:∃ K:Int,K=K1+(x.Limits.length:Int)*((3:Nat):Int):=⟨_,rfl⟩
 obtain rfl:e1=.returned (.int .i64 K2):=he.trans (by rw[hK]<;>rfl)
 have hK2:K1≤K2∧K2≤K1+5*totL x.Limits:=by omega
 have HK2:=lH hK;have HI1:=lH hi
 have HG1:=lH (show Fr B χ (Rng (o+1) (o+2)) _ w2 from F1.rng0)
 clear he hK hi F1
 have HB2:=lH (HB1.out.frm HG1.out (by omega) hFB)
 have FA2:=lH (FA1.out.tr HG1.out (by omega) (by omega))
 go_wp2_with (first|((with_reducible refine wp_region_later (by kernel_rfl) (by kernel_rfl) ?_);(repeat(first|go_big_quiet_step (first|fail)));refine wpQuiet_nil ?_;rintro _ ⟨x,rfl⟩)|(refine stepLoad1 rfl _ _ rfl w.heap.size 4 rfl (HB2.out.to inferInstance) _ rfl _ Tryz.underlying79 rfl ?_))
 refine(o_lmarkWaitingS (HFF.out.o2.fr FA2.out (Rng.out (.inr (by omega)))) (by omega) (by omega) (by omega)).mono ?_
 intro e2 w3 hq2
 obtain⟨he,hi,F1⟩:=hq2
 obtain⟨K3,hK⟩:∃ K:Int,K=K2+(x.Orders.length:Int)*((5:Nat):Int):=⟨_,rfl⟩
 obtain rfl:e2=.returned (.int .i64 K3):=he.trans (by rw[hK]<;>rfl)
 have hK3:K2≤K3∧K3≤K2+5*totL x.Orders:=by omega
 have HK3:=lH hK;have HI2:=lH hi
 have HG2:=lH (show Fr B χ (Rng (o+2) (o+3)) _ w3 from F1.rng0)
 clear he hK hi F1
 have HB3:=lH (HB2.out.frm HG2.out (by omega) hFB)
 have FA3:=lH (FA2.out.tr HG2.out (by omega) (by omega))
 go_wp2_with (first|((with_reducible refine wp_region_later (by kernel_rfl) (by kernel_rfl) ?_);(repeat(first|go_big_quiet_step (first|fail)));refine wpQuiet_nil ?_;rintro _ ⟨x,rfl⟩)|(refine stepLoad1 rfl _ _ rfl w.heap.size 5 rfl (HB3.out.to inferInstance) _ rfl _ Tryz.underlying80 rfl ?_))
 refine(o_lmarkDoneS (HFF.out.o3.fr FA3.out (Rng.out (.inr (by omega)))) (by omega) (by omega) (by omega)).mono ?_
 intro e3 w4 hq3
 obtain⟨he,hi,F1⟩:=hq3
 obtain⟨K4,hK⟩:∃ K:Int,K=K3+(x.Done.length:Int)*((3:Nat):Int):=⟨_,rfl⟩
 obtain rfl:e3=.returned (.int .i64 K4):=he.trans (by rw[hK]<;>rfl)
 have hK4:K3≤K4∧K4≤K3+5*totL x.Done:=by omega
 have HK4:=lH hK;have HI3:=lH hi
 have HG3:=lH (show Fr B χ (Rng (o+3) (o+4)) _ w4 from F1.rng0)
 clear he hK hi F1
 have HB4:=lH (HB3.out.frm HG3.out (by omega) hFB)
 have FA4:=lH (FA3.out.tr HG3.out (by omega) (by omega))
 go_wp2_with (first|((with_reducible refine wp_region_later (by kernel_rfl) (by kernel_rfl) ?_);(repeat(first|go_big_quiet_step (first|fail)));refine wpQuiet_nil ?_;rintro _ ⟨x,rfl⟩)|(refine stepLoad rfl _ _ rfl (w.heap.size) 6 rfl (row:=[.int .i64 x.Recorder.Room,.slice A.a4 x.Recorder.Records.length A.c4,.slice A.a5 x.Recorder.Dropped.length A.c5]) (HB4.out.to inferInstance) _ Tryz.underlying82 rfl (by kernel_rfl) (by kernel_rfl) ?_))
 refine(o_lmarkRecorder (x:=x.Recorder) ⟨(HFF.out.o4.fr FA4.out (Rng.out (.inr (by omega)))),(HFF.out.o5.fr FA4.out (Rng.out (.inr (by omega)))),HOK.out.2.1⟩ (HFR.out.mono FA4.out.size) (Nat.le_trans hB FA4.out.size) (by omega) (by omega) (by omega) (by omega)).mono ?_
 intro e4 w5 hq4
 obtain⟨he,hi,F1⟩:=hq4
 obtain⟨K5,hK⟩:∃ K:Int,K=mnMRecorder x.Recorder (K4):=⟨_,rfl⟩
 obtain rfl:e4=.returned (.int .i64 K5):=he.trans (by rw[hK]<;>rfl)
 have hb:=mnMRecorder_le x.Recorder K4
 have hK5:K4≤K5∧K5≤K4+5*Enc.tot x.Recorder:=by omega
 have HK5:=lH hK;have HI4:=lH hi
 have HG4:=lH (show Fr B χ (Rng (o+4) (o+6)) _ w5 from F1)
 clear he hK hi F1 hb
 have HB5:=lH (HB4.out.frm HG4.out (by omega) hFB)
 have FA5:=lH (FA4.out.tr HG4.out (by omega) (by omega))
 go_wp2_with (first|((with_reducible refine wp_region_later (by kernel_rfl) (by kernel_rfl) ?_);(repeat(first|go_big_quiet_step (first|fail)));refine wpQuiet_nil ?_;rintro _ ⟨x,rfl⟩)|(refine stepLoad1 rfl _ _ rfl w.heap.size 11 rfl (HB5.out.to inferInstance) _ rfl _ Tryz.underlying46 rfl ?_))
 refine(o_lmarkIntS (HFF.out.o6.fr FA5.out (Rng.out (.inr (by omega)))) (by omega) (by omega) (by omega)).mono ?_
 intro e5 w6 hq5
 obtain⟨he,hi,F1⟩:=hq5
 obtain⟨K6,hK⟩:∃ K:Int,K=K5+(x.Asked.length:Int)*((1:Nat):Int):=⟨_,rfl⟩
 obtain rfl:e5=.returned (.int .i64 K6):=he.trans (by rw[hK]<;>rfl)
 have hK6:K5≤K6∧K6≤K5+5*totL x.Asked:=by omega
 have HK6:=lH hK;have HI5:=lH hi
 have HG5:=lH (show Fr B χ (Rng (o+6) (o+7)) _ w6 from F1.rng0)
 clear he hK hi F1
 have HB6:=lH (HB5.out.frm HG5.out (by omega) hFB)
 have FA6:=lH (FA5.out.tr HG5.out (by omega) (by omega))
 go_wp2_with (first|((with_reducible refine wp_region_later (by kernel_rfl) (by kernel_rfl) ?_);(repeat(first|go_big_quiet_step (first|fail)));refine wpQuiet_nil ?_;rintro _ ⟨x,rfl⟩))
 go_ret
 have FB6:=lH (show Fr B χ (Rng (o+7) (o+7)) w6 w6 from Fr.refl _ _ _ _)
 have FB5:=lH (HG5.out.tr FB6.out (by omega) (by omega))
 have FB4:=lH (HG4.out.tr FB5.out (by omega) (by omega))
 have FB3:=lH (HG3.out.tr FB4.out (by omega) (by omega))
 have FB2:=lH (HG2.out.tr FB3.out (by omega) (by omega))
 have FB1:=lH (HG1.out.tr FB2.out (by omega) (by omega))
 have E1:=HK1.out;clear HK1;subst E1
 have E2:=HK2.out;clear HK2;subst E2
 have E3:=HK3.out;clear HK3;subst E3
 have E4:=HK4.out;clear HK4;subst E4
 have E5:=HK5.out;clear HK5;subst E5
 have E6:=HK6.out;clear HK6;subst E6
 exact⟨rfl,⟨HI0.out.fr FB1.out (Rng.out (.inl (by omega))),HI1.out.fr FB2.out (Rng.out (.inl (by omega))),HI2.out.fr FB3.out (Rng.out (.inl (by omega))),HI3.out.fr FB4.out (Rng.out (.inl (by omega))),HI4.out.o0.fr FB5.out (Rng.out (.inl (by omega))),HI4.out.o1.fr FB5.out (Rng.out (.inl (by omega))),HI5.out.fr FB6.out (Rng.out (.inl (by omega))),HOK.out⟩,FA6.out⟩
set_option maxRecDepth 100000 in
set_option maxHeartbeats 2000000 in
theorem o_lmarkGround{B o:Nat}{χ:Nat→Col}{A:TGroundA}{x:TGround}{k:Int}{w:World}(F:TGroundO B χ o w A x)(hf:Fresh χ w)(hB:B≤w.heap.size)(ho:o+6≤1000)(ht:Enc.tot x≤100000000)(h1:0≤k)(h2:k≤200000000000) :
  Calls Tryz.prog 88 #[.agg (dGround x A).toArray,.int .i64 k] w (Mkd (mnMGround x k) (fun w2=>TGroundO B χ o w2 A (mkMGround x k)) (Fr B χ (Rng o (o+6)) w)):=by
 have htot:Enc.tot x=totL x.Offers+Enc.tot x.Sender+Enc.tot x.Unpacker+totL x.Pairs+totL x.Records+totL x.Files+totL x.Told:=rfl
 have t0:=totL_nonneg x.Offers;have l0:=totL_len x.Offers
 have t1:=Enc.tot_nonneg x.Sender
 have t3:=Enc.tot_nonneg x.Unpacker
 have t4:=totL_nonneg x.Pairs;have l4:=totL_len x.Pairs
 have t5:=totL_nonneg x.Records;have l5:=totL_len x.Records
 have t6:=totL_nonneg x.Files;have l6:=totL_len x.Files
 have t7:=totL_nonneg x.Told;have l7:=totL_len x.Told
 have HOK:=lH F.ok
 have HB0:=lH (Held.new w (dGround x A) 76 w.heap.size rfl)
 have hFB:1000≤(χ w.heap.size).1:=hf _ (Nat.le_refl _)
 have FA0:=lH (show Fr B χ (Rng o (o+0)) w (w.alloc (.cells (dGround x A).toArray 76))from Fr.grows _ _ _ _ _)
 have HFF:=lH F;clear F
 have HFR:=lH hf;clear hf
 go_enter Tryz.func88,Tryz.ntmps88
 go_wp2_with (first|((with_reducible refine wp_region_later (by kernel_rfl) (by kernel_rfl) ?_);(repeat(first|go_big_quiet_step (first|fail)));refine wpQuiet_nil ?_;rintro _ ⟨x,rfl⟩)|(refine stepLoad1 rfl _ _ rfl w.heap.size 0 rfl (HB0.out.to inferInstance) _ rfl _ Tryz.underlying30 rfl ?_))
 refine(o_lmarkStringS (HFF.out.o0.fr FA0.out (Rng.out (.inr (by omega)))) (by omega) (by omega) (by omega)).mono ?_
 intro e0 w1 hq0
 obtain⟨he,hi,F1⟩:=hq0
 obtain⟨K1,hK⟩:∃ K:Int,K=k+(x.Offers.length:Int)*((1:Nat):Int):=⟨_,rfl⟩
 obtain rfl:e0=.returned (.int .i64 K1):=he.trans (by rw[hK]<;>rfl)
 have hK1:k≤K1∧K1≤k+5*totL x.Offers:=by omega
 have HK1:=lH hK;have HI0:=lH hi
 have HG0:=lH (show Fr B χ (Rng (o+0) (o+1)) _ w1 from F1.rng0)
 clear he hK hi F1
 have HB1:=lH (HB0.out.frm HG0.out (by omega) hFB)
 have FA1:=lH (FA0.out.tr HG0.out (by omega) (by omega))
 go_wp2_with (first|((with_reducible refine wp_region_later (by kernel_rfl) (by kernel_rfl) ?_);(repeat(first|go_big_quiet_step (first|fail)));refine wpQuiet_nil ?_;rintro _ ⟨x,rfl⟩)|(refine stepLoad rfl _ _ rfl (w.heap.size) 1 rfl (row:=[.int .i64 x.Sender.Next,.int .i64 x.Sender.Window,.slice A.a1 x.Sender.Waiting.length A.c1,.int .i64 x.Sender.Done]) (HB1.out.to inferInstance) _ Tryz.underlying69 rfl (by kernel_rfl) (by kernel_rfl) ?_))
 refine(o_lmarkSender (x:=x.Sender) ⟨(HFF.out.o1.fr FA1.out (Rng.out (.inr (by omega)))),HOK.out.1⟩ (HFR.out.mono FA1.out.size) (Nat.le_trans hB FA1.out.size) (by omega) (by omega) (by omega) (by omega)).mono ?_
 intro e1 w2 hq1
 obtain⟨he,hi,F1⟩:=hq1
 obtain⟨K2,hK⟩:∃ K:Int,K=mnMSender x.Sender (K1):=⟨_,rfl⟩
 obtain rfl:e1=.returned (.int .i64 K2):=he.trans (by rw[hK]<;>rfl)
 have hb:=mnMSender_le x.Sender K1
 have hK2:K1≤K2∧K2≤K1+5*Enc.tot x.Sender:=by omega
 have HK2:=lH hK;have HI1:=lH hi
 have HG1:=lH (show Fr B χ (Rng (o+1) (o+2)) _ w2 from F1)
 clear he hK hi F1 hb
 have HB2:=lH (HB1.out.frm HG1.out (by omega) hFB)
 have FA2:=lH (FA1.out.tr HG1.out (by omega) (by omega))
 go_wp2_with (first|((with_reducible refine wp_region_later (by kernel_rfl) (by kernel_rfl) ?_);(repeat(first|go_big_quiet_step (first|fail)));refine wpQuiet_nil ?_;rintro _ ⟨x,rfl⟩)|(refine stepLoad1 rfl _ _ rfl w.heap.size 13 rfl (HB2.out.to inferInstance) _ rfl _ Tryz.underlying72 rfl ?_))
 refine(o_lmarkPairS (HFF.out.o2.fr FA2.out (Rng.out (.inr (by omega)))) (by omega) (by omega) (by omega)).mono ?_
 intro e2 w3 hq2
 obtain⟨he,hi,F1⟩:=hq2
 obtain⟨K3,hK⟩:∃ K:Int,K=K2+(x.Pairs.length:Int)*((2:Nat):Int):=⟨_,rfl⟩
 obtain rfl:e2=.returned (.int .i64 K3):=he.trans (by rw[hK]<;>rfl)
 have hK3:K2≤K3∧K3≤K2+5*totL x.Pairs:=by omega
 have HK3:=lH hK;have HI2:=lH hi
 have HG2:=lH (show Fr B χ (Rng (o+2) (o+3)) _ w3 from F1.rng0)
 clear he hK hi F1
 have HB3:=lH (HB2.out.frm HG2.out (by omega) hFB)
 have FA3:=lH (FA2.out.tr HG2.out (by omega) (by omega))
 go_wp2_with (first|((with_reducible refine wp_region_later (by kernel_rfl) (by kernel_rfl) ?_);(repeat(first|go_big_quiet_step (first|fail)));refine wpQuiet_nil ?_;rintro _ ⟨x,rfl⟩)|(refine stepLoad1 rfl _ _ rfl w.heap.size 14 rfl (HB3.out.to inferInstance) _ rfl _ Tryz.underlying73 rfl ?_))
 refine(o_lmarkRecordS (HFF.out.o3.fr FA3.out (Rng.out (.inr (by omega)))) (by omega) (by omega) (by omega)).mono ?_
 intro e3 w4 hq3
 obtain⟨he,hi,F1⟩:=hq3
 obtain⟨K4,hK⟩:∃ K:Int,K=K3+(x.Records.length:Int)*((4:Nat):Int):=⟨_,rfl⟩
 obtain rfl:e3=.returned (.int .i64 K4):=he.trans (by rw[hK]<;>rfl)
 have hK4:K3≤K4∧K4≤K3+5*totL x.Records:=by omega
 have HK4:=lH hK;have HI3:=lH hi
 have HG3:=lH (show Fr B χ (Rng (o+3) (o+4)) _ w4 from F1.rng0)
 clear he hK hi F1
 have HB4:=lH (HB3.out.frm HG3.out (by omega) hFB)
 have FA4:=lH (FA3.out.tr HG3.out (by omega) (by omega))
 go_wp2_with (first|((with_reducible refine wp_region_later (by kernel_rfl) (by kernel_rfl) ?_);(repeat(first|go_big_quiet_step (first|fail)));refine wpQuiet_nil ?_;rintro _ ⟨x,rfl⟩)|(refine stepLoad1 rfl _ _ rfl w.heap.size 15 rfl (HB4.out.to inferInstance) _ rfl _ Tryz.underlying74 rfl ?_))
 refine(o_lmarkFileInX (HFF.out.o4.elim fun r hr=>⟨r,hr.1,hr.2.fr FA4.out (fun _=>Rng.out (.inr (by omega)))⟩) (by omega) (by omega) (by omega)).mono ?_
 intro e4 w5 hq4
 obtain⟨he,hi,F1⟩:=hq4
 obtain⟨K5,hK⟩:∃ K:Int,K=mnN mn1FileIn x.Files (K4):=⟨_,rfl⟩
 obtain rfl:e4=.returned (.int .i64 K5):=he.trans (by rw[hK]<;>rfl)
 have hb:=mnN_le mn1FileIn mn1FileIn_le x.Files K4
 have hK5:K4≤K5∧K5≤K4+5*totL x.Files:=by omega
 have HK5:=lH hK;have HI4:=lH hi
 have HG4:=lH (show Fr B χ (Rng (o+4) (o+5)) _ w5 from F1)
 clear he hK hi F1 hb
 have HB5:=lH (HB4.out.frm HG4.out (by omega) hFB)
 have FA5:=lH (FA4.out.tr HG4.out (by omega) (by omega))
 go_wp2_with (first|((with_reducible refine wp_region_later (by kernel_rfl) (by kernel_rfl) ?_);(repeat(first|go_big_quiet_step (first|fail)));refine wpQuiet_nil ?_;rintro _ ⟨x,rfl⟩)|(refine stepLoad1 rfl _ _ rfl w.heap.size 16 rfl (HB5.out.to inferInstance) _ rfl _ Tryz.underlying41 rfl ?_))
 refine(o_lmarkBoolS (HFF.out.o5.fr FA5.out (Rng.out (.inr (by omega)))) (by omega) (by omega) (by omega)).mono ?_
 intro e5 w6 hq5
 obtain⟨he,hi,F1⟩:=hq5
 obtain⟨K6,hK⟩:∃ K:Int,K=K5+(x.Told.length:Int)*((1:Nat):Int):=⟨_,rfl⟩
 obtain rfl:e5=.returned (.int .i64 K6):=he.trans (by rw[hK]<;>rfl)
 have hK6:K5≤K6∧K6≤K5+5*totL x.Told:=by omega
 have HK6:=lH hK;have HI5:=lH hi
 have HG5:=lH (show Fr B χ (Rng (o+5) (o+6)) _ w6 from F1.rng0)
 clear he hK hi F1
 have HB6:=lH (HB5.out.frm HG5.out (by omega) hFB)
 have FA6:=lH (FA5.out.tr HG5.out (by omega) (by omega))
 go_wp2_with (first|((with_reducible refine wp_region_later (by kernel_rfl) (by kernel_rfl) ?_);(repeat(first|go_big_quiet_step (first|fail)));refine wpQuiet_nil ?_;rintro _ ⟨x,rfl⟩))
 go_ret
 have FB6:=lH (show Fr B χ (Rng (o+6) (o+6)) w6 w6 from Fr.refl _ _ _ _)
 have FB5:=lH (HG5.out.tr FB6.out (by omega) (by omega))
 have FB4:=lH (HG4.out.tr FB5.out (by omega) (by omega))
 have FB3:=lH (HG3.out.tr FB4.out (by omega) (by omega))
 have FB2:=lH (HG2.out.tr FB3.out (by omega) (by omega))
 have FB1:=lH (HG1.out.tr FB2.out (by omega) (by omega))
 have E1:=HK1.out;clear HK1;subst E1
 have E2:=HK2.out;clear HK2;subst E2
 have E3:=HK3.out;clear HK3;subst E3
 have E4:=HK4.out;clear HK4;subst E4
 have E5:=HK5.out;clear HK5;subst E5
 have E6:=HK6.out;clear HK6;subst E6
 exact⟨rfl,⟨HI0.out.fr FB1.out (Rng.out (.inl (by omega))),HI1.out.o0.fr FB2.out (Rng.out (.inl (by omega))),HI2.out.fr FB3.out (Rng.out (.inl (by omega))),HI3.out.fr FB4.out (Rng.out (.inl (by omega))),HI4.out.elim fun r hr=>⟨r,hr.1,hr.2.fr FB5.out (fun _=>Rng.out (.inl (by omega)))⟩,HI5.out.fr FB6.out (Rng.out (.inl (by omega))),HOK.out⟩,FA6.out⟩
set_option maxRecDepth 100000 in
set_option maxHeartbeats 2000000 in
theorem o_lmarkSpace{B o:Nat}{χ:Nat→Col}{A:TSpaceA}{x:TSpace}{k:Int}{w:World}(F:TSpaceO B χ o w A x)(hf:Fresh χ w)(hB:B≤w.heap.size)(ho:o+11≤1000)(ht:Enc.tot x≤100000000)(h1:0≤k)(h2:k≤200000000000) :
  Calls Tryz.prog 89 #[.agg (dSpace x A).toArray,.int .i64 k] w (Mkd (mnMSpace x k) (fun w2=>TSpaceO B χ o w2 A (mkMSpace x k)) (Fr B χ (Rng o (o+11)) w)):=by
 have htot:Enc.tot x=Enc.tot x.Board+Enc.tot x.Packer+totL x.Files+totL x.Outs+totL x.Sent:=rfl
 have t1:=Enc.tot_nonneg x.Board
 have t2:=Enc.tot_nonneg x.Packer
 have t4:=totL_nonneg x.Files;have l4:=totL_len x.Files
 have t5:=totL_nonneg x.Outs;have l5:=totL_len x.Outs
 have t7:=totL_nonneg x.Sent;have l7:=totL_len x.Sent
 have HOK:=lH F.ok
 have HB0:=lH (Held.new w (dSpace x A) 88 w.heap.size rfl)
 have hFB:1000≤(χ w.heap.size).1:=hf _ (Nat.le_refl _)
 have FA0:=lH (show Fr B χ (Rng o (o+0)) w (w.alloc (.cells (dSpace x A).toArray 88))from Fr.grows _ _ _ _ _)
 have HFF:=lH F;clear F
 have HFR:=lH hf;clear hf
 go_enter Tryz.func89,Tryz.ntmps89
 go_wp2_with (first|((with_reducible refine wp_region_later (by kernel_rfl) (by kernel_rfl) ?_);(repeat(first|go_big_quiet_step (first|fail)));refine wpQuiet_nil ?_;rintro _ ⟨x,rfl⟩)|(refine stepLoad rfl _ _ rfl (w.heap.size) 4 rfl (row:=(dBoard x.Board A)) (HB0.out.to inferInstance) _ Tryz.underlying84 rfl (by kernel_rfl) (by kernel_rfl) ?_))
 refine(o_lmarkBoard (A:=⟨A.a0,A.c0,A.a1,A.c1,A.a2,A.c2,A.a3,A.c3,A.a4,A.c4,A.a5,A.c5,A.a6,A.c6⟩) (x:=x.Board) ⟨(HFF.out.o0.fr FA0.out (Rng.out (.inr (by omega)))),(HFF.out.o1.fr FA0.out (Rng.out (.inr (by omega)))),(HFF.out.o2.fr FA0.out (Rng.out (.inr (by omega)))),(HFF.out.o3.fr FA0.out (Rng.out (.inr (by omega)))),(HFF.out.o4.fr FA0.out (Rng.out (.inr (by omega)))),(HFF.out.o5.fr FA0.out (Rng.out (.inr (by omega)))),(HFF.out.o6.fr FA0.out (Rng.out (.inr (by omega)))),HOK.out.2.1⟩ (HFR.out.mono FA0.out.size) (Nat.le_trans hB FA0.out.size) (by omega) (by omega) (by omega) (by omega)).mono ?_
 intro e0 w1 hq0
 obtain⟨he,hi,F1⟩:=hq0
 obtain⟨K1,hK⟩:∃ K:Int,K=mnMBoard x.Board (k):=⟨_,rfl⟩
 obtain rfl:e0=.returned (.int .i64 K1):=he.trans (by rw[hK]<;>rfl)
 have hb:=mnMBoard_le x.Board k
 have hK1:k≤K1∧K1≤k+5*Enc.tot x.Board:=by omega
 have HK1:=lH hK;have HI0:=lH hi
 have HG0:=lH (show Fr B χ (Rng (o+0) (o+7)) _ w1 from F1)
 clear he hK hi F1 hb
 have HB1:=lH (HB0.out.frm HG0.out (by omega) hFB)
 have FA1:=lH (FA0.out.tr HG0.out (by omega) (by omega))
 go_wp2_with (first|((with_reducible refine wp_region_later (by kernel_rfl) (by kernel_rfl) ?_);(repeat(first|go_big_quiet_step (first|fail)));refine wpQuiet_nil ?_;rintro _ ⟨x,rfl⟩)|(refine stepLoad rfl _ _ rfl (w.heap.size) 16 rfl (row:=[.int .i64 x.Packer.Channel,.int .i64 x.Packer.Count,.string x.Packer.Rest,.slice A.a7 x.Packer.Starts.length A.c7]) (HB1.out.to inferInstance) _ Tryz.underlying85 rfl (by kernel_rfl) (by kernel_rfl) ?_))
 refine(o_lmarkPacker (x:=x.Packer) ⟨(HFF.out.o7.fr FA1.out (Rng.out (.inr (by omega)))),HOK.out.2.2.1⟩ (HFR.out.mono FA1.out.size) (Nat.le_trans hB FA1.out.size) (by omega) (by omega) (by omega) (by omega)).mono ?_
 intro e1 w2 hq1
 obtain⟨he,hi,F1⟩:=hq1
 obtain⟨K2,hK⟩:∃ K:Int,K=mnMPacker x.Packer (K1):=⟨_,rfl⟩
 obtain rfl:e1=.returned (.int .i64 K2):=he.trans (by rw[hK]<;>rfl)
 have hb:=mnMPacker_le x.Packer K1
 have hK2:K1≤K2∧K2≤K1+5*Enc.tot x.Packer:=by omega
 have HK2:=lH hK;have HI1:=lH hi
 have HG1:=lH (show Fr B χ (Rng (o+7) (o+8)) _ w2 from F1)
 clear he hK hi F1 hb
 have HB2:=lH (HB1.out.frm HG1.out (by omega) hFB)
 have FA2:=lH (FA1.out.tr HG1.out (by omega) (by omega))
 go_wp2_with (first|((with_reducible refine wp_region_later (by kernel_rfl) (by kernel_rfl) ?_);(repeat(first|go_big_quiet_step (first|fail)));refine wpQuiet_nil ?_;rintro _ ⟨x,rfl⟩)|(refine stepLoad1 rfl _ _ rfl w.heap.size 21 rfl (HB2.out.to inferInstance) _ rfl _ Tryz.underlying30 rfl ?_))
 refine(o_lmarkStringS (HFF.out.o8.fr FA2.out (Rng.out (.inr (by omega)))) (by omega) (by omega) (by omega)).mono ?_
 intro e2 w3 hq2
 obtain⟨he,hi,F1⟩:=hq2
 obtain⟨K3,hK⟩:∃ K:Int,K=K2+(x.Files.length:Int)*((1:Nat):Int):=⟨_,rfl⟩
 obtain rfl:e2=.returned (.int .i64 K3):=he.trans (by rw[hK]<;>rfl)
 have hK3:K2≤K3∧K3≤K2+5*totL x.Files:=by omega
 have HK3:=lH hK;have HI2:=lH hi
 have HG2:=lH (show Fr B χ (Rng (o+8) (o+9)) _ w3 from F1.rng0)
 clear he hK hi F1
 have HB3:=lH (HB2.out.frm HG2.out (by omega) hFB)
 have FA3:=lH (FA2.out.tr HG2.out (by omega) (by omega))
 go_wp2_with (first|((with_reducible refine wp_region_later (by kernel_rfl) (by kernel_rfl) ?_);(repeat(first|go_big_quiet_step (first|fail)));refine wpQuiet_nil ?_;rintro _ ⟨x,rfl⟩)|(refine stepLoad1 rfl _ _ rfl w.heap.size 22 rfl (HB3.out.to inferInstance) _ rfl _ Tryz.underlying86 rfl ?_))
 refine(o_lmarkFileOutX (HFF.out.o9.elim fun r hr=>⟨r,hr.1,hr.2.fr FA3.out (fun _=>Rng.out (.inr (by omega)))⟩) (by omega) (by omega) (by omega)).mono ?_
 intro e3 w4 hq3
 obtain⟨he,hi,F1⟩:=hq3
 obtain⟨K4,hK⟩:∃ K:Int,K=mnN mn1FileOut x.Outs (K3):=⟨_,rfl⟩
 obtain rfl:e3=.returned (.int .i64 K4):=he.trans (by rw[hK]<;>rfl)
 have hb:=mnN_le mn1FileOut mn1FileOut_le x.Outs K3
 have hK4:K3≤K4∧K4≤K3+5*totL x.Outs:=by omega
 have HK4:=lH hK;have HI3:=lH hi
 have HG3:=lH (show Fr B χ (Rng (o+9) (o+10)) _ w4 from F1)
 clear he hK hi F1 hb
 have HB4:=lH (HB3.out.frm HG3.out (by omega) hFB)
 have FA4:=lH (FA3.out.tr HG3.out (by omega) (by omega))
 go_wp2_with (first|((with_reducible refine wp_region_later (by kernel_rfl) (by kernel_rfl) ?_);(repeat(first|go_big_quiet_step (first|fail)));refine wpQuiet_nil ?_;rintro _ ⟨x,rfl⟩)|(refine stepLoad1 rfl _ _ rfl w.heap.size 24 rfl (HB4.out.to inferInstance) _ rfl _ Tryz.underlying73 rfl ?_))
 refine(o_lmarkRecordS (HFF.out.o10.fr FA4.out (Rng.out (.inr (by omega)))) (by omega) (by omega) (by omega)).mono ?_
 intro e4 w5 hq4
 obtain⟨he,hi,F1⟩:=hq4
 obtain⟨K5,hK⟩:∃ K:Int,K=K4+(x.Sent.length:Int)*((4:Nat):Int):=⟨_,rfl⟩
 obtain rfl:e4=.returned (.int .i64 K5):=he.trans (by rw[hK]<;>rfl)
 have hK5:K4≤K5∧K5≤K4+5*totL x.Sent:=by omega
 have HK5:=lH hK;have HI4:=lH hi
 have HG4:=lH (show Fr B χ (Rng (o+10) (o+11)) _ w5 from F1.rng0)
 clear he hK hi F1
 have HB5:=lH (HB4.out.frm HG4.out (by omega) hFB)
 have FA5:=lH (FA4.out.tr HG4.out (by omega) (by omega))
 go_wp2_with (first|((with_reducible refine wp_region_later (by kernel_rfl) (by kernel_rfl) ?_);(repeat(first|go_big_quiet_step (first|fail)));refine wpQuiet_nil ?_;rintro _ ⟨x,rfl⟩))
 go_ret
 have FB5:=lH (show Fr B χ (Rng (o+11) (o+11)) w5 w5 from Fr.refl _ _ _ _)
 have FB4:=lH (HG4.out.tr FB5.out (by omega) (by omega))
 have FB3:=lH (HG3.out.tr FB4.out (by omega) (by omega))
 have FB2:=lH (HG2.out.tr FB3.out (by omega) (by omega))
 have FB1:=lH (HG1.out.tr FB2.out (by omega) (by omega))
 have E1:=HK1.out;clear HK1;subst E1
 have E2:=HK2.out;clear HK2;subst E2
 have E3:=HK3.out;clear HK3;subst E3
 have E4:=HK4.out;clear HK4;subst E4
 have E5:=HK5.out;clear HK5;subst E5
 exact⟨rfl,⟨HI0.out.o0.fr FB1.out (Rng.out (.inl (by omega))),HI0.out.o1.fr FB1.out (Rng.out (.inl (by omega))),HI0.out.o2.fr FB1.out (Rng.out (.inl (by omega))),HI0.out.o3.fr FB1.out (Rng.out (.inl (by omega))),HI0.out.o4.fr FB1.out (Rng.out (.inl (by omega))),HI0.out.o5.fr FB1.out (Rng.out (.inl (by omega))),HI0.out.o6.fr FB1.out (Rng.out (.inl (by omega))),HI1.out.o0.fr FB2.out (Rng.out (.inl (by omega))),HI2.out.fr FB3.out (Rng.out (.inl (by omega))),HI3.out.elim fun r hr=>⟨r,hr.1,hr.2.fr FB4.out (fun _=>Rng.out (.inl (by omega)))⟩,HI4.out.fr FB5.out (Rng.out (.inl (by omega))),HOK.out⟩,FA5.out⟩
set_option maxRecDepth 100000 in
set_option maxHeartbeats 2000000 in
theorem o_lmarkMission{B o:Nat}{χ:Nat→Col}{A:TMissionA}{x:TMission}{k:Int}{w:World}(F:TMissionO B χ o w A x)(hf:Fresh χ w)(hB:B≤w.heap.size)(ho:o+22≤1000)(ht:Enc.tot x≤100000000)(h1:0≤k)(h2:k≤100000000000) :
  Calls Tryz.prog 20 #[.agg (dMission x A).toArray,.int .i64 k] w (Mkd (mnMMission x k) (fun w2=>TMissionO B χ o w2 A (mkMMission x k)) (Fr B χ (Rng o (o+22)) w)):=by
 have htot:Enc.tot x=totL x.Plan+totL x.Ups+totL x.Downs+Enc.tot x.Ground+Enc.tot x.Space+totL x.Offered+totL x.Took:=rfl
 have t4:=totL_nonneg x.Plan;have l4:=totL_len x.Plan
 have t7:=totL_nonneg x.Ups;have l7:=totL_len x.Ups
 have t8:=totL_nonneg x.Downs;have l8:=totL_len x.Downs
 have t9:=Enc.tot_nonneg x.Ground
 have t10:=Enc.tot_nonneg x.Space
 have t11:=totL_nonneg x.Offered;have l11:=totL_len x.Offered
 have t12:=totL_nonneg x.Took;have l12:=totL_len x.Took
 have HOK:=lH F.ok
 have HB0:=lH (Held.new w (dMission x A) 90 w.heap.size rfl)
 have hFB:1000≤(χ w.heap.size).1:=hf _ (Nat.le_refl _)
 have FA0:=lH (show Fr B χ (Rng o (o+0)) w (w.alloc (.cells (dMission x A).toArray 90))from Fr.grows _ _ _ _ _)
 have HFF:=lH F;clear F
 have HFR:=lH hf;clear hf
 go_enter Tryz.func20,Tryz.ntmps20
 go_wp2_with (first|((with_reducible refine wp_region_later (by kernel_rfl) (by kernel_rfl) ?_);(repeat(first|go_big_quiet_step (first|fail)));refine wpQuiet_nil ?_;rintro _ ⟨x,rfl⟩)|(refine stepLoad1 rfl _ _ rfl w.heap.size 7 rfl (HB0.out.to inferInstance) _ rfl _ Tryz.underlying64 rfl ?_))
 refine(o_lmarkSlotS (HFF.out.o0.fr FA0.out (Rng.out (.inr (by omega)))) (by omega) (by omega) (by omega)).mono ?_
 intro e0 w1 hq0
 obtain⟨he,hi,F1⟩:=hq0
 obtain⟨K1,hK⟩:∃ K:Int,K=k+(x.Plan.length:Int)*((2:Nat):Int):=⟨_,rfl⟩
 obtain rfl:e0=.returned (.int .i64 K1):=he.trans (by rw[hK]<;>rfl)
 have hK1:k≤K1∧K1≤k+5*totL x.Plan:=by omega
 have HK1:=lH hK;have HI0:=lH hi
 have HG0:=lH (show Fr B χ (Rng (o+0) (o+1)) _ w1 from F1.rng0)
 clear he hK hi F1
 have HB1:=lH (HB0.out.frm HG0.out (by omega) hFB)
 have FA1:=lH (FA0.out.tr HG0.out (by omega) (by omega))
 go_wp2_with (first|((with_reducible refine wp_region_later (by kernel_rfl) (by kernel_rfl) ?_);(repeat(first|go_big_quiet_step (first|fail)));refine wpQuiet_nil ?_;rintro _ ⟨x,rfl⟩)|(refine stepLoad1 rfl _ _ rfl w.heap.size 14 rfl (HB1.out.to inferInstance) _ rfl _ Tryz.underlying66 rfl ?_))
 refine(o_lmarkFlightS (HFF.out.o1.fr FA1.out (Rng.out (.inr (by omega)))) (by omega) (by omega) (by omega)).mono ?_
 intro e1 w2 hq1
 obtain⟨he,hi,F1⟩:=hq1
 obtain⟨K2,hK⟩:∃ K:Int,K=K1+(x.Ups.length:Int)*((2:Nat):Int):=⟨_,rfl⟩
 obtain rfl:e1=.returned (.int .i64 K2):=he.trans (by rw[hK]<;>rfl)
 have hK2:K1≤K2∧K2≤K1+5*totL x.Ups:=by omega
 have HK2:=lH hK;have HI1:=lH hi
 have HG1:=lH (show Fr B χ (Rng (o+1) (o+2)) _ w2 from F1.rng0)
 clear he hK hi F1
 have HB2:=lH (HB1.out.frm HG1.out (by omega) hFB)
 have FA2:=lH (FA1.out.tr HG1.out (by omega) (by omega))
 go_wp2_with (first|((with_reducible refine wp_region_later (by kernel_rfl) (by kernel_rfl) ?_);(repeat(first|go_big_quiet_step (first|fail)));refine wpQuiet_nil ?_;rintro _ ⟨x,rfl⟩)|(refine stepLoad1 rfl _ _ rfl w.heap.size 15 rfl (HB2.out.to inferInstance) _ rfl _ Tryz.underlying66 rfl ?_))
 refine(o_lmarkFlightS (HFF.out.o2.fr FA2.out (Rng.out (.inr (by omega)))) (by omega) (by omega) (by omega)).mono ?_
 intro e2 w3 hq2
 obtain⟨he,hi,F1⟩:=hq2
 obtain⟨K3,hK⟩:∃ K:Int,K=K2+(x.Downs.length:Int)*((2:Nat):Int):=⟨_,rfl⟩
 obtain rfl:e2=.returned (.int .i64 K3):=he.trans (by rw[hK]<;>rfl)
 have hK3:K2≤K3∧K3≤K2+5*totL x.Downs:=by omega
 have HK3:=lH hK;have HI2:=lH hi
 have HG2:=lH (show Fr B χ (Rng (o+2) (o+3)) _ w3 from F1.rng0)
 clear he hK hi F1
 have HB3:=lH (HB2.out.frm HG2.out (by omega) hFB)
 have FA3:=lH (FA2.out.tr HG2.out (by omega) (by omega))
 go_wp2_with (first|((with_reducible refine wp_region_later (by kernel_rfl) (by kernel_rfl) ?_);(repeat(first|go_big_quiet_step (first|fail)));refine wpQuiet_nil ?_;rintro _ ⟨x,rfl⟩)|(refine stepLoad rfl _ _ rfl (w.heap.size) 16 rfl (row:=(cGround x.Ground A.a3 A.c3 A.a4 A.c4 A.a5 A.c5 A.a6 A.c6 A.a7 A.c7 A.a8 A.c8)) (HB3.out.to inferInstance) _ Tryz.underlying76 rfl (by kernel_rfl) (by kernel_rfl) ?_))
 refine(o_lmarkGround (A:=⟨A.a3,A.c3,A.a4,A.c4,A.a5,A.c5,A.a6,A.c6,A.a7,A.c7,A.a8,A.c8⟩) (x:=x.Ground) ⟨(HFF.out.o3.fr FA3.out (Rng.out (.inr (by omega)))),(HFF.out.o4.fr FA3.out (Rng.out (.inr (by omega)))),(HFF.out.o5.fr FA3.out (Rng.out (.inr (by omega)))),(HFF.out.o6.fr FA3.out (Rng.out (.inr (by omega)))),(HFF.out.o7.elim fun r hr=>⟨r,hr.1,hr.2.fr FA3.out (fun _=>Rng.out (.inr (by omega)))⟩),(HFF.out.o8.fr FA3.out (Rng.out (.inr (by omega)))),HOK.out.2.2.2.2.2.2.1⟩ (HFR.out.mono FA3.out.size) (Nat.le_trans hB FA3.out.size) (by omega) (by omega) (by omega) (by omega)).mono ?_
 intro e3 w4 hq3
 obtain⟨he,hi,F1⟩:=hq3
 obtain⟨K4,hK⟩:∃ K:Int,K=mnMGround x.Ground (K3):=⟨_,rfl⟩
 obtain rfl:e3=.returned (.int .i64 K4):=he.trans (by rw[hK]<;>rfl)
 have hb:=mnMGround_le x.Ground K3
 have hK4:K3≤K4∧K4≤K3+5*Enc.tot x.Ground:=by omega
 have HK4:=lH hK;have HI3:=lH hi
 have HG3:=lH (show Fr B χ (Rng (o+3) (o+9)) _ w4 from F1)
 clear he hK hi F1 hb
 have HB4:=lH (HB3.out.frm HG3.out (by omega) hFB)
 have FA4:=lH (FA3.out.tr HG3.out (by omega) (by omega))
 go_wp2_with (first|((with_reducible refine wp_region_later (by kernel_rfl) (by kernel_rfl) ?_);(repeat(first|go_big_quiet_step (first|fail)));refine wpQuiet_nil ?_;rintro _ ⟨x,rfl⟩)|(refine stepLoad rfl _ _ rfl (w.heap.size) 33 rfl (row:=(cSpace x.Space A.a9 A.c9 A.a10 A.c10 A.a11 A.c11 A.a12 A.c12 A.a13 A.c13 A.a14 A.c14 A.a15 A.c15 A.a16 A.c16 A.a17 A.c17 A.a18 A.c18 A.a19 A.c19)) (HB4.out.to inferInstance) _ Tryz.underlying88 rfl (by kernel_rfl) (by kernel_rfl) ?_))
 refine(o_lmarkSpace (A:=⟨A.a9,A.c9,A.a10,A.c10,A.a11,A.c11,A.a12,A.c12,A.a13,A.c13,A.a14,A.c14,A.a15,A.c15,A.a16,A.c16,A.a17,A.c17,A.a18,A.c18,A.a19,A.c19⟩) (x:=x.Space) ⟨(HFF.out.o9.fr FA4.out (Rng.out (.inr (by omega)))),(HFF.out.o10.fr FA4.out (Rng.out (.inr (by omega)))),(HFF.out.o11.fr FA4.out (Rng.out (.inr (by omega)))),(HFF.out.o12.fr FA4.out (Rng.out (.inr (by omega)))),(HFF.out.o13.fr FA4.out (Rng.out (.inr (by omega)))),(HFF.out.o14.fr FA4.out (Rng.out (.inr (by omega)))),(HFF.out.o15.fr FA4.out (Rng.out (.inr (by omega)))),(HFF.out.o16.fr FA4.out (Rng.out (.inr (by omega)))),(HFF.out.o17.fr FA4.out (Rng.out (.inr (by omega)))),(HFF.out.o18.elim fun r hr=>⟨r,hr.1,hr.2.fr FA4.out (fun _=>Rng.out (.inr (by omega)))⟩),(HFF.out.o19.fr FA4.out (Rng.out (.inr (by omega)))),HOK.out.2.2.2.2.2.2.2.1⟩ (HFR.out.mono FA4.out.size) (Nat.le_trans hB FA4.out.size) (by omega) (by omega) (by omega) (by omega)).mono ?_
 intro e4 w5 hq4
 obtain⟨he,hi,F1⟩:=hq4
 obtain⟨K5,hK⟩:∃ K:Int,K=mnMSpace x.Space (K4):=⟨_,rfl⟩
 obtain rfl:e4=.returned (.int .i64 K5):=he.trans (by rw[hK]<;>rfl)
 have hb:=mnMSpace_le x.Space K4
 have hK5:K4≤K5∧K5≤K4+5*Enc.tot x.Space:=by omega
 have HK5:=lH hK;have HI4:=lH hi
 have HG4:=lH (show Fr B χ (Rng (o+9) (o+20)) _ w5 from F1)
 clear he hK hi F1 hb
 have HB5:=lH (HB4.out.frm HG4.out (by omega) hFB)
 have FA5:=lH (FA4.out.tr HG4.out (by omega) (by omega))
 go_wp2_with (first|((with_reducible refine wp_region_later (by kernel_rfl) (by kernel_rfl) ?_);(repeat(first|go_big_quiet_step (first|fail)));refine wpQuiet_nil ?_;rintro _ ⟨x,rfl⟩)|(refine stepLoad1 rfl _ _ rfl w.heap.size 58 rfl (HB5.out.to inferInstance) _ rfl _ Tryz.underlying30 rfl ?_))
 refine(o_lmarkStringS (HFF.out.o20.fr FA5.out (Rng.out (.inr (by omega)))) (by omega) (by omega) (by omega)).mono ?_
 intro e5 w6 hq5
 obtain⟨he,hi,F1⟩:=hq5
 obtain⟨K6,hK⟩:∃ K:Int,K=K5+(x.Offered.length:Int)*((1:Nat):Int):=⟨_,rfl⟩
 obtain rfl:e5=.returned (.int .i64 K6):=he.trans (by rw[hK]<;>rfl)
 have hK6:K5≤K6∧K6≤K5+5*totL x.Offered:=by omega
 have HK6:=lH hK;have HI5:=lH hi
 have HG5:=lH (show Fr B χ (Rng (o+20) (o+21)) _ w6 from F1.rng0)
 clear he hK hi F1
 have HB6:=lH (HB5.out.frm HG5.out (by omega) hFB)
 have FA6:=lH (FA5.out.tr HG5.out (by omega) (by omega))
 go_wp2_with (first|((with_reducible refine wp_region_later (by kernel_rfl) (by kernel_rfl) ?_);(repeat(first|go_big_quiet_step (first|fail)));refine wpQuiet_nil ?_;rintro _ ⟨x,rfl⟩)|(refine stepLoad1 rfl _ _ rfl w.heap.size 59 rfl (HB6.out.to inferInstance) _ rfl _ Tryz.underlying30 rfl ?_))
 refine(o_lmarkStringS (HFF.out.o21.fr FA6.out (Rng.out (.inr (by omega)))) (by omega) (by omega) (by omega)).mono ?_
 intro e6 w7 hq6
 obtain⟨he,hi,F1⟩:=hq6
 obtain⟨K7,hK⟩:∃ K:Int,K=K6+(x.Took.length:Int)*((1:Nat):Int):=⟨_,rfl⟩
 obtain rfl:e6=.returned (.int .i64 K7):=he.trans (by rw[hK]<;>rfl)
 have hK7:K6≤K7∧K7≤K6+5*totL x.Took:=by omega
 have HK7:=lH hK;have HI6:=lH hi
 have HG6:=lH (show Fr B χ (Rng (o+21) (o+22)) _ w7 from F1.rng0)
 clear he hK hi F1
 have HB7:=lH (HB6.out.frm HG6.out (by omega) hFB)
 have FA7:=lH (FA6.out.tr HG6.out (by omega) (by omega))
 go_wp2_with (first|((with_reducible refine wp_region_later (by kernel_rfl) (by kernel_rfl) ?_);(repeat(first|go_big_quiet_step (first|fail)));refine wpQuiet_nil ?_;rintro _ ⟨x,rfl⟩))
 go_ret
 have FB7:=lH (show Fr B χ (Rng (o+22) (o+22)) w7 w7 from Fr.refl _ _ _ _)
 have FB6:=lH (HG6.out.tr FB7.out (by omega) (by omega))
 have FB5:=lH (HG5.out.tr FB6.out (by omega) (by omega))
 have FB4:=lH (HG4.out.tr FB5.out (by omega) (by omega))
 have FB3:=lH (HG3.out.tr FB4.out (by omega) (by omega))
 have FB2:=lH (HG2.out.tr FB3.out (by omega) (by omega))
 have FB1:=lH (HG1.out.tr FB2.out (by omega) (by omega))
 have E1:=HK1.out;clear HK1;subst E1
 have E2:=HK2.out;clear HK2;subst E2
 have E3:=HK3.out;clear HK3;subst E3
 have E4:=HK4.out;clear HK4;subst E4
 have E5:=HK5.out;clear HK5;subst E5
 have E6:=HK6.out;clear HK6;subst E6
 have E7:=HK7.out;clear HK7;subst E7
 exact⟨rfl,⟨HI0.out.fr FB1.out (Rng.out (.inl (by omega))),HI1.out.fr FB2.out (Rng.out (.inl (by omega))),HI2.out.fr FB3.out (Rng.out (.inl (by omega))),HI3.out.o0.fr FB4.out (Rng.out (.inl (by omega))),HI3.out.o1.fr FB4.out (Rng.out (.inl (by omega))),HI3.out.o2.fr FB4.out (Rng.out (.inl (by omega))),HI3.out.o3.fr FB4.out (Rng.out (.inl (by omega))),HI3.out.o4.elim fun r hr=>⟨r,hr.1,hr.2.fr FB4.out (fun _=>Rng.out (.inl (by omega)))⟩,HI3.out.o5.fr FB4.out (Rng.out (.inl (by omega))),HI4.out.o0.fr FB5.out (Rng.out (.inl (by omega))),HI4.out.o1.fr FB5.out (Rng.out (.inl (by omega))),HI4.out.o2.fr FB5.out (Rng.out (.inl (by omega))),HI4.out.o3.fr FB5.out (Rng.out (.inl (by omega))),HI4.out.o4.fr FB5.out (Rng.out (.inl (by omega))),HI4.out.o5.fr FB5.out (Rng.out (.inl (by omega))),HI4.out.o6.fr FB5.out (Rng.out (.inl (by omega))),HI4.out.o7.fr FB5.out (Rng.out (.inl (by omega))),HI4.out.o8.fr FB5.out (Rng.out (.inl (by omega))),HI4.out.o9.elim fun r hr=>⟨r,hr.1,hr.2.fr FB5.out (fun _=>Rng.out (.inl (by omega)))⟩,HI4.out.o10.fr FB5.out (Rng.out (.inl (by omega))),HI5.out.fr FB6.out (Rng.out (.inl (by omega))),HI6.out.fr FB7.out (Rng.out (.inl (by omega))),HOK.out⟩,FA7.out⟩
theorem Fr.old{B U:Nat}{χ χ2:Nat→Col}{f:Col→Col}{C:Col→Prop}{w w':World}(h:Fr B χ C w w')(g:w.heap.size≤U):Fr B (paint U χ χ2 f) C w w' :=
 ⟨h.os,h.tape,h.output,h.size,fun b hb hn=>h.block b hb (fun e=>hn ⟨e.1,by rw[paint,if_pos (by omega)];exact e.2⟩)⟩
theorem Keeps.more{B B':Nat}{w w':World}(h:Keeps B w w')(g:B≤B'):Keeps B' w w':=⟨h.size,fun b h1 h2=>h.block b (Nat.le_trans g h1) h2⟩
theorem Fr.keepsU{B U:Nat}{χ:Nat→Col}{C:Col→Prop}{w w':World}(h:Fr B (paint U χ (fun _=>(0,0)) (fun _=>(1000,0))) C w w')(hC:¬ C (1000,0)):Keeps U w w' :=
 ⟨h.size,fun b h1 h2=>h.block b h2 (fun e=>hC (by have:=e.2;rwa[paint,if_neg (by omega)]at this))⟩
theorem freshU{U:Nat}{χ:Nat→Col}{w:World}(h:U≤w.heap.size):Fresh (paint U χ (fun _=>(0,0)) (fun _=>(1000,0))) w:=fun b hb=>by rw[paint,if_neg (by omega)];exact Nat.le_refl _
theorem Keeps.ofU{U:Nat}{w w':World}(h:Keeps U w w'):∀ b cs T,U≤b→Held w b cs T→Held w' b cs T:=fun b cs T hb H=>by
 unfold Held
 rw[h.block b hb H.lt];exact H
theorem TMissionO.put3{B o:Nat}{χ:Nat→Col}{w w2:World}{A:TMissionA}{x:TMission}(h:TMissionO B χ o w A x){a:Option Addr}{c:Nat}{l:List ByteArray}(f:Fr B χ (·=(o+3,0)) w w2)(k:OwnC B χ (o+3,0) w2 a c l):TMissionO B χ o w2 { A with a3:=a,c3:=c } { x with Ground.Offers:=l } :=
 ⟨h.o0.fr f (by simp),h.o1.fr f (by simp),h.o2.fr f (by simp),k,h.o4.fr f (by simp),h.o5.fr f (by simp),h.o6.fr f (by simp),h.o7.elim fun r hr=>⟨r,hr.1,hr.2.fr f (by simp)⟩,h.o8.fr f (by simp),h.o9.fr f (by simp),h.o10.fr f (by simp),h.o11.fr f (by simp),h.o12.fr f (by simp),h.o13.fr f (by simp),h.o14.fr f (by simp),h.o15.fr f (by simp),h.o16.fr f (by simp),h.o17.fr f (by simp),h.o18.elim fun r hr=>⟨r,hr.1,hr.2.fr f (by simp)⟩,h.o19.fr f (by simp),h.o20.fr f (by simp),h.o21.fr f (by simp),h.ok⟩
theorem TMissionO.put8{B o:Nat}{χ:Nat→Col}{w w2:World}{A:TMissionA}{x:TMission}(h:TMissionO B χ o w A x){a:Option Addr}{c:Nat}{l:List Bool}(f:Fr B χ (·=(o+8,0)) w w2)(k:OwnC B χ (o+8,0) w2 a c l):TMissionO B χ o w2 { A with a8:=a,c8:=c } { x with Ground.Told:=l } :=
 ⟨h.o0.fr f (by simp),h.o1.fr f (by simp),h.o2.fr f (by simp),h.o3.fr f (by simp),h.o4.fr f (by simp),h.o5.fr f (by simp),h.o6.fr f (by simp),h.o7.elim fun r hr=>⟨r,hr.1,hr.2.fr f (by simp)⟩,k,h.o9.fr f (by simp),h.o10.fr f (by simp),h.o11.fr f (by simp),h.o12.fr f (by simp),h.o13.fr f (by simp),h.o14.fr f (by simp),h.o15.fr f (by simp),h.o16.fr f (by simp),h.o17.fr f (by simp),h.o18.elim fun r hr=>⟨r,hr.1,hr.2.fr f (by simp)⟩,h.o19.fr f (by simp),h.o20.fr f (by simp),h.o21.fr f (by simp),h.ok⟩
end Go.Proofs.YtgmikiidcpbjbaaGreat
