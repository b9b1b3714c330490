/- The contract of MissionOk, the reference's. No condition but on sizes. -/
import Derived.Test.YtdijmbipcgalfaaGreatHM23
import Derived.Test.YtdijmbipcgalfaaGreatHOkGs
namespace Go.Proofs.YtdijmbipcgalfaaGreat
set_option maxRecDepth 100000
set_option maxHeartbeats 8000000
set_option linter.unusedVariables false
open Go.ChangeShapes Go.WideShapes Go.ChangeAt Go.RowKit
private abbrev u65:=Tryz.underlying65
theorem bp3{B:Nat}{vs:List Value}{m:f7}{w:World}(h:Enc.Rd B w vs m)(ht:Enc.tot m≤100000000) :
  Calls Tryz.prog 20 #[.agg vs.toArray] w (b5 w (.bool (j7 m))):=by
 obtain⟨A,hvs,F⟩:=h
 have M:=lH (aJ3 ht)
 have FH:=lH F
 clear F ht
 obtain⟨n0,hn0⟩:∃ n,m.Plan.length=n:=⟨_,rfl⟩
 obtain⟨n20,hn20⟩:∃ n,m.Offered.length=n:=⟨_,rfl⟩
 obtain⟨n21,hn21⟩:∃ n,m.Took.length=n:=⟨_,rfl⟩
 rw[hn0,hn20,hn21]at hvs
 have hm0:n0≤100000000:=hn0▸M.out.m0
 have hm20:n20≤100000000:=hn20▸M.out.m20
 have hm21:n21≤100000000:=hn21▸M.out.m21
 have HN0:=lH hn0;have HN20:=lH hn20;have HN21:=lH hn21
 clear hn0 hn20 hn21
 have HB:=lH (j5.new w vs 90 w.heap.size rfl)
 have e0:=HB.out.cellG 0 (.int .i64 m.Time) (by rw[hvs];rfl)
 have e1:=HB.out.cellG 1 (.int .i64 m.Light) (by rw[hvs];rfl)
 have e7:=HB.out.cellG 7 (.slice A.a0 n0 A.c0) (by rw[hvs];rfl)
 have e14:=HB.out.cellG 14 (.slice A.a1 m.Ups.length A.c1) (by rw[hvs];rfl)
 have e15:=HB.out.cellG 15 (.slice A.a2 m.Downs.length A.c2) (by rw[hvs];rfl)
 have e58:=HB.out.cellG 58 (.slice A.a20 n20 A.c20) (by rw[hvs];rfl)
 have e59:=HB.out.cellG 59 (.slice A.a21 n21 A.c21) (by rw[hvs];rfl)
 have e60:=HB.out.cellG 60 (.int .i64 m.Bad) (by rw[hvs];rfl)
 have HVS:=lH hvs;clear hvs
 go_enter Tryz.func20,Tryz.ntmps20
 dsimp only[List.append]
 go_wp2_with (fail)
 refine gm (f5) ?_
 intro y1
 cases g1:inB m.Time 0 1000000
 ·have HF:=lH (show j7 m=false from aI3 g1)
  clear g1
  go_wp2_with (fail)
  go_ret
  exact b5.mk (by rw[HF.out];rfl)
 have T1:=lH g1;clear g1
 go_wp2_with (fail)
 refine gm (f5) ?_
 intro y2
 cases g2:inB m.Light 0 50
 ·have HF:=lH (show j7 m=false from aI4 g2)
  clear g2
  go_wp2_with (fail)
  go_ret
  exact b5.mk (by rw[HF.out];rfl)
 have T2:=lH g2;clear g2
 go_wp2_with (fail)
 refine gm (f5) ?_
 intro y3
 cases g3:inB m.Bad 0 1000000
 ·have HF:=lH (show j7 m=false from aI5 g3)
  clear g3
  go_wp2_with (fail)
  go_ret
  exact b5.mk (by rw[HF.out];rfl)
 have T3:=lH g3;clear g3
 go_wp2_with (first|(refine aa9 kg _ _ rfl w.heap.size 2 rfl (row:=[.int .i64 m.Drift.Rate,.int .i64 m.Drift.Offset]) (HB.out.to ii) _ Tryz.underlying62 rfl kr (by rw[HVS.out];kernel_rfl) ?_)|(refine step_loadw kg _ _ rfl w.heap.size 2 rfl (row:=[.int .i64 m.Drift.Rate,.int .i64 m.Drift.Offset]) (HB.out.to ii) _ Tryz.underlying62 rfl kr (by rw[HVS.out];kernel_rfl) ?_)|(refine step_loadp _ _ rfl w.heap.size 2 rfl (row:=[.int .i64 m.Drift.Rate,.int .i64 m.Drift.Offset]) (HB.out.to ii) _ Tryz.underlying62 rfl kr (by rw[HVS.out];kernel_rfl) ?_))
 refine gm (bJ0 (x:=m.Drift)) ?_
 intro y4
 cases g4:at9 m.Drift
 ·have HF:=lH (show j7 m=false from aI6 g4)
  clear g4
  go_wp2_with (fail)
  go_ret
  exact b5.mk (by rw[HF.out];rfl)
 have T4:=lH g4;clear g4
 go_wp2_with (first|(refine aa9 kg _ _ rfl w.heap.size 4 rfl (row:=[.int .i64 m.Orbit.Period,.int .i64 m.Orbit.Start,.int .i64 m.Orbit.Length]) (HB.out.to ii) _ Tryz.underlying63 rfl kr (by rw[HVS.out];kernel_rfl) ?_)|(refine step_loadw kg _ _ rfl w.heap.size 4 rfl (row:=[.int .i64 m.Orbit.Period,.int .i64 m.Orbit.Start,.int .i64 m.Orbit.Length]) (HB.out.to ii) _ Tryz.underlying63 rfl kr (by rw[HVS.out];kernel_rfl) ?_)|(refine step_loadp _ _ rfl w.heap.size 4 rfl (row:=[.int .i64 m.Orbit.Period,.int .i64 m.Orbit.Start,.int .i64 m.Orbit.Length]) (HB.out.to ii) _ Tryz.underlying63 rfl kr (by rw[HVS.out];kernel_rfl) ?_))
 refine gm (bJ1 (x:=m.Orbit)) ?_
 intro y5
 cases g5:av6 m.Orbit
 ·have HF:=lH (show j7 m=false from aI7 g5)
  clear g5
  go_wp2_with (fail)
  go_ret
  exact b5.mk (by rw[HF.out];rfl)
 have T5:=lH g5;clear g5
 go_wp2_with (first|(refine aa9 kg _ _ rfl w.heap.size 8 rfl (row:=[.int .i64 m.Up.Seed,.int .i64 m.Up.Burst,.int .i64 m.Up.Loss]) (HB.out.to ii) _ u65 rfl kr (by rw[HVS.out];kernel_rfl) ?_)|(refine step_loadw kg _ _ rfl w.heap.size 8 rfl (row:=[.int .i64 m.Up.Seed,.int .i64 m.Up.Burst,.int .i64 m.Up.Loss]) (HB.out.to ii) _ u65 rfl kr (by rw[HVS.out];kernel_rfl) ?_)|(refine step_loadp _ _ rfl w.heap.size 8 rfl (row:=[.int .i64 m.Up.Seed,.int .i64 m.Up.Burst,.int .i64 m.Up.Loss]) (HB.out.to ii) _ u65 rfl kr (by rw[HVS.out];kernel_rfl) ?_))
 refine gm (aO5 (x:=m.Up)) ?_
 intro y6
 cases g6:J0 m.Up
 ·have HF:=lH (show j7 m=false from aI8 g6)
  clear g6
  go_wp2_with (fail)
  go_ret
  exact b5.mk (by rw[HF.out];rfl)
 have T6:=lH g6;clear g6
 go_wp2_with (first|(refine aa9 kg _ _ rfl w.heap.size 11 rfl (row:=[.int .i64 m.Down.Seed,.int .i64 m.Down.Burst,.int .i64 m.Down.Loss]) (HB.out.to ii) _ u65 rfl kr (by rw[HVS.out];kernel_rfl) ?_)|(refine step_loadw kg _ _ rfl w.heap.size 11 rfl (row:=[.int .i64 m.Down.Seed,.int .i64 m.Down.Burst,.int .i64 m.Down.Loss]) (HB.out.to ii) _ u65 rfl kr (by rw[HVS.out];kernel_rfl) ?_)|(refine step_loadp _ _ rfl w.heap.size 11 rfl (row:=[.int .i64 m.Down.Seed,.int .i64 m.Down.Burst,.int .i64 m.Down.Loss]) (HB.out.to ii) _ u65 rfl kr (by rw[HVS.out];kernel_rfl) ?_))
 refine gm (aO5 (x:=m.Down)) ?_
 intro y7
 cases g7:J0 m.Down
 ·have HF:=lH (show j7 m=false from aI9 g7)
  clear g7
  go_wp2_with (fail)
  go_ret
  exact b5.mk (by rw[HF.out];rfl)
 have T7:=lH g7;clear g7
 by_cases h8:n0≤1500
 rotate_left
 ·have k8:decide (1500<(n0:Int))=true:=by simp;omega
  have k8b:decide ((n0:Int)≤1500)=false:=by simp;omega
  have HF:=lH (show j7 m=false from aJ0 (by rw[HN0.out];exact k8b))
  clear h8
  go_wp2_with (fail)
  go_ret
  exact b5.mk (by rw[HF.out];rfl)
 have k8:decide (1500<(n0:Int))=false:=by simp;omega
 have k8b:decide ((n0:Int)≤1500)=true:=by simp;omega
 have T8:=lH (show decide ((m.Plan.length:Int)≤1500)=true by rw[HN0.out];exact k8b)
 clear h8
 go_wp2_with (fail)
 refine gm (aI1 (l:=m.Ups) FH.out.q1 rfl M.out.m1) ?_
 intro y9
 cases g9:N6 m.Ups
 ·have HF:=lH (show j7 m=false from aJ1 g9)
  clear g9
  go_wp2_with (fail)
  go_ret
  exact b5.mk (by rw[HF.out];rfl)
 have T9:=lH g9;clear g9
 go_wp2_with (fail)
 refine gm (aI1 (l:=m.Downs) FH.out.q2 rfl M.out.m2) ?_
 intro y10
 cases g10:N6 m.Downs
 ·have HF:=lH (show j7 m=false from aD4 g10)
  clear g10
  go_wp2_with (fail)
  go_ret
  exact b5.mk (by rw[HF.out];rfl)
 have T10:=lH g10;clear g10
 go_wp2_with (first|(refine aa9 kg _ _ rfl w.heap.size 16 rfl (row:=(X3 m.Ground A.a3 A.c3 A.a4 A.c4 A.a5 A.c5 A.a6 A.c6 A.a7 A.c7 A.a8 A.c8)) (HB.out.to ii) _ Tryz.underlying76 rfl kr (by rw[HVS.out];kernel_rfl) ?_)|(refine step_loadw kg _ _ rfl w.heap.size 16 rfl (row:=(X3 m.Ground A.a3 A.c3 A.a4 A.c4 A.a5 A.c5 A.a6 A.c6 A.a7 A.c7 A.a8 A.c8)) (HB.out.to ii) _ Tryz.underlying76 rfl kr (by rw[HVS.out];kernel_rfl) ?_)|(refine step_loadp _ _ rfl w.heap.size 16 rfl (row:=(X3 m.Ground A.a3 A.c3 A.a4 A.c4 A.a5 A.c5 A.a6 A.c6 A.a7 A.c7 A.a8 A.c8)) (HB.out.to ii) _ Tryz.underlying76 rfl kr (by rw[HVS.out];kernel_rfl) ?_))
 refine gm (bA7 (bd:=m.Ground) FH.out.q3 FH.out.q4 FH.out.q5 FH.out.q6 FH.out.q7 FH.out.q8 FH.out.ok.2.2.2.2.2.2.1 rfl rfl rfl rfl rfl rfl M.out.m3 M.out.m4 M.out.m5 M.out.m6 M.out.m7 M.out.m8 M.out.hxf) ?_
 intro y11
 cases g11:B3 m.Ground
 ·have HF:=lH (show j7 m=false from aD5 g11)
  clear g11
  go_wp2_with (fail)
  go_ret
  exact b5.mk (by rw[HF.out];rfl)
 have T11:=lH g11;clear g11
 go_wp2_with (first|(refine aa9 kg _ _ rfl w.heap.size 33 rfl (row:=(ad9 m.Space A.a9 A.c9 A.a10 A.c10 A.a11 A.c11 A.a12 A.c12 A.a13 A.c13 A.a14 A.c14 A.a15 A.c15 A.a16 A.c16 A.a17 A.c17 A.a18 A.c18 A.a19 A.c19)) (HB.out.to ii) _ Tryz.underlying88 rfl kr (by rw[HVS.out];kernel_rfl) ?_)|(refine step_loadw kg _ _ rfl w.heap.size 33 rfl (row:=(ad9 m.Space A.a9 A.c9 A.a10 A.c10 A.a11 A.c11 A.a12 A.c12 A.a13 A.c13 A.a14 A.c14 A.a15 A.c15 A.a16 A.c16 A.a17 A.c17 A.a18 A.c18 A.a19 A.c19)) (HB.out.to ii) _ Tryz.underlying88 rfl kr (by rw[HVS.out];kernel_rfl) ?_)|(refine step_loadp _ _ rfl w.heap.size 33 rfl (row:=(ad9 m.Space A.a9 A.c9 A.a10 A.c10 A.a11 A.c11 A.a12 A.c12 A.a13 A.c13 A.a14 A.c14 A.a15 A.c15 A.a16 A.c16 A.a17 A.c17 A.a18 A.c18 A.a19 A.c19)) (HB.out.to ii) _ Tryz.underlying88 rfl kr (by rw[HVS.out];kernel_rfl) ?_))
 refine gm (bJ2 (bd:=m.Space) FH.out.q9 FH.out.q10 FH.out.q11 FH.out.q12 FH.out.q13 FH.out.q14 FH.out.q15 FH.out.q16 FH.out.q17 FH.out.q18 FH.out.q19 FH.out.ok.2.2.2.2.2.2.2.1 rfl rfl rfl rfl rfl rfl rfl rfl rfl rfl rfl M.out.m9 M.out.m10 M.out.m11 M.out.m12 M.out.m13 M.out.m14 M.out.m15 M.out.m16 M.out.m17 M.out.m18 M.out.m19 M.out.hzr M.out.hxo M.out.hxs) ?_
 intro y12
 cases g12:D3 m.Space
 ·have HF:=lH (show j7 m=false from aD6 g12)
  clear g12
  go_wp2_with (fail)
  go_ret
  exact b5.mk (by rw[HF.out];rfl)
 have T12:=lH g12;clear g12
 by_cases h13:n20≤5000
 rotate_left
 ·have k13:decide (5000<(n20:Int))=true:=by simp;omega
  have k13b:decide ((n20:Int)≤5000)=false:=by simp;omega
  have HF:=lH (show j7 m=false from aD7 (by rw[HN20.out];exact k13b))
  clear h13
  go_wp2_with (fail)
  go_ret
  exact b5.mk (by rw[HF.out];rfl)
 have k13:decide (5000<(n20:Int))=false:=by simp;omega
 have k13b:decide ((n20:Int)≤5000)=true:=by simp;omega
 have T13:=lH (show decide ((m.Offered.length:Int)≤5000)=true by rw[HN20.out];exact k13b)
 clear h13
 by_cases h14:n21≤5000
 rotate_left
 ·have k14:decide (5000<(n21:Int))=true:=by simp;omega
  have k14b:decide ((n21:Int)≤5000)=false:=by simp;omega
  have HF:=lH (show j7 m=false from aD8 (by rw[HN21.out];exact k14b))
  clear h14
  go_wp2_with (fail)
  go_ret
  exact b5.mk (by rw[HF.out];rfl)
 have k14:decide (5000<(n21:Int))=false:=by simp;omega
 have k14b:decide ((n21:Int)≤5000)=true:=by simp;omega
 have T14:=lH (show decide ((m.Took.length:Int)≤5000)=true by rw[HN21.out];exact k14b)
 clear h14
 go_wp2_with (fail)
 go_ret
 exact b5.mk (by rw[aJ2 T1.out T2.out T3.out T4.out T5.out T6.out T7.out T8.out T9.out T10.out T11.out T12.out T13.out T14.out];rfl)
