/- The contracts of the mirror, size and equality of a board. No condition but on sizes. -/
import Derived.Test.YtdijmbipcgalfaaGreatHM7
import Derived.Test.YtdijmbipcgalfaaGreatHM0
namespace Go.Proofs.YtdijmbipcgalfaaGreat
set_option maxRecDepth 100000
set_option maxHeartbeats 2000000
set_option linter.unusedVariables false
open Go.ChangeShapes Go.WideShapes Go.ChangeAt Go.RowKit
theorem bG9{B:Nat}{vs:List Value}{x:I3}{left:Int}{w:World}(h:Enc.Rd B w vs x)(hl:0≤left)(hl2:left≤1048576) :
  Calls Tryz.prog 93 #[.agg vs.toArray,.int .i64 left] w (b5 w (.int .i64 (szD left (Enc.tot x)))):=by
 obtain⟨A,rfl,F⟩:=h
 have n0:=d6 x.Params
 have n1:=d6 x.Limits
 have n2:=d6 x.Orders
 have n3:=d6 x.Done
 have n4:=Enc.tot_nonneg x.Recorder
 have n5:=d6 x.Asked
 have HOK:=lH F.ok
 have htot:Enc.tot x=d9 x.Params+d9 x.Limits+d9 x.Orders+d9 x.Done+Enc.tot x.Recorder+d9 x.Asked:=rfl
 have HTOT:=lH htot;clear htot
 have HB:=lH (j5.new w (F8 x A) 53 w.heap.size rfl)
 have HFF:=lH F;clear F
 go_enter Tryz.func93,Tryz.ntmps93
 go_wp2_with (fail)
 refine gm (ax4 (HFF.out.q0.keep ii) om om) ?_
 intro y0
 by_cases h0:left - d9 x.Params<0
 ·have HV:=lH (show szD left (Enc.tot x)=-1 from j8 (by rw[HTOT.out];omega))
  rw[j8 h0]
  go_wp2_with (fail)
  go_ret
  exact b5.mk (by rw[HV.out];rfl)
 rw[B5 h0]
 go_wp2_with (fail)
 refine gm (by7 (HFF.out.q1.keep ii) om om) ?_
 intro y1
 by_cases h1:left - d9 x.Params - d9 x.Limits<0
 ·have HV:=lH (show szD left (Enc.tot x)=-1 from j8 (by rw[HTOT.out];omega))
  rw[j8 h1]
  go_wp2_with (fail)
  go_ret
  exact b5.mk (by rw[HV.out];rfl)
 rw[B5 h1]
 go_wp2_with (fail)
 refine gm (bh9 (HFF.out.q2.keep ii) om om) ?_
 intro y2
 by_cases h2:left - d9 x.Params - d9 x.Limits - d9 x.Orders<0
 ·have HV:=lH (show szD left (Enc.tot x)=-1 from j8 (by rw[HTOT.out];omega))
  rw[j8 h2]
  go_wp2_with (fail)
  go_ret
  exact b5.mk (by rw[HV.out];rfl)
 rw[B5 h2]
 go_wp2_with (fail)
 refine gm (bH1 (HFF.out.q3.keep ii) om om) ?_
 intro y3
 by_cases h3:left - d9 x.Params - d9 x.Limits - d9 x.Orders - d9 x.Done<0
 ·have HV:=lH (show szD left (Enc.tot x)=-1 from j8 (by rw[HTOT.out];omega))
  rw[j8 h3]
  go_wp2_with (fail)
  go_ret
  exact b5.mk (by rw[HV.out];rfl)
 rw[B5 h3]
 go_wp2_with (first|(refine lA rfl _ _ rfl (w.heap.size) 6 rfl [.int .i64 x.Recorder.Room,.slice A.a4 x.Recorder.Records.length A.c4,.slice A.a5 x.Recorder.Dropped.length A.c5] HB Tryz.underlying51 ?_))
 refine gm (bh7 (x:=x.Recorder) ⟨A.a4,A.c4,A.a5,A.c5,rfl,HFF.out.q4.keep ii,HFF.out.q5.keep ii,HOK.out.2.1⟩ om om) ?_
 intro y4
 by_cases h4:left - d9 x.Params - d9 x.Limits - d9 x.Orders - d9 x.Done - Enc.tot x.Recorder<0
 ·have HV:=lH (show szD left (Enc.tot x)=-1 from j8 (by rw[HTOT.out];omega))
  rw[j8 h4]
  go_wp2_with (fail)
  go_ret
  exact b5.mk (by rw[HV.out];rfl)
 rw[B5 h4]
 go_wp2_with (fail)
 refine gm (ax4 (HFF.out.q6.keep ii) om om) ?_
 intro y5
 by_cases h5:left - d9 x.Params - d9 x.Limits - d9 x.Orders - d9 x.Done - Enc.tot x.Recorder - d9 x.Asked<0
 ·have HV:=lH (show szD left (Enc.tot x)=-1 from j8 (by rw[HTOT.out];omega))
  rw[j8 h5]
  go_wp2_with (fail)
  go_ret
  exact b5.mk (by rw[HV.out];rfl)
 rw[B5 h5]
 have HV:=lH (show szD left (Enc.tot x)=left - d9 x.Params - d9 x.Limits - d9 x.Orders - d9 x.Done - Enc.tot x.Recorder - d9 x.Asked by rw[B5 (by rw[HTOT.out];omega),HTOT.out]<;>omega)
 go_wp2_with (fail)
 go_ret
 exact b5.mk (by rw[HV.out];rfl)
theorem bF8{B B2:Nat}{vs vs2:List Value}{x:I3}{w:World}(h:Enc.Rd B w vs x)(h2:Enc.Rd B2 w vs2 x) :
  Calls Tryz.prog 176 #[.agg vs.toArray,.agg vs2.toArray] w (b5 w (.bool true)):=by
 obtain⟨A,rfl,F⟩:=h
 obtain⟨mA,rfl,mF⟩:=h2
 have HOK:=lH F.ok
 have HB:=lH ((j5.new w (F8 x A) 84 w.heap.size rfl).to (ii:b8 _ ((w.alloc (.cells (F8 x A).toArray 84)).alloc (.cells (F8 x mA).toArray 84))))
 have HC:=lH (j5.new (w.alloc (.cells (F8 x A).toArray 84)) (F8 x mA) 84 (w.heap.size+1) si)
 have HFF:=lH F;clear F
 have HMF:=lH mF;clear mF
 go_enter Tryz.func176,Tryz.ntmps176
 go_wp2_with (fail)
 refine gm (ax3 (HFF.out.q0.keep ii) (HMF.out.q0.keep ii)) ?_
 intro y0
 go_wp2_with (fail)
 refine gm (bx9 (HFF.out.q1.keep ii) (HMF.out.q1.keep ii)) ?_
 intro y1
 go_wp2_with (fail)
 refine gm (bh5 (HFF.out.q2.keep ii) (HMF.out.q2.keep ii)) ?_
 intro y2
 go_wp2_with (fail)
 refine gm (bG0 (HFF.out.q3.keep ii) (HMF.out.q3.keep ii)) ?_
 intro y3
 go_wp2_with (first|(refine lA rfl _ _ rfl (w.heap.size) 6 rfl [.int .i64 x.Recorder.Room,.slice A.a4 x.Recorder.Records.length A.c4,.slice A.a5 x.Recorder.Dropped.length A.c5] HB Tryz.underlying82 ?_)|(refine lA rfl _ _ rfl (w.heap.size+1) 6 rfl [.int .i64 x.Recorder.Room,.slice mA.a4 x.Recorder.Records.length mA.c4,.slice mA.a5 x.Recorder.Dropped.length mA.c5] HC Tryz.underlying82 ?_))
 refine gm (bh3 (x:=x.Recorder) ⟨A.a4,A.c4,A.a5,A.c5,rfl,HFF.out.q4.keep ii,HFF.out.q5.keep ii,HOK.out.2.1⟩ ⟨mA.a4,mA.c4,mA.a5,mA.c5,rfl,HMF.out.q4.keep ii,HMF.out.q5.keep ii,HOK.out.2.1⟩) ?_
 intro y4
 go_wp2_with (fail)
 refine gm (ax3 (HFF.out.q6.keep ii) (HMF.out.q6.keep ii)) ?_
 intro y5
 go_wp2_with (fail)
 go_ret
 exact b5.mk rfl
