/- The contract of the mirror of space. No condition but on sizes. -/
import Derived.Test.YtdijmbipcgalfaaGreatHDM3
import Derived.Test.YtdijmbipcgalfaaGreatHM7
import Derived.Test.YtdijmbipcgalfaaGreatHM0
import Derived.Test.YtdijmbipcgalfaaGreatHDG2
import Derived.Test.YtdijmbipcgalfaaGreatHBox2
import Derived.Test.YtdijmbipcgalfaaGreatHMarkT
import Derived.Test.YtdijmbipcgalfaaGreatHFileO
import Derived.Test.YtdijmbipcgalfaaGreatHOkF
import Derived.Laws.StructEq
import Derived.MapKept
import Derived.Test.YtdijmbipcgalfaaGreatHOnce
import Derived.Test.YtdijmbipcgalfaaGreatHDTy
import Derived.Test.YtdijmbipcgalfaaGreatHStepH
import Derived.Test.YtdijmbipcgalfaaGreatHPlanOk
import Derived.Test.YtdijmbipcgalfaaGreatHPairs
import Derived.Shelf.Abstract
import Derived.Maps.Own
namespace Go.Proofs.YtdijmbipcgalfaaGreat
set_option maxRecDepth 100000
set_option maxHeartbeats 2000000
set_option linter.unusedVariables false
open Go.ChangeShapes Go.WideShapes Go.ChangeAt Go.RowKit
variable {s:ByteArray}{f k z:Int}{vs:List Value}{B c n:Nat}{a:Option Addr}{w:World}
theorem bH5{x:M0}{left:Int}(h:Enc.Rd B w vs x)(hl:0≤left)(hl2:left≤1048576) :
  Calls Tryz.prog 17 #[.agg vs.toArray,.int .i64 left] w (b5 w (.int .i64 (szD left (Enc.tot x)))):=by
 obtain⟨A,rfl,F⟩:=h
 have n0:=Enc.tot_nonneg x.Board
 have n1:=Enc.tot_nonneg x.Packer
 have n2:=d6 x.Files
 have n3:=d6 x.Outs
 have n4:=d6 x.Sent
 have HOK:=lH F.ok
 have htot:Enc.tot x=Enc.tot x.Board+Enc.tot x.Packer+d9 x.Files+d9 x.Outs+d9 x.Sent:=rfl
 have HTOT:=lH htot;clear htot
 have HB:=lH (j5.new w (S9 x A) 58 w.heap.size rfl)
 have HFF:=lH F;clear F
 go_enter Tryz.func17,Tryz.ntmps17
 go_wp2_with (first|(refine lA rfl _ _ rfl (w.heap.size) 4 rfl (F8 x.Board A) HB Tryz.underlying53 ?_))
 refine gm (bG9 (x:=x.Board) ⟨⟨A.a0,A.c0,A.a1,A.c1,A.a2,A.c2,A.a3,A.c3,A.a4,A.c4,A.a5,A.c5,A.a6,A.c6⟩,rfl,⟨HFF.out.q0.keep ii,HFF.out.q1.keep ii,HFF.out.q2.keep ii,HFF.out.q3.keep ii,HFF.out.q4.keep ii,HFF.out.q5.keep ii,HFF.out.q6.keep ii,HOK.out.2.1⟩⟩ om om) ?_
 intro y0
 by_cases h0:left - Enc.tot x.Board<0
 ·have HV:=lH (show szD left (Enc.tot x)=-1 from j8 (by rw[HTOT.out];omega))
  rw[j8 h0]
  go_wp2_with (fail)
  go_ret
  exact b5.mk (by rw[HV.out];rfl)
 rw[B5 h0]
 go_wp2_with (first|(refine lA rfl _ _ rfl (w.heap.size) 16 rfl [.int .i64 x.Packer.Channel,.int .i64 x.Packer.Count,.string x.Packer.Rest,.slice A.a7 x.Packer.Starts.length A.c7] HB Tryz.underlying55 ?_))
 refine gm (by8 (x:=x.Packer) ⟨A.a7,A.c7,rfl,HFF.out.q7.keep ii,HOK.out.2.2.1⟩ om om) ?_
 intro y1
 by_cases h1:left - Enc.tot x.Board - Enc.tot x.Packer<0
 ·have HV:=lH (show szD left (Enc.tot x)=-1 from j8 (by rw[HTOT.out];omega))
  rw[j8 h1]
  go_wp2_with (fail)
  go_ret
  exact b5.mk (by rw[HV.out];rfl)
 rw[B5 h1]
 go_wp2_with (fail)
 refine gm (an7 (HFF.out.q8.keep ii) om om) ?_
 intro y2
 by_cases h2:left - Enc.tot x.Board - Enc.tot x.Packer - d9 x.Files<0
 ·have HV:=lH (show szD left (Enc.tot x)=-1 from j8 (by rw[HTOT.out];omega))
  rw[j8 h2]
  go_wp2_with (fail)
  go_ret
  exact b5.mk (by rw[HV.out];rfl)
 rw[B5 h2]
 go_wp2_with (fail)
 refine gm (bh6 (HFF.out.q9.keep ii) om om) ?_
 intro y3
 by_cases h3:left - Enc.tot x.Board - Enc.tot x.Packer - d9 x.Files - d9 x.Outs<0
 ·have HV:=lH (show szD left (Enc.tot x)=-1 from j8 (by rw[HTOT.out];omega))
  rw[j8 h3]
  go_wp2_with (fail)
  go_ret
  exact b5.mk (by rw[HV.out];rfl)
 rw[B5 h3]
 go_wp2_with (fail)
 refine gm (ay7 (HFF.out.q10.keep ii) om om) ?_
 intro y4
 by_cases h4:left - Enc.tot x.Board - Enc.tot x.Packer - d9 x.Files - d9 x.Outs - d9 x.Sent<0
 ·have HV:=lH (show szD left (Enc.tot x)=-1 from j8 (by rw[HTOT.out];omega))
  rw[j8 h4]
  go_wp2_with (fail)
  go_ret
  exact b5.mk (by rw[HV.out];rfl)
 rw[B5 h4]
 have HV:=lH (show szD left (Enc.tot x)=left - Enc.tot x.Board - Enc.tot x.Packer - d9 x.Files - d9 x.Outs - d9 x.Sent by rw[B5 (by rw[HTOT.out];omega),HTOT.out]<;>omega)
 go_wp2_with (fail)
 go_ret
 exact b5.mk (by rw[HV.out];rfl)
theorem bG8{B2:Nat}{vs2:List Value}{x:M0}(h:Enc.Rd B w vs x)(h2:Enc.Rd B2 w vs2 x) :
  Calls Tryz.prog 49 #[.agg vs.toArray,.agg vs2.toArray] w (b5 w (.bool true)):=by
 obtain⟨A,rfl,F⟩:=h
 obtain⟨mA,rfl,mF⟩:=h2
 have HOK:=lH F.ok
 have HB:=lH ((j5.new w (S9 x A) 88 w.heap.size rfl).to (ii:b8 _ ((w.alloc (.cells (S9 x A).toArray 88)).alloc (.cells (S9 x mA).toArray 88))))
 have HC:=lH (j5.new (w.alloc (.cells (S9 x A).toArray 88)) (S9 x mA) 88 (w.heap.size+1) si)
 have HFF:=lH F;clear F
 have HMF:=lH mF;clear mF
 go_enter Tryz.func49,Tryz.ntmps49
 go_wp2_with (first|(refine lA rfl _ _ rfl (w.heap.size) 0 rfl [.int .i64 x.Receiver.Expect,.bool x.Receiver.Locked,.bool x.Receiver.Again,.int .i64 x.Receiver.Taken] HB Tryz.underlying77 ?_)|(refine lA rfl _ _ rfl (w.heap.size+1) 0 rfl [.int .i64 x.Receiver.Expect,.bool x.Receiver.Locked,.bool x.Receiver.Again,.int .i64 x.Receiver.Taken] HC Tryz.underlying77 ?_))
 refine gm (bh2 (B:=0) (B2:=0) (x:=x.Receiver) ⟨rfl,HOK.out.1⟩ ⟨rfl,HOK.out.1⟩) ?_
 intro y0
 go_wp2_with (first|(refine lA rfl _ _ rfl (w.heap.size) 4 rfl (F8 x.Board A) HB Tryz.underlying84 ?_)|(refine lA rfl _ _ rfl (w.heap.size+1) 4 rfl (F8 x.Board mA) HC Tryz.underlying84 ?_))
 refine gm (bF8 (x:=x.Board) ⟨⟨A.a0,A.c0,A.a1,A.c1,A.a2,A.c2,A.a3,A.c3,A.a4,A.c4,A.a5,A.c5,A.a6,A.c6⟩,rfl,⟨HFF.out.q0.keep ii,HFF.out.q1.keep ii,HFF.out.q2.keep ii,HFF.out.q3.keep ii,HFF.out.q4.keep ii,HFF.out.q5.keep ii,HFF.out.q6.keep ii,HOK.out.2.1⟩⟩ ⟨⟨mA.a0,mA.c0,mA.a1,mA.c1,mA.a2,mA.c2,mA.a3,mA.c3,mA.a4,mA.c4,mA.a5,mA.c5,mA.a6,mA.c6⟩,rfl,⟨HMF.out.q0.keep ii,HMF.out.q1.keep ii,HMF.out.q2.keep ii,HMF.out.q3.keep ii,HMF.out.q4.keep ii,HMF.out.q5.keep ii,HMF.out.q6.keep ii,HOK.out.2.1⟩⟩) ?_
 intro y1
 go_wp2_with (first|(refine lA rfl _ _ rfl (w.heap.size) 16 rfl [.int .i64 x.Packer.Channel,.int .i64 x.Packer.Count,.string x.Packer.Rest,.slice A.a7 x.Packer.Starts.length A.c7] HB Tryz.underlying85 ?_)|(refine lA rfl _ _ rfl (w.heap.size+1) 16 rfl [.int .i64 x.Packer.Channel,.int .i64 x.Packer.Count,.string x.Packer.Rest,.slice mA.a7 x.Packer.Starts.length mA.c7] HC Tryz.underlying85 ?_))
 refine gm (by1 (x:=x.Packer) ⟨A.a7,A.c7,rfl,HFF.out.q7.keep ii,HOK.out.2.2.1⟩ ⟨mA.a7,mA.c7,rfl,HMF.out.q7.keep ii,HOK.out.2.2.1⟩) ?_
 intro y2
 go_wp2_with (fail)
 refine gm (an6 (HFF.out.q8.keep ii) (HMF.out.q8.keep ii)) ?_
 intro y3
 go_wp2_with (fail)
 refine gm (bh1 (HFF.out.q9.keep ii) (HMF.out.q9.keep ii)) ?_
 intro y4
 go_wp2_with (fail)
 refine gm (ay6 (HFF.out.q10.keep ii) (HMF.out.q10.keep ii)) ?_
 intro y5
 go_wp2_with (fail)
 go_ret
 exact b5.mk rfl
theorem aM2{x:f7}{left:Int}(h:Enc.Rd B w vs x)(hl:0≤left)(hl2:left≤1048576) :
  Calls Tryz.prog 5 #[.agg vs.toArray,.int .i64 left] w (b5 w (.int .i64 (szD left (Enc.tot x)))):=by
 obtain⟨A,rfl,F⟩:=h
 have n0:=d6 x.Plan
 have n1:=d6 x.Ups
 have n2:=d6 x.Downs
 have n3:=Enc.tot_nonneg x.Ground
 have n4:=Enc.tot_nonneg x.Space
 have n5:=d6 x.Offered
 have n6:=d6 x.Took
 have HOK:=lH F.ok
 have htot:Enc.tot x=d9 x.Plan+d9 x.Ups+d9 x.Downs+Enc.tot x.Ground+Enc.tot x.Space+d9 x.Offered+d9 x.Took:=rfl
 have HTOT:=lH htot;clear htot
 have HB:=lH (j5.new w (s9 x A) 60 w.heap.size rfl)
 have HFF:=lH F;clear F
 go_enter Tryz.func5,Tryz.ntmps5
 go_wp2_with (fail)
 refine gm (bH4 (HFF.out.q0.keep ii) om om) ?_
 intro y0
 by_cases h0:left - d9 x.Plan<0
 ·have HV:=lH (show szD left (Enc.tot x)=-1 from j8 (by rw[HTOT.out];omega))
  rw[j8 h0]
  go_wp2_with (fail)
  go_ret
  exact b5.mk (by rw[HV.out];rfl)
 rw[B5 h0]
 go_wp2_with (fail)
 refine gm (aM1 (HFF.out.q1.keep ii) om om) ?_
 intro y1
 by_cases h1:left - d9 x.Plan - d9 x.Ups<0
 ·have HV:=lH (show szD left (Enc.tot x)=-1 from j8 (by rw[HTOT.out];omega))
  rw[j8 h1]
  go_wp2_with (fail)
  go_ret
  exact b5.mk (by rw[HV.out];rfl)
 rw[B5 h1]
 go_wp2_with (fail)
 refine gm (aM1 (HFF.out.q2.keep ii) om om) ?_
 intro y2
 by_cases h2:left - d9 x.Plan - d9 x.Ups - d9 x.Downs<0
 ·have HV:=lH (show szD left (Enc.tot x)=-1 from j8 (by rw[HTOT.out];omega))
  rw[j8 h2]
  go_wp2_with (fail)
  go_ret
  exact b5.mk (by rw[HV.out];rfl)
 rw[B5 h2]
 go_wp2_with (first|(refine lA rfl _ _ rfl (w.heap.size) 16 rfl (X3 x.Ground A.a3 A.c3 A.a4 A.c4 A.a5 A.c5 A.a6 A.c6 A.a7 A.c7 A.a8 A.c8) HB Tryz.underlying43 ?_))
 refine gm (by6 (x:=x.Ground) ⟨⟨A.a3,A.c3,A.a4,A.c4,A.a5,A.c5,A.a6,A.c6,A.a7,A.c7,A.a8,A.c8⟩,rfl,⟨HFF.out.q3.keep ii,HFF.out.q4.keep ii,HFF.out.q5.keep ii,HFF.out.q6.keep ii,HFF.out.q7.keep ii,HFF.out.q8.keep ii,HOK.out.2.2.2.2.2.2.1⟩⟩ om om) ?_
 intro y3
 by_cases h3:left - d9 x.Plan - d9 x.Ups - d9 x.Downs - Enc.tot x.Ground<0
 ·have HV:=lH (show szD left (Enc.tot x)=-1 from j8 (by rw[HTOT.out];omega))
  rw[j8 h3]
  go_wp2_with (fail)
  go_ret
  exact b5.mk (by rw[HV.out];rfl)
 rw[B5 h3]
 go_wp2_with (first|(refine lA rfl _ _ rfl (w.heap.size) 33 rfl (ad9 x.Space A.a9 A.c9 A.a10 A.c10 A.a11 A.c11 A.a12 A.c12 A.a13 A.c13 A.a14 A.c14 A.a15 A.c15 A.a16 A.c16 A.a17 A.c17 A.a18 A.c18 A.a19 A.c19) HB Tryz.underlying58 ?_))
 refine gm (bH5 (x:=x.Space) ⟨⟨A.a9,A.c9,A.a10,A.c10,A.a11,A.c11,A.a12,A.c12,A.a13,A.c13,A.a14,A.c14,A.a15,A.c15,A.a16,A.c16,A.a17,A.c17,A.a18,A.c18,A.a19,A.c19⟩,rfl,⟨HFF.out.q9.keep ii,HFF.out.q10.keep ii,HFF.out.q11.keep ii,HFF.out.q12.keep ii,HFF.out.q13.keep ii,HFF.out.q14.keep ii,HFF.out.q15.keep ii,HFF.out.q16.keep ii,HFF.out.q17.keep ii,HFF.out.q18.keep ii,HFF.out.q19.keep ii,HOK.out.2.2.2.2.2.2.2.1⟩⟩ om om) ?_
 intro y4
 by_cases h4:left - d9 x.Plan - d9 x.Ups - d9 x.Downs - Enc.tot x.Ground - Enc.tot x.Space<0
 ·have HV:=lH (show szD left (Enc.tot x)=-1 from j8 (by rw[HTOT.out];omega))
  rw[j8 h4]
  go_wp2_with (fail)
  go_ret
  exact b5.mk (by rw[HV.out];rfl)
 rw[B5 h4]
 go_wp2_with (fail)
 refine gm (an7 (HFF.out.q20.keep ii) om om) ?_
 intro y5
 by_cases h5:left - d9 x.Plan - d9 x.Ups - d9 x.Downs - Enc.tot x.Ground - Enc.tot x.Space - d9 x.Offered<0
 ·have HV:=lH (show szD left (Enc.tot x)=-1 from j8 (by rw[HTOT.out];omega))
  rw[j8 h5]
  go_wp2_with (fail)
  go_ret
  exact b5.mk (by rw[HV.out];rfl)
 rw[B5 h5]
 go_wp2_with (fail)
 refine gm (an7 (HFF.out.q21.keep ii) om om) ?_
 intro y6
 by_cases h6:left - d9 x.Plan - d9 x.Ups - d9 x.Downs - Enc.tot x.Ground - Enc.tot x.Space - d9 x.Offered - d9 x.Took<0
 ·have HV:=lH (show szD left (Enc.tot x)=-1 from j8 (by rw[HTOT.out];omega))
  rw[j8 h6]
  go_wp2_with (fail)
  go_ret
  exact b5.mk (by rw[HV.out];rfl)
 rw[B5 h6]
 have HV:=lH (show szD left (Enc.tot x)=left - d9 x.Plan - d9 x.Ups - d9 x.Downs - Enc.tot x.Ground - Enc.tot x.Space - d9 x.Offered - d9 x.Took by rw[B5 (by rw[HTOT.out];omega),HTOT.out]<;>omega)
 go_wp2_with (fail)
 go_ret
 exact b5.mk (by rw[HV.out];rfl)
theorem at0{B2:Nat}{vs2:List Value}{x:f7}(h:Enc.Rd B w vs x)(h2:Enc.Rd B2 w vs2 x) :
  Calls Tryz.prog 9 #[.agg vs.toArray,.agg vs2.toArray] w (b5 w (.bool true)):=by
 obtain⟨A,rfl,F⟩:=h
 obtain⟨mA,rfl,mF⟩:=h2
 have HOK:=lH F.ok
 have HB:=lH ((j5.new w (s9 x A) 90 w.heap.size rfl).to (ii:b8 _ ((w.alloc (.cells (s9 x A).toArray 90)).alloc (.cells (s9 x mA).toArray 90))))
 have HC:=lH (j5.new (w.alloc (.cells (s9 x A).toArray 90)) (s9 x mA) 90 (w.heap.size+1) si)
 have HFF:=lH F;clear F
 have HMF:=lH mF;clear mF
 go_enter Tryz.func9,Tryz.ntmps9
 go_wp2_with (first|(refine lA rfl _ _ rfl (w.heap.size) 2 rfl [.int .i64 x.Drift.Rate,.int .i64 x.Drift.Offset] HB Tryz.underlying62 ?_)|(refine lA rfl _ _ rfl (w.heap.size+1) 2 rfl [.int .i64 x.Drift.Rate,.int .i64 x.Drift.Offset] HC Tryz.underlying62 ?_))
 refine gm (bG1 (B:=0) (B2:=0) (x:=x.Drift) ⟨rfl,HOK.out.2.2.1⟩ ⟨rfl,HOK.out.2.2.1⟩) ?_
 intro y0
 go_wp2_with (first|(refine lA rfl _ _ rfl (w.heap.size) 4 rfl [.int .i64 x.Orbit.Period,.int .i64 x.Orbit.Start,.int .i64 x.Orbit.Length] HB Tryz.underlying63 ?_)|(refine lA rfl _ _ rfl (w.heap.size+1) 4 rfl [.int .i64 x.Orbit.Period,.int .i64 x.Orbit.Start,.int .i64 x.Orbit.Length] HC Tryz.underlying63 ?_))
 refine gm (bG3 (B:=0) (B2:=0) (x:=x.Orbit) ⟨rfl,HOK.out.2.2.2.1⟩ ⟨rfl,HOK.out.2.2.2.1⟩) ?_
 intro y1
 go_wp2_with (fail)
 refine gm (bG7 (HFF.out.q0.keep ii) (HMF.out.q0.keep ii)) ?_
 intro y2
 go_wp2_with (first|(refine lA rfl _ _ rfl (w.heap.size) 8 rfl [.int .i64 x.Up.Seed,.int .i64 x.Up.Burst,.int .i64 x.Up.Loss] HB Tryz.underlying65 ?_)|(refine lA rfl _ _ rfl (w.heap.size+1) 8 rfl [.int .i64 x.Up.Seed,.int .i64 x.Up.Burst,.int .i64 x.Up.Loss] HC Tryz.underlying65 ?_))
 refine gm (aL9 (B:=0) (B2:=0) (x:=x.Up) ⟨rfl,HOK.out.2.2.2.2.1⟩ ⟨rfl,HOK.out.2.2.2.2.1⟩) ?_
 intro y3
 go_wp2_with (first|(refine lA rfl _ _ rfl (w.heap.size) 11 rfl [.int .i64 x.Down.Seed,.int .i64 x.Down.Burst,.int .i64 x.Down.Loss] HB Tryz.underlying65 ?_)|(refine lA rfl _ _ rfl (w.heap.size+1) 11 rfl [.int .i64 x.Down.Seed,.int .i64 x.Down.Burst,.int .i64 x.Down.Loss] HC Tryz.underlying65 ?_))
 refine gm (aL9 (B:=0) (B2:=0) (x:=x.Down) ⟨rfl,HOK.out.2.2.2.2.2.1⟩ ⟨rfl,HOK.out.2.2.2.2.2.1⟩) ?_
 intro y4
 go_wp2_with (fail)
 refine gm (aM0 (HFF.out.q1.keep ii) (HMF.out.q1.keep ii)) ?_
 intro y5
 go_wp2_with (fail)
 refine gm (aM0 (HFF.out.q2.keep ii) (HMF.out.q2.keep ii)) ?_
 intro y6
 go_wp2_with (first|(refine lA rfl _ _ rfl (w.heap.size) 16 rfl (X3 x.Ground A.a3 A.c3 A.a4 A.c4 A.a5 A.c5 A.a6 A.c6 A.a7 A.c7 A.a8 A.c8) HB Tryz.underlying76 ?_)|(refine lA rfl _ _ rfl (w.heap.size+1) 16 rfl (X3 x.Ground mA.a3 mA.c3 mA.a4 mA.c4 mA.a5 mA.c5 mA.a6 mA.c6 mA.a7 mA.c7 mA.a8 mA.c8) HC Tryz.underlying76 ?_))
 refine gm (bx8 (x:=x.Ground) ⟨⟨A.a3,A.c3,A.a4,A.c4,A.a5,A.c5,A.a6,A.c6,A.a7,A.c7,A.a8,A.c8⟩,rfl,⟨HFF.out.q3.keep ii,HFF.out.q4.keep ii,HFF.out.q5.keep ii,HFF.out.q6.keep ii,HFF.out.q7.keep ii,HFF.out.q8.keep ii,HOK.out.2.2.2.2.2.2.1⟩⟩ ⟨⟨mA.a3,mA.c3,mA.a4,mA.c4,mA.a5,mA.c5,mA.a6,mA.c6,mA.a7,mA.c7,mA.a8,mA.c8⟩,rfl,⟨HMF.out.q3.keep ii,HMF.out.q4.keep ii,HMF.out.q5.keep ii,HMF.out.q6.keep ii,HMF.out.q7.keep ii,HMF.out.q8.keep ii,HOK.out.2.2.2.2.2.2.1⟩⟩) ?_
 intro y7
 go_wp2_with (first|(refine lA rfl _ _ rfl (w.heap.size) 33 rfl (ad9 x.Space A.a9 A.c9 A.a10 A.c10 A.a11 A.c11 A.a12 A.c12 A.a13 A.c13 A.a14 A.c14 A.a15 A.c15 A.a16 A.c16 A.a17 A.c17 A.a18 A.c18 A.a19 A.c19) HB Tryz.underlying88 ?_)|(refine lA rfl _ _ rfl (w.heap.size+1) 33 rfl (ad9 x.Space mA.a9 mA.c9 mA.a10 mA.c10 mA.a11 mA.c11 mA.a12 mA.c12 mA.a13 mA.c13 mA.a14 mA.c14 mA.a15 mA.c15 mA.a16 mA.c16 mA.a17 mA.c17 mA.a18 mA.c18 mA.a19 mA.c19) HC Tryz.underlying88 ?_))
 refine gm (bG8 (x:=x.Space) ⟨⟨A.a9,A.c9,A.a10,A.c10,A.a11,A.c11,A.a12,A.c12,A.a13,A.c13,A.a14,A.c14,A.a15,A.c15,A.a16,A.c16,A.a17,A.c17,A.a18,A.c18,A.a19,A.c19⟩,rfl,⟨HFF.out.q9.keep ii,HFF.out.q10.keep ii,HFF.out.q11.keep ii,HFF.out.q12.keep ii,HFF.out.q13.keep ii,HFF.out.q14.keep ii,HFF.out.q15.keep ii,HFF.out.q16.keep ii,HFF.out.q17.keep ii,HFF.out.q18.keep ii,HFF.out.q19.keep ii,HOK.out.2.2.2.2.2.2.2.1⟩⟩ ⟨⟨mA.a9,mA.c9,mA.a10,mA.c10,mA.a11,mA.c11,mA.a12,mA.c12,mA.a13,mA.c13,mA.a14,mA.c14,mA.a15,mA.c15,mA.a16,mA.c16,mA.a17,mA.c17,mA.a18,mA.c18,mA.a19,mA.c19⟩,rfl,⟨HMF.out.q9.keep ii,HMF.out.q10.keep ii,HMF.out.q11.keep ii,HMF.out.q12.keep ii,HMF.out.q13.keep ii,HMF.out.q14.keep ii,HMF.out.q15.keep ii,HMF.out.q16.keep ii,HMF.out.q17.keep ii,HMF.out.q18.keep ii,HMF.out.q19.keep ii,HOK.out.2.2.2.2.2.2.2.1⟩⟩) ?_
 intro y8
 go_wp2_with (fail)
 refine gm (an6 (HFF.out.q20.keep ii) (HMF.out.q20.keep ii)) ?_
 intro y9
 go_wp2_with (fail)
 refine gm (an6 (HFF.out.q21.keep ii) (HMF.out.q21.keep ii)) ?_
 intro y10
 go_wp2_with (fail)
 go_ret
 exact b5.mk rfl
theorem bV7{m:f7}{N:Int}(ht:Enc.tot m≤N):d9 m.Took≤N∧d9 m.Offered≤N∧Enc.tot m.Ground≤N∧Enc.tot m.Space≤N∧d9 m.Plan≤N∧d9 m.Ups≤N∧d9 m.Downs≤N:=by
 have h:d9 m.Plan+d9 m.Ups+d9 m.Downs+Enc.tot m.Ground+Enc.tot m.Space+d9 m.Offered+d9 m.Took≤N:=ht
 have h1:=d6 m.Plan;have h2:=d6 m.Ups;have h3:=d6 m.Downs;have h4:=Enc.tot_nonneg m.Ground;have h5:=Enc.tot_nonneg m.Space;have h6:=d6 m.Offered;have h7:=d6 m.Took
 omega
theorem an1{m:f7}(h:Enc.Rd B w vs m):vs.all (·.oneCell')=true:=by
 obtain⟨A,h,-⟩:=h
 rw[h];rfl
def aZ3(w:World)(f z k:Int)(p:List ByteArray):Ending→World→Prop:=fun e w' =>
 ∃ a c,e=.returned (.agg #[I f,I z,I k,.slice a p.length c])∧Own L4 9 1 w.heap.size w' a c p∧∃ x:b7 w,w'=x.w
theorem bb1{p:List ByteArray}(hs:Sl L4 w a p)(hn:p.length=n)(hm:n≤100000000) :
  Calls Tryz.prog 140 #[.agg #[I f,I z,I k,.slice a n c]] w (aZ3 w f z k p):=by
 go_enter Tryz.func140,Tryz.ntmps140
 go_wp2_with (fail)
 refine(ba6 (hs.to ii) hn om).mono ?_
 rintro _ _ ⟨a1,c1,rfl,o1,y1,rfl⟩
 rw[hn]
 have O1:=lH (o1.mono (B':=w.heap.size+2) si);clear o1
 go_wp2_with (fail)
 refine bodyPost_ret (v:=.agg #[I f,I z,I k,.slice a1 n c1]) ?_ rfl ⟨a1,c1,by rw[hn],?_,?_⟩
 ·simp[results,Tryz.results140,go_sem]
 ·have O2:=O1.out
  refine Own.mono (B:=w.heap.size+2) ?_ om
  repeat(first|(with_reducible exact O2)|(with_reducible refine Own.lowS ?_ om _ _))
 ·exact b7.of
theorem bp6{p:List ByteArray}(hs:Sl L4 w a p)(hnil:a=none→c=0)(hn:p.length=n)(hm:n≤100000000) :
  Calls Tryz.prog 97 #[.agg #[I f,I z,I k,.slice a n c]] w (aZ3 w f z k p):=by
 have HNIL:=lH hnil;clear hnil
 go_enter Tryz.func97,Tryz.ntmps97
 go_wp2_with (first|(at_builtin;go_must (refine I0 (enc:=L4) (w0:=(w.alloc (.cells #[I f,I z,I k,.slice a n c] 179)).alloc (.cells #[I 0,I 0,I 0,.slice none 0 0] 179)) (z:=.string ByteArray.empty) (size:=1) (bytes:=16) (n:=0) (l:=[]) rfl (.tmp 3) (.tmp 5) rfl Tryz.underlying30 kr rfl de de rfl rfl HNIL.out rfl hn (Own.emptyAt az0 LeN.out si) (hs.to ii) az1 om ?_;intro sa1 sc1 x1 hown1 hgr1;rw[List.nil_append]at hown1;have O1:=lH (hown1.mono (B':=w.heap.size+2) si);clear hown1 hgr1)))
 refine bodyPost_ret (v:=.agg #[I f,I z,I k,.slice sa1 n sc1]) ?_ rfl ⟨sa1,sc1,by rw[hn],?_,?_⟩
 ·simp[results,Tryz.results97,go_sem]
 ·have O2:=O1.out
  refine Own.mono (B:=w.heap.size+2) ?_ om
  repeat(first|(with_reducible exact O2)|(with_reducible refine Own.lowS ?_ om _ _))
 ·exact b7.of
/-! ### What is valid -/
def Z4(p:List ByteArray):Bool:=p.all (fun s=>decide (s.size≤24))
def J9(f z k:Int)(p:List ByteArray):Bool:=inB f 0 7 && (inB z (-1) 600 && (inB k (-1) 65535 && (((z == -1) == (k == -1)) && (decide (p.length=25) && Z4 p))))
theorem aT5{p:List ByteArray}(hs:Sl L4 w a p)(hn:p.length=n)(hm:n≤4611686018427387904)(hsz:∀ s∈p,s.size≤100000000) :
  Calls Tryz.prog 262 #[.agg #[I f,I z,I k,.slice a n c]] w (b5 w (.bool (J9 f z k p))):=by
 have HS:=lH hsz;clear hsz
 have HF:=lH (show J9 f z k p=(inB f 0 7 && (inB z (-1) 600 && (inB k (-1) 65535 && (((z == -1) == (k == -1)) && (decide (n=25) && Z4 p)))))by rw[J9,hn])
 cases c1:inB f 0 7
 ·go_enter Tryz.func262,Tryz.ntmps262
  go_wp2_with (first|(go_at_call 146;refine gm (d8) ?_;intro x))
  go_ret
  exact b5.mk (by rw[HF.out,c1];rfl)
 cases c2:inB z (-1) 600
 ·go_enter Tryz.func262,Tryz.ntmps262
  go_wp2_with (first|(go_at_call 146;refine gm (d8) ?_;intro x))
  go_ret
  exact b5.mk (by rw[HF.out,c1,c2];rfl)
 cases c3:inB k (-1) 65535
 ·go_enter Tryz.func262,Tryz.ntmps262
  go_wp2_with (first|(go_at_call 146;refine gm (d8) ?_;intro x))
  go_ret
  exact b5.mk (by rw[HF.out,c1,c2,c3];rfl)
 cases c4:((z == -1) == (k == -1))
 ·have c5:((z == -1) != (k == -1))=true:=by rw[bne,c4];rfl
  go_enter Tryz.func262,Tryz.ntmps262
  go_wp2_with (first|(go_at_call 146;refine gm (d8) ?_;intro x))
  go_ret
  exact b5.mk (by rw[HF.out,c1,c2,c3,c4];rfl)
 have c5:((z == -1) != (k == -1))=false:=by rw[bne,c4];rfl
 have HF2:=lH (show J9 f z k p=(decide (n=25) && Z4 p)by rw[HF.out,c1,c2,c3,c4];rfl)
 clear HF
 by_cases h6:n=25
 ·have c6:((n:Int) != 25)=false:=by simp;omega
  have HF3:=lH (show J9 f z k p=Z4 p by rw[HF2.out,h6];rfl)
  clear HF2 h6
  go_enter Tryz.func262,Tryz.ntmps262
  go_wp2_with (first|(go_at_call 146;refine gm (d8) ?_;intro x))
  go_loopw [37] (fun v wr=>∃ k:Nat,v=I k∧k≤n∧Hid (Z4 (p.drop k)=Z4 p)∧∃ x:b7 w,wr=x.w) (fun v _=>(n - intOf v).toNat)
  case atStart=>exact⟨0,rfl,by omega,rfl,b7.of⟩
  case round =>
   obtain⟨k,rfl,hk,hf,x,rfl⟩:=hrel
   by_cases h:k<n
   ·obtain⟨b,off,s,rfl,hb,hd,h0⟩:=hs.str (show k<p.length by omega)
    have hsm:s.size≤100000000:=HS.out s (List.mem_of_mem_drop (by rw[hd.out];exact List.mem_cons_self ..))
    by_cases h7:24<s.size
    ·go_wp2_with (fail)
     go_ret
     exact b5.mk (by have:=hf.out;rw[hd.out,Z4,List.all_cons,decide_eq_false om]at this;rw[HF3.out,← this];rfl)
    ·go_wp2_with (fail)
     go_roundw
     case rel=>exact⟨k+1,by go_num,by omega,by have:=hf.out;rw[hd.out,Z4,List.all_cons,decide_eq_true om]at this;exact this,b7.of⟩
     case measure=>simp[intOf];omega
   ·go_wp2_with (fail)
    go_ret
    exact b5.mk (by have:=hf.out;rw[List.drop_of_length_le om]at this;rw[HF3.out,← this];rfl)
 ·have c6:((n:Int) != 25)=true:=by simp;omega
  have HF3:=lH (show J9 f z k p=false by rw[HF2.out,decide_eq_false h6];rfl)
  clear HF2 h6
  go_enter Tryz.func262,Tryz.ntmps262
  go_wp2_with (first|(go_at_call 146;refine gm (d8) ?_;intro x))
  go_ret
  exact b5.mk (by rw[HF3.out];rfl)
theorem aT8{p:List ByteArray}(hs:Sl L4 w a p)(hn:p.length=n)(hm:n≤4611686018427387904)(hsz:∀ s∈p,s.size≤100000000) :
  Calls Tryz.prog 234 #[.agg #[I f,I z,I k,.slice a n c]] w (b5 w (.bool (J9 f z k p))):=by
 have HS:=lH hsz;clear hsz
 have HF:=lH (show J9 f z k p=(inB f 0 7 && (inB z (-1) 600 && (inB k (-1) 65535 && (((z == -1) == (k == -1)) && (decide (n=25) && Z4 p)))))by rw[J9,hn])
 go_enter Tryz.func234,Tryz.ntmps234
 go_wp2_with (fail)
 go_loopw [3] (fun v wr=>∃ j:Nat,v=I j∧j≤n∧Hid (Z4 (p.drop j)=Z4 p)∧∃ x:b7 (w.alloc (.cells #[I f,I z,I k,.slice a n c] 179)),wr=x.w) (fun v _=>(n - intOf v).toNat)
 case atStart=>exact⟨0,rfl,by omega,rfl,b7.of⟩
 case round =>
  obtain⟨j,rfl,hk,hf,x,rfl⟩:=hrel
  by_cases h:j<n
  ·obtain⟨b,off,s,rfl,hb,hd,h0⟩:=hs.str (show j<p.length by omega)
   have hsm:s.size≤100000000:=HS.out s (List.mem_of_mem_drop (by rw[hd.out];exact List.mem_cons_self ..))
   by_cases h7:24<s.size
   ·go_wp2_with (fail)
    go_ret
    exact b5.mk (by have:=hf.out;rw[hd.out,Z4,List.all_cons,decide_eq_false om]at this;rw[HF.out,← this];simp)
   ·go_wp2_with (fail)
    go_roundw
    case rel=>exact⟨j+1,by go_num,by omega,by have:=hf.out;rw[hd.out,Z4,List.all_cons,decide_eq_true om]at this;exact this,b7.of⟩
    case measure=>simp[intOf];omega
  ·have hf':=hf.out
   rw[List.drop_of_length_le om]at hf'
   have HA:=lH (show Z4 p=true from hf'.symm);clear hf hf'
   cases c1:inB f 0 7
   ·go_wp2_with (first|(go_at_call 101;refine gm (f5) ?_;intro x))
    go_ret
    exact b5.mk (by rw[HF.out,c1];rfl)
   cases c2:inB z (-1) 600
   ·go_wp2_with (first|(go_at_call 101;refine gm (f5) ?_;intro x))
    go_ret
    exact b5.mk (by rw[HF.out,c1,c2];rfl)
   cases c3:inB k (-1) 65535
   ·go_wp2_with (first|(go_at_call 101;refine gm (f5) ?_;intro x))
    go_ret
    exact b5.mk (by rw[HF.out,c1,c2,c3];rfl)
   cases c4:((z == -1) == (k == -1))
   ·go_wp2_with (first|(go_at_call 101;refine gm (f5) ?_;intro x))
    go_ret
    exact b5.mk (by rw[HF.out,c1,c2,c3,c4];rfl)
   by_cases h6:n=25
   ·have c6:((n:Int) == 25)=true:=by simp;omega
    have HF3:=lH (show J9 f z k p=true by rw[HF.out,c1,c2,c3,c4,h6,HA.out];rfl)
    clear HF h6 HA
    go_wp2_with (first|(go_at_call 101;refine gm (f5) ?_;intro x))
    go_ret
    exact b5.mk (by rw[HF3.out];rfl)
   ·have c6:((n:Int) == 25)=false:=by simp;omega
    have HF3:=lH (show J9 f z k p=false by rw[HF.out,c1,c2,c3,c4,decide_eq_false h6];rfl)
    clear HF h6 HA
    go_wp2_with (first|(go_at_call 101;refine gm (f5) ?_;intro x))
    go_ret
    exact b5.mk (by rw[HF3.out];rfl)
def bAt(s:ByteArray)(i:Nat):Int:=if h:i<s.size then(s[i].toNat:Int)else 0
theorem K0{i:Nat}(h:i<s.size):bAt s i=(s[i].toNat:Int):=dif_pos h
theorem J5(s:ByteArray)(i:Nat):0≤bAt s i∧bAt s i≤255:=by
 unfold bAt
 split
 ·rename_i h
  have:=s[i].toNat_lt
  omega
 ·omega
def aA4(s:ByteArray):Bool:=decide (bAt s 0=0∧bAt s 1≤7∧bAt s 2≤24)
def aw6(s:ByteArray):Bool:=decide (4≤s.size∧s.size≤27) && aA4 s
def U8(s:ByteArray):Int × Int × ByteArray × Bool:=if aw6 s=true then(bAt s 1,bAt s 2,s.extract 3 s.size,true)else(0,0,⟨#[]⟩,false)
def bv2(q:Int × Int × ByteArray × Bool):Value:=.tuple #[.int .i64 q.1,.int .i64 q.2.1,.string q.2.2.1,.bool q.2.2.2]
theorem bS3(x:UInt8):UInt8.ofNat ((x.toNat:Int) % 256).toNat=x:=by
 have:=x.toNat_lt
 rw[show((x.toNat:Int) % 256).toNat=x.toNat by omega];simp
theorem br0(h3:3≤s.size)(h0:s[0].toNat=0):((aw8 (s[1].toNat) (s[2].toNat) (s.extract 3 s.size)).toList == s.toList)=aw6 s:=by
 rw[ByteArray.toList_eq,ByteArray.toList_eq]
 have e1:bAt s 1=s[1].toNat:=K0 om
 have e2:bAt s 2=s[2].toNat:=K0 om
 have e0:bAt s 0=0:=by rw[K0 om];omega
 have hx:(s.extract 3 s.size).size=s.size - 3:=by rw[ByteArray.size_extract];omega
 by_cases h:aw6 s=true
 ·rw[h,beq_iff_eq]
  simp only[aw6,aA4,Bool.and_eq_true,decide_eq_true_eq]at h
  have c1:inB (s[1].toNat) 0 7=true:=D8.2 om
  have c2:inB (s[2].toNat) 0 24=true:=D8.2 om
  have c3:inB ((s.extract 3 s.size).size:Nat) 1 24=true:=D8.2 om
  unfold aw8
  rw[c1,c2,c3]
  simp only[Bool.and_self,if_true]
  have hd:s.data.toList=s[0]::s[1]::s[2]::s.data.toList.drop 3:=by
   have hl:3≤s.data.toList.length:=by rw[Array.length_toList];exact h3
   match hm:s.data.toList,hl with
   | a::b::c::r,_ =>
    have g:∀ i (hi:i<s.size),s[i]=s.data.toList[i]'(by rw[Array.length_toList];exact hi):=fun i hi=>rfl
    simp[g,hm]
  have hz:s[0]=0:=by apply UInt8.toNat_inj.1;simpa using h0
  rw[hd]
  simp only[ByteArray.data_append,Array.toList_append,aF3,strOfNums_data,List.map_cons,List.map_nil,bS3,ByteArray.data_extract]
  have hq:(s.data.extract 3 s.size).toList=s.data.toList.drop 3:=by
   rw[Array.toList_extract,List.extract_eq_take_drop]
   exact List.take_of_length_le (by rw[List.length_drop,Array.length_toList];exact Nat.le_refl _)
  rw[hq,hz];rfl
 ·have hn:aw6 s=false:=by simpa using h
  rw[hn,beq_eq_false_iff_ne]
  intro he
  apply h
  unfold aw8 at he
  split at he
  ·rename_i hc
   simp only[Bool.and_eq_true]at hc
   have:=D8.1 hc.1;have h8:=D8.1 hc.2.1;have h9:=D8.1 hc.2.2
   simp only[aw6,aA4,Bool.and_eq_true,decide_eq_true_eq]
   omega
  ·have:=congrArg List.length he
   rw[Array.length_toList,Array.length_toList]at this
   have h7:(0:Nat)=s.size:=this
   omega
theorem aR0(hm:s.size≤100000000) :
  Calls Tryz.prog 271 #[.string s] w (b5 w (bv2 (U8 s))):=by
 by_cases hl:4≤s.size∧s.size≤27
 ·have c1:inB (s.size) 4 27=true:=D8.2 om
  obtain⟨hl1,hl2⟩:=hl
  have hb1:s[1].toNat<256:=s[1].toNat_lt
  have hb2:s[2].toNat<256:=s[2].toNat_lt
  have e0:bAt s 0=s[0].toNat:=K0 om
  have e1:bAt s 1=s[1].toNat:=K0 om
  have e2:bAt s 2=s[2].toNat:=K0 om
  by_cases g:s[0].toNat=0∧s[1].toNat≤7∧s[2].toNat≤24
  ·have HV:=lH (show U8 s=((s[1].toNat:Int),(s[2].toNat:Int),s.extract 3 s.size,true)by
    unfold U8;rw[if_pos (by simp only[aw6,aA4,Bool.and_eq_true,decide_eq_true_eq];omega),e1,e2])
   obtain⟨g0,g1,g2⟩:=g
   clear e0 e1 e2
   go_enter Tryz.func271,Tryz.ntmps271
   go_wp2_with (first|((with_reducible refine rl ?_);(repeat(first|go_big_quiet_step (first|(go_at_call 146;exact b5.quiet (d8)))|simp only[c1]));refine wpQuiet_nil ?_;intro x)|(go_at_call 146;refine gm (d8) ?_;intro x))
   refine bodyPost_ret (v:=.tuple #[I s[1].toNat,I s[2].toNat,.string (s.extract 3 s.size),.bool true]) ?_ rfl (b5.mk (by rw[HV.out];rfl))
   simp[results,Tryz.results271,go_sem]
  ·have HV:=lH (show U8 s=(0,0,⟨#[]⟩,false)by
    unfold U8;rw[if_neg (by simp only[aw6,aA4,Bool.and_eq_true,decide_eq_true_eq];omega)])
   clear e0 e1 e2
   by_cases g0:s[0].toNat=0
   ·by_cases g1:s[1].toNat≤7
    ·have g2:¬ s[2].toNat≤24:=fun h=>g ⟨g0,g1,h⟩
     clear g
     go_enter Tryz.func271,Tryz.ntmps271
     go_wp2_with (first|((with_reducible refine rl ?_);(repeat(first|go_big_quiet_step (first|(go_at_call 146;exact b5.quiet (d8)))|simp only[c1]));refine wpQuiet_nil ?_;intro x)|(go_at_call 146;refine gm (d8) ?_;intro x))
     refine bodyPost_ret (v:=.tuple #[I 0,I 0,.string ⟨#[]⟩,.bool false]) ?_ rfl (b5.mk (by rw[HV.out];rfl))
     simp[results,Tryz.results271,go_sem]
    ·clear g
     go_enter Tryz.func271,Tryz.ntmps271
     go_wp2_with (first|((with_reducible refine rl ?_);(repeat(first|go_big_quiet_step (first|(go_at_call 146;exact b5.quiet (d8)))|simp only[c1]));refine wpQuiet_nil ?_;intro x)|(go_at_call 146;refine gm (d8) ?_;intro x))
     refine bodyPost_ret (v:=.tuple #[I 0,I 0,.string ⟨#[]⟩,.bool false]) ?_ rfl (b5.mk (by rw[HV.out];rfl))
     simp[results,Tryz.results271,go_sem]
   ·clear g
    go_enter Tryz.func271,Tryz.ntmps271
    go_wp2_with (first|((with_reducible refine rl ?_);(repeat(first|go_big_quiet_step (first|(go_at_call 146;exact b5.quiet (d8)))|simp only[c1]));refine wpQuiet_nil ?_;intro x)|(go_at_call 146;refine gm (d8) ?_;intro x))
    refine bodyPost_ret (v:=.tuple #[I 0,I 0,.string ⟨#[]⟩,.bool false]) ?_ rfl (b5.mk (by rw[HV.out];rfl))
    simp[results,Tryz.results271,go_sem]
 ·have c1:inB (s.size) 4 27=false:=by
   cases h:inB (s.size) 4 27
   ·rfl
   ·have:=D8.1 h;omega
  have HV:=lH (show U8 s=(0,0,⟨#[]⟩,false)by
   unfold U8;rw[if_neg (by simp only[aw6,Bool.and_eq_true,decide_eq_true_eq];omega)])
  clear hl
  go_enter Tryz.func271,Tryz.ntmps271
  go_wp2_with (first|((with_reducible refine rl ?_);(repeat(first|go_big_quiet_step (first|(go_at_call 146;exact b5.quiet (d8)))|simp only[c1]));refine wpQuiet_nil ?_;intro x)|(go_at_call 146;refine gm (d8) ?_;intro x))
  refine bodyPost_ret (v:=.tuple #[I 0,I 0,.string ⟨#[]⟩,.bool false]) ?_ rfl (b5.mk (by rw[HV.out];rfl))
  simp[results,Tryz.results271,go_sem]
theorem aR3(hm:s.size≤100000000) :
  Calls Tryz.prog 241 #[.string s] w (b5 w (bv2 (U8 s))):=by
 by_cases hl:3≤s.size
 ·have hb1:s[1].toNat<256:=s[1].toNat_lt
  have hb2:s[2].toNat<256:=s[2].toNat_lt
  have e0:bAt s 0=s[0].toNat:=K0 om
  have e1:bAt s 1=s[1].toNat:=K0 om
  have e2:bAt s 2=s[2].toNat:=K0 om
  have hx:(s.extract 3 s.size).size=s.size - 3:=by rw[ByteArray.size_extract];omega
  have k0:decide ((s.size:Int)<3)=false:=by simp;omega
  have j0:(0:Int)<s.size:=by omega
  have j00:0<s.size:=by omega
  have j1:(1:Int)<s.size:=by omega
  have j2:(2:Int)<s.size:=by omega
  have j3:(3:Int)≤s.size:=by omega
  have w1:wrap64 ((s[1].toNat:Nat):Int)=s[1].toNat:=by unfold wrap64;omega
  have w2:wrap64 ((s[2].toNat:Nat):Int)=s[2].toNat:=by unfold wrap64;omega
  by_cases g0:s[0].toNat=0
  ·have ha:=br0 hl g0
   have k1:(((s[0].toNat:Nat):Int) != 0)=false:=by simp[g0]
   cases hq:aw6 s
   ·have HV:=lH (show U8 s=(0,0,⟨#[]⟩,false)by unfold U8;rw[hq];rfl)
    have hne:((aw8 (s[1].toNat) (s[2].toNat) (s.extract 3 s.size)).toList == s.toList)=false:=by rw[ha,hq]
    clear e0 e1 e2 ha hq
    go_enter Tryz.func241,Tryz.ntmps241
    go_wp2_with (first|((with_reducible refine rl ?_);(repeat(first|go_big_quiet_step (first|(go_at_call 296;exact b5.quiet (S6 om)))|simp only[k0]|simp only[k1]|simp only[w1]|simp only[w2]|simp only[hne]));refine wpQuiet_nil ?_;intro x)|(go_at_call 296;refine gm (S6 om) ?_;intro x))
    refine bodyPost_ret (v:=.tuple #[I 0,I 0,.string ⟨#[]⟩,.bool false]) ?_ rfl (b5.mk (by rw[HV.out];rfl))
    simp[results,Tryz.results241,go_sem]
   ·have HV:=lH (show U8 s=((s[1].toNat:Int),(s[2].toNat:Int),s.extract 3 s.size,true)by
     unfold U8;rw[if_pos hq,e1,e2])
    have hne:((aw8 (s[1].toNat) (s[2].toNat) (s.extract 3 s.size)).toList == s.toList)=true:=by rw[ha,hq]
    clear e0 e1 e2 ha hq
    go_enter Tryz.func241,Tryz.ntmps241
    go_wp2_with (first|((with_reducible refine rl ?_);(repeat(first|go_big_quiet_step (first|(go_at_call 296;exact b5.quiet (S6 om)))|simp only[k0]|simp only[k1]|simp only[w1]|simp only[w2]|simp only[hne]));refine wpQuiet_nil ?_;intro x)|(go_at_call 296;refine gm (S6 om) ?_;intro x))
    refine bodyPost_ret (v:=.tuple #[I s[1].toNat,I s[2].toNat,.string (s.extract 3 s.size),.bool true]) ?_ rfl (b5.mk (by rw[HV.out];rfl))
    simp[results,Tryz.results241,go_sem]
  ·have HV:=lH (show U8 s=(0,0,⟨#[]⟩,false)by
    unfold U8;rw[if_neg (by simp only[aw6,aA4,Bool.and_eq_true,decide_eq_true_eq];omega)])
   have k1:(((s[0].toNat:Nat):Int) != 0)=true:=by simp;omega
   have k2:(((s[0].toNat:Nat):Int) == 0)=false:=by simp;omega
   clear e0 e1 e2
   go_enter Tryz.func241,Tryz.ntmps241
   go_wp2_with (first|((with_reducible refine rl ?_);(repeat(first|go_big_quiet_step (first|(go_at_call 296;exact b5.quiet (S6 om)))|simp only[k0]|simp only[k1]|simp only[k2]));refine wpQuiet_nil ?_;intro x)|(go_at_call 296;refine gm (S6 om) ?_;intro x))
   refine bodyPost_ret (v:=.tuple #[I 0,I 0,.string ⟨#[]⟩,.bool false]) ?_ rfl (b5.mk (by rw[HV.out];rfl))
   simp[results,Tryz.results241,go_sem]
 ·have HV:=lH (show U8 s=(0,0,⟨#[]⟩,false)by
   unfold U8;rw[if_neg (by simp only[aw6,Bool.and_eq_true,decide_eq_true_eq];omega)])
  have k0:decide ((s.size:Int)<3)=true:=by simp;omega
  go_enter Tryz.func241,Tryz.ntmps241
  go_wp2_with (first|((with_reducible refine rl ?_);(repeat(first|go_big_quiet_step (first|(go_at_call 296;exact b5.quiet (S6 om)))|simp only[k0]));refine wpQuiet_nil ?_;intro x)|(go_at_call 296;refine gm (S6 om) ?_;intro x))
  refine bodyPost_ret (v:=.tuple #[I 0,I 0,.string ⟨#[]⟩,.bool false]) ?_ rfl (b5.mk (by rw[HV.out];rfl))
  simp[results,Tryz.results241,go_sem]
def ap5(s:ByteArray)(a:Nat):Int:=bAt s a*256+bAt s (a+1)
theorem bM1(s:ByteArray)(a:Nat):0≤ap5 s a∧ap5 s a≤65535:=by
 have h1:=J5 s a;have h2:=J5 s (a+1)
 unfold ap5;omega
def ai1(n:Int):Value:=.tuple #[.int .i64 n,.bool true]
def aH8(s:ByteArray):Bool:=decide (s.size=6∧bAt s 0=1∧bAt s 1≤7∧ap5 s 2≤600)
def N9(s:ByteArray):Int × Int × Int × Bool:=if aH8 s=true then(bAt s 1,ap5 s 2,ap5 s 4,true)else(0,0,0,false)
def bv1(q:Int × Int × Int × Bool):Value:=.tuple #[.int .i64 q.1,.int .i64 q.2.1,.int .i64 q.2.2.1,.bool q.2.2.2]
theorem ay3{a:Int}(hs:s.size=6)(h:a=2∨a=4) :
  Calls Tryz.prog 160 #[.string s,I a,I 2] w (b5 w (ai1 (ap5 s a.toNat))):=by
 rcases h with rfl|rfl
 ·have e1:bAt s 2=s[2].toNat:=K0 om
  have e2:bAt s 3=s[3].toNat:=K0 om
  have HV:=lH (show ap5 s 2=((s[2].toNat:Nat):Int)*(256:Int)+((s[3].toNat:Nat):Int)by unfold ap5;rw[e1,e2])
  have c1:inB 2 1 4=true:=rfl
  clear e1 e2
  go_enter Tryz.func160,Tryz.ntmps160
  go_wp2_with (first|(go_at_call 146;refine gm (d8) ?_;intro x))
  refine wp_loop_rounds 3 ?_
  rw[rounds_succ]
  go_wp2_with (fail)
  rw[rounds_succ]
  go_wp2_with (fail)
  rw[rounds_succ]
  go_wp2_with (fail)
  refine bodyPost_ret (v:=.tuple #[I (((s[2].toNat:Nat):Int)*(256:Int)+((s[3].toNat:Nat):Int)),.bool true]) ?_ rfl (b5.mk (by rw[show Int.toNat 2=2 from rfl];unfold ai1;rw[HV.out]))
  have hb1:s[2].toNat<256:=s[2].toNat_lt
  have hb2:s[3].toNat<256:=s[3].toNat_lt
  simp[results,Tryz.results160,go_sem]
  unfold wrap64;omega
 ·have e1:bAt s 4=s[4].toNat:=K0 om
  have e2:bAt s 5=s[5].toNat:=K0 om
  have HV:=lH (show ap5 s 4=((s[4].toNat:Nat):Int)*(256:Int)+((s[5].toNat:Nat):Int)by unfold ap5;rw[e1,e2])
  have c1:inB 2 1 4=true:=rfl
  clear e1 e2
  go_enter Tryz.func160,Tryz.ntmps160
  go_wp2_with (first|(go_at_call 146;refine gm (d8) ?_;intro x))
  refine wp_loop_rounds 3 ?_
  rw[rounds_succ]
  go_wp2_with (fail)
  rw[rounds_succ]
  go_wp2_with (fail)
  rw[rounds_succ]
  go_wp2_with (fail)
  refine bodyPost_ret (v:=.tuple #[I (((s[4].toNat:Nat):Int)*(256:Int)+((s[5].toNat:Nat):Int)),.bool true]) ?_ rfl (b5.mk (by rw[show Int.toNat 4=4 from rfl];unfold ai1;rw[HV.out]))
  have hb1:s[4].toNat<256:=s[4].toNat_lt
  have hb2:s[5].toNat<256:=s[5].toNat_lt
  simp[results,Tryz.results160,go_sem]
  unfold wrap64;omega
theorem bo1(hm:s.size≤100000000) :
  Calls Tryz.prog 272 #[.string s] w (b5 w (bv1 (N9 s))):=by
 by_cases hl:s.size=6
 ·have c1:((s.size:Int) != 6)=false:=by simp;omega
  have e0:bAt s 0=s[0].toNat:=K0 om
  have e1:bAt s 1=s[1].toNat:=K0 om
  by_cases g:s[0].toNat=1∧s[1].toNat≤7
  ·obtain⟨g0,g1⟩:=g
   obtain⟨x,hx⟩:∃ x,ap5 s 2=x:=⟨_,rfl⟩
   obtain⟨y,hy⟩:∃ y,ap5 s 4=y:=⟨_,rfl⟩
   have HX:=lH hx;have HY:=lH hy
   by_cases g2:x≤600
   ·have HV:=lH (show N9 s=((s[1].toNat:Int),x,y,true)by
     unfold N9;rw[if_pos (by simp only[aH8,decide_eq_true_eq];omega),e1,hx,hy])
    clear e0 e1 hx hy
    go_enter Tryz.func272,Tryz.ntmps272
    go_wp2_with (fail)
    refine gm (ay3 hl (.inl rfl)) ?_
    intro y1
    simp only[ai1]
    rw[show ap5 s ((2:Int)).toNat=x from HX.out]
    go_wp2_with (fail)
    refine gm (ay3 hl (.inr rfl)) ?_
    intro y2
    simp only[ai1]
    rw[show ap5 s ((4:Int)).toNat=y from HY.out]
    go_wp2_with (fail)
    refine bodyPost_ret (v:=.tuple #[I s[1].toNat,I x,I y,.bool true]) ?_ rfl (b5.mk (by rw[HV.out];rfl))
    simp[results,Tryz.results272,go_sem]
   ·have HV:=lH (show N9 s=(0,0,0,false)by
     unfold N9;rw[if_neg (by simp only[aH8,decide_eq_true_eq];omega)])
    clear e0 e1 hx hy
    go_enter Tryz.func272,Tryz.ntmps272
    go_wp2_with (fail)
    refine gm (ay3 hl (.inl rfl)) ?_
    intro y1
    simp only[ai1]
    rw[show ap5 s ((2:Int)).toNat=x from HX.out]
    go_wp2_with (fail)
    refine gm (ay3 hl (.inr rfl)) ?_
    intro y2
    simp only[ai1]
    rw[show ap5 s ((4:Int)).toNat=y from HY.out]
    go_wp2_with (fail)
    refine bodyPost_ret (v:=.tuple #[I 0,I 0,I 0,.bool false]) ?_ rfl (b5.mk (by rw[HV.out];rfl))
    simp[results,Tryz.results272,go_sem]
  ·have HV:=lH (show N9 s=(0,0,0,false)by
    unfold N9;rw[if_neg (by simp only[aH8,decide_eq_true_eq];omega)])
   clear e0 e1
   by_cases g0:s[0].toNat=1
   ·have g1:¬ s[1].toNat≤7:=fun h=>g ⟨g0,h⟩
    clear g
    go_enter Tryz.func272,Tryz.ntmps272
    go_wp2_with (fail)
    refine bodyPost_ret (v:=.tuple #[I 0,I 0,I 0,.bool false]) ?_ rfl (b5.mk (by rw[HV.out];rfl))
    simp[results,Tryz.results272,go_sem]
   ·clear g
    go_enter Tryz.func272,Tryz.ntmps272
    go_wp2_with (fail)
    refine bodyPost_ret (v:=.tuple #[I 0,I 0,I 0,.bool false]) ?_ rfl (b5.mk (by rw[HV.out];rfl))
    simp[results,Tryz.results272,go_sem]
 ·have c1:((s.size:Int) != 6)=true:=by simp;omega
  have HV:=lH (show N9 s=(0,0,0,false)by
   unfold N9;rw[if_neg (by simp only[aH8,decide_eq_true_eq];omega)])
  clear hl
  go_enter Tryz.func272,Tryz.ntmps272
  go_wp2_with (fail)
  refine bodyPost_ret (v:=.tuple #[I 0,I 0,I 0,.bool false]) ?_ rfl (b5.mk (by rw[HV.out];rfl))
  simp[results,Tryz.results272,go_sem]
theorem ay5{a:Int}(hs:s.size=6)(h:a=2∨a=4) :
  Calls Tryz.prog 116 #[.string s,I a,I 2] w (b5 w (ai1 (ap5 s a.toNat))):=by
 rcases h with rfl|rfl
 ·have e1:bAt s 2=s[2].toNat:=K0 om
  have e2:bAt s 3=s[3].toNat:=K0 om
  have HV:=lH (show ap5 s 2=((s[2].toNat:Nat):Int)*(256:Int)+((s[3].toNat:Nat):Int)by unfold ap5;rw[e1,e2])
  have c1:inB 2 1 4=true:=rfl
  clear e1 e2
  go_enter Tryz.func116,Tryz.ntmps116
  go_wp2_with (first|(go_at_call 101;refine gm (f5) ?_;intro x))
  refine wp_loop_rounds 3 ?_
  rw[rounds_succ]
  go_wp2_with (fail)
  rw[rounds_succ]
  go_wp2_with (fail)
  rw[rounds_succ]
  go_wp2_with (fail)
  refine bodyPost_ret (v:=.tuple #[I (((s[2].toNat:Nat):Int)*(256:Int)+((s[3].toNat:Nat):Int)),.bool true]) ?_ rfl (b5.mk (by rw[show Int.toNat 2=2 from rfl];unfold ai1;rw[HV.out]))
  have hb1:s[2].toNat<256:=s[2].toNat_lt
  have hb2:s[3].toNat<256:=s[3].toNat_lt
  simp[results,Tryz.results116,go_sem]
  unfold wrap64;omega
 ·have e1:bAt s 4=s[4].toNat:=K0 om
  have e2:bAt s 5=s[5].toNat:=K0 om
  have HV:=lH (show ap5 s 4=((s[4].toNat:Nat):Int)*(256:Int)+((s[5].toNat:Nat):Int)by unfold ap5;rw[e1,e2])
  have c1:inB 2 1 4=true:=rfl
  clear e1 e2
  go_enter Tryz.func116,Tryz.ntmps116
  go_wp2_with (first|(go_at_call 101;refine gm (f5) ?_;intro x))
  refine wp_loop_rounds 3 ?_
  rw[rounds_succ]
  go_wp2_with (fail)
  rw[rounds_succ]
  go_wp2_with (fail)
  rw[rounds_succ]
  go_wp2_with (fail)
  refine bodyPost_ret (v:=.tuple #[I (((s[4].toNat:Nat):Int)*(256:Int)+((s[5].toNat:Nat):Int)),.bool true]) ?_ rfl (b5.mk (by rw[show Int.toNat 4=4 from rfl];unfold ai1;rw[HV.out]))
  have hb1:s[4].toNat<256:=s[4].toNat_lt
  have hb2:s[5].toNat<256:=s[5].toNat_lt
  simp[results,Tryz.results116,go_sem]
  unfold wrap64;omega
theorem bp1(hm:s.size≤100000000) :
  Calls Tryz.prog 242 #[.string s] w (b5 w (bv1 (N9 s))):=by
 by_cases hl:s.size=6
 ·have c1:((s.size:Int) != 6)=false:=by simp;omega
  have e0:bAt s 0=s[0].toNat:=K0 om
  have e1:bAt s 1=s[1].toNat:=K0 om
  by_cases g:s[0].toNat=1∧s[1].toNat≤7
  ·obtain⟨g0,g1⟩:=g
   obtain⟨x,hx⟩:∃ x,ap5 s 2=x:=⟨_,rfl⟩
   obtain⟨y,hy⟩:∃ y,ap5 s 4=y:=⟨_,rfl⟩
   have HX:=lH hx;have HY:=lH hy
   by_cases g2:x≤600
   ·have HV:=lH (show N9 s=((s[1].toNat:Int),x,y,true)by
     unfold N9;rw[if_pos (by simp only[aH8,decide_eq_true_eq];omega),e1,hx,hy])
    clear e0 e1 hx hy
    go_enter Tryz.func242,Tryz.ntmps242
    go_wp2_with (fail)
    refine gm (ay5 hl (.inl rfl)) ?_
    intro y1
    simp only[ai1]
    rw[show ap5 s ((2:Int)).toNat=x from HX.out]
    go_wp2_with (fail)
    refine gm (ay5 hl (.inr rfl)) ?_
    intro y2
    simp only[ai1]
    rw[show ap5 s ((4:Int)).toNat=y from HY.out]
    go_wp2_with (fail)
    refine bodyPost_ret (v:=.tuple #[I s[1].toNat,I x,I y,.bool true]) ?_ rfl (b5.mk (by rw[HV.out];rfl))
    simp[results,Tryz.results242,go_sem]
   ·have HV:=lH (show N9 s=(0,0,0,false)by
     unfold N9;rw[if_neg (by simp only[aH8,decide_eq_true_eq];omega)])
    clear e0 e1 hx hy
    go_enter Tryz.func242,Tryz.ntmps242
    go_wp2_with (fail)
    refine gm (ay5 hl (.inl rfl)) ?_
    intro y1
    simp only[ai1]
    rw[show ap5 s ((2:Int)).toNat=x from HX.out]
    go_wp2_with (fail)
    refine gm (ay5 hl (.inr rfl)) ?_
    intro y2
    simp only[ai1]
    rw[show ap5 s ((4:Int)).toNat=y from HY.out]
    go_wp2_with (fail)
    refine bodyPost_ret (v:=.tuple #[I 0,I 0,I 0,.bool false]) ?_ rfl (b5.mk (by rw[HV.out];rfl))
    simp[results,Tryz.results242,go_sem]
  ·have HV:=lH (show N9 s=(0,0,0,false)by
    unfold N9;rw[if_neg (by simp only[aH8,decide_eq_true_eq];omega)])
   clear e0 e1
   by_cases g0:s[0].toNat=1
   ·have g1:¬ s[1].toNat≤7:=fun h=>g ⟨g0,h⟩
    clear g
    go_enter Tryz.func242,Tryz.ntmps242
    go_wp2_with (fail)
    refine bodyPost_ret (v:=.tuple #[I 0,I 0,I 0,.bool false]) ?_ rfl (b5.mk (by rw[HV.out];rfl))
    simp[results,Tryz.results242,go_sem]
   ·clear g
    go_enter Tryz.func242,Tryz.ntmps242
    go_wp2_with (fail)
    refine bodyPost_ret (v:=.tuple #[I 0,I 0,I 0,.bool false]) ?_ rfl (b5.mk (by rw[HV.out];rfl))
    simp[results,Tryz.results242,go_sem]
 ·have c1:((s.size:Int) != 6)=true:=by simp;omega
  have HV:=lH (show N9 s=(0,0,0,false)by
   unfold N9;rw[if_neg (by simp only[aH8,decide_eq_true_eq];omega)])
  clear hl
  go_enter Tryz.func242,Tryz.ntmps242
  go_wp2_with (fail)
  refine bodyPost_ret (v:=.tuple #[I 0,I 0,I 0,.bool false]) ?_ rfl (b5.mk (by rw[HV.out];rfl))
  simp[results,Tryz.results242,go_sem]
def nib(n:Int):Int:=([0,135,153,30,170,45,51,180,75,204,210,85,225,102,120,255]:List Int).getD n.toNat 0
def cc3(l:List Int):List Int:=l.flatMap fun b=>[nib (b / 16),nib (b % 16)]
def av5(n:Int):Int:=n % 2+n / 2 % 2+n / 4 % 2+n / 8 % 2+n / 16 % 2+n / 32 % 2+n / 64 % 2+n / 128 % 2
theorem bP9{n:Int}(h0:0≤n)(h1:n≤255):av5 n=n % 2+av5 (n / 2):=by unfold av5;omega
def up1(f:Int→Int→Int)(D:List Int)(q:Nat × Int):List Int:=D.set q.1 (f (D.getD q.1 0) q.2)
theorem bv3(f:Int→Int→Int)(D:List Int)(q:Nat × Int):(up1 f D q).length=D.length:=by simp[up1]
theorem bN6(f:Int→Int→Int):∀ (q:List (Nat × Int)) (D:List Int),(q.foldl (up1 f) D).length=D.length
 | [],_=>rfl
 | x::q,D=>by rw[List.foldl_cons,bN6 f q,bv3]
theorem bV0{f:Int→Int→Int}(hf:∀ a x y,f (f a x) y=f (f a y) x)(D:List Int)(p q:Nat × Int):up1 f (up1 f D p) q=up1 f (up1 f D q) p:=by
 obtain⟨i,x⟩:=p
 obtain⟨j,y⟩:=q
 simp only[up1]
 by_cases h:i=j
 ·subst h
  by_cases hi:i<D.length
  ·simp[List.getD,hi,hf]
  ·simp[List.set_eq_of_length_le (Nat.le_of_not_lt hi)]
 ·rw[List.set_comm _ _ h]
  simp[List.getD,h,Ne.symm h]
theorem bQ5{f:Int→Int→Int}(hf:∀ a x y,f (f a x) y=f (f a y) x){p q:List (Nat × Int)}(h:p.Perm q)(D:List Int):p.foldl (up1 f) D=q.foldl (up1 f) D :=
 h.foldl_eq' (fun x _ y _ D=>bV0 hf D x y) D
def cc5(l:List Int)(m k:Nat):Nat × Int:=((k*l.length+m) / 8,IntKind.u8.wrap (l.getD m 0 / 2 ^ k % 2*2 ^ ((k*l.length+m) % 8)))
def orU(a b:Int):Int:=bits .or .u8 a b
def bv6(a b:Int):Int:=bits .xor .u8 a b
theorem bT1(a x y:Int):orU (orU a x) y=orU (orU a y) x:=by
 have hw:∀ z:BitVec 8,BitVec.ofInt 8 (IntKind.u8.wrap (z.toNat:Int))=z:=fun z=>by
  apply BitVec.eq_of_toNat_eq
  rw[BitVec.toNat_ofInt]
  have:=z.isLt
  simp[IntKind.wrap,IntKind.bits,IntKind.signed]
  omega
 have h:∀ a b:Int,orU a b=IntKind.u8.wrap ((BitVec.ofInt 8 a ||| BitVec.ofInt 8 b).toNat:Int):=fun a b=>rfl
 rw[h (orU a x),h a x,hw,h (orU a y),h a y,hw,BitVec.or_assoc,BitVec.or_assoc,BitVec.or_comm (BitVec.ofInt 8 x)]
def cc4(l:List Int)(m k n:Nat):List (Nat × Int):=(List.range' k n).map (cc5 l m)
def ca8(l:List Int)(m n:Nat):List (Nat × Int):=(List.range' m n).flatMap fun m=>cc4 l m 0 8
theorem aN2{α β γ:Type}(f:α→β→γ):∀ (x:List α) (y:List β),(x.flatMap fun a=>y.map (f a)).Perm (y.flatMap fun b=>x.map fun a=>f a b)
 | [],y=>by
  have:(y.flatMap fun b=>([]:List α).map fun a=>f a b)=[]:=by induction y<;>simp_all
  rw[this];exact .nil
 | a::x,y=>by
  rw[List.flatMap_cons]
  refine(List.Perm.append_left _ (aN2 f x y)).trans ?_
  induction y with
  | nil=>exact .nil
  | cons b y ih =>
   simp only[List.map_cons,List.flatMap_cons,List.cons_append]
   refine .cons _ ?_
   refine List.Perm.trans ?_ (List.Perm.append_left _ ih)
   rw[← List.append_assoc,← List.append_assoc]
   exact List.Perm.append_right _ List.perm_append_comm
@[irreducible] def bU5(l:List Int):List Int:=(ca8 l 0 l.length).foldl (up1 orU) (List.replicate l.length 0)
def bi6(x:Int):Int:=2*x % 256+(x / 128+x / 16+x / 4+x) % 2
def scr:Int→List Int→List Int
 | _,[]=>[]
 | x,b::l=>bv6 b x::scr (bi6 x) l
theorem bM4{x:Int}(h0:0≤x):0≤bi6 x∧bi6 x≤255:=by unfold bi6;omega
theorem aZ9:∀ (l:List Int) (x:Int),(scr x l).length=l.length
 | [],_=>rfl
 | _::l,x=>by rw[scr,List.length_cons,aZ9 l,List.length_cons]
def bf9:ByteArray:=⟨#[26,207,252,29]⟩
@[irreducible] def cb6(s:ByteArray):ByteArray:=bf9++strOfNums (scr 255 (s5 (strOfNums (bU5 (s5 (strOfNums (cc3 (s5 s))))))))
theorem bn1(h:s.size=0):s=⟨#[]⟩:=by
 obtain⟨a⟩:=s
 simp only[ByteArray.size]at h
 rw[Array.eq_empty_of_size_eq_zero h]
theorem aV2(h:¬ s.size=0):s.toList.isEmpty=false:=by
 rw[ByteArray.toList_eq]
 cases e:s.data.toList with
 | nil=>exact absurd (show s.size=0 by rw[ByteArray.size,← Array.length_toList,e];rfl) h
 | cons=>rfl
def aF0(s:ByteArray):ByteArray:=s++aF4 (ak5 s)
/-! ### What is missing -/
def M8(x:k5):Bool:=inB x.At 0 1000050 && inB x.Data.size 1 404
def N6(l:List k5):Bool:=decide (l.length≤1000) && l.all M8
def N8(l:List s8):Bool:=decide (l.length≤5000) && l.all s6
theorem br8{l:List k5}(hs:RdS B w a c l)(hm:l.length≤100000000) :
  Calls Tryz.prog 150 #[.slice a l.length c] w (b5 w (.bool (N6 l))):=by
 obtain⟨n,hn⟩:∃ n,l.length=n:=⟨_,rfl⟩
 have HN:=lH hn
 have HD:=lH (show N6 l=(decide (n≤1000) && l.all M8)by rw[N6,hn])
 rw[hn]at hm ⊢
 clear hn
 by_cases hmx:n≤1000
 ·go_enter Tryz.func150,Tryz.ntmps150
  go_wp2_with fail
  go_loopw [10] (fun v wr=>∃ k:Nat,v=I k∧k≤n∧Hid ((l.drop k).all M8=l.all M8)∧∃ x:b7 w,wr=x.w) (fun v _=>(n - intOf v).toNat)
  case atStart=>exact⟨0,rfl,by omega,rfl,b7.of⟩
  case round =>
   obtain⟨k,rfl,hk,HV,x,rfl⟩:=hrel
   by_cases h:k<n
   ·have hkl:k<l.length:=by have:=HN.out;omega
    obtain⟨eb,eoff,ex,rfl,ehb,ehd,eok,eh0,eh1⟩:=hs.atTFlight hkl
    have hz:ex.Data.size≤9223372036854775807:=eok.2.1
    have EOK:=lH eok;clear eok hkl
    cases hg:M8 ex
    ·have HF:=lH (show l.all M8=false by have:=HV.out;rw[ehd.out,List.all_cons,hg]at this;rw[← this];rfl)
     cases c1:inB ex.At 0 1000050
     ·clear hg
      go_wp2_with (first|(go_at_call 146;refine gm (d8) ?_;intro x))
      go_ret
      exact b5.mk (by rw[HD.out,HF.out,Bool.and_false];rfl)
     ·have c2:inB ex.Data.size 1 404=false:=by rw[M8,c1]at hg;exact hg
      clear hg
      go_wp2_with (first|(go_at_call 146;refine gm (d8) ?_;intro x))
      go_ret
      exact b5.mk (by rw[HD.out,HF.out,Bool.and_false];rfl)
    ·have HF:=lH (show(l.drop (k+1)).all M8=l.all M8 by have:=HV.out;rw[ehd.out,List.all_cons,hg,Bool.true_and]at this;exact this)
     have c1:inB ex.At 0 1000050=true:=by simp only[M8,Bool.and_eq_true]at hg;exact hg.1
     have c2:inB ex.Data.size 1 404=true:=by simp only[M8,Bool.and_eq_true]at hg;exact hg.2
     clear hg
     go_wp2_with (first|(go_at_call 146;refine gm (d8) ?_;intro x))
     go_roundw
     case rel=>exact⟨k+1,by go_num,by omega,HF,b7.of⟩
     case measure=>simp[intOf];omega
   ·have HF:=lH (show l.all M8=true by have:=HV.out;rw[List.drop_of_length_le (by have:=HN.out;omega)]at this;rw[← this];rfl)
    go_wp2_with fail
    go_ret
    exact b5.mk (by rw[HD.out,HF.out,decide_eq_true hmx];rfl)
 ·go_enter Tryz.func150,Tryz.ntmps150
  go_wp2_with fail
  go_ret
  exact b5.mk (by rw[HD.out,decide_eq_false hmx];rfl)
theorem br9{l:List s8}(hs:RdS B w a c l)(hm:l.length≤100000000) :
  Calls Tryz.prog 261 #[.slice a l.length c] w (b5 w (.bool (N8 l))):=by
 obtain⟨n,hn⟩:∃ n,l.length=n:=⟨_,rfl⟩
 have HN:=lH hn
 have HD:=lH (show N8 l=(decide (n≤5000) && l.all s6)by rw[N8,hn])
 rw[hn]at hm ⊢
 clear hn
 by_cases hmx:n≤5000
 ·go_enter Tryz.func261,Tryz.ntmps261
  go_wp2_with fail
  go_loopw [10] (fun v wr=>∃ k:Nat,v=I k∧k≤n∧Hid ((l.drop k).all s6=l.all s6)∧∃ x:b7 w,wr=x.w) (fun v _=>(n - intOf v).toNat)
  case atStart=>exact⟨0,rfl,by omega,rfl,b7.of⟩
  case round =>
   obtain⟨k,rfl,hk,HV,x,rfl⟩:=hrel
   by_cases h:k<n
   ·have hkl:k<l.length:=by have:=HN.out;omega
    obtain⟨eb,eoff,ex,rfl,ehb,ehd,eok,eh0,eh1,eh2,eh3⟩:=hs.atTRecord hkl
    have hz:ex.Data.size≤9223372036854775807:=eok.2.2.2.1
    have EOK:=lH eok;clear eok hkl
    cases hg:s6 ex
    ·have HF:=lH (show l.all s6=false by have:=HV.out;rw[ehd.out,List.all_cons,hg]at this;rw[← this];rfl)
     go_wp2_with (first|(go_at_call 270;refine gm (W8 om) ?_;intro x))
     go_ret
     exact b5.mk (by rw[HD.out,HF.out,Bool.and_false];rfl)
    ·have HF:=lH (show(l.drop (k+1)).all s6=l.all s6 by have:=HV.out;rw[ehd.out,List.all_cons,hg,Bool.true_and]at this;exact this)
     go_wp2_with (first|(go_at_call 270;refine gm (W8 om) ?_;intro x))
     go_roundw
     case rel=>exact⟨k+1,by go_num,by omega,HF,b7.of⟩
     case measure=>simp[intOf];omega
   ·have HF:=lH (show l.all s6=true by have:=HV.out;rw[List.drop_of_length_le (by have:=HN.out;omega)]at this;rw[← this];rfl)
    go_wp2_with fail
    go_ret
    exact b5.mk (by rw[HD.out,HF.out,decide_eq_true hmx];rfl)
 ·go_enter Tryz.func261,Tryz.ntmps261
  go_wp2_with fail
  go_ret
  exact b5.mk (by rw[HD.out,decide_eq_false hmx];rfl)
theorem bs0{l:List k5}(hs:RdS B w a c l)(hm:l.length≤100000000) :
  Calls Tryz.prog 105 #[.slice a l.length c] w (b5 w (.bool (N6 l))):=by
 obtain⟨n,hn⟩:∃ n,l.length=n:=⟨_,rfl⟩
 have HN:=lH hn
 have HD:=lH (show N6 l=(decide (n≤1000) && l.all M8)by rw[N6,hn])
 rw[hn]at hm ⊢
 clear hn
 go_enter Tryz.func105,Tryz.ntmps105
 go_wp2_with fail
 go_loopw [3] (fun v wr=>∃ k:Nat,v=I k∧k≤n∧Hid ((l.drop k).all M8=l.all M8)∧∃ x:b7 w,wr=x.w) (fun v _=>(n - intOf v).toNat)
 case atStart=>exact⟨0,rfl,by omega,rfl,b7.of⟩
 case round =>
  obtain⟨k,rfl,hk,HV,x,rfl⟩:=hrel
  by_cases h:k<n
  ·have hkl:k<l.length:=by have:=HN.out;omega
   obtain⟨eb,eoff,ex,rfl,ehb,ehd,eok,eh0,eh1⟩:=hs.atTFlight hkl
   have hz:ex.Data.size≤9223372036854775807:=eok.2.1
   have EOK:=lH eok;clear eok hkl
   cases hg:M8 ex
   ·have HF:=lH (show l.all M8=false by have:=HV.out;rw[ehd.out,List.all_cons,hg]at this;rw[← this];rfl)
    cases c1:inB ex.At 0 1000050
    ·clear hg
     go_wp2_with (first|(go_at_call 101;refine gm (f5) ?_;intro x))
     go_ret
     exact b5.mk (by rw[HD.out,HF.out,Bool.and_false];rfl)
    ·have c2:inB ex.Data.size 1 404=false:=by rw[M8,c1]at hg;exact hg
     clear hg
     go_wp2_with (first|(go_at_call 101;refine gm (f5) ?_;intro x))
     go_ret
     exact b5.mk (by rw[HD.out,HF.out,Bool.and_false];rfl)
   ·have HF:=lH (show(l.drop (k+1)).all M8=l.all M8 by have:=HV.out;rw[ehd.out,List.all_cons,hg,Bool.true_and]at this;exact this)
    have c1:inB ex.At 0 1000050=true:=by simp only[M8,Bool.and_eq_true]at hg;exact hg.1
    have c2:inB ex.Data.size 1 404=true:=by simp only[M8,Bool.and_eq_true]at hg;exact hg.2
    clear hg
    go_wp2_with (first|(go_at_call 101;refine gm (f5) ?_;intro x))
    go_roundw
    case rel=>exact⟨k+1,by go_num,by omega,HF,b7.of⟩
    case measure=>simp[intOf];omega
  ·have HF:=lH (show l.all M8=true by have:=HV.out;rw[List.drop_of_length_le (by have:=HN.out;omega)]at this;rw[← this];rfl)
   by_cases hmx:n≤1000
   ·have kx:decide ((n:Int)≤1000)=true:=by simp;omega
    go_wp2_with fail
    go_ret
    exact b5.mk (by rw[HD.out,HF.out,decide_eq_true hmx];rfl)
   ·have kx:decide ((n:Int)≤1000)=false:=by simp;omega
    go_wp2_with fail
    go_ret
    exact b5.mk (by rw[HD.out,HF.out,decide_eq_false hmx];rfl)
theorem bs2{l:List s8}(hs:RdS B w a c l)(hm:l.length≤100000000) :
  Calls Tryz.prog 233 #[.slice a l.length c] w (b5 w (.bool (N8 l))):=by
 obtain⟨n,hn⟩:∃ n,l.length=n:=⟨_,rfl⟩
 have HN:=lH hn
 have HD:=lH (show N8 l=(decide (n≤5000) && l.all s6)by rw[N8,hn])
 rw[hn]at hm ⊢
 clear hn
 go_enter Tryz.func233,Tryz.ntmps233
 go_wp2_with fail
 go_loopw [3] (fun v wr=>∃ k:Nat,v=I k∧k≤n∧Hid ((l.drop k).all s6=l.all s6)∧∃ x:b7 w,wr=x.w) (fun v _=>(n - intOf v).toNat)
 case atStart=>exact⟨0,rfl,by omega,rfl,b7.of⟩
 case round =>
  obtain⟨k,rfl,hk,HV,x,rfl⟩:=hrel
  by_cases h:k<n
  ·have hkl:k<l.length:=by have:=HN.out;omega
   obtain⟨eb,eoff,ex,rfl,ehb,ehd,eok,eh0,eh1,eh2,eh3⟩:=hs.atTRecord hkl
   have hz:ex.Data.size≤9223372036854775807:=eok.2.2.2.1
   have EOK:=lH eok;clear eok hkl
   cases hg:s6 ex
   ·have HF:=lH (show l.all s6=false by have:=HV.out;rw[ehd.out,List.all_cons,hg]at this;rw[← this];rfl)
    go_wp2_with (first|(go_at_call 201;refine gm (X0 om) ?_;intro x))
    go_ret
    exact b5.mk (by rw[HD.out,HF.out,Bool.and_false];rfl)
   ·have HF:=lH (show(l.drop (k+1)).all s6=l.all s6 by have:=HV.out;rw[ehd.out,List.all_cons,hg,Bool.true_and]at this;exact this)
    go_wp2_with (first|(go_at_call 201;refine gm (X0 om) ?_;intro x))
    go_roundw
    case rel=>exact⟨k+1,by go_num,by omega,HF,b7.of⟩
    case measure=>simp[intOf];omega
  ·have HF:=lH (show l.all s6=true by have:=HV.out;rw[List.drop_of_length_le (by have:=HN.out;omega)]at this;rw[← this];rfl)
   by_cases hmx:n≤5000
   ·have kx:decide ((n:Int)≤5000)=true:=by simp;omega
    go_wp2_with fail
    go_ret
    exact b5.mk (by rw[HD.out,HF.out,decide_eq_true hmx];rfl)
   ·have kx:decide ((n:Int)≤5000)=false:=by simp;omega
    go_wp2_with fail
    go_ret
    exact b5.mk (by rw[HD.out,HF.out,decide_eq_false hmx];rfl)
def as0(next n:Int)(k:Nat)(x:V9):Bool:=inB x.Data.size 1 40 && (x.Seq == (next - n+k+256) % 256)
def Z3(next n:Int):Nat→List V9→Bool
 | _,[]=>true
 | k,x::r=>as0 next n k x && Z3 next n (k+1) r
def J3(s:E8):Bool:=inB s.Next 0 255 && (inB s.Window 1 20 && (inB s.Done 0 1000000 && (decide ((s.Waiting.length:Int)≤s.Window) && Z3 s.Next s.Waiting.length 0 s.Waiting)))
theorem bA2{sD:E8}(hs:RdS B w a c sD.Waiting)(hm:sD.Waiting.length≤100000000)(hi:am4 sD) :
  Calls Tryz.prog 259 #[.agg #[I sD.Next,I sD.Window,.slice a sD.Waiting.length c,I sD.Done]] w (b5 w (.bool (J3 sD))):=by
 obtain⟨n,hn⟩:∃ n,sD.Waiting.length=n:=⟨_,rfl⟩
 have HN:=lH hn
 have HI:=lH hi;clear hi
 have HD:=lH (show J3 sD=(inB sD.Next 0 255 && (inB sD.Window 1 20 && (inB sD.Done 0 1000000 && (decide ((n:Int)≤sD.Window) && Z3 sD.Next n 0 sD.Waiting))))by rw[J3,hn])
 rw[hn]at hm ⊢
 clear hn
 cases c0:inB sD.Next 0 255
 ·skip
  go_enter Tryz.func259,Tryz.ntmps259
  go_wp2_with (first|(go_at_call 146;refine gm (d8) ?_;intro x))
  go_ret
  exact b5.mk (by rw[HD.out,c0];rfl)
 cases c1:inB sD.Window 1 20
 ·skip
  go_enter Tryz.func259,Tryz.ntmps259
  go_wp2_with (first|(go_at_call 146;refine gm (d8) ?_;intro x))
  go_ret
  exact b5.mk (by rw[HD.out,c0,c1];rfl)
 cases c2:inB sD.Done 0 1000000
 ·skip
  go_enter Tryz.func259,Tryz.ntmps259
  go_wp2_with (first|(go_at_call 146;refine gm (d8) ?_;intro x))
  go_ret
  exact b5.mk (by rw[HD.out,c0,c1,c2];rfl)
 have⟨hx1,hx2⟩:=D8.1 c0
 have⟨hw1,hw2⟩:=D8.1 c1
 by_cases hnw:(n:Int)≤sD.Window
 ·have kw:decide (sD.Window<(n:Int))=false:=by simp;omega
  have hn20:n≤20:=by omega
  have HD2:=lH (show J3 sD=Z3 sD.Next n 0 sD.Waiting by rw[HD.out,c0,c1,c2,decide_eq_true hnw];rfl)
  clear HD
  go_enter Tryz.func259,Tryz.ntmps259
  go_wp2_with (first|(go_at_call 146;refine gm (d8) ?_;intro x))
  go_loopw [32] (fun v wr=>∃ k:Nat,v=I k∧k≤n∧Hid (Z3 sD.Next n k (sD.Waiting.drop k)=Z3 sD.Next n 0 sD.Waiting)∧∃ X:b7 (w.alloc (.cells #[I sD.Next,I sD.Window,.slice a n c,I sD.Done] 69)),wr=X.w) (fun v _=>(n - intOf v).toNat)
  case atStart=>exact⟨0,rfl,by omega,rfl,b7.of⟩
  case round =>
   obtain⟨k,rfl,hk,HV,X,rfl⟩:=hrel
   by_cases h:k<n
   ·have hkl:k<sD.Waiting.length:=by have:=HN.out;omega
    obtain⟨eb,eoff,ex,rfl,ehb,ehd,eok,eh0,eh1⟩:=hs.atTSent hkl
    have hz:ex.Data.size≤9223372036854775807:=eok.2.1
    have EOK:=lH eok;clear eok hkl
    have EM:(sD.Next - n+k+256) % 256=(sD.Next - n+k) % 256:=Int.add_emod_right ..
    have EH:=lH EM;clear EM
    cases d1:inB ex.Data.size 1 40
    ·have HF:=lH (show J3 sD=false by have:=HV.out;rw[ehd.out,Z3,as0,d1]at this;rw[HD2.out,← this];rfl)
     cases d2:(ex.Seq == (sD.Next - n+k+256) % 256)
     ·have d3:(ex.Seq != (sD.Next - n+k+256) % 256)=true:=by rw[bne,d2];rfl
      go_wp2_with (first|(go_at_call 146;refine gm (d8) ?_;intro x))
      go_ret
      exact b5.mk (by rw[HF.out];rfl)
     ·have d3:(ex.Seq != (sD.Next - n+k+256) % 256)=false:=by rw[bne,d2];rfl
      have D2:=lH d2;clear d2
      go_wp2_with (first|(go_at_call 146;refine gm (d8) ?_;intro x))
      go_ret
      exact b5.mk (by rw[HF.out];rfl)
    ·cases d2:(ex.Seq == (sD.Next - n+k+256) % 256)
     ·have d3:(ex.Seq != (sD.Next - n+k+256) % 256)=true:=by rw[bne,d2];rfl
      have HF:=lH (show J3 sD=false by have:=HV.out;rw[ehd.out,Z3,as0,d1,d2]at this;rw[HD2.out,← this];rfl)
      go_wp2_with (first|(go_at_call 146;refine gm (d8) ?_;intro x))
      go_ret
      exact b5.mk (by rw[HF.out];rfl)
     ·have d3:(ex.Seq != (sD.Next - n+k+256) % 256)=false:=by rw[bne,d2];rfl
      have HF:=lH (show Z3 sD.Next n (k+1) (sD.Waiting.drop (k+1))=Z3 sD.Next n 0 sD.Waiting by have:=HV.out;rw[ehd.out,Z3,as0,d1,d2]at this;exact this)
      have D2:=lH d2;clear d2
      go_wp2_with (first|(go_at_call 146;refine gm (d8) ?_;intro x))
      go_roundw
      case rel=>exact⟨k+1,by go_num,by omega,HF,b7.of⟩
      case measure=>simp[intOf];omega
   ·have HF:=lH (show J3 sD=true by have:=HV.out;rw[List.drop_of_length_le (by have:=HN.out;omega),Z3]at this;rw[HD2.out,← this])
    go_wp2_with fail
    go_ret
    exact b5.mk (by rw[HF.out];rfl)
 ·have kw:decide (sD.Window<(n:Int))=true:=by simp;omega
  have HD2:=lH (show J3 sD=false by rw[HD.out,c0,c1,c2,decide_eq_false hnw];rfl)
  clear HD
  go_enter Tryz.func259,Tryz.ntmps259
  go_wp2_with (first|(go_at_call 146;refine gm (d8) ?_;intro x))
  go_ret
  exact b5.mk (by rw[HD2.out];rfl)
theorem bA6{sD:E8}(hs:RdS B w a c sD.Waiting)(hm:sD.Waiting.length≤100000000)(hi:am4 sD) :
  Calls Tryz.prog 231 #[.agg #[I sD.Next,I sD.Window,.slice a sD.Waiting.length c,I sD.Done]] w (b5 w (.bool (J3 sD))):=by
 obtain⟨n,hn⟩:∃ n,sD.Waiting.length=n:=⟨_,rfl⟩
 have HN:=lH hn
 have HI:=lH hi;clear hi
 have HD:=lH (show J3 sD=(inB sD.Next 0 255 && (inB sD.Window 1 20 && (inB sD.Done 0 1000000 && (decide ((n:Int)≤sD.Window) && Z3 sD.Next n 0 sD.Waiting))))by rw[J3,hn])
 rw[hn]at hm ⊢
 clear hn
 cases c0:inB sD.Next 0 255
 ·skip
  go_enter Tryz.func231,Tryz.ntmps231
  go_wp2_with (first|(go_at_call 101;refine gm (f5) ?_;intro x))
  go_ret
  exact b5.mk (by rw[HD.out,c0];rfl)
 cases c1:inB sD.Window 1 20
 ·skip
  go_enter Tryz.func231,Tryz.ntmps231
  go_wp2_with (first|(go_at_call 101;refine gm (f5) ?_;intro x))
  go_ret
  exact b5.mk (by rw[HD.out,c0,c1];rfl)
 cases c2:inB sD.Done 0 1000000
 ·skip
  go_enter Tryz.func231,Tryz.ntmps231
  go_wp2_with (first|(go_at_call 101;refine gm (f5) ?_;intro x))
  go_ret
  exact b5.mk (by rw[HD.out,c0,c1,c2];rfl)
 have⟨hx1,hx2⟩:=D8.1 c0
 have⟨hw1,hw2⟩:=D8.1 c1
 by_cases hnw:(n:Int)≤sD.Window
 ·have kw:decide (sD.Window<(n:Int))=false:=by simp;omega
  have hn20:n≤20:=by omega
  have HD2:=lH (show J3 sD=Z3 sD.Next n 0 sD.Waiting by rw[HD.out,c0,c1,c2,decide_eq_true hnw];rfl)
  clear HD
  go_enter Tryz.func231,Tryz.ntmps231
  go_wp2_with (first|(go_at_call 101;refine gm (f5) ?_;intro x))
  go_loopw [4] (fun v wr=>∃ k:Nat,v=I k∧k≤n∧Hid (Z3 sD.Next n k (sD.Waiting.drop k)=Z3 sD.Next n 0 sD.Waiting)∧∃ X:b7 (w.alloc (.cells #[I sD.Next,I sD.Window,.slice a n c,I sD.Done] 69)),wr=X.w) (fun v _=>(n - intOf v).toNat)
  case atStart=>exact⟨0,rfl,by omega,rfl,b7.of⟩
  case round =>
   obtain⟨k,rfl,hk,HV,X,rfl⟩:=hrel
   by_cases h:k<n
   ·have hkl:k<sD.Waiting.length:=by have:=HN.out;omega
    obtain⟨eb,eoff,ex,rfl,ehb,ehd,eok,eh0,eh1⟩:=hs.atTSent hkl
    have hz:ex.Data.size≤9223372036854775807:=eok.2.1
    have EOK:=lH eok;clear eok hkl
    have EM:(sD.Next - n+k+256) % 256=(sD.Next - n+k) % 256:=Int.add_emod_right ..
    have EH:=lH EM;clear EM
    cases d1:inB ex.Data.size 1 40
    ·have HF:=lH (show J3 sD=false by have:=HV.out;rw[ehd.out,Z3,as0,d1]at this;rw[HD2.out,← this];rfl)
     cases d2:(ex.Seq == (sD.Next - n+k) % 256)
     ·have d3:(ex.Seq != (sD.Next - n+k) % 256)=true:=by rw[bne,d2];rfl
      go_wp2_with (first|(go_at_call 101;refine gm (f5) ?_;intro x))
      go_ret
      exact b5.mk (by rw[HF.out];rfl)
     ·have d3:(ex.Seq != (sD.Next - n+k) % 256)=false:=by rw[bne,d2];rfl
      have D2:=lH d2;clear d2
      go_wp2_with (first|(go_at_call 101;refine gm (f5) ?_;intro x))
      go_ret
      exact b5.mk (by rw[HF.out];rfl)
    ·cases d2:(ex.Seq == (sD.Next - n+k) % 256)
     ·have d3:(ex.Seq != (sD.Next - n+k) % 256)=true:=by rw[bne,d2];rfl
      have HF:=lH (show J3 sD=false by have:=HV.out;rw[ehd.out,Z3,as0,EH.out,d1,d2]at this;rw[HD2.out,← this];rfl)
      go_wp2_with (first|(go_at_call 101;refine gm (f5) ?_;intro x))
      go_ret
      exact b5.mk (by rw[HF.out];rfl)
     ·have d3:(ex.Seq != (sD.Next - n+k) % 256)=false:=by rw[bne,d2];rfl
      have HF:=lH (show Z3 sD.Next n (k+1) (sD.Waiting.drop (k+1))=Z3 sD.Next n 0 sD.Waiting by have:=HV.out;rw[ehd.out,Z3,as0,EH.out,d1,d2]at this;exact this)
      have D2:=lH d2;clear d2
      go_wp2_with (first|(go_at_call 101;refine gm (f5) ?_;intro x))
      go_roundw
      case rel=>exact⟨k+1,by go_num,by omega,HF,b7.of⟩
      case measure=>simp[intOf];omega
   ·have HF:=lH (show J3 sD=true by have:=HV.out;rw[List.drop_of_length_le (by have:=HN.out;omega),Z3]at this;rw[HD2.out,← this])
    go_wp2_with fail
    go_ret
    exact b5.mk (by rw[HF.out];rfl)
 ·have kw:decide (sD.Window<(n:Int))=true:=by simp;omega
  have HD2:=lH (show J3 sD=false by rw[HD.out,c0,c1,c2,decide_eq_false hnw];rfl)
  clear HD
  go_enter Tryz.func231,Tryz.ntmps231
  go_wp2_with (first|(go_at_call 101;refine gm (f5) ?_;intro x))
  go_ret
  exact b5.mk (by rw[HD2.out];rfl)
def J2{α:Type}(good:α→Bool)(key:α→Int):Option α→List α→Bool
 | _,[]=>true
 | none,s::r=>good s && J2 good key (some s) r
 | some q,s::r=>good s && (decide (key q<key s) && J2 good key (some s) r)
def N5{α:Type}(l:List α)(k:Nat):Option α:=if k=0 then none else l[k - 1]?
theorem R2{α:Type}{l r:List α}{k:Nat}{s:α}(h:l.drop k=s::r):N5 l (k+1)=some s:=by
 have h0:(l.drop k)[0]?=some s:=by rw[h];rfl
 rw[List.getElem?_drop]at h0
 simpa[N5]using h0
def N0(n:Nat)(s:Int):Bool:=inB s 0 (n - 1)
def aj7(p:Q8):Bool:=inB p.Channel 0 2 && (inB p.Count 0 255 && (decide ((p.Rest.size:Int)≤5000) && J2 (N0 p.Rest.size) (fun s=>s) none p.Starts))
theorem bA1{p:Q8}(hs:RdS B w a c p.Starts)(hm:p.Starts.length≤100000000)(hz:p.Rest.size≤100000000) :
  Calls Tryz.prog 217 #[.agg #[I p.Channel,I p.Count,.string p.Rest,.slice a p.Starts.length c]] w (b5 w (.bool (aj7 p))):=by
 obtain⟨n,hn⟩:∃ n,p.Starts.length=n:=⟨_,rfl⟩
 have HN:=lH hn
 have HD:=lH (show aj7 p=(inB p.Channel 0 2 && (inB p.Count 0 255 && (decide ((p.Rest.size:Int)≤5000) && J2 (N0 p.Rest.size) (fun s=>s) none p.Starts)))from rfl)
 rw[hn]at hm ⊢
 clear hn
 have hz9:p.Rest.size≤9223372036854775807:=by omega
 cases c0:inB p.Channel 0 2
 ·go_enter Tryz.func217,Tryz.ntmps217
  go_wp2_with (first|(go_at_call 146;refine gm (d8) ?_;intro x))
  go_ret
  exact b5.mk (by rw[HD.out,c0];rfl)
 cases c1:inB p.Count 0 255
 ·go_enter Tryz.func217,Tryz.ntmps217
  go_wp2_with (first|(go_at_call 146;refine gm (d8) ?_;intro x))
  go_ret
  exact b5.mk (by rw[HD.out,c0,c1];rfl)
 by_cases hr:p.Rest.size≤5000
 ·have kr:decide (5000<(p.Rest.size:Int))=false:=by simp;omega
  have hd3:decide ((p.Rest.size:Int)≤5000)=true:=by simp;omega
  have HD2:=lH hd3;clear hd3
  have HC:=lH (And.intro c0 c1)
  go_enter Tryz.func217,Tryz.ntmps217
  go_wp2_with (first|(go_at_call 146;refine gm (d8) ?_;intro x))
  clear c0 c1
  go_loopw [24] (fun v wr=>∃ k:Nat,v=I k∧k≤n∧Hid (J2 (N0 p.Rest.size) (fun s=>s) (N5 p.Starts k) (p.Starts.drop k)=J2 (N0 p.Rest.size) (fun s=>s) none p.Starts)∧∃ X:b7 (w.alloc (.cells #[I p.Channel,I p.Count,.string p.Rest,.slice a n c] 85)),wr=X.w) (fun v _=>(n - intOf v).toNat)
  case atStart=>exact⟨0,rfl,by omega,rfl,b7.of⟩
  case round =>
   obtain⟨k,rfl,hk,HV,X,rfl⟩:=hrel
   by_cases h:k<n
   ·have hkl:k<p.Starts.length:=by have:=HN.out;omega
    obtain⟨eb,eoff,es,rfl,ehb,ehd,eok,eh0⟩:=hs.atInt hkl
    have EOK:=lH eok;clear eok hkl
    cases d1:inB es 0 (p.Rest.size - 1)
    ·have HF:=lH (show J2 (N0 p.Rest.size) (fun s=>s) none p.Starts=false by have:=HV.out;rw[ehd.out]at this;rw[← this];cases N5 p.Starts k<;>simp[J2,N0,d1])
     go_wp2_with (first|(go_at_call 146;refine gm (d8) ?_;intro x))
     go_ret
     exact b5.mk (by rw[HD.out,HF.out];simp)
    ·by_cases hz0:k=0
     ·have HF:=lH (show J2 (N0 p.Rest.size) (fun s=>s) (N5 p.Starts (k+1)) (p.Starts.drop (k+1))=J2 (N0 p.Rest.size) (fun s=>s) none p.Starts by have:=HV.out;rw[ehd.out,hz0]at this;rw[R2 ehd.out,← this];simp[J2,N5,N0,d1,hz0])
      have hz':decide (0<(k:Int))=false:=by simp;omega
      have hz2:decide (0<k)=false:=by simp;omega
      clear hz0
      go_wp2_with (first|(go_at_call 146;refine gm (d8) ?_;intro x))
      go_roundw
      case rel=>exact⟨k+1,by go_num,by omega,HF,b7.of⟩
      case measure=>simp[intOf];omega
     ·obtain⟨fb,foff,fs,hbo,fhb,fhd,fok,fh0⟩:=hs.atInt (show k - 1<p.Starts.length by have:=HN.out;omega)
      simp only[Option.some.injEq,Addr.mk.injEq,and_true]at hbo
      obtain⟨rfl,rfl⟩:=hbo
      have FOK:=lH fok;clear fok
      have hz':decide (0<(k:Int))=true:=by simp;omega
      have hz2:decide (0<k)=true:=by simp;omega
      have hp:N5 p.Starts k=some fs:=by have:=R2 fhd.out;rwa[show k - 1+1=k from by omega]at this
      have HP:=lH hp;clear hp
      cases d2:decide (es≤fs)
      ·have HF:=lH (show J2 (N0 p.Rest.size) (fun s=>s) (N5 p.Starts (k+1)) (p.Starts.drop (k+1))=J2 (N0 p.Rest.size) (fun s=>s) none p.Starts by have:=HV.out;rw[ehd.out,HP.out]at this;rw[R2 ehd.out,← this];have h2:decide (fs<es)=true:=(by simp at d2 ⊢;omega);simp only[J2,N0,d1,h2,Bool.true_and])
       go_wp2_with (first|(go_at_call 146;refine gm (d8) ?_;intro x))
       go_roundw
       case rel=>exact⟨k+1,by go_num,by omega,HF,b7.of⟩
       case measure=>simp[intOf];omega
      ·have HF:=lH (show J2 (N0 p.Rest.size) (fun s=>s) none p.Starts=false by have:=HV.out;rw[ehd.out,HP.out]at this;rw[← this];have h2:decide (fs<es)=false:=(by simp at d2 ⊢;omega);simp only[J2,N0,d1,h2,Bool.true_and,Bool.false_and])
       go_wp2_with (first|(go_at_call 146;refine gm (d8) ?_;intro x))
       go_ret
       exact b5.mk (by rw[HD.out,HF.out];simp)
   ·have HF:=lH (show J2 (N0 p.Rest.size) (fun s=>s) none p.Starts=true by have:=HV.out;rw[List.drop_of_length_le (by have:=HN.out;omega)]at this;rw[← this];cases N5 p.Starts k<;>rfl)
    go_wp2_with fail
    go_ret
    exact b5.mk (by rw[HD.out,HF.out,HD2.out,HC.out.1,HC.out.2];rfl)
 ·have kr:decide (5000<(p.Rest.size:Int))=true:=by simp;omega
  have hd3:decide ((p.Rest.size:Int)≤5000)=false:=by simp;omega
  have HD2:=lH hd3;clear hd3
  go_enter Tryz.func217,Tryz.ntmps217
  go_wp2_with (first|(go_at_call 146;refine gm (d8) ?_;intro x))
  go_ret
  exact b5.mk (by rw[HD.out,HD2.out];simp)
theorem bA4{p:Q8}(hs:RdS B w a c p.Starts)(hm:p.Starts.length≤100000000)(hz:p.Rest.size≤100000000) :
  Calls Tryz.prog 204 #[.agg #[I p.Channel,I p.Count,.string p.Rest,.slice a p.Starts.length c]] w (b5 w (.bool (aj7 p))):=by
 obtain⟨n,hn⟩:∃ n,p.Starts.length=n:=⟨_,rfl⟩
 have HN:=lH hn
 have HD:=lH (show aj7 p=(inB p.Channel 0 2 && (inB p.Count 0 255 && (decide ((p.Rest.size:Int)≤5000) && J2 (N0 p.Rest.size) (fun s=>s) none p.Starts)))from rfl)
 rw[hn]at hm ⊢
 clear hn
 have hz9:p.Rest.size≤9223372036854775807:=by omega
 go_enter Tryz.func204,Tryz.ntmps204
 go_wp2_with fail
 go_loopw [3] (fun v wr=>∃ k:Nat,v=I k∧k≤n∧Hid (J2 (N0 p.Rest.size) (fun s=>s) (N5 p.Starts k) (p.Starts.drop k)=J2 (N0 p.Rest.size) (fun s=>s) none p.Starts)∧∃ X:b7 (w.alloc (.cells #[I p.Channel,I p.Count,.string p.Rest,.slice a n c] 85)),wr=X.w) (fun v _=>(n - intOf v).toNat)
 case atStart=>exact⟨0,rfl,by omega,rfl,b7.of⟩
 case round =>
  obtain⟨k,rfl,hk,HV,X,rfl⟩:=hrel
  by_cases h:k<n
  ·have hkl:k<p.Starts.length:=by have:=HN.out;omega
   obtain⟨eb,eoff,es,rfl,ehb,ehd,eok,eh0⟩:=hs.atInt hkl
   have EOK:=lH eok;clear eok hkl
   cases d1:inB es 0 (p.Rest.size - 1)
   ·have HF:=lH (show J2 (N0 p.Rest.size) (fun s=>s) none p.Starts=false by have:=HV.out;rw[ehd.out]at this;rw[← this];cases N5 p.Starts k<;>simp[J2,N0,d1])
    go_wp2_with (first|((with_reducible refine rl ?_);(repeat(first|go_big_quiet_step (first|(go_at_call 101;exact b5.quiet (f5)))|simp only[d1]));refine wpQuiet_nil ?_;intro x)|(go_at_call 101;refine gm (f5) ?_;intro x))
    go_ret
    exact b5.mk (by rw[HD.out,HF.out];simp)
   ·by_cases hz0:k=0
    ·have HF:=lH (show J2 (N0 p.Rest.size) (fun s=>s) (N5 p.Starts (k+1)) (p.Starts.drop (k+1))=J2 (N0 p.Rest.size) (fun s=>s) none p.Starts by have:=HV.out;rw[ehd.out,hz0]at this;rw[R2 ehd.out,← this];simp[J2,N5,N0,d1,hz0])
     have hz':decide (0<(k:Int))=false:=by simp;omega
     have hz2:decide (0<k)=false:=by simp;omega
     clear hz0
     go_wp2_with (first|((with_reducible refine rl ?_);(repeat(first|go_big_quiet_step (first|(go_at_call 101;exact b5.quiet (f5)))|simp only[d1]|simp only[hz']|simp only[hz2]));refine wpQuiet_nil ?_;intro x)|(go_at_call 101;refine gm (f5) ?_;intro x))
     go_roundw
     case rel=>exact⟨k+1,by go_num,by omega,HF,b7.of⟩
     case measure=>simp[intOf];omega
    ·obtain⟨fb,foff,fs,hbo,fhb,fhd,fok,fh0⟩:=hs.atInt (show k - 1<p.Starts.length by have:=HN.out;omega)
     simp only[Option.some.injEq,Addr.mk.injEq,and_true]at hbo
     obtain⟨rfl,rfl⟩:=hbo
     have FOK:=lH fok;clear fok
     have hz':decide (0<(k:Int))=true:=by simp;omega
     have hz2:decide (0<k)=true:=by simp;omega
     have hp:N5 p.Starts k=some fs:=by have:=R2 fhd.out;rwa[show k - 1+1=k from by omega]at this
     have HP:=lH hp;clear hp
     cases d2:decide (es≤fs)
     ·have HF:=lH (show J2 (N0 p.Rest.size) (fun s=>s) (N5 p.Starts (k+1)) (p.Starts.drop (k+1))=J2 (N0 p.Rest.size) (fun s=>s) none p.Starts by have:=HV.out;rw[ehd.out,HP.out]at this;rw[R2 ehd.out,← this];have h2:decide (fs<es)=true:=(by simp at d2 ⊢;omega);simp only[J2,N0,d1,h2,Bool.true_and])
      go_wp2_with (first|((with_reducible refine rl ?_);(repeat(first|go_big_quiet_step (first|(go_at_call 101;exact b5.quiet (f5)))|simp only[d1]|simp only[d2]|simp only[hz']|simp only[hz2]));refine wpQuiet_nil ?_;intro x)|(go_at_call 101;refine gm (f5) ?_;intro x))
      go_roundw
      case rel=>exact⟨k+1,by go_num,by omega,HF,b7.of⟩
      case measure=>simp[intOf];omega
     ·have HF:=lH (show J2 (N0 p.Rest.size) (fun s=>s) none p.Starts=false by have:=HV.out;rw[ehd.out,HP.out]at this;rw[← this];have h2:decide (fs<es)=false:=(by simp at d2 ⊢;omega);simp only[J2,N0,d1,h2,Bool.true_and,Bool.false_and])
      go_wp2_with (first|((with_reducible refine rl ?_);(repeat(first|go_big_quiet_step (first|(go_at_call 101;exact b5.quiet (f5)))|simp only[d1]|simp only[d2]|simp only[hz']|simp only[hz2]));refine wpQuiet_nil ?_;intro x)|(go_at_call 101;refine gm (f5) ?_;intro x))
      go_ret
      exact b5.mk (by rw[HD.out,HF.out];simp)
  ·have HF:=lH (show J2 (N0 p.Rest.size) (fun s=>s) none p.Starts=true by have:=HV.out;rw[List.drop_of_length_le (by have:=HN.out;omega)]at this;rw[← this];cases N5 p.Starts k<;>rfl)
   cases c0:inB p.Channel 0 2
   ·go_wp2_with (first|(go_at_call 101;refine gm (f5) ?_;intro x))
    go_ret
    exact b5.mk (by rw[HD.out,c0];rfl)
   cases c1:inB p.Count 0 255
   ·go_wp2_with (first|(go_at_call 101;refine gm (f5) ?_;intro x))
    go_ret
    exact b5.mk (by rw[HD.out,c0,c1];rfl)
   cases kr:decide ((p.Rest.size:Int)≤5000)
   ·go_wp2_with (first|(go_at_call 101;refine gm (f5) ?_;intro x))
    go_ret
    exact b5.mk (by rw[HD.out,c0,c1,kr];rfl)
   ·go_wp2_with (first|(go_at_call 101;refine gm (f5) ?_;intro x))
    go_ret
    exact b5.mk (by rw[HD.out,c0,c1,kr,HF.out];rfl)
theorem Own.rdS{α:Type}[E:Enc α]{enc:α→List Value}{T size B:Nat}{w:World}{a:Option Addr}{c:Nat}{l:List α}(h:Own enc T size B w a c l)(hs:E.size=size)(hR:∀ x∈l,E.Rd B w (enc x) x):RdS B w a c l:=by
 have hsl:=h.sl
 obtain⟨hsz,-,⟨hv,hn0⟩|⟨g,cap,cur,hv,hB,hheap,hle,hmax,-⟩⟩:=h
 ·simp only[Value.slice.injEq]at hv
  obtain⟨rfl,-,rfl⟩:=hv
  have:l=[]:=List.length_eq_zero_iff.1 hn0
  subst this
  exact RdS.nil
 ·simp only[Value.slice.injEq,true_and]at hv
  obtain⟨rfl,rfl⟩:=hv
  refine⟨hle,hmax,(fun e=>by cases e),fun i x hx=>?_⟩
  obtain⟨b,off,hb,hlt,hc⟩:=hsl i x hx
  simp only[Option.some.injEq,Addr.mk.injEq]at hb
  obtain⟨rfl,rfl,-⟩:=hb
  refine⟨g,0,enc x,rfl,hB,hlt,hR x (List.mem_of_getElem? hx),fun j u hu=>?_⟩
  have:=hc j u hu
  rw[hsz]at this
  rw[hs];exact this
class D7(α:Type) extends Enc α where
 enc:α→List Value
 ty:Nat
 good:α→Prop
 encLen:∀ x,(enc x).length=size
 one:∀ x,∀ u∈enc x,u.oneCell'=true
 rd:∀ {B w x},good x→Rd B w (enc x) x
 inv:∀ {B w vs x},Rd B w vs x→vs=enc x∧good x
abbrev Col:=Nat × Nat
def E9(a:Option Addr):Option Nat:=a.map (·.block)
theorem I6(a:Option Addr)(n c:Nat):Value.ownBlock (.slice a n c)=E9 a:=by cases a<;>rfl
theorem Own.blk{α:Type}{enc:α→List Value}{T size B:Nat}{w:World}{a:Option Addr}{c:Nat}{l:List α}(h:Own enc T size B w a c l):∀ k,E9 a=some k→B≤k∧k<w.heap.size:=fun k hk=>h.2.lt k (by rw[I6];exact hk)
theorem Own.same{α:Type}{enc:α→List Value}{T size B:Nat}{w w':World}{a:Option Addr}{c:Nat}{l:List α}(h:Own enc T size B w a c l)(hk:∀ k,E9 a=some k→B≤k→k<w.heap.size→w'.heap[k]?=w.heap[k]?):Own enc T size B w' a c l:=by
 obtain⟨h0,h1,h2|⟨g,cap,cur,hv,hg,hh,r⟩⟩:=h
 ·exact⟨h0,h1,.inl h2⟩
 ·refine⟨h0,h1,.inr ⟨g,cap,cur,hv,hg,?_,r⟩⟩
  simp only[Value.slice.injEq]at hv
  rw[hk g (by rw[hv.1];rfl) hg (Array.getElem?_eq_some_iff.1 hh).1];exact hh
structure B6{α:Type}[E:D7 α](B:Nat)(χ:Nat→Col)(i:Col)(w:World)(a:Option Addr)(c:Nat)(l:List α):Prop where
 own:Own E.enc E.ty E.size B w a c l
 col:∀ k,E9 a=some k→χ k=i
 good:∀ x∈l,E.good x
structure Fr(B:Nat)(χ:Nat→Col)(C:Col→Prop)(w w':World):Prop where
 os:w'.os=w.os
 tape:w'.tape=w.tape
 output:w'.output=w.output
 size:w.heap.size≤w'.heap.size
 block:∀ b,b<w.heap.size→¬ (B≤b∧C (χ b))→w'.heap[b]?=w.heap[b]?
def I7(U:Nat)(χ χ2:Nat→Col)(f:Col→Col):Nat→Col:=fun b=>if b<U then χ b else f (χ2 b)
section
variable {α:Type} [E:D7 α] {B:Nat} {χ χ2:Nat→Col} {i:Col} {w w':World} {a:Option Addr} {c:Nat} {l:List α} {C:Col→Prop}
theorem B6.rd(h:B6 B χ i w a c l):RdS B w a c l:=h.own.rdS rfl (fun x hx=>E.rd (h.good x hx))
theorem B6.fr(h:B6 B χ i w a c l)(f:Fr B χ C w w')(hi:¬ C i):B6 B χ i w' a c l :=
 ⟨h.own.same (fun k hk h1 h2=>f.block k h2 (fun e=>by rw[h.col k hk]at e;exact hi e.2)),h.col,h.good⟩
theorem B6.to(h:B6 B χ i w a c l)(g:b8 w w'):B6 B χ i w' a c l:=⟨h.own.to g,h.col,h.good⟩
theorem B6.keep(h:B6 B χ i w a c l)(g:d7 B w w'):B6 B χ i w' a c l:=⟨h.own.same (fun k _ h1 h2=>g.block k h1 h2),h.col,h.good⟩
theorem B6.mono{B':Nat}(h:B6 B χ i w a c l)(hB:B'≤B):B6 B' χ i w a c l:=⟨h.own.mono hB,h.col,h.good⟩
theorem B6.recol{χ':Nat→Col}{i':Col}(h:B6 B χ i w a c l)(hc:∀ k,B≤k→k<w.heap.size→χ k=i→χ' k=i'):B6 B χ' i' w a c l :=
 ⟨h.own,fun k hk=>hc k (h.own.blk k hk).1 (h.own.blk k hk).2 (h.col k hk),h.good⟩
theorem B6.old{f:Col→Col}{U:Nat}(h:B6 B χ i w a c l)(hU:w.heap.size≤U):B6 B (I7 U χ χ2 f) i w a c l :=
 h.recol fun k _ h2 h3=>by rw[I7,if_pos om];exact h3
theorem B6.new{f:Col→Col}{U:Nat}(h:B6 B χ2 i w a c l)(hU:U≤B):B6 B (I7 U χ χ2 f) (f i) w a c l :=
 h.recol fun k h1 _ h3=>by rw[I7,if_neg om,h3]
theorem B6.of(h:Own E.enc E.ty E.size B w a c l)(hg:∀ x∈l,E.good x)(i:Col):B6 B (fun _=>i) i w a c l:=⟨h,fun _ _=>rfl,hg⟩
theorem Fr.refl(B:Nat)(χ:Nat→Col)(C:Col→Prop)(w:World):Fr B χ C w w:=⟨rfl,rfl,rfl,Nat.le_refl _,fun _ _ _=>rfl⟩
theorem Fr.grows(B:Nat)(χ:Nat→Col)(C:Col→Prop)(w w':World)[g:b8 w w']:Fr B χ C w w':=⟨g.out.os,g.out.tape,g.out.output,g.out.size,fun b h _=>g.out.block b h⟩
theorem Fr.trans{w1:World}(h:Fr B χ C w w1)(k:Fr B χ C w1 w'):Fr B χ C w w':=⟨k.os.trans h.os,k.tape.trans h.tape,k.output.trans h.output,Nat.le_trans h.size k.size,fun b h2 h3=>(k.block b (Nat.lt_of_lt_of_le h2 h.size) h3).trans (h.block b h2 h3)⟩
theorem Fr.wide{C':Col→Prop}(h:Fr B χ C w w')(hC:∀ i,C i→C' i):Fr B χ C' w w':=⟨h.os,h.tape,h.output,h.size,fun b h2 h3=>h.block b h2 (fun k=>h3 ⟨k.1,hC _ k.2⟩)⟩
theorem Fr.below{u:World}(h:Fr B χ C w w')(g:b8 u w)(hB:u.heap.size≤B):b8 u w':=⟨⟨h.os.trans g.out.os,h.tape.trans g.out.tape,h.output.trans g.out.output,Nat.le_trans g.out.size h.size,fun b hb=>(h.block b (Nat.lt_of_lt_of_le hb g.out.size) (fun e=>by omega)).trans (g.out.block b hb)⟩⟩
theorem B6.wrote{n c2:Nat}(h:B6 B χ i w a c l)(g:w.grownBy w' (Value.ownBlock (.slice a n c2))):Fr B χ (·=i) w w' :=
 ⟨g.os,g.tape,g.output,g.size,fun b h2 h3=>g.block b h2 (by rw[I6];exact fun e=>h3 ⟨(h.own.blk b e.symm).1,h.col b e.symm⟩)⟩
end
def U5{α:Type}[E:D7 α](w:World)(l:List α):Ending→World→Prop:=fun e w'=>∃ a c,e=.returned (.slice a l.length c)∧B6 w.heap.size (fun _=>(0,0)) (0,0) w' a c l∧∃ y:b7 w,w'=y.w
/-! ### Elements that hold a slice each -/
class ap4(α:Type)(β:outParam Type) extends Enc α where
 cells:α→Option Addr→Nat→List Value
 inner:α→List β
 ty:Nat
 good:α→Prop
 cellsLen:∀ x a c,(cells x a c).length=size
 one:∀ x a c,∀ u∈cells x a c,u.oneCell'=true
structure N2(α:Type) where
 x:α
 a:Option Addr
 c:Nat
def aa0{α β:Type}[N:ap4 α β](r:N2 α):List Value:=N.cells r.x r.a r.c
theorem ae1{α β:Type}[N:ap4 α β](r:N2 α):(aa0 r).length=N.size:=N.cellsLen _ _ _
structure M3{α β:Type}[N:ap4 α β][F:D7 β](B:Nat)(χ:Nat→Col)(o:Nat)(w:World)(a:Option Addr)(c:Nat)(rows:List (N2 α)):Prop where
 own:Own (aa0 (α:=α)) N.ty N.size B w a c rows
 col:∀ k,E9 a=some k→χ k=(o,0)
 each:∀ k r,rows[k]?=some r→N.good r.x∧B6 B χ (o,k+1) w r.a r.c (N.inner r.x)
class ba4(α:Type){β:Type}[N:ap4 α β][F:D7 β]:Prop where
 rd:∀ {B w x a c},N.good x→RdS B w a c (N.inner x)→N.Rd B w (N.cells x a c) x
section
variable {α β:Type} [N:ap4 α β] [F:D7 β] {B:Nat} {χ χ2:Nat→Col} {o:Nat} {w w':World} {a:Option Addr} {c:Nat} {rows:List (N2 α)} {C:Col→Prop}
theorem M3.fr(h:M3 B χ o w a c rows)(f:Fr B χ C w w')(hi:∀ k,¬ C (o,k)):M3 B χ o w' a c rows :=
 ⟨h.own.same (fun k hk h1 h2=>f.block k h2 (fun e=>by rw[h.col k hk]at e;exact hi 0 e.2)),h.col,fun k r hr=>⟨(h.each k r hr).1,(h.each k r hr).2.fr f (hi _)⟩⟩
theorem M3.to(h:M3 B χ o w a c rows)(g:b8 w w'):M3 B χ o w' a c rows:=⟨h.own.to g,h.col,fun k r hr=>⟨(h.each k r hr).1,(h.each k r hr).2.to g⟩⟩
theorem M3.keep(h:M3 B χ o w a c rows)(g:d7 B w w'):M3 B χ o w' a c rows:=⟨h.own.same (fun k _ h1 h2=>g.block k h1 h2),h.col,fun k r hr=>⟨(h.each k r hr).1,(h.each k r hr).2.keep g⟩⟩
theorem M3.mono{B':Nat}(h:M3 B χ o w a c rows)(hB:B'≤B):M3 B' χ o w a c rows:=⟨h.own.mono hB,h.col,fun k r hr=>⟨(h.each k r hr).1,(h.each k r hr).2.mono hB⟩⟩
theorem M3.recol{χ':Nat→Col}{o':Nat}(h:M3 B χ o w a c rows)(hc:∀ k j,B≤k→k<w.heap.size→χ k=(o,j)→χ' k=(o',j)):M3 B χ' o' w a c rows :=
 ⟨h.own,fun k hk=>hc k 0 (h.own.blk k hk).1 (h.own.blk k hk).2 (h.col k hk),fun k r hr=>⟨(h.each k r hr).1,(h.each k r hr).2.recol (fun b h1 h2 h3=>hc b _ h1 h2 h3)⟩⟩
theorem M3.old{f:Col→Col}{U:Nat}(h:M3 B χ o w a c rows)(hU:w.heap.size≤U):M3 B (I7 U χ χ2 f) o w a c rows :=
 h.recol fun k _ _ h2 h3=>by rw[I7,if_pos om];exact h3
theorem M3.new{f:Col→Col}{U o':Nat}(h:M3 B χ2 o w a c rows)(hU:U≤B)(hf:∀ j,f (o,j)=(o',j)):M3 B (I7 U χ χ2 f) o' w a c rows :=
 h.recol fun k j h1 _ h3=>by rw[I7,if_neg om,h3,hf]
theorem M3.rd[R:ba4 α](h:M3 B χ o w a c rows):RdS B w a c (rows.map (·.x)):=by
 have hsl:=h.own.sl
 have hE:=h.each
 obtain⟨hsz,-,⟨hv,hn0⟩|⟨g,cap,cur,hv,hB,hheap,hle,hmax,-⟩⟩:=h.own
 ·simp only[Value.slice.injEq]at hv
  obtain⟨rfl,-,rfl⟩:=hv
  have:rows=[]:=List.length_eq_zero_iff.1 hn0
  subst this
  exact RdS.nil
 ·simp only[Value.slice.injEq,true_and]at hv
  obtain⟨rfl,rfl⟩:=hv
  refine⟨by rw[List.length_map];exact hle,hmax,(fun e=>by cases e),fun i x hx=>?_⟩
  rw[List.getElem?_map]at hx
  obtain⟨r,hr,rfl⟩:=Option.map_eq_some_iff.1 hx
  obtain⟨b,off,hb,hlt,hc⟩:=hsl i r hr
  simp only[Option.some.injEq,Addr.mk.injEq]at hb
  obtain⟨rfl,rfl,-⟩:=hb
  refine⟨g,0,aa0 r,rfl,hB,hlt,R.rd (hE i r hr).1 (hE i r hr).2.rd,fun j u hu=>?_⟩
  have:=hc j u hu
  rw[hsz]at this
  exact this
end
/-! ### One time: who gets it, and when is the next one wanted -/
/-! ### One step -/
section
variable (f:Nat→Nat→Nat × Int)
def bQ3(m k n:Nat):List (Nat × Int):=(List.range' k n).map (f m)
def aV5(m n:Nat):List (Nat × Int):=(List.range' m n).flatMap fun m=>bQ3 f m 0 8
def bO1(k m n:Nat):List (Nat × Int):=(List.range' m n).map fun m=>f m k
def bc1(N k n:Nat):List (Nat × Int):=(List.range' k n).flatMap fun k=>bO1 f k 0 N
theorem bK5(N:Nat):(aV5 f 0 N).Perm (bc1 f N 0 8):=aN2 f (List.range' 0 N) (List.range' 0 8)
theorem bK6{m:Nat}(h:m<n):aV5 f m (n - m)=bQ3 f m 0 8++aV5 f (m+1) (n - (m+1)):=by
 rw[aV5,show n - m=n - (m+1)+1 by omega,List.range'_succ,List.flatMap_cons];rfl
theorem bQ4(m:Nat){k:Nat}(h:k<8):bQ3 f m k (8 - k)=f m k::bQ3 f m (k+1) (8 - (k+1)):=by
 rw[bQ3,show 8 - k=8 - (k+1)+1 by omega,List.range'_succ,List.map_cons];rfl
theorem bF7(N:Nat){k:Nat}(h:k<8):bc1 f N k (8 - k)=bO1 f k 0 N++bc1 f N (k+1) (8 - (k+1)):=by
 rw[bc1,show 8 - k=8 - (k+1)+1 by omega,List.range'_succ,List.flatMap_cons];rfl
theorem bO2(k:Nat){m:Nat}(h:m<n):bO1 f k m (n - m)=f m k::bO1 f k (m+1) (n - (m+1)):=by
 rw[bO1,show n - m=n - (m+1)+1 by omega,List.range'_succ,List.map_cons];rfl
end
def aH3(l:List Int)(m k:Nat):Nat × Int:=(m,IntKind.u8.wrap (l.getD ((k*l.length+m) / 8) 0 / 2 ^ ((k*l.length+m) % 8) % 2*2 ^ k))
@[irreducible] def ao1(l:List Int):List Int:=(aV5 (aH3 l) 0 l.length).foldl (up1 orU) (List.replicate l.length 0)
theorem aC8(l:List Int):(aV5 (aH3 l) 0 l.length).foldl (up1 orU) (List.replicate l.length 0)=ao1 l:=by unfold ao1;rfl
theorem bz9(l:List Int):(bc1 (aH3 l) l.length 0 8).foldl (up1 orU) (List.replicate l.length 0)=ao1 l:=by
 rw[← aC8,bQ5 bT1 (bK5 (aH3 l) l.length)]
theorem bI5(l:List Int):(ao1 l).length=l.length:=by rw[← aC8,bN6];simp
def bR5(n w:Int):Int:=av5 (bits .xor .i64 (nib n) w)
def ar4(w:Int):Nat→Int→Int × Int
 | 0,_=>(-1,2)
 | j+1,n=>if bR5 n w≤1 then(n,bR5 n w)else ar4 w j (n+1)
@[irreducible] def al2(w:Int):Int × Int:=ar4 w 16 0
theorem bq7(w:Int):al2 w=ar4 w 16 0:=by unfold al2;rfl
theorem be7(n:Int):0≤av5 n∧av5 n≤8:=by unfold av5;omega
theorem bz5(w:Int):∀ (j:Nat) (n:Int),0≤n→n+j≤16→-1≤(ar4 w j n).1∧(ar4 w j n).1≤15∧0≤(ar4 w j n).2∧(ar4 w j n).2≤2
 | 0,n,h0,h1=>by simp[ar4]
 | j+1,n,h0,h1=>by
  unfold ar4
  split
  ·rename_i h
   have:=(be7 (bits .xor .i64 (nib n) w)).1
   have e:bR5 n w=av5 (bits .xor .i64 (nib n) w):=rfl
   simp only
   omega
  ·exact bz5 w j (n+1) om om
theorem aZ5(w:Int):-1≤(al2 w).1∧(al2 w).1≤15∧0≤(al2 w).2∧(al2 w).2≤2:=by
 rw[bq7];exact bz5 w 16 0 om om
def at8(acc:List Int):List Int→Option (List Int)
 | a::b::l=>if (al2 a).1<0∨(al2 b).1<0 then none else at8 (acc++[16*(al2 a).1+(al2 b).1]) l
 | _=>some acc
theorem bz4:∀ (n:Nat) (l acc r:List Int),l.length≤n→at8 acc l=some r→r.length≤acc.length+l.length
 | 0,[],acc,r,_,h=>by simp[at8]at h;subst h;simp
 | n+1,[],acc,r,_,h=>by simp[at8]at h;subst h;simp
 | n+1,[a],acc,r,_,h=>by simp[at8]at h;subst h;simp
 | n+1,a::b::l,acc,r,hn,h=>by
  rw[at8]at h
  split at h
  ·cases h
  ·have:=bz4 n l _ r (by simp at hn;omega) h
   simp at this ⊢;omega
def aB6:Option (List Int)→ByteArray
 | some l=>strOfNums l
 | none=>⟨#[]⟩
def an8(s:ByteArray):Option (List Int):=if s.size % 2≠0∨400<s.size then none else at8 [] (s5 s)
@[irreducible] def aJ8(s:ByteArray):ByteArray:=strOfNums (ao1 (s5 (strOfNums (scr 255 (s5 s)))))
theorem bf2(s:ByteArray):strOfNums (ao1 (s5 (strOfNums (scr 255 (s5 s)))))=aJ8 s:=by unfold aJ8;rfl
theorem bf3(s:ByteArray):(aJ8 s).size=s.size:=by rw[← bf2,strOfNums_size,bI5,M7,strOfNums_size,aZ9,M7]
def aw5(s:ByteArray):Option (List Int):=if s.size=0 then none else an8 (aJ8 s)
def am2(d:ByteArray):Bool:=decide (4≤d.size) && ((d.extract 0 4).toList == bf9.toList)
def ad3(d:ByteArray):Option (List Int):=if am2 d=true then aw5 (d.extract 4 d.size)else none
theorem bP2{l:List Int}(h:an8 s=some l):l.length≤400:=by
 unfold an8 at h
 split at h
 ·cases h
 ·have:=bz4 _ _ _ _ nl h
  rw[M7]at this
  simp at this
  omega
theorem bf4(d:ByteArray):(aB6 (ad3 d)).size≤400:=by
 have key:∀ o:Option (List Int),(∀ l,o=some l→l.length≤400)→(aB6 o).size≤400:=fun o h=>by
  cases o with
  | none=>exact Nat.zero_le _
  | some l=>rw[aB6,strOfNums_size];exact h l rfl
 refine key _ fun l h=>?_
 unfold ad3 at h
 split at h
 ·unfold aw5 at h
  split at h
  ·cases h
  ·exact bP2 h
 ·cases h
theorem bN7{n:Int}(h0:0≤n)(h1:n≤15)(h2:0≤z)(h3:z≤255):0≤bits .xor .i64 (nib n) z∧bits .xor .i64 (nib n) z≤255∧bits .xor .i64 z (nib n)=bits .xor .i64 (nib n) z:=by
 obtain⟨k,rfl⟩:∃ k:Fin 256,z=(k.1:Int):=⟨⟨z.toNat,by omega⟩,by simp;omega⟩
 have hn:n=0∨n=1∨n=2∨n=3∨n=4∨n=5∨n=6∨n=7∨n=8∨n=9∨n=10∨n=11∨n=12∨n=13∨n=14∨n=15:=by omega
 clear h0 h1 h2 h3
 rcases hn with rfl|rfl|rfl|rfl|rfl|rfl|rfl|rfl|rfl|rfl|rfl|rfl|rfl|rfl|rfl|rfl<;>revert k<;>decide +kernel
def R8(s:ByteArray)(a:Nat):Nat→Int
 | 0=>0
 | k+1=>R8 s a k*256+bAt s (a+k)
def V2(s:ByteArray):Option ByteArray:=if s.size<2 then none else if ((aF0 (s.extract 0 (s.size - 2))).toList == s.toList)=true then some (s.extract 0 (s.size - 2))else none
section
variable {P:Program} {ops:Array Oper} {C:World→Prop} {Q:Act→Prop} {o:Oper} {rest:List Oper} {a:Act}
end
