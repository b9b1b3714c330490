/- The contracts of the size and the equality of the ground. No condition but on sizes. -/
import Derived.Test.YtdijmbipcgalfaaGreatHM7
import Derived.Test.YtdijmbipcgalfaaGreatHM0
namespace Go.Proofs.YtdijmbipcgalfaaGreat
set_option maxRecDepth 100000
set_option maxHeartbeats 2000000
set_option linter.unusedVariables false
open Go.ChangeShapes Go.WideShapes Go.ChangeAt Go.RowKit
theorem by6{B:Nat}{vs:List Value}{x:I8}{left:Int}{w:World}(h:Enc.Rd B w vs x)(hl:0≤left)(hl2:left≤1048576) :
  Calls Tryz.prog 16 #[.agg vs.toArray,.int .i64 left] w (b5 w (.int .i64 (szD left (Enc.tot x)))):=by
 obtain⟨A,rfl,F⟩:=h
 have n0:=d6 x.Offers
 have n1:=Enc.tot_nonneg x.Sender
 have n2:=Enc.tot_nonneg x.Unpacker
 have n3:=d6 x.Pairs
 have n4:=d6 x.Records
 have n5:=d6 x.Files
 have n6:=d6 x.Told
 have HOK:=lH F.ok
 have htot:Enc.tot x=d9 x.Offers+Enc.tot x.Sender+Enc.tot x.Unpacker+d9 x.Pairs+d9 x.Records+d9 x.Files+d9 x.Told:=rfl
 have HTOT:=lH htot;clear htot
 have HB:=lH (j5.new w (M1 x A) 43 w.heap.size rfl)
 have HFF:=lH F;clear F
 go_enter Tryz.func16,Tryz.ntmps16
 go_wp2_with (fail)
 refine gm (an7 (HFF.out.q0.keep ii) om om) ?_
 intro y0
 by_cases h0:left - d9 x.Offers<0
 ·have HV:=lH (show szD left (Enc.tot x)=-1 from j8 (by rw[HTOT.out];omega))
  rw[j8 h0]
  go_wp2_with (fail)
  go_ret
  exact b5.mk (by rw[HV.out];rfl)
 rw[B5 h0]
 go_wp2_with (first|(refine lA rfl _ _ rfl (w.heap.size) 1 rfl [.int .i64 x.Sender.Next,.int .i64 x.Sender.Window,.slice A.a1 x.Sender.Waiting.length A.c1,.int .i64 x.Sender.Done] HB Tryz.underlying33 ?_))
 refine gm (bz0 (x:=x.Sender) ⟨A.a1,A.c1,rfl,HFF.out.q1.keep ii,HOK.out.1⟩ om om) ?_
 intro y1
 by_cases h1:left - d9 x.Offers - Enc.tot x.Sender<0
 ·have HV:=lH (show szD left (Enc.tot x)=-1 from j8 (by rw[HTOT.out];omega))
  rw[j8 h1]
  go_wp2_with (fail)
  go_ret
  exact b5.mk (by rw[HV.out];rfl)
 rw[B5 h1]
 go_wp2_with (first|(refine lA rfl _ _ rfl (w.heap.size) 8 rfl [.int .i64 x.Unpacker.Channel,.int .i64 x.Unpacker.Next,.bool x.Unpacker.Synced,.string x.Unpacker.Rest,.int .i64 x.Unpacker.Lost] HB Tryz.underlying37 ?_))
 refine gm (bh8 (B:=0) (x:=x.Unpacker) ⟨rfl,HOK.out.2.2.1⟩ om om) ?_
 intro y2
 by_cases h2:left - d9 x.Offers - Enc.tot x.Sender - Enc.tot x.Unpacker<0
 ·have HV:=lH (show szD left (Enc.tot x)=-1 from j8 (by rw[HTOT.out];omega))
  rw[j8 h2]
  go_wp2_with (fail)
  go_ret
  exact b5.mk (by rw[HV.out];rfl)
 rw[B5 h2]
 go_wp2_with (fail)
 refine gm (bH2 (HFF.out.q2.keep ii) om om) ?_
 intro y3
 by_cases h3:left - d9 x.Offers - Enc.tot x.Sender - Enc.tot x.Unpacker - d9 x.Pairs<0
 ·have HV:=lH (show szD left (Enc.tot x)=-1 from j8 (by rw[HTOT.out];omega))
  rw[j8 h3]
  go_wp2_with (fail)
  go_ret
  exact b5.mk (by rw[HV.out];rfl)
 rw[B5 h3]
 go_wp2_with (fail)
 refine gm (ay7 (HFF.out.q3.keep ii) om om) ?_
 intro y4
 by_cases h4:left - d9 x.Offers - Enc.tot x.Sender - Enc.tot x.Unpacker - d9 x.Pairs - d9 x.Records<0
 ·have HV:=lH (show szD left (Enc.tot x)=-1 from j8 (by rw[HTOT.out];omega))
  rw[j8 h4]
  go_wp2_with (fail)
  go_ret
  exact b5.mk (by rw[HV.out];rfl)
 rw[B5 h4]
 go_wp2_with (fail)
 refine gm (bq4 (HFF.out.q4.keep ii) om om) ?_
 intro y5
 by_cases h5:left - d9 x.Offers - Enc.tot x.Sender - Enc.tot x.Unpacker - d9 x.Pairs - d9 x.Records - d9 x.Files<0
 ·have HV:=lH (show szD left (Enc.tot x)=-1 from j8 (by rw[HTOT.out];omega))
  rw[j8 h5]
  go_wp2_with (fail)
  go_ret
  exact b5.mk (by rw[HV.out];rfl)
 rw[B5 h5]
 go_wp2_with (fail)
 refine gm (bH0 (HFF.out.q5.keep ii) om om) ?_
 intro y6
 by_cases h6:left - d9 x.Offers - Enc.tot x.Sender - Enc.tot x.Unpacker - d9 x.Pairs - d9 x.Records - d9 x.Files - d9 x.Told<0
 ·have HV:=lH (show szD left (Enc.tot x)=-1 from j8 (by rw[HTOT.out];omega))
  rw[j8 h6]
  go_wp2_with (fail)
  go_ret
  exact b5.mk (by rw[HV.out];rfl)
 rw[B5 h6]
 have HV:=lH (show szD left (Enc.tot x)=left - d9 x.Offers - Enc.tot x.Sender - Enc.tot x.Unpacker - d9 x.Pairs - d9 x.Records - d9 x.Files - d9 x.Told by rw[B5 (by rw[HTOT.out];omega),HTOT.out]<;>omega)
 go_wp2_with (fail)
 go_ret
 exact b5.mk (by rw[HV.out];rfl)
theorem bx8{B B2:Nat}{vs vs2:List Value}{x:I8}{w:World}(h:Enc.Rd B w vs x)(h2:Enc.Rd B2 w vs2 x) :
  Calls Tryz.prog 48 #[.agg vs.toArray,.agg vs2.toArray] w (b5 w (.bool true)):=by
 obtain⟨A,rfl,F⟩:=h
 obtain⟨mA,rfl,mF⟩:=h2
 have HOK:=lH F.ok
 have HB:=lH ((j5.new w (M1 x A) 76 w.heap.size rfl).to (ii:b8 _ ((w.alloc (.cells (M1 x A).toArray 76)).alloc (.cells (M1 x mA).toArray 76))))
 have HC:=lH (j5.new (w.alloc (.cells (M1 x A).toArray 76)) (M1 x mA) 76 (w.heap.size+1) si)
 have HFF:=lH F;clear F
 have HMF:=lH mF;clear mF
 go_enter Tryz.func48,Tryz.ntmps48
 go_wp2_with (fail)
 refine gm (an6 (HFF.out.q0.keep ii) (HMF.out.q0.keep ii)) ?_
 intro y0
 go_wp2_with (first|(refine lA rfl _ _ rfl (w.heap.size) 1 rfl [.int .i64 x.Sender.Next,.int .i64 x.Sender.Window,.slice A.a1 x.Sender.Waiting.length A.c1,.int .i64 x.Sender.Done] HB Tryz.underlying69 ?_)|(refine lA rfl _ _ rfl (w.heap.size+1) 1 rfl [.int .i64 x.Sender.Next,.int .i64 x.Sender.Window,.slice mA.a1 x.Sender.Waiting.length mA.c1,.int .i64 x.Sender.Done] HC Tryz.underlying69 ?_))
 refine gm (by3 (x:=x.Sender) ⟨A.a1,A.c1,rfl,HFF.out.q1.keep ii,HOK.out.1⟩ ⟨mA.a1,mA.c1,rfl,HMF.out.q1.keep ii,HOK.out.1⟩) ?_
 intro y1
 go_wp2_with (first|(refine lA rfl _ _ rfl (w.heap.size) 5 rfl [.int .i64 x.Notice.Expect,.bool x.Notice.Locked,.bool x.Notice.Again] HB Tryz.underlying70 ?_)|(refine lA rfl _ _ rfl (w.heap.size+1) 5 rfl [.int .i64 x.Notice.Expect,.bool x.Notice.Locked,.bool x.Notice.Again] HC Tryz.underlying70 ?_))
 refine gm (by0 (B:=0) (B2:=0) (x:=x.Notice) ⟨rfl,HOK.out.2.1⟩ ⟨rfl,HOK.out.2.1⟩) ?_
 intro y2
 go_wp2_with (first|(refine lA rfl _ _ rfl (w.heap.size) 8 rfl [.int .i64 x.Unpacker.Channel,.int .i64 x.Unpacker.Next,.bool x.Unpacker.Synced,.string x.Unpacker.Rest,.int .i64 x.Unpacker.Lost] HB Tryz.underlying71 ?_)|(refine lA rfl _ _ rfl (w.heap.size+1) 8 rfl [.int .i64 x.Unpacker.Channel,.int .i64 x.Unpacker.Next,.bool x.Unpacker.Synced,.string x.Unpacker.Rest,.int .i64 x.Unpacker.Lost] HC Tryz.underlying71 ?_))
 refine gm (bh4 (B:=0) (B2:=0) (x:=x.Unpacker) ⟨rfl,HOK.out.2.2.1⟩ ⟨rfl,HOK.out.2.2.1⟩) ?_
 intro y3
 go_wp2_with (fail)
 refine gm (bG5 (HFF.out.q2.keep ii) (HMF.out.q2.keep ii)) ?_
 intro y4
 go_wp2_with (fail)
 refine gm (ay6 (HFF.out.q3.keep ii) (HMF.out.q3.keep ii)) ?_
 intro y5
 go_wp2_with (fail)
 refine gm (bq1 (HFF.out.q4.keep ii) (HMF.out.q4.keep ii)) ?_
 intro y6
 go_wp2_with (fail)
 refine gm (bF9 (HFF.out.q5.keep ii) (HMF.out.q5.keep ii)) ?_
 intro y7
 go_wp2_with (fail)
 go_ret
 exact b5.mk rfl
