/- The contracts of the mirrors, sizes and equalities of waiting orders. No condition but on sizes. The contracts of the mirrors, sizes and equalities of structs with slices (1). No condition but on sizes. The contract of the mirror of the ground. No condition but on sizes. The contracts of the size and the equality of the ground. No condition but on sizes. The contracts of the mirror, size and equality of a board. No condition but on sizes. The contract of the mirror of space. No condition but on sizes. The contract of the mirror of a mission. No condition but on sizes. -/
import Derived.Test.YtbaffippdifbpaaGreatWDF1
import Derived.Test.YtbaffippdifbpaaGreatWM9
import Derived.Test.YtbaffippdifbpaaGreatWM0
import Derived.Test.YtbaffippdifbpaaGreatWOkF
namespace Go.Proofs.YtbaffippdifbpaaGreat
set_option linter.unusedVariables false
open Go.ChangeShapes Go.WideShapes Go.ChangeAt Go.RowKit
theorem d_ltoWaiting{B:Nat}{vs:List Value}{x:TWaiting}{w:World}(h:Enc.Rd B w vs x)(ht:Enc.tot x≤1048576) :
  Calls Tryz.prog 309 #[.agg vs.toArray] w (GivesD w x):=by
 obtain⟨rfl,hok⟩:=h
 clear ht
 have HOK:=lH hok;clear hok
 go_enter Tryz.func309,Tryz.ntmps309
 go_wp2_with fail
 refine(d_ltoOrder (B:=0) (x:=x.Order) ⟨rfl,HOK.out.2.1⟩ (show(0:Int)≤1048576 by omega)).mono ?_
 rintro _ _ ⟨_,rfl,⟨rfl,-⟩,y0,rfl⟩
 go_wp2_with fail
 refine bodyPost_ret (v:=.agg #[.int .i64 x.Number,.int .i64 x.Order.Kind,.int .i64 x.Order.At,.int .i64 x.Order.A,.int .i64 x.Order.B]) ?_ rfl ⟨[.int .i64 x.Number,.int .i64 x.Order.Kind,.int .i64 x.Order.At,.int .i64 x.Order.A,.int .i64 x.Order.B],rfl,⟨rfl,HOK.out⟩,Later.of⟩
 simp[results,Tryz.results309,go_sem]
theorem d_leqWaiting{B B2:Nat}{vs vs2:List Value}{x:TWaiting}{w:World}(h:Enc.Rd B w vs x)(h2:Enc.Rd B2 w vs2 x) :
  Calls Tryz.prog 305 #[.agg vs.toArray,.agg vs2.toArray] w (Gives w (.bool true)):=by
 obtain⟨rfl,hok⟩:=h
 obtain⟨rfl,-⟩:=h2
 have HOK:=lH hok;clear hok
 go_enter Tryz.func305,Tryz.ntmps305
 go_wp2_with fail
 refine(d_leqOrder (B:=0) (B2:=0) (x:=x.Order) ⟨rfl,HOK.out.2.1⟩ ⟨rfl,HOK.out.2.1⟩).mono ?_
 rintro _ _ ⟨rfl,y0,rfl⟩
 go_wp2_with fail
 go_ret
 exact Gives.mk rfl
theorem d_lszWaitingS{B:Nat}{a:Option Addr}{c:Nat}{l:List TWaiting}{left:Int}{w:World}(hs:RdS B w a c l)(hl:0≤left)(hl2:left≤1048576) :
  Calls Tryz.prog 277 #[.slice a l.length c,.int .i64 left] w (Gives w (.int .i64 (szD left (totL l)))):=by
 have hmx:=hs.max
 have hln:=totL_len l
 obtain⟨n,hn⟩:∃ n,l.length=n:=⟨_,rfl⟩
 rw[hn]at hln hmx
 rw[hn]
 have HN:=lH hn;clear hn
 have htl:totL l=n:=by rw[← HN.out];clear hs HN hmx hln;induction l with|nil=>rfl|cons x r ih=>simp only[totL,List.length_cons,ih];show 1+0+_=_;omega
 rw[htl];clear htl hln hs
 by_cases h:left - n<0
 ·rw[szD_neg h]
  go_enter Tryz.func277,Tryz.ntmps277
  go_wp2_with fail
  go_ret
  exact Gives.mk rfl
 ·rw[szD_pos h]
  go_enter Tryz.func277,Tryz.ntmps277
  go_wp2_with fail
  go_ret
  exact Gives.mk rfl
theorem d_leqWaitingS{B B2:Nat}{a a2:Option Addr}{c c2:Nat}{l:List TWaiting}{w:World}(hs:RdS B w a c l)(hs2:RdS B2 w a2 c2 l) :
  Calls Tryz.prog 258 #[.slice a l.length c,.slice a2 l.length c2] w (Gives w (.bool true)):=by
 have hmx:=hs.max
 obtain⟨n,hn⟩:∃ n,l.length=n:=⟨_,rfl⟩
 rw[hn]at hmx
 rw[hn]
 have HN:=lH hn;clear hn
 have kn:((n:Int) != (n:Int))=false:=by simp
 go_enter Tryz.func258,Tryz.ntmps258
 go_wp2_with fail
 go_loopw [5] (fun v wr=>∃ k:Nat,v=.int .i64 k∧k≤n∧∃ x:Later w,wr=x.w) (fun v _=>(n - intOf v).toNat)
 case atStart=>exact⟨0,rfl,by omega,Later.of⟩
 case round =>
  obtain⟨k,rfl,hk,x,rfl⟩:=hrel
  by_cases h:k<n
  ·have hlk:k<l.length:=by have:=HN.out;omega
   obtain⟨eb,eoff,ex,rfl,ehb,ehd,eok,eh0,eh1,eh2,eh3,eh4⟩:=hs.atTWaiting (show k<l.length by omega)
   obtain⟨fb,foff,fx,rfl,fhb,fhd,fok,fh0,fh1,fh2,fh3,fh4⟩:=hs2.atTWaiting (show k<l.length by omega)
   obtain rfl:ex=fx:=by have:=ehd.out.symm.trans fhd.out;simpa using this
   clear ehd fhd hlk hs hs2
   have ce:∀ {W:World} [Grows w W],Calls Tryz.prog 305 #[.agg #[.int .i64 ex.Number,.int .i64 ex.Order.Kind,.int .i64 ex.Order.At,.int .i64 ex.Order.A,.int .i64 ex.Order.B],.agg #[.int .i64 ex.Number,.int .i64 ex.Order.Kind,.int .i64 ex.Order.At,.int .i64 ex.Order.A,.int .i64 ex.Order.B]] W (Gives W (.bool true)):=fun {W} _=>d_leqWaiting (B:=0) (B2:=0) (x:=ex) ⟨rfl,eok⟩ ⟨rfl,fok⟩
   clear eok fok
   go_wp2_with (first|((with_reducible refine wp_region_later (by kernel_rfl) (by kernel_rfl) ?_);(repeat(first|go_big_quiet_step (first|(go_at_call 305;exact Gives.quiet (ce)))));refine wpQuiet_nil ?_;rintro _ ⟨x,rfl⟩)|(go_at_call 305;refine(ce).mono ?_;rintro _ _ ⟨rfl,x,rfl⟩))
   go_roundw
   case rel=>exact⟨k+1,by go_num,by omega,Later.of⟩
   case measure=>simp[intOf];omega
  ·go_wp2_with fail
   go_ret
   exact Gives.mk rfl
end Go.Proofs.YtbaffippdifbpaaGreat
namespace Go.Proofs.YtbaffippdifbpaaGreat
set_option linter.unusedVariables false
open Go.ChangeShapes Go.WideShapes Go.ChangeAt Go.RowKit
theorem d_lszPacker{B:Nat}{vs:List Value}{x:TPacker}{left:Int}{w:World}(h:Enc.Rd B w vs x)(hl:0≤left)(hl2:left≤1048576) :
  Calls Tryz.prog 195 #[.agg vs.toArray,.int .i64 left] w (Gives w (.int .i64 (szD left (Enc.tot x)))):=by
 obtain⟨a0,c0,rfl,q0,hok⟩:=h
 have n0:(0:Int)≤x.Rest.size:=by omega
 have z0:x.Rest.size≤9223372036854775807:=hok.2.2.1
 have n1:=totL_nonneg x.Starts
 have HOK:=lH hok;clear hok
 have htot:Enc.tot x=(x.Rest.size:Int)+totL x.Starts:=rfl
 have HTOT:=lH htot;clear htot
 go_enter Tryz.func195,Tryz.ntmps195
 by_cases h0:left - (x.Rest.size:Int)<0
 ·have HV:=lH (show szD left (Enc.tot x)=-1 from szD_neg (by rw[HTOT.out];omega))
  go_wp2_with fail
  go_ret
  exact Gives.mk (by rw[HV.out];rfl)
 go_wp2_with fail
 refine(d_lszIntS (q0.keep inferInstance) (by omega) (by omega)).mono ?_
 rintro _ _ ⟨rfl,y1,rfl⟩
 by_cases h1:left - (x.Rest.size:Int) - totL x.Starts<0
 ·have HV:=lH (show szD left (Enc.tot x)=-1 from szD_neg (by rw[HTOT.out];omega))
  rw[szD_neg h1]
  go_wp2_with fail
  go_ret
  exact Gives.mk (by rw[HV.out];rfl)
 rw[szD_pos h1]
 have HV:=lH (show szD left (Enc.tot x)=left - (x.Rest.size:Int) - totL x.Starts by rw[szD_pos (by rw[HTOT.out];omega),HTOT.out]<;>omega)
 go_wp2_with fail
 go_ret
 exact Gives.mk (by rw[HV.out];rfl)
theorem d_leqPacker{B B2:Nat}{vs vs2:List Value}{x:TPacker}{w:World}(h:Enc.Rd B w vs x)(h2:Enc.Rd B2 w vs2 x) :
  Calls Tryz.prog 169 #[.agg vs.toArray,.agg vs2.toArray] w (Gives w (.bool true)):=by
 obtain⟨a0,c0,rfl,q0,hok⟩:=h
 obtain⟨ma0,mc0,rfl,mq0,-⟩:=h2
 have HOK:=lH hok;clear hok
 go_enter Tryz.func169,Tryz.ntmps169
 go_wp2_with fail
 refine(d_leqIntS (q0.keep inferInstance) (mq0.keep inferInstance)).mono ?_
 rintro _ _ ⟨rfl,y0,rfl⟩
 go_wp2_with fail
 go_ret
 exact Gives.mk rfl
theorem d_lszSender{B:Nat}{vs:List Value}{x:TSender}{left:Int}{w:World}(h:Enc.Rd B w vs x)(hl:0≤left)(hl2:left≤1048576) :
  Calls Tryz.prog 188 #[.agg vs.toArray,.int .i64 left] w (Gives w (.int .i64 (szD left (Enc.tot x)))):=by
 obtain⟨a0,c0,rfl,q0,hok⟩:=h
 have n0:=totL_nonneg x.Waiting
 have HOK:=lH hok;clear hok
 have htot:Enc.tot x=totL x.Waiting:=rfl
 have HTOT:=lH htot;clear htot
 go_enter Tryz.func188,Tryz.ntmps188
 go_wp2_with fail
 refine(d_lszSentS (q0.keep inferInstance) (by omega) (by omega)).mono ?_
 rintro _ _ ⟨rfl,y0,rfl⟩
 by_cases h0:left - totL x.Waiting<0
 ·have HV:=lH (show szD left (Enc.tot x)=-1 from szD_neg (by rw[HTOT.out];omega))
  rw[szD_neg h0]
  go_wp2_with fail
  go_ret
  exact Gives.mk (by rw[HV.out];rfl)
 rw[szD_pos h0]
 have HV:=lH (show szD left (Enc.tot x)=left - totL x.Waiting by rw[szD_pos (by rw[HTOT.out];omega),HTOT.out]<;>omega)
 go_wp2_with fail
 go_ret
 exact Gives.mk (by rw[HV.out];rfl)
theorem d_leqSender{B B2:Nat}{vs vs2:List Value}{x:TSender}{w:World}(h:Enc.Rd B w vs x)(h2:Enc.Rd B2 w vs2 x) :
  Calls Tryz.prog 160 #[.agg vs.toArray,.agg vs2.toArray] w (Gives w (.bool true)):=by
 obtain⟨a0,c0,rfl,q0,hok⟩:=h
 obtain⟨ma0,mc0,rfl,mq0,-⟩:=h2
 have HOK:=lH hok;clear hok
 go_enter Tryz.func160,Tryz.ntmps160
 go_wp2_with fail
 refine(d_leqSentS (q0.keep inferInstance) (mq0.keep inferInstance)).mono ?_
 rintro _ _ ⟨rfl,y0,rfl⟩
 go_wp2_with fail
 go_ret
 exact Gives.mk rfl
theorem d_lszRecorder{B:Nat}{vs:List Value}{x:TRecorder}{left:Int}{w:World}(h:Enc.Rd B w vs x)(hl:0≤left)(hl2:left≤1048576) :
  Calls Tryz.prog 279 #[.agg vs.toArray,.int .i64 left] w (Gives w (.int .i64 (szD left (Enc.tot x)))):=by
 obtain⟨a0,c0,a1,c1,rfl,q0,q1,hok⟩:=h
 have n0:=totL_nonneg x.Records
 have n1:=totL_nonneg x.Dropped
 have HOK:=lH hok;clear hok
 have htot:Enc.tot x=totL x.Records+totL x.Dropped:=rfl
 have HTOT:=lH htot;clear htot
 go_enter Tryz.func279,Tryz.ntmps279
 go_wp2_with fail
 refine(d_lszRecordS (q0.keep inferInstance) (by omega) (by omega)).mono ?_
 rintro _ _ ⟨rfl,y0,rfl⟩
 by_cases h0:left - totL x.Records<0
 ·have HV:=lH (show szD left (Enc.tot x)=-1 from szD_neg (by rw[HTOT.out];omega))
  rw[szD_neg h0]
  go_wp2_with fail
  go_ret
  exact Gives.mk (by rw[HV.out];rfl)
 rw[szD_pos h0]
 go_wp2_with fail
 refine(d_lszIntS (q1.keep inferInstance) (by omega) (by omega)).mono ?_
 rintro _ _ ⟨rfl,y1,rfl⟩
 by_cases h1:left - totL x.Records - totL x.Dropped<0
 ·have HV:=lH (show szD left (Enc.tot x)=-1 from szD_neg (by rw[HTOT.out];omega))
  rw[szD_neg h1]
  go_wp2_with fail
  go_ret
  exact Gives.mk (by rw[HV.out];rfl)
 rw[szD_pos h1]
 have HV:=lH (show szD left (Enc.tot x)=left - totL x.Records - totL x.Dropped by rw[szD_pos (by rw[HTOT.out];omega),HTOT.out]<;>omega)
 go_wp2_with fail
 go_ret
 exact Gives.mk (by rw[HV.out];rfl)
theorem d_leqRecorder{B B2:Nat}{vs vs2:List Value}{x:TRecorder}{w:World}(h:Enc.Rd B w vs x)(h2:Enc.Rd B2 w vs2 x) :
  Calls Tryz.prog 260 #[.agg vs.toArray,.agg vs2.toArray] w (Gives w (.bool true)):=by
 obtain⟨a0,c0,a1,c1,rfl,q0,q1,hok⟩:=h
 obtain⟨ma0,mc0,ma1,mc1,rfl,mq0,mq1,-⟩:=h2
 have HOK:=lH hok;clear hok
 go_enter Tryz.func260,Tryz.ntmps260
 go_wp2_with fail
 refine(d_leqRecordS (q0.keep inferInstance) (mq0.keep inferInstance)).mono ?_
 rintro _ _ ⟨rfl,y0,rfl⟩
 go_wp2_with fail
 refine(d_leqIntS (q1.keep inferInstance) (mq1.keep inferInstance)).mono ?_
 rintro _ _ ⟨rfl,y1,rfl⟩
 go_wp2_with fail
 go_ret
 exact Gives.mk rfl
end Go.Proofs.YtbaffippdifbpaaGreat
namespace Go.Proofs.YtbaffippdifbpaaGreat
set_option linter.unusedVariables false
open Go.ChangeShapes Go.WideShapes Go.ChangeAt Go.RowKit
end Go.Proofs.YtbaffippdifbpaaGreat
namespace Go.Proofs.YtbaffippdifbpaaGreat
set_option linter.unusedVariables false
open Go.ChangeShapes Go.WideShapes Go.ChangeAt Go.RowKit
set_option maxRecDepth 100000 in
set_option maxHeartbeats 2000000 in
theorem d_lszGround{B:Nat}{vs:List Value}{x:TGround}{left:Int}{w:World}(h:Enc.Rd B w vs x)(hl:0≤left)(hl2:left≤1048576) :
  Calls Tryz.prog 91 #[.agg vs.toArray,.int .i64 left] w (Gives w (.int .i64 (szD left (Enc.tot x)))):=by
 obtain⟨A,rfl,F⟩:=h
 have n0:=totL_nonneg x.Offers
 have n1:=Enc.tot_nonneg x.Sender
 have n2:=Enc.tot_nonneg x.Unpacker
 have n3:=totL_nonneg x.Pairs
 have n4:=totL_nonneg x.Records
 have n5:=totL_nonneg x.Files
 have n6:=totL_nonneg x.Told
 have HOK:=lH F.ok
 have htot:Enc.tot x=totL x.Offers+Enc.tot x.Sender+Enc.tot x.Unpacker+totL x.Pairs+totL x.Records+totL x.Files+totL x.Told:=rfl
 have HTOT:=lH htot;clear htot
 have HB:=lH (Held.new w (cGround x A.a0 A.c0 A.a1 A.c1 A.a2 A.c2 A.a3 A.c3 A.a4 A.c4 A.a5 A.c5) 103 w.heap.size rfl)
 have HFF:=lH F;clear F
 go_enter Tryz.func91,Tryz.ntmps91
 go_wp2_with fail
 refine(d_lszStringS (HFF.out.q0.keep inferInstance) (by omega) (by omega)).mono ?_
 rintro _ _ ⟨rfl,y0,rfl⟩
 by_cases h0:left - totL x.Offers<0
 ·have HV:=lH (show szD left (Enc.tot x)=-1 from szD_neg (by rw[HTOT.out];omega))
  rw[szD_neg h0]
  go_wp2_with fail
  go_ret
  exact Gives.mk (by rw[HV.out];rfl)
 rw[szD_pos h0]
 go_wp2_with (first|(refine stepLoad rfl _ _ rfl (w.heap.size) 1 rfl (row:=[.int .i64 x.Sender.Next,.int .i64 x.Sender.Window,.slice A.a1 x.Sender.Waiting.length A.c1,.int .i64 x.Sender.Done]) (HB.out.to inferInstance) _ Tryz.underlying96 rfl (by kernel_rfl) (by kernel_rfl) ?_))
 refine(d_lszSender (x:=x.Sender) ⟨A.a1,A.c1,rfl,HFF.out.q1.keep inferInstance,HOK.out.1⟩ (by omega) (by omega)).mono ?_
 rintro _ _ ⟨rfl,y1,rfl⟩
 by_cases h1:left - totL x.Offers - Enc.tot x.Sender<0
 ·have HV:=lH (show szD left (Enc.tot x)=-1 from szD_neg (by rw[HTOT.out];omega))
  rw[szD_neg h1]
  go_wp2_with fail
  go_ret
  exact Gives.mk (by rw[HV.out];rfl)
 rw[szD_pos h1]
 go_wp2_with (first|(refine stepLoad rfl _ _ rfl (w.heap.size) 8 rfl (row:=[.int .i64 x.Unpacker.Channel,.int .i64 x.Unpacker.Next,.bool x.Unpacker.Synced,.string x.Unpacker.Rest,.int .i64 x.Unpacker.Lost]) (HB.out.to inferInstance) _ Tryz.underlying98 rfl (by kernel_rfl) (by kernel_rfl) ?_))
 refine(d_lszUnpacker (B:=0) (x:=x.Unpacker) ⟨rfl,HOK.out.2.2.1⟩ (by omega) (by omega)).mono ?_
 rintro _ _ ⟨rfl,y2,rfl⟩
 by_cases h2:left - totL x.Offers - Enc.tot x.Sender - Enc.tot x.Unpacker<0
 ·have HV:=lH (show szD left (Enc.tot x)=-1 from szD_neg (by rw[HTOT.out];omega))
  rw[szD_neg h2]
  go_wp2_with fail
  go_ret
  exact Gives.mk (by rw[HV.out];rfl)
 rw[szD_pos h2]
 go_wp2_with fail
 refine(d_lszPairS (HFF.out.q2.keep inferInstance) (by omega) (by omega)).mono ?_
 rintro _ _ ⟨rfl,y3,rfl⟩
 by_cases h3:left - totL x.Offers - Enc.tot x.Sender - Enc.tot x.Unpacker - totL x.Pairs<0
 ·have HV:=lH (show szD left (Enc.tot x)=-1 from szD_neg (by rw[HTOT.out];omega))
  rw[szD_neg h3]
  go_wp2_with fail
  go_ret
  exact Gives.mk (by rw[HV.out];rfl)
 rw[szD_pos h3]
 go_wp2_with fail
 refine(d_lszRecordS (HFF.out.q3.keep inferInstance) (by omega) (by omega)).mono ?_
 rintro _ _ ⟨rfl,y4,rfl⟩
 by_cases h4:left - totL x.Offers - Enc.tot x.Sender - Enc.tot x.Unpacker - totL x.Pairs - totL x.Records<0
 ·have HV:=lH (show szD left (Enc.tot x)=-1 from szD_neg (by rw[HTOT.out];omega))
  rw[szD_neg h4]
  go_wp2_with fail
  go_ret
  exact Gives.mk (by rw[HV.out];rfl)
 rw[szD_pos h4]
 go_wp2_with fail
 refine(d_lszFileInS (HFF.out.q4.keep inferInstance) (by omega) (by omega)).mono ?_
 rintro _ _ ⟨rfl,y5,rfl⟩
 by_cases h5:left - totL x.Offers - Enc.tot x.Sender - Enc.tot x.Unpacker - totL x.Pairs - totL x.Records - totL x.Files<0
 ·have HV:=lH (show szD left (Enc.tot x)=-1 from szD_neg (by rw[HTOT.out];omega))
  rw[szD_neg h5]
  go_wp2_with fail
  go_ret
  exact Gives.mk (by rw[HV.out];rfl)
 rw[szD_pos h5]
 go_wp2_with fail
 refine(d_lszBoolS (HFF.out.q5.keep inferInstance) (by omega) (by omega)).mono ?_
 rintro _ _ ⟨rfl,y6,rfl⟩
 by_cases h6:left - totL x.Offers - Enc.tot x.Sender - Enc.tot x.Unpacker - totL x.Pairs - totL x.Records - totL x.Files - totL x.Told<0
 ·have HV:=lH (show szD left (Enc.tot x)=-1 from szD_neg (by rw[HTOT.out];omega))
  rw[szD_neg h6]
  go_wp2_with fail
  go_ret
  exact Gives.mk (by rw[HV.out];rfl)
 rw[szD_pos h6]
 have HV:=lH (show szD left (Enc.tot x)=left - totL x.Offers - Enc.tot x.Sender - Enc.tot x.Unpacker - totL x.Pairs - totL x.Records - totL x.Files - totL x.Told by rw[szD_pos (by rw[HTOT.out];omega),HTOT.out]<;>omega)
 go_wp2_with fail
 go_ret
 exact Gives.mk (by rw[HV.out];rfl)
theorem d_leqGround{B B2:Nat}{vs vs2:List Value}{x:TGround}{w:World}(h:Enc.Rd B w vs x)(h2:Enc.Rd B2 w vs2 x) :
  Calls Tryz.prog 75 #[.agg vs.toArray,.agg vs2.toArray] w (Gives w (.bool true)):=by
 obtain⟨A,rfl,F⟩:=h
 obtain⟨mA,rfl,mF⟩:=h2
 have HOK:=lH F.ok
 have HB:=lH ((Held.new w (cGround x A.a0 A.c0 A.a1 A.c1 A.a2 A.c2 A.a3 A.c3 A.a4 A.c4 A.a5 A.c5) 45 w.heap.size rfl).to (inferInstance:Grows _ ((w.alloc (.cells (cGround x A.a0 A.c0 A.a1 A.c1 A.a2 A.c2 A.a3 A.c3 A.a4 A.c4 A.a5 A.c5).toArray 45)).alloc (.cells (cGround x mA.a0 mA.c0 mA.a1 mA.c1 mA.a2 mA.c2 mA.a3 mA.c3 mA.a4 mA.c4 mA.a5 mA.c5).toArray 45))))
 have HC:=lH (Held.new (w.alloc (.cells (cGround x A.a0 A.c0 A.a1 A.c1 A.a2 A.c2 A.a3 A.c3 A.a4 A.c4 A.a5 A.c5).toArray 45)) (cGround x mA.a0 mA.c0 mA.a1 mA.c1 mA.a2 mA.c2 mA.a3 mA.c3 mA.a4 mA.c4 mA.a5 mA.c5) 45 (w.heap.size+1) (by simp))
 have HFF:=lH F;clear F
 have HMF:=lH mF;clear mF
 go_enter Tryz.func75,Tryz.ntmps75
 go_wp2_with fail
 refine(d_leqStringS (HFF.out.q0.keep inferInstance) (HMF.out.q0.keep inferInstance)).mono ?_
 rintro _ _ ⟨rfl,y0,rfl⟩
 go_wp2_with (first|(refine stepLoad rfl _ _ rfl (w.heap.size) 1 rfl (row:=[.int .i64 x.Sender.Next,.int .i64 x.Sender.Window,.slice A.a1 x.Sender.Waiting.length A.c1,.int .i64 x.Sender.Done]) (HB.out.to inferInstance) _ Tryz.underlying35 rfl (by kernel_rfl) (by kernel_rfl) ?_)|(refine stepLoad rfl _ _ rfl (w.heap.size+1) 1 rfl (row:=[.int .i64 x.Sender.Next,.int .i64 x.Sender.Window,.slice mA.a1 x.Sender.Waiting.length mA.c1,.int .i64 x.Sender.Done]) (HC.out.to inferInstance) _ Tryz.underlying35 rfl (by kernel_rfl) (by kernel_rfl) ?_))
 refine(d_leqSender (x:=x.Sender) ⟨A.a1,A.c1,rfl,HFF.out.q1.keep inferInstance,HOK.out.1⟩ ⟨mA.a1,mA.c1,rfl,HMF.out.q1.keep inferInstance,HOK.out.1⟩).mono ?_
 rintro _ _ ⟨rfl,y1,rfl⟩
 go_wp2_with (first|(refine stepLoad rfl _ _ rfl (w.heap.size) 5 rfl (row:=[.int .i64 x.Notice.Expect,.bool x.Notice.Locked,.bool x.Notice.Again]) (HB.out.to inferInstance) _ Tryz.underlying37 rfl (by kernel_rfl) (by kernel_rfl) ?_)|(refine stepLoad rfl _ _ rfl (w.heap.size+1) 5 rfl (row:=[.int .i64 x.Notice.Expect,.bool x.Notice.Locked,.bool x.Notice.Again]) (HC.out.to inferInstance) _ Tryz.underlying37 rfl (by kernel_rfl) (by kernel_rfl) ?_))
 refine(d_leqNotice (B:=0) (B2:=0) (x:=x.Notice) ⟨rfl,HOK.out.2.1⟩ ⟨rfl,HOK.out.2.1⟩).mono ?_
 rintro _ _ ⟨rfl,y2,rfl⟩
 go_wp2_with (first|(refine stepLoad rfl _ _ rfl (w.heap.size) 8 rfl (row:=[.int .i64 x.Unpacker.Channel,.int .i64 x.Unpacker.Next,.bool x.Unpacker.Synced,.string x.Unpacker.Rest,.int .i64 x.Unpacker.Lost]) (HB.out.to inferInstance) _ Tryz.underlying39 rfl (by kernel_rfl) (by kernel_rfl) ?_)|(refine stepLoad rfl _ _ rfl (w.heap.size+1) 8 rfl (row:=[.int .i64 x.Unpacker.Channel,.int .i64 x.Unpacker.Next,.bool x.Unpacker.Synced,.string x.Unpacker.Rest,.int .i64 x.Unpacker.Lost]) (HC.out.to inferInstance) _ Tryz.underlying39 rfl (by kernel_rfl) (by kernel_rfl) ?_))
 refine(d_leqUnpacker (B:=0) (B2:=0) (x:=x.Unpacker) ⟨rfl,HOK.out.2.2.1⟩ ⟨rfl,HOK.out.2.2.1⟩).mono ?_
 rintro _ _ ⟨rfl,y3,rfl⟩
 go_wp2_with fail
 refine(d_leqPairS (HFF.out.q2.keep inferInstance) (HMF.out.q2.keep inferInstance)).mono ?_
 rintro _ _ ⟨rfl,y4,rfl⟩
 go_wp2_with fail
 refine(d_leqRecordS (HFF.out.q3.keep inferInstance) (HMF.out.q3.keep inferInstance)).mono ?_
 rintro _ _ ⟨rfl,y5,rfl⟩
 go_wp2_with fail
 refine(d_leqFileInS (HFF.out.q4.keep inferInstance) (HMF.out.q4.keep inferInstance)).mono ?_
 rintro _ _ ⟨rfl,y6,rfl⟩
 go_wp2_with fail
 refine(d_leqBoolS (HFF.out.q5.keep inferInstance) (HMF.out.q5.keep inferInstance)).mono ?_
 rintro _ _ ⟨rfl,y7,rfl⟩
 go_wp2_with fail
 go_ret
 exact Gives.mk rfl
end Go.Proofs.YtbaffippdifbpaaGreat
namespace Go.Proofs.YtbaffippdifbpaaGreat
set_option linter.unusedVariables false
open Go.ChangeShapes Go.WideShapes Go.ChangeAt Go.RowKit
set_option maxRecDepth 100000 in
set_option maxHeartbeats 2000000 in
theorem d_lszBoard{B:Nat}{vs:List Value}{x:TBoard}{left:Int}{w:World}(h:Enc.Rd B w vs x)(hl:0≤left)(hl2:left≤1048576) :
  Calls Tryz.prog 194 #[.agg vs.toArray,.int .i64 left] w (Gives w (.int .i64 (szD left (Enc.tot x)))):=by
 obtain⟨A,rfl,F⟩:=h
 have n0:=totL_nonneg x.Params
 have n1:=totL_nonneg x.Limits
 have n2:=totL_nonneg x.Orders
 have n3:=totL_nonneg x.Done
 have n4:=Enc.tot_nonneg x.Recorder
 have n5:=totL_nonneg x.Asked
 have HOK:=lH F.ok
 have htot:Enc.tot x=totL x.Params+totL x.Limits+totL x.Orders+totL x.Done+Enc.tot x.Recorder+totL x.Asked:=rfl
 have HTOT:=lH htot;clear htot
 have HB:=lH (Held.new w (cBoard x A.a0 A.c0 A.a1 A.c1 A.a2 A.c2 A.a3 A.c3 A.a4 A.c4 A.a5 A.c5 A.a6 A.c6) 110 w.heap.size rfl)
 have HFF:=lH F;clear F
 go_enter Tryz.func194,Tryz.ntmps194
 go_wp2_with fail
 refine(d_lszIntS (HFF.out.q0.keep inferInstance) (by omega) (by omega)).mono ?_
 rintro _ _ ⟨rfl,y0,rfl⟩
 by_cases h0:left - totL x.Params<0
 ·have HV:=lH (show szD left (Enc.tot x)=-1 from szD_neg (by rw[HTOT.out];omega))
  rw[szD_neg h0]
  go_wp2_with fail
  go_ret
  exact Gives.mk (by rw[HV.out];rfl)
 rw[szD_pos h0]
 go_wp2_with fail
 refine(d_lszLimitS (HFF.out.q1.keep inferInstance) (by omega) (by omega)).mono ?_
 rintro _ _ ⟨rfl,y1,rfl⟩
 by_cases h1:left - totL x.Params - totL x.Limits<0
 ·have HV:=lH (show szD left (Enc.tot x)=-1 from szD_neg (by rw[HTOT.out];omega))
  rw[szD_neg h1]
  go_wp2_with fail
  go_ret
  exact Gives.mk (by rw[HV.out];rfl)
 rw[szD_pos h1]
 go_wp2_with fail
 refine(d_lszWaitingS (HFF.out.q2.keep inferInstance) (by omega) (by omega)).mono ?_
 rintro _ _ ⟨rfl,y2,rfl⟩
 by_cases h2:left - totL x.Params - totL x.Limits - totL x.Orders<0
 ·have HV:=lH (show szD left (Enc.tot x)=-1 from szD_neg (by rw[HTOT.out];omega))
  rw[szD_neg h2]
  go_wp2_with fail
  go_ret
  exact Gives.mk (by rw[HV.out];rfl)
 rw[szD_pos h2]
 go_wp2_with fail
 refine(d_lszDoneS (HFF.out.q3.keep inferInstance) (by omega) (by omega)).mono ?_
 rintro _ _ ⟨rfl,y3,rfl⟩
 by_cases h3:left - totL x.Params - totL x.Limits - totL x.Orders - totL x.Done<0
 ·have HV:=lH (show szD left (Enc.tot x)=-1 from szD_neg (by rw[HTOT.out];omega))
  rw[szD_neg h3]
  go_wp2_with fail
  go_ret
  exact Gives.mk (by rw[HV.out];rfl)
 rw[szD_pos h3]
 go_wp2_with (first|(refine stepLoad rfl _ _ rfl (w.heap.size) 6 rfl (row:=[.int .i64 x.Recorder.Room,.slice A.a4 x.Recorder.Records.length A.c4,.slice A.a5 x.Recorder.Dropped.length A.c5]) (HB.out.to inferInstance) _ Tryz.underlying108 rfl (by kernel_rfl) (by kernel_rfl) ?_))
 refine(d_lszRecorder (x:=x.Recorder) ⟨A.a4,A.c4,A.a5,A.c5,rfl,HFF.out.q4.keep inferInstance,HFF.out.q5.keep inferInstance,HOK.out.2.1⟩ (by omega) (by omega)).mono ?_
 rintro _ _ ⟨rfl,y4,rfl⟩
 by_cases h4:left - totL x.Params - totL x.Limits - totL x.Orders - totL x.Done - Enc.tot x.Recorder<0
 ·have HV:=lH (show szD left (Enc.tot x)=-1 from szD_neg (by rw[HTOT.out];omega))
  rw[szD_neg h4]
  go_wp2_with fail
  go_ret
  exact Gives.mk (by rw[HV.out];rfl)
 rw[szD_pos h4]
 go_wp2_with fail
 refine(d_lszIntS (HFF.out.q6.keep inferInstance) (by omega) (by omega)).mono ?_
 rintro _ _ ⟨rfl,y5,rfl⟩
 by_cases h5:left - totL x.Params - totL x.Limits - totL x.Orders - totL x.Done - Enc.tot x.Recorder - totL x.Asked<0
 ·have HV:=lH (show szD left (Enc.tot x)=-1 from szD_neg (by rw[HTOT.out];omega))
  rw[szD_neg h5]
  go_wp2_with fail
  go_ret
  exact Gives.mk (by rw[HV.out];rfl)
 rw[szD_pos h5]
 have HV:=lH (show szD left (Enc.tot x)=left - totL x.Params - totL x.Limits - totL x.Orders - totL x.Done - Enc.tot x.Recorder - totL x.Asked by rw[szD_pos (by rw[HTOT.out];omega),HTOT.out]<;>omega)
 go_wp2_with fail
 go_ret
 exact Gives.mk (by rw[HV.out];rfl)
theorem d_leqBoard{B B2:Nat}{vs vs2:List Value}{x:TBoard}{w:World}(h:Enc.Rd B w vs x)(h2:Enc.Rd B2 w vs2 x) :
  Calls Tryz.prog 168 #[.agg vs.toArray,.agg vs2.toArray] w (Gives w (.bool true)):=by
 obtain⟨A,rfl,F⟩:=h
 obtain⟨mA,rfl,mF⟩:=h2
 have HOK:=lH F.ok
 have HB:=lH ((Held.new w (cBoard x A.a0 A.c0 A.a1 A.c1 A.a2 A.c2 A.a3 A.c3 A.a4 A.c4 A.a5 A.c5 A.a6 A.c6) 55 w.heap.size rfl).to (inferInstance:Grows _ ((w.alloc (.cells (cBoard x A.a0 A.c0 A.a1 A.c1 A.a2 A.c2 A.a3 A.c3 A.a4 A.c4 A.a5 A.c5 A.a6 A.c6).toArray 55)).alloc (.cells (cBoard x mA.a0 mA.c0 mA.a1 mA.c1 mA.a2 mA.c2 mA.a3 mA.c3 mA.a4 mA.c4 mA.a5 mA.c5 mA.a6 mA.c6).toArray 55))))
 have HC:=lH (Held.new (w.alloc (.cells (cBoard x A.a0 A.c0 A.a1 A.c1 A.a2 A.c2 A.a3 A.c3 A.a4 A.c4 A.a5 A.c5 A.a6 A.c6).toArray 55)) (cBoard x mA.a0 mA.c0 mA.a1 mA.c1 mA.a2 mA.c2 mA.a3 mA.c3 mA.a4 mA.c4 mA.a5 mA.c5 mA.a6 mA.c6) 55 (w.heap.size+1) (by simp))
 have HFF:=lH F;clear F
 have HMF:=lH mF;clear mF
 go_enter Tryz.func168,Tryz.ntmps168
 go_wp2_with fail
 refine(d_leqIntS (HFF.out.q0.keep inferInstance) (HMF.out.q0.keep inferInstance)).mono ?_
 rintro _ _ ⟨rfl,y0,rfl⟩
 go_wp2_with fail
 refine(d_leqLimitS (HFF.out.q1.keep inferInstance) (HMF.out.q1.keep inferInstance)).mono ?_
 rintro _ _ ⟨rfl,y1,rfl⟩
 go_wp2_with fail
 refine(d_leqWaitingS (HFF.out.q2.keep inferInstance) (HMF.out.q2.keep inferInstance)).mono ?_
 rintro _ _ ⟨rfl,y2,rfl⟩
 go_wp2_with fail
 refine(d_leqDoneS (HFF.out.q3.keep inferInstance) (HMF.out.q3.keep inferInstance)).mono ?_
 rintro _ _ ⟨rfl,y3,rfl⟩
 go_wp2_with (first|(refine stepLoad rfl _ _ rfl (w.heap.size) 6 rfl (row:=[.int .i64 x.Recorder.Room,.slice A.a4 x.Recorder.Records.length A.c4,.slice A.a5 x.Recorder.Dropped.length A.c5]) (HB.out.to inferInstance) _ Tryz.underlying53 rfl (by kernel_rfl) (by kernel_rfl) ?_)|(refine stepLoad rfl _ _ rfl (w.heap.size+1) 6 rfl (row:=[.int .i64 x.Recorder.Room,.slice mA.a4 x.Recorder.Records.length mA.c4,.slice mA.a5 x.Recorder.Dropped.length mA.c5]) (HC.out.to inferInstance) _ Tryz.underlying53 rfl (by kernel_rfl) (by kernel_rfl) ?_))
 refine(d_leqRecorder (x:=x.Recorder) ⟨A.a4,A.c4,A.a5,A.c5,rfl,HFF.out.q4.keep inferInstance,HFF.out.q5.keep inferInstance,HOK.out.2.1⟩ ⟨mA.a4,mA.c4,mA.a5,mA.c5,rfl,HMF.out.q4.keep inferInstance,HMF.out.q5.keep inferInstance,HOK.out.2.1⟩).mono ?_
 rintro _ _ ⟨rfl,y4,rfl⟩
 go_wp2_with fail
 refine(d_leqIntS (HFF.out.q6.keep inferInstance) (HMF.out.q6.keep inferInstance)).mono ?_
 rintro _ _ ⟨rfl,y5,rfl⟩
 go_wp2_with fail
 go_ret
 exact Gives.mk rfl
end Go.Proofs.YtbaffippdifbpaaGreat
namespace Go.Proofs.YtbaffippdifbpaaGreat
set_option linter.unusedVariables false
open Go.ChangeShapes Go.WideShapes Go.ChangeAt Go.RowKit
end Go.Proofs.YtbaffippdifbpaaGreat
namespace Go.Proofs.YtbaffippdifbpaaGreat
set_option linter.unusedVariables false
open Go.ChangeShapes Go.WideShapes Go.ChangeAt Go.RowKit
end Go.Proofs.YtbaffippdifbpaaGreat
namespace Go.Proofs.YtbaffippdifbpaaGreat
set_option linter.unusedVariables false
open Go.ChangeShapes Go.WideShapes Go.ChangeAt Go.RowKit
set_option maxRecDepth 100000 in
set_option maxHeartbeats 2000000 in
theorem d_lszSpace{B:Nat}{vs:List Value}{x:TSpace}{left:Int}{w:World}(h:Enc.Rd B w vs x)(hl:0≤left)(hl2:left≤1048576) :
  Calls Tryz.prog 92 #[.agg vs.toArray,.int .i64 left] w (Gives w (.int .i64 (szD left (Enc.tot x)))):=by
 obtain⟨A,rfl,F⟩:=h
 have n0:=Enc.tot_nonneg x.Board
 have n1:=Enc.tot_nonneg x.Packer
 have n2:=totL_nonneg x.Files
 have n3:=totL_nonneg x.Outs
 have n4:=totL_nonneg x.Sent
 have HOK:=lH F.ok
 have htot:Enc.tot x=Enc.tot x.Board+Enc.tot x.Packer+totL x.Files+totL x.Outs+totL x.Sent:=rfl
 have HTOT:=lH htot;clear htot
 have HB:=lH (Held.new w (cSpace x A.a0 A.c0 A.a1 A.c1 A.a2 A.c2 A.a3 A.c3 A.a4 A.c4 A.a5 A.c5 A.a6 A.c6 A.a7 A.c7 A.a8 A.c8 A.a9 A.c9 A.a10 A.c10) 114 w.heap.size rfl)
 have HFF:=lH F;clear F
 go_enter Tryz.func92,Tryz.ntmps92
 go_wp2_with (first|(refine stepLoad rfl _ _ rfl (w.heap.size) 4 rfl (row:=(cBoard x.Board A.a0 A.c0 A.a1 A.c1 A.a2 A.c2 A.a3 A.c3 A.a4 A.c4 A.a5 A.c5 A.a6 A.c6)) (HB.out.to inferInstance) _ Tryz.underlying110 rfl (by kernel_rfl) (by kernel_rfl) ?_))
 refine(d_lszBoard (x:=x.Board) ⟨⟨A.a0,A.c0,A.a1,A.c1,A.a2,A.c2,A.a3,A.c3,A.a4,A.c4,A.a5,A.c5,A.a6,A.c6⟩,rfl,⟨HFF.out.q0.keep inferInstance,HFF.out.q1.keep inferInstance,HFF.out.q2.keep inferInstance,HFF.out.q3.keep inferInstance,HFF.out.q4.keep inferInstance,HFF.out.q5.keep inferInstance,HFF.out.q6.keep inferInstance,HOK.out.2.1⟩⟩ (by omega) (by omega)).mono ?_
 rintro _ _ ⟨rfl,y0,rfl⟩
 by_cases h0:left - Enc.tot x.Board<0
 ·have HV:=lH (show szD left (Enc.tot x)=-1 from szD_neg (by rw[HTOT.out];omega))
  rw[szD_neg h0]
  go_wp2_with fail
  go_ret
  exact Gives.mk (by rw[HV.out];rfl)
 rw[szD_pos h0]
 go_wp2_with (first|(refine stepLoad rfl _ _ rfl (w.heap.size) 16 rfl (row:=[.int .i64 x.Packer.Channel,.int .i64 x.Packer.Count,.string x.Packer.Rest,.slice A.a7 x.Packer.Starts.length A.c7]) (HB.out.to inferInstance) _ Tryz.underlying111 rfl (by kernel_rfl) (by kernel_rfl) ?_))
 refine(d_lszPacker (x:=x.Packer) ⟨A.a7,A.c7,rfl,HFF.out.q7.keep inferInstance,HOK.out.2.2.1⟩ (by omega) (by omega)).mono ?_
 rintro _ _ ⟨rfl,y1,rfl⟩
 by_cases h1:left - Enc.tot x.Board - Enc.tot x.Packer<0
 ·have HV:=lH (show szD left (Enc.tot x)=-1 from szD_neg (by rw[HTOT.out];omega))
  rw[szD_neg h1]
  go_wp2_with fail
  go_ret
  exact Gives.mk (by rw[HV.out];rfl)
 rw[szD_pos h1]
 go_wp2_with fail
 refine(d_lszStringS (HFF.out.q8.keep inferInstance) (by omega) (by omega)).mono ?_
 rintro _ _ ⟨rfl,y2,rfl⟩
 by_cases h2:left - Enc.tot x.Board - Enc.tot x.Packer - totL x.Files<0
 ·have HV:=lH (show szD left (Enc.tot x)=-1 from szD_neg (by rw[HTOT.out];omega))
  rw[szD_neg h2]
  go_wp2_with fail
  go_ret
  exact Gives.mk (by rw[HV.out];rfl)
 rw[szD_pos h2]
 go_wp2_with fail
 refine(d_lszFileOutS (HFF.out.q9.keep inferInstance) (by omega) (by omega)).mono ?_
 rintro _ _ ⟨rfl,y3,rfl⟩
 by_cases h3:left - Enc.tot x.Board - Enc.tot x.Packer - totL x.Files - totL x.Outs<0
 ·have HV:=lH (show szD left (Enc.tot x)=-1 from szD_neg (by rw[HTOT.out];omega))
  rw[szD_neg h3]
  go_wp2_with fail
  go_ret
  exact Gives.mk (by rw[HV.out];rfl)
 rw[szD_pos h3]
 go_wp2_with fail
 refine(d_lszRecordS (HFF.out.q10.keep inferInstance) (by omega) (by omega)).mono ?_
 rintro _ _ ⟨rfl,y4,rfl⟩
 by_cases h4:left - Enc.tot x.Board - Enc.tot x.Packer - totL x.Files - totL x.Outs - totL x.Sent<0
 ·have HV:=lH (show szD left (Enc.tot x)=-1 from szD_neg (by rw[HTOT.out];omega))
  rw[szD_neg h4]
  go_wp2_with fail
  go_ret
  exact Gives.mk (by rw[HV.out];rfl)
 rw[szD_pos h4]
 have HV:=lH (show szD left (Enc.tot x)=left - Enc.tot x.Board - Enc.tot x.Packer - totL x.Files - totL x.Outs - totL x.Sent by rw[szD_pos (by rw[HTOT.out];omega),HTOT.out]<;>omega)
 go_wp2_with fail
 go_ret
 exact Gives.mk (by rw[HV.out];rfl)
theorem d_leqSpace{B B2:Nat}{vs vs2:List Value}{x:TSpace}{w:World}(h:Enc.Rd B w vs x)(h2:Enc.Rd B2 w vs2 x) :
  Calls Tryz.prog 76 #[.agg vs.toArray,.agg vs2.toArray] w (Gives w (.bool true)):=by
 obtain⟨A,rfl,F⟩:=h
 obtain⟨mA,rfl,mF⟩:=h2
 have HOK:=lH F.ok
 have HB:=lH ((Held.new w (cSpace x A.a0 A.c0 A.a1 A.c1 A.a2 A.c2 A.a3 A.c3 A.a4 A.c4 A.a5 A.c5 A.a6 A.c6 A.a7 A.c7 A.a8 A.c8 A.a9 A.c9 A.a10 A.c10) 60 w.heap.size rfl).to (inferInstance:Grows _ ((w.alloc (.cells (cSpace x A.a0 A.c0 A.a1 A.c1 A.a2 A.c2 A.a3 A.c3 A.a4 A.c4 A.a5 A.c5 A.a6 A.c6 A.a7 A.c7 A.a8 A.c8 A.a9 A.c9 A.a10 A.c10).toArray 60)).alloc (.cells (cSpace x mA.a0 mA.c0 mA.a1 mA.c1 mA.a2 mA.c2 mA.a3 mA.c3 mA.a4 mA.c4 mA.a5 mA.c5 mA.a6 mA.c6 mA.a7 mA.c7 mA.a8 mA.c8 mA.a9 mA.c9 mA.a10 mA.c10).toArray 60))))
 have HC:=lH (Held.new (w.alloc (.cells (cSpace x A.a0 A.c0 A.a1 A.c1 A.a2 A.c2 A.a3 A.c3 A.a4 A.c4 A.a5 A.c5 A.a6 A.c6 A.a7 A.c7 A.a8 A.c8 A.a9 A.c9 A.a10 A.c10).toArray 60)) (cSpace x mA.a0 mA.c0 mA.a1 mA.c1 mA.a2 mA.c2 mA.a3 mA.c3 mA.a4 mA.c4 mA.a5 mA.c5 mA.a6 mA.c6 mA.a7 mA.c7 mA.a8 mA.c8 mA.a9 mA.c9 mA.a10 mA.c10) 60 (w.heap.size+1) (by simp))
 have HFF:=lH F;clear F
 have HMF:=lH mF;clear mF
 go_enter Tryz.func76,Tryz.ntmps76
 go_wp2_with (first|(refine stepLoad rfl _ _ rfl (w.heap.size) 0 rfl (row:=[.int .i64 x.Receiver.Expect,.bool x.Receiver.Locked,.bool x.Receiver.Again,.int .i64 x.Receiver.Taken]) (HB.out.to inferInstance) _ Tryz.underlying47 rfl (by kernel_rfl) (by kernel_rfl) ?_)|(refine stepLoad rfl _ _ rfl (w.heap.size+1) 0 rfl (row:=[.int .i64 x.Receiver.Expect,.bool x.Receiver.Locked,.bool x.Receiver.Again,.int .i64 x.Receiver.Taken]) (HC.out.to inferInstance) _ Tryz.underlying47 rfl (by kernel_rfl) (by kernel_rfl) ?_))
 refine(d_leqReceiver (B:=0) (B2:=0) (x:=x.Receiver) ⟨rfl,HOK.out.1⟩ ⟨rfl,HOK.out.1⟩).mono ?_
 rintro _ _ ⟨rfl,y0,rfl⟩
 go_wp2_with (first|(refine stepLoad rfl _ _ rfl (w.heap.size) 4 rfl (row:=(cBoard x.Board A.a0 A.c0 A.a1 A.c1 A.a2 A.c2 A.a3 A.c3 A.a4 A.c4 A.a5 A.c5 A.a6 A.c6)) (HB.out.to inferInstance) _ Tryz.underlying55 rfl (by kernel_rfl) (by kernel_rfl) ?_)|(refine stepLoad rfl _ _ rfl (w.heap.size+1) 4 rfl (row:=(cBoard x.Board mA.a0 mA.c0 mA.a1 mA.c1 mA.a2 mA.c2 mA.a3 mA.c3 mA.a4 mA.c4 mA.a5 mA.c5 mA.a6 mA.c6)) (HC.out.to inferInstance) _ Tryz.underlying55 rfl (by kernel_rfl) (by kernel_rfl) ?_))
 refine(d_leqBoard (x:=x.Board) ⟨⟨A.a0,A.c0,A.a1,A.c1,A.a2,A.c2,A.a3,A.c3,A.a4,A.c4,A.a5,A.c5,A.a6,A.c6⟩,rfl,⟨HFF.out.q0.keep inferInstance,HFF.out.q1.keep inferInstance,HFF.out.q2.keep inferInstance,HFF.out.q3.keep inferInstance,HFF.out.q4.keep inferInstance,HFF.out.q5.keep inferInstance,HFF.out.q6.keep inferInstance,HOK.out.2.1⟩⟩ ⟨⟨mA.a0,mA.c0,mA.a1,mA.c1,mA.a2,mA.c2,mA.a3,mA.c3,mA.a4,mA.c4,mA.a5,mA.c5,mA.a6,mA.c6⟩,rfl,⟨HMF.out.q0.keep inferInstance,HMF.out.q1.keep inferInstance,HMF.out.q2.keep inferInstance,HMF.out.q3.keep inferInstance,HMF.out.q4.keep inferInstance,HMF.out.q5.keep inferInstance,HMF.out.q6.keep inferInstance,HOK.out.2.1⟩⟩).mono ?_
 rintro _ _ ⟨rfl,y1,rfl⟩
 go_wp2_with (first|(refine stepLoad rfl _ _ rfl (w.heap.size) 16 rfl (row:=[.int .i64 x.Packer.Channel,.int .i64 x.Packer.Count,.string x.Packer.Rest,.slice A.a7 x.Packer.Starts.length A.c7]) (HB.out.to inferInstance) _ Tryz.underlying57 rfl (by kernel_rfl) (by kernel_rfl) ?_)|(refine stepLoad rfl _ _ rfl (w.heap.size+1) 16 rfl (row:=[.int .i64 x.Packer.Channel,.int .i64 x.Packer.Count,.string x.Packer.Rest,.slice mA.a7 x.Packer.Starts.length mA.c7]) (HC.out.to inferInstance) _ Tryz.underlying57 rfl (by kernel_rfl) (by kernel_rfl) ?_))
 refine(d_leqPacker (x:=x.Packer) ⟨A.a7,A.c7,rfl,HFF.out.q7.keep inferInstance,HOK.out.2.2.1⟩ ⟨mA.a7,mA.c7,rfl,HMF.out.q7.keep inferInstance,HOK.out.2.2.1⟩).mono ?_
 rintro _ _ ⟨rfl,y2,rfl⟩
 go_wp2_with fail
 refine(d_leqStringS (HFF.out.q8.keep inferInstance) (HMF.out.q8.keep inferInstance)).mono ?_
 rintro _ _ ⟨rfl,y3,rfl⟩
 go_wp2_with fail
 refine(d_leqFileOutS (HFF.out.q9.keep inferInstance) (HMF.out.q9.keep inferInstance)).mono ?_
 rintro _ _ ⟨rfl,y4,rfl⟩
 go_wp2_with fail
 refine(d_leqRecordS (HFF.out.q10.keep inferInstance) (HMF.out.q10.keep inferInstance)).mono ?_
 rintro _ _ ⟨rfl,y5,rfl⟩
 go_wp2_with fail
 go_ret
 exact Gives.mk rfl
end Go.Proofs.YtbaffippdifbpaaGreat
namespace Go.Proofs.YtbaffippdifbpaaGreat
set_option linter.unusedVariables false
open Go.ChangeShapes Go.WideShapes Go.ChangeAt Go.RowKit
set_option maxRecDepth 100000 in
set_option maxHeartbeats 2000000 in
theorem d_lszMission{B:Nat}{vs:List Value}{x:TMission}{left:Int}{w:World}(h:Enc.Rd B w vs x)(hl:0≤left)(hl2:left≤1048576) :
  Calls Tryz.prog 33 #[.agg vs.toArray,.int .i64 left] w (Gives w (.int .i64 (szD left (Enc.tot x)))):=by
 obtain⟨A,rfl,F⟩:=h
 have n0:=totL_nonneg x.Plan
 have n1:=totL_nonneg x.Ups
 have n2:=totL_nonneg x.Downs
 have n3:=Enc.tot_nonneg x.Ground
 have n4:=Enc.tot_nonneg x.Space
 have n5:=totL_nonneg x.Offered
 have n6:=totL_nonneg x.Took
 have HOK:=lH F.ok
 have htot:Enc.tot x=totL x.Plan+totL x.Ups+totL x.Downs+Enc.tot x.Ground+Enc.tot x.Space+totL x.Offered+totL x.Took:=rfl
 have HTOT:=lH htot;clear htot
 have HB:=lH (Held.new w (cMission x A.a0 A.c0 A.a1 A.c1 A.a2 A.c2 A.a3 A.c3 A.a4 A.c4 A.a5 A.c5 A.a6 A.c6 A.a7 A.c7 A.a8 A.c8 A.a9 A.c9 A.a10 A.c10 A.a11 A.c11 A.a12 A.c12 A.a13 A.c13 A.a14 A.c14 A.a15 A.c15 A.a16 A.c16 A.a17 A.c17 A.a18 A.c18 A.a19 A.c19 A.a20 A.c20 A.a21 A.c21) 116 w.heap.size rfl)
 have HFF:=lH F;clear F
 go_enter Tryz.func33,Tryz.ntmps33
 go_wp2_with fail
 refine(d_lszSlotS (HFF.out.q0.keep inferInstance) (by omega) (by omega)).mono ?_
 rintro _ _ ⟨rfl,y0,rfl⟩
 by_cases h0:left - totL x.Plan<0
 ·have HV:=lH (show szD left (Enc.tot x)=-1 from szD_neg (by rw[HTOT.out];omega))
  rw[szD_neg h0]
  go_wp2_with fail
  go_ret
  exact Gives.mk (by rw[HV.out];rfl)
 rw[szD_pos h0]
 go_wp2_with fail
 refine(d_lszFlightS (HFF.out.q1.keep inferInstance) (by omega) (by omega)).mono ?_
 rintro _ _ ⟨rfl,y1,rfl⟩
 by_cases h1:left - totL x.Plan - totL x.Ups<0
 ·have HV:=lH (show szD left (Enc.tot x)=-1 from szD_neg (by rw[HTOT.out];omega))
  rw[szD_neg h1]
  go_wp2_with fail
  go_ret
  exact Gives.mk (by rw[HV.out];rfl)
 rw[szD_pos h1]
 go_wp2_with fail
 refine(d_lszFlightS (HFF.out.q2.keep inferInstance) (by omega) (by omega)).mono ?_
 rintro _ _ ⟨rfl,y2,rfl⟩
 by_cases h2:left - totL x.Plan - totL x.Ups - totL x.Downs<0
 ·have HV:=lH (show szD left (Enc.tot x)=-1 from szD_neg (by rw[HTOT.out];omega))
  rw[szD_neg h2]
  go_wp2_with fail
  go_ret
  exact Gives.mk (by rw[HV.out];rfl)
 rw[szD_pos h2]
 go_wp2_with (first|(refine stepLoad rfl _ _ rfl (w.heap.size) 16 rfl (row:=(cGround x.Ground A.a3 A.c3 A.a4 A.c4 A.a5 A.c5 A.a6 A.c6 A.a7 A.c7 A.a8 A.c8)) (HB.out.to inferInstance) _ Tryz.underlying103 rfl (by kernel_rfl) (by kernel_rfl) ?_))
 refine(d_lszGround (x:=x.Ground) ⟨⟨A.a3,A.c3,A.a4,A.c4,A.a5,A.c5,A.a6,A.c6,A.a7,A.c7,A.a8,A.c8⟩,rfl,⟨HFF.out.q3.keep inferInstance,HFF.out.q4.keep inferInstance,HFF.out.q5.keep inferInstance,HFF.out.q6.keep inferInstance,HFF.out.q7.keep inferInstance,HFF.out.q8.keep inferInstance,HOK.out.2.2.2.2.2.2.1⟩⟩ (by omega) (by omega)).mono ?_
 rintro _ _ ⟨rfl,y3,rfl⟩
 by_cases h3:left - totL x.Plan - totL x.Ups - totL x.Downs - Enc.tot x.Ground<0
 ·have HV:=lH (show szD left (Enc.tot x)=-1 from szD_neg (by rw[HTOT.out];omega))
  rw[szD_neg h3]
  go_wp2_with fail
  go_ret
  exact Gives.mk (by rw[HV.out];rfl)
 rw[szD_pos h3]
 go_wp2_with (first|(refine stepLoad rfl _ _ rfl (w.heap.size) 33 rfl (row:=(cSpace x.Space A.a9 A.c9 A.a10 A.c10 A.a11 A.c11 A.a12 A.c12 A.a13 A.c13 A.a14 A.c14 A.a15 A.c15 A.a16 A.c16 A.a17 A.c17 A.a18 A.c18 A.a19 A.c19)) (HB.out.to inferInstance) _ Tryz.underlying114 rfl (by kernel_rfl) (by kernel_rfl) ?_))
 refine(d_lszSpace (x:=x.Space) ⟨⟨A.a9,A.c9,A.a10,A.c10,A.a11,A.c11,A.a12,A.c12,A.a13,A.c13,A.a14,A.c14,A.a15,A.c15,A.a16,A.c16,A.a17,A.c17,A.a18,A.c18,A.a19,A.c19⟩,rfl,⟨HFF.out.q9.keep inferInstance,HFF.out.q10.keep inferInstance,HFF.out.q11.keep inferInstance,HFF.out.q12.keep inferInstance,HFF.out.q13.keep inferInstance,HFF.out.q14.keep inferInstance,HFF.out.q15.keep inferInstance,HFF.out.q16.keep inferInstance,HFF.out.q17.keep inferInstance,HFF.out.q18.keep inferInstance,HFF.out.q19.keep inferInstance,HOK.out.2.2.2.2.2.2.2.1⟩⟩ (by omega) (by omega)).mono ?_
 rintro _ _ ⟨rfl,y4,rfl⟩
 by_cases h4:left - totL x.Plan - totL x.Ups - totL x.Downs - Enc.tot x.Ground - Enc.tot x.Space<0
 ·have HV:=lH (show szD left (Enc.tot x)=-1 from szD_neg (by rw[HTOT.out];omega))
  rw[szD_neg h4]
  go_wp2_with fail
  go_ret
  exact Gives.mk (by rw[HV.out];rfl)
 rw[szD_pos h4]
 go_wp2_with fail
 refine(d_lszStringS (HFF.out.q20.keep inferInstance) (by omega) (by omega)).mono ?_
 rintro _ _ ⟨rfl,y5,rfl⟩
 by_cases h5:left - totL x.Plan - totL x.Ups - totL x.Downs - Enc.tot x.Ground - Enc.tot x.Space - totL x.Offered<0
 ·have HV:=lH (show szD left (Enc.tot x)=-1 from szD_neg (by rw[HTOT.out];omega))
  rw[szD_neg h5]
  go_wp2_with fail
  go_ret
  exact Gives.mk (by rw[HV.out];rfl)
 rw[szD_pos h5]
 go_wp2_with fail
 refine(d_lszStringS (HFF.out.q21.keep inferInstance) (by omega) (by omega)).mono ?_
 rintro _ _ ⟨rfl,y6,rfl⟩
 by_cases h6:left - totL x.Plan - totL x.Ups - totL x.Downs - Enc.tot x.Ground - Enc.tot x.Space - totL x.Offered - totL x.Took<0
 ·have HV:=lH (show szD left (Enc.tot x)=-1 from szD_neg (by rw[HTOT.out];omega))
  rw[szD_neg h6]
  go_wp2_with fail
  go_ret
  exact Gives.mk (by rw[HV.out];rfl)
 rw[szD_pos h6]
 have HV:=lH (show szD left (Enc.tot x)=left - totL x.Plan - totL x.Ups - totL x.Downs - Enc.tot x.Ground - Enc.tot x.Space - totL x.Offered - totL x.Took by rw[szD_pos (by rw[HTOT.out];omega),HTOT.out]<;>omega)
 go_wp2_with fail
 go_ret
 exact Gives.mk (by rw[HV.out];rfl)
set_option maxRecDepth 100000 in
set_option maxHeartbeats 2000000 in
theorem d_leqMission{B B2:Nat}{vs vs2:List Value}{x:TMission}{w:World}(h:Enc.Rd B w vs x)(h2:Enc.Rd B2 w vs2 x) :
  Calls Tryz.prog 24 #[.agg vs.toArray,.agg vs2.toArray] w (Gives w (.bool true)):=by
 obtain⟨A,rfl,F⟩:=h
 obtain⟨mA,rfl,mF⟩:=h2
 have HOK:=lH F.ok
 have HB:=lH ((Held.new w (cMission x A.a0 A.c0 A.a1 A.c1 A.a2 A.c2 A.a3 A.c3 A.a4 A.c4 A.a5 A.c5 A.a6 A.c6 A.a7 A.c7 A.a8 A.c8 A.a9 A.c9 A.a10 A.c10 A.a11 A.c11 A.a12 A.c12 A.a13 A.c13 A.a14 A.c14 A.a15 A.c15 A.a16 A.c16 A.a17 A.c17 A.a18 A.c18 A.a19 A.c19 A.a20 A.c20 A.a21 A.c21) 62 w.heap.size rfl).to (inferInstance:Grows _ ((w.alloc (.cells (cMission x A.a0 A.c0 A.a1 A.c1 A.a2 A.c2 A.a3 A.c3 A.a4 A.c4 A.a5 A.c5 A.a6 A.c6 A.a7 A.c7 A.a8 A.c8 A.a9 A.c9 A.a10 A.c10 A.a11 A.c11 A.a12 A.c12 A.a13 A.c13 A.a14 A.c14 A.a15 A.c15 A.a16 A.c16 A.a17 A.c17 A.a18 A.c18 A.a19 A.c19 A.a20 A.c20 A.a21 A.c21).toArray 62)).alloc (.cells (cMission x mA.a0 mA.c0 mA.a1 mA.c1 mA.a2 mA.c2 mA.a3 mA.c3 mA.a4 mA.c4 mA.a5 mA.c5 mA.a6 mA.c6 mA.a7 mA.c7 mA.a8 mA.c8 mA.a9 mA.c9 mA.a10 mA.c10 mA.a11 mA.c11 mA.a12 mA.c12 mA.a13 mA.c13 mA.a14 mA.c14 mA.a15 mA.c15 mA.a16 mA.c16 mA.a17 mA.c17 mA.a18 mA.c18 mA.a19 mA.c19 mA.a20 mA.c20 mA.a21 mA.c21).toArray 62))))
 have HC:=lH (Held.new (w.alloc (.cells (cMission x A.a0 A.c0 A.a1 A.c1 A.a2 A.c2 A.a3 A.c3 A.a4 A.c4 A.a5 A.c5 A.a6 A.c6 A.a7 A.c7 A.a8 A.c8 A.a9 A.c9 A.a10 A.c10 A.a11 A.c11 A.a12 A.c12 A.a13 A.c13 A.a14 A.c14 A.a15 A.c15 A.a16 A.c16 A.a17 A.c17 A.a18 A.c18 A.a19 A.c19 A.a20 A.c20 A.a21 A.c21).toArray 62)) (cMission x mA.a0 mA.c0 mA.a1 mA.c1 mA.a2 mA.c2 mA.a3 mA.c3 mA.a4 mA.c4 mA.a5 mA.c5 mA.a6 mA.c6 mA.a7 mA.c7 mA.a8 mA.c8 mA.a9 mA.c9 mA.a10 mA.c10 mA.a11 mA.c11 mA.a12 mA.c12 mA.a13 mA.c13 mA.a14 mA.c14 mA.a15 mA.c15 mA.a16 mA.c16 mA.a17 mA.c17 mA.a18 mA.c18 mA.a19 mA.c19 mA.a20 mA.c20 mA.a21 mA.c21) 62 (w.heap.size+1) (by simp))
 have HFF:=lH F;clear F
 have HMF:=lH mF;clear mF
 go_enter Tryz.func24,Tryz.ntmps24
 go_wp2_with (first|(refine stepLoad rfl _ _ rfl (w.heap.size) 2 rfl (row:=[.int .i64 x.Drift.Rate,.int .i64 x.Drift.Offset]) (HB.out.to inferInstance) _ Tryz.underlying25 rfl (by kernel_rfl) (by kernel_rfl) ?_)|(refine stepLoad rfl _ _ rfl (w.heap.size+1) 2 rfl (row:=[.int .i64 x.Drift.Rate,.int .i64 x.Drift.Offset]) (HC.out.to inferInstance) _ Tryz.underlying25 rfl (by kernel_rfl) (by kernel_rfl) ?_))
 refine(d_leqDrift (B:=0) (B2:=0) (x:=x.Drift) ⟨rfl,HOK.out.2.2.1⟩ ⟨rfl,HOK.out.2.2.1⟩).mono ?_
 rintro _ _ ⟨rfl,y0,rfl⟩
 go_wp2_with (first|(refine stepLoad rfl _ _ rfl (w.heap.size) 4 rfl (row:=[.int .i64 x.Orbit.Period,.int .i64 x.Orbit.Start,.int .i64 x.Orbit.Length]) (HB.out.to inferInstance) _ Tryz.underlying27 rfl (by kernel_rfl) (by kernel_rfl) ?_)|(refine stepLoad rfl _ _ rfl (w.heap.size+1) 4 rfl (row:=[.int .i64 x.Orbit.Period,.int .i64 x.Orbit.Start,.int .i64 x.Orbit.Length]) (HC.out.to inferInstance) _ Tryz.underlying27 rfl (by kernel_rfl) (by kernel_rfl) ?_))
 refine(d_leqOrbit (B:=0) (B2:=0) (x:=x.Orbit) ⟨rfl,HOK.out.2.2.2.1⟩ ⟨rfl,HOK.out.2.2.2.1⟩).mono ?_
 rintro _ _ ⟨rfl,y1,rfl⟩
 go_wp2_with fail
 refine(d_leqSlotS (HFF.out.q0.keep inferInstance) (HMF.out.q0.keep inferInstance)).mono ?_
 rintro _ _ ⟨rfl,y2,rfl⟩
 go_wp2_with (first|(refine stepLoad rfl _ _ rfl (w.heap.size) 8 rfl (row:=[.int .i64 x.Up.Seed,.int .i64 x.Up.Burst,.int .i64 x.Up.Loss]) (HB.out.to inferInstance) _ Tryz.underlying30 rfl (by kernel_rfl) (by kernel_rfl) ?_)|(refine stepLoad rfl _ _ rfl (w.heap.size+1) 8 rfl (row:=[.int .i64 x.Up.Seed,.int .i64 x.Up.Burst,.int .i64 x.Up.Loss]) (HC.out.to inferInstance) _ Tryz.underlying30 rfl (by kernel_rfl) (by kernel_rfl) ?_))
 refine(d_leqChannel (B:=0) (B2:=0) (x:=x.Up) ⟨rfl,HOK.out.2.2.2.2.1⟩ ⟨rfl,HOK.out.2.2.2.2.1⟩).mono ?_
 rintro _ _ ⟨rfl,y3,rfl⟩
 go_wp2_with (first|(refine stepLoad rfl _ _ rfl (w.heap.size) 11 rfl (row:=[.int .i64 x.Down.Seed,.int .i64 x.Down.Burst,.int .i64 x.Down.Loss]) (HB.out.to inferInstance) _ Tryz.underlying30 rfl (by kernel_rfl) (by kernel_rfl) ?_)|(refine stepLoad rfl _ _ rfl (w.heap.size+1) 11 rfl (row:=[.int .i64 x.Down.Seed,.int .i64 x.Down.Burst,.int .i64 x.Down.Loss]) (HC.out.to inferInstance) _ Tryz.underlying30 rfl (by kernel_rfl) (by kernel_rfl) ?_))
 refine(d_leqChannel (B:=0) (B2:=0) (x:=x.Down) ⟨rfl,HOK.out.2.2.2.2.2.1⟩ ⟨rfl,HOK.out.2.2.2.2.2.1⟩).mono ?_
 rintro _ _ ⟨rfl,y4,rfl⟩
 go_wp2_with fail
 refine(d_leqFlightS (HFF.out.q1.keep inferInstance) (HMF.out.q1.keep inferInstance)).mono ?_
 rintro _ _ ⟨rfl,y5,rfl⟩
 go_wp2_with fail
 refine(d_leqFlightS (HFF.out.q2.keep inferInstance) (HMF.out.q2.keep inferInstance)).mono ?_
 rintro _ _ ⟨rfl,y6,rfl⟩
 go_wp2_with (first|(refine stepLoad rfl _ _ rfl (w.heap.size) 16 rfl (row:=(cGround x.Ground A.a3 A.c3 A.a4 A.c4 A.a5 A.c5 A.a6 A.c6 A.a7 A.c7 A.a8 A.c8)) (HB.out.to inferInstance) _ Tryz.underlying45 rfl (by kernel_rfl) (by kernel_rfl) ?_)|(refine stepLoad rfl _ _ rfl (w.heap.size+1) 16 rfl (row:=(cGround x.Ground mA.a3 mA.c3 mA.a4 mA.c4 mA.a5 mA.c5 mA.a6 mA.c6 mA.a7 mA.c7 mA.a8 mA.c8)) (HC.out.to inferInstance) _ Tryz.underlying45 rfl (by kernel_rfl) (by kernel_rfl) ?_))
 refine(d_leqGround (x:=x.Ground) ⟨⟨A.a3,A.c3,A.a4,A.c4,A.a5,A.c5,A.a6,A.c6,A.a7,A.c7,A.a8,A.c8⟩,rfl,⟨HFF.out.q3.keep inferInstance,HFF.out.q4.keep inferInstance,HFF.out.q5.keep inferInstance,HFF.out.q6.keep inferInstance,HFF.out.q7.keep inferInstance,HFF.out.q8.keep inferInstance,HOK.out.2.2.2.2.2.2.1⟩⟩ ⟨⟨mA.a3,mA.c3,mA.a4,mA.c4,mA.a5,mA.c5,mA.a6,mA.c6,mA.a7,mA.c7,mA.a8,mA.c8⟩,rfl,⟨HMF.out.q3.keep inferInstance,HMF.out.q4.keep inferInstance,HMF.out.q5.keep inferInstance,HMF.out.q6.keep inferInstance,HMF.out.q7.keep inferInstance,HMF.out.q8.keep inferInstance,HOK.out.2.2.2.2.2.2.1⟩⟩).mono ?_
 rintro _ _ ⟨rfl,y7,rfl⟩
 go_wp2_with (first|(refine stepLoad rfl _ _ rfl (w.heap.size) 33 rfl (row:=(cSpace x.Space A.a9 A.c9 A.a10 A.c10 A.a11 A.c11 A.a12 A.c12 A.a13 A.c13 A.a14 A.c14 A.a15 A.c15 A.a16 A.c16 A.a17 A.c17 A.a18 A.c18 A.a19 A.c19)) (HB.out.to inferInstance) _ Tryz.underlying60 rfl (by kernel_rfl) (by kernel_rfl) ?_)|(refine stepLoad rfl _ _ rfl (w.heap.size+1) 33 rfl (row:=(cSpace x.Space mA.a9 mA.c9 mA.a10 mA.c10 mA.a11 mA.c11 mA.a12 mA.c12 mA.a13 mA.c13 mA.a14 mA.c14 mA.a15 mA.c15 mA.a16 mA.c16 mA.a17 mA.c17 mA.a18 mA.c18 mA.a19 mA.c19)) (HC.out.to inferInstance) _ Tryz.underlying60 rfl (by kernel_rfl) (by kernel_rfl) ?_))
 refine(d_leqSpace (x:=x.Space) ⟨⟨A.a9,A.c9,A.a10,A.c10,A.a11,A.c11,A.a12,A.c12,A.a13,A.c13,A.a14,A.c14,A.a15,A.c15,A.a16,A.c16,A.a17,A.c17,A.a18,A.c18,A.a19,A.c19⟩,rfl,⟨HFF.out.q9.keep inferInstance,HFF.out.q10.keep inferInstance,HFF.out.q11.keep inferInstance,HFF.out.q12.keep inferInstance,HFF.out.q13.keep inferInstance,HFF.out.q14.keep inferInstance,HFF.out.q15.keep inferInstance,HFF.out.q16.keep inferInstance,HFF.out.q17.keep inferInstance,HFF.out.q18.keep inferInstance,HFF.out.q19.keep inferInstance,HOK.out.2.2.2.2.2.2.2.1⟩⟩ ⟨⟨mA.a9,mA.c9,mA.a10,mA.c10,mA.a11,mA.c11,mA.a12,mA.c12,mA.a13,mA.c13,mA.a14,mA.c14,mA.a15,mA.c15,mA.a16,mA.c16,mA.a17,mA.c17,mA.a18,mA.c18,mA.a19,mA.c19⟩,rfl,⟨HMF.out.q9.keep inferInstance,HMF.out.q10.keep inferInstance,HMF.out.q11.keep inferInstance,HMF.out.q12.keep inferInstance,HMF.out.q13.keep inferInstance,HMF.out.q14.keep inferInstance,HMF.out.q15.keep inferInstance,HMF.out.q16.keep inferInstance,HMF.out.q17.keep inferInstance,HMF.out.q18.keep inferInstance,HMF.out.q19.keep inferInstance,HOK.out.2.2.2.2.2.2.2.1⟩⟩).mono ?_
 rintro _ _ ⟨rfl,y8,rfl⟩
 go_wp2_with fail
 refine(d_leqStringS (HFF.out.q20.keep inferInstance) (HMF.out.q20.keep inferInstance)).mono ?_
 rintro _ _ ⟨rfl,y9,rfl⟩
 go_wp2_with fail
 refine(d_leqStringS (HFF.out.q21.keep inferInstance) (HMF.out.q21.keep inferInstance)).mono ?_
 rintro _ _ ⟨rfl,y10,rfl⟩
 go_wp2_with fail
 go_ret
 exact Gives.mk rfl
end Go.Proofs.YtbaffippdifbpaaGreat
namespace Go.Proofs.YtbaffippdifbpaaGreat
set_option linter.unusedVariables false
open Go.ChangeShapes Go.WideShapes Go.ChangeAt Go.RowKit
theorem mbounds{m:TMission}{N:Int}(ht:Enc.tot m≤N):totL m.Took≤N∧totL m.Offered≤N∧Enc.tot m.Ground≤N∧Enc.tot m.Space≤N∧totL m.Plan≤N∧totL m.Ups≤N∧totL m.Downs≤N:=by
 have h:totL m.Plan+totL m.Ups+totL m.Downs+Enc.tot m.Ground+Enc.tot m.Space+totL m.Offered+totL m.Took≤N:=ht
 have h1:=totL_nonneg m.Plan;have h2:=totL_nonneg m.Ups;have h3:=totL_nonneg m.Downs;have h4:=Enc.tot_nonneg m.Ground;have h5:=Enc.tot_nonneg m.Space;have h6:=totL_nonneg m.Offered;have h7:=totL_nonneg m.Took
 omega
theorem one_mission{B:Nat}{w:World}{vs:List Value}{m:TMission}(h:Enc.Rd B w vs m):vs.all (·.oneCell')=true:=by
 obtain⟨A,h,-⟩:=h
 rw[h];rfl
end Go.Proofs.YtbaffippdifbpaaGreat
namespace Go.Proofs.YtbaffippdifbpaaGreat
set_option linter.unusedVariables false
open Go.ChangeShapes Go.WideShapes Go.ChangeAt Go.RowKit
def flightOk(x:TFlight):Bool:=inB x.At 0 1000050 && inB x.Data.size 1 404
def flightsOk(l:List TFlight):Bool:=decide (l.length≤1000) && l.all flightOk
def recordsOk(l:List TRecord):Bool:=decide (l.length≤5000) && l.all recordOk
theorem k_iflightsOk{B:Nat}{a:Option Addr}{c:Nat}{l:List TFlight}{w:World}(hs:RdS B w a c l)(hm:l.length≤100000000) :
  Calls Tryz.prog 136 #[.slice a l.length c] w (Gives w (.bool (flightsOk l))):=by
 obtain⟨n,hn⟩:∃ n,l.length=n:=⟨_,rfl⟩
 have HN:=lH hn
 have HD:=lH (show flightsOk l=(decide (n≤1000) && l.all flightOk)by rw[flightsOk,hn])
 rw[hn]at hm ⊢
 clear hn
 by_cases hmx:n≤1000
 ·go_enter Tryz.func136,Tryz.ntmps136
  go_wp2_with fail
  go_loopw [10] (fun v wr=>∃ k:Nat,v=.int .i64 k∧k≤n∧Hid ((l.drop k).all flightOk=l.all flightOk)∧∃ x:Later w,wr=x.w) (fun v _=>(n - intOf v).toNat)
  case atStart=>exact⟨0,rfl,by omega,rfl,Later.of⟩
  case round =>
   obtain⟨k,rfl,hk,HV,x,rfl⟩:=hrel
   by_cases h:k<n
   ·have hkl:k<l.length:=by have:=HN.out;omega
    obtain⟨eb,eoff,ex,rfl,ehb,ehd,eok,eh0,eh1⟩:=hs.atTFlight hkl
    have hz:ex.Data.size≤9223372036854775807:=eok.2.1
    have EOK:=lH eok;clear eok hkl
    cases hg:flightOk ex
    ·have HF:=lH (show l.all flightOk=false by have:=HV.out;rw[ehd.out,List.all_cons,hg]at this;rw[← this];rfl)
     cases c1:inB ex.At 0 1000050
     ·clear hg
      go_wp2_with (first|(go_at_call 127;refine(c_ibetween).mono ?_;rintro _ _ ⟨rfl,x,rfl⟩))
      go_ret
      exact Gives.mk (by rw[HD.out,HF.out,Bool.and_false];rfl)
     ·have c2:inB ex.Data.size 1 404=false:=by rw[flightOk,c1]at hg;exact hg
      clear hg
      go_wp2_with (first|(go_at_call 127;refine(c_ibetween).mono ?_;rintro _ _ ⟨rfl,x,rfl⟩))
      go_ret
      exact Gives.mk (by rw[HD.out,HF.out,Bool.and_false];rfl)
    ·have HF:=lH (show(l.drop (k+1)).all flightOk=l.all flightOk by have:=HV.out;rw[ehd.out,List.all_cons,hg,Bool.true_and]at this;exact this)
     have c1:inB ex.At 0 1000050=true:=by simp only[flightOk,Bool.and_eq_true]at hg;exact hg.1
     have c2:inB ex.Data.size 1 404=true:=by simp only[flightOk,Bool.and_eq_true]at hg;exact hg.2
     clear hg
     go_wp2_with (first|(go_at_call 127;refine(c_ibetween).mono ?_;rintro _ _ ⟨rfl,x,rfl⟩))
     go_roundw
     case rel=>exact⟨k+1,by go_num,by omega,HF,Later.of⟩
     case measure=>simp[intOf];omega
   ·have HF:=lH (show l.all flightOk=true by have:=HV.out;rw[List.drop_of_length_le (by have:=HN.out;omega)]at this;rw[← this];rfl)
    go_wp2_with fail
    go_ret
    exact Gives.mk (by rw[HD.out,HF.out,decide_eq_true hmx];rfl)
 ·go_enter Tryz.func136,Tryz.ntmps136
  go_wp2_with fail
  go_ret
  exact Gives.mk (by rw[HD.out,decide_eq_false hmx];rfl)
theorem k_irecordsOk{B:Nat}{a:Option Addr}{c:Nat}{l:List TRecord}{w:World}(hs:RdS B w a c l)(hm:l.length≤100000000) :
  Calls Tryz.prog 243 #[.slice a l.length c] w (Gives w (.bool (recordsOk l))):=by
 obtain⟨n,hn⟩:∃ n,l.length=n:=⟨_,rfl⟩
 have HN:=lH hn
 have HD:=lH (show recordsOk l=(decide (n≤5000) && l.all recordOk)by rw[recordsOk,hn])
 rw[hn]at hm ⊢
 clear hn
 by_cases hmx:n≤5000
 ·go_enter Tryz.func243,Tryz.ntmps243
  go_wp2_with fail
  go_loopw [10] (fun v wr=>∃ k:Nat,v=.int .i64 k∧k≤n∧Hid ((l.drop k).all recordOk=l.all recordOk)∧∃ x:Later w,wr=x.w) (fun v _=>(n - intOf v).toNat)
  case atStart=>exact⟨0,rfl,by omega,rfl,Later.of⟩
  case round =>
   obtain⟨k,rfl,hk,HV,x,rfl⟩:=hrel
   by_cases h:k<n
   ·have hkl:k<l.length:=by have:=HN.out;omega
    obtain⟨eb,eoff,ex,rfl,ehb,ehd,eok,eh0,eh1,eh2,eh3⟩:=hs.atTRecord hkl
    have hz:ex.Data.size≤9223372036854775807:=eok.2.2.2.1
    have EOK:=lH eok;clear eok hkl
    cases hg:recordOk ex
    ·have HF:=lH (show l.all recordOk=false by have:=HV.out;rw[ehd.out,List.all_cons,hg]at this;rw[← this];rfl)
     go_wp2_with (first|(go_at_call 300;refine(k_iRecordOk (by omega)).mono ?_;rintro _ _ ⟨rfl,x,rfl⟩))
     go_ret
     exact Gives.mk (by rw[HD.out,HF.out,Bool.and_false];rfl)
    ·have HF:=lH (show(l.drop (k+1)).all recordOk=l.all recordOk by have:=HV.out;rw[ehd.out,List.all_cons,hg,Bool.true_and]at this;exact this)
     go_wp2_with (first|(go_at_call 300;refine(k_iRecordOk (by omega)).mono ?_;rintro _ _ ⟨rfl,x,rfl⟩))
     go_roundw
     case rel=>exact⟨k+1,by go_num,by omega,HF,Later.of⟩
     case measure=>simp[intOf];omega
   ·have HF:=lH (show l.all recordOk=true by have:=HV.out;rw[List.drop_of_length_le (by have:=HN.out;omega)]at this;rw[← this];rfl)
    go_wp2_with fail
    go_ret
    exact Gives.mk (by rw[HD.out,HF.out,decide_eq_true hmx];rfl)
 ·go_enter Tryz.func243,Tryz.ntmps243
  go_wp2_with fail
  go_ret
  exact Gives.mk (by rw[HD.out,decide_eq_false hmx];rfl)
theorem k_sflightsOk{B:Nat}{a:Option Addr}{c:Nat}{l:List TFlight}{w:World}(hs:RdS B w a c l)(hm:l.length≤100000000) :
  Calls Tryz.prog 155 #[.slice a l.length c] w (Gives w (.bool (flightsOk l))):=by
 obtain⟨n,hn⟩:∃ n,l.length=n:=⟨_,rfl⟩
 have HN:=lH hn
 have HD:=lH (show flightsOk l=(decide (n≤1000) && l.all flightOk)by rw[flightsOk,hn])
 rw[hn]at hm ⊢
 clear hn
 go_enter Tryz.func155,Tryz.ntmps155
 go_wp2_with fail
 go_loopw [3] (fun v wr=>∃ k:Nat,v=.int .i64 k∧k≤n∧Hid ((l.drop k).all flightOk=l.all flightOk)∧∃ x:Later w,wr=x.w) (fun v _=>(n - intOf v).toNat)
 case atStart=>exact⟨0,rfl,by omega,rfl,Later.of⟩
 case round =>
  obtain⟨k,rfl,hk,HV,x,rfl⟩:=hrel
  by_cases h:k<n
  ·have hkl:k<l.length:=by have:=HN.out;omega
   obtain⟨eb,eoff,ex,rfl,ehb,ehd,eok,eh0,eh1⟩:=hs.atTFlight hkl
   have hz:ex.Data.size≤9223372036854775807:=eok.2.1
   have EOK:=lH eok;clear eok hkl
   cases hg:flightOk ex
   ·have HF:=lH (show l.all flightOk=false by have:=HV.out;rw[ehd.out,List.all_cons,hg]at this;rw[← this];rfl)
    cases c1:inB ex.At 0 1000050
    ·clear hg
     go_wp2_with (first|(go_at_call 151;refine(c_sl01In).mono ?_;rintro _ _ ⟨rfl,x,rfl⟩))
     go_ret
     exact Gives.mk (by rw[HD.out,HF.out,Bool.and_false];rfl)
    ·have c2:inB ex.Data.size 1 404=false:=by rw[flightOk,c1]at hg;exact hg
     clear hg
     go_wp2_with (first|(go_at_call 151;refine(c_sl01In).mono ?_;rintro _ _ ⟨rfl,x,rfl⟩))
     go_ret
     exact Gives.mk (by rw[HD.out,HF.out,Bool.and_false];rfl)
   ·have HF:=lH (show(l.drop (k+1)).all flightOk=l.all flightOk by have:=HV.out;rw[ehd.out,List.all_cons,hg,Bool.true_and]at this;exact this)
    have c1:inB ex.At 0 1000050=true:=by simp only[flightOk,Bool.and_eq_true]at hg;exact hg.1
    have c2:inB ex.Data.size 1 404=true:=by simp only[flightOk,Bool.and_eq_true]at hg;exact hg.2
    clear hg
    go_wp2_with (first|(go_at_call 151;refine(c_sl01In).mono ?_;rintro _ _ ⟨rfl,x,rfl⟩))
    go_roundw
    case rel=>exact⟨k+1,by go_num,by omega,HF,Later.of⟩
    case measure=>simp[intOf];omega
  ·have HF:=lH (show l.all flightOk=true by have:=HV.out;rw[List.drop_of_length_le (by have:=HN.out;omega)]at this;rw[← this];rfl)
   by_cases hmx:n≤1000
   ·have kx:decide ((n:Int)≤1000)=true:=by simp;omega
    go_wp2_with fail
    go_ret
    exact Gives.mk (by rw[HD.out,HF.out,decide_eq_true hmx];rfl)
   ·have kx:decide ((n:Int)≤1000)=false:=by simp;omega
    go_wp2_with fail
    go_ret
    exact Gives.mk (by rw[HD.out,HF.out,decide_eq_false hmx];rfl)
theorem k_srecordsOk{B:Nat}{a:Option Addr}{c:Nat}{l:List TRecord}{w:World}(hs:RdS B w a c l)(hm:l.length≤100000000) :
  Calls Tryz.prog 250 #[.slice a l.length c] w (Gives w (.bool (recordsOk l))):=by
 obtain⟨n,hn⟩:∃ n,l.length=n:=⟨_,rfl⟩
 have HN:=lH hn
 have HD:=lH (show recordsOk l=(decide (n≤5000) && l.all recordOk)by rw[recordsOk,hn])
 rw[hn]at hm ⊢
 clear hn
 go_enter Tryz.func250,Tryz.ntmps250
 go_wp2_with fail
 go_loopw [3] (fun v wr=>∃ k:Nat,v=.int .i64 k∧k≤n∧Hid ((l.drop k).all recordOk=l.all recordOk)∧∃ x:Later w,wr=x.w) (fun v _=>(n - intOf v).toNat)
 case atStart=>exact⟨0,rfl,by omega,rfl,Later.of⟩
 case round =>
  obtain⟨k,rfl,hk,HV,x,rfl⟩:=hrel
  by_cases h:k<n
  ·have hkl:k<l.length:=by have:=HN.out;omega
   obtain⟨eb,eoff,ex,rfl,ehb,ehd,eok,eh0,eh1,eh2,eh3⟩:=hs.atTRecord hkl
   have hz:ex.Data.size≤9223372036854775807:=eok.2.2.2.1
   have EOK:=lH eok;clear eok hkl
   cases hg:recordOk ex
   ·have HF:=lH (show l.all recordOk=false by have:=HV.out;rw[ehd.out,List.all_cons,hg]at this;rw[← this];rfl)
    go_wp2_with (first|(go_at_call 302;refine(k_sRecordOk (by omega)).mono ?_;rintro _ _ ⟨rfl,x,rfl⟩))
    go_ret
    exact Gives.mk (by rw[HD.out,HF.out,Bool.and_false];rfl)
   ·have HF:=lH (show(l.drop (k+1)).all recordOk=l.all recordOk by have:=HV.out;rw[ehd.out,List.all_cons,hg,Bool.true_and]at this;exact this)
    go_wp2_with (first|(go_at_call 302;refine(k_sRecordOk (by omega)).mono ?_;rintro _ _ ⟨rfl,x,rfl⟩))
    go_roundw
    case rel=>exact⟨k+1,by go_num,by omega,HF,Later.of⟩
    case measure=>simp[intOf];omega
  ·have HF:=lH (show l.all recordOk=true by have:=HV.out;rw[List.drop_of_length_le (by have:=HN.out;omega)]at this;rw[← this];rfl)
   by_cases hmx:n≤5000
   ·have kx:decide ((n:Int)≤5000)=true:=by simp;omega
    go_wp2_with fail
    go_ret
    exact Gives.mk (by rw[HD.out,HF.out,decide_eq_true hmx];rfl)
   ·have kx:decide ((n:Int)≤5000)=false:=by simp;omega
    go_wp2_with fail
    go_ret
    exact Gives.mk (by rw[HD.out,HF.out,decide_eq_false hmx];rfl)
end Go.Proofs.YtbaffippdifbpaaGreat
namespace Go.Proofs.YtbaffippdifbpaaGreat
set_option linter.unusedVariables false
open Go.ChangeShapes Go.WideShapes Go.ChangeAt Go.RowKit
def sentGood(next n:Int)(k:Nat)(x:TSent):Bool:=inB x.Data.size 1 40 && (x.Seq == (next - n+k+256) % 256)
def sentGo(next n:Int):Nat→List TSent→Bool
 | _,[]=>true
 | k,x::r=>sentGood next n k x && sentGo next n (k+1) r
def senderOk(s:TSender):Bool:=inB s.Next 0 255 && (inB s.Window 1 20 && (inB s.Done 0 1000000 && (decide ((s.Waiting.length:Int)≤s.Window) && sentGo s.Next s.Waiting.length 0 s.Waiting)))
theorem k_iSenderOk{B:Nat}{a:Option Addr}{c:Nat}{sd:TSender}{w:World}(hs:RdS B w a c sd.Waiting)(hm:sd.Waiting.length≤100000000)(hi:okDTSender sd) :
  Calls Tryz.prog 134 #[.agg #[.int .i64 sd.Next,.int .i64 sd.Window,.slice a sd.Waiting.length c,.int .i64 sd.Done]] w (Gives w (.bool (senderOk sd))):=by
 obtain⟨n,hn⟩:∃ n,sd.Waiting.length=n:=⟨_,rfl⟩
 have HN:=lH hn
 have HI:=lH hi;clear hi
 have HD:=lH (show senderOk sd=(inB sd.Next 0 255 && (inB sd.Window 1 20 && (inB sd.Done 0 1000000 && (decide ((n:Int)≤sd.Window) && sentGo sd.Next n 0 sd.Waiting))))by rw[senderOk,hn])
 rw[hn]at hm ⊢
 clear hn
 cases c0:inB sd.Next 0 255
 ·skip
  go_enter Tryz.func134,Tryz.ntmps134
  go_wp2_with (first|(go_at_call 127;refine(c_ibetween).mono ?_;rintro _ _ ⟨rfl,x,rfl⟩))
  go_ret
  exact Gives.mk (by rw[HD.out,c0];rfl)
 cases c1:inB sd.Window 1 20
 ·skip
  go_enter Tryz.func134,Tryz.ntmps134
  go_wp2_with (first|(go_at_call 127;refine(c_ibetween).mono ?_;rintro _ _ ⟨rfl,x,rfl⟩))
  go_ret
  exact Gives.mk (by rw[HD.out,c0,c1];rfl)
 cases c2:inB sd.Done 0 1000000
 ·skip
  go_enter Tryz.func134,Tryz.ntmps134
  go_wp2_with (first|(go_at_call 127;refine(c_ibetween).mono ?_;rintro _ _ ⟨rfl,x,rfl⟩))
  go_ret
  exact Gives.mk (by rw[HD.out,c0,c1,c2];rfl)
 have⟨hx1,hx2⟩:=inB_iff.1 c0
 have⟨hw1,hw2⟩:=inB_iff.1 c1
 by_cases hnw:(n:Int)≤sd.Window
 ·have kw:decide (sd.Window<(n:Int))=false:=by simp;omega
  have hn20:n≤20:=by omega
  have HD2:=lH (show senderOk sd=sentGo sd.Next n 0 sd.Waiting by rw[HD.out,c0,c1,c2,decide_eq_true hnw];rfl)
  clear HD
  go_enter Tryz.func134,Tryz.ntmps134
  go_wp2_with (first|(go_at_call 127;refine(c_ibetween).mono ?_;rintro _ _ ⟨rfl,x,rfl⟩))
  go_loopw [32] (fun v wr=>∃ k:Nat,v=.int .i64 k∧k≤n∧Hid (sentGo sd.Next n k (sd.Waiting.drop k)=sentGo sd.Next n 0 sd.Waiting)∧∃ X:Later (w.alloc (.cells #[.int .i64 sd.Next,.int .i64 sd.Window,.slice a n c,.int .i64 sd.Done] 35)),wr=X.w) (fun v _=>(n - intOf v).toNat)
  case atStart=>exact⟨0,rfl,by omega,rfl,Later.of⟩
  case round =>
   obtain⟨k,rfl,hk,HV,X,rfl⟩:=hrel
   by_cases h:k<n
   ·have hkl:k<sd.Waiting.length:=by have:=HN.out;omega
    obtain⟨eb,eoff,ex,rfl,ehb,ehd,eok,eh0,eh1⟩:=hs.atTSent hkl
    have hz:ex.Data.size≤9223372036854775807:=eok.2.1
    have EOK:=lH eok;clear eok hkl
    have EM:(sd.Next - n+k+256) % 256=(sd.Next - n+k) % 256:=Int.add_emod_right ..
    have EH:=lH EM;clear EM
    cases d1:inB ex.Data.size 1 40
    ·have HF:=lH (show senderOk sd=false by have:=HV.out;rw[ehd.out,sentGo,sentGood,d1]at this;rw[HD2.out,← this];rfl)
     cases d2:(ex.Seq == (sd.Next - n+k+256) % 256)
     ·have d3:(ex.Seq != (sd.Next - n+k+256) % 256)=true:=by rw[bne,d2];rfl
      go_wp2_with (first|(go_at_call 127;refine(c_ibetween).mono ?_;rintro _ _ ⟨rfl,x,rfl⟩))
      go_ret
      exact Gives.mk (by rw[HF.out];rfl)
     ·have d3:(ex.Seq != (sd.Next - n+k+256) % 256)=false:=by rw[bne,d2];rfl
      have D2:=lH d2;clear d2
      go_wp2_with (first|(go_at_call 127;refine(c_ibetween).mono ?_;rintro _ _ ⟨rfl,x,rfl⟩))
      go_ret
      exact Gives.mk (by rw[HF.out];rfl)
    ·cases d2:(ex.Seq == (sd.Next - n+k+256) % 256)
     ·have d3:(ex.Seq != (sd.Next - n+k+256) % 256)=true:=by rw[bne,d2];rfl
      have HF:=lH (show senderOk sd=false by have:=HV.out;rw[ehd.out,sentGo,sentGood,d1,d2]at this;rw[HD2.out,← this];rfl)
      go_wp2_with (first|(go_at_call 127;refine(c_ibetween).mono ?_;rintro _ _ ⟨rfl,x,rfl⟩))
      go_ret
      exact Gives.mk (by rw[HF.out];rfl)
     ·have d3:(ex.Seq != (sd.Next - n+k+256) % 256)=false:=by rw[bne,d2];rfl
      have HF:=lH (show sentGo sd.Next n (k+1) (sd.Waiting.drop (k+1))=sentGo sd.Next n 0 sd.Waiting by have:=HV.out;rw[ehd.out,sentGo,sentGood,d1,d2]at this;exact this)
      have D2:=lH d2;clear d2
      go_wp2_with (first|(go_at_call 127;refine(c_ibetween).mono ?_;rintro _ _ ⟨rfl,x,rfl⟩))
      go_roundw
      case rel=>exact⟨k+1,by go_num,by omega,HF,Later.of⟩
      case measure=>simp[intOf];omega
   ·have HF:=lH (show senderOk sd=true by have:=HV.out;rw[List.drop_of_length_le (by have:=HN.out;omega),sentGo]at this;rw[HD2.out,← this])
    go_wp2_with fail
    go_ret
    exact Gives.mk (by rw[HF.out];rfl)
 ·have kw:decide (sd.Window<(n:Int))=true:=by simp;omega
  have HD2:=lH (show senderOk sd=false by rw[HD.out,c0,c1,c2,decide_eq_false hnw];rfl)
  clear HD
  go_enter Tryz.func134,Tryz.ntmps134
  go_wp2_with (first|(go_at_call 127;refine(c_ibetween).mono ?_;rintro _ _ ⟨rfl,x,rfl⟩))
  go_ret
  exact Gives.mk (by rw[HD2.out];rfl)
theorem k_sSenderOk{B:Nat}{a:Option Addr}{c:Nat}{sd:TSender}{w:World}(hs:RdS B w a c sd.Waiting)(hm:sd.Waiting.length≤100000000)(hi:okDTSender sd) :
  Calls Tryz.prog 153 #[.agg #[.int .i64 sd.Next,.int .i64 sd.Window,.slice a sd.Waiting.length c,.int .i64 sd.Done]] w (Gives w (.bool (senderOk sd))):=by
 obtain⟨n,hn⟩:∃ n,sd.Waiting.length=n:=⟨_,rfl⟩
 have HN:=lH hn
 have HI:=lH hi;clear hi
 have HD:=lH (show senderOk sd=(inB sd.Next 0 255 && (inB sd.Window 1 20 && (inB sd.Done 0 1000000 && (decide ((n:Int)≤sd.Window) && sentGo sd.Next n 0 sd.Waiting))))by rw[senderOk,hn])
 rw[hn]at hm ⊢
 clear hn
 cases c0:inB sd.Next 0 255
 ·skip
  go_enter Tryz.func153,Tryz.ntmps153
  go_wp2_with (first|(go_at_call 151;refine(c_sl01In).mono ?_;rintro _ _ ⟨rfl,x,rfl⟩))
  go_ret
  exact Gives.mk (by rw[HD.out,c0];rfl)
 cases c1:inB sd.Window 1 20
 ·skip
  go_enter Tryz.func153,Tryz.ntmps153
  go_wp2_with (first|(go_at_call 151;refine(c_sl01In).mono ?_;rintro _ _ ⟨rfl,x,rfl⟩))
  go_ret
  exact Gives.mk (by rw[HD.out,c0,c1];rfl)
 cases c2:inB sd.Done 0 1000000
 ·skip
  go_enter Tryz.func153,Tryz.ntmps153
  go_wp2_with (first|(go_at_call 151;refine(c_sl01In).mono ?_;rintro _ _ ⟨rfl,x,rfl⟩))
  go_ret
  exact Gives.mk (by rw[HD.out,c0,c1,c2];rfl)
 have⟨hx1,hx2⟩:=inB_iff.1 c0
 have⟨hw1,hw2⟩:=inB_iff.1 c1
 by_cases hnw:(n:Int)≤sd.Window
 ·have kw:decide (sd.Window<(n:Int))=false:=by simp;omega
  have hn20:n≤20:=by omega
  have HD2:=lH (show senderOk sd=sentGo sd.Next n 0 sd.Waiting by rw[HD.out,c0,c1,c2,decide_eq_true hnw];rfl)
  clear HD
  go_enter Tryz.func153,Tryz.ntmps153
  go_wp2_with (first|(go_at_call 151;refine(c_sl01In).mono ?_;rintro _ _ ⟨rfl,x,rfl⟩))
  go_loopw [4] (fun v wr=>∃ k:Nat,v=.int .i64 k∧k≤n∧Hid (sentGo sd.Next n k (sd.Waiting.drop k)=sentGo sd.Next n 0 sd.Waiting)∧∃ X:Later (w.alloc (.cells #[.int .i64 sd.Next,.int .i64 sd.Window,.slice a n c,.int .i64 sd.Done] 35)),wr=X.w) (fun v _=>(n - intOf v).toNat)
  case atStart=>exact⟨0,rfl,by omega,rfl,Later.of⟩
  case round =>
   obtain⟨k,rfl,hk,HV,X,rfl⟩:=hrel
   by_cases h:k<n
   ·have hkl:k<sd.Waiting.length:=by have:=HN.out;omega
    obtain⟨eb,eoff,ex,rfl,ehb,ehd,eok,eh0,eh1⟩:=hs.atTSent hkl
    have hz:ex.Data.size≤9223372036854775807:=eok.2.1
    have EOK:=lH eok;clear eok hkl
    have EM:(sd.Next - n+k+256) % 256=(sd.Next - n+k) % 256:=Int.add_emod_right ..
    have EH:=lH EM;clear EM
    cases d1:inB ex.Data.size 1 40
    ·have HF:=lH (show senderOk sd=false by have:=HV.out;rw[ehd.out,sentGo,sentGood,d1]at this;rw[HD2.out,← this];rfl)
     cases d2:(ex.Seq == (sd.Next - n+k) % 256)
     ·have d3:(ex.Seq != (sd.Next - n+k) % 256)=true:=by rw[bne,d2];rfl
      go_wp2_with (first|(go_at_call 151;refine(c_sl01In).mono ?_;rintro _ _ ⟨rfl,x,rfl⟩))
      go_ret
      exact Gives.mk (by rw[HF.out];rfl)
     ·have d3:(ex.Seq != (sd.Next - n+k) % 256)=false:=by rw[bne,d2];rfl
      have D2:=lH d2;clear d2
      go_wp2_with (first|(go_at_call 151;refine(c_sl01In).mono ?_;rintro _ _ ⟨rfl,x,rfl⟩))
      go_ret
      exact Gives.mk (by rw[HF.out];rfl)
    ·cases d2:(ex.Seq == (sd.Next - n+k) % 256)
     ·have d3:(ex.Seq != (sd.Next - n+k) % 256)=true:=by rw[bne,d2];rfl
      have HF:=lH (show senderOk sd=false by have:=HV.out;rw[ehd.out,sentGo,sentGood,EH.out,d1,d2]at this;rw[HD2.out,← this];rfl)
      go_wp2_with (first|(go_at_call 151;refine(c_sl01In).mono ?_;rintro _ _ ⟨rfl,x,rfl⟩))
      go_ret
      exact Gives.mk (by rw[HF.out];rfl)
     ·have d3:(ex.Seq != (sd.Next - n+k) % 256)=false:=by rw[bne,d2];rfl
      have HF:=lH (show sentGo sd.Next n (k+1) (sd.Waiting.drop (k+1))=sentGo sd.Next n 0 sd.Waiting by have:=HV.out;rw[ehd.out,sentGo,sentGood,EH.out,d1,d2]at this;exact this)
      have D2:=lH d2;clear d2
      go_wp2_with (first|(go_at_call 151;refine(c_sl01In).mono ?_;rintro _ _ ⟨rfl,x,rfl⟩))
      go_roundw
      case rel=>exact⟨k+1,by go_num,by omega,HF,Later.of⟩
      case measure=>simp[intOf];omega
   ·have HF:=lH (show senderOk sd=true by have:=HV.out;rw[List.drop_of_length_le (by have:=HN.out;omega),sentGo]at this;rw[HD2.out,← this])
    go_wp2_with fail
    go_ret
    exact Gives.mk (by rw[HF.out];rfl)
 ·have kw:decide (sd.Window<(n:Int))=true:=by simp;omega
  have HD2:=lH (show senderOk sd=false by rw[HD.out,c0,c1,c2,decide_eq_false hnw];rfl)
  clear HD
  go_enter Tryz.func153,Tryz.ntmps153
  go_wp2_with (first|(go_at_call 151;refine(c_sl01In).mono ?_;rintro _ _ ⟨rfl,x,rfl⟩))
  go_ret
  exact Gives.mk (by rw[HD2.out];rfl)
end Go.Proofs.YtbaffippdifbpaaGreat
namespace Go.Proofs.YtbaffippdifbpaaGreat
set_option linter.unusedVariables false
open Go.ChangeShapes Go.WideShapes Go.ChangeAt Go.RowKit
def ascGo{α:Type}(good:α→Bool)(key:α→Int):Option α→List α→Bool
 | _,[]=>true
 | none,s::r=>good s && ascGo good key (some s) r
 | some q,s::r=>good s && (decide (key q<key s) && ascGo good key (some s) r)
def prevOf{α:Type}(l:List α)(k:Nat):Option α:=if k=0 then none else l[k - 1]?
theorem prevOf_succ{α:Type}{l r:List α}{k:Nat}{s:α}(h:l.drop k=s::r):prevOf l (k+1)=some s:=by
 have h0:(l.drop k)[0]?=some s:=by rw[h];rfl
 rw[List.getElem?_drop]at h0
 simpa[prevOf]using h0
def startOk(n:Nat)(s:Int):Bool:=inB s 0 (n - 1)
def packerOk(p:TPacker):Bool:=inB p.Channel 0 2 && (inB p.Count 0 255 && (decide ((p.Rest.size:Int)≤5000) && ascGo (startOk p.Rest.size) (fun s=>s) none p.Starts))
theorem k_iPackerOk{B:Nat}{a:Option Addr}{c:Nat}{p:TPacker}{w:World}(hs:RdS B w a c p.Starts)(hm:p.Starts.length≤100000000)(hz:p.Rest.size≤100000000) :
  Calls Tryz.prog 245 #[.agg #[.int .i64 p.Channel,.int .i64 p.Count,.string p.Rest,.slice a p.Starts.length c]] w (Gives w (.bool (packerOk p))):=by
 obtain⟨n,hn⟩:∃ n,p.Starts.length=n:=⟨_,rfl⟩
 have HN:=lH hn
 have HD:=lH (show packerOk p=(inB p.Channel 0 2 && (inB p.Count 0 255 && (decide ((p.Rest.size:Int)≤5000) && ascGo (startOk p.Rest.size) (fun s=>s) none p.Starts)))from rfl)
 rw[hn]at hm ⊢
 clear hn
 have hz9:p.Rest.size≤9223372036854775807:=by omega
 cases c0:inB p.Channel 0 2
 ·go_enter Tryz.func245,Tryz.ntmps245
  go_wp2_with (first|(go_at_call 127;refine(c_ibetween).mono ?_;rintro _ _ ⟨rfl,x,rfl⟩))
  go_ret
  exact Gives.mk (by rw[HD.out,c0];rfl)
 cases c1:inB p.Count 0 255
 ·go_enter Tryz.func245,Tryz.ntmps245
  go_wp2_with (first|(go_at_call 127;refine(c_ibetween).mono ?_;rintro _ _ ⟨rfl,x,rfl⟩))
  go_ret
  exact Gives.mk (by rw[HD.out,c0,c1];rfl)
 by_cases hr:p.Rest.size≤5000
 ·have kr:decide (5000<(p.Rest.size:Int))=false:=by simp;omega
  have hd3:decide ((p.Rest.size:Int)≤5000)=true:=by simp;omega
  have HD2:=lH hd3;clear hd3
  have HC:=lH (And.intro c0 c1)
  go_enter Tryz.func245,Tryz.ntmps245
  go_wp2_with (first|(go_at_call 127;refine(c_ibetween).mono ?_;rintro _ _ ⟨rfl,x,rfl⟩))
  clear c0 c1
  go_loopw [24] (fun v wr=>∃ k:Nat,v=.int .i64 k∧k≤n∧Hid (ascGo (startOk p.Rest.size) (fun s=>s) (prevOf p.Starts k) (p.Starts.drop k)=ascGo (startOk p.Rest.size) (fun s=>s) none p.Starts)∧∃ X:Later (w.alloc (.cells #[.int .i64 p.Channel,.int .i64 p.Count,.string p.Rest,.slice a n c] 57)),wr=X.w) (fun v _=>(n - intOf v).toNat)
  case atStart=>exact⟨0,rfl,by omega,rfl,Later.of⟩
  case round =>
   obtain⟨k,rfl,hk,HV,X,rfl⟩:=hrel
   by_cases h:k<n
   ·have hkl:k<p.Starts.length:=by have:=HN.out;omega
    obtain⟨eb,eoff,es,rfl,ehb,ehd,eok,eh0⟩:=hs.atInt hkl
    have EOK:=lH eok;clear eok hkl
    cases d1:inB es 0 (p.Rest.size - 1)
    ·have HF:=lH (show ascGo (startOk p.Rest.size) (fun s=>s) none p.Starts=false by have:=HV.out;rw[ehd.out]at this;rw[← this];cases prevOf p.Starts k<;>simp[ascGo,startOk,d1])
     go_wp2_with (first|(go_at_call 127;refine(c_ibetween).mono ?_;rintro _ _ ⟨rfl,x,rfl⟩))
     go_ret
     exact Gives.mk (by rw[HD.out,HF.out];simp)
    ·by_cases hz0:k=0
     ·have HF:=lH (show ascGo (startOk p.Rest.size) (fun s=>s) (prevOf p.Starts (k+1)) (p.Starts.drop (k+1))=ascGo (startOk p.Rest.size) (fun s=>s) none p.Starts by have:=HV.out;rw[ehd.out,hz0]at this;rw[prevOf_succ ehd.out,← this];simp[ascGo,prevOf,startOk,d1,hz0])
      have hz':decide (0<(k:Int))=false:=by simp;omega
      have hz2:decide (0<k)=false:=by simp;omega
      clear hz0
      go_wp2_with (first|(go_at_call 127;refine(c_ibetween).mono ?_;rintro _ _ ⟨rfl,x,rfl⟩))
      go_roundw
      case rel=>exact⟨k+1,by go_num,by omega,HF,Later.of⟩
      case measure=>simp[intOf];omega
     ·obtain⟨fb,foff,fs,hbo,fhb,fhd,fok,fh0⟩:=hs.atInt (show k - 1<p.Starts.length by have:=HN.out;omega)
      simp only[Option.some.injEq,Addr.mk.injEq,and_true]at hbo
      obtain⟨rfl,rfl⟩:=hbo
      have FOK:=lH fok;clear fok
      have hz':decide (0<(k:Int))=true:=by simp;omega
      have hz2:decide (0<k)=true:=by simp;omega
      have hp:prevOf p.Starts k=some fs:=by have:=prevOf_succ fhd.out;rwa[show k - 1+1=k from by omega]at this
      have HP:=lH hp;clear hp
      cases d2:decide (es≤fs)
      ·have HF:=lH (show ascGo (startOk p.Rest.size) (fun s=>s) (prevOf p.Starts (k+1)) (p.Starts.drop (k+1))=ascGo (startOk p.Rest.size) (fun s=>s) none p.Starts by have:=HV.out;rw[ehd.out,HP.out]at this;rw[prevOf_succ ehd.out,← this];have h2:decide (fs<es)=true:=(by simp at d2 ⊢;omega);simp only[ascGo,startOk,d1,h2,Bool.true_and])
       go_wp2_with (first|(go_at_call 127;refine(c_ibetween).mono ?_;rintro _ _ ⟨rfl,x,rfl⟩))
       go_roundw
       case rel=>exact⟨k+1,by go_num,by omega,HF,Later.of⟩
       case measure=>simp[intOf];omega
      ·have HF:=lH (show ascGo (startOk p.Rest.size) (fun s=>s) none p.Starts=false by have:=HV.out;rw[ehd.out,HP.out]at this;rw[← this];have h2:decide (fs<es)=false:=(by simp at d2 ⊢;omega);simp only[ascGo,startOk,d1,h2,Bool.true_and,Bool.false_and])
       go_wp2_with (first|(go_at_call 127;refine(c_ibetween).mono ?_;rintro _ _ ⟨rfl,x,rfl⟩))
       go_ret
       exact Gives.mk (by rw[HD.out,HF.out];simp)
   ·have HF:=lH (show ascGo (startOk p.Rest.size) (fun s=>s) none p.Starts=true by have:=HV.out;rw[List.drop_of_length_le (by have:=HN.out;omega)]at this;rw[← this];cases prevOf p.Starts k<;>rfl)
    go_wp2_with fail
    go_ret
    exact Gives.mk (by rw[HD.out,HF.out,HD2.out,HC.out.1,HC.out.2];rfl)
 ·have kr:decide (5000<(p.Rest.size:Int))=true:=by simp;omega
  have hd3:decide ((p.Rest.size:Int)≤5000)=false:=by simp;omega
  have HD2:=lH hd3;clear hd3
  go_enter Tryz.func245,Tryz.ntmps245
  go_wp2_with (first|(go_at_call 127;refine(c_ibetween).mono ?_;rintro _ _ ⟨rfl,x,rfl⟩))
  go_ret
  exact Gives.mk (by rw[HD.out,HD2.out];simp)
theorem k_sPackerOk{B:Nat}{a:Option Addr}{c:Nat}{p:TPacker}{w:World}(hs:RdS B w a c p.Starts)(hm:p.Starts.length≤100000000)(hz:p.Rest.size≤100000000) :
  Calls Tryz.prog 252 #[.agg #[.int .i64 p.Channel,.int .i64 p.Count,.string p.Rest,.slice a p.Starts.length c]] w (Gives w (.bool (packerOk p))):=by
 obtain⟨n,hn⟩:∃ n,p.Starts.length=n:=⟨_,rfl⟩
 have HN:=lH hn
 have HD:=lH (show packerOk p=(inB p.Channel 0 2 && (inB p.Count 0 255 && (decide ((p.Rest.size:Int)≤5000) && ascGo (startOk p.Rest.size) (fun s=>s) none p.Starts)))from rfl)
 rw[hn]at hm ⊢
 clear hn
 have hz9:p.Rest.size≤9223372036854775807:=by omega
 go_enter Tryz.func252,Tryz.ntmps252
 go_wp2_with fail
 go_loopw [3] (fun v wr=>∃ k:Nat,v=.int .i64 k∧k≤n∧Hid (ascGo (startOk p.Rest.size) (fun s=>s) (prevOf p.Starts k) (p.Starts.drop k)=ascGo (startOk p.Rest.size) (fun s=>s) none p.Starts)∧∃ X:Later (w.alloc (.cells #[.int .i64 p.Channel,.int .i64 p.Count,.string p.Rest,.slice a n c] 57)),wr=X.w) (fun v _=>(n - intOf v).toNat)
 case atStart=>exact⟨0,rfl,by omega,rfl,Later.of⟩
 case round =>
  obtain⟨k,rfl,hk,HV,X,rfl⟩:=hrel
  by_cases h:k<n
  ·have hkl:k<p.Starts.length:=by have:=HN.out;omega
   obtain⟨eb,eoff,es,rfl,ehb,ehd,eok,eh0⟩:=hs.atInt hkl
   have EOK:=lH eok;clear eok hkl
   cases d1:inB es 0 (p.Rest.size - 1)
   ·have HF:=lH (show ascGo (startOk p.Rest.size) (fun s=>s) none p.Starts=false by have:=HV.out;rw[ehd.out]at this;rw[← this];cases prevOf p.Starts k<;>simp[ascGo,startOk,d1])
    go_wp2_with (first|((with_reducible refine wp_region_later (by kernel_rfl) (by kernel_rfl) ?_);(repeat(first|go_big_quiet_step (first|(go_at_call 151;exact Gives.quiet (c_sl01In)))|simp only[d1]));refine wpQuiet_nil ?_;rintro _ ⟨x,rfl⟩)|(go_at_call 151;refine(c_sl01In).mono ?_;rintro _ _ ⟨rfl,x,rfl⟩))
    go_ret
    exact Gives.mk (by rw[HD.out,HF.out];simp)
   ·by_cases hz0:k=0
    ·have HF:=lH (show ascGo (startOk p.Rest.size) (fun s=>s) (prevOf p.Starts (k+1)) (p.Starts.drop (k+1))=ascGo (startOk p.Rest.size) (fun s=>s) none p.Starts by have:=HV.out;rw[ehd.out,hz0]at this;rw[prevOf_succ ehd.out,← this];simp[ascGo,prevOf,startOk,d1,hz0])
     have hz':decide (0<(k:Int))=false:=by simp;omega
     have hz2:decide (0<k)=false:=by simp;omega
     clear hz0
     go_wp2_with (first|((with_reducible refine wp_region_later (by kernel_rfl) (by kernel_rfl) ?_);(repeat(first|go_big_quiet_step (first|(go_at_call 151;exact Gives.quiet (c_sl01In)))|simp only[d1]|simp only[hz']|simp only[hz2]));refine wpQuiet_nil ?_;rintro _ ⟨x,rfl⟩)|(go_at_call 151;refine(c_sl01In).mono ?_;rintro _ _ ⟨rfl,x,rfl⟩))
     go_roundw
     case rel=>exact⟨k+1,by go_num,by omega,HF,Later.of⟩
     case measure=>simp[intOf];omega
    ·obtain⟨fb,foff,fs,hbo,fhb,fhd,fok,fh0⟩:=hs.atInt (show k - 1<p.Starts.length by have:=HN.out;omega)
     simp only[Option.some.injEq,Addr.mk.injEq,and_true]at hbo
     obtain⟨rfl,rfl⟩:=hbo
     have FOK:=lH fok;clear fok
     have hz':decide (0<(k:Int))=true:=by simp;omega
     have hz2:decide (0<k)=true:=by simp;omega
     have hp:prevOf p.Starts k=some fs:=by have:=prevOf_succ fhd.out;rwa[show k - 1+1=k from by omega]at this
     have HP:=lH hp;clear hp
     cases d2:decide (es≤fs)
     ·have HF:=lH (show ascGo (startOk p.Rest.size) (fun s=>s) (prevOf p.Starts (k+1)) (p.Starts.drop (k+1))=ascGo (startOk p.Rest.size) (fun s=>s) none p.Starts by have:=HV.out;rw[ehd.out,HP.out]at this;rw[prevOf_succ ehd.out,← this];have h2:decide (fs<es)=true:=(by simp at d2 ⊢;omega);simp only[ascGo,startOk,d1,h2,Bool.true_and])
      go_wp2_with (first|((with_reducible refine wp_region_later (by kernel_rfl) (by kernel_rfl) ?_);(repeat(first|go_big_quiet_step (first|(go_at_call 151;exact Gives.quiet (c_sl01In)))|simp only[d1]|simp only[d2]|simp only[hz']|simp only[hz2]));refine wpQuiet_nil ?_;rintro _ ⟨x,rfl⟩)|(go_at_call 151;refine(c_sl01In).mono ?_;rintro _ _ ⟨rfl,x,rfl⟩))
      go_roundw
      case rel=>exact⟨k+1,by go_num,by omega,HF,Later.of⟩
      case measure=>simp[intOf];omega
     ·have HF:=lH (show ascGo (startOk p.Rest.size) (fun s=>s) none p.Starts=false by have:=HV.out;rw[ehd.out,HP.out]at this;rw[← this];have h2:decide (fs<es)=false:=(by simp at d2 ⊢;omega);simp only[ascGo,startOk,d1,h2,Bool.true_and,Bool.false_and])
      go_wp2_with (first|((with_reducible refine wp_region_later (by kernel_rfl) (by kernel_rfl) ?_);(repeat(first|go_big_quiet_step (first|(go_at_call 151;exact Gives.quiet (c_sl01In)))|simp only[d1]|simp only[d2]|simp only[hz']|simp only[hz2]));refine wpQuiet_nil ?_;rintro _ ⟨x,rfl⟩)|(go_at_call 151;refine(c_sl01In).mono ?_;rintro _ _ ⟨rfl,x,rfl⟩))
      go_ret
      exact Gives.mk (by rw[HD.out,HF.out];simp)
  ·have HF:=lH (show ascGo (startOk p.Rest.size) (fun s=>s) none p.Starts=true by have:=HV.out;rw[List.drop_of_length_le (by have:=HN.out;omega)]at this;rw[← this];cases prevOf p.Starts k<;>rfl)
   cases c0:inB p.Channel 0 2
   ·go_wp2_with (first|(go_at_call 151;refine(c_sl01In).mono ?_;rintro _ _ ⟨rfl,x,rfl⟩))
    go_ret
    exact Gives.mk (by rw[HD.out,c0];rfl)
   cases c1:inB p.Count 0 255
   ·go_wp2_with (first|(go_at_call 151;refine(c_sl01In).mono ?_;rintro _ _ ⟨rfl,x,rfl⟩))
    go_ret
    exact Gives.mk (by rw[HD.out,c0,c1];rfl)
   cases kr:decide ((p.Rest.size:Int)≤5000)
   ·go_wp2_with (first|(go_at_call 151;refine(c_sl01In).mono ?_;rintro _ _ ⟨rfl,x,rfl⟩))
    go_ret
    exact Gives.mk (by rw[HD.out,c0,c1,kr];rfl)
   ·go_wp2_with (first|(go_at_call 151;refine(c_sl01In).mono ?_;rintro _ _ ⟨rfl,x,rfl⟩))
    go_ret
    exact Gives.mk (by rw[HD.out,c0,c1,kr,HF.out];rfl)
end Go.Proofs.YtbaffippdifbpaaGreat
