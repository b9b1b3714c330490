/- The contracts of functions that copy structs: the code's. No condition but on sizes. -/
import Derived.Test.YtbaffippdifbpaaGreatWM17
namespace Go.Proofs.YtbaffippdifbpaaGreat
set_option linter.unusedVariables false
open Go.ChangeShapes Go.WideShapes Go.ChangeAt Go.RowKit
theorem o_cloneRecorder{B:Nat}{vs:List Value}{x:TRecorder}{w:World}(h:Enc.Rd B w vs x)(ht:Enc.tot x≤100000000) :
  Calls Tryz.prog 294 #[.agg vs.toArray] w (GivesO w x):=by
 obtain⟨a0,c0,a1,c1,rfl,q0,q1,hok⟩:=h
 have HT:=lH (show x.Records.length≤100000000∧x.Dropped.length≤100000000∧True from by
  have:Enc.tot x=totL x.Records+totL x.Dropped:=rfl
  have:=totL_nonneg x.Records;have:=totL_len x.Records
  have:=totL_nonneg x.Dropped;have:=totL_len x.Dropped
  refine⟨?_,?_,trivial⟩<;>omega)
 have HT0:=lH ht;clear ht
 have HQ0:=lH q0;clear q0
 have HQ1:=lH q1;clear q1
 have HOK:=lH hok;clear hok
 have S0:=lH ((Held.new w [.int .i64 x.Room,.slice a0 x.Records.length c0,.slice a1 x.Dropped.length c1] 53 w.heap.size rfl).to (inferInstance:Grows _ ((w.alloc (.cells #[.int .i64 x.Room,.slice a0 x.Records.length c0,.slice a1 x.Dropped.length c1] 53)).alloc (.cells #[.int .i64 0,.slice none 0 0,.slice none 0 0] 53))))
 have R0:=lH ((Held.new (w.alloc (.cells #[.int .i64 x.Room,.slice a0 x.Records.length c0,.slice a1 x.Dropped.length c1] 53)) [.int .i64 0,.slice none 0 0,.slice none 0 0] 53 (w.heap.size+1) (by simp)).to (inferInstance:Grows _ ((w.alloc (.cells #[.int .i64 x.Room,.slice a0 x.Records.length c0,.slice a1 x.Dropped.length c1] 53)).alloc (.cells #[.int .i64 0,.slice none 0 0,.slice none 0 0] 53))))
 go_enter Tryz.func294,Tryz.ntmps294
 go_wp2_with (first|(refine stepLoad1 rfl _ _ rfl w.heap.size 1 rfl (S0.out.to inferInstance) _ rfl _ Tryz.underlying41 rfl ?_))
 refine(o_cloneTRecord (HQ0.out.keep inferInstance) (HT.out.1)).mono ?_
 rintro _ _ ⟨na0,nc0,rfl,no0,y0,rfl⟩
 have O0:=lH no0;clear no0
 go_wp2_with (first|(refine stepStore2 rfl _ _ _ rfl (w.heap.size) 1 rfl (us:=[.slice na0 x.Records.length nc0]) (cs2:=[.int .i64 x.Room,.slice na0 x.Records.length nc0,.slice a1 x.Dropped.length c1]) (S0.out.to inferInstance) rfl (by kernel_rfl) rfl (Nat.le_of_ble_eq_true rfl) (by kernel_rfl) (w0:=w) inferInstance (by simp) ?_;intro z1 h1 k1;have HZ1:=lH h1;clear h1;have K1:=lH k1;have RZ1:=lH ((R0.out.to inferInstance).but k1 (by omega));clear k1;have e1:LeN (w.heap.size+2) z1.w.heap.size:=⟨RZ1.out.lt⟩;clear R0 S0)|(refine stepLoad1 rfl _ _ rfl w.heap.size 2 rfl (HZ1.out.to inferInstance) _ rfl _ Tryz.underlying48 rfl ?_))
 refine(o_cloneInt (HQ1.out.keep inferInstance) (HT.out.2.1)).mono ?_
 rintro _ _ ⟨na1,nc1,rfl,no1,y1,rfl⟩
 have O1:=lH no1;clear no1
 go_wp2_with (first|(refine stepStore2 rfl _ _ _ rfl (w.heap.size) 2 rfl (us:=[.slice na1 x.Dropped.length nc1]) (cs2:=[.int .i64 x.Room,.slice na0 x.Records.length nc0,.slice na1 x.Dropped.length nc1]) (HZ1.out.to inferInstance) rfl (by kernel_rfl) rfl (Nat.le_of_ble_eq_true rfl) (by kernel_rfl) (w0:=w) inferInstance (by simp) ?_;intro z2 h2 k2;have HZ2:=lH h2;clear h2;have K2:=lH k2;have RZ2:=lH ((RZ1.out.to inferInstance).but k2 (by omega));clear k2;have e2:LeN (w.heap.size+2) z2.w.heap.size:=⟨RZ2.out.lt⟩;clear HZ1 RZ1)|(refine stepLoad rfl _ _ rfl (w.heap.size) 0 rfl (row:=[.int .i64 x.Room,.slice na0 x.Records.length nc0,.slice na1 x.Dropped.length nc1]) (HZ2.out.to inferInstance) _ Tryz.underlying53 rfl (by kernel_rfl) (by kernel_rfl) ?_)|(refine stepStore2 rfl _ _ _ rfl (w.heap.size+1) 0 rfl (us:=[.int .i64 x.Room,.slice na0 x.Records.length nc0,.slice na1 x.Dropped.length nc1]) (cs2:=[.int .i64 x.Room,.slice na0 x.Records.length nc0,.slice na1 x.Dropped.length nc1]) (RZ2.out.to inferInstance) rfl (by kernel_rfl) rfl (Nat.le_of_ble_eq_true rfl) (by kernel_rfl) (w0:=w) inferInstance (by simp) ?_;intro zr hr kr;have HR:=lH hr;clear hr;have KR:=lH kr;clear kr))
 have GZ2:Keeps (w.heap.size+2) z2.w zr.w:=KR.out.keeps (by omega)
 have GY1:Keeps (w.heap.size+2) y1.w zr.w:=Keeps.trans (K2.out.keeps (by omega)) GZ2
 have GZ1:Keeps (w.heap.size+2) z1.w zr.w:=Keeps.trans (inferInstance:Keeps (w.heap.size+2) z1.w y1.w) GY1
 have GY0:Keeps (w.heap.size+2) y0.w zr.w:=Keeps.trans (K1.out.keeps (by omega)) GZ1
 obtain⟨D,hD⟩:∃ D:List (Nat × Nat × (Nat→Col)),D=[(y0.w.heap.size,0,(fun _=>(0,0))),(y1.w.heap.size,1,(fun _=>(0,0)))]:=⟨_,rfl⟩
 have e0:D[0]?=some (y0.w.heap.size,0,(fun _=>(0,0))):=by rw[hD];rfl
 have e1:D[1]?=some (y1.w.heap.size,1,(fun _=>(0,0))):=by rw[hD];rfl
 clear hD
 have P0:∀ b,pick D b=pick (D.drop 0) b:=fun _=>rfl
 have C0:∀ b,((w.alloc (.cells #[.int .i64 x.Room,.slice a0 x.Records.length c0,.slice a1 x.Dropped.length c1] 53)).alloc (.cells #[.int .i64 0,.slice none 0 0,.slice none 0 0] 53)).heap.size≤b→b<y0.w.heap.size→pick D b=shift 0 ((fun _=>(0,0)) b):=fun b h1 h2=>(P0 b).trans (pick_hereD e0 h2)
 have P1:∀ b,y0.w.heap.size≤b→pick D b=pick (D.drop 1) b:=fun b hb=>(P0 b).trans (pick_skipD e0 hb)
 have C1:∀ b,z1.w.heap.size≤b→b<y1.w.heap.size→pick D b=shift 1 ((fun _=>(0,0)) b):=fun b h1 h2=>(P1 b (Nat.le_trans K1.out.size h1)).trans (pick_hereD e1 h2)
 refine bodyPost_ret (v:=.agg #[.int .i64 x.Room,.slice na0 x.Records.length nc0,.slice na1 x.Dropped.length nc1]) (results_cell (P:=Tryz.prog) rfl rfl HR.out _ Tryz.underlying53 rfl (by kernel_rfl)) rfl ⟨[.int .i64 x.Room,.slice na0 x.Records.length nc0,.slice na1 x.Dropped.length nc1],pick D,rfl,⟨na0,nc0,na1,nc1,rfl,⟨((((O0.out.re C0).mono (LeN.out (a:=w.heap.size+2))).keep GY0).mono (by omega)),((((O1.out.re C1).mono (LeN.out (a:=w.heap.size+2))).keep GY1).mono (by omega)),HOK.out⟩⟩,Later.of⟩
theorem o_cloneSender{B:Nat}{vs:List Value}{x:TSender}{w:World}(h:Enc.Rd B w vs x)(ht:Enc.tot x≤100000000) :
  Calls Tryz.prog 217 #[.agg vs.toArray] w (GivesO w x):=by
 obtain⟨a0,c0,rfl,q0,hok⟩:=h
 have HT:=lH (show x.Waiting.length≤100000000∧True from by
  have:Enc.tot x=totL x.Waiting:=rfl
  have:=totL_nonneg x.Waiting;have:=totL_len x.Waiting
  refine⟨?_,trivial⟩<;>omega)
 have HT0:=lH ht;clear ht
 have HQ0:=lH q0;clear q0
 have HOK:=lH hok;clear hok
 have S0:=lH ((Held.new w [.int .i64 x.Next,.int .i64 x.Window,.slice a0 x.Waiting.length c0,.int .i64 x.Done] 35 w.heap.size rfl).to (inferInstance:Grows _ ((w.alloc (.cells #[.int .i64 x.Next,.int .i64 x.Window,.slice a0 x.Waiting.length c0,.int .i64 x.Done] 35)).alloc (.cells #[.int .i64 0,.int .i64 0,.slice none 0 0,.int .i64 0] 35))))
 have R0:=lH ((Held.new (w.alloc (.cells #[.int .i64 x.Next,.int .i64 x.Window,.slice a0 x.Waiting.length c0,.int .i64 x.Done] 35)) [.int .i64 0,.int .i64 0,.slice none 0 0,.int .i64 0] 35 (w.heap.size+1) (by simp)).to (inferInstance:Grows _ ((w.alloc (.cells #[.int .i64 x.Next,.int .i64 x.Window,.slice a0 x.Waiting.length c0,.int .i64 x.Done] 35)).alloc (.cells #[.int .i64 0,.int .i64 0,.slice none 0 0,.int .i64 0] 35))))
 go_enter Tryz.func217,Tryz.ntmps217
 go_wp2_with (first|(refine stepLoad1 rfl _ _ rfl w.heap.size 2 rfl (S0.out.to inferInstance) _ rfl _ Tryz.underlying33 rfl ?_))
 refine(o_cloneTSent (HQ0.out.keep inferInstance) (HT.out.1)).mono ?_
 rintro _ _ ⟨na0,nc0,rfl,no0,y0,rfl⟩
 have O0:=lH no0;clear no0
 go_wp2_with (first|(refine stepStore2 rfl _ _ _ rfl (w.heap.size) 2 rfl (us:=[.slice na0 x.Waiting.length nc0]) (cs2:=[.int .i64 x.Next,.int .i64 x.Window,.slice na0 x.Waiting.length nc0,.int .i64 x.Done]) (S0.out.to inferInstance) rfl (by kernel_rfl) rfl (Nat.le_of_ble_eq_true rfl) (by kernel_rfl) (w0:=w) inferInstance (by simp) ?_;intro z1 h1 k1;have HZ1:=lH h1;clear h1;have K1:=lH k1;have RZ1:=lH ((R0.out.to inferInstance).but k1 (by omega));clear k1;have e1:LeN (w.heap.size+2) z1.w.heap.size:=⟨RZ1.out.lt⟩;clear R0 S0)|(refine stepLoad rfl _ _ rfl (w.heap.size) 0 rfl (row:=[.int .i64 x.Next,.int .i64 x.Window,.slice na0 x.Waiting.length nc0,.int .i64 x.Done]) (HZ1.out.to inferInstance) _ Tryz.underlying35 rfl (by kernel_rfl) (by kernel_rfl) ?_)|(refine stepStore2 rfl _ _ _ rfl (w.heap.size+1) 0 rfl (us:=[.int .i64 x.Next,.int .i64 x.Window,.slice na0 x.Waiting.length nc0,.int .i64 x.Done]) (cs2:=[.int .i64 x.Next,.int .i64 x.Window,.slice na0 x.Waiting.length nc0,.int .i64 x.Done]) (RZ1.out.to inferInstance) rfl (by kernel_rfl) rfl (Nat.le_of_ble_eq_true rfl) (by kernel_rfl) (w0:=w) inferInstance (by simp) ?_;intro zr hr kr;have HR:=lH hr;clear hr;have KR:=lH kr;clear kr))
 have GZ1:Keeps (w.heap.size+2) z1.w zr.w:=KR.out.keeps (by omega)
 have GY0:Keeps (w.heap.size+2) y0.w zr.w:=Keeps.trans (K1.out.keeps (by omega)) GZ1
 obtain⟨D,hD⟩:∃ D:List (Nat × Nat × (Nat→Col)),D=[(y0.w.heap.size,0,(fun _=>(0,0)))]:=⟨_,rfl⟩
 have e0:D[0]?=some (y0.w.heap.size,0,(fun _=>(0,0))):=by rw[hD];rfl
 clear hD
 have P0:∀ b,pick D b=pick (D.drop 0) b:=fun _=>rfl
 have C0:∀ b,((w.alloc (.cells #[.int .i64 x.Next,.int .i64 x.Window,.slice a0 x.Waiting.length c0,.int .i64 x.Done] 35)).alloc (.cells #[.int .i64 0,.int .i64 0,.slice none 0 0,.int .i64 0] 35)).heap.size≤b→b<y0.w.heap.size→pick D b=shift 0 ((fun _=>(0,0)) b):=fun b h1 h2=>(P0 b).trans (pick_hereD e0 h2)
 refine bodyPost_ret (v:=.agg #[.int .i64 x.Next,.int .i64 x.Window,.slice na0 x.Waiting.length nc0,.int .i64 x.Done]) (results_cell (P:=Tryz.prog) rfl rfl HR.out _ Tryz.underlying35 rfl (by kernel_rfl)) rfl ⟨[.int .i64 x.Next,.int .i64 x.Window,.slice na0 x.Waiting.length nc0,.int .i64 x.Done],pick D,rfl,⟨na0,nc0,rfl,⟨((((O0.out.re C0).mono (LeN.out (a:=w.heap.size+2))).keep GY0).mono (by omega)),HOK.out⟩⟩,Later.of⟩
theorem o_clonePacker{B:Nat}{vs:List Value}{x:TPacker}{w:World}(h:Enc.Rd B w vs x)(ht:Enc.tot x≤100000000) :
  Calls Tryz.prog 224 #[.agg vs.toArray] w (GivesO w x):=by
 obtain⟨a0,c0,rfl,q0,hok⟩:=h
 have HT:=lH (show x.Starts.length≤100000000∧True from by
  have:Enc.tot x=(x.Rest.size:Int)+totL x.Starts:=rfl
  have:=totL_nonneg x.Starts;have:=totL_len x.Starts
  refine⟨?_,trivial⟩<;>omega)
 have HT0:=lH ht;clear ht
 have HQ0:=lH q0;clear q0
 have HOK:=lH hok;clear hok
 have S0:=lH ((Held.new w [.int .i64 x.Channel,.int .i64 x.Count,.string x.Rest,.slice a0 x.Starts.length c0] 57 w.heap.size rfl).to (inferInstance:Grows _ ((w.alloc (.cells #[.int .i64 x.Channel,.int .i64 x.Count,.string x.Rest,.slice a0 x.Starts.length c0] 57)).alloc (.cells #[.int .i64 0,.int .i64 0,.string ⟨#[]⟩,.slice none 0 0] 57))))
 have R0:=lH ((Held.new (w.alloc (.cells #[.int .i64 x.Channel,.int .i64 x.Count,.string x.Rest,.slice a0 x.Starts.length c0] 57)) [.int .i64 0,.int .i64 0,.string ⟨#[]⟩,.slice none 0 0] 57 (w.heap.size+1) (by simp)).to (inferInstance:Grows _ ((w.alloc (.cells #[.int .i64 x.Channel,.int .i64 x.Count,.string x.Rest,.slice a0 x.Starts.length c0] 57)).alloc (.cells #[.int .i64 0,.int .i64 0,.string ⟨#[]⟩,.slice none 0 0] 57))))
 go_enter Tryz.func224,Tryz.ntmps224
 go_wp2_with (first|(refine stepLoad1 rfl _ _ rfl w.heap.size 3 rfl (S0.out.to inferInstance) _ rfl _ Tryz.underlying48 rfl ?_))
 refine(o_cloneInt (HQ0.out.keep inferInstance) (HT.out.1)).mono ?_
 rintro _ _ ⟨na0,nc0,rfl,no0,y0,rfl⟩
 have O0:=lH no0;clear no0
 go_wp2_with (first|(refine stepStore2 rfl _ _ _ rfl (w.heap.size) 3 rfl (us:=[.slice na0 x.Starts.length nc0]) (cs2:=[.int .i64 x.Channel,.int .i64 x.Count,.string x.Rest,.slice na0 x.Starts.length nc0]) (S0.out.to inferInstance) rfl (by kernel_rfl) rfl (Nat.le_of_ble_eq_true rfl) (by kernel_rfl) (w0:=w) inferInstance (by simp) ?_;intro z1 h1 k1;have HZ1:=lH h1;clear h1;have K1:=lH k1;have RZ1:=lH ((R0.out.to inferInstance).but k1 (by omega));clear k1;have e1:LeN (w.heap.size+2) z1.w.heap.size:=⟨RZ1.out.lt⟩;clear R0 S0)|(refine stepLoad rfl _ _ rfl (w.heap.size) 0 rfl (row:=[.int .i64 x.Channel,.int .i64 x.Count,.string x.Rest,.slice na0 x.Starts.length nc0]) (HZ1.out.to inferInstance) _ Tryz.underlying57 rfl (by kernel_rfl) (by kernel_rfl) ?_)|(refine stepStore2 rfl _ _ _ rfl (w.heap.size+1) 0 rfl (us:=[.int .i64 x.Channel,.int .i64 x.Count,.string x.Rest,.slice na0 x.Starts.length nc0]) (cs2:=[.int .i64 x.Channel,.int .i64 x.Count,.string x.Rest,.slice na0 x.Starts.length nc0]) (RZ1.out.to inferInstance) rfl (by kernel_rfl) rfl (Nat.le_of_ble_eq_true rfl) (by kernel_rfl) (w0:=w) inferInstance (by simp) ?_;intro zr hr kr;have HR:=lH hr;clear hr;have KR:=lH kr;clear kr))
 have GZ1:Keeps (w.heap.size+2) z1.w zr.w:=KR.out.keeps (by omega)
 have GY0:Keeps (w.heap.size+2) y0.w zr.w:=Keeps.trans (K1.out.keeps (by omega)) GZ1
 obtain⟨D,hD⟩:∃ D:List (Nat × Nat × (Nat→Col)),D=[(y0.w.heap.size,0,(fun _=>(0,0)))]:=⟨_,rfl⟩
 have e0:D[0]?=some (y0.w.heap.size,0,(fun _=>(0,0))):=by rw[hD];rfl
 clear hD
 have P0:∀ b,pick D b=pick (D.drop 0) b:=fun _=>rfl
 have C0:∀ b,((w.alloc (.cells #[.int .i64 x.Channel,.int .i64 x.Count,.string x.Rest,.slice a0 x.Starts.length c0] 57)).alloc (.cells #[.int .i64 0,.int .i64 0,.string ⟨#[]⟩,.slice none 0 0] 57)).heap.size≤b→b<y0.w.heap.size→pick D b=shift 0 ((fun _=>(0,0)) b):=fun b h1 h2=>(P0 b).trans (pick_hereD e0 h2)
 refine bodyPost_ret (v:=.agg #[.int .i64 x.Channel,.int .i64 x.Count,.string x.Rest,.slice na0 x.Starts.length nc0]) (results_cell (P:=Tryz.prog) rfl rfl HR.out _ Tryz.underlying57 rfl (by kernel_rfl)) rfl ⟨[.int .i64 x.Channel,.int .i64 x.Count,.string x.Rest,.slice na0 x.Starts.length nc0],pick D,rfl,⟨na0,nc0,rfl,⟨((((O0.out.re C0).mono (LeN.out (a:=w.heap.size+2))).keep GY0).mono (by omega)),HOK.out⟩⟩,Later.of⟩
theorem o_cloneFileIn{B:Nat}{vs:List Value}{x:TFileIn}{w:World}(h:Enc.Rd B w vs x)(ht:Enc.tot x≤100000000) :
  Calls Tryz.prog 221 #[.agg vs.toArray] w (GivesO w x):=by
 obtain⟨a0,c0,rfl,q0,hok⟩:=h
 have HT:=lH (show x.Parts.length≤100000000∧True from by
  have:Enc.tot x=totL x.Parts:=rfl
  have:=totL_nonneg x.Parts;have:=totL_len x.Parts
  refine⟨?_,trivial⟩<;>omega)
 have HT0:=lH ht;clear ht
 have HQ0:=lH q0;clear q0
 have HOK:=lH hok;clear hok
 have S0:=lH ((Held.new w [.int .i64 x.File,.int .i64 x.Size,.int .i64 x.Check,.slice a0 x.Parts.length c0] 140 w.heap.size rfl).to (inferInstance:Grows _ ((w.alloc (.cells #[.int .i64 x.File,.int .i64 x.Size,.int .i64 x.Check,.slice a0 x.Parts.length c0] 140)).alloc (.cells #[.int .i64 0,.int .i64 0,.int .i64 0,.slice none 0 0] 140))))
 have R0:=lH ((Held.new (w.alloc (.cells #[.int .i64 x.File,.int .i64 x.Size,.int .i64 x.Check,.slice a0 x.Parts.length c0] 140)) [.int .i64 0,.int .i64 0,.int .i64 0,.slice none 0 0] 140 (w.heap.size+1) (by simp)).to (inferInstance:Grows _ ((w.alloc (.cells #[.int .i64 x.File,.int .i64 x.Size,.int .i64 x.Check,.slice a0 x.Parts.length c0] 140)).alloc (.cells #[.int .i64 0,.int .i64 0,.int .i64 0,.slice none 0 0] 140))))
 go_enter Tryz.func221,Tryz.ntmps221
 go_wp2_with (first|(refine stepLoad1 rfl _ _ rfl w.heap.size 3 rfl (S0.out.to inferInstance) _ rfl _ Tryz.underlying32 rfl ?_))
 refine(o_cloneByteArray (HQ0.out.keep inferInstance) (HT.out.1)).mono ?_
 rintro _ _ ⟨na0,nc0,rfl,no0,y0,rfl⟩
 have O0:=lH no0;clear no0
 go_wp2_with (first|(refine stepStore2 rfl _ _ _ rfl (w.heap.size) 3 rfl (us:=[.slice na0 x.Parts.length nc0]) (cs2:=[.int .i64 x.File,.int .i64 x.Size,.int .i64 x.Check,.slice na0 x.Parts.length nc0]) (S0.out.to inferInstance) rfl (by kernel_rfl) rfl (Nat.le_of_ble_eq_true rfl) (by kernel_rfl) (w0:=w) inferInstance (by simp) ?_;intro z1 h1 k1;have HZ1:=lH h1;clear h1;have K1:=lH k1;have RZ1:=lH ((R0.out.to inferInstance).but k1 (by omega));clear k1;have e1:LeN (w.heap.size+2) z1.w.heap.size:=⟨RZ1.out.lt⟩;clear R0 S0)|(refine stepLoad rfl _ _ rfl (w.heap.size) 0 rfl (row:=[.int .i64 x.File,.int .i64 x.Size,.int .i64 x.Check,.slice na0 x.Parts.length nc0]) (HZ1.out.to inferInstance) _ Tryz.underlying140 rfl (by kernel_rfl) (by kernel_rfl) ?_)|(refine stepStore2 rfl _ _ _ rfl (w.heap.size+1) 0 rfl (us:=[.int .i64 x.File,.int .i64 x.Size,.int .i64 x.Check,.slice na0 x.Parts.length nc0]) (cs2:=[.int .i64 x.File,.int .i64 x.Size,.int .i64 x.Check,.slice na0 x.Parts.length nc0]) (RZ1.out.to inferInstance) rfl (by kernel_rfl) rfl (Nat.le_of_ble_eq_true rfl) (by kernel_rfl) (w0:=w) inferInstance (by simp) ?_;intro zr hr kr;have HR:=lH hr;clear hr;have KR:=lH kr;clear kr))
 have GZ1:Keeps (w.heap.size+2) z1.w zr.w:=KR.out.keeps (by omega)
 have GY0:Keeps (w.heap.size+2) y0.w zr.w:=Keeps.trans (K1.out.keeps (by omega)) GZ1
 obtain⟨D,hD⟩:∃ D:List (Nat × Nat × (Nat→Col)),D=[(y0.w.heap.size,0,(fun _=>(0,0)))]:=⟨_,rfl⟩
 have e0:D[0]?=some (y0.w.heap.size,0,(fun _=>(0,0))):=by rw[hD];rfl
 clear hD
 have P0:∀ b,pick D b=pick (D.drop 0) b:=fun _=>rfl
 have C0:∀ b,((w.alloc (.cells #[.int .i64 x.File,.int .i64 x.Size,.int .i64 x.Check,.slice a0 x.Parts.length c0] 140)).alloc (.cells #[.int .i64 0,.int .i64 0,.int .i64 0,.slice none 0 0] 140)).heap.size≤b→b<y0.w.heap.size→pick D b=shift 0 ((fun _=>(0,0)) b):=fun b h1 h2=>(P0 b).trans (pick_hereD e0 h2)
 refine bodyPost_ret (v:=.agg #[.int .i64 x.File,.int .i64 x.Size,.int .i64 x.Check,.slice na0 x.Parts.length nc0]) (results_cell (P:=Tryz.prog) rfl rfl HR.out _ Tryz.underlying140 rfl (by kernel_rfl)) rfl ⟨[.int .i64 x.File,.int .i64 x.Size,.int .i64 x.Check,.slice na0 x.Parts.length nc0],pick D,rfl,⟨na0,nc0,rfl,⟨((((O0.out.re C0).mono (LeN.out (a:=w.heap.size+2))).keep GY0).mono (by omega)),HOK.out⟩⟩,Later.of⟩
theorem o_cloneFileOut{B:Nat}{vs:List Value}{x:TFileOut}{w:World}(h:Enc.Rd B w vs x)(ht:Enc.tot x≤100000000) :
  Calls Tryz.prog 226 #[.agg vs.toArray] w (GivesO w x):=by
 obtain⟨a0,c0,rfl,q0,hok⟩:=h
 have HT:=lH (show x.Queue.length≤100000000∧True from by
  have:Enc.tot x=(x.Data.size:Int)+totL x.Queue:=rfl
  have:=totL_nonneg x.Queue;have:=totL_len x.Queue
  refine⟨?_,trivial⟩<;>omega)
 have HT0:=lH ht;clear ht
 have HQ0:=lH q0;clear q0
 have HOK:=lH hok;clear hok
 have S0:=lH ((Held.new w [.int .i64 x.File,.string x.Data,.slice a0 x.Queue.length c0,.bool x.Done] 143 w.heap.size rfl).to (inferInstance:Grows _ ((w.alloc (.cells #[.int .i64 x.File,.string x.Data,.slice a0 x.Queue.length c0,.bool x.Done] 143)).alloc (.cells #[.int .i64 0,.string ⟨#[]⟩,.slice none 0 0,.bool false] 143))))
 have R0:=lH ((Held.new (w.alloc (.cells #[.int .i64 x.File,.string x.Data,.slice a0 x.Queue.length c0,.bool x.Done] 143)) [.int .i64 0,.string ⟨#[]⟩,.slice none 0 0,.bool false] 143 (w.heap.size+1) (by simp)).to (inferInstance:Grows _ ((w.alloc (.cells #[.int .i64 x.File,.string x.Data,.slice a0 x.Queue.length c0,.bool x.Done] 143)).alloc (.cells #[.int .i64 0,.string ⟨#[]⟩,.slice none 0 0,.bool false] 143))))
 go_enter Tryz.func226,Tryz.ntmps226
 go_wp2_with (first|(refine stepLoad1 rfl _ _ rfl w.heap.size 2 rfl (S0.out.to inferInstance) _ rfl _ Tryz.underlying48 rfl ?_))
 refine(o_cloneInt (HQ0.out.keep inferInstance) (HT.out.1)).mono ?_
 rintro _ _ ⟨na0,nc0,rfl,no0,y0,rfl⟩
 have O0:=lH no0;clear no0
 go_wp2_with (first|(refine stepStore2 rfl _ _ _ rfl (w.heap.size) 2 rfl (us:=[.slice na0 x.Queue.length nc0]) (cs2:=[.int .i64 x.File,.string x.Data,.slice na0 x.Queue.length nc0,.bool x.Done]) (S0.out.to inferInstance) rfl (by kernel_rfl) rfl (Nat.le_of_ble_eq_true rfl) (by kernel_rfl) (w0:=w) inferInstance (by simp) ?_;intro z1 h1 k1;have HZ1:=lH h1;clear h1;have K1:=lH k1;have RZ1:=lH ((R0.out.to inferInstance).but k1 (by omega));clear k1;have e1:LeN (w.heap.size+2) z1.w.heap.size:=⟨RZ1.out.lt⟩;clear R0 S0)|(refine stepLoad rfl _ _ rfl (w.heap.size) 0 rfl (row:=[.int .i64 x.File,.string x.Data,.slice na0 x.Queue.length nc0,.bool x.Done]) (HZ1.out.to inferInstance) _ Tryz.underlying143 rfl (by kernel_rfl) (by kernel_rfl) ?_)|(refine stepStore2 rfl _ _ _ rfl (w.heap.size+1) 0 rfl (us:=[.int .i64 x.File,.string x.Data,.slice na0 x.Queue.length nc0,.bool x.Done]) (cs2:=[.int .i64 x.File,.string x.Data,.slice na0 x.Queue.length nc0,.bool x.Done]) (RZ1.out.to inferInstance) rfl (by kernel_rfl) rfl (Nat.le_of_ble_eq_true rfl) (by kernel_rfl) (w0:=w) inferInstance (by simp) ?_;intro zr hr kr;have HR:=lH hr;clear hr;have KR:=lH kr;clear kr))
 have GZ1:Keeps (w.heap.size+2) z1.w zr.w:=KR.out.keeps (by omega)
 have GY0:Keeps (w.heap.size+2) y0.w zr.w:=Keeps.trans (K1.out.keeps (by omega)) GZ1
 obtain⟨D,hD⟩:∃ D:List (Nat × Nat × (Nat→Col)),D=[(y0.w.heap.size,0,(fun _=>(0,0)))]:=⟨_,rfl⟩
 have e0:D[0]?=some (y0.w.heap.size,0,(fun _=>(0,0))):=by rw[hD];rfl
 clear hD
 have P0:∀ b,pick D b=pick (D.drop 0) b:=fun _=>rfl
 have C0:∀ b,((w.alloc (.cells #[.int .i64 x.File,.string x.Data,.slice a0 x.Queue.length c0,.bool x.Done] 143)).alloc (.cells #[.int .i64 0,.string ⟨#[]⟩,.slice none 0 0,.bool false] 143)).heap.size≤b→b<y0.w.heap.size→pick D b=shift 0 ((fun _=>(0,0)) b):=fun b h1 h2=>(P0 b).trans (pick_hereD e0 h2)
 refine bodyPost_ret (v:=.agg #[.int .i64 x.File,.string x.Data,.slice na0 x.Queue.length nc0,.bool x.Done]) (results_cell (P:=Tryz.prog) rfl rfl HR.out _ Tryz.underlying143 rfl (by kernel_rfl)) rfl ⟨[.int .i64 x.File,.string x.Data,.slice na0 x.Queue.length nc0,.bool x.Done],pick D,rfl,⟨na0,nc0,rfl,⟨((((O0.out.re C0).mono (LeN.out (a:=w.heap.size+2))).keep GY0).mono (by omega)),HOK.out⟩⟩,Later.of⟩
set_option maxRecDepth 100000 in
set_option maxHeartbeats 2000000 in
theorem o_cloneBoard{B:Nat}{vs:List Value}{x:TBoard}{w:World}(h:Enc.Rd B w vs x)(ht:Enc.tot x≤100000000) :
  Calls Tryz.prog 223 #[.agg vs.toArray] w (GivesO w x):=by
 obtain⟨A,rfl,F⟩:=h
 have HT:=lH (show x.Params.length≤100000000∧x.Limits.length≤100000000∧x.Orders.length≤100000000∧x.Done.length≤100000000∧Enc.tot x.Recorder≤100000000∧x.Asked.length≤100000000∧True from by
  have:Enc.tot x=totL x.Params+totL x.Limits+totL x.Orders+totL x.Done+Enc.tot x.Recorder+totL x.Asked:=rfl
  have:=totL_nonneg x.Params;have:=totL_len x.Params
  have:=totL_nonneg x.Limits;have:=totL_len x.Limits
  have:=totL_nonneg x.Orders;have:=totL_len x.Orders
  have:=totL_nonneg x.Done;have:=totL_len x.Done
  have:=Enc.tot_nonneg x.Recorder
  have:Enc.tot x.Recorder=totL x.Recorder.Records+totL x.Recorder.Dropped:=rfl
  have:=totL_nonneg x.Recorder.Records;have:=totL_len x.Recorder.Records
  have:=totL_nonneg x.Recorder.Dropped;have:=totL_len x.Recorder.Dropped
  have:=totL_nonneg x.Asked;have:=totL_len x.Asked
  refine⟨?_,?_,?_,?_,?_,?_,trivial⟩<;>omega)
 have HT0:=lH ht;clear ht
 have HFF:=lH F;clear F
 have S0:=lH ((Held.new w (cBoard x A.a0 A.c0 A.a1 A.c1 A.a2 A.c2 A.a3 A.c3 A.a4 A.c4 A.a5 A.c5 A.a6 A.c6) 55 w.heap.size rfl).to (inferInstance:Grows _ ((w.alloc (.cells (cBoard x A.a0 A.c0 A.a1 A.c1 A.a2 A.c2 A.a3 A.c3 A.a4 A.c4 A.a5 A.c5 A.a6 A.c6).toArray 55)).alloc (.cells zBoard.toArray 55))))
 have R0:=lH ((Held.new (w.alloc (.cells (cBoard x A.a0 A.c0 A.a1 A.c1 A.a2 A.c2 A.a3 A.c3 A.a4 A.c4 A.a5 A.c5 A.a6 A.c6).toArray 55)) zBoard 55 (w.heap.size+1) (by simp)).to (inferInstance:Grows _ ((w.alloc (.cells (cBoard x A.a0 A.c0 A.a1 A.c1 A.a2 A.c2 A.a3 A.c3 A.a4 A.c4 A.a5 A.c5 A.a6 A.c6).toArray 55)).alloc (.cells zBoard.toArray 55))))
 go_enter Tryz.func223,Tryz.ntmps223
 go_wp2_with (first|(refine stepLoad1 rfl _ _ rfl w.heap.size 1 rfl (S0.out.to inferInstance) _ rfl _ Tryz.underlying48 rfl ?_))
 refine(o_cloneInt (HFF.out.q0.keep inferInstance) (HT.out.1)).mono ?_
 rintro _ _ ⟨na0,nc0,rfl,no0,y0,rfl⟩
 have O0:=lH no0;clear no0
 go_wp2_with (first|(refine stepStore2 rfl _ _ _ rfl (w.heap.size) 1 rfl (us:=[.slice na0 x.Params.length nc0]) (cs2:=(cBoard x na0 nc0 A.a1 A.c1 A.a2 A.c2 A.a3 A.c3 A.a4 A.c4 A.a5 A.c5 A.a6 A.c6)) (S0.out.to inferInstance) rfl (by kernel_rfl) rfl (Nat.le_of_ble_eq_true rfl) (by kernel_rfl) (w0:=w) inferInstance (by simp) ?_;intro z1 h1 k1;have HZ1:=lH h1;clear h1;have K1:=lH k1;have RZ1:=lH ((R0.out.to inferInstance).but k1 (by omega));clear k1;have e1:LeN (w.heap.size+2) z1.w.heap.size:=⟨RZ1.out.lt⟩;clear R0 S0)|(refine stepLoad1 rfl _ _ rfl w.heap.size 3 rfl (HZ1.out.to inferInstance) _ rfl _ Tryz.underlying49 rfl ?_))
 refine(o_cloneTLimit (HFF.out.q1.keep inferInstance) (HT.out.2.1)).mono ?_
 rintro _ _ ⟨na1,nc1,rfl,no1,y1,rfl⟩
 have O1:=lH no1;clear no1
 go_wp2_with (first|(refine stepStore2 rfl _ _ _ rfl (w.heap.size) 3 rfl (us:=[.slice na1 x.Limits.length nc1]) (cs2:=(cBoard x na0 nc0 na1 nc1 A.a2 A.c2 A.a3 A.c3 A.a4 A.c4 A.a5 A.c5 A.a6 A.c6)) (HZ1.out.to inferInstance) rfl (by kernel_rfl) rfl (Nat.le_of_ble_eq_true rfl) (by kernel_rfl) (w0:=w) inferInstance (by simp) ?_;intro z2 h2 k2;have HZ2:=lH h2;clear h2;have K2:=lH k2;have RZ2:=lH ((RZ1.out.to inferInstance).but k2 (by omega));clear k2;have e2:LeN (w.heap.size+2) z2.w.heap.size:=⟨RZ2.out.lt⟩;clear HZ1 RZ1)|(refine stepLoad1 rfl _ _ rfl w.heap.size 4 rfl (HZ2.out.to inferInstance) _ rfl _ Tryz.underlying50 rfl ?_))
 refine(o_cloneTWaiting (HFF.out.q2.keep inferInstance) (HT.out.2.2.1)).mono ?_
 rintro _ _ ⟨na2,nc2,rfl,no2,y2,rfl⟩
 have O2:=lH no2;clear no2
 go_wp2_with (first|(refine stepStore2 rfl _ _ _ rfl (w.heap.size) 4 rfl (us:=[.slice na2 x.Orders.length nc2]) (cs2:=(cBoard x na0 nc0 na1 nc1 na2 nc2 A.a3 A.c3 A.a4 A.c4 A.a5 A.c5 A.a6 A.c6)) (HZ2.out.to inferInstance) rfl (by kernel_rfl) rfl (Nat.le_of_ble_eq_true rfl) (by kernel_rfl) (w0:=w) inferInstance (by simp) ?_;intro z3 h3 k3;have HZ3:=lH h3;clear h3;have K3:=lH k3;have RZ3:=lH ((RZ2.out.to inferInstance).but k3 (by omega));clear k3;have e3:LeN (w.heap.size+2) z3.w.heap.size:=⟨RZ3.out.lt⟩;clear HZ2 RZ2)|(refine stepLoad1 rfl _ _ rfl w.heap.size 5 rfl (HZ3.out.to inferInstance) _ rfl _ Tryz.underlying51 rfl ?_))
 refine(o_cloneTDone (HFF.out.q3.keep inferInstance) (HT.out.2.2.2.1)).mono ?_
 rintro _ _ ⟨na3,nc3,rfl,no3,y3,rfl⟩
 have O3:=lH no3;clear no3
 go_wp2_with (first|(refine stepStore2 rfl _ _ _ rfl (w.heap.size) 5 rfl (us:=[.slice na3 x.Done.length nc3]) (cs2:=(cBoard x na0 nc0 na1 nc1 na2 nc2 na3 nc3 A.a4 A.c4 A.a5 A.c5 A.a6 A.c6)) (HZ3.out.to inferInstance) rfl (by kernel_rfl) rfl (Nat.le_of_ble_eq_true rfl) (by kernel_rfl) (w0:=w) inferInstance (by simp) ?_;intro z4 h4 k4;have HZ4:=lH h4;clear h4;have K4:=lH k4;have RZ4:=lH ((RZ3.out.to inferInstance).but k4 (by omega));clear k4;have e4:LeN (w.heap.size+2) z4.w.heap.size:=⟨RZ4.out.lt⟩;clear HZ3 RZ3)|(refine stepLoad rfl _ _ rfl w.heap.size 6 rfl (row:=[.int .i64 x.Recorder.Room,.slice A.a4 x.Recorder.Records.length A.c4,.slice A.a5 x.Recorder.Dropped.length A.c5]) (HZ4.out.to inferInstance) _ Tryz.underlying53 rfl (by kernel_rfl) (by kernel_rfl) ?_))
 refine(o_cloneRecorder (x:=x.Recorder) ⟨A.a4,A.c4,A.a5,A.c5,rfl,HFF.out.q4.keep inferInstance,HFF.out.q5.keep inferInstance,HFF.out.ok.2.1⟩ (HT.out.2.2.2.2.1)).mono ?_
 rintro _ _ ⟨_,ch4,rfl,⟨b4a0,b4c0,b4a1,b4c1,rfl,no4⟩,y4,rfl⟩
 have O4:=lH no4;clear no4
 go_wp2_with (first|(refine stepStore2 rfl _ _ _ rfl (w.heap.size) 6 rfl (us:=[.int .i64 x.Recorder.Room,.slice b4a0 x.Recorder.Records.length b4c0,.slice b4a1 x.Recorder.Dropped.length b4c1]) (cs2:=(cBoard x na0 nc0 na1 nc1 na2 nc2 na3 nc3 b4a0 b4c0 b4a1 b4c1 A.a6 A.c6)) (HZ4.out.to inferInstance) rfl (by kernel_rfl) rfl (Nat.le_of_ble_eq_true rfl) (by kernel_rfl) (w0:=w) inferInstance (by simp) ?_;intro z5 h5 k5;have HZ5:=lH h5;clear h5;have K5:=lH k5;have RZ5:=lH ((RZ4.out.to inferInstance).but k5 (by omega));clear k5;have e5:LeN (w.heap.size+2) z5.w.heap.size:=⟨RZ5.out.lt⟩;clear HZ4 RZ4)|(refine stepLoad1 rfl _ _ rfl w.heap.size 11 rfl (HZ5.out.to inferInstance) _ rfl _ Tryz.underlying48 rfl ?_))
 refine(o_cloneInt (HFF.out.q6.keep inferInstance) (HT.out.2.2.2.2.2.1)).mono ?_
 rintro _ _ ⟨na6,nc6,rfl,no6,y5,rfl⟩
 have O5:=lH no6;clear no6
 go_wp2_with (first|(refine stepStore2 rfl _ _ _ rfl (w.heap.size) 11 rfl (us:=[.slice na6 x.Asked.length nc6]) (cs2:=(cBoard x na0 nc0 na1 nc1 na2 nc2 na3 nc3 b4a0 b4c0 b4a1 b4c1 na6 nc6)) (HZ5.out.to inferInstance) rfl (by kernel_rfl) rfl (Nat.le_of_ble_eq_true rfl) (by kernel_rfl) (w0:=w) inferInstance (by simp) ?_;intro z6 h6 k6;have HZ6:=lH h6;clear h6;have K6:=lH k6;have RZ6:=lH ((RZ5.out.to inferInstance).but k6 (by omega));clear k6;have e6:LeN (w.heap.size+2) z6.w.heap.size:=⟨RZ6.out.lt⟩;clear HZ5 RZ5)|(refine stepLoad rfl _ _ rfl (w.heap.size) 0 rfl (row:=(cBoard x na0 nc0 na1 nc1 na2 nc2 na3 nc3 b4a0 b4c0 b4a1 b4c1 na6 nc6)) (HZ6.out.to inferInstance) _ Tryz.underlying55 rfl (by kernel_rfl) (by kernel_rfl) ?_)|(refine stepStore2 rfl _ _ _ rfl (w.heap.size+1) 0 rfl (us:=(cBoard x na0 nc0 na1 nc1 na2 nc2 na3 nc3 b4a0 b4c0 b4a1 b4c1 na6 nc6)) (cs2:=(cBoard x na0 nc0 na1 nc1 na2 nc2 na3 nc3 b4a0 b4c0 b4a1 b4c1 na6 nc6)) (RZ6.out.to inferInstance) rfl (by kernel_rfl) rfl (Nat.le_of_ble_eq_true rfl) (by kernel_rfl) (w0:=w) inferInstance (by simp) ?_;intro zr hr kr;have HR:=lH hr;clear hr;have KR:=lH kr;clear kr))
 have GZ6:Keeps (w.heap.size+2) z6.w zr.w:=KR.out.keeps (by omega)
 have GY5:Keeps (w.heap.size+2) y5.w zr.w:=Keeps.trans (K6.out.keeps (by omega)) GZ6
 have GZ5:Keeps (w.heap.size+2) z5.w zr.w:=Keeps.trans (inferInstance:Keeps (w.heap.size+2) z5.w y5.w) GY5
 have GY4:Keeps (w.heap.size+2) y4.w zr.w:=Keeps.trans (K5.out.keeps (by omega)) GZ5
 have GZ4:Keeps (w.heap.size+2) z4.w zr.w:=Keeps.trans (inferInstance:Keeps (w.heap.size+2) z4.w y4.w) GY4
 have GY3:Keeps (w.heap.size+2) y3.w zr.w:=Keeps.trans (K4.out.keeps (by omega)) GZ4
 have GZ3:Keeps (w.heap.size+2) z3.w zr.w:=Keeps.trans (inferInstance:Keeps (w.heap.size+2) z3.w y3.w) GY3
 have GY2:Keeps (w.heap.size+2) y2.w zr.w:=Keeps.trans (K3.out.keeps (by omega)) GZ3
 have GZ2:Keeps (w.heap.size+2) z2.w zr.w:=Keeps.trans (inferInstance:Keeps (w.heap.size+2) z2.w y2.w) GY2
 have GY1:Keeps (w.heap.size+2) y1.w zr.w:=Keeps.trans (K2.out.keeps (by omega)) GZ2
 have GZ1:Keeps (w.heap.size+2) z1.w zr.w:=Keeps.trans (inferInstance:Keeps (w.heap.size+2) z1.w y1.w) GY1
 have GY0:Keeps (w.heap.size+2) y0.w zr.w:=Keeps.trans (K1.out.keeps (by omega)) GZ1
 obtain⟨D,hD⟩:∃ D:List (Nat × Nat × (Nat→Col)),D=[(y0.w.heap.size,0,(fun _=>(0,0))),(y1.w.heap.size,1,(fun _=>(0,0))),(y2.w.heap.size,2,(fun _=>(0,0))),(y3.w.heap.size,3,(fun _=>(0,0))),(y4.w.heap.size,4,ch4),(y5.w.heap.size,6,(fun _=>(0,0)))]:=⟨_,rfl⟩
 have e0:D[0]?=some (y0.w.heap.size,0,(fun _=>(0,0))):=by rw[hD];rfl
 have e1:D[1]?=some (y1.w.heap.size,1,(fun _=>(0,0))):=by rw[hD];rfl
 have e2:D[2]?=some (y2.w.heap.size,2,(fun _=>(0,0))):=by rw[hD];rfl
 have e3:D[3]?=some (y3.w.heap.size,3,(fun _=>(0,0))):=by rw[hD];rfl
 have e4:D[4]?=some (y4.w.heap.size,4,ch4):=by rw[hD];rfl
 have e5:D[5]?=some (y5.w.heap.size,6,(fun _=>(0,0))):=by rw[hD];rfl
 clear hD
 have P0:∀ b,pick D b=pick (D.drop 0) b:=fun _=>rfl
 have C0:∀ b,((w.alloc (.cells (cBoard x A.a0 A.c0 A.a1 A.c1 A.a2 A.c2 A.a3 A.c3 A.a4 A.c4 A.a5 A.c5 A.a6 A.c6).toArray 55)).alloc (.cells zBoard.toArray 55)).heap.size≤b→b<y0.w.heap.size→pick D b=shift 0 ((fun _=>(0,0)) b):=fun b h1 h2=>(P0 b).trans (pick_hereD e0 h2)
 have P1:∀ b,y0.w.heap.size≤b→pick D b=pick (D.drop 1) b:=fun b hb=>(P0 b).trans (pick_skipD e0 hb)
 have C1:∀ b,z1.w.heap.size≤b→b<y1.w.heap.size→pick D b=shift 1 ((fun _=>(0,0)) b):=fun b h1 h2=>(P1 b (Nat.le_trans K1.out.size h1)).trans (pick_hereD e1 h2)
 have P2:∀ b,y1.w.heap.size≤b→pick D b=pick (D.drop 2) b:=fun b hb=>(P1 b (Nat.le_trans (Nat.le_trans K1.out.size y1.size_le) hb)).trans (pick_skipD e1 hb)
 have C2:∀ b,z2.w.heap.size≤b→b<y2.w.heap.size→pick D b=shift 2 ((fun _=>(0,0)) b):=fun b h1 h2=>(P2 b (Nat.le_trans K2.out.size h1)).trans (pick_hereD e2 h2)
 have P3:∀ b,y2.w.heap.size≤b→pick D b=pick (D.drop 3) b:=fun b hb=>(P2 b (Nat.le_trans (Nat.le_trans K2.out.size y2.size_le) hb)).trans (pick_skipD e2 hb)
 have C3:∀ b,z3.w.heap.size≤b→b<y3.w.heap.size→pick D b=shift 3 ((fun _=>(0,0)) b):=fun b h1 h2=>(P3 b (Nat.le_trans K3.out.size h1)).trans (pick_hereD e3 h2)
 have P4:∀ b,y3.w.heap.size≤b→pick D b=pick (D.drop 4) b:=fun b hb=>(P3 b (Nat.le_trans (Nat.le_trans K3.out.size y3.size_le) hb)).trans (pick_skipD e3 hb)
 have C4:∀ b,z4.w.heap.size≤b→b<y4.w.heap.size→pick D b=shift 4 (ch4 b):=fun b h1 h2=>(P4 b (Nat.le_trans K4.out.size h1)).trans (pick_hereD e4 h2)
 have P5:∀ b,y4.w.heap.size≤b→pick D b=pick (D.drop 5) b:=fun b hb=>(P4 b (Nat.le_trans (Nat.le_trans K4.out.size y4.size_le) hb)).trans (pick_skipD e4 hb)
 have C5:∀ b,z5.w.heap.size≤b→b<y5.w.heap.size→pick D b=shift 6 ((fun _=>(0,0)) b):=fun b h1 h2=>(P5 b (Nat.le_trans K5.out.size h1)).trans (pick_hereD e5 h2)
 have Q4:=lH ((((O4.out.re C4).mono (LeN.out (a:=w.heap.size+2))).keep GY4).mono (B2:=w.heap.size) (by omega))
 refine bodyPost_ret (v:=.agg (cBoard x na0 nc0 na1 nc1 na2 nc2 na3 nc3 b4a0 b4c0 b4a1 b4c1 na6 nc6).toArray) (results_cell (P:=Tryz.prog) rfl rfl HR.out _ Tryz.underlying55 rfl (by kernel_rfl)) rfl ⟨(cBoard x na0 nc0 na1 nc1 na2 nc2 na3 nc3 b4a0 b4c0 b4a1 b4c1 na6 nc6),pick D,rfl,⟨⟨na0,nc0,na1,nc1,na2,nc2,na3,nc3,b4a0,b4c0,b4a1,b4c1,na6,nc6⟩,rfl,⟨((((O0.out.re C0).mono (LeN.out (a:=w.heap.size+2))).keep GY0).mono (by omega)),((((O1.out.re C1).mono (LeN.out (a:=w.heap.size+2))).keep GY1).mono (by omega)),((((O2.out.re C2).mono (LeN.out (a:=w.heap.size+2))).keep GY2).mono (by omega)),((((O3.out.re C3).mono (LeN.out (a:=w.heap.size+2))).keep GY3).mono (by omega)),Q4.out.o0,Q4.out.o1,((((O5.out.re C5).mono (LeN.out (a:=w.heap.size+2))).keep GY5).mono (by omega)),HFF.out.ok⟩⟩,Later.of⟩
end Go.Proofs.YtbaffippdifbpaaGreat
