/- laws. No condition but on sizes. -/
import Derived.Test.YtdijmbipcgalfaaGreatHM37
import Derived.Test.YtdijmbipcgalfaaGreatHM18
namespace Go.Proofs.YtdijmbipcgalfaaGreat
set_option maxRecDepth 100000
set_option maxHeartbeats 2000000
set_option linter.unusedVariables false
open Go.ChangeShapes Go.WideShapes Go.ChangeAt Go.RowKit
variable {vs:List Value}{B:Nat}{w:World}
theorem sP{P:Program}{ops:Array Oper}{rest:List Oper}{op:Oper}{a:Act}{Q:Exit→Act→World→Prop}(hgd:op.guard=none)(ty:TypeId)(x y:Operand)(ho:op.op=.store ty x y)(b o:Nat)(hx:a.eval x=.pointer (some ⟨b,o,none⟩))(us cs2:List Value){cs:List Value}{T:TypeId}{w1:World}(H:Hid (j5 w1 b cs T))(w0:World)(hb:w0.heap.size≤b)
 (h:∀ z:b7 w0,Hid (j5 z.w b cs2 T)→Hid (d7 (b+1) w z.w)→wpList P ops Q rest (a.put op.dst undef) z.w)[g1:b8 w1 w][g:b8 w0 w](hv:(a.eval y).cells.toList=us:=by rfl)(hi:(P.info? ty).map (·.size)=some us.length:=by kernel_rfl)(h1:us.all (·.oneCell')=true:=by rfl)(hl:o+us.length≤cs.length:=by first|exact Nat.le_of_ble_eq_true rfl|simp)(hcs:ak0 cs o us=cs2:=by kernel_rfl):wpList P ops Q (op::rest) a w:=aH1 hgd ty x y ho b o hx (H.out.to g1) hv hi h1 hl hcs g hb fun z p q=>h z p q
theorem bJ5{x:I3}(h:Enc.Rd B w vs x)(ht:Enc.tot x≤1048576) :
  Calls Tryz.prog 130 #[.agg vs.toArray] w (R3 w x):=by
 obtain⟨A,rfl,F⟩:=h
 have HT:=lH (show d9 x.Params≤1048576∧d9 x.Limits≤1048576∧d9 x.Orders≤1048576∧d9 x.Done≤1048576∧Enc.tot x.Recorder≤1048576∧d9 x.Asked≤1048576∧True from by
  have ht2:d9 x.Params+d9 x.Limits+d9 x.Orders+d9 x.Done+Enc.tot x.Recorder+d9 x.Asked≤1048576:=ht
  have n0:=d6 x.Params
  have n1:=d6 x.Limits
  have n2:=d6 x.Orders
  have n3:=d6 x.Done
  have n4:=Enc.tot_nonneg x.Recorder
  have n5:=d6 x.Asked
  refine⟨?_,?_,?_,?_,?_,?_,trivial⟩<;>omega)
 clear ht
 have HOK:=lH F.ok
 have HFF:=lH F;clear F
 have H0:=lH (j5.new ((w.alloc (.cells (F8 x A).toArray 53)).alloc (.cells S3.toArray 84)) S3 84 (w.heap.size+2) si)
 have R0:=lH ((j5.new (w.alloc (.cells (F8 x A).toArray 53)) S3 84 (w.heap.size+1) si).to (ii:b8 _ (((w.alloc (.cells (F8 x A).toArray 53)).alloc (.cells S3.toArray 84)).alloc (.cells S3.toArray 84))))
 have HB:=lH ((j5.new w (F8 x A) 53 w.heap.size rfl).to (ii:b8 _ ((w.alloc (.cells (F8 x A).toArray 53)).alloc (.cells S3.toArray 84))))
 go_enter Tryz.func130,Tryz.ntmps130
 go_wp2_with (first|(refine sP rfl _ _ _ rfl (w.heap.size+2) 0 rfl [.int .i64 x.Clock] (aA6 1 x) H0 ((w.alloc (.cells (F8 x A).toArray 53)).alloc (.cells S3.toArray 84)) si ?_;intro z1 H1 K1;clear H0;have e1:LeN (w.heap.size+3) z1.w.heap.size:=⟨H1.out.lt⟩))
 refine(ax5 (HFF.out.q0.keep ii) (HT.out.1)).mono ?_
 rintro _ _ ⟨na0,nc0,rfl,no1,y1,rfl⟩
 have QO1:=lH no1;clear no1
 go_wp2_with (first|(refine sP rfl _ _ _ rfl (w.heap.size+2) 1 rfl [.slice na0 x.Params.length nc0] (aA6 2 x na0 nc0) H1 ((w.alloc (.cells (F8 x A).toArray 53)).alloc (.cells S3.toArray 84)) si ?_;intro z2 H2 K2;clear H1;have e2:LeN (w.heap.size+3) z2.w.heap.size:=⟨H2.out.lt⟩)|(refine sP rfl _ _ _ rfl (w.heap.size+2) 2 rfl [.bool x.Safe] (aA6 3 x na0 nc0) H2 ((w.alloc (.cells (F8 x A).toArray 53)).alloc (.cells S3.toArray 84)) si ?_;intro z3 H3 K3;clear H2;have e3:LeN (w.heap.size+3) z3.w.heap.size:=⟨H3.out.lt⟩))
 refine(bC0 (HFF.out.q1.keep ii) (HT.out.2.1)).mono ?_
 rintro _ _ ⟨na1,nc1,rfl,no3,y3,rfl⟩
 have QO3:=lH no3;clear no3
 go_wp2_with (first|(refine sP rfl _ _ _ rfl (w.heap.size+2) 3 rfl [.slice na1 x.Limits.length nc1] (aA6 4 x na0 nc0 na1 nc1) H3 ((w.alloc (.cells (F8 x A).toArray 53)).alloc (.cells S3.toArray 84)) si ?_;intro z4 H4 K4;clear H3;have e4:LeN (w.heap.size+3) z4.w.heap.size:=⟨H4.out.lt⟩))
 refine(bk2 (HFF.out.q2.keep ii) (HT.out.2.2.1)).mono ?_
 rintro _ _ ⟨na2,nc2,rfl,no4,y4,rfl⟩
 have QO4:=lH no4;clear no4
 go_wp2_with (first|(refine sP rfl _ _ _ rfl (w.heap.size+2) 4 rfl [.slice na2 x.Orders.length nc2] (aA6 5 x na0 nc0 na1 nc1 na2 nc2) H4 ((w.alloc (.cells (F8 x A).toArray 53)).alloc (.cells S3.toArray 84)) si ?_;intro z5 H5 K5;clear H4;have e5:LeN (w.heap.size+3) z5.w.heap.size:=⟨H5.out.lt⟩))
 refine(bJ7 (HFF.out.q3.keep ii) (HT.out.2.2.2.1)).mono ?_
 rintro _ _ ⟨na3,nc3,rfl,no5,y5,rfl⟩
 have QO5:=lH no5;clear no5
 go_wp2_with (first|(refine sP rfl _ _ _ rfl (w.heap.size+2) 5 rfl [.slice na3 x.Done.length nc3] (aA6 6 x na0 nc0 na1 nc1 na2 nc2 na3 nc3) H5 ((w.alloc (.cells (F8 x A).toArray 53)).alloc (.cells S3.toArray 84)) si ?_;intro z6 H6 K6;clear H5;have e6:LeN (w.heap.size+3) z6.w.heap.size:=⟨H6.out.lt⟩)|(refine lA rfl _ _ rfl (w.heap.size) 6 rfl [.int .i64 x.Recorder.Room,.slice A.a4 x.Recorder.Records.length A.c4,.slice A.a5 x.Recorder.Dropped.length A.c5] HB Tryz.underlying51 ?_))
 refine(bk1 (x:=x.Recorder) ⟨A.a4,A.c4,A.a5,A.c5,rfl,HFF.out.q4.keep ii,HFF.out.q5.keep ii,HOK.out.2.1⟩ (HT.out.2.2.2.2.1)).mono ?_
 rintro _ _ ⟨_,ch6,rfl,⟨n6a0,n6c0,n6a1,n6c1,rfl,no6⟩,y6,rfl⟩
 have QO6:=lH no6;clear no6
 go_wp2_with (first|(refine sP rfl _ _ _ rfl (w.heap.size+2) 6 rfl [.int .i64 x.Recorder.Room,.slice n6a0 x.Recorder.Records.length n6c0,.slice n6a1 x.Recorder.Dropped.length n6c1] (aA6 9 x na0 nc0 na1 nc1 na2 nc2 na3 nc3 n6a0 n6c0 n6a1 n6c1) H6 ((w.alloc (.cells (F8 x A).toArray 53)).alloc (.cells S3.toArray 84)) si ?_;intro z7 H7 K7;clear H6;have e7:LeN (w.heap.size+3) z7.w.heap.size:=⟨H7.out.lt⟩)|(refine sP rfl _ _ _ rfl (w.heap.size+2) 9 rfl [.int .i64 x.Made] (aA6 10 x na0 nc0 na1 nc1 na2 nc2 na3 nc3 n6a0 n6c0 n6a1 n6c1) H7 ((w.alloc (.cells (F8 x A).toArray 53)).alloc (.cells S3.toArray 84)) si ?_;intro z8 H8 K8;clear H7;have e8:LeN (w.heap.size+3) z8.w.heap.size:=⟨H8.out.lt⟩)|(refine sP rfl _ _ _ rfl (w.heap.size+2) 10 rfl [.int .i64 x.Taken] (aA6 11 x na0 nc0 na1 nc1 na2 nc2 na3 nc3 n6a0 n6c0 n6a1 n6c1) H8 ((w.alloc (.cells (F8 x A).toArray 53)).alloc (.cells S3.toArray 84)) si ?_;intro z9 H9 K9;clear H8;have e9:LeN (w.heap.size+3) z9.w.heap.size:=⟨H9.out.lt⟩))
 refine(ax5 (HFF.out.q6.keep ii) (HT.out.2.2.2.2.2.1)).mono ?_
 rintro _ _ ⟨na6,nc6,rfl,no9,y9,rfl⟩
 have QO9:=lH no9;clear no9
 go_wp2_with (first|(refine sP rfl _ _ _ rfl (w.heap.size+2) 11 rfl [.slice na6 x.Asked.length nc6] (S8 x na0 nc0 na1 nc1 na2 nc2 na3 nc3 n6a0 n6c0 n6a1 n6c1 na6 nc6) H9 ((w.alloc (.cells (F8 x A).toArray 53)).alloc (.cells S3.toArray 84)) si ?_;intro z10 H10 K10;clear H9;have e10:LeN (w.heap.size+3) z10.w.heap.size:=⟨H10.out.lt⟩)|(refine al8 rfl _ _ rfl (w.heap.size+2) 0 rfl (row:=(S8 x na0 nc0 na1 nc1 na2 nc2 na3 nc3 n6a0 n6c0 n6a1 n6c1 na6 nc6)) H10.out _ Tryz.underlying84 rfl kr kr ?_)|(refine aH1 rfl _ _ _ rfl (w.heap.size+1) 0 rfl (us:=(S8 x na0 nc0 na1 nc1 na2 nc2 na3 nc3 n6a0 n6c0 n6a1 n6c1 na6 nc6)) (cs2:=(S8 x na0 nc0 na1 nc1 na2 nc2 na3 nc3 n6a0 n6c0 n6a1 n6c1 na6 nc6)) ((j5.new (w.alloc (.cells (F8 x A).toArray 53)) S3 84 (w.heap.size+1) si).to ii) rfl kr rfl nb kr (w0:=(w.alloc (.cells (F8 x A).toArray 53))) ii si ?_;intro zr hr kr;have HR:=lH hr;clear hr;have KR:=lH kr;clear kr))
 have G10:d7 (w.heap.size+3) z10.w zr.w:=⟨KR.out.size,fun b h1 h2=>KR.out.block b om h2⟩
 have GY9:d7 (w.heap.size+3) y9.w zr.w:=d7.trans K10.out G10
 have G9:d7 (w.heap.size+3) z9.w zr.w:=d7.trans ii GY9
 have G8:d7 (w.heap.size+3) z8.w zr.w:=d7.trans K9.out G9
 have G7:d7 (w.heap.size+3) z7.w zr.w:=d7.trans K8.out G8
 have GY6:d7 (w.heap.size+3) y6.w zr.w:=d7.trans K7.out G7
 have G6:d7 (w.heap.size+3) z6.w zr.w:=d7.trans ii GY6
 have GY5:d7 (w.heap.size+3) y5.w zr.w:=d7.trans K6.out G6
 have G5:d7 (w.heap.size+3) z5.w zr.w:=d7.trans ii GY5
 have GY4:d7 (w.heap.size+3) y4.w zr.w:=d7.trans K5.out G5
 have G4:d7 (w.heap.size+3) z4.w zr.w:=d7.trans ii GY4
 have GY3:d7 (w.heap.size+3) y3.w zr.w:=d7.trans K4.out G4
 have G3:d7 (w.heap.size+3) z3.w zr.w:=d7.trans ii GY3
 have G2:d7 (w.heap.size+3) z2.w zr.w:=d7.trans K3.out G3
 have GY1:d7 (w.heap.size+3) y1.w zr.w:=d7.trans K2.out G2
 have G1:d7 (w.heap.size+3) z1.w zr.w:=d7.trans ii GY1
 have G0:d7 (w.heap.size+3) (((w.alloc (.cells (F8 x A).toArray 53)).alloc (.cells S3.toArray 84)).alloc (.cells S3.toArray 84)) zr.w:=d7.trans K1.out G1
 have s0b:(((w.alloc (.cells (F8 x A).toArray 53)).alloc (.cells S3.toArray 84)).alloc (.cells S3.toArray 84)).heap.size≤z1.w.heap.size:=K1.out.size
 have s1a:z1.w.heap.size≤y1.w.heap.size:=y1.size_le
 have s1b:y1.w.heap.size≤z2.w.heap.size:=K2.out.size
 have s2b:z2.w.heap.size≤z3.w.heap.size:=K3.out.size
 have s3a:z3.w.heap.size≤y3.w.heap.size:=y3.size_le
 have s3b:y3.w.heap.size≤z4.w.heap.size:=K4.out.size
 have s4a:z4.w.heap.size≤y4.w.heap.size:=y4.size_le
 have s4b:y4.w.heap.size≤z5.w.heap.size:=K5.out.size
 have s5a:z5.w.heap.size≤y5.w.heap.size:=y5.size_le
 have s5b:y5.w.heap.size≤z6.w.heap.size:=K6.out.size
 have s6a:z6.w.heap.size≤y6.w.heap.size:=y6.size_le
 have s6b:y6.w.heap.size≤z7.w.heap.size:=K7.out.size
 have s7b:z7.w.heap.size≤z8.w.heap.size:=K8.out.size
 have s8b:z8.w.heap.size≤z9.w.heap.size:=K9.out.size
 have s9a:z9.w.heap.size≤y9.w.heap.size:=y9.size_le
 have s9b:y9.w.heap.size≤z10.w.heap.size:=K10.out.size
 obtain⟨D,hD⟩:∃ D:List (Nat × Nat × (Nat→Col)),D=[(y1.w.heap.size,0,(fun _=>(0,0))),(y3.w.heap.size,1,(fun _=>(0,0))),(y4.w.heap.size,2,(fun _=>(0,0))),(y5.w.heap.size,3,(fun _=>(0,0))),(y6.w.heap.size,4,ch6),(y9.w.heap.size,6,(fun _=>(0,0)))]:=⟨_,rfl⟩
 have e0:D[0]?=some (y1.w.heap.size,0,(fun _=>(0,0))):=by rw[hD];rfl
 have e1:D[1]?=some (y3.w.heap.size,1,(fun _=>(0,0))):=by rw[hD];rfl
 have e2:D[2]?=some (y4.w.heap.size,2,(fun _=>(0,0))):=by rw[hD];rfl
 have e3:D[3]?=some (y5.w.heap.size,3,(fun _=>(0,0))):=by rw[hD];rfl
 have e4:D[4]?=some (y6.w.heap.size,4,ch6):=by rw[hD];rfl
 have e5:D[5]?=some (y9.w.heap.size,6,(fun _=>(0,0))):=by rw[hD];rfl
 clear hD
 have HC1:=fun(b:Nat) (h1:z1.w.heap.size≤b) (h2:b<y1.w.heap.size)=>(show j9 D b=B9 0 ((fun _=>(0,0)) b)from i9 e0 h2)
 have HC3:=fun(b:Nat) (h1:z3.w.heap.size≤b) (h2:b<y3.w.heap.size)=>(show j9 D b=B9 1 ((fun _=>(0,0)) b)from(f8 e0 om).trans (i9 e1 h2))
 have HC4:=fun(b:Nat) (h1:z4.w.heap.size≤b) (h2:b<y4.w.heap.size)=>(show j9 D b=B9 2 ((fun _=>(0,0)) b)from(f8 e0 om).trans ((f8 e1 om).trans (i9 e2 h2)))
 have HC5:=fun(b:Nat) (h1:z5.w.heap.size≤b) (h2:b<y5.w.heap.size)=>(show j9 D b=B9 3 ((fun _=>(0,0)) b)from(f8 e0 om).trans ((f8 e1 om).trans ((f8 e2 om).trans (i9 e3 h2))))
 have HC6:=fun(b:Nat) (h1:z6.w.heap.size≤b) (h2:b<y6.w.heap.size)=>(show j9 D b=B9 4 (ch6 b)from(f8 e0 om).trans ((f8 e1 om).trans ((f8 e2 om).trans ((f8 e3 om).trans (i9 e4 h2)))))
 have QT6:=lH ((((QO6.out.re HC6).mono (B2:=w.heap.size+3) LeN.out).keep GY6).mono (B2:=w.heap.size) om)
 have HC9:=fun(b:Nat) (h1:z9.w.heap.size≤b) (h2:b<y9.w.heap.size)=>(show j9 D b=B9 6 ((fun _=>(0,0)) b)from(f8 e0 om).trans ((f8 e1 om).trans ((f8 e2 om).trans ((f8 e3 om).trans ((f8 e4 om).trans (i9 e5 h2))))))
 refine bodyPost_ret (v:=.agg (S8 x na0 nc0 na1 nc1 na2 nc2 na3 nc3 n6a0 n6c0 n6a1 n6c1 na6 nc6).toArray) (A7 (P:=Tryz.prog) rfl rfl HR.out _ Tryz.underlying84 rfl kr) rfl ⟨(S8 x na0 nc0 na1 nc1 na2 nc2 na3 nc3 n6a0 n6c0 n6a1 n6c1 na6 nc6),j9 D,rfl,⟨⟨na0,nc0,na1,nc1,na2,nc2,na3,nc3,n6a0,n6c0,n6a1,n6c1,na6,nc6⟩,rfl,⟨(((QO1.out.re HC1).mono (B':=w.heap.size+3) LeN.out).keep GY1).mono (B':=w.heap.size) om,(((QO3.out.re HC3).mono (B':=w.heap.size+3) LeN.out).keep GY3).mono (B':=w.heap.size) om,(((QO4.out.re HC4).mono (B':=w.heap.size+3) LeN.out).keep GY4).mono (B':=w.heap.size) om,(((QO5.out.re HC5).mono (B':=w.heap.size+3) LeN.out).keep GY5).mono (B':=w.heap.size) om,QT6.out.o0,QT6.out.o1,(((QO9.out.re HC9).mono (B':=w.heap.size+3) LeN.out).keep GY9).mono (B':=w.heap.size) om,HOK.out⟩⟩,b7.of⟩
theorem bB9{x:I8}(h:Enc.Rd B w vs x)(ht:Enc.tot x≤1048576) :
  Calls Tryz.prog 32 #[.agg vs.toArray] w (R3 w x):=by
 obtain⟨A,rfl,F⟩:=h
 have HT:=lH (show d9 x.Offers≤1048576∧Enc.tot x.Sender≤1048576∧Enc.tot x.Unpacker≤1048576∧d9 x.Pairs≤1048576∧d9 x.Records≤1048576∧d9 x.Files≤1048576∧d9 x.Told≤1048576∧True from by
  have ht2:d9 x.Offers+Enc.tot x.Sender+Enc.tot x.Unpacker+d9 x.Pairs+d9 x.Records+d9 x.Files+d9 x.Told≤1048576:=ht
  have n0:=d6 x.Offers
  have n1:=Enc.tot_nonneg x.Sender
  have n2:=Enc.tot_nonneg x.Unpacker
  have n3:=d6 x.Pairs
  have n4:=d6 x.Records
  have n5:=d6 x.Files
  have n6:=d6 x.Told
  refine⟨?_,?_,?_,?_,?_,?_,?_,trivial⟩<;>omega)
 clear ht
 have HOK:=lH F.ok
 have HFF:=lH F;clear F
 have H0:=lH (j5.new ((w.alloc (.cells (M1 x A).toArray 43)).alloc (.cells X5.toArray 76)) X5 76 (w.heap.size+2) si)
 have R0:=lH ((j5.new (w.alloc (.cells (M1 x A).toArray 43)) X5 76 (w.heap.size+1) si).to (ii:b8 _ (((w.alloc (.cells (M1 x A).toArray 43)).alloc (.cells X5.toArray 76)).alloc (.cells X5.toArray 76))))
 have HB:=lH ((j5.new w (M1 x A) 43 w.heap.size rfl).to (ii:b8 _ ((w.alloc (.cells (M1 x A).toArray 43)).alloc (.cells X5.toArray 76))))
 go_enter Tryz.func32,Tryz.ntmps32
 go_wp2_with (fail)
 refine(ao7 (HFF.out.q0.keep ii) (HT.out.1)).mono ?_
 rintro _ _ ⟨na0,nc0,rfl,no0,y0,rfl⟩
 have QO0:=lH no0;clear no0
 go_wp2_with (first|(refine sP rfl _ _ _ rfl (w.heap.size+2) 0 rfl [.slice na0 x.Offers.length nc0] (aA7 1 x na0 nc0) H0 ((w.alloc (.cells (M1 x A).toArray 43)).alloc (.cells X5.toArray 76)) si ?_;intro z1 H1 K1;clear H0;have e1:LeN (w.heap.size+3) z1.w.heap.size:=⟨H1.out.lt⟩)|(refine lA rfl _ _ rfl (w.heap.size) 1 rfl [.int .i64 x.Sender.Next,.int .i64 x.Sender.Window,.slice A.a1 x.Sender.Waiting.length A.c1,.int .i64 x.Sender.Done] HB Tryz.underlying33 ?_))
 refine(bC2 (x:=x.Sender) ⟨A.a1,A.c1,rfl,HFF.out.q1.keep ii,HOK.out.1⟩ (HT.out.2.1)).mono ?_
 rintro _ _ ⟨_,ch1,rfl,⟨n1a0,n1c0,rfl,no1⟩,y1,rfl⟩
 have QO1:=lH no1;clear no1
 go_wp2_with (first|(refine sP rfl _ _ _ rfl (w.heap.size+2) 1 rfl [.int .i64 x.Sender.Next,.int .i64 x.Sender.Window,.slice n1a0 x.Sender.Waiting.length n1c0,.int .i64 x.Sender.Done] (aA7 5 x na0 nc0 n1a0 n1c0) H1 ((w.alloc (.cells (M1 x A).toArray 43)).alloc (.cells X5.toArray 76)) si ?_;intro z2 H2 K2;clear H1;have e2:LeN (w.heap.size+3) z2.w.heap.size:=⟨H2.out.lt⟩)|(refine lA rfl _ _ rfl (w.heap.size) 5 rfl [.int .i64 x.Notice.Expect,.bool x.Notice.Locked,.bool x.Notice.Again] HB Tryz.underlying35 ?_))
 refine(bz2 (B:=0) (x:=x.Notice) ⟨rfl,HOK.out.2.1⟩ (show(0:Int)≤1048576 by omega)).mono ?_
 rintro _ _ ⟨_,rfl,⟨rfl,-⟩,y2,rfl⟩
 go_wp2_with (first|(refine sP rfl _ _ _ rfl (w.heap.size+2) 5 rfl [.int .i64 x.Notice.Expect,.bool x.Notice.Locked,.bool x.Notice.Again] (aA7 8 x na0 nc0 n1a0 n1c0) H2 ((w.alloc (.cells (M1 x A).toArray 43)).alloc (.cells X5.toArray 76)) si ?_;intro z3 H3 K3;clear H2;have e3:LeN (w.heap.size+3) z3.w.heap.size:=⟨H3.out.lt⟩)|(refine lA rfl _ _ rfl (w.heap.size) 8 rfl [.int .i64 x.Unpacker.Channel,.int .i64 x.Unpacker.Next,.bool x.Unpacker.Synced,.string x.Unpacker.Rest,.int .i64 x.Unpacker.Lost] HB Tryz.underlying37 ?_))
 refine(bi1 (B:=0) (x:=x.Unpacker) ⟨rfl,HOK.out.2.2.1⟩ (HT.out.2.2.1)).mono ?_
 rintro _ _ ⟨_,rfl,⟨rfl,-⟩,y3,rfl⟩
 go_wp2_with (first|(refine sP rfl _ _ _ rfl (w.heap.size+2) 8 rfl [.int .i64 x.Unpacker.Channel,.int .i64 x.Unpacker.Next,.bool x.Unpacker.Synced,.string x.Unpacker.Rest,.int .i64 x.Unpacker.Lost] (aA7 13 x na0 nc0 n1a0 n1c0) H3 ((w.alloc (.cells (M1 x A).toArray 43)).alloc (.cells X5.toArray 76)) si ?_;intro z4 H4 K4;clear H3;have e4:LeN (w.heap.size+3) z4.w.heap.size:=⟨H4.out.lt⟩))
 refine(bJ8 (HFF.out.q2.keep ii) (HT.out.2.2.2.1)).mono ?_
 rintro _ _ ⟨na2,nc2,rfl,no4,y4,rfl⟩
 have QO4:=lH no4;clear no4
 go_wp2_with (first|(refine sP rfl _ _ _ rfl (w.heap.size+2) 13 rfl [.slice na2 x.Pairs.length nc2] (aA7 14 x na0 nc0 n1a0 n1c0 na2 nc2) H4 ((w.alloc (.cells (M1 x A).toArray 43)).alloc (.cells X5.toArray 76)) si ?_;intro z5 H5 K5;clear H4;have e5:LeN (w.heap.size+3) z5.w.heap.size:=⟨H5.out.lt⟩))
 refine(az7 (HFF.out.q3.keep ii) (HT.out.2.2.2.2.1)).mono ?_
 rintro _ _ ⟨na3,nc3,rfl,no5,y5,rfl⟩
 have QO5:=lH no5;clear no5
 go_wp2_with (first|(refine sP rfl _ _ _ rfl (w.heap.size+2) 14 rfl [.slice na3 x.Records.length nc3] (aA7 15 x na0 nc0 n1a0 n1c0 na2 nc2 na3 nc3) H5 ((w.alloc (.cells (M1 x A).toArray 43)).alloc (.cells X5.toArray 76)) si ?_;intro z6 H6 K6;clear H5;have e6:LeN (w.heap.size+3) z6.w.heap.size:=⟨H6.out.lt⟩))
 refine(bu2 (HFF.out.q4.keep ii) (HT.out.2.2.2.2.2.1)).mono ?_
 rintro _ _ ⟨na4,nc4,ch6,rows6,rfl,hx6,no6,y6,rfl⟩
 have HX6:=lH hx6;clear hx6
 have QO6:=lH no6;clear no6
 go_wp2_with (first|(refine sP rfl _ _ _ rfl (w.heap.size+2) 15 rfl [.slice na4 x.Files.length nc4] (aA7 16 x na0 nc0 n1a0 n1c0 na2 nc2 na3 nc3 na4 nc4) H6 ((w.alloc (.cells (M1 x A).toArray 43)).alloc (.cells X5.toArray 76)) si ?_;intro z7 H7 K7;clear H6;have e7:LeN (w.heap.size+3) z7.w.heap.size:=⟨H7.out.lt⟩))
 refine(bJ6 (HFF.out.q5.keep ii) (HT.out.2.2.2.2.2.2.1)).mono ?_
 rintro _ _ ⟨na5,nc5,rfl,no7,y7,rfl⟩
 have QO7:=lH no7;clear no7
 go_wp2_with (first|(refine sP rfl _ _ _ rfl (w.heap.size+2) 16 rfl [.slice na5 x.Told.length nc5] (X3 x na0 nc0 n1a0 n1c0 na2 nc2 na3 nc3 na4 nc4 na5 nc5) H7 ((w.alloc (.cells (M1 x A).toArray 43)).alloc (.cells X5.toArray 76)) si ?_;intro z8 H8 K8;clear H7;have e8:LeN (w.heap.size+3) z8.w.heap.size:=⟨H8.out.lt⟩)|(refine al8 rfl _ _ rfl (w.heap.size+2) 0 rfl (row:=(X3 x na0 nc0 n1a0 n1c0 na2 nc2 na3 nc3 na4 nc4 na5 nc5)) H8.out _ Tryz.underlying76 rfl kr kr ?_)|(refine aH1 rfl _ _ _ rfl (w.heap.size+1) 0 rfl (us:=(X3 x na0 nc0 n1a0 n1c0 na2 nc2 na3 nc3 na4 nc4 na5 nc5)) (cs2:=(X3 x na0 nc0 n1a0 n1c0 na2 nc2 na3 nc3 na4 nc4 na5 nc5)) ((j5.new (w.alloc (.cells (M1 x A).toArray 43)) X5 76 (w.heap.size+1) si).to ii) rfl kr rfl nb kr (w0:=(w.alloc (.cells (M1 x A).toArray 43))) ii si ?_;intro zr hr kr;have HR:=lH hr;clear hr;have KR:=lH kr;clear kr))
 have G8:d7 (w.heap.size+3) z8.w zr.w:=⟨KR.out.size,fun b h1 h2=>KR.out.block b om h2⟩
 have GY7:d7 (w.heap.size+3) y7.w zr.w:=d7.trans K8.out G8
 have G7:d7 (w.heap.size+3) z7.w zr.w:=d7.trans ii GY7
 have GY6:d7 (w.heap.size+3) y6.w zr.w:=d7.trans K7.out G7
 have G6:d7 (w.heap.size+3) z6.w zr.w:=d7.trans ii GY6
 have GY5:d7 (w.heap.size+3) y5.w zr.w:=d7.trans K6.out G6
 have G5:d7 (w.heap.size+3) z5.w zr.w:=d7.trans ii GY5
 have GY4:d7 (w.heap.size+3) y4.w zr.w:=d7.trans K5.out G5
 have G4:d7 (w.heap.size+3) z4.w zr.w:=d7.trans ii GY4
 have GY3:d7 (w.heap.size+3) y3.w zr.w:=d7.trans K4.out G4
 have G3:d7 (w.heap.size+3) z3.w zr.w:=d7.trans ii GY3
 have GY2:d7 (w.heap.size+3) y2.w zr.w:=d7.trans K3.out G3
 have G2:d7 (w.heap.size+3) z2.w zr.w:=d7.trans ii GY2
 have GY1:d7 (w.heap.size+3) y1.w zr.w:=d7.trans K2.out G2
 have G1:d7 (w.heap.size+3) z1.w zr.w:=d7.trans ii GY1
 have GY0:d7 (w.heap.size+3) y0.w zr.w:=d7.trans K1.out G1
 have s0a:(((w.alloc (.cells (M1 x A).toArray 43)).alloc (.cells X5.toArray 76)).alloc (.cells X5.toArray 76)).heap.size≤y0.w.heap.size:=y0.size_le
 have s0b:y0.w.heap.size≤z1.w.heap.size:=K1.out.size
 have s1a:z1.w.heap.size≤y1.w.heap.size:=y1.size_le
 have s1b:y1.w.heap.size≤z2.w.heap.size:=K2.out.size
 have s2a:z2.w.heap.size≤y2.w.heap.size:=y2.size_le
 have s2b:y2.w.heap.size≤z3.w.heap.size:=K3.out.size
 have s3a:z3.w.heap.size≤y3.w.heap.size:=y3.size_le
 have s3b:y3.w.heap.size≤z4.w.heap.size:=K4.out.size
 have s4a:z4.w.heap.size≤y4.w.heap.size:=y4.size_le
 have s4b:y4.w.heap.size≤z5.w.heap.size:=K5.out.size
 have s5a:z5.w.heap.size≤y5.w.heap.size:=y5.size_le
 have s5b:y5.w.heap.size≤z6.w.heap.size:=K6.out.size
 have s6a:z6.w.heap.size≤y6.w.heap.size:=y6.size_le
 have s6b:y6.w.heap.size≤z7.w.heap.size:=K7.out.size
 have s7a:z7.w.heap.size≤y7.w.heap.size:=y7.size_le
 have s7b:y7.w.heap.size≤z8.w.heap.size:=K8.out.size
 obtain⟨D,hD⟩:∃ D:List (Nat × Nat × (Nat→Col)),D=[(y0.w.heap.size,0,(fun _=>(0,0))),(y1.w.heap.size,1,ch1),(y4.w.heap.size,2,(fun _=>(0,0))),(y5.w.heap.size,3,(fun _=>(0,0))),(y6.w.heap.size,4,ch6),(y7.w.heap.size,5,(fun _=>(0,0)))]:=⟨_,rfl⟩
 have e0:D[0]?=some (y0.w.heap.size,0,(fun _=>(0,0))):=by rw[hD];rfl
 have e1:D[1]?=some (y1.w.heap.size,1,ch1):=by rw[hD];rfl
 have e2:D[2]?=some (y4.w.heap.size,2,(fun _=>(0,0))):=by rw[hD];rfl
 have e3:D[3]?=some (y5.w.heap.size,3,(fun _=>(0,0))):=by rw[hD];rfl
 have e4:D[4]?=some (y6.w.heap.size,4,ch6):=by rw[hD];rfl
 have e5:D[5]?=some (y7.w.heap.size,5,(fun _=>(0,0))):=by rw[hD];rfl
 clear hD
 have HC0:=fun(b:Nat) (h1:(((w.alloc (.cells (M1 x A).toArray 43)).alloc (.cells X5.toArray 76)).alloc (.cells X5.toArray 76)).heap.size≤b) (h2:b<y0.w.heap.size)=>(show j9 D b=B9 0 ((fun _=>(0,0)) b)from i9 e0 h2)
 have HC1:=fun(b:Nat) (h1:z1.w.heap.size≤b) (h2:b<y1.w.heap.size)=>(show j9 D b=B9 1 (ch1 b)from(f8 e0 om).trans (i9 e1 h2))
 have QT1:=lH ((((QO1.out.re HC1).mono (B2:=w.heap.size+3) LeN.out).keep GY1).mono (B2:=w.heap.size) om)
 have HC4:=fun(b:Nat) (h1:z4.w.heap.size≤b) (h2:b<y4.w.heap.size)=>(show j9 D b=B9 2 ((fun _=>(0,0)) b)from(f8 e0 om).trans ((f8 e1 om).trans (i9 e2 h2)))
 have HC5:=fun(b:Nat) (h1:z5.w.heap.size≤b) (h2:b<y5.w.heap.size)=>(show j9 D b=B9 3 ((fun _=>(0,0)) b)from(f8 e0 om).trans ((f8 e1 om).trans ((f8 e2 om).trans (i9 e3 h2))))
 have HC6:=fun(b:Nat) (h1:z6.w.heap.size≤b) (h2:b<y6.w.heap.size)=>(show j9 D b=B9 4 (ch6 b)from(f8 e0 om).trans ((f8 e1 om).trans ((f8 e2 om).trans ((f8 e3 om).trans (i9 e4 h2)))))
 have HC7:=fun(b:Nat) (h1:z7.w.heap.size≤b) (h2:b<y7.w.heap.size)=>(show j9 D b=B9 5 ((fun _=>(0,0)) b)from(f8 e0 om).trans ((f8 e1 om).trans ((f8 e2 om).trans ((f8 e3 om).trans ((f8 e4 om).trans (i9 e5 h2))))))
 refine bodyPost_ret (v:=.agg (X3 x na0 nc0 n1a0 n1c0 na2 nc2 na3 nc3 na4 nc4 na5 nc5).toArray) (A7 (P:=Tryz.prog) rfl rfl HR.out _ Tryz.underlying76 rfl kr) rfl ⟨(X3 x na0 nc0 n1a0 n1c0 na2 nc2 na3 nc3 na4 nc4 na5 nc5),j9 D,rfl,⟨⟨na0,nc0,n1a0,n1c0,na2,nc2,na3,nc3,na4,nc4,na5,nc5⟩,rfl,⟨(((QO0.out.re HC0).mono (B':=w.heap.size+3) LeN.out).keep GY0).mono (B':=w.heap.size) om,QT1.out.o0,(((QO4.out.re HC4).mono (B':=w.heap.size+3) LeN.out).keep GY4).mono (B':=w.heap.size) om,(((QO5.out.re HC5).mono (B':=w.heap.size+3) LeN.out).keep GY5).mono (B':=w.heap.size) om,⟨_,HX6.out,(((QO6.out.re HC6).mono (B':=w.heap.size+3) LeN.out).keep GY6).mono (B':=w.heap.size) om⟩,(((QO7.out.re HC7).mono (B':=w.heap.size+3) LeN.out).keep GY7).mono (B':=w.heap.size) om,HOK.out⟩⟩,b7.of⟩
theorem bK1{x:M0}(h:Enc.Rd B w vs x)(ht:Enc.tot x≤1048576) :
  Calls Tryz.prog 33 #[.agg vs.toArray] w (R3 w x):=by
 obtain⟨A,rfl,F⟩:=h
 have HT:=lH (show Enc.tot x.Board≤1048576∧Enc.tot x.Packer≤1048576∧d9 x.Files≤1048576∧d9 x.Outs≤1048576∧d9 x.Sent≤1048576∧True from by
  have ht2:Enc.tot x.Board+Enc.tot x.Packer+d9 x.Files+d9 x.Outs+d9 x.Sent≤1048576:=ht
  have n0:=Enc.tot_nonneg x.Board
  have n1:=Enc.tot_nonneg x.Packer
  have n2:=d6 x.Files
  have n3:=d6 x.Outs
  have n4:=d6 x.Sent
  refine⟨?_,?_,?_,?_,?_,trivial⟩<;>omega)
 clear ht
 have HOK:=lH F.ok
 have HFF:=lH F;clear F
 have H0:=lH (j5.new ((w.alloc (.cells (S9 x A).toArray 58)).alloc (.cells ah5.toArray 88)) ah5 88 (w.heap.size+2) si)
 have R0:=lH ((j5.new (w.alloc (.cells (S9 x A).toArray 58)) ah5 88 (w.heap.size+1) si).to (ii:b8 _ (((w.alloc (.cells (S9 x A).toArray 58)).alloc (.cells ah5.toArray 88)).alloc (.cells ah5.toArray 88))))
 have HB:=lH ((j5.new w (S9 x A) 58 w.heap.size rfl).to (ii:b8 _ ((w.alloc (.cells (S9 x A).toArray 58)).alloc (.cells ah5.toArray 88))))
 go_enter Tryz.func33,Tryz.ntmps33
 go_wp2_with (first|(refine lA rfl _ _ rfl (w.heap.size) 0 rfl [.int .i64 x.Receiver.Expect,.bool x.Receiver.Locked,.bool x.Receiver.Again,.int .i64 x.Receiver.Taken] HB Tryz.underlying45 ?_))
 refine(bi0 (B:=0) (x:=x.Receiver) ⟨rfl,HOK.out.1⟩ (show(0:Int)≤1048576 by omega)).mono ?_
 rintro _ _ ⟨_,rfl,⟨rfl,-⟩,y0,rfl⟩
 go_wp2_with (first|(refine sP rfl _ _ _ rfl (w.heap.size+2) 0 rfl [.int .i64 x.Receiver.Expect,.bool x.Receiver.Locked,.bool x.Receiver.Again,.int .i64 x.Receiver.Taken] (aK8 4 x) H0 ((w.alloc (.cells (S9 x A).toArray 58)).alloc (.cells ah5.toArray 88)) si ?_;intro z1 H1 K1;clear H0;have e1:LeN (w.heap.size+3) z1.w.heap.size:=⟨H1.out.lt⟩)|(refine lA rfl _ _ rfl (w.heap.size) 4 rfl (F8 x.Board A) HB Tryz.underlying53 ?_))
 refine(bJ5 (x:=x.Board) ⟨⟨A.a0,A.c0,A.a1,A.c1,A.a2,A.c2,A.a3,A.c3,A.a4,A.c4,A.a5,A.c5,A.a6,A.c6⟩,rfl,⟨HFF.out.q0.keep ii,HFF.out.q1.keep ii,HFF.out.q2.keep ii,HFF.out.q3.keep ii,HFF.out.q4.keep ii,HFF.out.q5.keep ii,HFF.out.q6.keep ii,HOK.out.2.1⟩⟩ (HT.out.1)).mono ?_
 rintro _ _ ⟨_,ch1,rfl,⟨n1A,rfl,no1⟩,y1,rfl⟩
 have QO1:=lH no1;clear no1
 go_wp2_with (first|(refine sP rfl _ _ _ rfl (w.heap.size+2) 4 rfl (F8 x.Board n1A) (aK8 16 x n1A.a0 n1A.c0 n1A.a1 n1A.c1 n1A.a2 n1A.c2 n1A.a3 n1A.c3 n1A.a4 n1A.c4 n1A.a5 n1A.c5 n1A.a6 n1A.c6) H1 ((w.alloc (.cells (S9 x A).toArray 58)).alloc (.cells ah5.toArray 88)) si ?_;intro z2 H2 K2;clear H1;have e2:LeN (w.heap.size+3) z2.w.heap.size:=⟨H2.out.lt⟩)|(refine lA rfl _ _ rfl (w.heap.size) 16 rfl [.int .i64 x.Packer.Channel,.int .i64 x.Packer.Count,.string x.Packer.Rest,.slice A.a7 x.Packer.Starts.length A.c7] HB Tryz.underlying55 ?_))
 refine(bC1 (x:=x.Packer) ⟨A.a7,A.c7,rfl,HFF.out.q7.keep ii,HOK.out.2.2.1⟩ (HT.out.2.1)).mono ?_
 rintro _ _ ⟨_,ch2,rfl,⟨n2a0,n2c0,rfl,no2⟩,y2,rfl⟩
 have QO2:=lH no2;clear no2
 go_wp2_with (first|(refine sP rfl _ _ _ rfl (w.heap.size+2) 16 rfl [.int .i64 x.Packer.Channel,.int .i64 x.Packer.Count,.string x.Packer.Rest,.slice n2a0 x.Packer.Starts.length n2c0] (aK8 20 x n1A.a0 n1A.c0 n1A.a1 n1A.c1 n1A.a2 n1A.c2 n1A.a3 n1A.c3 n1A.a4 n1A.c4 n1A.a5 n1A.c5 n1A.a6 n1A.c6 n2a0 n2c0) H2 ((w.alloc (.cells (S9 x A).toArray 58)).alloc (.cells ah5.toArray 88)) si ?_;intro z3 H3 K3;clear H2;have e3:LeN (w.heap.size+3) z3.w.heap.size:=⟨H3.out.lt⟩)|(refine sP rfl _ _ _ rfl (w.heap.size+2) 20 rfl [.int .i64 x.Seq] (aK8 21 x n1A.a0 n1A.c0 n1A.a1 n1A.c1 n1A.a2 n1A.c2 n1A.a3 n1A.c3 n1A.a4 n1A.c4 n1A.a5 n1A.c5 n1A.a6 n1A.c6 n2a0 n2c0) H3 ((w.alloc (.cells (S9 x A).toArray 58)).alloc (.cells ah5.toArray 88)) si ?_;intro z4 H4 K4;clear H3;have e4:LeN (w.heap.size+3) z4.w.heap.size:=⟨H4.out.lt⟩))
 refine(ao7 (HFF.out.q8.keep ii) (HT.out.2.2.1)).mono ?_
 rintro _ _ ⟨na8,nc8,rfl,no4,y4,rfl⟩
 have QO4:=lH no4;clear no4
 go_wp2_with (first|(refine sP rfl _ _ _ rfl (w.heap.size+2) 21 rfl [.slice na8 x.Files.length nc8] (aK8 22 x n1A.a0 n1A.c0 n1A.a1 n1A.c1 n1A.a2 n1A.c2 n1A.a3 n1A.c3 n1A.a4 n1A.c4 n1A.a5 n1A.c5 n1A.a6 n1A.c6 n2a0 n2c0 na8 nc8) H4 ((w.alloc (.cells (S9 x A).toArray 58)).alloc (.cells ah5.toArray 88)) si ?_;intro z5 H5 K5;clear H4;have e5:LeN (w.heap.size+3) z5.w.heap.size:=⟨H5.out.lt⟩))
 refine(bk0 (HFF.out.q9.keep ii) (HT.out.2.2.2.1)).mono ?_
 rintro _ _ ⟨na9,nc9,ch5,rows5,rfl,hx5,no5,y5,rfl⟩
 have HX5:=lH hx5;clear hx5
 have QO5:=lH no5;clear no5
 go_wp2_with (first|(refine sP rfl _ _ _ rfl (w.heap.size+2) 22 rfl [.slice na9 x.Outs.length nc9] (aK8 23 x n1A.a0 n1A.c0 n1A.a1 n1A.c1 n1A.a2 n1A.c2 n1A.a3 n1A.c3 n1A.a4 n1A.c4 n1A.a5 n1A.c5 n1A.a6 n1A.c6 n2a0 n2c0 na8 nc8 na9 nc9) H5 ((w.alloc (.cells (S9 x A).toArray 58)).alloc (.cells ah5.toArray 88)) si ?_;intro z6 H6 K6;clear H5;have e6:LeN (w.heap.size+3) z6.w.heap.size:=⟨H6.out.lt⟩)|(refine sP rfl _ _ _ rfl (w.heap.size+2) 23 rfl [.int .i64 x.Begun] (aK8 24 x n1A.a0 n1A.c0 n1A.a1 n1A.c1 n1A.a2 n1A.c2 n1A.a3 n1A.c3 n1A.a4 n1A.c4 n1A.a5 n1A.c5 n1A.a6 n1A.c6 n2a0 n2c0 na8 nc8 na9 nc9) H6 ((w.alloc (.cells (S9 x A).toArray 58)).alloc (.cells ah5.toArray 88)) si ?_;intro z7 H7 K7;clear H6;have e7:LeN (w.heap.size+3) z7.w.heap.size:=⟨H7.out.lt⟩))
 refine(az7 (HFF.out.q10.keep ii) (HT.out.2.2.2.2.1)).mono ?_
 rintro _ _ ⟨na10,nc10,rfl,no7,y7,rfl⟩
 have QO7:=lH no7;clear no7
 go_wp2_with (first|(refine sP rfl _ _ _ rfl (w.heap.size+2) 24 rfl [.slice na10 x.Sent.length nc10] (ad9 x n1A.a0 n1A.c0 n1A.a1 n1A.c1 n1A.a2 n1A.c2 n1A.a3 n1A.c3 n1A.a4 n1A.c4 n1A.a5 n1A.c5 n1A.a6 n1A.c6 n2a0 n2c0 na8 nc8 na9 nc9 na10 nc10) H7 ((w.alloc (.cells (S9 x A).toArray 58)).alloc (.cells ah5.toArray 88)) si ?_;intro z8 H8 K8;clear H7;have e8:LeN (w.heap.size+3) z8.w.heap.size:=⟨H8.out.lt⟩)|(refine al8 rfl _ _ rfl (w.heap.size+2) 0 rfl (row:=(ad9 x n1A.a0 n1A.c0 n1A.a1 n1A.c1 n1A.a2 n1A.c2 n1A.a3 n1A.c3 n1A.a4 n1A.c4 n1A.a5 n1A.c5 n1A.a6 n1A.c6 n2a0 n2c0 na8 nc8 na9 nc9 na10 nc10)) H8.out _ Tryz.underlying88 rfl kr kr ?_)|(refine aH1 rfl _ _ _ rfl (w.heap.size+1) 0 rfl (us:=(ad9 x n1A.a0 n1A.c0 n1A.a1 n1A.c1 n1A.a2 n1A.c2 n1A.a3 n1A.c3 n1A.a4 n1A.c4 n1A.a5 n1A.c5 n1A.a6 n1A.c6 n2a0 n2c0 na8 nc8 na9 nc9 na10 nc10)) (cs2:=(ad9 x n1A.a0 n1A.c0 n1A.a1 n1A.c1 n1A.a2 n1A.c2 n1A.a3 n1A.c3 n1A.a4 n1A.c4 n1A.a5 n1A.c5 n1A.a6 n1A.c6 n2a0 n2c0 na8 nc8 na9 nc9 na10 nc10)) ((j5.new (w.alloc (.cells (S9 x A).toArray 58)) ah5 88 (w.heap.size+1) si).to ii) rfl kr rfl nb kr (w0:=(w.alloc (.cells (S9 x A).toArray 58))) ii si ?_;intro zr hr kr;have HR:=lH hr;clear hr;have KR:=lH kr;clear kr))
 have G8:d7 (w.heap.size+3) z8.w zr.w:=⟨KR.out.size,fun b h1 h2=>KR.out.block b om h2⟩
 have GY7:d7 (w.heap.size+3) y7.w zr.w:=d7.trans K8.out G8
 have G7:d7 (w.heap.size+3) z7.w zr.w:=d7.trans ii GY7
 have G6:d7 (w.heap.size+3) z6.w zr.w:=d7.trans K7.out G7
 have GY5:d7 (w.heap.size+3) y5.w zr.w:=d7.trans K6.out G6
 have G5:d7 (w.heap.size+3) z5.w zr.w:=d7.trans ii GY5
 have GY4:d7 (w.heap.size+3) y4.w zr.w:=d7.trans K5.out G5
 have G4:d7 (w.heap.size+3) z4.w zr.w:=d7.trans ii GY4
 have G3:d7 (w.heap.size+3) z3.w zr.w:=d7.trans K4.out G4
 have GY2:d7 (w.heap.size+3) y2.w zr.w:=d7.trans K3.out G3
 have G2:d7 (w.heap.size+3) z2.w zr.w:=d7.trans ii GY2
 have GY1:d7 (w.heap.size+3) y1.w zr.w:=d7.trans K2.out G2
 have G1:d7 (w.heap.size+3) z1.w zr.w:=d7.trans ii GY1
 have GY0:d7 (w.heap.size+3) y0.w zr.w:=d7.trans K1.out G1
 have s0a:(((w.alloc (.cells (S9 x A).toArray 58)).alloc (.cells ah5.toArray 88)).alloc (.cells ah5.toArray 88)).heap.size≤y0.w.heap.size:=y0.size_le
 have s0b:y0.w.heap.size≤z1.w.heap.size:=K1.out.size
 have s1a:z1.w.heap.size≤y1.w.heap.size:=y1.size_le
 have s1b:y1.w.heap.size≤z2.w.heap.size:=K2.out.size
 have s2a:z2.w.heap.size≤y2.w.heap.size:=y2.size_le
 have s2b:y2.w.heap.size≤z3.w.heap.size:=K3.out.size
 have s3b:z3.w.heap.size≤z4.w.heap.size:=K4.out.size
 have s4a:z4.w.heap.size≤y4.w.heap.size:=y4.size_le
 have s4b:y4.w.heap.size≤z5.w.heap.size:=K5.out.size
 have s5a:z5.w.heap.size≤y5.w.heap.size:=y5.size_le
 have s5b:y5.w.heap.size≤z6.w.heap.size:=K6.out.size
 have s6b:z6.w.heap.size≤z7.w.heap.size:=K7.out.size
 have s7a:z7.w.heap.size≤y7.w.heap.size:=y7.size_le
 have s7b:y7.w.heap.size≤z8.w.heap.size:=K8.out.size
 obtain⟨D,hD⟩:∃ D:List (Nat × Nat × (Nat→Col)),D=[(y1.w.heap.size,0,ch1),(y2.w.heap.size,7,ch2),(y4.w.heap.size,8,(fun _=>(0,0))),(y5.w.heap.size,9,ch5),(y7.w.heap.size,10,(fun _=>(0,0)))]:=⟨_,rfl⟩
 have e0:D[0]?=some (y1.w.heap.size,0,ch1):=by rw[hD];rfl
 have e1:D[1]?=some (y2.w.heap.size,7,ch2):=by rw[hD];rfl
 have e2:D[2]?=some (y4.w.heap.size,8,(fun _=>(0,0))):=by rw[hD];rfl
 have e3:D[3]?=some (y5.w.heap.size,9,ch5):=by rw[hD];rfl
 have e4:D[4]?=some (y7.w.heap.size,10,(fun _=>(0,0))):=by rw[hD];rfl
 clear hD
 have HC1:=fun(b:Nat) (h1:z1.w.heap.size≤b) (h2:b<y1.w.heap.size)=>(show j9 D b=B9 0 (ch1 b)from i9 e0 h2)
 have QT1:=lH ((((QO1.out.re HC1).mono (B2:=w.heap.size+3) LeN.out).keep GY1).mono (B2:=w.heap.size) om)
 have HC2:=fun(b:Nat) (h1:z2.w.heap.size≤b) (h2:b<y2.w.heap.size)=>(show j9 D b=B9 7 (ch2 b)from(f8 e0 om).trans (i9 e1 h2))
 have QT2:=lH ((((QO2.out.re HC2).mono (B2:=w.heap.size+3) LeN.out).keep GY2).mono (B2:=w.heap.size) om)
 have HC4:=fun(b:Nat) (h1:z4.w.heap.size≤b) (h2:b<y4.w.heap.size)=>(show j9 D b=B9 8 ((fun _=>(0,0)) b)from(f8 e0 om).trans ((f8 e1 om).trans (i9 e2 h2)))
 have HC5:=fun(b:Nat) (h1:z5.w.heap.size≤b) (h2:b<y5.w.heap.size)=>(show j9 D b=B9 9 (ch5 b)from(f8 e0 om).trans ((f8 e1 om).trans ((f8 e2 om).trans (i9 e3 h2))))
 have HC7:=fun(b:Nat) (h1:z7.w.heap.size≤b) (h2:b<y7.w.heap.size)=>(show j9 D b=B9 10 ((fun _=>(0,0)) b)from(f8 e0 om).trans ((f8 e1 om).trans ((f8 e2 om).trans ((f8 e3 om).trans (i9 e4 h2)))))
 refine bodyPost_ret (v:=.agg (ad9 x n1A.a0 n1A.c0 n1A.a1 n1A.c1 n1A.a2 n1A.c2 n1A.a3 n1A.c3 n1A.a4 n1A.c4 n1A.a5 n1A.c5 n1A.a6 n1A.c6 n2a0 n2c0 na8 nc8 na9 nc9 na10 nc10).toArray) (A7 (P:=Tryz.prog) rfl rfl HR.out _ Tryz.underlying88 rfl kr) rfl ⟨(ad9 x n1A.a0 n1A.c0 n1A.a1 n1A.c1 n1A.a2 n1A.c2 n1A.a3 n1A.c3 n1A.a4 n1A.c4 n1A.a5 n1A.c5 n1A.a6 n1A.c6 n2a0 n2c0 na8 nc8 na9 nc9 na10 nc10),j9 D,rfl,⟨⟨n1A.a0,n1A.c0,n1A.a1,n1A.c1,n1A.a2,n1A.c2,n1A.a3,n1A.c3,n1A.a4,n1A.c4,n1A.a5,n1A.c5,n1A.a6,n1A.c6,n2a0,n2c0,na8,nc8,na9,nc9,na10,nc10⟩,rfl,⟨QT1.out.o0,QT1.out.o1,QT1.out.o2,QT1.out.o3,QT1.out.o4,QT1.out.o5,QT1.out.o6,QT2.out.o0,(((QO4.out.re HC4).mono (B':=w.heap.size+3) LeN.out).keep GY4).mono (B':=w.heap.size) om,⟨_,HX5.out,(((QO5.out.re HC5).mono (B':=w.heap.size+3) LeN.out).keep GY5).mono (B':=w.heap.size) om⟩,(((QO7.out.re HC7).mono (B':=w.heap.size+3) LeN.out).keep GY7).mono (B':=w.heap.size) om,HOK.out⟩⟩,b7.of⟩
theorem aP3{x:f7}(h:Enc.Rd B w vs x)(ht:Enc.tot x≤1048576) :
  Calls Tryz.prog 7 #[.agg vs.toArray] w (R3 w x):=by
 obtain⟨A,rfl,F⟩:=h
 have HT:=lH (show d9 x.Plan≤1048576∧d9 x.Ups≤1048576∧d9 x.Downs≤1048576∧Enc.tot x.Ground≤1048576∧Enc.tot x.Space≤1048576∧d9 x.Offered≤1048576∧d9 x.Took≤1048576∧True from by
  have ht2:d9 x.Plan+d9 x.Ups+d9 x.Downs+Enc.tot x.Ground+Enc.tot x.Space+d9 x.Offered+d9 x.Took≤1048576:=ht
  have n0:=d6 x.Plan
  have n1:=d6 x.Ups
  have n2:=d6 x.Downs
  have n3:=Enc.tot_nonneg x.Ground
  have n4:=Enc.tot_nonneg x.Space
  have n5:=d6 x.Offered
  have n6:=d6 x.Took
  refine⟨?_,?_,?_,?_,?_,?_,?_,trivial⟩<;>omega)
 clear ht
 have HOK:=lH F.ok
 have HFF:=lH F;clear F
 have H0:=lH (j5.new ((w.alloc (.cells (s9 x A).toArray 60)).alloc (.cells A3.toArray 90)) A3 90 (w.heap.size+2) si)
 have R0:=lH ((j5.new (w.alloc (.cells (s9 x A).toArray 60)) A3 90 (w.heap.size+1) si).to (ii:b8 _ (((w.alloc (.cells (s9 x A).toArray 60)).alloc (.cells A3.toArray 90)).alloc (.cells A3.toArray 90))))
 have HB:=lH ((j5.new w (s9 x A) 60 w.heap.size rfl).to (ii:b8 _ ((w.alloc (.cells (s9 x A).toArray 60)).alloc (.cells A3.toArray 90))))
 go_enter Tryz.func7,Tryz.ntmps7
 go_wp2_with (first|(refine sP rfl _ _ _ rfl (w.heap.size+2) 0 rfl [.int .i64 x.Time] (af0 1 x) H0 ((w.alloc (.cells (s9 x A).toArray 60)).alloc (.cells A3.toArray 90)) si ?_;intro z1 H1 K1;clear H0;have e1:LeN (w.heap.size+3) z1.w.heap.size:=⟨H1.out.lt⟩)|(refine sP rfl _ _ _ rfl (w.heap.size+2) 1 rfl [.int .i64 x.Light] (af0 2 x) H1 ((w.alloc (.cells (s9 x A).toArray 60)).alloc (.cells A3.toArray 90)) si ?_;intro z2 H2 K2;clear H1;have e2:LeN (w.heap.size+3) z2.w.heap.size:=⟨H2.out.lt⟩)|(refine lA rfl _ _ rfl (w.heap.size) 2 rfl [.int .i64 x.Drift.Rate,.int .i64 x.Drift.Offset] HB Tryz.underlying23 ?_))
 refine(bH6 (B:=0) (x:=x.Drift) ⟨rfl,HOK.out.2.2.1⟩ (show(0:Int)≤1048576 by omega)).mono ?_
 rintro _ _ ⟨_,rfl,⟨rfl,-⟩,y2,rfl⟩
 go_wp2_with (first|(refine sP rfl _ _ _ rfl (w.heap.size+2) 2 rfl [.int .i64 x.Drift.Rate,.int .i64 x.Drift.Offset] (af0 4 x) H2 ((w.alloc (.cells (s9 x A).toArray 60)).alloc (.cells A3.toArray 90)) si ?_;intro z3 H3 K3;clear H2;have e3:LeN (w.heap.size+3) z3.w.heap.size:=⟨H3.out.lt⟩)|(refine lA rfl _ _ rfl (w.heap.size) 4 rfl [.int .i64 x.Orbit.Period,.int .i64 x.Orbit.Start,.int .i64 x.Orbit.Length] HB Tryz.underlying25 ?_))
 refine(bH8 (B:=0) (x:=x.Orbit) ⟨rfl,HOK.out.2.2.2.1⟩ (show(0:Int)≤1048576 by omega)).mono ?_
 rintro _ _ ⟨_,rfl,⟨rfl,-⟩,y3,rfl⟩
 go_wp2_with (first|(refine sP rfl _ _ _ rfl (w.heap.size+2) 4 rfl [.int .i64 x.Orbit.Period,.int .i64 x.Orbit.Start,.int .i64 x.Orbit.Length] (af0 7 x) H3 ((w.alloc (.cells (s9 x A).toArray 60)).alloc (.cells A3.toArray 90)) si ?_;intro z4 H4 K4;clear H3;have e4:LeN (w.heap.size+3) z4.w.heap.size:=⟨H4.out.lt⟩))
 refine(bK0 (HFF.out.q0.keep ii) (HT.out.1)).mono ?_
 rintro _ _ ⟨na0,nc0,rfl,no4,y4,rfl⟩
 have QO4:=lH no4;clear no4
 go_wp2_with (first|(refine sP rfl _ _ _ rfl (w.heap.size+2) 7 rfl [.slice na0 x.Plan.length nc0] (af0 8 x na0 nc0) H4 ((w.alloc (.cells (s9 x A).toArray 60)).alloc (.cells A3.toArray 90)) si ?_;intro z5 H5 K5;clear H4;have e5:LeN (w.heap.size+3) z5.w.heap.size:=⟨H5.out.lt⟩)|(refine lA rfl _ _ rfl (w.heap.size) 8 rfl [.int .i64 x.Up.Seed,.int .i64 x.Up.Burst,.int .i64 x.Up.Loss] HB Tryz.underlying28 ?_))
 refine(aM3 (B:=0) (x:=x.Up) ⟨rfl,HOK.out.2.2.2.2.1⟩ (show(0:Int)≤1048576 by omega)).mono ?_
 rintro _ _ ⟨_,rfl,⟨rfl,-⟩,y5,rfl⟩
 go_wp2_with (first|(refine sP rfl _ _ _ rfl (w.heap.size+2) 8 rfl [.int .i64 x.Up.Seed,.int .i64 x.Up.Burst,.int .i64 x.Up.Loss] (af0 11 x na0 nc0) H5 ((w.alloc (.cells (s9 x A).toArray 60)).alloc (.cells A3.toArray 90)) si ?_;intro z6 H6 K6;clear H5;have e6:LeN (w.heap.size+3) z6.w.heap.size:=⟨H6.out.lt⟩)|(refine lA rfl _ _ rfl (w.heap.size) 11 rfl [.int .i64 x.Down.Seed,.int .i64 x.Down.Burst,.int .i64 x.Down.Loss] HB Tryz.underlying28 ?_))
 refine(aM3 (B:=0) (x:=x.Down) ⟨rfl,HOK.out.2.2.2.2.2.1⟩ (show(0:Int)≤1048576 by omega)).mono ?_
 rintro _ _ ⟨_,rfl,⟨rfl,-⟩,y6,rfl⟩
 go_wp2_with (first|(refine sP rfl _ _ _ rfl (w.heap.size+2) 11 rfl [.int .i64 x.Down.Seed,.int .i64 x.Down.Burst,.int .i64 x.Down.Loss] (af0 14 x na0 nc0) H6 ((w.alloc (.cells (s9 x A).toArray 60)).alloc (.cells A3.toArray 90)) si ?_;intro z7 H7 K7;clear H6;have e7:LeN (w.heap.size+3) z7.w.heap.size:=⟨H7.out.lt⟩))
 refine(aP2 (HFF.out.q1.keep ii) (HT.out.2.1)).mono ?_
 rintro _ _ ⟨na1,nc1,rfl,no7,y7,rfl⟩
 have QO7:=lH no7;clear no7
 go_wp2_with (first|(refine sP rfl _ _ _ rfl (w.heap.size+2) 14 rfl [.slice na1 x.Ups.length nc1] (af0 15 x na0 nc0 na1 nc1) H7 ((w.alloc (.cells (s9 x A).toArray 60)).alloc (.cells A3.toArray 90)) si ?_;intro z8 H8 K8;clear H7;have e8:LeN (w.heap.size+3) z8.w.heap.size:=⟨H8.out.lt⟩))
 refine(aP2 (HFF.out.q2.keep ii) (HT.out.2.2.1)).mono ?_
 rintro _ _ ⟨na2,nc2,rfl,no8,y8,rfl⟩
 have QO8:=lH no8;clear no8
 go_wp2_with (first|(refine sP rfl _ _ _ rfl (w.heap.size+2) 15 rfl [.slice na2 x.Downs.length nc2] (af0 16 x na0 nc0 na1 nc1 na2 nc2) H8 ((w.alloc (.cells (s9 x A).toArray 60)).alloc (.cells A3.toArray 90)) si ?_;intro z9 H9 K9;clear H8;have e9:LeN (w.heap.size+3) z9.w.heap.size:=⟨H9.out.lt⟩)|(refine lA rfl _ _ rfl (w.heap.size) 16 rfl (X3 x.Ground A.a3 A.c3 A.a4 A.c4 A.a5 A.c5 A.a6 A.c6 A.a7 A.c7 A.a8 A.c8) HB Tryz.underlying43 ?_))
 refine(bB9 (x:=x.Ground) ⟨⟨A.a3,A.c3,A.a4,A.c4,A.a5,A.c5,A.a6,A.c6,A.a7,A.c7,A.a8,A.c8⟩,rfl,⟨HFF.out.q3.keep ii,HFF.out.q4.keep ii,HFF.out.q5.keep ii,HFF.out.q6.keep ii,HFF.out.q7.keep ii,HFF.out.q8.keep ii,HOK.out.2.2.2.2.2.2.1⟩⟩ (HT.out.2.2.2.1)).mono ?_
 rintro _ _ ⟨_,ch9,rfl,⟨n9A,rfl,no9⟩,y9,rfl⟩
 have QO9:=lH no9;clear no9
 go_wp2_with (first|(refine sP rfl _ _ _ rfl (w.heap.size+2) 16 rfl (M1 x.Ground n9A) (af0 33 x na0 nc0 na1 nc1 na2 nc2 n9A.a0 n9A.c0 n9A.a1 n9A.c1 n9A.a2 n9A.c2 n9A.a3 n9A.c3 n9A.a4 n9A.c4 n9A.a5 n9A.c5) H9 ((w.alloc (.cells (s9 x A).toArray 60)).alloc (.cells A3.toArray 90)) si ?_;intro z10 H10 K10;clear H9;have e10:LeN (w.heap.size+3) z10.w.heap.size:=⟨H10.out.lt⟩)|(refine lA rfl _ _ rfl (w.heap.size) 33 rfl (ad9 x.Space A.a9 A.c9 A.a10 A.c10 A.a11 A.c11 A.a12 A.c12 A.a13 A.c13 A.a14 A.c14 A.a15 A.c15 A.a16 A.c16 A.a17 A.c17 A.a18 A.c18 A.a19 A.c19) HB Tryz.underlying58 ?_))
 refine(bK1 (x:=x.Space) ⟨⟨A.a9,A.c9,A.a10,A.c10,A.a11,A.c11,A.a12,A.c12,A.a13,A.c13,A.a14,A.c14,A.a15,A.c15,A.a16,A.c16,A.a17,A.c17,A.a18,A.c18,A.a19,A.c19⟩,rfl,⟨HFF.out.q9.keep ii,HFF.out.q10.keep ii,HFF.out.q11.keep ii,HFF.out.q12.keep ii,HFF.out.q13.keep ii,HFF.out.q14.keep ii,HFF.out.q15.keep ii,HFF.out.q16.keep ii,HFF.out.q17.keep ii,HFF.out.q18.keep ii,HFF.out.q19.keep ii,HOK.out.2.2.2.2.2.2.2.1⟩⟩ (HT.out.2.2.2.2.1)).mono ?_
 rintro _ _ ⟨_,ch10,rfl,⟨n10A,rfl,no10⟩,y10,rfl⟩
 have QO10:=lH no10;clear no10
 go_wp2_with (first|(refine sP rfl _ _ _ rfl (w.heap.size+2) 33 rfl (S9 x.Space n10A) (af0 58 x na0 nc0 na1 nc1 na2 nc2 n9A.a0 n9A.c0 n9A.a1 n9A.c1 n9A.a2 n9A.c2 n9A.a3 n9A.c3 n9A.a4 n9A.c4 n9A.a5 n9A.c5 n10A.a0 n10A.c0 n10A.a1 n10A.c1 n10A.a2 n10A.c2 n10A.a3 n10A.c3 n10A.a4 n10A.c4 n10A.a5 n10A.c5 n10A.a6 n10A.c6 n10A.a7 n10A.c7 n10A.a8 n10A.c8 n10A.a9 n10A.c9 n10A.a10 n10A.c10) H10 ((w.alloc (.cells (s9 x A).toArray 60)).alloc (.cells A3.toArray 90)) si ?_;intro z11 H11 K11;clear H10;have e11:LeN (w.heap.size+3) z11.w.heap.size:=⟨H11.out.lt⟩))
 refine(ao7 (HFF.out.q20.keep ii) (HT.out.2.2.2.2.2.1)).mono ?_
 rintro _ _ ⟨na20,nc20,rfl,no11,y11,rfl⟩
 have QO11:=lH no11;clear no11
 go_wp2_with (first|(refine sP rfl _ _ _ rfl (w.heap.size+2) 58 rfl [.slice na20 x.Offered.length nc20] (af0 59 x na0 nc0 na1 nc1 na2 nc2 n9A.a0 n9A.c0 n9A.a1 n9A.c1 n9A.a2 n9A.c2 n9A.a3 n9A.c3 n9A.a4 n9A.c4 n9A.a5 n9A.c5 n10A.a0 n10A.c0 n10A.a1 n10A.c1 n10A.a2 n10A.c2 n10A.a3 n10A.c3 n10A.a4 n10A.c4 n10A.a5 n10A.c5 n10A.a6 n10A.c6 n10A.a7 n10A.c7 n10A.a8 n10A.c8 n10A.a9 n10A.c9 n10A.a10 n10A.c10 na20 nc20) H11 ((w.alloc (.cells (s9 x A).toArray 60)).alloc (.cells A3.toArray 90)) si ?_;intro z12 H12 K12;clear H11;have e12:LeN (w.heap.size+3) z12.w.heap.size:=⟨H12.out.lt⟩))
 refine(ao7 (HFF.out.q21.keep ii) (HT.out.2.2.2.2.2.2.1)).mono ?_
 rintro _ _ ⟨na21,nc21,rfl,no12,y12,rfl⟩
 have QO12:=lH no12;clear no12
 go_wp2_with (first|(refine sP rfl _ _ _ rfl (w.heap.size+2) 59 rfl [.slice na21 x.Took.length nc21] (af0 60 x na0 nc0 na1 nc1 na2 nc2 n9A.a0 n9A.c0 n9A.a1 n9A.c1 n9A.a2 n9A.c2 n9A.a3 n9A.c3 n9A.a4 n9A.c4 n9A.a5 n9A.c5 n10A.a0 n10A.c0 n10A.a1 n10A.c1 n10A.a2 n10A.c2 n10A.a3 n10A.c3 n10A.a4 n10A.c4 n10A.a5 n10A.c5 n10A.a6 n10A.c6 n10A.a7 n10A.c7 n10A.a8 n10A.c8 n10A.a9 n10A.c9 n10A.a10 n10A.c10 na20 nc20 na21 nc21) H12 ((w.alloc (.cells (s9 x A).toArray 60)).alloc (.cells A3.toArray 90)) si ?_;intro z13 H13 K13;clear H12;have e13:LeN (w.heap.size+3) z13.w.heap.size:=⟨H13.out.lt⟩)|(refine sP rfl _ _ _ rfl (w.heap.size+2) 60 rfl [.int .i64 x.Bad] (D1 x na0 nc0 na1 nc1 na2 nc2 n9A.a0 n9A.c0 n9A.a1 n9A.c1 n9A.a2 n9A.c2 n9A.a3 n9A.c3 n9A.a4 n9A.c4 n9A.a5 n9A.c5 n10A.a0 n10A.c0 n10A.a1 n10A.c1 n10A.a2 n10A.c2 n10A.a3 n10A.c3 n10A.a4 n10A.c4 n10A.a5 n10A.c5 n10A.a6 n10A.c6 n10A.a7 n10A.c7 n10A.a8 n10A.c8 n10A.a9 n10A.c9 n10A.a10 n10A.c10 na20 nc20 na21 nc21) H13 ((w.alloc (.cells (s9 x A).toArray 60)).alloc (.cells A3.toArray 90)) si ?_;intro z14 H14 K14;clear H13;have e14:LeN (w.heap.size+3) z14.w.heap.size:=⟨H14.out.lt⟩)|(refine al8 rfl _ _ rfl (w.heap.size+2) 0 rfl (row:=(D1 x na0 nc0 na1 nc1 na2 nc2 n9A.a0 n9A.c0 n9A.a1 n9A.c1 n9A.a2 n9A.c2 n9A.a3 n9A.c3 n9A.a4 n9A.c4 n9A.a5 n9A.c5 n10A.a0 n10A.c0 n10A.a1 n10A.c1 n10A.a2 n10A.c2 n10A.a3 n10A.c3 n10A.a4 n10A.c4 n10A.a5 n10A.c5 n10A.a6 n10A.c6 n10A.a7 n10A.c7 n10A.a8 n10A.c8 n10A.a9 n10A.c9 n10A.a10 n10A.c10 na20 nc20 na21 nc21)) H14.out _ Tryz.underlying90 rfl kr kr ?_)|(refine aH1 rfl _ _ _ rfl (w.heap.size+1) 0 rfl (us:=(D1 x na0 nc0 na1 nc1 na2 nc2 n9A.a0 n9A.c0 n9A.a1 n9A.c1 n9A.a2 n9A.c2 n9A.a3 n9A.c3 n9A.a4 n9A.c4 n9A.a5 n9A.c5 n10A.a0 n10A.c0 n10A.a1 n10A.c1 n10A.a2 n10A.c2 n10A.a3 n10A.c3 n10A.a4 n10A.c4 n10A.a5 n10A.c5 n10A.a6 n10A.c6 n10A.a7 n10A.c7 n10A.a8 n10A.c8 n10A.a9 n10A.c9 n10A.a10 n10A.c10 na20 nc20 na21 nc21)) (cs2:=(D1 x na0 nc0 na1 nc1 na2 nc2 n9A.a0 n9A.c0 n9A.a1 n9A.c1 n9A.a2 n9A.c2 n9A.a3 n9A.c3 n9A.a4 n9A.c4 n9A.a5 n9A.c5 n10A.a0 n10A.c0 n10A.a1 n10A.c1 n10A.a2 n10A.c2 n10A.a3 n10A.c3 n10A.a4 n10A.c4 n10A.a5 n10A.c5 n10A.a6 n10A.c6 n10A.a7 n10A.c7 n10A.a8 n10A.c8 n10A.a9 n10A.c9 n10A.a10 n10A.c10 na20 nc20 na21 nc21)) ((j5.new (w.alloc (.cells (s9 x A).toArray 60)) A3 90 (w.heap.size+1) si).to ii) rfl kr rfl nb kr (w0:=(w.alloc (.cells (s9 x A).toArray 60))) ii si ?_;intro zr hr kr;have HR:=lH hr;clear hr;have KR:=lH kr;clear kr))
 have G14:d7 (w.heap.size+3) z14.w zr.w:=⟨KR.out.size,fun b h1 h2=>KR.out.block b om h2⟩
 have G13:d7 (w.heap.size+3) z13.w zr.w:=d7.trans K14.out G14
 have GY12:d7 (w.heap.size+3) y12.w zr.w:=d7.trans K13.out G13
 have G12:d7 (w.heap.size+3) z12.w zr.w:=d7.trans ii GY12
 have GY11:d7 (w.heap.size+3) y11.w zr.w:=d7.trans K12.out G12
 have G11:d7 (w.heap.size+3) z11.w zr.w:=d7.trans ii GY11
 have GY10:d7 (w.heap.size+3) y10.w zr.w:=d7.trans K11.out G11
 have G10:d7 (w.heap.size+3) z10.w zr.w:=d7.trans ii GY10
 have GY9:d7 (w.heap.size+3) y9.w zr.w:=d7.trans K10.out G10
 have G9:d7 (w.heap.size+3) z9.w zr.w:=d7.trans ii GY9
 have GY8:d7 (w.heap.size+3) y8.w zr.w:=d7.trans K9.out G9
 have G8:d7 (w.heap.size+3) z8.w zr.w:=d7.trans ii GY8
 have GY7:d7 (w.heap.size+3) y7.w zr.w:=d7.trans K8.out G8
 have G7:d7 (w.heap.size+3) z7.w zr.w:=d7.trans ii GY7
 have GY6:d7 (w.heap.size+3) y6.w zr.w:=d7.trans K7.out G7
 have G6:d7 (w.heap.size+3) z6.w zr.w:=d7.trans ii GY6
 have GY5:d7 (w.heap.size+3) y5.w zr.w:=d7.trans K6.out G6
 have G5:d7 (w.heap.size+3) z5.w zr.w:=d7.trans ii GY5
 have GY4:d7 (w.heap.size+3) y4.w zr.w:=d7.trans K5.out G5
 have G4:d7 (w.heap.size+3) z4.w zr.w:=d7.trans ii GY4
 have GY3:d7 (w.heap.size+3) y3.w zr.w:=d7.trans K4.out G4
 have G3:d7 (w.heap.size+3) z3.w zr.w:=d7.trans ii GY3
 have GY2:d7 (w.heap.size+3) y2.w zr.w:=d7.trans K3.out G3
 have G2:d7 (w.heap.size+3) z2.w zr.w:=d7.trans ii GY2
 have G1:d7 (w.heap.size+3) z1.w zr.w:=d7.trans K2.out G2
 have G0:d7 (w.heap.size+3) (((w.alloc (.cells (s9 x A).toArray 60)).alloc (.cells A3.toArray 90)).alloc (.cells A3.toArray 90)) zr.w:=d7.trans K1.out G1
 have s0b:(((w.alloc (.cells (s9 x A).toArray 60)).alloc (.cells A3.toArray 90)).alloc (.cells A3.toArray 90)).heap.size≤z1.w.heap.size:=K1.out.size
 have s1b:z1.w.heap.size≤z2.w.heap.size:=K2.out.size
 have s2a:z2.w.heap.size≤y2.w.heap.size:=y2.size_le
 have s2b:y2.w.heap.size≤z3.w.heap.size:=K3.out.size
 have s3a:z3.w.heap.size≤y3.w.heap.size:=y3.size_le
 have s3b:y3.w.heap.size≤z4.w.heap.size:=K4.out.size
 have s4a:z4.w.heap.size≤y4.w.heap.size:=y4.size_le
 have s4b:y4.w.heap.size≤z5.w.heap.size:=K5.out.size
 have s5a:z5.w.heap.size≤y5.w.heap.size:=y5.size_le
 have s5b:y5.w.heap.size≤z6.w.heap.size:=K6.out.size
 have s6a:z6.w.heap.size≤y6.w.heap.size:=y6.size_le
 have s6b:y6.w.heap.size≤z7.w.heap.size:=K7.out.size
 have s7a:z7.w.heap.size≤y7.w.heap.size:=y7.size_le
 have s7b:y7.w.heap.size≤z8.w.heap.size:=K8.out.size
 have s8a:z8.w.heap.size≤y8.w.heap.size:=y8.size_le
 have s8b:y8.w.heap.size≤z9.w.heap.size:=K9.out.size
 have s9a:z9.w.heap.size≤y9.w.heap.size:=y9.size_le
 have s9b:y9.w.heap.size≤z10.w.heap.size:=K10.out.size
 have s10a:z10.w.heap.size≤y10.w.heap.size:=y10.size_le
 have s10b:y10.w.heap.size≤z11.w.heap.size:=K11.out.size
 have s11a:z11.w.heap.size≤y11.w.heap.size:=y11.size_le
 have s11b:y11.w.heap.size≤z12.w.heap.size:=K12.out.size
 have s12a:z12.w.heap.size≤y12.w.heap.size:=y12.size_le
 have s12b:y12.w.heap.size≤z13.w.heap.size:=K13.out.size
 have s13b:z13.w.heap.size≤z14.w.heap.size:=K14.out.size
 obtain⟨D,hD⟩:∃ D:List (Nat × Nat × (Nat→Col)),D=[(y4.w.heap.size,0,(fun _=>(0,0))),(y7.w.heap.size,1,(fun _=>(0,0))),(y8.w.heap.size,2,(fun _=>(0,0))),(y9.w.heap.size,3,ch9),(y10.w.heap.size,9,ch10),(y11.w.heap.size,20,(fun _=>(0,0))),(y12.w.heap.size,21,(fun _=>(0,0)))]:=⟨_,rfl⟩
 have e0:D[0]?=some (y4.w.heap.size,0,(fun _=>(0,0))):=by rw[hD];rfl
 have e1:D[1]?=some (y7.w.heap.size,1,(fun _=>(0,0))):=by rw[hD];rfl
 have e2:D[2]?=some (y8.w.heap.size,2,(fun _=>(0,0))):=by rw[hD];rfl
 have e3:D[3]?=some (y9.w.heap.size,3,ch9):=by rw[hD];rfl
 have e4:D[4]?=some (y10.w.heap.size,9,ch10):=by rw[hD];rfl
 have e5:D[5]?=some (y11.w.heap.size,20,(fun _=>(0,0))):=by rw[hD];rfl
 have e6:D[6]?=some (y12.w.heap.size,21,(fun _=>(0,0))):=by rw[hD];rfl
 clear hD
 have HC4:=fun(b:Nat) (h1:z4.w.heap.size≤b) (h2:b<y4.w.heap.size)=>(show j9 D b=B9 0 ((fun _=>(0,0)) b)from i9 e0 h2)
 have HC7:=fun(b:Nat) (h1:z7.w.heap.size≤b) (h2:b<y7.w.heap.size)=>(show j9 D b=B9 1 ((fun _=>(0,0)) b)from(f8 e0 om).trans (i9 e1 h2))
 have HC8:=fun(b:Nat) (h1:z8.w.heap.size≤b) (h2:b<y8.w.heap.size)=>(show j9 D b=B9 2 ((fun _=>(0,0)) b)from(f8 e0 om).trans ((f8 e1 om).trans (i9 e2 h2)))
 have HC9:=fun(b:Nat) (h1:z9.w.heap.size≤b) (h2:b<y9.w.heap.size)=>(show j9 D b=B9 3 (ch9 b)from(f8 e0 om).trans ((f8 e1 om).trans ((f8 e2 om).trans (i9 e3 h2))))
 have QT9:=lH ((((QO9.out.re HC9).mono (B2:=w.heap.size+3) LeN.out).keep GY9).mono (B2:=w.heap.size) om)
 have HC10:=fun(b:Nat) (h1:z10.w.heap.size≤b) (h2:b<y10.w.heap.size)=>(show j9 D b=B9 9 (ch10 b)from(f8 e0 om).trans ((f8 e1 om).trans ((f8 e2 om).trans ((f8 e3 om).trans (i9 e4 h2)))))
 have QT10:=lH ((((QO10.out.re HC10).mono (B2:=w.heap.size+3) LeN.out).keep GY10).mono (B2:=w.heap.size) om)
 have HC11:=fun(b:Nat) (h1:z11.w.heap.size≤b) (h2:b<y11.w.heap.size)=>(show j9 D b=B9 20 ((fun _=>(0,0)) b)from(f8 e0 om).trans ((f8 e1 om).trans ((f8 e2 om).trans ((f8 e3 om).trans ((f8 e4 om).trans (i9 e5 h2))))))
 have HC12:=fun(b:Nat) (h1:z12.w.heap.size≤b) (h2:b<y12.w.heap.size)=>(show j9 D b=B9 21 ((fun _=>(0,0)) b)from(f8 e0 om).trans ((f8 e1 om).trans ((f8 e2 om).trans ((f8 e3 om).trans ((f8 e4 om).trans ((f8 e5 om).trans (i9 e6 h2)))))))
 refine bodyPost_ret (v:=.agg (D1 x na0 nc0 na1 nc1 na2 nc2 n9A.a0 n9A.c0 n9A.a1 n9A.c1 n9A.a2 n9A.c2 n9A.a3 n9A.c3 n9A.a4 n9A.c4 n9A.a5 n9A.c5 n10A.a0 n10A.c0 n10A.a1 n10A.c1 n10A.a2 n10A.c2 n10A.a3 n10A.c3 n10A.a4 n10A.c4 n10A.a5 n10A.c5 n10A.a6 n10A.c6 n10A.a7 n10A.c7 n10A.a8 n10A.c8 n10A.a9 n10A.c9 n10A.a10 n10A.c10 na20 nc20 na21 nc21).toArray) (A7 (P:=Tryz.prog) rfl rfl HR.out _ Tryz.underlying90 rfl kr) rfl ⟨(D1 x na0 nc0 na1 nc1 na2 nc2 n9A.a0 n9A.c0 n9A.a1 n9A.c1 n9A.a2 n9A.c2 n9A.a3 n9A.c3 n9A.a4 n9A.c4 n9A.a5 n9A.c5 n10A.a0 n10A.c0 n10A.a1 n10A.c1 n10A.a2 n10A.c2 n10A.a3 n10A.c3 n10A.a4 n10A.c4 n10A.a5 n10A.c5 n10A.a6 n10A.c6 n10A.a7 n10A.c7 n10A.a8 n10A.c8 n10A.a9 n10A.c9 n10A.a10 n10A.c10 na20 nc20 na21 nc21),j9 D,rfl,⟨⟨na0,nc0,na1,nc1,na2,nc2,n9A.a0,n9A.c0,n9A.a1,n9A.c1,n9A.a2,n9A.c2,n9A.a3,n9A.c3,n9A.a4,n9A.c4,n9A.a5,n9A.c5,n10A.a0,n10A.c0,n10A.a1,n10A.c1,n10A.a2,n10A.c2,n10A.a3,n10A.c3,n10A.a4,n10A.c4,n10A.a5,n10A.c5,n10A.a6,n10A.c6,n10A.a7,n10A.c7,n10A.a8,n10A.c8,n10A.a9,n10A.c9,n10A.a10,n10A.c10,na20,nc20,na21,nc21⟩,rfl,⟨(((QO4.out.re HC4).mono (B':=w.heap.size+3) LeN.out).keep GY4).mono (B':=w.heap.size) om,(((QO7.out.re HC7).mono (B':=w.heap.size+3) LeN.out).keep GY7).mono (B':=w.heap.size) om,(((QO8.out.re HC8).mono (B':=w.heap.size+3) LeN.out).keep GY8).mono (B':=w.heap.size) om,QT9.out.o0,QT9.out.o1,QT9.out.o2,QT9.out.o3,QT9.out.o4,QT9.out.o5,QT10.out.o0,QT10.out.o1,QT10.out.o2,QT10.out.o3,QT10.out.o4,QT10.out.o5,QT10.out.o6,QT10.out.o7,QT10.out.o8,QT10.out.o9,QT10.out.o10,(((QO11.out.re HC11).mono (B':=w.heap.size+3) LeN.out).keep GY11).mono (B':=w.heap.size) om,(((QO12.out.re HC12).mono (B':=w.heap.size+3) LeN.out).keep GY12).mono (B':=w.heap.size) om,HOK.out⟩⟩,b7.of⟩
