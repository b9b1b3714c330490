/- The contracts of MissionOk, both sides. No condition but on sizes. What walks of functions from a mission to a mission share. No condition but on sizes. A mission's marks, and what is held. No condition but on sizes. EncodeOrder of both sides, and what GiveOrder comes to. No condition but on sizes. An offer more, in a mission of the call's own. No condition but on sizes. Steps of regions that draw their order: a new variable, its store. No condition but on sizes. -/
import Derived.Test.YtbaffippdifbpaaGreatWMisI
import Derived.Test.YtbaffippdifbpaaGreatWMisS
import Derived.Test.YtbaffippdifbpaaGreatWCopyMI
import Derived.Test.YtbaffippdifbpaaGreatWCopyMS
import Derived.Test.YtbaffippdifbpaaGreatWM13
import Derived.Test.YtbaffippdifbpaaGreatWMk5
import Derived.Test.YtbaffippdifbpaaGreatWMk6
import Derived.Test.YtbaffippdifbpaaGreatWM35
import Derived.Test.YtbaffippdifbpaaGreatWLto3
import Derived.Test.YtbaffippdifbpaaGreatWM9
import Derived.Test.YtbaffippdifbpaaGreatWOne
namespace Go.Proofs.YtbaffippdifbpaaGreat
set_option linter.unusedVariables false
open Go.ChangeShapes Go.WideShapes Go.ChangeAt Go.RowKit
end Go.Proofs.YtbaffippdifbpaaGreat
namespace Go.Proofs.YtbaffippdifbpaaGreat
set_option linter.unusedVariables false
open Go.ChangeShapes Go.WideShapes Go.ChangeAt Go.RowKit
theorem om_to{B o:Nat}{χ:Nat→Col}{w w2:World}{vs:List Value}{m:TMission}(h:EncO.O B χ o w vs m)(g:Grows w w2):EncO.O B χ o w2 vs m:=by
 obtain⟨A,h0,h1⟩:=h
 exact⟨A,h0,h1.to g⟩
theorem om_keep{B o:Nat}{χ:Nat→Col}{w w2:World}{vs:List Value}{m:TMission}(h:EncO.O B χ o w vs m)(g:Keeps B w w2):EncO.O B χ o w2 vs m:=by
 obtain⟨A,h0,h1⟩:=h
 exact⟨A,h0,h1.keep g⟩
theorem om_mono{B B2 o:Nat}{χ:Nat→Col}{w:World}{vs:List Value}{m:TMission}(h:EncO.O B χ o w vs m)(g:B2≤B):EncO.O B2 χ o w vs m:=by
 obtain⟨A,h0,h1⟩:=h
 exact⟨A,h0,h1.mono g⟩
theorem len_mission{B:Nat}{w:World}{vs:List Value}{m:TMission}(h:Enc.Rd B w vs m):vs.length=61:=Enc.len h
end Go.Proofs.YtbaffippdifbpaaGreat
namespace Go.Proofs.YtbaffippdifbpaaGreat
set_option linter.unusedVariables false
open Go.ChangeShapes Go.WideShapes Go.ChangeAt Go.RowKit
theorem cellsM_mk(m:TMission)(k:Int)(A:TMissionA):([.int .i64 (mkMMission m k).Time,.int .i64 (mkMMission m k).Light,.int .i64 (mkMMission m k).Drift.Rate,.int .i64 (mkMMission m k).Drift.Offset,.int .i64 (mkMMission m k).Orbit.Period,.int .i64 (mkMMission m k).Orbit.Start,.int .i64 (mkMMission m k).Orbit.Length,.slice A.a0 (mkMMission m k).Plan.length A.c0,.int .i64 (mkMMission m k).Up.Seed,.int .i64 (mkMMission m k).Up.Burst,.int .i64 (mkMMission m k).Up.Loss,.int .i64 (mkMMission m k).Down.Seed,.int .i64 (mkMMission m k).Down.Burst,.int .i64 (mkMMission m k).Down.Loss,.slice A.a1 (mkMMission m k).Ups.length A.c1,.slice A.a2 (mkMMission m k).Downs.length A.c2,.slice A.a3 (mkMMission m k).Ground.Offers.length A.c3,.int .i64 (mkMMission m k).Ground.Sender.Next,.int .i64 (mkMMission m k).Ground.Sender.Window,.slice A.a4 (mkMMission m k).Ground.Sender.Waiting.length A.c4,.int .i64 (mkMMission m k).Ground.Sender.Done,.int .i64 (mkMMission m k).Ground.Notice.Expect,.bool (mkMMission m k).Ground.Notice.Locked,.bool (mkMMission m k).Ground.Notice.Again,.int .i64 (mkMMission m k).Ground.Unpacker.Channel,.int .i64 (mkMMission m k).Ground.Unpacker.Next,.bool (mkMMission m k).Ground.Unpacker.Synced,.string (mkMMission m k).Ground.Unpacker.Rest,.int .i64 (mkMMission m k).Ground.Unpacker.Lost,.slice A.a5 (mkMMission m k).Ground.Pairs.length A.c5,.slice A.a6 (mkMMission m k).Ground.Records.length A.c6,.slice A.a7 (mkMMission m k).Ground.Files.length A.c7,.slice A.a8 (mkMMission m k).Ground.Told.length A.c8,.int .i64 (mkMMission m k).Space.Receiver.Expect,.bool (mkMMission m k).Space.Receiver.Locked,.bool (mkMMission m k).Space.Receiver.Again,.int .i64 (mkMMission m k).Space.Receiver.Taken,.int .i64 (mkMMission m k).Space.Board.Clock,.slice A.a9 (mkMMission m k).Space.Board.Params.length A.c9,.bool (mkMMission m k).Space.Board.Safe,.slice A.a10 (mkMMission m k).Space.Board.Limits.length A.c10,.slice A.a11 (mkMMission m k).Space.Board.Orders.length A.c11,.slice A.a12 (mkMMission m k).Space.Board.Done.length A.c12,.int .i64 (mkMMission m k).Space.Board.Recorder.Room,.slice A.a13 (mkMMission m k).Space.Board.Recorder.Records.length A.c13,.slice A.a14 (mkMMission m k).Space.Board.Recorder.Dropped.length A.c14,.int .i64 (mkMMission m k).Space.Board.Made,.int .i64 (mkMMission m k).Space.Board.Taken,.slice A.a15 (mkMMission m k).Space.Board.Asked.length A.c15,.int .i64 (mkMMission m k).Space.Packer.Channel,.int .i64 (mkMMission m k).Space.Packer.Count,.string (mkMMission m k).Space.Packer.Rest,.slice A.a16 (mkMMission m k).Space.Packer.Starts.length A.c16,.int .i64 (mkMMission m k).Space.Seq,.slice A.a17 (mkMMission m k).Space.Files.length A.c17,.slice A.a18 (mkMMission m k).Space.Outs.length A.c18,.int .i64 (mkMMission m k).Space.Begun,.slice A.a19 (mkMMission m k).Space.Sent.length A.c19,.slice A.a20 (mkMMission m k).Offered.length A.c20,.slice A.a21 (mkMMission m k).Took.length A.c21,.int .i64 (mkMMission m k).Bad]:List Value)=[.int .i64 m.Time,.int .i64 m.Light,.int .i64 m.Drift.Rate,.int .i64 m.Drift.Offset,.int .i64 m.Orbit.Period,.int .i64 m.Orbit.Start,.int .i64 m.Orbit.Length,.slice A.a0 m.Plan.length A.c0,.int .i64 m.Up.Seed,.int .i64 m.Up.Burst,.int .i64 m.Up.Loss,.int .i64 m.Down.Seed,.int .i64 m.Down.Burst,.int .i64 m.Down.Loss,.slice A.a1 m.Ups.length A.c1,.slice A.a2 m.Downs.length A.c2,.slice A.a3 m.Ground.Offers.length A.c3,.int .i64 m.Ground.Sender.Next,.int .i64 m.Ground.Sender.Window,.slice A.a4 m.Ground.Sender.Waiting.length A.c4,.int .i64 m.Ground.Sender.Done,.int .i64 m.Ground.Notice.Expect,.bool m.Ground.Notice.Locked,.bool m.Ground.Notice.Again,.int .i64 m.Ground.Unpacker.Channel,.int .i64 m.Ground.Unpacker.Next,.bool m.Ground.Unpacker.Synced,.string m.Ground.Unpacker.Rest,.int .i64 m.Ground.Unpacker.Lost,.slice A.a5 m.Ground.Pairs.length A.c5,.slice A.a6 m.Ground.Records.length A.c6,.slice A.a7 m.Ground.Files.length A.c7,.slice A.a8 m.Ground.Told.length A.c8,.int .i64 m.Space.Receiver.Expect,.bool m.Space.Receiver.Locked,.bool m.Space.Receiver.Again,.int .i64 m.Space.Receiver.Taken,.int .i64 m.Space.Board.Clock,.slice A.a9 m.Space.Board.Params.length A.c9,.bool m.Space.Board.Safe,.slice A.a10 m.Space.Board.Limits.length A.c10,.slice A.a11 m.Space.Board.Orders.length A.c11,.slice A.a12 m.Space.Board.Done.length A.c12,.int .i64 m.Space.Board.Recorder.Room,.slice A.a13 m.Space.Board.Recorder.Records.length A.c13,.slice A.a14 m.Space.Board.Recorder.Dropped.length A.c14,.int .i64 m.Space.Board.Made,.int .i64 m.Space.Board.Taken,.slice A.a15 m.Space.Board.Asked.length A.c15,.int .i64 m.Space.Packer.Channel,.int .i64 m.Space.Packer.Count,.string m.Space.Packer.Rest,.slice A.a16 m.Space.Packer.Starts.length A.c16,.int .i64 m.Space.Seq,.slice A.a17 m.Space.Files.length A.c17,.slice A.a18 m.Space.Outs.length A.c18,.int .i64 m.Space.Begun,.slice A.a19 m.Space.Sent.length A.c19,.slice A.a20 m.Offered.length A.c20,.slice A.a21 m.Took.length A.c21,.int .i64 m.Bad]:=by
 have e0:(mkMMission m k).Plan.length=m.Plan.length:=mkL_length _ _
 have e1:(mkMMission m k).Ups.length=m.Ups.length:=mkL_length _ _
 have e2:(mkMMission m k).Downs.length=m.Downs.length:=mkL_length _ _
 have e3:(mkMMission m k).Ground.Offers.length=m.Ground.Offers.length:=mkL_length _ _
 have e4:(mkMMission m k).Ground.Sender.Waiting.length=m.Ground.Sender.Waiting.length:=mkL_length _ _
 have e5:(mkMMission m k).Ground.Pairs.length=m.Ground.Pairs.length:=mkL_length _ _
 have e6:(mkMMission m k).Ground.Records.length=m.Ground.Records.length:=mkL_length _ _
 have e7:(mkMMission m k).Ground.Files.length=m.Ground.Files.length:=mkN_length _ _ _ _
 have e8:(mkMMission m k).Ground.Told.length=m.Ground.Told.length:=mkL_length _ _
 have e9:(mkMMission m k).Space.Board.Params.length=m.Space.Board.Params.length:=mkL_length _ _
 have e10:(mkMMission m k).Space.Board.Limits.length=m.Space.Board.Limits.length:=mkL_length _ _
 have e11:(mkMMission m k).Space.Board.Orders.length=m.Space.Board.Orders.length:=mkL_length _ _
 have e12:(mkMMission m k).Space.Board.Done.length=m.Space.Board.Done.length:=mkL_length _ _
 have e13:(mkMMission m k).Space.Board.Recorder.Records.length=m.Space.Board.Recorder.Records.length:=mkL_length _ _
 have e14:(mkMMission m k).Space.Board.Recorder.Dropped.length=m.Space.Board.Recorder.Dropped.length:=mkL_length _ _
 have e15:(mkMMission m k).Space.Board.Asked.length=m.Space.Board.Asked.length:=mkL_length _ _
 have e16:(mkMMission m k).Space.Packer.Starts.length=m.Space.Packer.Starts.length:=mkL_length _ _
 have e17:(mkMMission m k).Space.Files.length=m.Space.Files.length:=mkL_length _ _
 have e18:(mkMMission m k).Space.Outs.length=m.Space.Outs.length:=mkN_length _ _ _ _
 have e19:(mkMMission m k).Space.Sent.length=m.Space.Sent.length:=mkL_length _ _
 have e20:(mkMMission m k).Offered.length=m.Offered.length:=mkL_length _ _
 have e21:(mkMMission m k).Took.length=m.Took.length:=mkL_length _ _
 rw[e0,e1,e2,e3,e4,e5,e6,e7,e8,e9,e10,e11,e12,e13,e14,e15,e16,e17,e18,e19,e20,e21]
 rfl
theorem o_markM{B:Nat}{χ:Nat→Col}{w:World}{vs:List Value}{m:TMission}{k:Int}(h:EncO.O B χ 0 w vs m)(hf:Fresh χ w)(hB:B≤w.heap.size)(ht:Enc.tot m≤100000000)(h1:0≤k)(h2:k≤100000000000) :
  Calls Tryz.prog 31 #[.agg vs.toArray,.int .i64 k] w (Mkd (mnMMission m k) (fun w2=>EncO.O B χ 0 w2 vs (mkMMission m k)) (Fr B χ (Rng 0 22) w)):=by
 obtain⟨A,rfl,F⟩:=h
 refine(o_lmarkMission F hf hB (by omega) ht h1 h2).mono fun e w2 hq=>?_
 obtain⟨he,ho,hr⟩:=hq
 exact⟨he,⟨A,(cellsM_mk m k A).symm,ho⟩,by simpa using hr⟩
theorem o_heldM{B:Nat}{w:World}{vs:List Value}{m:TMission}{k:Int}(h:Enc.Rd B w vs (mkMMission m k))(ht:Enc.tot m≤100000000)(h1:0≤k)(h2:k≤100000000000) :
  Calls Tryz.prog 32 #[.agg vs.toArray,.int .i64 k] w (Gives w (.int .i64 (mnMMission m k))):=by
 obtain⟨A,rfl,F⟩:=h
 rw[cellsM_mk m k A]
 exact o_lheldMission F ht h1 h2
theorem dl_toMission{B:Nat}{vs:List Value}{x:TMission}{w:World}(h:Enc.Rd B w vs x)(ht:Enc.tot x≤1048576) :
  Calls Tryz.prog 35 #[.agg vs.toArray] w (GivesD w x):=(o_ltoMission h ht).mono fun _ _ g=>GivesO.d g
theorem om_old{B U o:Nat}{χ:Nat→Col}{w:World}{vs:List Value}{m:TMission}(h:EncO.O B χ o w vs m)(g:w.heap.size≤U):EncO.O B (paint U χ (fun _=>(0,0)) (fun _=>(1000,0))) o w vs m:=by
 obtain⟨A,h0,h1⟩:=h
 exact⟨A,h0,h1.old g⟩
theorem Held.past{u W z:World}{b c:Nat}{cs:List Value}{T:TypeId}(h:Held u c cs T)(g:Keeps 0 u W)(k:But b W z)(hb:u.heap.size≤b):Held z c cs T:=by
 have hl:=h.lt
 unfold Held
 rw[k.block c (by omega) (Nat.lt_of_lt_of_le hl g.size),g.block c (Nat.zero_le _) hl];exact h
theorem growsOf{W:World}(x y:Later W)(h:Keeps 0 x.w y.w):Grows x.w y.w :=
 ⟨⟨y.h.os.trans x.h.os.symm,y.h.tape.trans x.h.tape.symm,y.h.output.trans x.h.output.symm,h.size,fun b hb=>h.block b (Nat.zero_le _) hb⟩⟩
theorem growsTr{a b c:World}(h:Grows a b)(k:Grows b c):Grows a c:=⟨h.out.trans (k.out.mono h.out.size)⟩
theorem stepLoadG{P:Program}{ops:Array Oper}{rest:List Oper}{op:Oper}{a:Act}{w:World}{Q:Exit→Act→World→Prop}(hw:Region.wanted op (yielded ops a.tmps)=true)(ty:TypeId)(x:Operand)(ho:op.op=.load ty x)(b o:Nat)(hx:a.eval x=.pointer (some ⟨b,o,none⟩)){cs row:List Value}{T:TypeId}(H:Held w b cs T)
  (d:TypeDesc) (hu:P.underlying ty=some d) (hd:d.isRow=true) (hi:(P.info? ty).map (·.size)=some row.length) (hr:(cs.drop o).take row.length=row)
  (h:wpList P ops Q rest (a.put op.dst (.agg row.toArray)) w):wpList P ops Q (op::rest) a w :=
 wpList_step fun K hK=>st_loadH hw ty x ho b o hx H d hu hd hi hr (hK _ _ h)
theorem Later.ofG{W w:World}(h:Grows W w):∃ x:Later W,w=x.w:=⟨⟨w,h.out⟩,rfl⟩
end Go.Proofs.YtbaffippdifbpaaGreat
namespace Go.Proofs.YtbaffippdifbpaaGreat
set_option linter.unusedVariables false
open Go.ChangeShapes Go.WideShapes Go.ChangeAt Go.RowKit
def wordN(m n:Int):ByteArray:=if m=1 then word1 n else if m=2 then word2 n else word3 n
@[go_sem] theorem word3_size(n:Int):(word3 n).size=3:=rfl
@[go_sem] theorem wordN_one(n:Int):wordN 1 n=word1 n:=rfl
@[go_sem] theorem wordN_two(n:Int):wordN 2 n=word2 n:=rfl
@[go_sem] theorem wordN_three(n:Int):wordN 3 n=word3 n:=rfl
theorem c_iPutWordN{n m:Int}{w:World}(h0:0≤n)(h:m=1∧n<256∨m=2∧n<65536∨m=3∧n<16777216) :
  Calls Tryz.prog 103 #[.int .i64 n,.int .i64 m] w (Gives w (.string (wordN m n))):=by
 rcases h with⟨rfl,h1⟩|⟨rfl,h1⟩|⟨rfl,h1⟩
 ·exact c_iPutWord1 h0 h1
 ·exact c_iPutWord2 h0 h1
 ·exact c_iPutWord3 h0 h1
theorem c_sPutWordN{n m:Int}{w:World}(h0:0≤n)(h:m=1∧n<256∨m=2∧n<65536∨m=3∧n<16777216) :
  Calls Tryz.prog 100 #[.int .i64 n,.int .i64 m] w (Gives w (.string (wordN m n))):=by
 rcases h with⟨rfl,h1⟩|⟨rfl,h1⟩|⟨rfl,h1⟩
 ·exact c_sPutWord1 h0 h1
 ·exact c_sPutWord2 h0 h1
 ·exact c_sPutWord3 h0 h1
def encOrder(x:TOrder):ByteArray:=if orderOk x=true then word1 x.Kind++word3 x.At++word1 x.A++word2 x.B else⟨#[]⟩
theorem encOrder_size(x:TOrder):(encOrder x).size≤7:=by
 unfold encOrder
 split
 ·simp only[ByteArray.size_append,word1_size,word2_size,word3_size]
  omega
 ·show(0:Nat)≤7;omega
theorem orderOk_bd{x:TOrder}(h:orderOk x=true):(0≤x.Kind∧x.Kind<256)∧(0≤x.At∧x.At<16777216)∧(0≤x.A∧x.A<256)∧(0≤x.B∧x.B<65536):=by
 unfold orderOk at h
 rw[Bool.and_eq_true,Bool.and_eq_true]at h
 obtain⟨h1,h2,h3⟩:=h
 have a:=inB_iff.1 h1;have b:=inB_iff.1 h2
 refine⟨⟨by omega,by omega⟩,⟨by omega,by omega⟩,?_⟩
 split at h3
 ·rw[Bool.and_eq_true]at h3;have c:=inB_iff.1 h3.1;have d:=inB_iff.1 h3.2;exact⟨⟨by omega,by omega⟩,⟨by omega,by omega⟩⟩
 split at h3
 ·rw[Bool.and_eq_true]at h3;have c:=inB_iff.1 h3.1;have d:x.B=0:=by simpa using h3.2
  exact⟨⟨by omega,by omega⟩,⟨by omega,by omega⟩⟩
 split at h3
 ·rw[Bool.and_eq_true]at h3;have c:=inB_iff.1 h3.1;have d:x.B=0:=by simpa using h3.2
  exact⟨⟨by omega,by omega⟩,⟨by omega,by omega⟩⟩
 split at h3
 ·rw[Bool.and_eq_true]at h3;have c:=inB_iff.1 h3.1;have d:x.B=0:=by simpa using h3.2
  exact⟨⟨by omega,by omega⟩,⟨by omega,by omega⟩⟩
 ·rw[Bool.and_eq_true]at h3;have c:=inB_iff.1 h3.1;have d:x.B=0:=by simpa using h3.2
  exact⟨⟨by omega,by omega⟩,⟨by omega,by omega⟩⟩
theorem c_iEncodeOrder{x:TOrder}{w:World} :
  Calls Tryz.prog 104 #[.agg #[.int .i64 x.Kind,.int .i64 x.At,.int .i64 x.A,.int .i64 x.B]] w (Gives w (.string (encOrder x))):=by
 cases c1:orderOk x
 ·go_enter Tryz.func104,Tryz.ntmps104
  go_wp2_with (first|(go_at_call 102;refine(k_iOrderOk).mono ?_;rintro _ _ ⟨rfl,x,rfl⟩))
  go_ret
  exact Gives.mk (by simp[encOrder,c1])
 ·obtain⟨⟨k0,k1⟩,⟨a0,a1⟩,⟨b0,b1⟩,⟨d0,d1⟩⟩:=orderOk_bd c1
  go_enter Tryz.func104,Tryz.ntmps104
  go_wp2_with (first|((with_reducible refine wp_region_later (by kernel_rfl) (by kernel_rfl) ?_);(repeat(first|go_big_quiet_step (first|(go_at_call 102;exact Gives.quiet (k_iOrderOk))|(go_at_call 103;exact Gives.quiet (c_iPutWordN (by first|assumption|(apply Sl.to<;>first|assumption|infer_instance)|omega) (by first|assumption|(apply Sl.to<;>first|assumption|infer_instance)|omega))))|simp only[c1]));refine wpQuiet_nil ?_;rintro _ ⟨x,rfl⟩)|(go_at_call 102;refine(k_iOrderOk).mono ?_;rintro _ _ ⟨rfl,x,rfl⟩)|(go_at_call 103;refine(c_iPutWordN (by first|assumption|(apply Sl.to<;>first|assumption|infer_instance)|omega) (by first|assumption|(apply Sl.to<;>first|assumption|infer_instance)|omega)).mono ?_;rintro _ _ ⟨rfl,x,rfl⟩))
  go_ret
  exact Gives.mk (by simp[encOrder,c1])
theorem c_sEncodeOrder{x:TOrder}{w:World} :
  Calls Tryz.prog 101 #[.agg #[.int .i64 x.Kind,.int .i64 x.At,.int .i64 x.A,.int .i64 x.B]] w (Gives w (.string (encOrder x))):=by
 cases c1:orderOk x
 ·go_enter Tryz.func101,Tryz.ntmps101
  go_wp2_with (first|(go_at_call 99;refine(k_sOrderOk).mono ?_;rintro _ _ ⟨rfl,x,rfl⟩))
  go_ret
  exact Gives.mk (by simp[encOrder,c1])
 ·obtain⟨⟨k0,k1⟩,⟨a0,a1⟩,⟨b0,b1⟩,⟨d0,d1⟩⟩:=orderOk_bd c1
  go_enter Tryz.func101,Tryz.ntmps101
  go_wp2_with (first|((with_reducible refine wp_region_later (by kernel_rfl) (by kernel_rfl) ?_);(repeat(first|go_big_quiet_step (first|(go_at_call 99;exact Gives.quiet (k_sOrderOk))|(go_at_call 100;exact Gives.quiet (c_sPutWordN (by first|assumption|(apply Sl.to<;>first|assumption|infer_instance)|omega) (by first|assumption|(apply Sl.to<;>first|assumption|infer_instance)|omega))))|simp only[c1]));refine wpQuiet_nil ?_;rintro _ ⟨x,rfl⟩)|(go_at_call 99;refine(k_sOrderOk).mono ?_;rintro _ _ ⟨rfl,x,rfl⟩)|(go_at_call 100;refine(c_sPutWordN (by first|assumption|(apply Sl.to<;>first|assumption|infer_instance)|omega) (by first|assumption|(apply Sl.to<;>first|assumption|infer_instance)|omega)).mono ?_;rintro _ _ ⟨rfl,x,rfl⟩))
  go_ret
  exact Gives.mk (by simp[encOrder,c1])
def payOrder(x:TOrder):ByteArray:=word1 0++encOrder x
theorem payOrder_size(x:TOrder):(payOrder x).size≤8:=by
 have h1:=encOrder_size x
 unfold payOrder
 simp only[ByteArray.size_append,word1_size]
 omega
def offer(m:TMission)(p:ByteArray):TMission:={ m with Ground:={ m.Ground with Offers:=m.Ground.Offers++[p] } }
theorem totL_snoc{α:Type}[Enc α](l:List α)(y:α):totL (l++[y])=totL l+1+Enc.tot y:=by
 rw[totL_app];simp only[totL];omega
theorem offer_tot(m:TMission)(p:ByteArray):Enc.tot (offer m p)=Enc.tot m+1+p.size:=by
 have h1:Enc.tot (offer m p)=totL m.Plan+totL m.Ups+totL m.Downs+(totL (m.Ground.Offers++[p])+Enc.tot m.Ground.Sender+Enc.tot m.Ground.Unpacker+totL m.Ground.Pairs+totL m.Ground.Records+totL m.Ground.Files+totL m.Ground.Told)+Enc.tot m.Space+totL m.Offered+totL m.Took:=rfl
 have h2:Enc.tot m=totL m.Plan+totL m.Ups+totL m.Downs+(totL m.Ground.Offers+Enc.tot m.Ground.Sender+Enc.tot m.Ground.Unpacker+totL m.Ground.Pairs+totL m.Ground.Records+totL m.Ground.Files+totL m.Ground.Told)+Enc.tot m.Space+totL m.Offered+totL m.Took:=rfl
 have h3:Enc.tot p=(p.size:Int):=rfl
 rw[h1,h2,totL_snoc,h3];omega
def giveOrder(m:TMission)(x:TOrder):TMission × Bool :=
 if orderOk x=true then(if missionOk m=true then(if missionOk (offer m (payOrder x))=true then(offer m (payOrder x),true)else(m,false))else(m,false))else(m,false)
theorem giveOrder_tot(m:TMission)(x:TOrder):Enc.tot (giveOrder m x).1≤Enc.tot m+9:=by
 have h1:=offer_tot m (payOrder x)
 have h2:=payOrder_size x
 unfold giveOrder
 split
 ·split
  ·split
   ·show Enc.tot (offer m (payOrder x))≤_;omega
   ·show Enc.tot m≤_;omega
  ·show Enc.tot m≤_;omega
 ·show Enc.tot m≤_;omega
def GivesOB{α:Type}[E:EncO α](w:World)(x:α)(b:Bool):Ending→World→Prop:=fun e w'=>∃ (vs:List Value) (χ:Nat→Col),e=.returned (.tuple #[.agg vs.toArray,.bool b])∧E.O w.heap.size χ 0 w' vs x∧∃ y:Later w,w'=y.w
theorem OwnC.app{α:Type}[E:Flat α]{B:Nat}{χ:Nat→Col}{i:Col}{w w2:World}{a a2:Option Addr}{c c2:Nat}{l:List α}{y:α}(h:OwnC B χ i w a c l)(ho:Own E.enc E.ty E.size B w2 a2 c2 (l++[y]))(hb:blkOf a2=blkOf a∨blkOf a2=some w.heap.size)(hg:E.good y) :
  OwnC B (paint w.heap.size χ (fun _=>i) id) i w2 a2 c2 (l++[y]):=by
 refine⟨ho,fun k hk=>?_,fun x hx=>?_⟩
 ·rcases hb with hb|hb
  ·rw[hb]at hk
   have:=(h.own.blk k hk).2
   rw[paint,if_pos this];exact h.col k hk
  ·rw[hb]at hk
   cases hk
   rw[paint,if_neg (by omega)];rfl
 ·rcases List.mem_append.1 hx with hx|hx
  ·exact h.good x hx
  ·obtain rfl:=List.mem_singleton.1 hx;exact hg
section
variable {P:Program} {ops:Array Oper} {op:Oper} {a:Act} {w:World} {Q:Exit→Act→World→Prop} {S:World→Prop} {md:Region.Mode} {fuel:Nat} {listed:Array Bool} {i:Nat}
theorem set1_all(A:Array Value)(c0:Value)(h:A.size=1):A.setIfInBounds 0 c0=#[c0]:=by
 obtain⟨l⟩:=A
 match l,h with
 | [_],_=>rfl
theorem run_buildSlice1{t T:TypeId}{z:Value}{s0:ByteArray}(ht:P.underlying t=some (.slice T))(hi:(P.info? T).map (fun i=>(i.zero,i.size))=some (some z,1)) :
  (Instr.buildSlice t 1 #[(0,.string s0)]).run P w=.ok (.slice (some ⟨w.heap.size,0,none⟩) 1 1) (w.alloc (.cells #[.string s0] T)):=by
 obtain⟨ti,hti,h3⟩:=Option.map_eq_some_iff.1 hi
 simp only[Prod.mk.injEq]at h3
 obtain⟨h4,h5⟩:=h3
 simp[Instr.buildSlice,Sem.run_bind,run_underlying ht,sizeOf,typeInfo,hti,h4,h5,zeroValue,Instr.fill,newRow,Array.zipIdx,Array.range,go_sem]
 rw[set1_all _ _ (by simp[h5])]
theorem one_build1(ho1:ops[i]?=some op)(hw:Region.wanted op (yielded ops a.tmps)=true)(t:TypeId)(x:Operand)(ho:op.op=.buildSlice t 1 #[(0,x)]){T:TypeId}{z:Value}(ht:P.underlying t=some (.slice T))(hi:(P.info? T).map (fun i=>(i.zero,i.size))=some (some z,1))
  {s0:ByteArray} (hx:a.eval x=.string s0) (hS:S (w.alloc (.cells #[.string s0] T))) (h:wpAnyH P md ops Q S fuel (listed.setIfInBounds i true) (a.put op.dst (.slice (some ⟨w.heap.size,0,none⟩) 1 1)) (w.alloc (.cells #[.string s0] T))):OneH P md ops Q S fuel listed a w i :=
 wpOp_step ho1 (fun _ hK=>by
  rw[if_pos hw]
  unfold Oper.wp execOp
  simp only[ho]
  have:=run_buildSlice1 (P:=P) (w:=w) (s0:=s0) ht hi
  simp only[hx,List.map_toArray,List.map_cons,List.map_nil,this,Sem.run_bind,Result.andThen_ok,Sem.run_pure]
  exact hK _ _ ⟨hS,h⟩)
end
end Go.Proofs.YtbaffippdifbpaaGreat
namespace Go.Proofs.YtbaffippdifbpaaGreat
set_option linter.unusedVariables false
open Go.ChangeShapes Go.WideShapes Go.ChangeAt Go.RowKit
theorem Fr.ofBox{B b:Nat}{χ:Nat→Col}{i:Col}{w w':World}(g:w.grownBy w' (some b))(h:χ b=i)(hB:B≤b):Fr B χ (·=i) w w' :=
 ⟨g.os,g.tape,g.output,g.size,fun k hk hn=>g.block k hk (fun e=>hn (by cases e;exact⟨hB,h⟩))⟩
theorem TMissionO.box{B o b:Nat}{χ:Nat→Col}{w w2:World}{A:TMissionA}{m:TMission}(h:TMissionO B χ o w A m)(g:w.grownBy w2 (some b))(hc:χ b=(1000,0))(hB:B≤b)(ho:o+22≤1000):TMissionO B χ o w2 A m :=
 h.fr (Fr.ofBox g hc hB) (fun j k _ h2 e=>by cases e;omega)
theorem offer_app{B0 n:Nat}{χ:Nat→Col}{u W W2:World}{A:TMissionA}{m:TMission}{p:ByteArray}{sa:Option Addr}{sc:Nat}(h:TMissionO B0 χ 0 u A m)(hown:Own encStr 9 1 B0 W2 sa sc (m.Ground.Offers++[p]))(hgr:W.grownBy W2 (Value.ownBlock (.slice A.a3 n A.c3)))
  (hblk:blkOf sa=blkOf A.a3∨blkOf sa=some W.heap.size) (hp:p.size≤9223372036854775807) (g:Grows u W) :
  Fr B0 χ (·=(0+3,0)) W W2∧TMissionO B0 (paint W.heap.size χ (fun _=>(0+3,0)) id) 0 W2 { A with a3:=sa,c3:=sc } (offer m p):=by
 have hT:=h.to g
 have hF:=hT.o3.wrote hgr
 exact⟨hF,(hT.old (Nat.le_refl _)).put3 (hF.old (Nat.le_refl _)) (hT.o3.app hown hblk hp)⟩
theorem offer_cells{B:Nat}{χ:Nat→Col}{w:World}{cs:List Value}{m:TMission}{p:ByteArray}{A:TMissionA}{sa:Option Addr}{sc:Nat}(hcs:cs=(cMission m A.a0 A.c0 A.a1 A.c1 A.a2 A.c2 A.a3 A.c3 A.a4 A.c4 A.a5 A.c5 A.a6 A.c6 A.a7 A.c7 A.a8 A.c8 A.a9 A.c9 A.a10 A.c10 A.a11 A.c11 A.a12 A.c12 A.a13 A.c13 A.a14 A.c14 A.a15 A.c15 A.a16 A.c16 A.a17 A.c17 A.a18 A.c18 A.a19 A.c19 A.a20 A.c20 A.a21 A.c21))(h:TMissionO B χ 0 w { A with a3:=sa,c3:=sc } (offer m p)) :
  EncO.O B χ 0 w (cs.set 16 (.slice sa (m.Ground.Offers.length+1) sc)) (offer m p):=by
 refine⟨_,?_,h⟩
 have e:(offer m p).Ground.Offers.length=m.Ground.Offers.length+1:=by simp[offer]
 rw[hcs,← e]
 rfl
end Go.Proofs.YtbaffippdifbpaaGreat
namespace Go.Proofs.YtbaffippdifbpaaGreat
set_option linter.unusedVariables false
open Go.ChangeShapes Go.WideShapes Go.ChangeAt Go.RowKit
section
variable {P:Program} {ops:Array Oper} {op:Oper} {a:Act} {w:World} {Q:Exit→Act→World→Prop} {S:World→Prop} {md:Region.Mode} {fuel:Nat} {listed:Array Bool} {i:Nat}
theorem one_alloc(ho1:ops[i]?=some op)(hw:Region.wanted op (yielded ops a.tmps)=true)(T:TypeId)(ho:op.op=.alloc T){cs:Array Value}(hr:∀ W:World,(Instr.alloc T true (.tuple #[])).run P W=.ok (.pointer (some ⟨W.heap.size,0,none⟩)) (W.alloc (.cells cs T)))
  (hS:S (w.alloc (.cells cs T))) (h:wpAnyH P md ops Q S fuel (listed.setIfInBounds i true) (a.put op.dst (.pointer (some ⟨w.heap.size,0,none⟩))) (w.alloc (.cells cs T))):OneH P md ops Q S fuel listed a w i :=
 wpOp_step ho1 (fun _ hK=>by
  rw[if_pos hw]
  unfold Oper.wp execOp
  simp only[ho,hr,Sem.run_bind,Result.andThen_ok,Sem.run_pure]
  exact hK _ _ ⟨hS,h⟩)
theorem one_storeW(ho1:ops[i]?=some op)(hw:Region.wanted op (yielded ops a.tmps)=true)(ty:TypeId)(x y:Operand)(ho:op.op=.store ty x y)(b:Nat)(hx:a.eval x=.pointer (some ⟨b,0,none⟩)){cs us:List Value}{T:TypeId}(hv:(a.eval y).cells.toList=us)(H:Held w b cs T)
  (hi:(P.info? ty).map (·.size)=some us.length) (h1:us.all (·.oneCell')=true) (hl:us.length=cs.length) {w0:World} (g:Grows w0 w) (hb:w0.heap.size≤b)
  (h:∀ z:Later w0,Held z.w b us T→w.grownBy z.w (some b)→S z.w∧wpAnyH P md ops Q S fuel (listed.setIfInBounds i true) (a.put op.dst undef) z.w):OneH P md ops Q S fuel listed a w i :=
 wpOp_step ho1 (fun _ hK=>st_storeW hw ty x y ho b hx hv H hi h1 hl g hb fun z h2 h3=>hK _ _ (h z h2 h3))
end
theorem Held.frB{Bo U b:Nat}{χ:Nat→Col}{w w1:World}{cs:List Value}{T:TypeId}(h:Held w b cs T)(f:Fr Bo (paint U χ (fun _=>(0,0)) (fun _=>(1000,0))) (Rng 0 22) w w1)(hb:b<Bo∨U≤b):Held w1 b cs T:=by
 unfold Held
 rw[f.block b h.lt (fun e=>by
  rcases hb with hb|hb
  ·omega
  ·have:=e.2;rw[paint,if_neg (by omega)]at this;exact absurd this (Rng.out (.inr (by decide))))]
 exact h
theorem Rd.late{b:Nat}{y z:World}{o:Obj}{vs:List Value}{m:TMission}(h:Enc.Rd 0 y vs m)(g:(y.alloc o).grownBy z (some b))(hb:b=y.heap.size):Enc.Rd 0 z vs m :=
 Enc.keep h ⟨by have:=g.size;simp at this;omega,fun k _ h2=>by rw[g.block k (by simp;omega) (by simp;omega),Below.heap_alloc _ _ _ h2]⟩
theorem om_late{b B:Nat}{χ:Nat→Col}{y z:World}{o:Obj}{vs:List Value}{m:TMission}(h:EncO.O B χ 0 y vs m)(g:(y.alloc o).grownBy z (some b))(hb:b=y.heap.size):EncO.O B χ 0 z vs m :=
 om_keep h ⟨by have:=g.size;simp at this;omega,fun k _ h2=>by rw[g.block k (by simp;omega) (by simp;omega),Below.heap_alloc _ _ _ h2]⟩
end Go.Proofs.YtbaffippdifbpaaGreat
