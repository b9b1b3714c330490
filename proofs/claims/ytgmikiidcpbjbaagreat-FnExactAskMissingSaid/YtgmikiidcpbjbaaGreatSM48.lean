/- A mission's marks, and what is held. No condition but on sizes. EncodeOrder of both sides, and what GiveOrder comes to. No condition but on sizes. -/
import Derived.Test.YtgmikiidcpbjbaaGreatSM46
import Derived.Test.YtgmikiidcpbjbaaGreatSMk6
import Derived.Test.YtgmikiidcpbjbaaGreatSLto3
import Derived.Test.YtgmikiidcpbjbaaGreatSM9
import Derived.Test.YtgmikiidcpbjbaaGreatSM4
import Derived.Test.YtgmikiidcpbjbaaGreatSFileT
import Derived.Test.YtgmikiidcpbjbaaGreatSM21
import Derived.Test.YtgmikiidcpbjbaaGreatSOne
import Derived.Test.YtgmikiidcpbjbaaGreatSM43
import Derived.Test.YtgmikiidcpbjbaaGreatSM29
import Derived.Test.YtgmikiidcpbjbaaGreatSStepH
import Derived.Test.YtgmikiidcpbjbaaGreatSM37
import Derived.Test.YtgmikiidcpbjbaaGreatSWholeL
namespace Go.Proofs.YtgmikiidcpbjbaaGreat
set_option linter.unusedVariables false
open Go.ChangeShapes Go.WideShapes Go.ChangeAt Go.RowKit
theorem cellsM_mk(m:TMission)(k:Int)(A:TMissionA):([.int .i64 (mkMMission m k).Time,.int .i64 (mkMMission m k).Light,.int .i64 (mkMMission m k).Drift.Rate,.int .i64 (mkMMission m k).Drift.Offset,.int .i64 (mkMMission m k).Orbit.Period,.int .i64 (mkMMission m k).Orbit.Start,.int .i64 (mkMMission m k).Orbit.Length,.slice A.a0 (mkMMission m k).Plan.length A.c0,.int .i64 (mkMMission m k).Up.Seed,.int .i64 (mkMMission m k).Up.Burst,.int .i64 (mkMMission m k).Up.Loss,.int .i64 (mkMMission m k).Down.Seed,.int .i64 (mkMMission m k).Down.Burst,.int .i64 (mkMMission m k).Down.Loss,.slice A.a1 (mkMMission m k).Ups.length A.c1,.slice A.a2 (mkMMission m k).Downs.length A.c2,.slice A.a3 (mkMMission m k).Ground.Offers.length A.c3,.int .i64 (mkMMission m k).Ground.Sender.Next,.int .i64 (mkMMission m k).Ground.Sender.Window,.slice A.a4 (mkMMission m k).Ground.Sender.Waiting.length A.c4,.int .i64 (mkMMission m k).Ground.Sender.Done,.int .i64 (mkMMission m k).Ground.Notice.Expect,.bool (mkMMission m k).Ground.Notice.Locked,.bool (mkMMission m k).Ground.Notice.Again,.int .i64 (mkMMission m k).Ground.Unpacker.Channel,.int .i64 (mkMMission m k).Ground.Unpacker.Next,.bool (mkMMission m k).Ground.Unpacker.Synced,.string (mkMMission m k).Ground.Unpacker.Rest,.int .i64 (mkMMission m k).Ground.Unpacker.Lost,.slice A.a5 (mkMMission m k).Ground.Pairs.length A.c5,.slice A.a6 (mkMMission m k).Ground.Records.length A.c6,.slice A.a7 (mkMMission m k).Ground.Files.length A.c7,.slice A.a8 (mkMMission m k).Ground.Told.length A.c8,.int .i64 (mkMMission m k).Space.Receiver.Expect,.bool (mkMMission m k).Space.Receiver.Locked,.bool (mkMMission m k).Space.Receiver.Again,.int .i64 (mkMMission m k).Space.Receiver.Taken,.int .i64 (mkMMission m k).Space.Board.Clock,.slice A.a9 (mkMMission m k).Space.Board.Params.length A.c9,.bool (mkMMission m k).Space.Board.Safe,.slice A.a10 (mkMMission m k).Space.Board.Limits.length A.c10,.slice A.a11 (mkMMission m k).Space.Board.Orders.length A.c11,.slice A.a12 (mkMMission m k).Space.Board.Done.length A.c12,.int .i64 (mkMMission m k).Space.Board.Recorder.Room,.slice A.a13 (mkMMission m k).Space.Board.Recorder.Records.length A.c13,.slice A.a14 (mkMMission m k).Space.Board.Recorder.Dropped.length A.c14,.int .i64 (mkMMission m k).Space.Board.Made,.int .i64 (mkMMission m k).Space.Board.Taken,.slice A.a15 (mkMMission m k).Space.Board.Asked.length A.c15,.int .i64 (mkMMission m k).Space.Packer.Channel,.int .i64 (mkMMission m k).Space.Packer.Count,.string (mkMMission m k).Space.Packer.Rest,.slice A.a16 (mkMMission m k).Space.Packer.Starts.length A.c16,.int .i64 (mkMMission m k).Space.Seq,.slice A.a17 (mkMMission m k).Space.Files.length A.c17,.slice A.a18 (mkMMission m k).Space.Outs.length A.c18,.int .i64 (mkMMission m k).Space.Begun,.slice A.a19 (mkMMission m k).Space.Sent.length A.c19,.slice A.a20 (mkMMission m k).Offered.length A.c20,.slice A.a21 (mkMMission m k).Took.length A.c21,.int .i64 (mkMMission m k).Bad]:List Value)=[.int .i64 m.Time,.int .i64 m.Light,.int .i64 m.Drift.Rate,.int .i64 m.Drift.Offset,.int .i64 m.Orbit.Period,.int .i64 m.Orbit.Start,.int .i64 m.Orbit.Length,.slice A.a0 m.Plan.length A.c0,.int .i64 m.Up.Seed,.int .i64 m.Up.Burst,.int .i64 m.Up.Loss,.int .i64 m.Down.Seed,.int .i64 m.Down.Burst,.int .i64 m.Down.Loss,.slice A.a1 m.Ups.length A.c1,.slice A.a2 m.Downs.length A.c2,.slice A.a3 m.Ground.Offers.length A.c3,.int .i64 m.Ground.Sender.Next,.int .i64 m.Ground.Sender.Window,.slice A.a4 m.Ground.Sender.Waiting.length A.c4,.int .i64 m.Ground.Sender.Done,.int .i64 m.Ground.Notice.Expect,.bool m.Ground.Notice.Locked,.bool m.Ground.Notice.Again,.int .i64 m.Ground.Unpacker.Channel,.int .i64 m.Ground.Unpacker.Next,.bool m.Ground.Unpacker.Synced,.string m.Ground.Unpacker.Rest,.int .i64 m.Ground.Unpacker.Lost,.slice A.a5 m.Ground.Pairs.length A.c5,.slice A.a6 m.Ground.Records.length A.c6,.slice A.a7 m.Ground.Files.length A.c7,.slice A.a8 m.Ground.Told.length A.c8,.int .i64 m.Space.Receiver.Expect,.bool m.Space.Receiver.Locked,.bool m.Space.Receiver.Again,.int .i64 m.Space.Receiver.Taken,.int .i64 m.Space.Board.Clock,.slice A.a9 m.Space.Board.Params.length A.c9,.bool m.Space.Board.Safe,.slice A.a10 m.Space.Board.Limits.length A.c10,.slice A.a11 m.Space.Board.Orders.length A.c11,.slice A.a12 m.Space.Board.Done.length A.c12,.int .i64 m.Space.Board.Recorder.Room,.slice A.a13 m.Space.Board.Recorder.Records.length A.c13,.slice A.a14 m.Space.Board.Recorder.Dropped.length A.c14,.int .i64 m.Space.Board.Made,.int .i64 m.Space.Board.Taken,.slice A.a15 m.Space.Board.Asked.length A.c15,.int .i64 m.Space.Packer.Channel,.int .i64 m.Space.Packer.Count,.string m.Space.Packer.Rest,.slice A.a16 m.Space.Packer.Starts.length A.c16,.int .i64 m.Space.Seq,.slice A.a17 m.Space.Files.length A.c17,.slice A.a18 m.Space.Outs.length A.c18,.int .i64 m.Space.Begun,.slice A.a19 m.Space.Sent.length A.c19,.slice A.a20 m.Offered.length A.c20,.slice A.a21 m.Took.length A.c21,.int .i64 m.Bad]:=by
 have e0:(mkMMission m k).Plan.length=m.Plan.length:=mkL_length _ _
 have e1:(mkMMission m k).Ups.length=m.Ups.length:=mkL_length _ _
 have e2:(mkMMission m k).Downs.length=m.Downs.length:=mkL_length _ _
 have e3:(mkMMission m k).Ground.Offers.length=m.Ground.Offers.length:=mkL_length _ _
 have e4:(mkMMission m k).Ground.Sender.Waiting.length=m.Ground.Sender.Waiting.length:=mkL_length _ _
 have e5:(mkMMission m k).Ground.Pairs.length=m.Ground.Pairs.length:=mkL_length _ _
 have e6:(mkMMission m k).Ground.Records.length=m.Ground.Records.length:=mkL_length _ _
 have e7:(mkMMission m k).Ground.Files.length=m.Ground.Files.length:=mkN_length _ _ _ _
 have e8:(mkMMission m k).Ground.Told.length=m.Ground.Told.length:=mkL_length _ _
 have e9:(mkMMission m k).Space.Board.Params.length=m.Space.Board.Params.length:=mkL_length _ _
 have e10:(mkMMission m k).Space.Board.Limits.length=m.Space.Board.Limits.length:=mkL_length _ _
 have e11:(mkMMission m k).Space.Board.Orders.length=m.Space.Board.Orders.length:=mkL_length _ _
 have e12:(mkMMission m k).Space.Board.Done.length=m.Space.Board.Done.length:=mkL_length _ _
 have e13:(mkMMission m k).Space.Board.Recorder.Records.length=m.Space.Board.Recorder.Records.length:=mkL_length _ _
 have e14:(mkMMission m k).Space.Board.Recorder.Dropped.length=m.Space.Board.Recorder.Dropped.length:=mkL_length _ _
 have e15:(mkMMission m k).Space.Board.Asked.length=m.Space.Board.Asked.length:=mkL_length _ _
 have e16:(mkMMission m k).Space.Packer.Starts.length=m.Space.Packer.Starts.length:=mkL_length _ _
 have e17:(mkMMission m k).Space.Files.length=m.Space.Files.length:=mkL_length _ _
 have e18:(mkMMission m k).Space.Outs.length=m.Space.Outs.length:=mkN_length _ _ _ _
 have e19:(mkMMission m k).Space.Sent.length=m.Space.Sent.length:=mkL_length _ _
 have e20:(mkMMission m k).Offered.length=m.Offered.length:=mkL_length _ _
 have e21:(mkMMission m k).Took.length=m.Took.length:=mkL_length _ _
 rw[e0,e1,e2,e3,e4,e5,e6,e7,e8,e9,e10,e11,e12,e13,e14,e15,e16,e17,e18,e19,e20,e21]
 rfl
theorem o_markM{B:Nat}{χ:Nat→Col}{w:World}{vs:List Value}{m:TMission}{k:Int}(h:EncO.O B χ 0 w vs m)(hf:Fresh χ w)(hB:B≤w.heap.size)(ht:Enc.tot m≤100000000)(h1:0≤k)(h2:k≤100000000000) :
  Calls Tryz.prog 20 #[.agg vs.toArray,.int .i64 k] w (Mkd (mnMMission m k) (fun w2=>EncO.O B χ 0 w2 vs (mkMMission m k)) (Fr B χ (Rng 0 22) w)):=by
 obtain⟨A,rfl,F⟩:=h
 refine(o_lmarkMission F hf hB (by omega) ht h1 h2).mono fun e w2 hq=>?_
 obtain⟨he,ho,hr⟩:=hq
 exact⟨he,⟨A,(cellsM_mk m k A).symm,ho⟩,by simpa using hr⟩
theorem o_heldM{B:Nat}{w:World}{vs:List Value}{m:TMission}{k:Int}(h:Enc.Rd B w vs (mkMMission m k))(ht:Enc.tot m≤100000000)(h1:0≤k)(h2:k≤100000000000) :
  Calls Tryz.prog 21 #[.agg vs.toArray,.int .i64 k] w (Gives w (.int .i64 (mnMMission m k))):=by
 obtain⟨A,rfl,F⟩:=h
 rw[cellsM_mk m k A]
 exact o_lheldMission F ht h1 h2
theorem dl_toMission{B:Nat}{vs:List Value}{x:TMission}{w:World}(h:Enc.Rd B w vs x)(ht:Enc.tot x≤1048576) :
  Calls Tryz.prog 17 #[.agg vs.toArray] w (GivesD w x):=(o_ltoMission h ht).mono fun _ _ g=>GivesO.d g
theorem om_old{B U o:Nat}{χ:Nat→Col}{w:World}{vs:List Value}{m:TMission}(h:EncO.O B χ o w vs m)(g:w.heap.size≤U):EncO.O B (paint U χ (fun _=>(0,0)) (fun _=>(1000,0))) o w vs m:=by
 obtain⟨A,h0,h1⟩:=h
 exact⟨A,h0,h1.old g⟩
theorem Held.past{u W z:World}{b c:Nat}{cs:List Value}{T:TypeId}(h:Held u c cs T)(g:Keeps 0 u W)(k:But b W z)(hb:u.heap.size≤b):Held z c cs T:=by
 have hl:=h.lt
 unfold Held
 rw[k.block c (by omega) (Nat.lt_of_lt_of_le hl g.size),g.block c (Nat.zero_le _) hl];exact h
theorem growsOf{W:World}(x y:Later W)(h:Keeps 0 x.w y.w):Grows x.w y.w :=
 ⟨⟨y.h.os.trans x.h.os.symm,y.h.tape.trans x.h.tape.symm,y.h.output.trans x.h.output.symm,h.size,fun b hb=>h.block b (Nat.zero_le _) hb⟩⟩
theorem growsTr{a b c:World}(h:Grows a b)(k:Grows b c):Grows a c:=⟨h.out.trans (k.out.mono h.out.size)⟩
theorem stepLoadG{P:Program}{ops:Array Oper}{rest:List Oper}{op:Oper}{a:Act}{w:World}{Q:Exit→Act→World→Prop}(hw:Region.wanted op (yielded ops a.tmps)=true)(ty:TypeId)(x:Operand)(ho:op.op=.load ty x)(b o:Nat)(hx:a.eval x=.pointer (some ⟨b,o,none⟩)){cs row:List Value}{T:TypeId}(H:Held w b cs T)
  (d:TypeDesc) (hu:P.underlying ty=some d) (hd:d.isRow=true) (hi:(P.info? ty).map (·.size)=some row.length) (hr:(cs.drop o).take row.length=row)
  (h:wpList P ops Q rest (a.put op.dst (.agg row.toArray)) w):wpList P ops Q (op::rest) a w :=
 wpList_step fun K hK=>st_loadH hw ty x ho b o hx H d hu hd hi hr (hK _ _ h)
theorem Later.ofG{W w:World}(h:Grows W w):∃ x:Later W,w=x.w:=⟨⟨w,h.out⟩,rfl⟩
def wordN(m n:Int):ByteArray:=if m=1 then word1 n else if m=2 then word2 n else word3 n
@[go_sem] theorem word3_size(n:Int):(word3 n).size=3:=rfl
@[go_sem] theorem wordN_one(n:Int):wordN 1 n=word1 n:=rfl
@[go_sem] theorem wordN_two(n:Int):wordN 2 n=word2 n:=rfl
@[go_sem] theorem wordN_three(n:Int):wordN 3 n=word3 n:=rfl
theorem c_iPutWordN{n m:Int}{w:World}(h0:0≤n:=by first|assumption|(apply Sl.to<;>first|assumption|infer_instance)|omega)(h:m=1∧n<256∨m=2∧n<65536∨m=3∧n<16777216:=by first|assumption|(apply Sl.to<;>first|assumption|infer_instance)|omega) :
  Calls Tryz.prog 76 #[.int .i64 n,.int .i64 m] w (Gives w (.string (wordN m n))):=by
 rcases h with⟨rfl,h1⟩|⟨rfl,h1⟩|⟨rfl,h1⟩
 ·exact c_iPutWord1 h0 h1
 ·exact c_iPutWord2 h0 h1
 ·exact c_iPutWord3 h0 h1
theorem c_sPutWordN{n m:Int}{w:World}(h0:0≤n:=by first|assumption|(apply Sl.to<;>first|assumption|infer_instance)|omega)(h:m=1∧n<256∨m=2∧n<65536∨m=3∧n<16777216:=by first|assumption|(apply Sl.to<;>first|assumption|infer_instance)|omega) :
  Calls Tryz.prog 63 #[.int .i64 n,.int .i64 m] w (Gives w (.string (wordN m n))):=by
 rcases h with⟨rfl,h1⟩|⟨rfl,h1⟩|⟨rfl,h1⟩
 ·exact c_sPutWord1 h0 h1
 ·exact c_sPutWord2 h0 h1
 ·exact c_sPutWord3 h0 h1
theorem totL_snoc{α:Type}[Enc α](l:List α)(y:α):totL (l++[y])=totL l+1+Enc.tot y:=by
 rw[totL_app];simp only[totL];omega
theorem OwnC.app{α:Type}[E:Flat α]{B:Nat}{χ:Nat→Col}{i:Col}{w w2:World}{a a2:Option Addr}{c c2:Nat}{l:List α}{y:α}(h:OwnC B χ i w a c l)(ho:Own E.enc E.ty E.size B w2 a2 c2 (l++[y]))(hb:blkOf a2=blkOf a∨blkOf a2=some w.heap.size)(hg:E.good y) :
  OwnC B (paint w.heap.size χ (fun _=>i) id) i w2 a2 c2 (l++[y]):=by
 refine⟨ho,fun k hk=>?_,fun x hx=>?_⟩
 ·rcases hb with hb|hb
  ·rw[hb]at hk
   have:=(h.own.blk k hk).2
   rw[paint,if_pos this];exact h.col k hk
  ·rw[hb]at hk
   cases hk
   rw[paint,if_neg (by omega)];rfl
 ·rcases List.mem_append.1 hx with hx|hx
  ·exact h.good x hx
  ·obtain rfl:=List.mem_singleton.1 hx;exact hg
section
variable {P:Program} {ops:Array Oper} {op:Oper} {a:Act} {w:World} {Q:Exit→Act→World→Prop} {S:World→Prop} {md:Region.Mode} {fuel:Nat} {listed:Array Bool} {i:Nat}
end
def bytesOn(s:ByteArray)(l:List Int):ByteArray:=l.foldl (fun s k=>s++word1 k) s
theorem bytesOn_snoc(s:ByteArray)(l:List Int)(k:Int):bytesOn s (l++[k])=bytesOn s l++word1 k:=by simp[bytesOn,List.foldl_append]
theorem bytesOn_size:∀ (l:List Int) (s:ByteArray),(bytesOn s l).size=s.size+l.length
 | [],s=>rfl
 | k::r,s=>by
  show(bytesOn (s++word1 k) r).size=_
  rw[bytesOn_size r,ByteArray.size_append,word1_size,List.length_cons];omega
def encMiss(f:Int)(l:List Int):ByteArray:=if (inB f 0 7 && (decide ((l.length:Int)≤20) && allB 0 24 l))=true then bytesOn (word1 f) l else⟨#[]⟩
theorem encMiss_size(f:Int)(l:List Int):(encMiss f l).size≤21:=by
 unfold encMiss
 split
 ·rename_i h
  rw[Bool.and_eq_true,Bool.and_eq_true]at h
  have h2:(l.length:Int)≤20:=by simpa using h.2.1
  rw[bytesOn_size,word1_size];omega
 ·show(0:Nat)≤21;omega
theorem allB_drop{lo hi y:Int}{l r:List Int}{k:Nat}(h:allB lo hi l=true)(hd:l.drop k=y::r):inB y lo hi=true:=by
 have hm:y∈l:=List.mem_of_mem_drop (by rw[hd];exact List.mem_cons_self ..)
 clear hd
 induction l with
 | nil=>cases hm
 | cons x r ih =>
  rw[allB,Bool.and_eq_true]at h
  rcases List.mem_cons.1 hm with rfl|hm
  ·exact h.1
  ·exact ih h.2 hm
theorem allB_take{lo hi y:Int}{l r:List Int}{k:Nat}(h:allB lo hi (l.take k)=true)(hd:l.drop k=y::r)(hy:inB y lo hi=true):allB lo hi (l.take (k+1))=true:=by
 have e:l.take (k+1)=l.take k++[y]:=by
  rw[List.take_add_one];congr 1
  have:=congrArg (fun m=>m[0]?) hd
  simp only[List.getElem?_drop,Nat.add_zero,List.getElem?_cons_zero]at this
  rw[this];rfl
 rw[e]
 generalize l.take k=p at h
 induction p with
 | nil=>simp[allB,hy]
 | cons x p ih =>
  rw[allB,Bool.and_eq_true]at h
  rw[List.cons_append,allB,h.1,ih h.2];rfl
theorem allB_bad{lo hi y:Int}{l r:List Int}{k:Nat}(hd:l.drop k=y::r)(hy:inB y lo hi=false):allB lo hi l=false:=by
 cases c:allB lo hi l
 ·rfl
 ·have:=allB_drop c hd
  rw[hy]at this;cases this
theorem take_snoc1{y:Int}{l r:List Int}{k:Nat}(hd:l.drop k=y::r):l.take (k+1)=l.take k++[y]:=by
 rw[List.take_add_one];congr 1
 have:=congrArg (fun m=>m[0]?) hd
 simp only[List.getElem?_drop,Nat.add_zero,List.getElem?_cons_zero]at this
 rw[this];rfl
set_option maxRecDepth 100000 in
set_option maxHeartbeats 2000000 in
theorem c_iEncodeMissing{a:Option Addr}{n c:Nat}{f:Int}{l:List Int}{w:World}(hs:Sl encInt w a l)(hn:l.length=n)(hm:n≤1000000000) :
  Calls Tryz.prog 77 #[.int .i64 f,.slice a n c] w (Gives w (.string (encMiss f l))):=by
 cases c1:inB f 0 7
 ·go_enter Tryz.func77,Tryz.ntmps77
  go_wp2_with (first|((with_reducible refine wp_region_later (by kernel_rfl) (by kernel_rfl) ?_);(repeat(first|go_big_quiet_step (first|(go_at_call 156;exact Gives.quiet (c_ibetween)))|simp only[c1]));refine wpQuiet_nil ?_;rintro _ ⟨x,rfl⟩)|(go_at_call 156;refine(c_ibetween).mono ?_;rintro _ _ ⟨rfl,x,rfl⟩))
  go_ret
  exact Gives.mk (by simp[encMiss,c1])
 have HN:=lH hn
 by_cases h2:(20:Int)<n
 ·have HF:=lH (show encMiss f l=⟨#[]⟩by unfold encMiss;rw[if_neg];rw[hn];simp;omega)
  clear hn
  go_enter Tryz.func77,Tryz.ntmps77
  go_wp2_with (first|((with_reducible refine wp_region_later (by kernel_rfl) (by kernel_rfl) ?_);(repeat(first|go_big_quiet_step (first|(go_at_call 156;exact Gives.quiet (c_ibetween)))|simp only[c1]));refine wpQuiet_nil ?_;rintro _ ⟨x,rfl⟩)|(go_at_call 156;refine(c_ibetween).mono ?_;rintro _ _ ⟨rfl,x,rfl⟩))
  go_ret
  exact Gives.mk (by rw[HF.out];rfl)
 cases c3:allB 0 24 l
 ·have HF:=lH (show encMiss f l=⟨#[]⟩by unfold encMiss;rw[if_neg];rw[c3];simp)
  go_enter Tryz.func77,Tryz.ntmps77
  go_wp2_with (first|((with_reducible refine wp_region_later (by kernel_rfl) (by kernel_rfl) ?_);(repeat(first|go_big_quiet_step (first|(go_at_call 156;exact Gives.quiet (c_ibetween))|(go_at_call 233;exact Gives.quiet (c_iallBetween)))|simp only[c1]|simp only[c3]));refine wpQuiet_nil ?_;rintro _ ⟨x,rfl⟩)|(go_at_call 156;refine(c_ibetween).mono ?_;rintro _ _ ⟨rfl,x,rfl⟩)|(go_at_call 233;refine(c_iallBetween).mono ?_;rintro _ _ ⟨rfl,x,rfl⟩))
  go_ret
  exact Gives.mk (by rw[HF.out];rfl)
 have HF:=lH (show encMiss f l=bytesOn (word1 f) l by unfold encMiss;rw[if_pos];rw[c1,c3,hn];simp;omega)
 have HC:=lH c3
 have⟨f0,f1⟩:=inB_iff.1 c1
 go_enter Tryz.func77,Tryz.ntmps77
 go_wp2_with (first|((with_reducible refine wp_region_later (by kernel_rfl) (by kernel_rfl) ?_);(repeat(first|go_big_quiet_step (first|(go_at_call 156;exact Gives.quiet (c_ibetween))|(go_at_call 233;exact Gives.quiet (c_iallBetween))|(go_at_call 76;exact Gives.quiet (c_iPutWordN)))|simp only[c1]|simp only[c3]));refine wpQuiet_nil ?_;rintro _ ⟨x,rfl⟩)|(go_at_call 156;refine(c_ibetween).mono ?_;rintro _ _ ⟨rfl,x,rfl⟩)|(go_at_call 233;refine(c_iallBetween).mono ?_;rintro _ _ ⟨rfl,x,rfl⟩)|(go_at_call 76;refine(c_iPutWordN).mono ?_;rintro _ _ ⟨rfl,x,rfl⟩))
 clear c3 hn
 go_loopw [5,25] (fun u v wr=>∃ (k:Nat) (s:ByteArray),v=.int .i64 k∧u=.string s∧k≤n∧s.size=1+k∧Hid (s=bytesOn (word1 f) (l.take k))∧∃ x:Later w,wr=x.w) (fun _ v _=>(n - intOf v).toNat)
 case atStart=>exact⟨0,word1 f,rfl,rfl,by omega,rfl,rfl,Later.of⟩
 case round =>
  obtain⟨k,s,rfl,rfl,hk,hsz,hf,x,rfl⟩:=hrel
  have HS:=lH hsz
  have hle:¬ 9223372036854775807<s.size+1:=by omega
  clear hsz
  by_cases h:k<n
  ·obtain⟨b,off,y,rfl,hb,hd,h0⟩:=hs.int (show k<l.length by have:=HN.out;omega)
   have⟨y0,y1⟩:=inB_iff.1 (allB_drop HC.out hd.out)
   go_wp2_with (first|((with_reducible refine wp_region_later (by kernel_rfl) (by kernel_rfl) ?_);(repeat(first|go_big_quiet_step (first|(go_at_call 76;exact Gives.quiet (c_iPutWordN)))));refine wpQuiet_nil ?_;rintro _ ⟨x,rfl⟩)|(go_at_call 76;refine(c_iPutWordN).mono ?_;rintro _ _ ⟨rfl,x,rfl⟩))
   go_roundw
   case rel=>exact⟨k+1,s++word1 y,by go_num,rfl,by omega,by rw[ByteArray.size_append,HS.out,word1_size];omega,(show _=_ by rw[take_snoc1 hd.out,bytesOn_snoc,← hf.out]),Later.of⟩
   case measure=>simp[intOf];omega
  ·go_wp2_with (first|((with_reducible refine wp_region_later (by kernel_rfl) (by kernel_rfl) ?_);(repeat(first|go_big_quiet_step (first|fail)));refine wpQuiet_nil ?_;rintro _ ⟨x,rfl⟩))
   go_ret
   have e:=hf.out
   rw[List.take_of_length_le (by have:=HN.out;omega)]at e
   exact Gives.mk (by rw[HF.out,e];rfl)
set_option maxRecDepth 100000 in
set_option maxHeartbeats 2000000 in
theorem c_sEncodeMissing{a:Option Addr}{n c:Nat}{f:Int}{l:List Int}{w:World}(hs:Sl encInt w a l)(hn:l.length=n)(hm:n≤1000000000) :
  Calls Tryz.prog 64 #[.int .i64 f,.slice a n c] w (Gives w (.string (encMiss f l))):=by
 cases c1:inB f 0 7
 ·go_enter Tryz.func64,Tryz.ntmps64
  go_wp2_with (first|((with_reducible refine wp_region_later (by kernel_rfl) (by kernel_rfl) ?_);(repeat(first|go_big_quiet_step (first|(go_at_call 158;exact Gives.quiet (c_sl01In)))|simp only[c1]));refine wpQuiet_nil ?_;rintro _ ⟨x,rfl⟩)|(go_at_call 158;refine(c_sl01In).mono ?_;rintro _ _ ⟨rfl,x,rfl⟩))
  go_ret
  exact Gives.mk (by simp[encMiss,c1])
 have HN:=lH hn
 by_cases h2:(20:Int)<n
 ·have HF:=lH (show encMiss f l=⟨#[]⟩by unfold encMiss;rw[if_neg];rw[hn];simp;omega)
  clear hn
  go_enter Tryz.func64,Tryz.ntmps64
  go_wp2_with (first|((with_reducible refine wp_region_later (by kernel_rfl) (by kernel_rfl) ?_);(repeat(first|go_big_quiet_step (first|(go_at_call 158;exact Gives.quiet (c_sl01In)))|simp only[c1]));refine wpQuiet_nil ?_;rintro _ ⟨x,rfl⟩)|(go_at_call 158;refine(c_sl01In).mono ?_;rintro _ _ ⟨rfl,x,rfl⟩))
  go_ret
  exact Gives.mk (by rw[HF.out];rfl)
 have H2:=lH (show(l.length:Int)≤20 by omega)
 have⟨f0,f1⟩:=inB_iff.1 c1
 have HC1:=lH c1
 clear hn
 go_enter Tryz.func64,Tryz.ntmps64
 go_wp2_with (first|((with_reducible refine wp_region_later (by kernel_rfl) (by kernel_rfl) ?_);(repeat(first|go_big_quiet_step (first|(go_at_call 158;exact Gives.quiet (c_sl01In))|(go_at_call 63;exact Gives.quiet (c_sPutWordN)))|simp only[c1]));refine wpQuiet_nil ?_;rintro _ ⟨x,rfl⟩)|(go_at_call 158;refine(c_sl01In).mono ?_;rintro _ _ ⟨rfl,x,rfl⟩)|(go_at_call 63;refine(c_sPutWordN).mono ?_;rintro _ _ ⟨rfl,x,rfl⟩))
 go_loopw [5,6] (fun u v wr=>∃ (k:Nat) (s:ByteArray),v=.int .i64 k∧u=.string s∧k≤n∧s.size=1+k∧Hid (s=bytesOn (word1 f) (l.take k))∧Hid (allB 0 24 (l.take k)=true)∧∃ x:Later w,wr=x.w) (fun _ v _=>(n - intOf v).toNat)
 case atStart=>exact⟨0,word1 f,rfl,rfl,by omega,rfl,rfl,rfl,Later.of⟩
 case round =>
  obtain⟨k,s,rfl,rfl,hk,hsz,hf,hA,x,rfl⟩:=hrel
  have HS:=lH hsz
  have hle:¬ 9223372036854775807<s.size+1:=by omega
  clear hsz
  by_cases h:k<n
  ·obtain⟨b,off,y,rfl,hb,hd,h0⟩:=hs.int (show k<l.length by have:=HN.out;omega)
   cases c3:inB y 0 24
   ·have HF:=lH (show encMiss f l=⟨#[]⟩by unfold encMiss;rw[if_neg];rw[allB_bad hd.out c3];simp)
    go_wp2_with (first|((with_reducible refine wp_region_later (by kernel_rfl) (by kernel_rfl) ?_);(repeat(first|go_big_quiet_step (first|(go_at_call 158;exact Gives.quiet (c_sl01In)))|simp only[c3]));refine wpQuiet_nil ?_;rintro _ ⟨x,rfl⟩)|(go_at_call 158;refine(c_sl01In).mono ?_;rintro _ _ ⟨rfl,x,rfl⟩))
    go_ret
    exact Gives.mk (by rw[HF.out];rfl)
   ·have HY:=lH c3
    have⟨y0,y1⟩:=inB_iff.1 c3
    go_wp2_with (first|((with_reducible refine wp_region_later (by kernel_rfl) (by kernel_rfl) ?_);(repeat(first|go_big_quiet_step (first|(go_at_call 158;exact Gives.quiet (c_sl01In))|(go_at_call 63;exact Gives.quiet (c_sPutWordN)))|simp only[c3]));refine wpQuiet_nil ?_;rintro _ ⟨x,rfl⟩)|(go_at_call 158;refine(c_sl01In).mono ?_;rintro _ _ ⟨rfl,x,rfl⟩)|(go_at_call 63;refine(c_sPutWordN).mono ?_;rintro _ _ ⟨rfl,x,rfl⟩))
    go_roundw
    case rel=>exact⟨k+1,s++word1 y,by go_num,rfl,by omega,by rw[ByteArray.size_append,HS.out,word1_size];omega,(show _=_ by rw[take_snoc1 hd.out,bytesOn_snoc,← hf.out]),(show _=_ from allB_take hA.out hd.out HY.out),Later.of⟩
    case measure=>simp[intOf];omega
  ·go_wp2_with (first|((with_reducible refine wp_region_later (by kernel_rfl) (by kernel_rfl) ?_);(repeat(first|go_big_quiet_step (first|fail)));refine wpQuiet_nil ?_;rintro _ ⟨x,rfl⟩))
   go_ret
   have e:=hf.out;have e2:=hA.out
   rw[List.take_of_length_le (by have:=HN.out;omega)]at e e2
   exact Gives.mk (by unfold encMiss;rw[if_pos (by rw[HC1.out,e2];simpa using H2.out),e];rfl)
def payMiss(k:Int)(l:List Int):ByteArray:=word1 1++encMiss k l
theorem payMiss_size(k:Int)(l:List Int):(payMiss k l).size≤22:=by
 have h:=encMiss_size k l
 unfold payMiss
 rw[ByteArray.size_append,word1_size];omega
def wholeF(f:TFileIn):Bool:=textIs f.File f.Size f.Check f.Parts
def missF(f:TFileIn):List Int:=missL f.File f.Size f.Check f.Parts
def askStep(k:Nat)(f:TFileIn)(s:List ByteArray × List Bool):List ByteArray × List Bool :=
 if (wholeF f && !(s.2.getD k false))=true then(s.1++[payMiss k []],s.2.set k true)
 else if (0:Int)<(missF f).length then(s.1++[payMiss k (missF f)],s.2)else s
def askFrom:Nat→List TFileIn→List ByteArray × List Bool→List ByteArray × List Bool
 | _,[],s=>s
 | k,f::r,s=>askFrom (k+1) r (askStep k f s)
theorem askFrom_snoc(f:TFileIn):∀ (l:List TFileIn) (k:Nat) (s:List ByteArray × List Bool),askFrom k (l++[f]) s=askStep (k+l.length) f (askFrom k l s)
 | [],k,s=>rfl
 | g::r,k,s=>by
  show askFrom (k+1) (r++[f]) (askStep k g s)=_
  rw[askFrom_snoc f r (k+1)]
  show askStep (k+1+r.length) f _=askStep (k+(r.length+1)) f _
  rw[show k+1+r.length=k+(r.length+1)by omega];rfl
theorem askStep_told(k:Nat)(f:TFileIn)(s:List ByteArray × List Bool):(askStep k f s).2.length=s.2.length:=by
 unfold askStep
 split
 ·simp
 ·split<;>rfl
theorem askFrom_told:∀ (l:List TFileIn) (k:Nat) (s:List ByteArray × List Bool),(askFrom k l s).2.length=s.2.length
 | [],_,_=>rfl
 | f::r,k,s=>by rw[askFrom,askFrom_told r,askStep_told]
theorem totL_bools:∀ l:List Bool,totL l=l.length
 | []=>rfl
 | b::r=>by
  have h:Enc.tot b=0:=rfl
  simp only[totL,totL_bools r,h,List.length_cons];omega
theorem askStep_tot(k:Nat)(f:TFileIn)(s:List ByteArray × List Bool):totL (askStep k f s).1≤totL s.1+23:=by
 have h1:=payMiss_size k [];have h2:=payMiss_size k (missF f)
 have e1:Enc.tot (payMiss k [])=((payMiss k []).size:Int):=rfl
 have e2:Enc.tot (payMiss k (missF f))=((payMiss k (missF f)).size:Int):=rfl
 unfold askStep
 split
 ·show totL (s.1++[payMiss k []])≤_
  rw[totL_snoc,e1];omega
 ·split
  ·show totL (s.1++[payMiss k (missF f)])≤_
   rw[totL_snoc,e2];omega
  ·omega
theorem askFrom_tot:∀ (l:List TFileIn) (k:Nat) (s:List ByteArray × List Bool),totL (askFrom k l s).1≤totL s.1+23*l.length
 | [],_,s=>by show totL s.1≤_;simp
 | f::r,k,s=>by
  have h1:=askFrom_tot r (k+1) (askStep k f s)
  have h2:=askStep_tot k f s
  show totL (askFrom (k+1) r (askStep k f s)).1≤_
  rw[List.length_cons];omega
def tellM(m:TMission)(s:List ByteArray × List Bool):TMission:={ m with Ground:={ m.Ground with Offers:=s.1,Told:=s.2 } }
theorem tellM_tot(m:TMission)(s:List ByteArray × List Bool)(h:s.2.length=m.Ground.Told.length):Enc.tot (tellM m s)=Enc.tot m+totL s.1 - totL m.Ground.Offers:=by
 have h1:Enc.tot (tellM m s)=totL m.Plan+totL m.Ups+totL m.Downs+(totL s.1+Enc.tot m.Ground.Sender+Enc.tot m.Ground.Unpacker+totL m.Ground.Pairs+totL m.Ground.Records+totL m.Ground.Files+totL s.2)+Enc.tot m.Space+totL m.Offered+totL m.Took:=rfl
 have h2:Enc.tot m=totL m.Plan+totL m.Ups+totL m.Downs+(totL m.Ground.Offers+Enc.tot m.Ground.Sender+Enc.tot m.Ground.Unpacker+totL m.Ground.Pairs+totL m.Ground.Records+totL m.Ground.Files+totL m.Ground.Told)+Enc.tot m.Space+totL m.Offered+totL m.Took:=rfl
 rw[h1,h2,totL_bools s.2,totL_bools m.Ground.Told,h];omega
def askNow(m:TMission):Bool:=missionOk m && (decide (m.Time % 20=0) && (decide ((m.Ground.Offers.length:Int)≤0) && decide ((m.Ground.Sender.Waiting.length:Int)≤0)))
def askMissing(m:TMission):TMission :=
 if askNow m=true then(if missionOk (tellM m (askFrom 0 m.Ground.Files (m.Ground.Offers,m.Ground.Told)))=true then tellM m (askFrom 0 m.Ground.Files (m.Ground.Offers,m.Ground.Told))else m)else m
theorem askMissing_tot(m:TMission):Enc.tot (askMissing m)≤24*Enc.tot m:=by
 have h0:=Enc.tot_nonneg m
 unfold askMissing
 split
 ·split
  ·rw[tellM_tot _ _ (askFrom_told _ _ _)]
   have h1:=askFrom_tot m.Ground.Files 0 (m.Ground.Offers,m.Ground.Told)
   have h2:=totL_len m.Ground.Files
   have h3:=(mbounds (m:=m) (Int.le_refl _)).2.2.1
   have h4:Enc.tot m.Ground=totL m.Ground.Offers+Enc.tot m.Ground.Sender+Enc.tot m.Ground.Unpacker+totL m.Ground.Pairs+totL m.Ground.Records+totL m.Ground.Files+totL m.Ground.Told:=rfl
   have:=totL_nonneg m.Ground.Offers;have:=Enc.tot_nonneg m.Ground.Sender;have:=Enc.tot_nonneg m.Ground.Unpacker;have:=totL_nonneg m.Ground.Pairs;have:=totL_nonneg m.Ground.Records;have:=totL_nonneg m.Ground.Told
   simp only at h1
   omega
  ·omega
 ·omega
def cM(m:TMission)(A:TMissionA):List Value:=(dMission m A)
theorem cM_len(m:TMission)(A:TMissionA):(cM m A).length=61:=rfl
theorem cM_one(m:TMission)(A:TMissionA):(cM m A).all (·.oneCell')=true:=rfl
structure Fld(α:Type)[E:Flat α] where
 off:Nat
 col:Nat
 get:TMission→List α
 set:TMission→List α→TMission
 ga:TMissionA→Option Addr
 gc:TMissionA→Nat
 sa:TMissionA→Option Addr→Nat→TMissionA
 own:∀ {B χ w A x},TMissionO B χ 0 w A x→OwnC B χ (col,0) w (ga A) (gc A) (get x)
 put:∀ {B χ w w2 A x a c l},TMissionO B χ 0 w A x→Fr B χ (·=(col,0)) w w2→OwnC B χ (col,0) w2 a c l→TMissionO B χ 0 w2 (sa A a c) (set x l)
 cell:∀ x A,(cM x A)[off]?=some (.slice (ga A) (get x).length (gc A))
 cells:∀ x A l a c,(cM x A).set off (.slice a l.length c)=cM (set x l) (sa A a c)
 lt:off<61
 clt:col<22
 eta:∀ A,sa A (ga A) (gc A)=A
def fGOffers:Fld ByteArray:=⟨16,3,(·.Ground.Offers),fun m l=>{ m with Ground.Offers:=l },(·.a3),(·.c3),fun A a c=>{ A with a3:=a,c3:=c },fun h=>h.o3,fun h f k=>h.put3 f k,fun _ _=>rfl,fun _ _ _ _ _=>rfl,by decide,by decide,fun _=>rfl⟩
def fGTold:Fld Bool:=⟨32,8,(·.Ground.Told),fun m l=>{ m with Ground.Told:=l },(·.a8),(·.c8),fun A a c=>{ A with a8:=a,c8:=c },fun h=>h.o8,fun h f k=>h.put8 f k,fun _ _=>rfl,fun _ _ _ _ _=>rfl,by decide,by decide,fun _=>rfl⟩
theorem Own.held{α:Type}{T size g B c:Nat}{w:World}{enc:α→List Value}{l:List α}(h:Own enc T size B w (some ⟨g,0,none⟩) c l):∃ cs:List Value,Held w g cs T∧l.length*size≤cs.length:=by
 obtain⟨hsz,-,⟨hv,hn0⟩|⟨g',cap,cur,hv,hB,hheap,hle,hmax,hcs,-⟩⟩:=h
 ·simp at hv
 ·simp only[Value.slice.injEq,Option.some.injEq,Addr.mk.injEq]at hv
  obtain⟨⟨rfl,-,-⟩,-,rfl⟩:=hv
  refine⟨cur.toList,by unfold Held;simpa using hheap,?_⟩
  rw[show cur.toList.length=cur.size by simp,hcs];exact Nat.mul_le_mul_right _ hle
def MB(X:Nat→Prop)(B b:Nat)(w:World)(A:TMissionA)(m:TMission):Prop :=
 ∃ χ:Nat→Col,Held w b (cM m A) 90∧TMissionO B χ 0 w A m∧1000≤(χ b).1∧Fresh χ w∧B≤b∧∀ k,X k→1000≤(χ k).1∧k≠b∧k<w.heap.size
def MBp{α:Type}[E:Flat α](F:Fld α)(X:Nat→Prop)(B b:Nat)(w:World)(A:TMissionA)(m:TMission)(l:List α)(a:Option Addr)(c:Nat):Prop :=
 ∃ χ:Nat→Col,Held w b (cM m A) 90∧TMissionO B χ 0 w (F.sa A a c) (F.set m l)∧1000≤(χ b).1∧Fresh χ w∧B≤b∧∀ k,X k→1000≤(χ k).1∧k≠b∧k<w.heap.size
section
variable {X:Nat→Prop} {B b:Nat} {w w':World} {A:TMissionA} {m:TMission}
theorem MB.held(h:MB X B b w A m):Held w b (cM m A) 90:=h.elim fun _ h=>h.1
theorem MB.le(h:MB X B b w A m):B≤b:=h.elim fun _ h=>h.2.2.2.2.1
theorem MB.lt(h:MB X B b w A m):b<w.heap.size:=h.held.lt
theorem MB.f(h:MB X B b w A m):TMissionF B w A m:=h.elim fun _ h=>h.2.1.f
theorem MB.rd(h:MB X B b w A m):Enc.Rd B w (cM m A) m:=⟨A,rfl,h.f⟩
theorem MB.o(h:MB X B b w A m):∃ χ,EncO.O B χ 0 w (cM m A) m:=h.elim fun χ h=>⟨χ,A,rfl,h.2.1⟩
theorem MB.to(h:MB X B b w A m)(g:Grows w w'):MB X B b w' A m :=
 h.elim fun χ h=>⟨χ,h.1.to g,h.2.1.to g,h.2.2.1,h.2.2.2.1.mono g.out.size,h.2.2.2.2.1,fun k hk=>⟨(h.2.2.2.2.2 k hk).1,(h.2.2.2.2.2 k hk).2.1,Nat.lt_of_lt_of_le (h.2.2.2.2.2 k hk).2.2 g.out.size⟩⟩
theorem MB.keep(h:MB X B b w A m)(g:Keeps B w w'):MB X B b w' A m :=
 h.elim fun χ h=>⟨χ,by have h1:=h.1;unfold Held at h1 ⊢;rw[g.block b h.2.2.2.2.1 h.1.lt];exact h1,h.2.1.keep g,h.2.2.1,h.2.2.2.1.mono g.size,h.2.2.2.2.1,fun k hk=>⟨(h.2.2.2.2.2 k hk).1,(h.2.2.2.2.2 k hk).2.1,Nat.lt_of_lt_of_le (h.2.2.2.2.2 k hk).2.2 g.size⟩⟩
theorem MB.mono{B':Nat}(h:MB X B b w A m)(g:B'≤B):MB X B' b w A m :=
 h.elim fun χ h=>⟨χ,h.1,h.2.1.mono g,h.2.2.1,h.2.2.2.1,Nat.le_trans g h.2.2.2.2.1,h.2.2.2.2.2⟩
theorem MB.of{χ:Nat→Col}{u z:World}{vs:List Value}(h:EncO.O B χ 0 u vs m)(k:Keeps 0 u z)(hB:B≤u.heap.size)(H:Held z u.heap.size vs 90):∃ A,vs=cM m A∧MB (fun _=>False) B u.heap.size z A m:=by
 obtain⟨A,rfl,h1⟩:=om_old (U:=u.heap.size) h (Nat.le_refl _)
 exact⟨A,rfl,_,H,h1.keep (k.more (Nat.zero_le _)),by rw[paint,if_neg (Nat.lt_irrefl _)];exact Nat.le_refl _,freshU k.size,hB,fun _ h=>h.elim⟩
variable {α:Type} [E:Flat α] {F:Fld α} {l:List α} {a:Option Addr} {c:Nat}
theorem MB.own(F:Fld α)(h:MB X B b w A m):Own E.enc E.ty E.size B w (F.ga A) (F.gc A) (F.get m):=h.elim fun _ h=>(F.own h.2.1).own
theorem MB.good(F:Fld α)(h:MB X B b w A m):∀ x∈F.get m,E.good x:=h.elim fun _ h=>(F.own h.2.1).good
theorem MB.fr{χ:Nat→Col}{i:Col}(hF:Fr B χ (·=i) w w')(hi:i.1<1000){k:Nat}(hk:1000≤(χ k).1)(hl:k<w.heap.size):w'.heap[k]?=w.heap[k]? :=
 hF.block k hl fun e=>by have:=e.2;rw[this]at hk;omega
theorem MBp.app{n:Nat}{u W W2:World}{p:α}{sa:Option Addr}{sc:Nat}(h:MB X B b u A m)(g:Grows u W)(hown:Own E.enc E.ty E.size B W2 sa sc (F.get m++[p]))(hgr:W.grownBy W2 (Value.ownBlock (.slice (F.ga A) n (F.gc A))))
  (hblk:blkOf sa=blkOf (F.ga A)∨blkOf sa=some W.heap.size) (hg:E.good p):MBp F X B b W2 A m (F.get m++[p]) sa sc∧∀ k,X k→W2.heap[k]?=W.heap[k]?:=by
 obtain⟨χ,h1,h2,h3,h4,h5,h6⟩:=h.to g
 have hO:=F.own h2
 have hF:=hO.wrote hgr
 have hc:=F.clt
 have hlt:=h1.lt
 have hs:=hF.size
 have hX:∀ k,X k→W2.heap[k]?=W.heap[k]?:=fun k hk=>MB.fr hF (by show F.col<1000;omega) (h6 k hk).1 (h6 k hk).2.2
 have hp:∀ k,k<W.heap.size→paint W2.heap.size (paint W.heap.size χ (fun _=>(F.col,0)) id) (fun _=>(0,0)) (fun _=>(1000,0)) k=χ k:=fun k hk=>by rw[paint,if_pos (by omega),paint,if_pos hk]
 refine⟨⟨paint W2.heap.size (paint W.heap.size χ (fun _=>(F.col,0)) id) (fun _=>(0,0)) (fun _=>(1000,0)),?_,?_,?_,freshU (Nat.le_refl _),h5,fun k hk=>⟨?_,(h6 k hk).2.1,Nat.lt_of_lt_of_le (h6 k hk).2.2 hs⟩⟩,hX⟩
 ·unfold Held at h1 ⊢
  rw[MB.fr hF (by show F.col<1000;omega) h3 hlt];exact h1
 ·exact TMissionO.old (F.put (h2.old (Nat.le_refl _)) (hF.old (Nat.le_refl _)) (hO.app hown hblk hg)) (Nat.le_refl _)
 ·rw[hp b hlt];exact h3
 ·rw[hp k (h6 k hk).2.2];exact(h6 k hk).1
theorem MBp.held(h:MBp F X B b w A m l a c):Held w b (cM m A) 90:=h.elim fun _ h=>h.1
theorem MBp.le(h:MBp F X B b w A m l a c):B≤b:=h.elim fun _ h=>h.2.2.2.2.1
theorem box_fr{χ:Nat→Col}{A':TMissionA}{m':TMission}(h:TMissionO B χ 0 w A' m')(hc:1000≤(χ b).1)(hB:B≤b)(g:w.grownBy w' (some b)):TMissionO B χ 0 w' A' m' :=
 h.fr (C:=fun i=>i=χ b) ⟨g.os,g.tape,g.output,g.size,fun k hk hn=>g.block k hk (fun e=>hn (by cases e;exact⟨hB,rfl⟩))⟩ (fun j k _ h2 e=>by rw[← e]at hc;simp only at hc;omega)
theorem MBp.stored(h:MBp F X B b w A m l a c)(H:Held w' b ((cM m A).set F.off (.slice a l.length c)) 90)(g:w.grownBy w' (some b)):MB X B b w' (F.sa A a c) (F.set m l)∧∀ k,X k→w'.heap[k]?=w.heap[k]?:=by
 obtain⟨χ,h1,h2,h3,h4,h5,h6⟩:=h
 rw[F.cells]at H
 exact⟨⟨χ,H,box_fr h2 h3 h5 g,h3,h4.mono g.size,h5,fun k hk=>⟨(h6 k hk).1,(h6 k hk).2.1,Nat.lt_of_lt_of_le (h6 k hk).2.2 g.size⟩⟩,fun k hk=>g.block k (h6 k hk).2.2 (fun e=>(h6 k hk).2.1 (by cases e;rfl))⟩
theorem set_sameV{l:List Value}{i:Nat}{v:Value}(h:l[i]?=some v):l.set i v=l:=by
 obtain⟨hi,rfl⟩:=List.getElem?_eq_some_iff.1 h
 exact List.set_getElem_self hi
theorem MB.put1{n c2:Nat}(h:MB X B b w A m)(hown:Own E.enc E.ty E.size B w' (F.ga A) (F.gc A) l)(hl:l.length=(F.get m).length)(hg:∀ x∈l,E.good x)(g:w.grownBy w' (Value.ownBlock (.slice (F.ga A) n c2))):MB X B b w' A (F.set m l)∧∀ k,X k→w'.heap[k]?=w.heap[k]?:=by
 obtain⟨χ,h1,h2,h3,h4,h5,h6⟩:=h
 have hO:=F.own h2
 have hF:=hO.wrote g
 have hc:=F.clt
 have hX:∀ k,X k→w'.heap[k]?=w.heap[k]?:=fun k hk=>MB.fr hF (by show F.col<1000;omega) (h6 k hk).1 (h6 k hk).2.2
 have hP:=F.put h2 hF ⟨hown,hO.col,hg⟩
 have hC:cM (F.set m l) A=cM m A:=by
  have e1:=F.cells m A l (F.ga A) (F.gc A)
  rw[F.eta]at e1
  rw[← e1,hl]
  exact set_sameV (F.cell m A)
 rw[F.eta]at hP
 refine⟨⟨χ,?_,hP,h3,h4.mono g.size,h5,fun k hk=>⟨(h6 k hk).1,(h6 k hk).2.1,Nat.lt_of_lt_of_le (h6 k hk).2.2 g.size⟩⟩,hX⟩
 rw[hC]
 have hlt:=h1.lt
 unfold Held at h1 ⊢
 rw[MB.fr hF (by show F.col<1000;omega) h3 hlt];exact h1
end
section
variable {P:Program} {ops:Array Oper} {rest:List Oper} {op:Oper} {a:Act} {w w0:World} {Q:Exit→Act→World→Prop} {X:Nat→Prop} {B b:Nat} {A:TMissionA} {m:TMission} {α:Type} [E:Flat α] {F:Fld α} {l:List α}
theorem step_mbS{sa:Option Addr}{sc:Nat}(hgd:op.guard=none)(ty:TypeId)(x y:Operand)(ho:op.op=.store ty x y)(h:MBp F X B b w A m l sa sc)(hx:a.eval x=.pointer (some ⟨b,F.off,none⟩))(hv:a.eval y=.slice sa l.length sc)(hi:(P.info? ty).map (·.size)=some 1)
  (g:Grows w0 w) (hb:w0.heap.size≤B) (K:∀ z:Later w0,MB X B b z.w (F.sa A sa sc) (F.set m l)→(∀ k,X k→z.w.heap[k]?=w.heap[k]?)→wpList P ops Q rest (a.put op.dst undef) z.w):wpList P ops Q (op::rest) a w :=
 stepStore2 hgd ty x y ho b F.off hx h.held (us:=[.slice sa l.length sc]) (cs2:=(cM m A).set F.off (.slice sa l.length sc)) (by rw[hv];rfl) hi rfl (by have:=F.lt;rw[cM_len];simp;omega) rfl g (Nat.le_trans hb h.le) fun z hz hk =>
  K z (h.stored hz (hk.grown1 g)).1 (h.stored hz (hk.grown1 g)).2
theorem step_mbE{q j:Nat}{y0:α}{v0:Value}(hgd:op.guard=none)(ty:TypeId)(x y:Operand)(ho:op.op=.store ty x y)(F:Fld α)(h:MB X B b w A m)(hga:F.ga A=some ⟨q,0,none⟩)(hsz:E.size=1)(hx:a.eval x=.pointer (some ⟨q,j,none⟩))(hv:(a.eval y).cells.toList=[v0])(hi:(P.info? ty).map (·.size)=some 1)(h1:v0.oneCell'=true)
  (hj:j<(F.get m).length) (hy:E.enc y0=[v0]) (hg:E.good y0) (g:Grows w0 w) (hb:w0.heap.size≤B) (K:∀ z:Later w0,MB X B b z.w A (F.set m ((F.get m).set j y0))→(∀ k,X k→z.w.heap[k]?=w.heap[k]?)→wpList P ops Q rest (a.put op.dst undef) z.w):wpList P ops Q (op::rest) a w:=by
 have hO:=h.own F
 rw[hga]at hO
 obtain⟨cs,hH,hc⟩:=hO.held
 refine wpList_plain hgd fun _ hK=>?_
 unfold Oper.wp execOp
 simp only[ho,hx,Instr.storeAt,Instr.sureAddr,Sem.run_bind,Sem.run_pure,Result.andThen_ok,run_storeVar_held hv (hH.there (o:=j) (n:=1) (by rw[hsz]at hc;omega)) hi (fun u hu=>by simp at hu;subst hu;exact h1)]
 have hO1:Own E.enc E.ty 1 B w (some ⟨q,0,none⟩) (F.gc A) (F.get m):=hsz▸hO
 obtain⟨p1,p2⟩:=hO1.put1 hj hy
 have p1':Own E.enc E.ty E.size B (w.setCell ⟨q,j,none⟩ v0) (F.ga A) (F.gc A) ((F.get m).set j y0):=by rw[hga,hsz];exact p1
 have hq:B≤q:=(hO.blk q rfl).1
 have r:=h.put1 (F:=F) (n:=(F.get m).length) (c2:=F.gc A) p1' (by simp) (fun x hx=>by
  rcases List.mem_or_eq_of_mem_set hx with hx|rfl
  ·exact h.good F x hx
  ·exact hg) (by rw[ownBlock_eq,hga];exact p2)
 exact hK _ _ (K ⟨_,g.out.setCell (Nat.le_trans hb hq) v0⟩ r.1 r.2)
end
theorem take_snoc{α:Type}{l r:List α}{k:Nat}{s:α}(h:l.drop k=s::r):l.take (k+1)=l.take k++[s]:=by
 have h0:=congrArg (fun m=>m[0]?) h
 simp only[List.getElem?_drop,Nat.add_zero,List.getElem?_cons_zero]at h0
 rw[List.take_add_one,h0];rfl
theorem ask_len{m:TMission}(h:missionOk m=true):m.Ground.Files.length=8∧m.Ground.Told.length=8:=by
 simp only[missionOk,Bool.and_eq_true]at h
 have g:=h.2.2.2.2.2.2.2.2.2.2.1
 simp only[groundOk,Bool.and_eq_true,beq_iff_eq]at g
 have g1:=g.2.2.2.2.2.2.2.2.1
 have g2:=g.2.2.2.2.2.2.2.2.2.1
 omega
def askSt(m:TMission)(k:Nat):List ByteArray × List Bool:=askFrom 0 (m.Ground.Files.take k) (m.Ground.Offers,m.Ground.Told)
theorem askSt_next{m:TMission}{k:Nat}{f:TFileIn}{r:List TFileIn}(h:m.Ground.Files.drop k=f::r):askSt m (k+1)=askStep k f (askSt m k):=by
 have hk:k<m.Ground.Files.length:=by
  have:=congrArg List.length h
  simp at this;omega
 rw[askSt,take_snoc h,askFrom_snoc,List.length_take,Nat.min_eq_left (by omega),Nat.zero_add];rfl
theorem askSt_told(m:TMission)(k:Nat):(askSt m k).2.length=m.Ground.Told.length:=askFrom_told _ _ _
theorem askSt_tot(m:TMission)(k:Nat):totL (askSt m k).1≤totL m.Ground.Offers+23*m.Ground.Files.length:=by
 have:=askFrom_tot (m.Ground.Files.take k) 0 (m.Ground.Offers,m.Ground.Told)
 have h:(m.Ground.Files.take k).length≤m.Ground.Files.length:=by simp;omega
 simp only at this
 unfold askSt;omega
theorem ask_parts{m:TMission}{f:TFileIn}(ht:Enc.tot m≤4000000)(hf:f∈m.Ground.Files):f.Parts.length≤100000000∧∀ s∈f.Parts,s.size≤100000000:=by
 have h1:=totL_mem hf
 have h2:Enc.tot m.Ground=totL m.Ground.Offers+Enc.tot m.Ground.Sender+Enc.tot m.Ground.Unpacker+totL m.Ground.Pairs+totL m.Ground.Records+totL m.Ground.Files+totL m.Ground.Told:=rfl
 have h3:=(mbounds ht).2.2.1
 have:=totL_nonneg m.Ground.Offers;have:=Enc.tot_nonneg m.Ground.Sender;have:=Enc.tot_nonneg m.Ground.Unpacker;have:=totL_nonneg m.Ground.Pairs;have:=totL_nonneg m.Ground.Records;have:=totL_nonneg m.Ground.Told
 have h4:Enc.tot f=totL f.Parts:=rfl
 have h5:=totL_len f.Parts
 refine⟨by omega,fun s hs=>?_⟩
 have h6:=totL_mem hs
 have h7:Enc.tot s=(s.size:Int):=rfl
 omega
theorem ask_offers{m:TMission}(ht:Enc.tot m≤4000000)(k:Nat):(askSt m k).1.length≤1000000000:=by
 have h1:=askSt_tot m k
 have h2:Enc.tot m.Ground=totL m.Ground.Offers+Enc.tot m.Ground.Sender+Enc.tot m.Ground.Unpacker+totL m.Ground.Pairs+totL m.Ground.Records+totL m.Ground.Files+totL m.Ground.Told:=rfl
 have h3:=(mbounds ht).2.2.1
 have:=totL_nonneg m.Ground.Offers;have:=Enc.tot_nonneg m.Ground.Sender;have:=Enc.tot_nonneg m.Ground.Unpacker;have:=totL_nonneg m.Ground.Pairs;have:=totL_nonneg m.Ground.Records;have:=totL_nonneg m.Ground.Files;have:=totL_nonneg m.Ground.Told
 have h4:=totL_len (askSt m k).1;have h5:=totL_len m.Ground.Files
 omega
theorem ask_w{k n:Nat}(h:k<n)(h8:n=8):wrap64 ((k:Int)+1)=((k+1:Nat):Int):=by unfold wrap64;omega
theorem ask_m{k n:Nat}(h:k<n):((n:Int) - intOf (.int .i64 ((k+1:Nat):Int))).toNat<((n:Int) - intOf (.int .i64 (k:Int))).toNat:=by simp only[intOf];omega
theorem missGo_len:∀ (p:List ByteArray) (i cnt:Nat),(missGo i cnt p).length≤p.length
 | [],i,cnt=>by simp[missGo]
 | s::r,i,cnt=>by
  have h1:=missGo_len r (i+1) cnt
  have h2:=missGo_len r (i+1) (cnt - 1)
  rw[missGo]
  repeat' split
  all_goals simp only[List.length_cons,List.length_nil]
  all_goals omega
theorem ask_miss(f:TFileIn)(h:f.Parts.length≤100000000):(missL f.File f.Size f.Check f.Parts).length≤1000000000:=by
 unfold missL
 split
 ·have h1:=missGo_len (segsIn f.Size f.Parts) 0 20
  have h2:(segsIn f.Size f.Parts).length≤f.Parts.length:=by unfold segsIn;simp;omega
  omega
 ·simp
theorem ask_offer{m:TMission}{k:Nat}{f:TFileIn}{wf b:Bool}{r:List TFileIn}(hd:m.Ground.Files.drop k=f::r)(hw:wholeF f=wf)(hb:(askSt m k).2.getD k false=b)(h:(wf && !b)=false)(hm:0<(missL f.File f.Size f.Check f.Parts).length):tellM m (askSt m (k+1))=fGOffers.set (tellM m (askSt m k)) ((askSt m k).1++[wordN 1 1++encMiss k (missL f.File f.Size f.Check f.Parts)]):=by
 rw[askSt_next hd,askStep,hw,hb,if_neg (by rw[h];decide),if_pos (show(0:Int)<(missF f).length by unfold missF;omega)];rfl
theorem ask_same{m:TMission}{k:Nat}{f:TFileIn}{wf b:Bool}{r:List TFileIn}(hd:m.Ground.Files.drop k=f::r)(hw:wholeF f=wf)(hb:(askSt m k).2.getD k false=b)(h:(wf && !b)=false)(hm:¬ 0<(missL f.File f.Size f.Check f.Parts).length):tellM m (askSt m (k+1))=tellM m (askSt m k):=by
 rw[askSt_next hd,askStep,hw,hb,if_neg (by rw[h];decide),if_neg (show ¬ (0:Int)<(missF f).length by unfold missF;omega)]
theorem ask_tot{m:TMission}(ht:Enc.tot m≤4000000):Enc.tot (tellM m (askFrom 0 m.Ground.Files (m.Ground.Offers,m.Ground.Told)))≤100000000:=by
 rw[tellM_tot _ _ (askFrom_told _ _ _)]
 have h1:=askFrom_tot m.Ground.Files 0 (m.Ground.Offers,m.Ground.Told)
 have h2:=totL_len m.Ground.Files
 have h3:=(mbounds ht).2.2.1
 have h4:Enc.tot m.Ground=totL m.Ground.Offers+Enc.tot m.Ground.Sender+Enc.tot m.Ground.Unpacker+totL m.Ground.Pairs+totL m.Ground.Records+totL m.Ground.Files+totL m.Ground.Told:=rfl
 have:=totL_nonneg m.Ground.Offers;have:=Enc.tot_nonneg m.Ground.Sender;have:=Enc.tot_nonneg m.Ground.Unpacker;have:=totL_nonneg m.Ground.Pairs;have:=totL_nonneg m.Ground.Records;have:=totL_nonneg m.Ground.Told
 simp only at h1
 omega
theorem pay_le(k:Int)(l:List Int):(wordN 1 1).size+(encMiss k l).size≤9223372036854775807:=by
 have h:(wordN 1 1++encMiss k l).size≤22:=payMiss_size k l
 rw[ByteArray.size_append]at h
 omega
theorem pay_good(k:Int)(l:List Int):Flat.good (wordN 1 1++encMiss k l):=by
 have h:(wordN 1 1++encMiss k l).size≤22:=payMiss_size k l
 show _≤_
 omega
theorem ask_tell{m:TMission}{k:Nat}{f:TFileIn}{wf b:Bool}{r:List TFileIn}(hd:m.Ground.Files.drop k=f::r)(hw:wholeF f=wf)(hb:(askSt m k).2.getD k false=b)(h:(wf && !b)=true):tellM m (askSt m (k+1))=fGTold.set (fGOffers.set (tellM m (askSt m k)) ((askSt m k).1++[wordN 1 1++encMiss k []])) ((askSt m k).2.set k true):=by
 rw[askSt_next hd,askStep,hw,hb,if_pos h];rfl
theorem ask_cases(m:TMission):(askNow m=false∧((missionOk m=false∧True∧True∧True)∨(missionOk m=true∧¬ Int.tmod m.Time 20=0∧True∧True)∨(missionOk m=true∧Int.tmod m.Time 20=0∧0<m.Ground.Offers.length∧True)∨(missionOk m=true∧Int.tmod m.Time 20=0∧¬ 0<m.Ground.Offers.length∧0<m.Ground.Sender.Waiting.length))) ∨
  (askNow m=true∧missionOk m=true∧Int.tmod m.Time 20=0∧¬ 0<m.Ground.Offers.length∧¬ 0<m.Ground.Sender.Waiting.length):=by
 cases h1:missionOk m
 ·exact .inl ⟨by unfold askNow;rw[h1];rfl,.inl ⟨rfl,trivial,trivial,trivial⟩⟩
 have hti:0≤m.Time:=by unfold missionOk at h1;rw[Bool.and_eq_true]at h1;exact(inB_iff.1 h1.1).1
 rw[Int.tmod_eq_emod_of_nonneg hti]
 by_cases h2:m.Time % 20=0
 ·by_cases h3:(m.Ground.Offers.length:Int)≤0
  ·by_cases h4:(m.Ground.Sender.Waiting.length:Int)≤0
   ·exact .inr ⟨by simp only[askNow,h1,h2,decide_true,Bool.true_and,decide_eq_true h3,decide_eq_true h4],rfl,h2,by omega,by omega⟩
   ·exact .inl ⟨by unfold askNow;rw[decide_eq_false h4];simp,.inr (.inr (.inr ⟨rfl,h2,by omega,by omega⟩))⟩
  ·exact .inl ⟨by unfold askNow;rw[decide_eq_false h3];simp,.inr (.inr (.inl ⟨rfl,h2,by omega,trivial⟩))⟩
 ·exact .inl ⟨by unfold askNow;rw[decide_eq_false h2];simp,.inr (.inl ⟨rfl,h2,trivial,trivial⟩)⟩
theorem ask_no{m:TMission}(h:askNow m=false):askMissing m=m:=by unfold askMissing;rw[h];rfl
end Go.Proofs.YtgmikiidcpbjbaaGreat
