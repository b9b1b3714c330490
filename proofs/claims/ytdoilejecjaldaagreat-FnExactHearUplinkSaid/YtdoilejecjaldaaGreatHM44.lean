/- A mission's marks, and what is held. No condition but on sizes. -/
import Derived.Test.YtdoilejecjaldaaGreatHM41
import Derived.Test.YtdoilejecjaldaaGreatHMk5
import Derived.Test.YtdoilejecjaldaaGreatHPut
import Derived.Test.YtdoilejecjaldaaGreatHLto3
import Derived.Test.YtdoilejecjaldaaGreatHM6
import Derived.Test.YtdoilejecjaldaaGreatHFileO
import Derived.Test.YtdoilejecjaldaaGreatHM15
import Derived.Test.YtdoilejecjaldaaGreatHOkB
import Derived.Test.YtdoilejecjaldaaGreatHM26
import Derived.Test.YtdoilejecjaldaaGreatHM31
import Derived.Test.YtdoilejecjaldaaGreatHOkBs
import Derived.Test.YtdoilejecjaldaaGreatHCopyS
import Derived.Test.YtdoilejecjaldaaGreatHRcvL
import Derived.Test.YtdoilejecjaldaaGreatHHearM
import Derived.Test.YtdoilejecjaldaaGreatHStepH
import Derived.Test.YtdoilejecjaldaaGreatHWholeL
import Derived.Test.YtdoilejecjaldaaGreatHOwnF
import Derived.Deep.CutRange
import Derived.Test.YtdoilejecjaldaaGreatHM22
import Derived.Test.YtdoilejecjaldaaGreatHM0
import Derived.Test.YtdoilejecjaldaaGreatHOwnC
namespace Go.Proofs.YtdoilejecjaldaaGreat
set_option maxRecDepth 100000
set_option maxHeartbeats 4000000
set_option linter.unusedVariables false
open Go.ChangeShapes Go.WideShapes Go.ChangeAt Go.RowKit
theorem bj8(m:f5)(k:Int)(A:I9):([.int .i64 (f9 m k).Time,.int .i64 (f9 m k).Light,.int .i64 (f9 m k).Drift.Rate,.int .i64 (f9 m k).Drift.Offset,.int .i64 (f9 m k).Orbit.Period,.int .i64 (f9 m k).Orbit.Start,.int .i64 (f9 m k).Orbit.Length,.slice A.a0 (f9 m k).Plan.length A.c0,.int .i64 (f9 m k).Up.Seed,.int .i64 (f9 m k).Up.Burst,.int .i64 (f9 m k).Up.Loss,.int .i64 (f9 m k).Down.Seed,.int .i64 (f9 m k).Down.Burst,.int .i64 (f9 m k).Down.Loss,.slice A.a1 (f9 m k).Ups.length A.c1,.slice A.a2 (f9 m k).Downs.length A.c2,.slice A.a3 (f9 m k).Ground.Offers.length A.c3,.int .i64 (f9 m k).Ground.Sender.Next,.int .i64 (f9 m k).Ground.Sender.Window,.slice A.a4 (f9 m k).Ground.Sender.Waiting.length A.c4,.int .i64 (f9 m k).Ground.Sender.Done,.int .i64 (f9 m k).Ground.Notice.Expect,.bool (f9 m k).Ground.Notice.Locked,.bool (f9 m k).Ground.Notice.Again,.int .i64 (f9 m k).Ground.Unpacker.Channel,.int .i64 (f9 m k).Ground.Unpacker.Next,.bool (f9 m k).Ground.Unpacker.Synced,.string (f9 m k).Ground.Unpacker.Rest,.int .i64 (f9 m k).Ground.Unpacker.Lost,.slice A.a5 (f9 m k).Ground.Pairs.length A.c5,.slice A.a6 (f9 m k).Ground.Records.length A.c6,.slice A.a7 (f9 m k).Ground.Files.length A.c7,.slice A.a8 (f9 m k).Ground.Told.length A.c8,.int .i64 (f9 m k).Space.Receiver.Expect,.bool (f9 m k).Space.Receiver.Locked,.bool (f9 m k).Space.Receiver.Again,.int .i64 (f9 m k).Space.Receiver.Taken,.int .i64 (f9 m k).Space.Board.Clock,.slice A.a9 (f9 m k).Space.Board.Params.length A.c9,.bool (f9 m k).Space.Board.Safe,.slice A.a10 (f9 m k).Space.Board.Limits.length A.c10,.slice A.a11 (f9 m k).Space.Board.Orders.length A.c11,.slice A.a12 (f9 m k).Space.Board.Done.length A.c12,.int .i64 (f9 m k).Space.Board.Recorder.Room,.slice A.a13 (f9 m k).Space.Board.Recorder.Records.length A.c13,.slice A.a14 (f9 m k).Space.Board.Recorder.Dropped.length A.c14,.int .i64 (f9 m k).Space.Board.Made,.int .i64 (f9 m k).Space.Board.Taken,.slice A.a15 (f9 m k).Space.Board.Asked.length A.c15,.int .i64 (f9 m k).Space.Packer.Channel,.int .i64 (f9 m k).Space.Packer.Count,.string (f9 m k).Space.Packer.Rest,.slice A.a16 (f9 m k).Space.Packer.Starts.length A.c16,.int .i64 (f9 m k).Space.Seq,.slice A.a17 (f9 m k).Space.Files.length A.c17,.slice A.a18 (f9 m k).Space.Outs.length A.c18,.int .i64 (f9 m k).Space.Begun,.slice A.a19 (f9 m k).Space.Sent.length A.c19,.slice A.a20 (f9 m k).Offered.length A.c20,.slice A.a21 (f9 m k).Took.length A.c21,.int .i64 (f9 m k).Bad]:List Value)=[.int .i64 m.Time,.int .i64 m.Light,.int .i64 m.Drift.Rate,.int .i64 m.Drift.Offset,.int .i64 m.Orbit.Period,.int .i64 m.Orbit.Start,.int .i64 m.Orbit.Length,.slice A.a0 m.Plan.length A.c0,.int .i64 m.Up.Seed,.int .i64 m.Up.Burst,.int .i64 m.Up.Loss,.int .i64 m.Down.Seed,.int .i64 m.Down.Burst,.int .i64 m.Down.Loss,.slice A.a1 m.Ups.length A.c1,.slice A.a2 m.Downs.length A.c2,.slice A.a3 m.Ground.Offers.length A.c3,.int .i64 m.Ground.Sender.Next,.int .i64 m.Ground.Sender.Window,.slice A.a4 m.Ground.Sender.Waiting.length A.c4,.int .i64 m.Ground.Sender.Done,.int .i64 m.Ground.Notice.Expect,.bool m.Ground.Notice.Locked,.bool m.Ground.Notice.Again,.int .i64 m.Ground.Unpacker.Channel,.int .i64 m.Ground.Unpacker.Next,.bool m.Ground.Unpacker.Synced,.string m.Ground.Unpacker.Rest,.int .i64 m.Ground.Unpacker.Lost,.slice A.a5 m.Ground.Pairs.length A.c5,.slice A.a6 m.Ground.Records.length A.c6,.slice A.a7 m.Ground.Files.length A.c7,.slice A.a8 m.Ground.Told.length A.c8,.int .i64 m.Space.Receiver.Expect,.bool m.Space.Receiver.Locked,.bool m.Space.Receiver.Again,.int .i64 m.Space.Receiver.Taken,.int .i64 m.Space.Board.Clock,.slice A.a9 m.Space.Board.Params.length A.c9,.bool m.Space.Board.Safe,.slice A.a10 m.Space.Board.Limits.length A.c10,.slice A.a11 m.Space.Board.Orders.length A.c11,.slice A.a12 m.Space.Board.Done.length A.c12,.int .i64 m.Space.Board.Recorder.Room,.slice A.a13 m.Space.Board.Recorder.Records.length A.c13,.slice A.a14 m.Space.Board.Recorder.Dropped.length A.c14,.int .i64 m.Space.Board.Made,.int .i64 m.Space.Board.Taken,.slice A.a15 m.Space.Board.Asked.length A.c15,.int .i64 m.Space.Packer.Channel,.int .i64 m.Space.Packer.Count,.string m.Space.Packer.Rest,.slice A.a16 m.Space.Packer.Starts.length A.c16,.int .i64 m.Space.Seq,.slice A.a17 m.Space.Files.length A.c17,.slice A.a18 m.Space.Outs.length A.c18,.int .i64 m.Space.Begun,.slice A.a19 m.Space.Sent.length A.c19,.slice A.a20 m.Offered.length A.c20,.slice A.a21 m.Took.length A.c21,.int .i64 m.Bad]:=by
 have e0:(f9 m k).Plan.length=m.Plan.length:=J3 _ _
 have e1:(f9 m k).Ups.length=m.Ups.length:=J3 _ _
 have e2:(f9 m k).Downs.length=m.Downs.length:=J3 _ _
 have e3:(f9 m k).Ground.Offers.length=m.Ground.Offers.length:=J3 _ _
 have e4:(f9 m k).Ground.Sender.Waiting.length=m.Ground.Sender.Waiting.length:=J3 _ _
 have e5:(f9 m k).Ground.Pairs.length=m.Ground.Pairs.length:=J3 _ _
 have e6:(f9 m k).Ground.Records.length=m.Ground.Records.length:=J3 _ _
 have e7:(f9 m k).Ground.Files.length=m.Ground.Files.length:=at0 _ _ _ _
 have e8:(f9 m k).Ground.Told.length=m.Ground.Told.length:=J3 _ _
 have e9:(f9 m k).Space.Board.Params.length=m.Space.Board.Params.length:=J3 _ _
 have e10:(f9 m k).Space.Board.Limits.length=m.Space.Board.Limits.length:=J3 _ _
 have e11:(f9 m k).Space.Board.Orders.length=m.Space.Board.Orders.length:=J3 _ _
 have e12:(f9 m k).Space.Board.Done.length=m.Space.Board.Done.length:=J3 _ _
 have e13:(f9 m k).Space.Board.Recorder.Records.length=m.Space.Board.Recorder.Records.length:=J3 _ _
 have e14:(f9 m k).Space.Board.Recorder.Dropped.length=m.Space.Board.Recorder.Dropped.length:=J3 _ _
 have e15:(f9 m k).Space.Board.Asked.length=m.Space.Board.Asked.length:=J3 _ _
 have e16:(f9 m k).Space.Packer.Starts.length=m.Space.Packer.Starts.length:=J3 _ _
 have e17:(f9 m k).Space.Files.length=m.Space.Files.length:=J3 _ _
 have e18:(f9 m k).Space.Outs.length=m.Space.Outs.length:=at0 _ _ _ _
 have e19:(f9 m k).Space.Sent.length=m.Space.Sent.length:=J3 _ _
 have e20:(f9 m k).Offered.length=m.Offered.length:=J3 _ _
 have e21:(f9 m k).Took.length=m.Took.length:=J3 _ _
 rw[e0,e1,e2,e3,e4,e5,e6,e7,e8,e9,e10,e11,e12,e13,e14,e15,e16,e17,e18,e19,e20,e21]
 rfl
theorem bH7{B:Nat}{χ:Nat→Col}{w:World}{vs:List Value}{m:f5}{k:Int}(h:R8.O B χ 0 w vs m)(hf:ap5 χ w)(hB:B≤w.heap.size)(ht:Enc.tot m≤100000000)(h1:0≤k)(h2:k≤100000000000) :
  Calls Tryz.prog 9 #[.agg vs.toArray,.int .i64 k] w (Mkd (af8 m k) (fun w2=>R8.O B χ 0 w2 vs (f9 m k)) (Fr B χ (Rng 0 22) w)):=by
 obtain⟨A,rfl,F⟩:=h
 refine(bc9 F hf hB (by omega) ht h1 h2).mono fun e w2 hq=>?_
 obtain⟨he,ho,hr⟩:=hq
 exact⟨he,⟨A,(bj8 m k A).symm,ho⟩,by simpa using hr⟩
theorem bH6{B:Nat}{w:World}{vs:List Value}{m:f5}{k:Int}(h:Enc.Rd B w vs (f9 m k))(ht:Enc.tot m≤100000000)(h1:0≤k)(h2:k≤100000000000) :
  Calls Tryz.prog 10 #[.agg vs.toArray,.int .i64 k] w (b4 w (.int .i64 (af8 m k))):=by
 obtain⟨A,rfl,F⟩:=h
 rw[bj8 m k A]
 exact bc6 F ht h1 h2
theorem ax9{B:Nat}{vs:List Value}{x:f5}{w:World}(h:Enc.Rd B w vs x)(ht:Enc.tot x≤1048576) :
  Calls Tryz.prog 6 #[.agg vs.toArray] w (ah3 w x):=(aN6 h ht).mono fun _ _ g=>U0.d g
theorem bO0{B U o:Nat}{χ:Nat→Col}{w:World}{vs:List Value}{m:f5}(h:R8.O B χ o w vs m)(g:w.heap.size≤U):R8.O B (E9 U χ (fun _=>(0,0)) (fun _=>(1000,0))) o w vs m:=by
 obtain⟨A,h0,h1⟩:=h
 exact⟨A,h0,h1.old g⟩
theorem i9.past{u W z:World}{b c:Nat}{cs:List Value}{T:TypeId}(h:i9 u c cs T)(g:b8 0 u W)(k:But b W z)(hb:u.heap.size≤b):i9 z c cs T:=by
 have hl:=h.lt
 unfold i9
 rw[k.block c (by omega) (Nat.lt_of_lt_of_le hl g.size),g.block c (Nat.zero_le _) hl];exact h
theorem bH1{W:World}(x y:b5 W)(h:b8 0 x.w y.w):d5 x.w y.w :=
 ⟨⟨y.h.os.trans x.h.os.symm,y.h.tape.trans x.h.tape.symm,y.h.output.trans x.h.output.symm,h.size,fun b hb=>h.block b (Nat.zero_le _) hb⟩⟩
theorem S9{a b c:World}(h:d5 a b)(k:d5 b c):d5 a c:=⟨h.out.trans (k.out.mono h.out.size)⟩
theorem bl2{P:Program}{ops:Array Oper}{rest:List Oper}{op:Oper}{a:Act}{w:World}{Q:Exit→Act→World→Prop}(hw:Region.wanted op (yielded ops a.tmps)=true)(ty:TypeId)(x:Operand)(ho:op.op=.load ty x)(b o:Nat)(hx:a.eval x=.pointer (some ⟨b,o,none⟩)){cs row:List Value}{T:TypeId}(H:i9 w b cs T)
  (d:TypeDesc) (hu:P.underlying ty=some d) (hd:d.isRow=true) (hi:(P.info? ty).map (·.size)=some row.length) (hr:(cs.drop o).take row.length=row)
  (h:wpList P ops Q rest (a.put op.dst (.agg row.toArray)) w):wpList P ops Q (op::rest) a w :=
 wpList_step fun K hK=>bP2 hw ty x ho b o hx H d hu hd hi hr (hK _ _ h)
theorem b5.ofG{W w:World}(h:d5 W w):∃ x:b5 W,w=x.w:=⟨⟨w,h.out⟩,rfl⟩
def bI8(m n:Int):ByteArray:=if m=1 then Z2 n else if m=2 then aD9 n else bz3 n
@[go_sem] theorem bT7(n:Int):(bz3 n).size=3:=rfl
@[go_sem] theorem bU3(n:Int):bI8 1 n=Z2 n:=rfl
@[go_sem] theorem bU4(n:Int):bI8 2 n=aD9 n:=rfl
@[go_sem] theorem bS3(n:Int):bI8 3 n=bz3 n:=rfl
theorem aS4{n m:Int}{w:World}(h0:0≤n:=by exact sd)(h:m=1∧n<256∨m=2∧n<65536∨m=3∧n<16777216:=by exact sd) :
  Calls Tryz.prog 181 #[.int .i64 n,.int .i64 m] w (b4 w (.string (bI8 m n))):=by
 rcases h with⟨rfl,h1⟩|⟨rfl,h1⟩|⟨rfl,h1⟩
 ·exact aB3 h0 h1
 ·exact aS3 h0 h1
 ·exact bt1 h0 h1
theorem bM1{α:Type}[Enc α](l:List α)(y:α):d7 (l++[y])=d7 l+1+Enc.tot y:=by
 rw[au4];simp only[d7];omega
def bG2{α:Type}[E:R8 α](w:World)(x:α)(b:Bool):Ending→World→Prop:=fun e w'=>∃ (vs:List Value) (χ:Nat→Col),e=.returned (.tuple #[.agg vs.toArray,.bool b])∧E.O w.heap.size χ 0 w' vs x∧∃ y:b5 w,w'=y.w
theorem D0.app{α:Type}[E:D9 α]{B:Nat}{χ:Nat→Col}{i:Col}{w w2:World}{a a2:Option Addr}{c c2:Nat}{l:List α}{y:α}(h:D0 B χ i w a c l)(ho:Own E.enc E.ty E.size B w2 a2 c2 (l++[y]))(hb:I5 a2=I5 a∨I5 a2=some w.heap.size)(hg:E.good y) :
  D0 B (E9 w.heap.size χ (fun _=>i) id) i w2 a2 c2 (l++[y]):=by
 refine⟨ho,fun k hk=>?_,fun x hx=>?_⟩
 ·rcases hb with hb|hb
  ·rw[hb]at hk
   have:=(h.own.blk k hk).2
   rw[E9,if_pos this];exact h.col k hk
  ·rw[hb]at hk
   cases hk
   rw[E9,if_neg (by omega)];rfl
 ·rcases List.mem_append.1 hx with hx|hx
  ·exact h.good x hx
  ·obtain rfl:=List.mem_singleton.1 hx;exact hg
section
variable {P:Program} {ops:Array Oper} {op:Oper} {a:Act} {w:World} {Q:Exit→Act→World→Prop} {S:World→Prop} {md:Region.Mode} {fuel:Nat} {listed:Array Bool} {i:Nat}
end
def au5(s:ByteArray)(l:List Int):ByteArray:=l.foldl (fun s k=>s++Z2 k) s
theorem bl9(s:ByteArray)(l:List Int)(k:Int):au5 s (l++[k])=au5 s l++Z2 k:=by simp[au5,List.foldl_append]
def ai8(f:Int)(l:List Int):ByteArray:=if (inB f 0 7 && (decide ((l.length:Int)≤20) && N1 0 24 l))=true then au5 (Z2 f) l else⟨#[]⟩
theorem bJ2{lo hi y:Int}{l r:List Int}{k:Nat}(h:N1 lo hi l=true)(hd:l.drop k=y::r):inB y lo hi=true:=by
 have hm:y∈l:=List.mem_of_mem_drop (by rw[hd];exact List.mem_cons_self ..)
 clear hd
 induction l with
 | nil=>cases hm
 | cons x r ih =>
  rw[N1,Bool.and_eq_true]at h
  rcases List.mem_cons.1 hm with rfl|hm
  ·exact h.1
  ·exact ih h.2 hm
theorem bJ3{lo hi y:Int}{l r:List Int}{k:Nat}(h:N1 lo hi (l.take k)=true)(hd:l.drop k=y::r)(hy:inB y lo hi=true):N1 lo hi (l.take (k+1))=true:=by
 have e:l.take (k+1)=l.take k++[y]:=by
  rw[List.take_add_one];congr 1
  have:=congrArg (fun m=>m[0]?) hd
  simp only[List.getElem?_drop,Nat.add_zero,List.getElem?_cons_zero]at this
  rw[this];rfl
 rw[e]
 generalize l.take k=p at h
 induction p with
 | nil=>simp[N1,hy]
 | cons x p ih =>
  rw[N1,Bool.and_eq_true]at h
  rw[List.cons_append,N1,h.1,ih h.2];rfl
theorem bM4{lo hi y:Int}{l r:List Int}{k:Nat}(hd:l.drop k=y::r)(hy:inB y lo hi=false):N1 lo hi l=false:=by
 cases c:N1 lo hi l
 ·rfl
 ·have:=bJ2 c hd
  rw[hy]at this;cases this
theorem bF5{y:Int}{l r:List Int}{k:Nat}(hd:l.drop k=y::r):l.take (k+1)=l.take k++[y]:=by
 rw[List.take_add_one];congr 1
 have:=congrArg (fun m=>m[0]?) hd
 simp only[List.getElem?_drop,Nat.add_zero,List.getElem?_cons_zero]at this
 rw[this];rfl
theorem aQ1{a:Option Addr}{n c:Nat}{f:Int}{l:List Int}{w:World}(hs:Sl K0 w a l)(hn:l.length=n)(hm:n≤1000000000) :
  Calls Tryz.prog 184 #[.int .i64 f,.slice a n c] w (b4 w (.string (ai8 f l))):=by
 cases c1:inB f 0 7
 ·go_enter Tryz.func184,Tryz.ntmps184
  go_wp2_with (first|(go_at_call 73;refine gm (d8) ?_;intro x))
  go_ret
  exact b4.mk (by simp[ai8,c1])
 have HN:=lH hn
 by_cases h2:(20:Int)<n
 ·have HF:=lH (show ai8 f l=⟨#[]⟩by unfold ai8;rw[if_neg];rw[hn];simp;omega)
  clear hn
  go_enter Tryz.func184,Tryz.ntmps184
  go_wp2_with (first|(go_at_call 73;refine gm (d8) ?_;intro x))
  go_ret
  exact b4.mk (by rw[HF.out];rfl)
 have H2:=lH (show(l.length:Int)≤20 by omega)
 have⟨f0,f1⟩:=D6.1 c1
 have HC1:=lH c1
 clear hn
 go_enter Tryz.func184,Tryz.ntmps184
 go_wp2_with (first|(go_at_call 73;refine gm (d8) ?_;intro x)|(go_at_call 181;refine gm (aS4) ?_;intro x))
 go_loopw [5,6] (fun u v wr=>∃ (k:Nat) (s:ByteArray),v=.int .i64 k∧u=.string s∧k≤n∧s.size=1+k∧Hid (s=au5 (Z2 f) (l.take k))∧Hid (N1 0 24 (l.take k)=true)∧∃ x:b5 w,wr=x.w) (fun _ v _=>(n - intOf v).toNat)
 case atStart=>exact⟨0,Z2 f,rfl,rfl,by omega,rfl,rfl,rfl,b5.of⟩
 case round =>
  obtain⟨k,s,rfl,rfl,hk,hsz,hf,hA,x,rfl⟩:=hrel
  have HS:=lH hsz
  have hle:¬ 9223372036854775807<s.size+1:=by omega
  clear hsz
  by_cases h:k<n
  ·obtain⟨b,off,y,rfl,hb,hd,h0⟩:=hs.int (show k<l.length by have:=HN.out;omega)
   cases c3:inB y 0 24
   ·have HF:=lH (show ai8 f l=⟨#[]⟩by unfold ai8;rw[if_neg];rw[bM4 hd.out c3];simp)
    go_wp2_with (first|(go_at_call 73;refine gm (d8) ?_;intro x))
    go_ret
    exact b4.mk (by rw[HF.out];rfl)
   ·have HY:=lH c3
    have⟨y0,y1⟩:=D6.1 c3
    go_wp2_with (first|(go_at_call 73;refine gm (d8) ?_;intro x)|(go_at_call 181;refine gm (aS4) ?_;intro x))
    go_roundw
    case rel=>exact⟨k+1,s++Z2 y,by go_num,rfl,by omega,by rw[ByteArray.size_append,HS.out,bF7];omega,(show _=_ by rw[bF5 hd.out,bl9,← hf.out]),(show _=_ from bJ3 hA.out hd.out HY.out),b5.of⟩
    case measure=>simp[intOf];omega
  ·go_wp2_with (fail)
   go_ret
   have e:=hf.out;have e2:=hA.out
   rw[List.take_of_length_le (by have:=HN.out;omega)]at e e2
   exact b4.mk (by unfold ai8;rw[if_pos (by rw[HC1.out,e2];simpa using H2.out),e];rfl)
theorem br8{lo hi:Int}:∀ {l:List Int},N1 lo hi l=true↔∀ y∈l,lo≤y∧y≤hi
 | []=>by simp[N1]
 | x::r=>by simp only[N1,Bool.and_eq_true,br8 (l:=r),D6,List.mem_cons,forall_eq_or_imp]
theorem aj3{α:Type}[Enc α](h:∀ x:α,Enc.tot x=0):∀ l:List α,d7 l=l.length
 | []=>rfl
 | x::r=>by simp only[d7,aj3 h r,h x,List.length_cons];omega
theorem bl5:∀ l:List B4,d7 l≤aq5 l
 | []=>Int.le_refl _
 | x::r=>by
  have h:Enc.tot x=(x.Data.size:Int):=rfl
  have ih:=bl5 r
  simp only[d7,aq5,h];omega
theorem ar6(b:D5):Enc.tot b=b.Params.length+b.Limits.length+b.Orders.length+b.Done.length+(d7 b.Recorder.Records+b.Recorder.Dropped.length)+b.Asked.length:=by
 have h:Enc.tot b=d7 b.Params+d7 b.Limits+d7 b.Orders+d7 b.Done+(d7 b.Recorder.Records+d7 b.Recorder.Dropped)+d7 b.Asked:=rfl
 rw[h,aj3 (fun _=>rfl) b.Params,aj3 (fun _=>rfl) b.Limits,aj3 (fun _=>rfl) b.Orders,aj3 (fun _=>rfl) b.Done,aj3 (fun _=>rfl) b.Recorder.Dropped,aj3 (fun _=>rfl) b.Asked]
theorem aO5(r:J0):Enc.tot r=d7 r.Records+r.Dropped.length:=by
 have h:Enc.tot r=d7 r.Records+d7 r.Dropped:=rfl
 rw[h,aj3 (fun _=>rfl) r.Dropped]
theorem bd9{r:J0}(h:L5 r=true):Enc.tot r≤70000:=by
 simp only[L5,Bool.and_eq_true,decide_eq_true_eq]at h
 have h1:=D6.1 h.1
 have h2:=bl5 r.Records
 rw[aO5];omega
theorem aB0{b:D5}(h:s9 b=true):Enc.tot b≤81000:=by
 simp only[s9,Bool.and_eq_true,decide_eq_true_eq,beq_iff_eq]at h
 obtain⟨-,h1,-,h2,-,-,-,h3,h4,-,h5,-,h6,-⟩:=h
 have h7:=bd9 h5
 rw[aO5]at h7
 have h8:(b.Orders.length:Int)≤40:=by
  rw[L3,Bool.and_eq_true,decide_eq_true_eq]at h3;exact h3.1
 rw[ar6];omega
theorem bI6{α:Type}[Enc α]{b:Int}:∀ {l:List α},(∀ x∈l,Enc.tot x≤b)→d7 l≤l.length*(b+1)
 | [],_=>by simp[d7]
 | x::r,h=>by
  have h1:=h x (by simp)
  have h2:=bI6 (l:=r) (fun t ht=>h t (by simp[ht]))
  have h4:((r.length+1:Nat):Int)*(b+1)=r.length*(b+1)+(b+1):=by rw[Int.natCast_add,Int.add_mul];simp
  simp only[d7,List.length_cons]
  rw[h4];omega
theorem Y3{B:Nat}{w:World}{vs:List Value}{r:D5}(h:Enc.Rd B w vs r):vs.length=12:=Enc.len h
theorem aj0{B:Nat}{w:World}{vs:List Value}{r:D5}(h:Enc.Rd B w vs r):vs.all (·.oneCell')=true:=by
 obtain⟨A,rfl,-⟩:=h;rfl
theorem aY2(b:D5):(b.Params.length:Int)≤Enc.tot b∧(b.Limits.length:Int)≤Enc.tot b∧(b.Orders.length:Int)≤Enc.tot b∧(b.Done.length:Int)≤Enc.tot b∧(b.Recorder.Records.length:Int)≤Enc.tot b∧(b.Recorder.Dropped.length:Int)≤Enc.tot b∧(b.Asked.length:Int)≤Enc.tot b:=by
 have hbt:=ar6 b
 have hrt:=d9 b.Recorder.Records
 omega
theorem aB1{B:Nat}{vs:List Value}{b:D5}{w:World}(h:Enc.Rd B w vs b)(ht:Enc.tot b≤100000000):Calls Tryz.prog 207 #[.agg vs.toArray] w (b4 w (.bool (s9 b))):=by
 obtain⟨A,rfl,F⟩:=h
 obtain⟨h0,h1,h2,h3,h4,h5,h6⟩:=aY2 b
 exact ac9 (bd:=b) F.q0 F.q1 F.q2 F.q3 F.q4 F.q5 F.q6 (g:=.same _ _) F.ok rfl rfl rfl rfl rfl rfl rfl (by omega) (by omega) (by omega) (by omega) (by omega) (by omega) (by omega)
theorem aR7{b:D5}(h:s9 b=true):b.Params.length=8∧N1 0 65535 b.Params=true∧b.Limits.length≤8∧(0≤b.Made∧b.Made≤65535)∧(0≤b.Taken∧b.Taken≤65535)∧(0≤b.Clock∧b.Clock≤1000000)∧L5 b.Recorder=true∧b.Orders.length≤40∧b.Done.length≤5000∧b.Asked.length≤5000:=by
 have h':=h
 simp only[s9,Bool.and_eq_true,decide_eq_true_eq,beq_iff_eq]at h
 obtain⟨g0,g1,g2,g3,g4,g5,g6,g7,g8,g9,g10,g11,g12,g13⟩:=h
 have e1:=D6.1 g0
 rw[L3,Bool.and_eq_true,decide_eq_true_eq]at g7
 refine⟨by omega,g2,by omega,D6.1 g5,D6.1 g6,e1,g10,by omega,by omega,by omega⟩
theorem aB2{B:Nat}{vs:List Value}{b:D5}{w:World}(h:Enc.Rd B w vs b)(ht:Enc.tot b≤100000000):Calls Tryz.prog 174 #[.agg vs.toArray] w (b4 w (.bool (s9 b))):=by
 obtain⟨A,rfl,F⟩:=h
 obtain⟨h0,h1,h2,h3,h4,h5,h6⟩:=aY2 b
 exact ad2 (bd:=b) F.q0 F.q1 F.q2 F.q3 F.q4 F.q5 F.q6 (g:=.same _ _) F.ok rfl rfl rfl rfl rfl rfl rfl (by omega) (by omega) (by omega) (by omega) (by omega) (by omega) (by omega)
def bM5(l:List A4)(k:Nat):Int:=match l[k]? with|some y=>y.Order.At|none=>0
def X7(a:Int)(l:List A4):Nat→Nat
 | 0=>0
 | k+1=>if a<bM5 l k then X7 a l k else k+1
theorem aP3(a:Int)(l:List A4):∀ k,X7 a l k≤k
 | 0=>Nat.le_refl _
 | k+1=>by have:=aP3 a l k;unfold X7;split<;>omega
def ag4{α:Type}(l:List α)(k:Nat)(x:α):List α:=l.take k++x::l.drop k
theorem aw4{α:Type}(l:List α)(k:Nat)(x:α):(ag4 l k x).length=l.length+1:=by
 rw[ag4,List.length_append,List.length_cons,List.length_take,List.length_drop];omega
def J1(b:D5)(x:Z3):D5 :=
 if b.Orders.length<40 then { b with Taken:=b.Taken+1,Orders:=ag4 b.Orders (X7 x.At b.Orders b.Orders.length) ⟨b.Taken,x⟩ }
 else { b with Taken:=b.Taken+1,Done:=b.Done++[⟨b.Taken,b.Clock,0⟩] }
def V8(b:D5)(x:Z3):Bool:=s9 b && w8 x
def A7(b:D5)(x:Z3):D5 × Bool :=
 if V8 b x=true then(if s9 (J1 b x)=true then(J1 b x,decide (b.Orders.length<40))else(b,false))else(b,false)
theorem ap1(b:D5)(x:Z3):Enc.tot (J1 b x)=Enc.tot b+1:=by
 unfold J1
 split
 ·rw[ar6,ar6];simp only[aw4];omega
 ·rw[ar6,ar6];simp only[List.length_append,List.length_singleton];omega
theorem bJ1{b:D5}(x:Z3)(h:s9 b=true):s9 (A7 b x).1=true:=by
 unfold A7
 split
 ·split
  ·rename_i h2;exact h2
  ·exact h
 ·exact h
def bI0(s:ByteArray):Z3:=⟨bAt s 0,U4 s 1 3,bAt s 4,U4 s 5 2⟩
def ac7(s:ByteArray):Option Z3:=if s.size=7 then(if w8 (bI0 s)=true then some (bI0 s)else none)else none
def as9(s:ByteArray):Bool:=inB s.size 1 21 && (decide (bAt s 0≤7) && N1 0 24 ((j4 s).drop 1))
def V4(s:ByteArray):Option (Int × List Int):=if as9 s=true then some (bAt s 0,(j4 s).drop 1)else none
theorem aJ0{s:ByteArray}{q:Int × List Int}(h:V4 s=some q):0≤q.1∧q.1≤7∧q.2.length≤20:=by
 unfold V4 at h
 split at h
 ·rename_i hk
  cases h
  simp only[as9,Bool.and_eq_true,decide_eq_true_eq]at hk
  have h1:=D6.1 hk.1
  have:=W7 s 0
  refine⟨this.1,hk.2.1,?_⟩
  rw[List.length_drop,J6];omega
 ·cases h
theorem bj9{s:ByteArray}{x:Z3}(h:ac7 s=some x):w8 x=true:=by
 unfold ac7 at h
 split at h
 ·split at h
  ·rename_i h2;cases h;exact h2
  ·cases h
 ·cases h
def aq6(m:f5):f5:={ m with Bad:=if m.Bad<1000000 then m.Bad+1 else m.Bad }
def ab1(o:j7)(f:Int)(l:List Int):j7:=⟨o.File,o.Data,Y5 o.File o.Data.size o.Queue f l,af7 o.File o.Data.size o.Queue o.Done f l⟩
theorem aS9{o:j7}(f:Int)(l:List Int)(h:R4 o=true):R4 (ab1 o f l)=true:=by
 have hq:∀ q:List Int,(q=o.Queue∨q=[]∨L8 o.File o.Data.size q=true)→L8 o.File o.Data.size q=true:=by
  rintro q (rfl|rfl|hq)
  ·exact h
  ·have h':=h
   simp only[R4,L8,Bool.and_eq_true,decide_eq_true_eq]at h' ⊢
   exact⟨h'.1,h'.2.1,by simp,rfl⟩
  ·exact hq
 refine hq _ ?_
 show Y5 o.File o.Data.size o.Queue f l=o.Queue∨Y5 o.File o.Data.size o.Queue f l=[]∨L8 o.File o.Data.size (Y5 o.File o.Data.size o.Queue f l)=true
 unfold Y5
 split
 ·split
  ·exact .inr (.inl rfl)
  ·split
   ·rename_i h3;exact .inr (.inr h3)
   ·exact .inl rfl
 ·exact .inl rfl
theorem av6{o:j7}(h:R4 o=true):Enc.tot o≤1600∧o.Queue.length≤1000∧o.Data.size≤600:=by
 simp only[R4,L8,Bool.and_eq_true,decide_eq_true_eq]at h
 have h2:Enc.tot o=(o.Data.size:Int)+d7 o.Queue:=rfl
 rw[h2,aj3 (fun _=>rfl)];omega
def bI4(d:ByteArray):ByteArray:=d.extract 1 d.size
def an7(d:ByteArray):Option Z3:=if 0<d.size∧bAt d 0=0 then ac7 (bI4 d)else none
def an6(d:ByteArray):Option (Int × List Int):=if 0<d.size∧bAt d 0=1 then V4 (bI4 d)else none
def aI2(m:f5)(f:Int):j7:=m.Space.Outs.getD f.toNat ⟨0,⟨#[]⟩,[],false⟩
def bQ8(m:f5)(b:D5):f5:={ m with Space:={ m.Space with Board:=b } }
def br2(m:f5)(f:Int)(o:j7):f5:={ m with Space:={ m.Space with Outs:=m.Space.Outs.set f.toNat o } }
def pay(m:f5)(d:ByteArray):f5:=match an7 d with
 | some x=>bQ8 m (A7 m.Space.Board x).1
 | none=>match an6 d with
  | some (f,l)=>br2 m f (ab1 (aI2 m f) f l)
  | none=>aq6 m
def aO7(m:f5)(r:M4):f5:={ m with Space:={ m.Space with Receiver:=r } }
def aI6(m:f5)(d:ByteArray):f5:={ m with Took:=m.Took++[d] }
def av7(m:f5)(t:ByteArray):f5:=match N8 t with
 | none=>aq6 m
 | some _=>if (F9 m.Space.Receiver t).2.2=true then pay (aI6 (aO7 m (F9 m.Space.Receiver t).1) (F9 m.Space.Receiver t).2.1) (F9 m.Space.Receiver t).2.1 else aO7 m (F9 m.Space.Receiver t).1
def ay5(m:f5)(f:s6):f5:=av7 m (an9 (U9 f.Data))
def aA6(t:Int)(f:s6):Bool:=decide (f.At≤t)
def ag1(t:Int)(l:List s6):List s6:=l.filter (aA6 t)
def W5(t:Int)(l:List s6):List s6:=l.filter fun f=>!aA6 t f
def ah2(m:f5):f5:={ m with Ups:=W5 m.Time m.Ups }
def L4(m:f5):f5:=if j9 m=true then(ag1 m.Time m.Ups).foldl ay5 (ah2 m)else m
structure X5(k:Nat)(x:f5):Prop where
 outs:x.Space.Outs.length=8
 out:∀ o∈x.Space.Outs,R4 o=true
 board:s9 x.Space.Board=true
 rcv:A9 x.Space.Receiver=true
 took:x.Took.length≤5000+k
 bad0:0≤x.Bad
 bad1:x.Bad≤1000000
theorem X5.bad{k:Nat}{x:f5}(h:X5 k x):X5 (k+1) (aq6 x):=by
 obtain⟨h1,h2,h3,h4,h5,h6,h7⟩:=h
 refine⟨h1,h2,h3,h4,Nat.le_succ_of_le h5,?_,?_⟩<;>(simp only[aq6];split<;>omega)
theorem bL7{k:Nat}{x:f5}(h:X5 k x){f:Int}(h0:0≤f)(h1:f≤7):aI2 x f∈x.Space.Outs:=by
 rw[aI2,List.getD_eq_getElem?_getD,List.getElem?_eq_getElem (by rw[h.outs];omega)]
 exact List.getElem_mem _
theorem X5.pay1{k:Nat}{x:f5}(d:ByteArray)(h:X5 k x):X5 (k+1) (pay x d):=by
 unfold pay
 split
 ·obtain⟨h1,h2,h3,h4,h5,h6,h7⟩:=h
  exact⟨h1,h2,bJ1 _ h3,h4,Nat.le_succ_of_le h5,h6,h7⟩
 ·split
  ·rename_i f l hp
   have hb:0≤f∧f≤7:=by
    unfold an6 at hp
    split at hp
    ·have:=aJ0 hp;exact⟨this.1,this.2.1⟩
    ·cases hp
   have hm:=h.out _ (bL7 h hb.1 hb.2)
   obtain⟨h1,h2,h3,h4,h5,h6,h7⟩:=h
   refine⟨by rw[← h1];exact List.length_set,fun o ho=>?_,h3,h4,Nat.le_succ_of_le h5,h6,h7⟩
   rcases List.mem_or_eq_of_mem_set ho with ho|rfl
   ·exact h2 o ho
   ·exact aS9 f l hm
  ·exact h.bad
theorem X5.setR1{k:Nat}{x:f5}(h:X5 k x){r:M4}(hr:A9 r=true):X5 k (aO7 x r):=⟨h.outs,h.out,h.board,hr,h.took,h.bad0,h.bad1⟩
theorem X5.took1{k:Nat}{x:f5}(h:X5 k x)(d:ByteArray):X5 (k+1) (aI6 x d):=⟨h.outs,h.out,h.board,h.rcv,by show(x.Took++[d]).length≤_;rw[List.length_append];have:=h.took;simp;omega,h.bad0,h.bad1⟩
theorem X5.more{k j:Nat}{x:f5}(h:X5 k x)(g:k≤j):X5 j x:=⟨h.outs,h.out,h.board,h.rcv,by have:=h.took;omega,h.bad0,h.bad1⟩
theorem X5.heard{k:Nat}{x:f5}(t:ByteArray)(h:X5 k x):X5 (k+2) (av7 x t):=by
 have hf:=av3 t h.rcv
 unfold av7
 split
 ·exact h.bad.more (by omega)
 ·split
  ·exact((h.setR1 hf.1).took1 _).pay1 _
  ·exact(h.setR1 hf.1).more (by omega)
def Y9(m:f5):Int:=d7 m.Plan+d7 m.Ups+d7 m.Downs+Enc.tot m.Ground+(Enc.tot m.Space.Packer+d7 m.Space.Files+d7 m.Space.Sent)+d7 m.Offered+d7 m.Took
theorem aT5(m:f5):Enc.tot m=Y9 m+Enc.tot m.Space.Board+d7 m.Space.Outs:=by
 have e1:Enc.tot m=d7 m.Plan+d7 m.Ups+d7 m.Downs+Enc.tot m.Ground+(Enc.tot m.Space.Board+Enc.tot m.Space.Packer+d7 m.Space.Files+d7 m.Space.Outs+d7 m.Space.Sent)+d7 m.Offered+d7 m.Took:=rfl
 rw[e1,Y9];omega
theorem bO3(m:f5)(d:ByteArray):Y9 (pay m d)=Y9 m:=by
 unfold pay
 split
 ·rfl
 ·split<;>rfl
theorem bv8{m:f5}(t:ByteArray)(h:A9 m.Space.Receiver=true):Y9 (av7 m t)≤Y9 m+41:=by
 have hf:=(av3 t h).2
 unfold av7
 split
 ·show Y9 m≤_;omega
 ·split
  ·rw[bO3]
   have e:∀ (x:f5) (d:ByteArray),Y9 (aI6 x d)=Y9 x+1+d.size:=fun x d=>by
    have:d7 (x.Took++[d])=d7 x.Took+1+(d.size:Int):=bM1 x.Took d
    simp only[Y9,aI6,this];omega
   rw[e]
   show Y9 m+1+_≤_;omega
  ·show Y9 m≤_;omega
theorem X5.tot{k:Nat}{x:f5}(h:X5 k x):Enc.tot x≤Y9 x+95000:=by
 have h1:=aB0 h.board
 have h2:=bI6 (fun o ho=>(av6 (h.out o ho)).1)
 rw[h.outs]at h2
 rw[aT5];omega
theorem bj5:∀ (l:List s6) {k:Nat} {x:f5},X5 k x→X5 (k+2*l.length) (l.foldl ay5 x)∧Y9 (l.foldl ay5 x)≤Y9 x+41*l.length
 | [],k,x,h=>⟨h,by simp⟩
 | f::r,k,x,h=>by
  have h1:=bj5 r (h.heard (an9 (U9 f.Data)))
  have h2:=bv8 (an9 (U9 f.Data)) h.rcv
  have e:ay5 x f=av7 x (an9 (U9 f.Data)):=rfl
  rw[List.foldl_cons,List.length_cons,e]
  exact⟨h1.1.more (by omega),by have:=h1.2;omega⟩
theorem aT3{fs:List ByteArray}:∀ {l:List j7} {k:Nat},M3 fs k l=true→∀ o∈l,R4 o=true
 | [],_,_,o,ho=>by cases ho
 | x::r,k,h,o,ho=>by
  rw[M3,Bool.and_eq_true]at h
  rcases List.mem_cons.1 ho with rfl|ho
  ·have h1:=h.1
   simp only[aA7,Bool.and_eq_true]at h1
   exact h1.2.1
  ·exact aT3 h.2 o ho
theorem be4{m:f5}(h:j9 m=true):X5 0 (ah2 m)∧m.Ups.length≤1000∧(∀ f∈m.Ups,1≤f.Data.size∧f.Data.size≤404)∧0≤m.Time∧m.Time≤1000000:=by
 simp only[j9,D7,Q8,Bool.and_eq_true,decide_eq_true_eq,beq_iff_eq,List.all_eq_true]at h
 obtain⟨h0,h1,h2,h3,h4,h5,h6,h7,h8,h9,h10,h11,h12,h13⟩:=h
 have hb:=D6.1 h2
 have ht:=D6.1 h0
 refine⟨⟨by show m.Space.Outs.length=8;omega,aT3 h11.2.2.2.2.2.2.2.2.2,h11.2.1,h11.1,by show m.Took.length≤_;omega,hb.1,hb.2⟩,h8.1,fun f hf=>?_,ht.1,ht.2⟩
 have:=h8.2 f hf
 simp only[N2,Bool.and_eq_true]at this
 have:=D6.1 this.2
 omega
theorem aU7{α:Type}[Enc α](p:α→Bool):∀ l:List α,d7 (l.filter p)≤d7 l
 | []=>Int.le_refl _
 | x::r=>by
  have:=aU7 p r
  have h0:=Enc.tot_nonneg x
  rw[List.filter_cons]
  split
  ·simp only[d7];omega
  ·simp only[d7];omega
theorem bb4(m:f5):Enc.tot (L4 m)≤Enc.tot m+140000:=by
 unfold L4
 split
 ·rename_i h
  obtain⟨h1,h2,-⟩:=be4 h
  have h3:=bj5 (ag1 m.Time m.Ups) h1
  have h4:=h3.1.tot
  have h5:(ag1 m.Time m.Ups).length≤1000:=Nat.le_trans (List.length_filter_le _ _) h2
  have h6:Y9 (ah2 m)≤Y9 m:=by
   have:=aU7 (fun f=>!aA6 m.Time f) m.Ups
   have e:d7 (ah2 m).Ups=d7 (m.Ups.filter fun f=>!aA6 m.Time f):=rfl
   simp only[Y9,e]
   show d7 m.Plan+_+d7 m.Downs+Enc.tot m.Ground+(Enc.tot m.Space.Packer+d7 m.Space.Files+d7 m.Space.Sent)+d7 m.Offered+d7 m.Took≤_
   omega
  have h7:=aT5 m
  have h8:=b7 m.Space.Outs
  have h9:=Enc.tot_nonneg m.Space.Board
  omega
 ·omega
def cM(m:f5)(A:I9):List Value:=(A0 m A)
structure Fld(α:Type)[E:D9 α] where
 off:Nat
 col:Nat
 get:f5→List α
 set:f5→List α→f5
 ga:I9→Option Addr
 gc:I9→Nat
 sa:I9→Option Addr→Nat→I9
 own:∀ {B χ w A x},I1 B χ 0 w A x→D0 B χ (col,0) w (ga A) (gc A) (get x)
 put:∀ {B χ w w2 A x a c l},I1 B χ 0 w A x→Fr B χ (·=(col,0)) w w2→D0 B χ (col,0) w2 a c l→I1 B χ 0 w2 (sa A a c) (set x l)
 cell:∀ x A,(cM x A)[off]?=some (.slice (ga A) (get x).length (gc A))
 cells:∀ x A l a c,(cM x A).set off (.slice a l.length c)=cM (set x l) (sa A a c)
 lt:off<61
 clt:col<22
 eta:∀ A,sa A (ga A) (gc A)=A
theorem Own.held{α:Type}{T size g B c:Nat}{w:World}{enc:α→List Value}{l:List α}(h:Own enc T size B w (some ⟨g,0,none⟩) c l):∃ cs:List Value,i9 w g cs T∧l.length*size≤cs.length:=by
 obtain⟨hsz,-,⟨hv,hn0⟩|⟨g',cap,cur,hv,hB,hheap,hle,hmax,hcs,-⟩⟩:=h
 ·simp at hv
 ·simp only[Value.slice.injEq,Option.some.injEq,Addr.mk.injEq]at hv
  obtain⟨⟨rfl,-,-⟩,-,rfl⟩:=hv
  refine⟨cur.toList,by unfold i9;simpa using hheap,?_⟩
  rw[show cur.toList.length=cur.size by simp,hcs];exact Nat.mul_le_mul_right _ hle
def MB(X:Nat→Prop)(B b:Nat)(w:World)(A:I9)(m:f5):Prop :=
 ∃ χ:Nat→Col,i9 w b (cM m A) 90∧I1 B χ 0 w A m∧1000≤(χ b).1∧ap5 χ w∧B≤b∧∀ k,X k→1000≤(χ k).1∧k≠b∧k<w.heap.size
def MBp{α:Type}[E:D9 α](F:Fld α)(X:Nat→Prop)(B b:Nat)(w:World)(A:I9)(m:f5)(l:List α)(a:Option Addr)(c:Nat):Prop :=
 ∃ χ:Nat→Col,i9 w b (cM m A) 90∧I1 B χ 0 w (F.sa A a c) (F.set m l)∧1000≤(χ b).1∧ap5 χ w∧B≤b∧∀ k,X k→1000≤(χ k).1∧k≠b∧k<w.heap.size
section
variable {X:Nat→Prop} {B b:Nat} {w w':World} {A:I9} {m:f5}
theorem MB.held(h:MB X B b w A m):i9 w b (cM m A) 90:=h.elim fun _ h=>h.1
theorem MB.lt(h:MB X B b w A m):b<w.heap.size:=h.held.lt
theorem MB.f(h:MB X B b w A m):ad8 B w A m:=h.elim fun _ h=>h.2.1.f
theorem MB.rd(h:MB X B b w A m):Enc.Rd B w (cM m A) m:=⟨A,rfl,h.f⟩
theorem MB.keep(h:MB X B b w A m)(g:b8 B w w'):MB X B b w' A m :=
 h.elim fun χ h=>⟨χ,by have h1:=h.1;unfold i9 at h1 ⊢;rw[g.block b h.2.2.2.2.1 h.1.lt];exact h1,h.2.1.keep g,h.2.2.1,h.2.2.2.1.mono g.size,h.2.2.2.2.1,fun k hk=>⟨(h.2.2.2.2.2 k hk).1,(h.2.2.2.2.2 k hk).2.1,Nat.lt_of_lt_of_le (h.2.2.2.2.2 k hk).2.2 g.size⟩⟩
theorem MB.mono{B':Nat}(h:MB X B b w A m)(g:B'≤B):MB X B' b w A m :=
 h.elim fun χ h=>⟨χ,h.1,h.2.1.mono g,h.2.2.1,h.2.2.2.1,Nat.le_trans g h.2.2.2.2.1,h.2.2.2.2.2⟩
variable {α:Type} [E:D9 α] {F:Fld α} {l:List α} {a:Option Addr} {c:Nat}
theorem MB.own(F:Fld α)(h:MB X B b w A m):Own E.enc E.ty E.size B w (F.ga A) (F.gc A) (F.get m):=h.elim fun _ h=>(F.own h.2.1).own
theorem MB.good(F:Fld α)(h:MB X B b w A m):∀ x∈F.get m,E.good x:=h.elim fun _ h=>(F.own h.2.1).good
theorem MBp.held(h:MBp F X B b w A m l a c):i9 w b (cM m A) 90:=h.elim fun _ h=>h.1
end
section
variable {P:Program} {ops:Array Oper} {rest:List Oper} {op:Oper} {a:Act} {w w0:World} {Q:Exit→Act→World→Prop} {X:Nat→Prop} {B b:Nat} {A:I9} {m:f5} {α:Type} [E:D9 α] {F:Fld α} {l:List α}
end
structure Tr(n B:Nat)(χ:Nat→Col)(o:Nat)(w:World)(B':Nat)(χ':Nat→Col)(o':Nat)(w':World):Prop where
 c:∀ {γ:Type} [D9 γ] (i:Nat),i<n→∀ {a:Option Addr} {c:Nat} {l:List γ},D0 B χ (o+i,0) w a c l→D0 B' χ' (o'+i,0) w' a c l
 r:∀ {γ δ:Type} [ao2 γ δ] [D9 δ] (i:Nat),i<n→∀ {a:Option Addr} {c:Nat} {l:List (N7 γ)},M9 B χ (o+i) w a c l→M9 B' χ' (o'+i) w' a c l
section
variable {n B o:Nat} {χ χ2:Nat→Col} {w w':World}
theorem Tr.fr{C:Col→Prop}(f:Fr B χ C w w')(hi:∀ j k,o≤j→j<o+n→¬ C (j,k)):Tr n B χ o w B χ o w':=⟨fun i h=>fun k=>k.fr f (hi _ _ (by omega) (by omega)),fun i h=>fun k=>k.fr f fun j=>hi _ _ (by omega) (by omega)⟩
theorem Tr.to(g:d5 w w'):Tr n B χ o w B χ o w':=⟨fun _ _=>fun k=>k.to g,fun _ _=>fun k=>k.to g⟩
theorem Tr.keep(g:b8 B w w'):Tr n B χ o w B χ o w':=⟨fun _ _=>fun k=>k.keep g,fun _ _=>fun k=>k.keep g⟩
theorem Tr.mono{B2:Nat}(g:B2≤B):Tr n B χ o w B2 χ o w:=⟨fun _ _=>fun k=>k.mono g,fun _ _=>fun k=>k.mono g⟩
theorem Tr.old{f:Col→Col}{U:Nat}(g:w.heap.size≤U):Tr n B χ o w B (E9 U χ χ2 f) o w:=⟨fun _ _=>fun k=>k.old g,fun _ _=>fun k=>k.old g⟩
theorem Tr.new{d U:Nat}(g:U≤B):Tr n B χ2 0 w B (E9 U χ χ2 (D3 d)) d w:=⟨fun i _=>fun k=>(k.new g).ic (by simp[D3,Nat.add_comm]),fun i _=>fun k=>k.new g fun j=>by simp[D3,Nat.add_comm]⟩
end
class S7(α:Type) extends R8 α where
 ty:Nat
 n:Nat
 one:∀ {B χ o w vs x},O B χ o w vs x→vs.all (·.oneCell')=true
 map:∀ {B χ o w B' χ' o' w' vs x},O B χ o w vs x→Tr n B χ o w B' χ' o' w'→O B' χ' o' w' vs x
 nle:n≤1000
structure FS(α β:Type)[A:S7 α][E:D9 β] where
 off:Nat
 col:Nat
 get:α→List β
 set:α→List β→α
 own:∀ {B χ w vs x},A.O B χ 0 w vs x→∃ a c,vs[off]?=some (.slice a (get x).length c)∧D0 B χ (col,0) w a c (get x)
 put:∀ {B χ w w2 vs x a c l},A.O B χ 0 w vs x→Fr B χ (·=(col,0)) w w2→D0 B χ (col,0) w2 a c l→A.O B χ 0 w2 (vs.set off (.slice a l.length c)) (set x l)
 lt:off<A.size
 clt:col<A.n
structure FD(α β:Type)[A:S7 α][E:S7 β] where
 off:Nat
 col:Nat
 get:α→β
 set:α→β→α
 own:∀ {B χ w vs x},A.O B χ 0 w vs x→E.O B χ col w ((vs.drop off).take E.size) (get x)
 put:∀ {B χ w w2 vs us x y},A.O B χ 0 w vs x→Fr B χ (fun i=>col≤i.1∧i.1<col+E.n) w w2→E.O B χ col w2 us y→A.O B χ 0 w2 (S6 vs off us) (set x y)
 le:off+E.size≤A.size
 cle:col+E.n≤A.n
def GB{α:Type}[E:S7 α](X:Nat→Prop)(B b:Nat)(w:World)(x:α):Prop :=
 ∃ (χ:Nat→Col) (vs:List Value),i9 w b vs E.ty∧E.O B χ 0 w vs x∧1000≤(χ b).1∧ap5 χ w∧B≤b∧∀ k,X k→1000≤(χ k).1∧k≠b∧k<w.heap.size
def GBp{α β:Type}[E:S7 α][D9 β](F:FS α β)(X:Nat→Prop)(B b:Nat)(w:World)(x:α)(l:List β)(a:Option Addr)(c:Nat):Prop :=
 ∃ (χ:Nat→Col) (vs:List Value),i9 w b vs E.ty∧vs.length=E.size∧E.O B χ 0 w (vs.set F.off (.slice a l.length c)) (F.set x l)∧1000≤(χ b).1∧ap5 χ w∧B≤b∧∀ k,X k→1000≤(χ k).1∧k≠b∧k<w.heap.size
def GBq{α β:Type}[E:S7 α][E2:S7 β](F:FD α β)(X:Nat→Prop)(B b:Nat)(w:World)(x:α)(us:List Value)(y:β):Prop :=
 ∃ (χ:Nat→Col) (vs:List Value),i9 w b vs E.ty∧vs.length=E.size∧us.length=E2.size∧us.all (·.oneCell')=true∧E.O B χ 0 w (S6 vs F.off us) (F.set x y)∧1000≤(χ b).1∧ap5 χ w∧B≤b∧∀ k,X k→1000≤(χ k).1∧k≠b∧k<w.heap.size
theorem aq4{α:Type}[E:S7 α]{B o:Nat}{χ:Nat→Col}{w:World}{vs:List Value}{x:α}(h:E.O B χ o w vs x):vs.length=E.size:=E.len (E.toRd h)
section
variable {α β δ:Type} [E:S7 α] [E2:D9 β] [E3:S7 δ] {X:Nat→Prop} {B b:Nat} {w w':World} {x:α} {F:FS α β} {D:FD α δ} {l:List β} {a:Option Addr} {c:Nat} {y:δ} {us:List Value}
theorem GB.vs(h:GB X B b w x):∃ vs,i9 w b vs E.ty∧vs.length=E.size∧vs.all (·.oneCell')=true∧E.Rd B w vs x∧∃ χ,E.O B χ 0 w vs x:=h.elim fun χ h=>h.elim fun vs h=>⟨vs,h.1,aq4 h.2.1,E.one h.2.1,E.toRd h.2.1,χ,h.2.1⟩
theorem GB.le(h:GB X B b w x):B≤b:=h.elim fun _ h=>h.elim fun _ h=>h.2.2.2.2.1
theorem GB.lt(h:GB X B b w x):b<w.heap.size:=h.elim fun _ h=>h.elim fun _ h=>h.1.lt
theorem GB.xs(h:GB X B b w x){k:Nat}(hk:X k):k≠b∧k<w.heap.size:=h.elim fun _ h=>h.elim fun _ h=>(h.2.2.2.2.2 k hk).2
theorem GB.to(h:GB X B b w x)(g:d5 w w'):GB X B b w' x :=
 h.elim fun χ h=>h.elim fun vs h=>⟨χ,vs,h.1.to g,E.map h.2.1 (.to g),h.2.2.1,h.2.2.2.1.mono g.out.size,h.2.2.2.2.1,fun k hk=>⟨(h.2.2.2.2.2 k hk).1,(h.2.2.2.2.2 k hk).2.1,Nat.lt_of_lt_of_le (h.2.2.2.2.2 k hk).2.2 g.out.size⟩⟩
theorem GB.keep(h:GB X B b w x)(g:b8 B w w'):GB X B b w' x :=
 h.elim fun χ h=>h.elim fun vs h=>⟨χ,vs,by have h1:=h.1;unfold i9 at h1 ⊢;rw[g.block b h.2.2.2.2.1 h.1.lt];exact h1,E.map h.2.1 (.keep g),h.2.2.1,h.2.2.2.1.mono g.size,h.2.2.2.2.1,fun k hk=>⟨(h.2.2.2.2.2 k hk).1,(h.2.2.2.2.2 k hk).2.1,Nat.lt_of_lt_of_le (h.2.2.2.2.2 k hk).2.2 g.size⟩⟩
theorem GB.mono{B':Nat}(h:GB X B b w x)(g:B'≤B):GB X B' b w x :=
 h.elim fun χ h=>h.elim fun vs h=>⟨χ,vs,h.1,E.map h.2.1 (.mono g),h.2.2.1,h.2.2.2.1,Nat.le_trans g h.2.2.2.2.1,h.2.2.2.2.2⟩
theorem GB.of{χ:Nat→Col}{u z:World}{vs:List Value}(h:E.O B χ 0 u vs x)(k:b8 0 u z)(hB:B≤u.heap.size)(H:i9 z u.heap.size vs E.ty):GB (fun _=>False) B u.heap.size z x :=
 ⟨E9 u.heap.size χ (fun _=>(0,0)) (fun _=>(1000,0)),vs,H,E.map (E.map h (.old nl)) (.keep (k.more (Nat.zero_le _))),by rw[E9,if_neg (Nat.lt_irrefl _)];exact Nat.le_refl _,ay2 k.size,hB,fun _ h=>h.elim⟩
theorem GB.prot{P:Nat→Prop}{u:World}(h:GB X B b u x)(g:d5 u w)(hP:∀ k,P k→u.heap.size≤k∧k<w.heap.size):GB (fun k=>X k∨P k) B b w x:=by
 have hl:=h.lt
 obtain⟨χ,vs,h1,h2,h3,h4,h5,h6⟩:=h
 refine⟨χ,vs,h1.to g,E.map h2 (.to g),h3,h4.mono g.out.size,h5,fun k hk=>?_⟩
 rcases hk with hk|hk
 ·exact⟨(h6 k hk).1,(h6 k hk).2.1,Nat.lt_of_lt_of_le (h6 k hk).2.2 g.out.size⟩
 ·have:=hP k hk
  exact⟨h4 k this.1,by omega,this.2⟩
theorem bS0{χ:Nat→Col}{C:Col→Prop}(hF:Fr B χ C w w')(hC:∀ i,C i→i.1<1000){k:Nat}(hk:1000≤(χ k).1)(hl:k<w.heap.size):w'.heap[k]?=w.heap[k]? :=
 hF.block k hl fun e=>by have:=hC _ e.2;omega
theorem FS.c1000(F:FS α β):F.col<1000:=Nat.lt_of_lt_of_le F.clt E.nle
theorem GB.own(F:FS α β)(h:GB X B b w x):∃ a c,(∀ (W:World) [d5 w W],W.cell? ⟨b,F.off,none⟩=some (.slice a (F.get x).length c))∧Own E2.enc E2.ty E2.size B w a c (F.get x)∧(∀ s∈F.get x,E2.good s)∧RdS B w a c (F.get x):=by
 obtain⟨χ,vs,h1,h2,-⟩:=h
 obtain⟨a,c,hv,k⟩:=F.own h2
 exact⟨a,c,h1.cellG F.off _ hv,k.own,k.good,k.rd⟩
theorem GBp.app{n sc0:Nat}{u W W2:World}{p:β}{sa0 sa:Option Addr}{sc:Nat}(h:GB X B b u x)(hc0:u.cell? ⟨b,F.off,none⟩=some (.slice sa0 (F.get x).length sc0))(g:d5 u W)(hown:Own E2.enc E2.ty E2.size B W2 sa sc (F.get x++[p]))(hgr:W.grownBy W2 (Value.ownBlock (.slice sa0 n sc0)))
  (hblk:I5 sa=I5 sa0∨I5 sa=some W.heap.size) (hg:E2.good p):GBp F X B b W2 x (F.get x++[p]) sa sc∧∀ k,X k→W2.heap[k]?=W.heap[k]?:=by
 obtain⟨χ,vs,h1,h2,h3,h4,h5,h6⟩:=h
 obtain⟨a0,c0,hv,hO⟩:=F.own h2
 rw[h1.cell,hv]at hc0
 simp only[Option.some.injEq,Value.slice.injEq,true_and]at hc0
 obtain⟨rfl,rfl⟩:=hc0
 have hlu:=h1.lt
 have hF:=(hO.to g).wrote hgr
 have hc:=F.c1000
 have hsu:=g.out.size
 have hs:=hF.size
 have hlen:=aq4 h2
 have hX:∀ k,1000≤(χ k).1→k<u.heap.size→W2.heap[k]?=W.heap[k]?:=fun k hk hl=>bS0 hF (fun i e=>by rw[e];exact hc) hk (by omega)
 have hp:∀ k,k<W.heap.size→E9 W2.heap.size (E9 W.heap.size χ (fun _=>(F.col,0)) id) (fun _=>(0,0)) (fun _=>(1000,0)) k=χ k:=fun k hk=>by rw[E9,if_pos (by omega),E9,if_pos hk]
 refine⟨⟨E9 W2.heap.size (E9 W.heap.size χ (fun _=>(F.col,0)) id) (fun _=>(0,0)) (fun _=>(1000,0)),vs,?_,hlen,?_,?_,ay2 nl,h5,fun k hk=>⟨?_,(h6 k hk).2.1,by have:=(h6 k hk).2.2;omega⟩⟩,fun k hk=>hX k (h6 k hk).1 (h6 k hk).2.2⟩
 ·have h1':=h1.to g
  unfold i9 at h1' ⊢
  rw[hX b h3 hlu];exact h1'
 ·exact E.map (F.put (E.map (E.map h2 (.to g)) (.old nl)) (hF.old nl) ((hO.to g).app hown hblk hg)) (.old nl)
 ·rw[hp b (by omega)];exact h3
 ·rw[hp k (by have:=(h6 k hk).2.2;omega)];exact(h6 k hk).1
theorem GBp.new{u:World}{a:Option Addr}{c:Nat}{l:List β}(h:GB X B b u x)(g:d5 u w)(k:D0 u.heap.size (fun _=>(0,0)) (0,0) w a c l):GBp F X B b w x l a c:=by
 have hlu:=h.lt
 obtain⟨χ,vs,h1,h2,h3,h4,h5,h6⟩:=h
 have hs:=g.out.size
 have hp:∀ k,k<u.heap.size→E9 w.heap.size (E9 u.heap.size χ (fun _=>(0,0)) (fun _=>(F.col,0))) (fun _=>(0,0)) (fun _=>(1000,0)) k=χ k:=fun k hk=>by rw[E9,if_pos (by omega),E9,if_pos hk]
 refine⟨_,vs,h1.to g,aq4 h2,E.map (F.put (E.map (E.map h2 (.old (χ2:=fun _=>(0,0)) (f:=fun _=>(F.col,0)) nl)) (.to g)) (Fr.refl _ _ _ _) ((k.new (f:=fun _=>(F.col,0)) nl).mono (by omega))) (.old nl),?_,ay2 nl,h5,fun k hk=>⟨?_,(h6 k hk).2.1,Nat.lt_of_lt_of_le (h6 k hk).2.2 hs⟩⟩
 ·rw[hp b hlu];exact h3
 ·rw[hp k (h6 k hk).2.2];exact(h6 k hk).1
theorem GBq.new{u:World}{χ2:Nat→Col}(h:GB X B b u x)(g:d5 u w)(k:E3.O u.heap.size χ2 0 w us y):GBq D X B b w x us y:=by
 have hlu:=h.lt
 obtain⟨χ,vs,h1,h2,h3,h4,h5,h6⟩:=h
 have hs:=g.out.size
 have hp:∀ k,k<u.heap.size→E9 w.heap.size (E9 u.heap.size χ χ2 (D3 D.col)) (fun _=>(0,0)) (fun _=>(1000,0)) k=χ k:=fun k hk=>by rw[E9,if_pos (by omega),E9,if_pos hk]
 refine⟨_,vs,h1.to g,aq4 h2,aq4 k,E3.one k,E.map (D.put (E.map (E.map h2 (.old (χ2:=χ2) (f:=D3 D.col) nl)) (.to g)) (Fr.refl _ _ _ _) (E3.map (E3.map k (.new nl)) (.mono (by omega)))) (.old nl),?_,ay2 nl,h5,fun k hk=>⟨?_,(h6 k hk).2.1,Nat.lt_of_lt_of_le (h6 k hk).2.2 hs⟩⟩
 ·rw[hp b hlu];exact h3
 ·rw[hp k (h6 k hk).2.2];exact(h6 k hk).1
theorem bo2{χ:Nat→Col}{vs:List Value}(h:E.O B χ 0 w vs x)(hc:1000≤(χ b).1)(hB:B≤b)(g:w.grownBy w' (some b)):E.O B χ 0 w' vs x :=
 E.map h (.fr (C:=fun i=>i=χ b) ⟨g.os,g.tape,g.output,g.size,fun k hk hn=>g.block k hk (fun e=>hn (by cases e;exact⟨hB,rfl⟩))⟩ (fun j k _ h2 e=>by have:=E.nle;rw[← e]at hc;simp only at hc;omega))
end
section
variable {P:Program} {ops:Array Oper} {rest:List Oper} {op:Oper} {act:Act} {w w0:World} {Q:Exit→Act→World→Prop} {X:Nat→Prop} {B b:Nat} {α β δ:Type} [E:S7 α] [E2:D9 β] [E3:S7 δ] {x x':α} {F:FS α β} {D:FD α δ} {l:List β} {a:Option Addr} {c:Nat} {y:δ} {us:List Value}
theorem bz1(hgd:op.guard=none)(ty:TypeId)(p v:Operand)(ho:op.op=.store ty p v)(h:GBp F X B b w x l a c)(hx:act.eval p=.pointer (some ⟨b,F.off,none⟩))(hv:act.eval v=.slice a l.length c)(hi:(P.info? ty).map (·.size)=some 1)
  (g:d5 w0 w) (hb:w0.heap.size≤B) (K:∀ z:b5 w0,GB X B b z.w (F.set x l)→(∀ k,X k→z.w.heap[k]?=w.heap[k]?)→wpList P ops Q rest (act.put op.dst undef) z.w):wpList P ops Q (op::rest) act w:=by
 obtain⟨χ,vs,h1,hl,h2,h3,h4,h5,h6⟩:=h
 exact v8 hgd ty p v ho b F.off hx h1 (us:=[.slice a l.length c]) (cs2:=vs.set F.off (.slice a l.length c)) (by rw[hv];rfl) hi rfl (by have:=F.lt;rw[hl];exact this) rfl g (Nat.le_trans hb h5) fun z hz hk =>
  K z ⟨χ,_,hz,bo2 h2 h3 h5 (hk.grown1 g),h3,h4.mono (hk.grown1 g).size,h5,fun k hk'=>⟨(h6 k hk').1,(h6 k hk').2.1,Nat.lt_of_lt_of_le (h6 k hk').2.2 (hk.grown1 g).size⟩⟩ (fun k hk'=>(hk.grown1 g).block k (h6 k hk').2.2 (fun e=>(h6 k hk').2.1 (by cases e;rfl)))
theorem by8(hgd:op.guard=none)(ty:TypeId)(p v:Operand)(ho:op.op=.store ty p v)(h:GBq D X B b w x us y)(hx:act.eval p=.pointer (some ⟨b,D.off,none⟩))(hv:(act.eval v).cells.toList=us)(hi:(P.info? ty).map (·.size)=some us.length)
  (g:d5 w0 w) (hb:w0.heap.size≤B) (K:∀ z:b5 w0,GB X B b z.w (D.set x y)→(∀ k,X k→z.w.heap[k]?=w.heap[k]?)→wpList P ops Q rest (act.put op.dst undef) z.w):wpList P ops Q (op::rest) act w:=by
 obtain⟨χ,vs,h1,hl,hu,hu1,h2,h3,h4,h5,h6⟩:=h
 exact v8 hgd ty p v ho b D.off hx h1 (us:=us) (cs2:=S6 vs D.off us) hv hi hu1 (by have:=D.le;rw[hl,hu];exact this) rfl g (Nat.le_trans hb h5) fun z hz hk =>
  K z ⟨χ,_,hz,bo2 h2 h3 h5 (hk.grown1 g),h3,h4.mono (hk.grown1 g).size,h5,fun k hk'=>⟨(h6 k hk').1,(h6 k hk').2.1,Nat.lt_of_lt_of_le (h6 k hk').2.2 (hk.grown1 g).size⟩⟩ (fun k hk'=>(hk.grown1 g).block k (h6 k hk').2.2 (fun e=>(h6 k hk').2.1 (by cases e;rfl)))
theorem ax1{o:Nat}(x':α)(hgd:op.guard=none)(ty:TypeId)(p v:Operand)(ho:op.op=.store ty p v)(h:GB X B b w x)(hx:act.eval p=.pointer (some ⟨b,o,none⟩))(hv:(act.eval v).cells.toList=us)(hi:(P.info? ty).map (·.size)=some us.length)(h1:us.all (·.oneCell')=true)(hl:o+us.length≤E.size)
  (hm:∀ {χ vs w},E.O B χ 0 w vs x→E.O B χ 0 w (S6 vs o us) x') (g:d5 w0 w) (hb:w0.heap.size≤B) (K:∀ z:b5 w0,GB X B b z.w x'→(∀ k,X k→z.w.heap[k]?=w.heap[k]?)→wpList P ops Q rest (act.put op.dst undef) z.w):wpList P ops Q (op::rest) act w:=by
 obtain⟨χ,vs,h0,h2,h3,h4,h5,h6⟩:=h
 exact v8 hgd ty p v ho b o hx h0 (us:=us) (cs2:=S6 vs o us) hv hi h1 (by rw[aq4 h2];exact hl) rfl g (Nat.le_trans hb h5) fun z hz hk =>
  K z ⟨χ,_,hz,bo2 (hm h2) h3 h5 (hk.grown1 g),h3,h4.mono (hk.grown1 g).size,h5,fun k hk'=>⟨(h6 k hk').1,(h6 k hk').2.1,Nat.lt_of_lt_of_le (h6 k hk').2.2 (hk.grown1 g).size⟩⟩ (fun k hk'=>(hk.grown1 g).block k (h6 k hk').2.2 (fun e=>(h6 k hk').2.1 (by cases e;rfl)))
end
instance S7.iRecorder:S7 J0 where
 toR8:=inferInstance
 ty:=82
 n:=2
 one:=by rintro _ _ _ _ _ _ ⟨a0,c0,a1,c1,rfl,-⟩;rfl
 map:=by rintro _ _ _ _ _ _ _ _ _ _ ⟨a0,c0,a1,c1,rfl,h⟩ t;exact⟨a0,c0,a1,c1,rfl,t.c 0 (by decide) h.o0,t.c 1 (by decide) h.o1,h.ok⟩
 nle:=by decide
instance S7.iPacker:S7 R5 where
 toR8:=inferInstance
 ty:=85
 n:=1
 one:=by rintro _ _ _ _ _ _ ⟨a0,c0,rfl,-⟩;rfl
 map:=by rintro _ _ _ _ _ _ _ _ _ _ ⟨a0,c0,rfl,h⟩ t;exact⟨a0,c0,rfl,t.c 0 (by decide) h.o0,h.ok⟩
 nle:=by decide
instance S7.iSender:S7 R6 where
 toR8:=inferInstance
 ty:=69
 n:=1
 one:=by rintro _ _ _ _ _ _ ⟨a0,c0,rfl,-⟩;rfl
 map:=by rintro _ _ _ _ _ _ _ _ _ _ ⟨a0,c0,rfl,h⟩ t;exact⟨a0,c0,rfl,t.c 0 (by decide) h.o0,h.ok⟩
 nle:=by decide
instance S7.iBoard:S7 D5 where
 toR8:=inferInstance
 ty:=84
 n:=7
 one:=by rintro _ _ _ _ _ _ ⟨A,rfl,-⟩;rfl
 map:=by rintro _ _ _ _ _ _ _ _ _ _ ⟨A,rfl,h⟩ t;exact⟨A,rfl,t.c 0 (by decide) h.o0,t.c 1 (by decide) h.o1,t.c 2 (by decide) h.o2,t.c 3 (by decide) h.o3,t.c 4 (by decide) h.o4,t.c 5 (by decide) h.o5,t.c 6 (by decide) h.o6,h.ok⟩
 nle:=by decide
def ai9:FS D5 A4 where
 off:=4
 col:=2
 get:=(·.Orders)
 set:=fun x l=>{ x with Orders:=l }
 own:=by rintro _ _ _ _ _ ⟨A,rfl,h⟩;exact⟨_,_,rfl,h.o2⟩
 put:=by rintro _ _ _ _ _ _ a c _ ⟨A,rfl,h⟩ f k;exact⟨{ A with a2:=a,c2:=c },rfl,h.o0.fr f (by simp),h.o1.fr f (by simp),k,h.o3.fr f (by simp),h.o4.fr f (by simp),h.o5.fr f (by simp),h.o6.fr f (by simp),h.ok⟩
 lt:=by decide
 clt:=by decide
def ay0:FS D5 aa5 where
 off:=5
 col:=3
 get:=(·.Done)
 set:=fun x l=>{ x with Done:=l }
 own:=by rintro _ _ _ _ _ ⟨A,rfl,h⟩;exact⟨_,_,rfl,h.o3⟩
 put:=by rintro _ _ _ _ _ _ a c _ ⟨A,rfl,h⟩ f k;exact⟨{ A with a3:=a,c3:=c },rfl,h.o0.fr f (by simp),h.o1.fr f (by simp),h.o2.fr f (by simp),k,h.o4.fr f (by simp),h.o5.fr f (by simp),h.o6.fr f (by simp),h.ok⟩
 lt:=by decide
 clt:=by decide
instance S7.iFileOut:S7 j7 where
 toR8:=inferInstance
 ty:=155
 n:=1
 one:=by rintro _ _ _ _ _ _ ⟨a0,c0,rfl,-⟩;rfl
 map:=by rintro _ _ _ _ _ _ _ _ _ _ ⟨a0,c0,rfl,h⟩ t;exact⟨a0,c0,rfl,t.c 0 (by decide) h.o0,h.ok⟩
 nle:=by decide
instance S7.iFileIn:S7 D4 where
 toR8:=inferInstance
 ty:=150
 n:=1
 one:=by rintro _ _ _ _ _ _ ⟨a0,c0,rfl,-⟩;rfl
 map:=by rintro _ _ _ _ _ _ _ _ _ _ ⟨a0,c0,rfl,h⟩ t;exact⟨a0,c0,rfl,t.c 0 (by decide) h.o0,h.ok⟩
 nle:=by decide
section
variable {α β δ:Type} [E:S7 α] [E2:D9 β] {X:Nat→Prop} {B b:Nat} {w w':World} {x:α} {F:FS α β} {l:List β} {a:Option Addr} {c:Nat}
theorem ac0{χ:Nat→Col}{B0 k:Nat}{u z:World}{vs:List Value}(h:E.O B χ 0 u vs x)(hk:But k u z)(hb:k<B)(h0:B0≤B):E.O B0 χ 0 z vs x:=E.map (E.map h (.keep (hk.keeps hb))) (.mono h0)
theorem ar4{χ:Nat→Col}{u z:World}{vs:List Value}(h:E.O B χ 0 u vs x)(g:d5 u z):E.O B χ 0 z vs x:=E.map h (.to g)
end
section
variable {P:Program} {ops:Array Oper} {rest:List Oper} {op:Oper} {act:Act} {w w0:World} {Q:Exit→Act→World→Prop} {X:Nat→Prop} {B b:Nat} {α β:Type} [E:S7 α] [E2:D9 β] {x:α} {F:FS α β} {l:List β} {a:Option Addr} {c n:Nat}
theorem aX4{α:Type}{l:List α}{n:Nat}{y:α}(h:l.length=n):(l++[y]).length=n+1:=by rw[List.length_append,h];rfl
theorem by9(hn:l.length=n)(hgd:op.guard=none)(ty:TypeId)(p v:Operand)(ho:op.op=.store ty p v)(h:GBp F X B b w x l a c)(hx:act.eval p=.pointer (some ⟨b,F.off,none⟩))(hv:act.eval v=.slice a n c)(hi:(P.info? ty).map (·.size)=some 1)
  (g:d5 w0 w) (hb:w0.heap.size≤B) (K:∀ z:b5 w0,GB X B b z.w (F.set x l)→wpList P ops Q rest (act.put op.dst undef) z.w):wpList P ops Q (op::rest) act w :=
 bz1 hgd ty p v ho h hx (by rw[hn];exact hv) hi g hb fun z h1 _=>K z h1
end
def bP6:List Value→Value
 | [.tuple t]=>t.getD 0 undef
 | _=>undef
def bP8:List Value→Value
 | [.tuple t]=>t.getD 1 undef
 | _=>undef
def bP7:List Value→Value
 | [v]=>v
 | _=>undef
def bb6{α:Type}[E:S7 α](B:Nat)(x:α)(b:Bool)(v:Value)(w:World):Prop:=∃ (vs:List Value) (χ:Nat→Col),v=.tuple #[.agg vs.toArray,.bool b]∧E.O B χ 0 w vs x
def bR4{α:Type}[E:S7 α](B:Nat)(x:α)(b:Bool):Ent Gr:=.of (bb6 B x b) (fun _ _ _ g ⟨vs,χ,e,h⟩=>⟨vs,χ,e,E.map h (.to ⟨g⟩)⟩)
def isO{α:Type}[E:S7 α](B:Nat)(x:α)(v:Value)(w:World):Prop:=∃ (vs:List Value) (χ:Nat→Col),v=.agg vs.toArray∧E.O B χ 0 w vs x
def bU5{α:Type}[E:S7 α](B:Nat)(x:α):Ent Gr:=.of (isO B x) (fun _ _ _ g ⟨vs,χ,e,h⟩=>⟨vs,χ,e,E.map h (.to ⟨g⟩)⟩)
theorem Own.heldB{α:Type}{T size g B c:Nat}{w:World}{enc:α→List Value}{l:List α}(h:Own enc T size B w (some ⟨g,0,none⟩) c l):∃ cs:List Value,i9 w g cs T∧l.length*size≤cs.length:=by
 obtain⟨hsz,-,⟨hv,hn0⟩|⟨g',cap,cur,hv,hB,hheap,hle,hmax,hcs,-⟩⟩:=h
 ·simp at hv
 ·simp only[Value.slice.injEq,Option.some.injEq,Addr.mk.injEq]at hv
  obtain⟨⟨rfl,-,-⟩,-,rfl⟩:=hv
  refine⟨cur.toList,by unfold i9;simpa using hheap,?_⟩
  rw[show cur.toList.length=cur.size by simp,hcs];exact Nat.mul_le_mul_right _ hle
theorem GBp.same{α β:Type}[E:S7 α][E2:D9 β]{F:FS α β}{X:Nat→Prop}{B b:Nat}{w:World}{x:α}{l:List β}{a:Option Addr}{c:Nat}(h:GBp F X B b w x l a c)(hc:w.cell? ⟨b,F.off,none⟩=some (.slice a l.length c)):GB X B b w (F.set x l):=by
 obtain⟨χ,vs,h1,-,h3,h4,h5,h6,h7⟩:=h
 rw[h1.cell]at hc
 obtain⟨hl,he⟩:=List.getElem?_eq_some_iff.1 hc
 rw[← he,List.set_getElem_self]at h3
 exact⟨χ,vs,h1,h3,h4,h5,h6,h7⟩
section
variable {P:Program} {ops:Array Oper} {rest:List Oper} {op:Oper} {act:Act} {w w0:World} {Q:Exit→Act→World→Prop} {X:Nat→Prop} {B b:Nat} {α β:Type} [E:S7 α] [E2:D9 β] {x:α}
end
theorem ay3{B:Nat}{u v:World}(g:d5 u v):b8 B u v:=⟨g.out.size,fun k _ h2=>g.out.block k h2⟩
theorem ax2{P:Program}{ops:Array Oper}{rest:List Oper}{op:Oper}{act:Act}{w w0:World}{Q:Exit→Act→World→Prop}{X:Nat→Prop}{B b:Nat}{α β:Type}[E:S7 α][E2:D9 β]{x:α}{F:FS α β}{l:List β}{a:Option Addr}{c n:Nat}(hn:l.length=n)(hgd:op.guard=none)(ty:TypeId)(p v:Operand)(ho:op.op=.store ty p v)(h:GBp F X B b w x l a c)(hx:act.eval p=.pointer (some ⟨b,F.off,none⟩))(hv:act.eval v=.slice a n c)(hi:(P.info? ty).map (·.size)=some 1)
  (g:d5 w0 w) (hb:w0.heap.size≤B) (K:∀ z:b5 w0,GB X B b z.w (F.set x l)→(∀ k,X k→z.w.heap[k]?=w.heap[k]?)→wpList P ops Q rest (act.put op.dst undef) z.w):wpList P ops Q (op::rest) act w :=
 bz1 hgd ty p v ho h hx (by rw[hn];exact hv) hi g hb K
theorem aF2{α:Type}{enc:α→List Value}{T size B:Nat}{w W W2:World}{a:Option Addr}{c:Nat}{l:List α}{row:Option Nat}(h:Own enc T size B w a c l)(g:d5 w W)(hg:W.grownBy W2 row)(hne:∀ k,I5 a=some k→row≠some k):Own enc T size B W2 a c l :=
 h.same (fun k hk _ hl=>(hg.block k (Nat.lt_of_lt_of_le hl g.out.size) (fun e=>hne k hk e.symm)).trans (g.out.block k hl))
theorem bG5{t:Int}{l r:List s6}{x:s6}{D:List s6}{F:List s6}(h:D++ag1 t l=F)(hd:l=x::r)(hx:aA6 t x=true):(D++[x])++ag1 t r=F:=by
 rw[← h,hd];simp[ag1,List.filter_cons,hx]
theorem bM9{t:Int}{l r:List s6}{x:s6}{D F:List s6}(h:D++ag1 t l=F)(hd:l=x::r)(hx:aA6 t x=false):D++ag1 t r=F:=by
 rw[← h,hd];simp[ag1,List.filter_cons,hx]
theorem bk3{t:Int}{l r:List s6}{x:s6}{D F:List s6}(h:D++W5 t l=F)(hd:l=x::r)(hx:aA6 t x=false):(D++[x])++W5 t r=F:=by
 rw[← h,hd];simp[W5,List.filter_cons,hx]
theorem bw8{t:Int}{l r:List s6}{x:s6}{D F:List s6}(h:D++W5 t l=F)(hd:l=x::r)(hx:aA6 t x=true):D++W5 t r=F:=by
 rw[← h,hd];simp[W5,List.filter_cons,hx]
def bG0{α:Type}(f:s6→α)(enc:α→List Value)(T size:Nat)(w:World)(l:List s6)(t:Int):Ending→World→Prop:=fun e w'=>∃ (da la:Option Addr) (dc lc:Nat),e=.returned (.tuple #[.slice da (ag1 t l).length dc,.slice la (W5 t l).length lc])∧Own enc T size w.heap.size w' da dc ((ag1 t l).map f)∧Own E0 124 2 w.heap.size w' la lc (W5 t l)∧(∀ j,I5 da=some j→I5 la≠some j)∧∃ y:b5 w,w'=y.w
theorem aV3{B:Nat}{a:Option Addr}{c:Nat}{t:Int}{l:List s6}{w:World}(hs:RdS B w a c l)(hm:l.length≤100000000):Calls Tryz.prog 34 #[.slice a l.length c,.int .i64 t] w (bG0 id E0 124 2 w l t):=by
 obtain⟨n,hn⟩:∃ n,l.length=n:=⟨_,rfl⟩
 have HN:=lH hn
 rw[hn]at hm ⊢
 clear hn
 go_enter Tryz.func34,Tryz.ntmps34
 go_wp2_with (fail)
 go_loopw [6,7,12] (fun u v i wr=>∃ (k p q:Nat) (D L:List s6) (da la:Option Addr) (dc lc:Nat),u=.slice da p dc∧v=.slice la q lc∧i=.int .i64 k∧k≤n∧p≤k∧q≤k∧D.length=p∧L.length=q∧Hid (D++ag1 t (l.drop k)=ag1 t l)∧Hid (L++W5 t (l.drop k)=W5 t l)∧Hid (Own E0 124 2 w.heap.size wr da dc (D.map id))∧Hid (Own E0 124 2 w.heap.size wr la lc L)∧Hid (∀ j,I5 da=some j→I5 la≠some j)∧∃ y:b5 w,wr=y.w) (fun _ _ i _=>(n - intOf i).toNat)
 case atStart=>exact⟨0,0,0,[],[],none,none,0,0,rfl,rfl,rfl,Nat.zero_le _,Nat.le_refl _,Nat.le_refl _,rfl,rfl,rfl,rfl,lH (Own.nil ah5),lH (Own.nil ah5),lH (fun j hj=>by cases hj),b5.of⟩
 case round =>
  obtain⟨k,p,q,D,L,da,la,dc,lc,rfl,rfl,rfl,hk,hp,hq,hD,hL,HF,HG,HDO,HLO,HDJ,y,rfl⟩:=hrel
  by_cases h:k<n
  ·obtain⟨eb,eoff,es,rfl,ehb,ehd,eok,eh0,eh1⟩:=hs.atTFlight (show k<l.length by rw[HN.out];exact h)
   clear eok
   have hDm:(D.map id).length=p:=by rw[List.length_map];exact hD
   have hpb:p≤1000000000:=by omega
   have hqb:q≤1000000000:=by omega
   cases c1:decide (es.At≤t)
   ·have hx:aA6 t es=false:=c1
    have HX:=lH hx
    clear hx
    go_wp2_with (first|(at_builtin;refine X9 (enc:=E0) (w0:=w) (z:=.agg #[.int .i64 0,.string ⟨#[]⟩]) (size:=2) (bytes:=24) (n:=q) (es) rfl (.tmp 24) (.tmp 26) rfl Tryz.underlying66 kr rfl (by decide) (by decide) rfl rfl hL (HLO.out.to ii) bk rfl (ah6 _) (by omega) LeN.out ii nl ?_;intro sa6 sc6 x6 ho6 hg6 hb6))
    have hD6:=aF2 HDO.out (ii) hg6 (fun k hk e=>HDJ.out k hk (by rw[E8]at e;exact e))
    have hdj:∀ j,I5 da=some j→I5 sa6≠some j:=fun j hj hl=>hb6.elim (fun e=>HDJ.out j hj (e▸hl)) (fun e=>by rw[e]at hl;cases hl;exact absurd (HDO.out.blk _ hj).2 (Nat.not_lt.2 (ii:d5 y.w _).out.size))
    have HD6:=lH hD6;have HDJ6:=lH hdj;have HO6:=lH ho6
    clear hD6 hdj ho6 hg6 hb6
    skip
    go_roundw
    case rel=>exact⟨k+1,p,q+1,D,L++[es],da,sa6,dc,sc6,rfl,rfl,by go_num,by omega,by omega,by omega,hD,by simp[hL],lH (bM9 HF.out ehd.out HX.out),lH (bk3 HG.out ehd.out HX.out),HD6.out.to ii,HO6.out.to ii,HDJ6,b5.of⟩
    case measure=>simp[intOf];omega
   ·have hx:aA6 t es=true:=c1
    have HX:=lH hx
    clear hx
    go_wp2_with (first|(at_builtin;refine X9 (enc:=E0) (w0:=w) (z:=.agg #[.int .i64 0,.string ⟨#[]⟩]) (size:=2) (bytes:=24) (n:=p) (es) rfl (.tmp 20) (.tmp 22) rfl Tryz.underlying66 kr rfl (by decide) (by decide) rfl rfl hDm (HDO.out.to ii) bk rfl (ah6 _) (by omega) LeN.out ii nl ?_;intro sa6 sc6 x6 ho6 hg6 hb6))
    have hL6:=aF2 HLO.out (ii) hg6 (fun k hk e=>HDJ.out k (by rw[E8]at e;exact e) hk)
    have hdj:∀ j,I5 sa6=some j→I5 la≠some j:=fun j hj hl=>hb6.elim (fun e=>HDJ.out j (e▸hj) hl) (fun e=>by rw[e]at hj;cases hj;exact absurd (HLO.out.blk _ hl).2 (Nat.not_lt.2 (ii:d5 y.w _).out.size))
    have HL6:=lH hL6;have HDJ6:=lH hdj;have HO6:=lH (show Own E0 124 2 w.heap.size x6.w sa6 sc6 ((D++[es]).map id)by rw[List.map_append];exact ho6)
    clear hL6 hdj ho6 hg6 hb6
    go_roundw
    case rel=>exact⟨k+1,p+1,q,D++[es],L,sa6,la,sc6,lc,rfl,rfl,by go_num,by omega,by omega,by omega,by simp[hD],hL,lH (bG5 HF.out ehd.out HX.out),lH (bw8 HG.out ehd.out HX.out),HO6.out.to ii,HL6.out.to ii,HDJ6,b5.of⟩
    case measure=>simp[intOf];omega
  ·obtain rfl:k=n:=by omega
   have hf:D=ag1 t l:=by have:=HF.out;rw[List.drop_of_length_le (by rw[HN.out];exact Nat.le_refl _)]at this;simpa[ag1]using this
   have hg:L=W5 t l:=by have:=HG.out;rw[List.drop_of_length_le (by rw[HN.out];exact Nat.le_refl _)]at this;simpa[W5]using this
   have HDF:=lH hf;have HLF:=lH hg
   clear hf hg
   go_wp2_with (fail)
   refine bodyPost_ret (v:=.tuple #[.slice da p dc,.slice la q lc]) ?_ rfl ⟨da,la,dc,lc,by rw[← HDF.out,← HLF.out,hD,hL],by rw[← HDF.out];exact HDO.out.to ii,by rw[← HLF.out];exact HLO.out.to ii,HDJ.out,b5.of⟩
   simp[results,Tryz.results34,go_sem]
theorem bf5{B:Nat}{a:Option Addr}{c:Nat}{t:Int}{l:List s6}{w:World}(hs:RdS B w a c l)(hm:l.length≤100000000):Calls Tryz.prog 18 #[.slice a l.length c,.int .i64 t] w (bG0 s6.Data R3 9 1 w l t):=by
 obtain⟨n,hn⟩:∃ n,l.length=n:=⟨_,rfl⟩
 have HN:=lH hn
 rw[hn]at hm ⊢
 clear hn
 go_enter Tryz.func18,Tryz.ntmps18
 go_wp2_with (fail)
 go_loopw [6,7,8] (fun u v i wr=>∃ (k p q:Nat) (D L:List s6) (da la:Option Addr) (dc lc:Nat),u=.slice da p dc∧v=.slice la q lc∧i=.int .i64 k∧k≤n∧p≤k∧q≤k∧D.length=p∧L.length=q∧Hid (D++ag1 t (l.drop k)=ag1 t l)∧Hid (L++W5 t (l.drop k)=W5 t l)∧Hid (Own R3 9 1 w.heap.size wr da dc (D.map s6.Data))∧Hid (Own E0 124 2 w.heap.size wr la lc L)∧Hid (∀ j,I5 da=some j→I5 la≠some j)∧∃ y:b5 w,wr=y.w) (fun _ _ i _=>(n - intOf i).toNat)
 case atStart=>exact⟨0,0,0,[],[],_,_,0,0,rfl,rfl,rfl,Nat.zero_le _,Nat.le_refl _,Nat.le_refl _,rfl,rfl,rfl,rfl,lH ((Own.emptyAt (W:=w) aJ1 nl rfl).to ii),lH (Own.emptyAt (W:=w.alloc (.cells #[] 9)) ah5 LeN.out (by simp)),lH (fun j hj e=>by simp[I5]at hj e;omega),b5.of⟩
 case round =>
  obtain⟨k,p,q,D,L,da,la,dc,lc,rfl,rfl,rfl,hk,hp,hq,hD,hL,HF,HG,HDO,HLO,HDJ,y,rfl⟩:=hrel
  by_cases h:k<n
  ·obtain⟨eb,eoff,es,rfl,ehb,ehd,eok,eh0,eh1⟩:=hs.atTFlight (show k<l.length by rw[HN.out];exact h)
   clear eok
   have hDm:(D.map s6.Data).length=p:=by rw[List.length_map];exact hD
   have hpb:p≤1000000000:=by omega
   have hqb:q≤1000000000:=by omega
   cases c1:decide (es.At≤t)
   ·have hx:aA6 t es=false:=c1
    have HX:=lH hx
    clear hx
    go_wp2_with (first|(at_builtin;refine X9 (enc:=E0) (w0:=w) (z:=.agg #[.int .i64 0,.string ⟨#[]⟩]) (size:=2) (bytes:=24) (n:=q) (es) rfl (.tmp 32) (.tmp 37) rfl Tryz.underlying66 kr rfl (by decide) (by decide) rfl rfl hL (HLO.out.to ii) bk rfl (ah6 _) (by omega) LeN.out ii nl ?_;intro sa6 sc6 x6 ho6 hg6 hb6))
    have hD6:=aF2 HDO.out (ii) hg6 (fun k hk e=>HDJ.out k hk (by rw[E8]at e;exact e))
    have hdj:∀ j,I5 da=some j→I5 sa6≠some j:=fun j hj hl=>hb6.elim (fun e=>HDJ.out j hj (e▸hl)) (fun e=>by rw[e]at hl;cases hl;exact absurd (HDO.out.blk _ hj).2 (Nat.not_lt.2 (ii:d5 y.w _).out.size))
    have HD6:=lH hD6;have HDJ6:=lH hdj;have HO6:=lH ho6
    clear hD6 hdj ho6 hg6 hb6
    skip
    go_roundw
    case rel=>exact⟨k+1,p,q+1,D,L++[es],da,sa6,dc,sc6,rfl,rfl,by go_num,by omega,by omega,by omega,hD,by simp[hL],lH (bM9 HF.out ehd.out HX.out),lH (bk3 HG.out ehd.out HX.out),HD6.out.to ii,HO6.out.to ii,HDJ6,b5.of⟩
    case measure=>simp[intOf];omega
   ·have hx:aA6 t es=true:=c1
    have HX:=lH hx
    clear hx
    go_wp2_with (first|(at_builtin;refine X9 (enc:=R3) (w0:=w) (z:=.string ⟨#[]⟩) (size:=1) (bytes:=16) (n:=p) (es.Data) rfl (.tmp 24) (.tmp 30) rfl Tryz.underlying30 kr rfl (by decide) (by decide) rfl rfl hDm (HDO.out.to ii) bk rfl (as6 _) (by omega) LeN.out ii nl ?_;intro sa6 sc6 x6 ho6 hg6 hb6))
    have hL6:=aF2 HLO.out (ii) hg6 (fun k hk e=>HDJ.out k (by rw[E8]at e;exact e) hk)
    have hdj:∀ j,I5 sa6=some j→I5 la≠some j:=fun j hj hl=>hb6.elim (fun e=>HDJ.out j (e▸hj) hl) (fun e=>by rw[e]at hj;cases hj;exact absurd (HLO.out.blk _ hl).2 (Nat.not_lt.2 (ii:d5 y.w _).out.size))
    have HL6:=lH hL6;have HDJ6:=lH hdj;have HO6:=lH (show Own R3 9 1 w.heap.size x6.w sa6 sc6 ((D++[es]).map s6.Data)by rw[List.map_append];exact ho6)
    clear hL6 hdj ho6 hg6 hb6
    go_roundw
    case rel=>exact⟨k+1,p+1,q,D++[es],L,sa6,la,sc6,lc,rfl,rfl,by go_num,by omega,by omega,by omega,by simp[hD],hL,lH (bG5 HF.out ehd.out HX.out),lH (bw8 HG.out ehd.out HX.out),HO6.out.to ii,HL6.out.to ii,HDJ6,b5.of⟩
    case measure=>simp[intOf];omega
  ·obtain rfl:k=n:=by omega
   have hf:D=ag1 t l:=by have:=HF.out;rw[List.drop_of_length_le (by rw[HN.out];exact Nat.le_refl _)]at this;simpa[ag1]using this
   have hg:L=W5 t l:=by have:=HG.out;rw[List.drop_of_length_le (by rw[HN.out];exact Nat.le_refl _)]at this;simpa[W5]using this
   have HDF:=lH hf;have HLF:=lH hg
   clear hf hg
   go_wp2_with (fail)
   refine bodyPost_ret (v:=.tuple #[.slice da p dc,.slice la q lc]) ?_ rfl ⟨da,la,dc,lc,by rw[← HDF.out,← HLF.out,hD,hL],by rw[← HDF.out];exact HDO.out.to ii,by rw[← HLF.out];exact HLO.out.to ii,HDJ.out,b5.of⟩
   simp[results,Tryz.results18,go_sem]
instance S7.iMission:S7 f5 where
 toR8:=inferInstance
 ty:=90
 n:=22
 one:=by rintro _ _ _ _ _ _ ⟨A,rfl,-⟩;rfl
 map:=by rintro _ _ _ _ _ _ _ _ _ _ ⟨A,rfl,h⟩ t;exact⟨A,rfl,t.c 0 (by decide) h.o0,t.c 1 (by decide) h.o1,t.c 2 (by decide) h.o2,t.c 3 (by decide) h.o3,t.c 4 (by decide) h.o4,t.c 5 (by decide) h.o5,t.c 6 (by decide) h.o6,h.o7.elim fun r hr=>⟨r,hr.1,t.r 7 (by decide) hr.2⟩,t.c 8 (by decide) h.o8,t.c 9 (by decide) h.o9,t.c 10 (by decide) h.o10,t.c 11 (by decide) h.o11,t.c 12 (by decide) h.o12,t.c 13 (by decide) h.o13,t.c 14 (by decide) h.o14,t.c 15 (by decide) h.o15,t.c 16 (by decide) h.o16,t.c 17 (by decide) h.o17,h.o18.elim fun r hr=>⟨r,hr.1,t.r 18 (by decide) hr.2⟩,t.c 19 (by decide) h.o19,t.c 20 (by decide) h.o20,t.c 21 (by decide) h.o21,h.ok⟩
 nle:=by decide
def bL4:FS f5 s6 where
 off:=14
 col:=1
 get:=(·.Ups)
 set:=fun x l=>{ x with Ups:=l }
 own:=by rintro _ _ _ _ _ ⟨A,rfl,h⟩;exact⟨_,_,rfl,h.o1⟩
 put:=by rintro _ _ _ _ _ _ a c _ ⟨A,rfl,h⟩ f k;exact⟨{ A with a1:=a,c1:=c },rfl,h.put1 f k⟩
 lt:=by decide
 clt:=by decide
def bH5:FS f5 ByteArray where
 off:=59
 col:=21
 get:=(·.Took)
 set:=fun x l=>{ x with Took:=l }
 own:=by rintro _ _ _ _ _ ⟨A,rfl,h⟩;exact⟨_,_,rfl,h.o21⟩
 put:=by rintro _ _ _ _ _ _ a c _ ⟨A,rfl,h⟩ f k;exact⟨{ A with a21:=a,c21:=c },rfl,h.put21 f k⟩
 lt:=by decide
 clt:=by decide
def bN5:FD f5 D5 where
 off:=37
 col:=9
 get:=(·.Space.Board)
 set:=fun x y=>{ x with Space.Board:=y }
 own:=by rintro _ _ _ _ _ ⟨A,rfl,h⟩;exact⟨⟨A.a9,A.c9,A.a10,A.c10,A.a11,A.c11,A.a12,A.c12,A.a13,A.c13,A.a14,A.c14,A.a15,A.c15⟩,rfl,h.o9,h.o10,h.o11,h.o12,h.o13,h.o14,h.o15,h.ok.2.2.2.2.2.2.2.1.2.1⟩
 put:=by
  rintro _ _ _ _ _ _ _ _ ⟨A,rfl,h⟩ f ⟨A2,rfl,k⟩
  exact⟨{ A with a9:=A2.a0,c9:=A2.c0,a10:=A2.a1,c10:=A2.c1,a11:=A2.a2,c11:=A2.c2,a12:=A2.a3,c12:=A2.c3,a13:=A2.a4,c13:=A2.c4,a14:=A2.a5,c14:=A2.c5,a15:=A2.a6,c15:=A2.c6 },rfl,h.o0.fr f (by simp[S7.n]),h.o1.fr f (by simp[S7.n]),h.o2.fr f (by simp[S7.n]),h.o3.fr f (by simp[S7.n]),h.o4.fr f (by simp[S7.n]),h.o5.fr f (by simp[S7.n]),h.o6.fr f (by simp[S7.n]),h.o7.elim fun r hr=>⟨r,hr.1,hr.2.fr f (by simp[S7.n])⟩,h.o8.fr f (by simp[S7.n]),k.o0,k.o1,k.o2,k.o3,k.o4,k.o5,k.o6,h.o16.fr f (by simp[S7.n]),h.o17.fr f (by simp[S7.n]),h.o18.elim fun r hr=>⟨r,hr.1,hr.2.fr f (by simp[S7.n])⟩,h.o19.fr f (by simp[S7.n]),h.o20.fr f (by simp[S7.n]),h.o21.fr f (by simp[S7.n]),by have q:=h.ok;exact⟨q.1,q.2.1,q.2.2.1,q.2.2.2.1,q.2.2.2.2.1,q.2.2.2.2.2.1,q.2.2.2.2.2.2.1,⟨q.2.2.2.2.2.2.2.1.1,k.ok,q.2.2.2.2.2.2.2.1.2.2⟩,q.2.2.2.2.2.2.2.2⟩⟩
 le:=by decide
 cle:=by decide
structure FN(α β:Type){γ:Type}[A:S7 α][N:ao2 β γ][D9 γ] where
 off:Nat
 col:Nat
 get:α→List β
 set:α→List β→α
 own:∀ {B χ w vs x},A.O B χ 0 w vs x→∃ (a:Option Addr) (c:Nat) (rows:List (N7 β)),vs[off]?=some (.slice a (get x).length c)∧rows.map (·.x)=get x∧M9 B χ col w a c rows
 put:∀ {B χ w w2 vs x a c} {rows:List (N7 β)} {l:List β},A.O B χ 0 w vs x→Fr B χ (fun i=>i.1=col) w w2→vs[off]?=some (.slice a (get x).length c)→rows.map (·.x)=l→l.length=(get x).length→M9 B χ col w2 a c rows→A.O B χ 0 w2 vs (set x l)
 clt:col<A.n
theorem bP9{X:Nat→Prop}{B b:Nat}{w:World}{m:f5}(h:GB X B b w m):∀ (W:World) [d5 w W],W.cell? ⟨b,0,none⟩=some (.int .i64 m.Time):=by
 obtain⟨vs,hH,-,-,hR,-⟩:=h.vs
 obtain⟨A,rfl,-⟩:=hR
 exact hH.cellG 0 _ rfl
theorem aq2{X:Nat→Prop}{B b:Nat}{w:World}{m:f5}(h:GB X B b w m):∃ (vs:List Value) (A:I9),i9 w b vs 90∧vs=[.int .i64 m.Time,.int .i64 m.Light,.int .i64 m.Drift.Rate,.int .i64 m.Drift.Offset,.int .i64 m.Orbit.Period,.int .i64 m.Orbit.Start,.int .i64 m.Orbit.Length,.slice A.a0 m.Plan.length A.c0,.int .i64 m.Up.Seed,.int .i64 m.Up.Burst,.int .i64 m.Up.Loss,.int .i64 m.Down.Seed,.int .i64 m.Down.Burst,.int .i64 m.Down.Loss,.slice A.a1 m.Ups.length A.c1,.slice A.a2 m.Downs.length A.c2,.slice A.a3 m.Ground.Offers.length A.c3,.int .i64 m.Ground.Sender.Next,.int .i64 m.Ground.Sender.Window,.slice A.a4 m.Ground.Sender.Waiting.length A.c4,.int .i64 m.Ground.Sender.Done,.int .i64 m.Ground.Notice.Expect,.bool m.Ground.Notice.Locked,.bool m.Ground.Notice.Again,.int .i64 m.Ground.Unpacker.Channel,.int .i64 m.Ground.Unpacker.Next,.bool m.Ground.Unpacker.Synced,.string m.Ground.Unpacker.Rest,.int .i64 m.Ground.Unpacker.Lost,.slice A.a5 m.Ground.Pairs.length A.c5,.slice A.a6 m.Ground.Records.length A.c6,.slice A.a7 m.Ground.Files.length A.c7,.slice A.a8 m.Ground.Told.length A.c8,.int .i64 m.Space.Receiver.Expect,.bool m.Space.Receiver.Locked,.bool m.Space.Receiver.Again,.int .i64 m.Space.Receiver.Taken,.int .i64 m.Space.Board.Clock,.slice A.a9 m.Space.Board.Params.length A.c9,.bool m.Space.Board.Safe,.slice A.a10 m.Space.Board.Limits.length A.c10,.slice A.a11 m.Space.Board.Orders.length A.c11,.slice A.a12 m.Space.Board.Done.length A.c12,.int .i64 m.Space.Board.Recorder.Room,.slice A.a13 m.Space.Board.Recorder.Records.length A.c13,.slice A.a14 m.Space.Board.Recorder.Dropped.length A.c14,.int .i64 m.Space.Board.Made,.int .i64 m.Space.Board.Taken,.slice A.a15 m.Space.Board.Asked.length A.c15,.int .i64 m.Space.Packer.Channel,.int .i64 m.Space.Packer.Count,.string m.Space.Packer.Rest,.slice A.a16 m.Space.Packer.Starts.length A.c16,.int .i64 m.Space.Seq,.slice A.a17 m.Space.Files.length A.c17,.slice A.a18 m.Space.Outs.length A.c18,.int .i64 m.Space.Begun,.slice A.a19 m.Space.Sent.length A.c19,.slice A.a20 m.Offered.length A.c20,.slice A.a21 m.Took.length A.c21,.int .i64 m.Bad]∧ad8 B w A m:=by
 obtain⟨vs,hH,-,-,⟨A,hv,F⟩,-⟩:=h.vs
 exact⟨vs,A,hH,hv,F⟩
theorem GB.ownN{α β γ:Type}[E:S7 α][N:ao2 β γ][E2:D9 γ]{X:Nat→Prop}{B b:Nat}{w:World}{x:α}(F:FN α β)(h:GB X B b w x):∃ a c,(∀ (W:World) [d5 w W],W.cell? ⟨b,F.off,none⟩=some (.slice a (F.get x).length c))∧(0<(F.get x).length→∃ g,a=some ⟨g,0,none⟩):=by
 obtain⟨χ,vs,h1,h2,-⟩:=h
 obtain⟨a,c,rows,hv,hx,k⟩:=F.own h2
 refine⟨a,c,h1.cellG F.off _ hv,fun h0=>?_⟩
 obtain⟨-,-,⟨hv1,hn1⟩|⟨g,cap,cur,hv1,-⟩⟩:=k.own
 ·rw[← hx,List.length_map]at h0;omega
 ·simp only[Value.slice.injEq]at hv1;exact⟨g,hv1.1⟩
theorem bj7{w w':World}{b:Nat}(h:w'.heap[b]?=w.heap[b]?)(o:Nat):w'.cell? ⟨b,o,none⟩=w.cell? ⟨b,o,none⟩:=by
 simp only[World.cell?,h]
section
variable {P:Program} {ops:Array Oper} {rest:List Oper} {op:Oper} {act:Act} {u w w0:World} {Q:Exit→Act→World→Prop} {X:Nat→Prop} {B b:Nat} {α β γ:Type} [E:S7 α] [N:ao2 β γ] [E2:D9 γ] {x:α}
theorem bz0{q j c:Nat}{y:β}{ra:Option Addr}{rc:Nat}{i0:Col}{χ2:Nat→Col}(F:FN α β)(hgd:op.guard=none)(ty:TypeId)(p v:Operand)(ho:op.op=.store ty p v)(h:GB X B b u x)(g:d5 u w)(hc:u.cell? ⟨b,F.off,none⟩=some (.slice (some ⟨q,0,none⟩) (F.get x).length c))
  (hj:j<(F.get x).length) (k:D0 u.heap.size χ2 i0 w ra rc (N.inner y)) (hy:N.good y) (hs4:N.size=4) {o4:Nat} (hx:act.eval p=.pointer (some ⟨q,o4,none⟩)) (ho4:o4=j*4) {v0 v1 v2 v3:Value} (hr:N.cells y ra rc=[v0,v1,v2,v3]) (hv:(act.eval v).cells.toList=[v0,v1,v2,v3]) (hi:(P.info? ty).map (·.size)=some 4)
  (gw:d5 w0 w) (hb:w0.heap.size≤B) (K:∀ z:b5 w0,GB X B b z.w (F.set x ((F.get x).set j y))→b≠q→(∀ k,k<w.heap.size→k≠q→z.w.heap[k]?=w.heap[k]?)→wpList P ops Q rest (act.put op.dst undef) z.w):wpList P ops Q (op::rest) act w:=by
 subst ho4
 have hlu:=h.lt
 obtain⟨χ,vs,h1,h2,h3,h4,h5,h6⟩:=h
 obtain⟨a1,c1,rows,hv1,hxr,hN⟩:=F.own h2
 rw[h1.cell,hv1]at hc
 simp only[Option.some.injEq,Value.slice.injEq,true_and]at hc
 obtain⟨rfl,rfl⟩:=hc
 have hlen:rows.length=(F.get x).length:=by rw[← hxr,List.length_map]
 have hq:=hN.own.blk q rfl
 have hone:[v0,v1,v2,v3].all (·.oneCell')=true:=List.all_eq_true.2 fun u hu=>N.one y ra rc u (by rw[hr];exact hu)
 have hO4:Own (Z0 (α:=β)) N.ty 4 B w (some ⟨q,0,none⟩) c1 rows:=hs4▸(hN.to g).own
 have hc1:=F.clt
 have hn1:=E.nle
 refine wpList_step fun K' hK=>aO9 (by simp[Region.wanted,hgd]) ty p v ho j hx hO4 (hlen▸hj) ⟨y,ra,rc⟩ hr hv hi hone gw hb fun z hown hg=>hK _ _ ?_
 have hsu:=g.out.size
 have hsz:=hg.size
 have hown:Own (Z0 (α:=β)) N.ty N.size B z.w (some ⟨q,0,none⟩) c1 (rows.set j ⟨y,ra,rc⟩):=by rw[hs4];exact hown
 have hcq:χ q=(F.col,0):=hN.col q rfl
 let χ1:Nat→Col:=E9 u.heap.size χ χ2 (fun _=>(F.col,j+1))
 have hc1q:χ1 q=(F.col,0):=by show E9 _ _ _ _ q=_;rw[E9,if_pos hq.2];exact hcq
 have hfr:Fr B χ1 (·=(F.col,0)) w z.w:=⟨hg.os,hg.tape,hg.output,hg.size,fun k h2 h3=>hg.block k h2 (fun e=>h3 (by cases e;exact⟨hq.1,hc1q⟩))⟩
 have hNz:M9 B χ1 F.col z.w (some ⟨q,0,none⟩) c1 (rows.set j ⟨y,ra,rc⟩):=by
  refine⟨hown,fun k hk=>by cases hk;exact hc1q,fun i r hr=>?_⟩
  by_cases hij:i=j
  ·subst hij
   rw[List.getElem?_set_self (by rw[hlen];exact hj)]at hr
   cases hr
   exact⟨hy,((k.new (χ:=χ) (f:=fun _=>(F.col,i+1)) nl).mono (by omega)).fr hfr (by simp)⟩
  ·rw[List.getElem?_set_ne (fun e=>hij e.symm)]at hr
   obtain⟨p1,p2⟩:=hN.each i r hr
   exact⟨p1,(D0.to (D0.old (χ2:=χ2) (f:=fun _=>(F.col,j+1)) p2 nl) g).fr hfr (by simp)⟩
 have hO:E.O B χ1 0 z.w vs (F.set x ((F.get x).set j y)) :=
  F.put (E.map (E.map h2 (.old (χ2:=χ2) (f:=fun _=>(F.col,j+1)) nl)) (.to g)) (hfr.wide (fun i hi=>by rw[hi])) hv1 (by rw[List.map_set,hxr]) (List.length_set ..) hNz
 have hX:∀ k,1000≤(χ k).1→k<u.heap.size→z.w.heap[k]?=w.heap[k]?:=fun k hk hl=>hg.block k (by omega) (fun e=>by cases e;rw[hcq]at hk;simp only at hk;omega)
 refine K z ⟨E9 z.w.heap.size χ1 (fun _=>(0,0)) (fun _=>(1000,0)),vs,?_,E.map hO (.old nl),?_,ay2 nl,h5,fun k hk=>⟨?_,(h6 k hk).2.1,by have:=(h6 k hk).2.2;omega⟩⟩ (fun e=>by subst e;rw[hcq]at h3;simp only at h3;omega) (fun k hk hn=>hg.block k hk (fun e=>hn (by cases e;rfl)))
 ·have h1':=h1.to g
  unfold i9 at h1' ⊢
  rw[hX b h3 hlu];exact h1'
 ·rw[E9,if_pos (by omega)]
  show 1000≤(E9 _ _ _ _ b).1
  rw[E9,if_pos hlu];exact h3
 ·have:=(h6 k hk).2.2
  rw[E9,if_pos (by omega)]
  show 1000≤(E9 _ _ _ _ k).1
  rw[E9,if_pos this];exact(h6 k hk).1
end
def aT0:FN f5 j7 where
 off:=55
 col:=18
 get:=(·.Space.Outs)
 set:=fun x l=>{ x with Space.Outs:=l }
 own:=by rintro _ _ _ _ _ ⟨A,rfl,h⟩;obtain⟨rows,h1,h2⟩:=h.o18;exact⟨_,_,rows,rfl,h1,h2⟩
 put:=by
  rintro _ _ _ _ _ _ a c _ _ ⟨A,rfl,h⟩ f hv hm hl k
  have hv:some (Value.slice A.a18 _ A.c18)=some (Value.slice a _ c):=hv
  simp only[Option.some.injEq,Value.slice.injEq,true_and]at hv
  obtain⟨rfl,rfl⟩:=hv
  refine⟨A,?_,h.o0.fr f (by simp),h.o1.fr f (by simp),h.o2.fr f (by simp),h.o3.fr f (by simp),h.o4.fr f (by simp),h.o5.fr f (by simp),h.o6.fr f (by simp),h.o7.elim fun r hr=>⟨r,hr.1,hr.2.fr f (by simp)⟩,h.o8.fr f (by simp),h.o9.fr f (by simp),h.o10.fr f (by simp),h.o11.fr f (by simp),h.o12.fr f (by simp),h.o13.fr f (by simp),h.o14.fr f (by simp),h.o15.fr f (by simp),h.o16.fr f (by simp),h.o17.fr f (by simp),⟨_,hm,k⟩,h.o19.fr f (by simp),h.o20.fr f (by simp),h.o21.fr f (by simp),h.ok⟩
  simp only[A0,D1,hl]
 clt:=by decide
theorem au7{s:ByteArray}{w:World}(hm:s.size≤100000000):Calls Tryz.prog 180 #[.string s] w (b4 w (.string (au2 s))):=by
 have⟨h0,h1⟩:=ba0 s
 have hz:(aD9 (ai7 s)).size=2:=rfl
 go_enter Tryz.func180,Tryz.ntmps180
 go_wp2_with (first|(go_at_call 246;refine gm (bA1 (by omega)) ?_;intro y9)|(go_at_call 181;refine gm (aS3 h0 (by omega)) ?_;intro y9))
 go_ret
 exact b4.mk rfl
theorem aQ0{kind seq:Int}{s:ByteArray}{w:World}(hk:kind=0∨kind=1)(h0:0≤seq)(h1:seq≤255)(hs:s.size≤40):Calls Tryz.prog 82 #[.int .i64 kind,.int .i64 seq,.string s] w (b4 w (.string (bn8 kind seq s))):=by
 rcases hk with rfl|rfl
 ·have c2:inB seq 0 255=true:=D6.2 ⟨h0,h1⟩
  have c3:decide (40<(s.size:Int))=false:=by simp;omega
  have c1:inB 0 0 1=true:=rfl
  have hz1:(Z2 0).size=1:=rfl
  have hz2:(Z2 seq).size=1:=rfl
  have hz3:(Z2 0++Z2 seq++s).size=2+s.size:=by rw[ByteArray.size_append,ByteArray.size_append];rfl
  go_enter Tryz.func82,Tryz.ntmps82
  go_wp2_with (first|(go_at_call 73;refine gm (d8) ?_;intro x)|(go_at_call 181;refine gm (aB3 (by omega) (by omega)) ?_;intro y9)|(go_at_call 180;refine gm (au7 (by omega)) ?_;intro y9))
  go_ret
  exact b4.mk rfl
 ·have c2:inB seq 0 255=true:=D6.2 ⟨h0,h1⟩
  have c3:decide (40<(s.size:Int))=false:=by simp;omega
  have c1:inB 1 0 1=true:=rfl
  have hz1:(Z2 1).size=1:=rfl
  have hz2:(Z2 seq).size=1:=rfl
  have hz3:(Z2 1++Z2 seq++s).size=2+s.size:=by rw[ByteArray.size_append,ByteArray.size_append];rfl
  go_enter Tryz.func82,Tryz.ntmps82
  go_wp2_with (first|(go_at_call 73;refine gm (d8) ?_;intro x)|(go_at_call 181;refine gm (aB3 (by omega) (by omega)) ?_;intro y9)|(go_at_call 180;refine gm (au7 (by omega)) ?_;intro y9))
  go_ret
  exact b4.mk rfl
