/- A mission's marks, and what is held. No condition but on sizes. -/
import Derived.Test.YtdijmbipcgalfaaGreatHM41
import Derived.Test.YtdijmbipcgalfaaGreatHMk6
import Derived.Test.YtdijmbipcgalfaaGreatHLto3
import Derived.Test.YtdijmbipcgalfaaGreatHM7
import Derived.Test.YtdijmbipcgalfaaGreatHFileO
import Derived.Test.YtdijmbipcgalfaaGreatHM18
import Derived.Test.YtdijmbipcgalfaaGreatHM23
import Derived.Test.YtdijmbipcgalfaaGreatHOne
import Derived.Test.YtdijmbipcgalfaaGreatHHearP
import Derived.Test.YtdijmbipcgalfaaGreatHDTy
import Derived.Test.YtdijmbipcgalfaaGreatHM29
import Derived.Test.YtdijmbipcgalfaaGreatHBox2
import Derived.Test.YtdijmbipcgalfaaGreatHStepH
import Derived.Test.YtdijmbipcgalfaaGreatHStab3
import Derived.Test.YtdijmbipcgalfaaGreatHM37
import Derived.Test.YtdijmbipcgalfaaGreatHOkF
import Derived.Test.YtdijmbipcgalfaaGreatHLnk0
import Derived.Deep.CutRange
import Derived.Test.YtdijmbipcgalfaaGreatHOwnF
import Derived.Test.YtdijmbipcgalfaaGreatHLnkS4
import Derived.Test.YtdijmbipcgalfaaGreatHM0
namespace Go.Proofs.YtdijmbipcgalfaaGreat
set_option maxRecDepth 100000
set_option maxHeartbeats 4000000
set_option linter.unusedVariables false
open Go.ChangeShapes Go.WideShapes Go.ChangeAt Go.RowKit
variable {s:ByteArray}{k t:Int}{B c o:Nat}{a:Option Addr}{u w:World}
private abbrev ay0:=Tryz.underlying107
theorem bl0(m:f7)(k:Int)(A:I1):([.int .i64 (i8 m k).Time,.int .i64 (i8 m k).Light,.int .i64 (i8 m k).Drift.Rate,.int .i64 (i8 m k).Drift.Offset,.int .i64 (i8 m k).Orbit.Period,.int .i64 (i8 m k).Orbit.Start,.int .i64 (i8 m k).Orbit.Length,.slice A.a0 (i8 m k).Plan.length A.c0,.int .i64 (i8 m k).Up.Seed,.int .i64 (i8 m k).Up.Burst,.int .i64 (i8 m k).Up.Loss,.int .i64 (i8 m k).Down.Seed,.int .i64 (i8 m k).Down.Burst,.int .i64 (i8 m k).Down.Loss,.slice A.a1 (i8 m k).Ups.length A.c1,.slice A.a2 (i8 m k).Downs.length A.c2,.slice A.a3 (i8 m k).Ground.Offers.length A.c3,.int .i64 (i8 m k).Ground.Sender.Next,.int .i64 (i8 m k).Ground.Sender.Window,.slice A.a4 (i8 m k).Ground.Sender.Waiting.length A.c4,.int .i64 (i8 m k).Ground.Sender.Done,.int .i64 (i8 m k).Ground.Notice.Expect,.bool (i8 m k).Ground.Notice.Locked,.bool (i8 m k).Ground.Notice.Again,.int .i64 (i8 m k).Ground.Unpacker.Channel,.int .i64 (i8 m k).Ground.Unpacker.Next,.bool (i8 m k).Ground.Unpacker.Synced,.string (i8 m k).Ground.Unpacker.Rest,.int .i64 (i8 m k).Ground.Unpacker.Lost,.slice A.a5 (i8 m k).Ground.Pairs.length A.c5,.slice A.a6 (i8 m k).Ground.Records.length A.c6,.slice A.a7 (i8 m k).Ground.Files.length A.c7,.slice A.a8 (i8 m k).Ground.Told.length A.c8,.int .i64 (i8 m k).Space.Receiver.Expect,.bool (i8 m k).Space.Receiver.Locked,.bool (i8 m k).Space.Receiver.Again,.int .i64 (i8 m k).Space.Receiver.Taken,.int .i64 (i8 m k).Space.Board.Clock,.slice A.a9 (i8 m k).Space.Board.Params.length A.c9,.bool (i8 m k).Space.Board.Safe,.slice A.a10 (i8 m k).Space.Board.Limits.length A.c10,.slice A.a11 (i8 m k).Space.Board.Orders.length A.c11,.slice A.a12 (i8 m k).Space.Board.Done.length A.c12,.int .i64 (i8 m k).Space.Board.Recorder.Room,.slice A.a13 (i8 m k).Space.Board.Recorder.Records.length A.c13,.slice A.a14 (i8 m k).Space.Board.Recorder.Dropped.length A.c14,.int .i64 (i8 m k).Space.Board.Made,.int .i64 (i8 m k).Space.Board.Taken,.slice A.a15 (i8 m k).Space.Board.Asked.length A.c15,.int .i64 (i8 m k).Space.Packer.Channel,.int .i64 (i8 m k).Space.Packer.Count,.string (i8 m k).Space.Packer.Rest,.slice A.a16 (i8 m k).Space.Packer.Starts.length A.c16,.int .i64 (i8 m k).Space.Seq,.slice A.a17 (i8 m k).Space.Files.length A.c17,.slice A.a18 (i8 m k).Space.Outs.length A.c18,.int .i64 (i8 m k).Space.Begun,.slice A.a19 (i8 m k).Space.Sent.length A.c19,.slice A.a20 (i8 m k).Offered.length A.c20,.slice A.a21 (i8 m k).Took.length A.c21,.int .i64 (i8 m k).Bad]:List Value)=[.int .i64 m.Time,.int .i64 m.Light,.int .i64 m.Drift.Rate,.int .i64 m.Drift.Offset,.int .i64 m.Orbit.Period,.int .i64 m.Orbit.Start,.int .i64 m.Orbit.Length,.slice A.a0 m.Plan.length A.c0,.int .i64 m.Up.Seed,.int .i64 m.Up.Burst,.int .i64 m.Up.Loss,.int .i64 m.Down.Seed,.int .i64 m.Down.Burst,.int .i64 m.Down.Loss,.slice A.a1 m.Ups.length A.c1,.slice A.a2 m.Downs.length A.c2,.slice A.a3 m.Ground.Offers.length A.c3,.int .i64 m.Ground.Sender.Next,.int .i64 m.Ground.Sender.Window,.slice A.a4 m.Ground.Sender.Waiting.length A.c4,.int .i64 m.Ground.Sender.Done,.int .i64 m.Ground.Notice.Expect,.bool m.Ground.Notice.Locked,.bool m.Ground.Notice.Again,.int .i64 m.Ground.Unpacker.Channel,.int .i64 m.Ground.Unpacker.Next,.bool m.Ground.Unpacker.Synced,.string m.Ground.Unpacker.Rest,.int .i64 m.Ground.Unpacker.Lost,.slice A.a5 m.Ground.Pairs.length A.c5,.slice A.a6 m.Ground.Records.length A.c6,.slice A.a7 m.Ground.Files.length A.c7,.slice A.a8 m.Ground.Told.length A.c8,.int .i64 m.Space.Receiver.Expect,.bool m.Space.Receiver.Locked,.bool m.Space.Receiver.Again,.int .i64 m.Space.Receiver.Taken,.int .i64 m.Space.Board.Clock,.slice A.a9 m.Space.Board.Params.length A.c9,.bool m.Space.Board.Safe,.slice A.a10 m.Space.Board.Limits.length A.c10,.slice A.a11 m.Space.Board.Orders.length A.c11,.slice A.a12 m.Space.Board.Done.length A.c12,.int .i64 m.Space.Board.Recorder.Room,.slice A.a13 m.Space.Board.Recorder.Records.length A.c13,.slice A.a14 m.Space.Board.Recorder.Dropped.length A.c14,.int .i64 m.Space.Board.Made,.int .i64 m.Space.Board.Taken,.slice A.a15 m.Space.Board.Asked.length A.c15,.int .i64 m.Space.Packer.Channel,.int .i64 m.Space.Packer.Count,.string m.Space.Packer.Rest,.slice A.a16 m.Space.Packer.Starts.length A.c16,.int .i64 m.Space.Seq,.slice A.a17 m.Space.Files.length A.c17,.slice A.a18 m.Space.Outs.length A.c18,.int .i64 m.Space.Begun,.slice A.a19 m.Space.Sent.length A.c19,.slice A.a20 m.Offered.length A.c20,.slice A.a21 m.Took.length A.c21,.int .i64 m.Bad]:=by
 have e0:(i8 m k).Plan.length=m.Plan.length:=J1 _ _
 have e1:(i8 m k).Ups.length=m.Ups.length:=J1 _ _
 have e2:(i8 m k).Downs.length=m.Downs.length:=J1 _ _
 have e3:(i8 m k).Ground.Offers.length=m.Ground.Offers.length:=J1 _ _
 have e4:(i8 m k).Ground.Sender.Waiting.length=m.Ground.Sender.Waiting.length:=J1 _ _
 have e5:(i8 m k).Ground.Pairs.length=m.Ground.Pairs.length:=J1 _ _
 have e6:(i8 m k).Ground.Records.length=m.Ground.Records.length:=J1 _ _
 have e7:(i8 m k).Ground.Files.length=m.Ground.Files.length:=au5 _ _ _ _
 have e8:(i8 m k).Ground.Told.length=m.Ground.Told.length:=J1 _ _
 have e9:(i8 m k).Space.Board.Params.length=m.Space.Board.Params.length:=J1 _ _
 have e10:(i8 m k).Space.Board.Limits.length=m.Space.Board.Limits.length:=J1 _ _
 have e11:(i8 m k).Space.Board.Orders.length=m.Space.Board.Orders.length:=J1 _ _
 have e12:(i8 m k).Space.Board.Done.length=m.Space.Board.Done.length:=J1 _ _
 have e13:(i8 m k).Space.Board.Recorder.Records.length=m.Space.Board.Recorder.Records.length:=J1 _ _
 have e14:(i8 m k).Space.Board.Recorder.Dropped.length=m.Space.Board.Recorder.Dropped.length:=J1 _ _
 have e15:(i8 m k).Space.Board.Asked.length=m.Space.Board.Asked.length:=J1 _ _
 have e16:(i8 m k).Space.Packer.Starts.length=m.Space.Packer.Starts.length:=J1 _ _
 have e17:(i8 m k).Space.Files.length=m.Space.Files.length:=J1 _ _
 have e18:(i8 m k).Space.Outs.length=m.Space.Outs.length:=au5 _ _ _ _
 have e19:(i8 m k).Space.Sent.length=m.Space.Sent.length:=J1 _ _
 have e20:(i8 m k).Offered.length=m.Offered.length:=J1 _ _
 have e21:(i8 m k).Took.length=m.Took.length:=J1 _ _
 rw[e0,e1,e2,e3,e4,e5,e6,e7,e8,e9,e10,e11,e12,e13,e14,e15,e16,e17,e18,e19,e20,e21]
 rfl
theorem bM8{χ:Nat→Col}{vs:List Value}{m:f7}(h:W0.O B χ 0 w vs m)(hf:ar2 χ w)(hB:B≤w.heap.size)(ht:Enc.tot m≤100000000)(h1:0≤k)(h2:k≤100000000000) :
  Calls Tryz.prog 10 #[.agg vs.toArray,.int .i64 k] w (Mkd (ag7 m k) (fun w2=>W0.O B χ 0 w2 vs (i8 m k)) (Fr B χ (Rng 0 22) w)):=by
 obtain⟨A,rfl,F⟩:=h
 refine(be5 F hf hB om ht h1 h2).mono fun e w2 hq=>?_
 obtain⟨he,ho,hr⟩:=hq
 exact⟨he,⟨A,(bl0 m k A).symm,ho⟩,by simpa using hr⟩
theorem bM7{vs:List Value}{m:f7}(h:Enc.Rd B w vs (i8 m k))(ht:Enc.tot m≤100000000)(h1:0≤k)(h2:k≤100000000000) :
  Calls Tryz.prog 11 #[.agg vs.toArray,.int .i64 k] w (b5 w (.int .i64 (ag7 m k))):=by
 obtain⟨A,rfl,F⟩:=h
 rw[bl0 m k A]
 exact be2 F ht h1 h2
theorem ay8{vs:List Value}{x:f7}(h:Enc.Rd B w vs x)(ht:Enc.tot x≤1048576) :
  Calls Tryz.prog 7 #[.agg vs.toArray] w (ai3 w x):=(aP3 h ht).mono fun _ _ g=>R3.d g
theorem bS9{U:Nat}{χ:Nat→Col}{vs:List Value}{m:f7}(h:W0.O B χ o w vs m)(g:w.heap.size≤U):W0.O B (I7 U χ (fun _=>(0,0)) (fun _=>(1000,0))) o w vs m:=by
 obtain⟨A,h0,h1⟩:=h
 exact⟨A,h0,h1.old g⟩
theorem j5.past{u W z:World}{b c:Nat}{cs:List Value}{T:TypeId}(h:j5 u c cs T)(g:d7 0 u W)(k:But b W z)(hb:u.heap.size≤b):j5 z c cs T:=by
 have hl:=h.lt
 unfold j5
 rw[k.block c om (Nat.lt_of_lt_of_le hl g.size),g.block c (Nat.zero_le _) hl];exact h
theorem bM2{W:World}(x y:b7 W)(h:d7 0 x.w y.w):b8 x.w y.w :=
 ⟨⟨y.h.os.trans x.h.os.symm,y.h.tape.trans x.h.tape.symm,y.h.output.trans x.h.output.symm,h.size,fun b hb=>h.block b (Nat.zero_le _) hb⟩⟩
theorem ag4{a b c:World}(h:b8 a b)(k:b8 b c):b8 a c:=⟨h.out.trans (k.out.mono h.out.size)⟩
theorem bn2{P:Program}{ops:Array Oper}{rest:List Oper}{op:Oper}{a:Act}{Q:Exit→Act→World→Prop}(hw:Region.wanted op (yielded ops a.tmps)=true)(ty:TypeId)(x:Operand)(ho:op.op=.load ty x)(b o:Nat)(hx:a.eval x=.pointer (some ⟨b,o,none⟩)){cs row:List Value}{T:TypeId}(H:j5 w b cs T)
  (d:TypeDesc) (hu:P.underlying ty=some d) (hd:d.isRow=true) (hi:(P.info? ty).map (·.size)=some row.length) (hr:(cs.drop o).take row.length=row)
  (h:wpList P ops Q rest (a.put op.dst (.agg row.toArray)) w):wpList P ops Q (op::rest) a w :=
 wpList_step fun K hK=>bU8 hw ty x ho b o hx H d hu hd hi hr (hK _ _ h)
theorem b7.ofG{W w:World}(h:b8 W w):∃ x:b7 W,w=x.w:=⟨⟨w,h.out⟩,rfl⟩
def bV3(m n:Int):ByteArray:=if m=1 then aF3 n else if m=2 then aF4 n else bV1 n
@[go_sem] theorem bZ5(n:Int):(bV1 n).size=3:=rfl
@[go_sem] theorem ca2(n:Int):bV3 1 n=aF3 n:=rfl
@[go_sem] theorem ca3(n:Int):bV3 2 n=aF4 n:=rfl
@[go_sem] theorem bX9(n:Int):bV3 3 n=bV1 n:=rfl
theorem bQ8{α:Type}[Enc α](l:List α)(y:α):d9 (l++[y])=d9 l+1+Enc.tot y:=by
 rw[av7];simp only[d9];omega
theorem B6.app{α:Type}[E:D7 α]{B:Nat}{χ:Nat→Col}{i:Col}{w w2:World}{a a2:Option Addr}{c c2:Nat}{l:List α}{y:α}(h:B6 B χ i w a c l)(ho:Own E.enc E.ty E.size B w2 a2 c2 (l++[y]))(hb:E9 a2=E9 a∨E9 a2=some w.heap.size)(hg:E.good y) :
  B6 B (I7 w.heap.size χ (fun _=>i) id) i w2 a2 c2 (l++[y]):=by
 refine⟨ho,fun k hk=>?_,fun x hx=>?_⟩
 ·rcases hb with hb|hb
  ·rw[hb]at hk
   have:=(h.own.blk k hk).2
   rw[I7,if_pos this];exact h.col k hk
  ·rw[hb]at hk
   cases hk
   rw[I7,if_neg om];rfl
 ·rcases List.mem_append.1 hx with hx|hx
  ·exact h.good x hx
  ·obtain rfl:=List.mem_singleton.1 hx;exact hg
section
variable {P:Program} {ops:Array Oper} {op:Oper} {a:Act} {w:World} {Q:Exit→Act→World→Prop} {S:World→Prop} {md:Region.Mode} {fuel:Nat} {listed:Array Bool} {i:Nat}
end
def pr(l:List s8)(j:Nat):Int:=match l[j]? with|some y=>y.Priority|none=>0
structure First(l:List s8)(k b:Nat):Prop where
 lt:b<k
 lo:∀ j,j<b→pr l b<pr l j
 hi:∀ j,b≤j→j<k→pr l b≤pr l j
theorem ah3{α:Type}[Enc α](h:∀ x:α,Enc.tot x=0):∀ l:List α,d9 l=l.length
 | []=>rfl
 | x::r=>by simp only[d9,ah3 h r,h x,List.length_cons];omega
theorem bn6:∀ l:List s8,d9 l≤as2 l
 | []=>Int.le_refl _
 | x::r=>by
  have h:Enc.tot x=(x.Data.size:Int):=rfl
  have ih:=bn6 r
  simp only[d9,as2,h];omega
theorem bO0(b:I3):Enc.tot b=b.Params.length+b.Limits.length+b.Orders.length+b.Done.length+(d9 b.Recorder.Records+b.Recorder.Dropped.length)+b.Asked.length:=by
 have h:Enc.tot b=d9 b.Params+d9 b.Limits+d9 b.Orders+d9 b.Done+(d9 b.Recorder.Records+d9 b.Recorder.Dropped)+d9 b.Asked:=rfl
 rw[h,ah3 (fun _=>rfl) b.Params,ah3 (fun _=>rfl) b.Limits,ah3 (fun _=>rfl) b.Orders,ah3 (fun _=>rfl) b.Done,ah3 (fun _=>rfl) b.Recorder.Dropped,ah3 (fun _=>rfl) b.Asked]
theorem aQ1(r:I9):Enc.tot r=d9 r.Records+r.Dropped.length:=by
 have h:Enc.tot r=d9 r.Records+d9 r.Dropped:=rfl
 rw[h,ah3 (fun _=>rfl) r.Dropped]
theorem bf5{r:I9}(h:J7 r=true):Enc.tot r≤70000:=by
 simp only[J7,Bool.and_eq_true,decide_eq_true_eq]at h
 have h1:=D8.1 h.1
 have h2:=bn6 r.Records
 rw[aQ1];omega
theorem bw0{b:I3}(h:A2 b=true):Enc.tot b≤81000:=by
 simp only[A2,Bool.and_eq_true,decide_eq_true_eq,beq_iff_eq]at h
 obtain⟨-,h1,-,h2,-,-,-,h3,h4,-,h5,-,h6,-⟩:=h
 have h7:=bf5 h5
 rw[aQ1]at h7
 have h8:(b.Orders.length:Int)≤40:=by
  rw[J6,Bool.and_eq_true,decide_eq_true_eq]at h3;exact h3.1
 rw[bO0];omega
theorem ba2{α:Type}[Enc α]{b:Int}:∀ {l:List α},(∀ x∈l,Enc.tot x≤b)→d9 l≤l.length*(b+1)
 | [],_=>by simp[d9]
 | x::r,h=>by
  have h1:=h x si
  have h2:=ba2 (l:=r) (fun t ht=>h t (by simp[ht]))
  have h4:((r.length+1:Nat):Int)*(b+1)=r.length*(b+1)+(b+1):=by rw[Int.natCast_add,Int.add_mul];simp
  simp only[d9,List.length_cons]
  rw[h4];omega
def ad4(m:f7):f7:={ m with Bad:=if m.Bad<1000000 then m.Bad+1 else m.Bad }
theorem bi2{o:s7}(h:ai9 o=true):Enc.tot o≤1600∧o.Queue.length≤1000∧o.Data.size≤600:=by
 simp only[ai9,am8,Bool.and_eq_true,decide_eq_true_eq]at h
 have h2:Enc.tot o=(o.Data.size:Int)+d9 o.Queue:=rfl
 rw[h2,ah3 (fun _=>rfl)];omega
def aB4(t:Int)(f:k5):Bool:=decide (f.At≤t)
def ag9(t:Int)(l:List k5):List k5:=l.filter (aB4 t)
def W5(t:Int)(l:List k5):List k5:=l.filter fun f=>!aB4 t f
structure bW8(k:Nat)(x:f7):Prop where
 outs:x.Space.Outs.length=8
 out:∀ o∈x.Space.Outs,ai9 o=true
 board:A2 x.Space.Board=true
 rcv:L0 x.Space.Receiver=true
 took:x.Took.length≤5000+k
 bad0:0≤x.Bad
 bad1:x.Bad≤1000000
def bu7(m:f7):Int:=d9 m.Plan+d9 m.Ups+d9 m.Downs+Enc.tot m.Ground+(Enc.tot m.Space.Packer+d9 m.Space.Files+d9 m.Space.Sent)+d9 m.Offered+d9 m.Took
theorem bD1(m:f7):Enc.tot m=bu7 m+Enc.tot m.Space.Board+d9 m.Space.Outs:=by
 have e1:Enc.tot m=d9 m.Plan+d9 m.Ups+d9 m.Downs+Enc.tot m.Ground+(Enc.tot m.Space.Board+Enc.tot m.Space.Packer+d9 m.Space.Files+d9 m.Space.Outs+d9 m.Space.Sent)+d9 m.Offered+d9 m.Took:=rfl
 rw[e1,bu7];omega
theorem bW8.tot{k:Nat}{x:f7}(h:bW8 k x):Enc.tot x≤bu7 x+95000:=by
 have h1:=bw0 h.board
 have h2:=ba2 (fun o ho=>(bi2 (h.out o ho)).1)
 rw[h.outs]at h2
 rw[bD1];omega
theorem aW6{α:Type}[Enc α](p:α→Bool):∀ l:List α,d9 (l.filter p)≤d9 l
 | []=>Int.le_refl _
 | x::r=>by
  have:=aW6 p r
  have h0:=Enc.tot_nonneg x
  rw[List.filter_cons]
  split
  ·simp only[d9];omega
  ·simp only[d9];omega
structure aa1 where
 Channel:Int
 Count:Int
 First:Int
 Data:ByteArray
structure E0 where
 Apid:Int
 Seq:Int
 Data:ByteArray
def M6(s:E0):List Value:=[.int .i64 s.Apid,.int .i64 s.Seq,.string s.Data]
theorem ai7(s:E0):(M6 s).length=3:=rfl
theorem Sl.tPacket{w:World}{a:Option Addr}{l:List E0}(h:Sl M6 w a l){k:Nat}(hk:k<l.length) :
  ∃ b off s,a=some ⟨b,off,none⟩∧LtN b w.heap.size∧Hid (l.drop k=s::l.drop (k+1))∧(∀ (W:World) [b8 w W],W.cell? ⟨b,off+k*3,none⟩=some (I s.Apid))∧(∀ (W:World) [b8 w W],W.cell? ⟨b,off+k*3+1,none⟩=some (I s.Seq))∧(∀ (W:World) [b8 w W],W.cell? ⟨b,off+k*3+2,none⟩=some (.string s.Data)):=by
 obtain⟨s,hs,hd⟩:=ag2 hk
 obtain⟨b,off,ha,hb,hc⟩:=h k s hs
 exact⟨b,off,s,ha,⟨hb⟩,hd,j4 hb (hc 0 _ rfl),j4 hb (hc 1 _ rfl),j4 hb (hc 2 _ rfl)⟩
theorem aC4(x:E0):∀ u∈M6 x,u.oneCell'=true:=by
 intro u hu
 simp only[M6,List.mem_cons,List.not_mem_nil,or_false]at hu
 rcases hu with rfl|rfl|rfl<;>rfl
def B7(f:aa1):Bool:=inB f.Channel 0 2 && (inB f.Count 0 255 && ((inB f.First 0 23 || f.First == 255) && decide (f.Data.size=24)))
def bL8(t:ByteArray):aa1:=⟨bAt t 0,bAt t 1,bAt t 2,t.extract 3 t.size⟩
def U7(s:ByteArray):Option aa1:=match V2 s with
 | none=>none
 | some t=>if t.size=27∧B7 (bL8 t)=true then some (bL8 t)else none
def M2(s:ByteArray):Option E0 :=
 if 4≤s.size∧bAt s 0≤15∧bAt s 3≤40∧(bAt s 3).toNat+4≤s.size then some ⟨bAt s 0,bAt s 1*256+bAt s 2,s.extract 4 (4+(bAt s 3).toNat)⟩else none
theorem ag1{x:E0}(h:M2 s=some x):0≤x.Apid∧x.Apid≤15∧0≤x.Seq∧x.Seq≤65535∧x.Data.size≤40∧4+x.Data.size≤s.size:=by
 unfold M2 at h
 split at h
 ·rename_i hc
  cases h
  have b0:=J5 s 0;have b1:=J5 s 1;have b2:=J5 s 2;have b3:=J5 s 3
  simp only[ByteArray.size_extract]
  omega
 ·cases h
def X4:Nat→ByteArray→List E0→ByteArray × List E0
 | 0,s,l=>(s,l)
 | k+1,s,l=>match M2 s with
  | none=>(s,l)
  | some x=>X4 k (s.extract (4+x.Data.size) s.size) (if x.Apid=15 then l else l++[x])
def pkts(s:ByteArray):ByteArray × List E0:=X4 s.size s []
theorem aS1:∀ (k:Nat) (s:ByteArray) (l:List E0),(∀ x∈l,x.Data.size≤40∧0≤x.Apid∧x.Apid≤15)→(∀ x∈(X4 k s l).2,x.Data.size≤40∧0≤x.Apid∧x.Apid≤15)∧(X4 k s l).1.size≤s.size∧(X4 k s l).2.length+(X4 k s l).1.size≤l.length+s.size
 | 0,s,l,h=>⟨h,Nat.le_refl _,Nat.le_refl _⟩
 | k+1,s,l,h=>by
  rw[X4]
  cases hd:M2 s with
  | none=>exact⟨h,Nat.le_refl _,Nat.le_refl _⟩
  | some x =>
   have hf:=ag1 hd
   have hz:(s.extract (4+x.Data.size) s.size).size=s.size - (4+x.Data.size):=by simp only[ByteArray.size_extract];omega
   have h2:=aS1 k (s.extract (4+x.Data.size) s.size) (if x.Apid=15 then l else l++[x]) (by
    intro y hy
    split at hy
    ·exact h y hy
    ·rcases List.mem_append.1 hy with hy|hy
     ·exact h y hy
     ·rw[List.mem_singleton.1 hy];exact⟨hf.2.2.2.2.1,hf.1,hf.2.1⟩)
   simp only
   have h3:=h2.2.2
   have h4:(if x.Apid=15 then l else l++[x]).length≤l.length+1:=by split<;>simp
   exact⟨h2.1,by omega,by omega⟩
theorem bf0:∀ (j k:Nat) (s:ByteArray) (l:List E0),s.size≤j→s.size≤k→X4 j s l=X4 k s l
 | 0,0,s,l,_,_=>rfl
 | 0,k+1,s,l,h,_=>by
  rw[X4,X4]
  cases hd:M2 s with
  | none=>rfl
  | some x=>have:=ag1 hd;omega
 | j+1,0,s,l,_,h=>by
  rw[X4,X4]
  cases hd:M2 s with
  | none=>rfl
  | some x=>have:=ag1 hd;omega
 | j+1,k+1,s,l,hj,hk=>by
  rw[X4,X4]
  cases hd:M2 s with
  | none=>rfl
  | some x =>
   have hf:=ag1 hd
   simp only
   exact bf0 j k _ _ (by simp only[ByteArray.size_extract];omega) (by simp only[ByteArray.size_extract];omega)
def D0(u:f9):f9:={ u with Rest:=⟨#[]⟩,Synced:=false,Lost:=if u.Lost<1000000 then u.Lost+1 else u.Lost }
def Y6(u:f9)(f:aa1):f9:=if u.Next≠-1∧u.Next≠f.Count then D0 u else u
def ae2(u:f9)(f:aa1):f9 :=
 if u.Synced=true then { u with Next:=(f.Count+1) % 256,Rest:=u.Rest++f.Data }
 else if f.First≠255 then { u with Next:=(f.Count+1) % 256,Rest:=f.Data.extract f.First.toNat f.Data.size,Synced:=true } else { u with Next:=(f.Count+1) % 256 }
def Y0(s:ByteArray):Bool:=decide (4≤s.size) && (decide (15<bAt s 0) || decide (40<bAt s 3))
def aB5(u:f9):f9:=if Y0 (pkts u.Rest).1=true then D0 { u with Rest:=(pkts u.Rest).1 } else { u with Rest:=(pkts u.Rest).1 }
def I2(u:f9)(f:aa1):f9 × List E0 :=
 if j6 u=true∧B7 f=true∧u.Channel=f.Channel then(aB5 (ae2 (Y6 u f) f),(pkts (ae2 (Y6 u f) f).Rest).2)else(u,[])
def ac8(s:ByteArray):Option X8:=if s.size=2∧bAt s 1≤3 then some ⟨bAt s 0,decide (bAt s 1 % 2=1),decide (2≤bAt s 1)⟩else none
def bd1(s:E8):Int:=match s.Waiting with
 | []=>0
 | x::_=>x.Seq
def bn8(s:E8)(n:X8):Int:=(n.Expect - bd1 s+256) % 256
def R9(s:E8)(n:X8):E8 :=
 if J3 s=true∧0<s.Waiting.length∧inB n.Expect 0 255=true∧bn8 s n≤s.Waiting.length then { s with Waiting:=s.Waiting.drop (bn8 s n).toNat,Done:=min (s.Done+bn8 s n) 1000000 } else s
def bD0(s:ByteArray):s8:=⟨bAt s 0*256+bAt s 1,bAt s 2,(bAt s 3*256+bAt s 4)*256+bAt s 5,s.extract 6 s.size⟩
def aa2(s:ByteArray):Option s8:=if 6≤s.size∧s6 (bD0 s)=true then some (bD0 s)else none
def Y3(x:A8)(s:ByteArray):A8:=⟨x.File,aj1 x.File x.Size x.Check x.Parts s,aj0 x.File x.Size x.Check x.Parts s,ae3 x.File x.Size x.Check x.Parts s⟩
def as9(d:ByteArray):Int:=(bAt d 2*256+bAt d 3)*256+bAt d 4
def bJ4(m:f7)(n:X8)(c:Int):f7:={ m with Ground:={ m.Ground with Notice:=n,Sender:=R9 m.Ground.Sender n,Pairs:=X9 m.Ground.Pairs ⟨c,m.Time - m.Light⟩ } }
def bT9(m:f7)(r:s8):f7:={ m with Ground:={ m.Ground with Records:=m.Ground.Records++[r] } }
def bP5(m:f7)(d:ByteArray):f7:={ m with Ground:={ m.Ground with Files:=m.Ground.Files.map fun f=>Y3 f d } }
def aS4(m:f7)(u:f9):f7:={ m with Ground:={ m.Ground with Unpacker:=u } }
def B8(m:f7)(x:E0):f7 :=
 if x.Apid=1 then(if x.Data.size=5 then(match ac8 (x.Data.extract 0 2)with
  | some n=>bJ4 m n (as9 x.Data)
  | none=>ad4 m)else ad4 m)
 else if x.Apid=2 then(match aa2 x.Data with
  | some r=>bT9 m r
  | none=>ad4 m)
 else if x.Apid=3 then bP5 m x.Data else ad4 m
def R5(m:f7)(d:ByteArray):f7:=match U7 (aB6 (ad3 d))with
 | none=>ad4 m
 | some f=>(I2 m.Ground.Unpacker f).2.foldl B8 (aS4 m (I2 m.Ground.Unpacker f).1)
theorem bf1:∀ (k:Nat) (s:ByteArray) (l:List E0),s.size≤k→M2 (X4 k s l).1=none
 | 0,s,l,h=>by
  cases hd:M2 s with
  | none=>exact hd
  | some x=>have:=ag1 hd;omega
 | k+1,s,l,h=>by
  rw[X4]
  cases hd:M2 s with
  | none=>exact hd
  | some x =>
   have hf:=ag1 hd
   exact bf1 k _ _ (by simp only[ByteArray.size_extract];omega)
theorem Z0{u:f9}:j6 u=true↔(0≤u.Channel∧u.Channel≤2)∧(-1≤u.Next∧u.Next≤255)∧(0≤u.Lost∧u.Lost≤1000000)∧(u.Synced=true∨u.Rest.size=0)∧u.Rest.size≤43:=by
 have e:((u.Rest.toList == [])=true)↔u.Rest.size=0:=by
  rw[beq_iff_eq,ByteArray.toList_eq]
  constructor
  ·intro h;have:=congrArg List.length h;simpa using this
  ·intro h;exact List.eq_nil_of_length_eq_zero (by simpa using h)
 simp only[j6,Bool.and_eq_true,Bool.or_eq_true,decide_eq_true_eq,D8,e]
 constructor
 ·rintro⟨h1,h2,h3,h4,h5⟩;exact⟨h1,h2,h3,h4,by omega⟩
 ·rintro⟨h1,h2,h3,h4,h5⟩;exact⟨h1,h2,h3,h4,by omega⟩
theorem bA9{u:f9}(h:j6 u=true):j6 (D0 u)=true:=by
 rw[Z0]at h ⊢
 simp only[D0]
 refine⟨h.1,h.2.1,?_,.inr rfl,show(0:Nat)≤43 by omega⟩
 split<;>omega
theorem br1{u:f9}(hc:0≤u.Channel∧u.Channel≤2)(hn:-1≤u.Next∧u.Next≤255)(hl:0≤u.Lost∧u.Lost≤1000000)(hs:u.Synced=true∨u.Rest.size=0):j6 (aB5 u)=true:=by
 have hn0:=bf1 u.Rest.size u.Rest [] nl
 have hf:=(aS1 u.Rest.size u.Rest [] si).2.1
 have e:(pkts u.Rest).1=(X4 u.Rest.size u.Rest []).1:=rfl
 rw[← e]at hn0 hf
 unfold aB5
 split
 ·rw[Z0]
  simp only[D0]
  refine⟨hc,hn,?_,.inr rfl,show(0:Nat)≤43 by omega⟩
  split<;>omega
 ·rename_i hb
  rw[Z0]
  refine⟨hc,hn,hl,hs.imp id (fun h=>by simp only;omega),?_⟩
  simp only
  rcases Nat.lt_or_ge (pkts u.Rest).1.size 4 with h4|h4
  ·omega
  ·simp only[Y0,Bool.and_eq_true,Bool.or_eq_true,decide_eq_true_eq]at hb
   unfold M2 at hn0
   split at hn0
   ·cases hn0
   ·rename_i hc2
    have b3:=J5 (pkts u.Rest).1 3
    omega
theorem bI0{u:f9}{f:aa1}(h:j6 u=true)(hf:B7 f=true):j6 (aB5 (ae2 u f))=true:=by
 rw[Z0]at h
 have hz:f.Data.size=24:=by simp only[B7,Bool.and_eq_true,decide_eq_true_eq]at hf;exact hf.2.2.2
 have hm:-1≤(f.Count+1) % 256∧(f.Count+1) % 256≤255:=by omega
 unfold ae2
 split
 ·rename_i hs;exact br1 h.1 hm h.2.2.1 (.inl hs)
 ·split
  ·exact br1 h.1 hm h.2.2.1 (.inl rfl)
  ·exact br1 h.1 hm h.2.2.1 h.2.2.2.1
theorem aA1{u:f9}{f:aa1}(h:j6 u=true):j6 (I2 u f).1=true:=by
 unfold I2
 split
 ·rename_i hc
  refine bI0 ?_ hc.2.1
  unfold Y6
  split
  ·exact bA9 h
  ·exact h
 ·exact h
theorem aR6{u:f9}{f:aa1}(h:j6 u=true)(hf:B7 f=true):(ae2 (Y6 u f) f).Rest.size≤67:=by
 have hz:f.Data.size=24:=by simp only[B7,Bool.and_eq_true,decide_eq_true_eq]at hf;exact hf.2.2.2
 have h2:(Y6 u f).Rest.size≤43:=by
  have h1:=Z0.1 h
  unfold Y6
  split
  ·show(0:Nat)≤43;omega
  ·omega
 unfold ae2
 split
 ·simp only[ByteArray.size_append];omega
 ·split
  ·simp only[ByteArray.size_extract];omega
  ·simp only;omega
theorem ao9{u:f9}{f:aa1}(h:j6 u=true):(I2 u f).2.length≤67∧∀ x∈(I2 u f).2,x.Data.size≤40∧0≤x.Apid∧x.Apid≤15:=by
 unfold I2
 split
 ·rename_i hc
  have h1:=aS1 (ae2 (Y6 u f) f).Rest.size (ae2 (Y6 u f) f).Rest [] si
  have h2:=aR6 h hc.2.1
  exact⟨by have:=h1.2.2;simp only[List.length_nil]at this;show(X4 _ _ _).2.length≤67;omega,h1.1⟩
 ·exact⟨by simp,by simp⟩
def Y7(m:f7):f7:={ m with Downs:=W5 m.Time m.Downs }
def S7(m:f7):f7:=if j7 m=true then((ag9 m.Time m.Downs).map k5.Data).foldl R5 (Y7 m)else m
theorem ak6{f z:Int}{p:List ByteArray}:J9 f z k p=true↔(0≤f∧f≤7)∧(-1≤z∧z≤600)∧(-1≤k∧k≤65535)∧((z == -1)=(k == -1))∧p.length=25∧∀ s∈p,s.size≤24:=by
 simp only[J9,Z4,Bool.and_eq_true,D8,decide_eq_true_eq,beq_iff_eq,List.all_eq_true]
theorem bq8(s:ByteArray):(U8 s).2.2.1.size≤24:=by
 unfold U8
 split
 ·rename_i h
  simp only[aw6,Bool.and_eq_true,decide_eq_true_eq]at h
  simp only[ByteArray.size_extract];omega
 ·show(0:Nat)≤24;omega
theorem bP3(h:(N9 s).2.2.2=true):(0≤(N9 s).2.1∧(N9 s).2.1≤600)∧0≤(N9 s).2.2.1∧(N9 s).2.2.1≤65535:=by
 unfold N9 at h ⊢
 split
 ·rename_i h2
  simp only[aH8,decide_eq_true_eq]at h2
  have b2:=bM1 s 2;have b4:=bM1 s 4
  simp only;omega
 ·rename_i h2;rw[if_neg h2]at h;cases h
theorem bm0(s:ByteArray){f:A8}(h:Y8 f=true):Y8 (Y3 f s)=true:=by
 have h0:J9 f.File f.Size f.Check f.Parts=true:=h
 have h1:=ak6.1 h0
 show J9 f.File (aj1 f.File f.Size f.Check f.Parts s) (aj0 f.File f.Size f.Check f.Parts s) (ae3 f.File f.Size f.Check f.Parts s)=true
 rw[ak6,bi3]
 have hP:∀ t∈ae3 f.File f.Size f.Check f.Parts s,t.size≤24:=fun t ht=>by
  unfold ae3 at ht
  split at ht
  ·rcases List.mem_or_eq_of_mem_set ht with ht|rfl
   ·exact h1.2.2.2.2.2 t ht
   ·exact bq8 s
  ·exact h1.2.2.2.2.2 t ht
 unfold aj1 aj0
 split
 ·rename_i hc
  simp only[br4,Bool.and_eq_true]at hc
  have hd:=bP3 hc.2.2.1
  have e1:((N9 s).2.1 == -1)=false:=by rw[beq_eq_false_iff_ne];omega
  have e2:((N9 s).2.2.1 == -1)=false:=by rw[beq_eq_false_iff_ne];omega
  exact⟨h1.1,by omega,by omega,by rw[e1,e2],h1.2.2.2.2.1,hP⟩
 ·exact⟨h1.1,h1.2.1,h1.2.2.1,h1.2.2.2.1,h1.2.2.2.2.1,hP⟩
theorem bI1{f:A8}(h:Y8 f=true):Enc.tot f≤625:=by
 have h1:=ak6.1 (show J9 f.File f.Size f.Check f.Parts=true from h)
 have h2:d9 f.Parts≤f.Parts.length*(24+1):=ba2 (fun t ht=>by show((t.size:Nat):Int)≤24;have:=h1.2.2.2.2.2 t ht;omega)
 rw[h1.2.2.2.2.1]at h2
 show d9 f.Parts≤625
 omega
theorem bE4{l:List X1}{p:X1}(h:l.length≤200):(X9 l p).length≤200:=by
 unfold X9
 split
 ·rename_i hp;simp only[Z9,Bool.and_eq_true,decide_eq_true_eq]at hp;exact hp.1
 ·exact h
structure af4(k:Nat)(x:f7):Prop where
 unp:j6 x.Ground.Unpacker=true
 wait:x.Ground.Sender.Waiting.length≤1000
 pairs:x.Ground.Pairs.length≤200
 recs:x.Ground.Records.length≤5000+k
 files:∀ f∈x.Ground.Files,Y8 f=true
 filn:x.Ground.Files.length=8
 bad0:0≤x.Bad
 bad1:x.Bad≤1000000
theorem af4.more{k j:Nat}{x:f7}(h:af4 k x)(g:k≤j):af4 j x:=⟨h.unp,h.wait,h.pairs,by have:=h.recs;omega,h.files,h.filn,h.bad0,h.bad1⟩
theorem af4.bad{k:Nat}{x:f7}(h:af4 k x):af4 k (ad4 x):=by
 obtain⟨h1,h2,h3,h4,h5,h6,h7,h8⟩:=h
 refine⟨h1,h2,h3,h4,h5,h6,?_,?_⟩<;>(simp only[ad4];split<;>omega)
theorem af4.unp1{k:Nat}{x:f7}(h:af4 k x){u:f9}(hu:j6 u=true):af4 k (aS4 x u):=⟨hu,h.wait,h.pairs,h.recs,h.files,h.filn,h.bad0,h.bad1⟩
theorem br5(s:E8)(n:X8):(R9 s n).Waiting.length≤s.Waiting.length:=by
 unfold R9
 split
 ·simp only[List.length_drop];omega
 ·exact Nat.le_refl _
theorem af4.pkt{k:Nat}{x:f7}(p:E0)(h:af4 k x):af4 (k+1) (B8 x p):=by
 have hb:=h.bad.more (Nat.le_succ k)
 unfold B8
 split
 ·split
  ·split
   ·exact⟨h.unp,Nat.le_trans (br5 _ _) h.wait,bE4 h.pairs,Nat.le_succ_of_le h.recs,h.files,h.filn,h.bad0,h.bad1⟩
   ·exact hb
  ·exact hb
 ·split
  ·split
   ·exact⟨h.unp,h.wait,h.pairs,by show(x.Ground.Records++[_]).length≤_;rw[List.length_append];have:=h.recs;simp;omega,h.files,h.filn,h.bad0,h.bad1⟩
   ·exact hb
  ·split
   ·refine⟨h.unp,h.wait,h.pairs,Nat.le_succ_of_le h.recs,fun f hf=>?_,by show(x.Ground.Files.map _).length=8;rw[List.length_map];exact h.filn,h.bad0,h.bad1⟩
    obtain⟨f0,hf0,rfl⟩:=List.mem_map.1 (show f∈x.Ground.Files.map (fun f=>Y3 f p.Data)from hf)
    exact bm0 _ (h.files f0 hf0)
   ·exact hb
theorem af4.pkts:∀ (l:List E0) {k:Nat} {x:f7},af4 k x→af4 (k+l.length) (l.foldl B8 x)
 | [],k,x,h=>h
 | p::r,k,x,h=>by
  have:=af4.pkts r (h.pkt p)
  rw[List.foldl_cons,List.length_cons]
  exact this.more om
theorem af4.down{k:Nat}{x:f7}(d:ByteArray)(h:af4 k x):af4 (k+67) (R5 x d):=by
 unfold R5
 split
 ·exact h.bad.more om
 ·rename_i f hf
  have h1:=ao9 (f:=f) h.unp
  exact(af4.pkts (I2 x.Ground.Unpacker f).2 (h.unp1 (aA1 h.unp))).more om
def aj9(m:f7):Int:=d9 m.Plan+d9 m.Ups+d9 m.Downs+(d9 m.Ground.Offers+d9 m.Ground.Told+Enc.tot m.Ground.Sender+d9 m.Ground.Records)+Enc.tot m.Space+d9 m.Offered+d9 m.Took
theorem bn0(m:f7):Enc.tot m=aj9 m+Enc.tot m.Ground.Unpacker+d9 m.Ground.Pairs+d9 m.Ground.Files:=by
 have e1:Enc.tot m=d9 m.Plan+d9 m.Ups+d9 m.Downs+(d9 m.Ground.Offers+Enc.tot m.Ground.Sender+Enc.tot m.Ground.Unpacker+d9 m.Ground.Pairs+d9 m.Ground.Records+d9 m.Ground.Files+d9 m.Ground.Told)+Enc.tot m.Space+d9 m.Offered+d9 m.Took:=rfl
 rw[e1,aj9];omega
theorem af4.tot{k:Nat}{x:f7}(h:af4 k x):Enc.tot x≤aj9 x+6000:=by
 have h1:Enc.tot x.Ground.Unpacker≤43:=by show((x.Ground.Unpacker.Rest.size:Nat):Int)≤43;have:=(Z0.1 h.unp).2.2.2.2;omega
 have h2:d9 x.Ground.Pairs=x.Ground.Pairs.length:=ah3 (fun _=>rfl) _
 have h3:=ba2 (fun f hf=>bI1 (h.files f hf))
 rw[h.filn]at h3
 have h4:=h.pairs
 rw[bn0,h2];omega
theorem bn4{α:Type}[Enc α]:∀ (k:Nat) (l:List α),d9 (l.drop k)≤d9 l
 | 0,l=>Int.le_refl _
 | k+1,[]=>Int.le_refl _
 | k+1,x::r=>by
  have:=bn4 k r;have:=Enc.tot_nonneg x
  simp only[List.drop_succ_cons,d9];omega
theorem aU7(s:E8)(n:X8):Enc.tot (R9 s n)≤Enc.tot s:=by
 unfold R9
 split
 ·exact bn4 _ s.Waiting
 ·exact Int.le_refl _
theorem bT8(m:f7){p:E0}(h:p.Data.size≤40):aj9 (B8 m p)≤aj9 m+41:=by
 have hb:aj9 (ad4 m)≤aj9 m+41:=by show aj9 m≤_;omega
 unfold B8
 split
 ·split
  ·split
   ·rename_i n hn
    have:=aU7 m.Ground.Sender n
    simp only[aj9,bJ4];omega
   ·exact hb
  ·exact hb
 ·split
  ·split
   ·rename_i r hr
    have hz:r.Data.size≤40:=by
     unfold aa2 at hr
     split at hr
     ·cases hr;simp only[bD0,ByteArray.size_extract];omega
     ·cases hr
    have e:d9 (m.Ground.Records++[r])=d9 m.Ground.Records+1+(r.Data.size:Int):=bQ8 _ r
    simp only[aj9,bT9,e];omega
   ·exact hb
  ·split
   ·show aj9 m≤_;omega
   ·exact hb
theorem bm8:∀ (l:List E0) (m:f7),(∀ p∈l,p.Data.size≤40)→aj9 (l.foldl B8 m)≤aj9 m+41*l.length
 | [],m,_=>by simp
 | p::r,m,h=>by
  have h1:=bm8 r (B8 m p) fun q hq=>h q (List.mem_cons_of_mem _ hq)
  have h2:=bT8 m (h p (List.mem_cons_self ..))
  rw[List.foldl_cons,List.length_cons]
  omega
theorem bP4{m:f7}(d:ByteArray)(h:j6 m.Ground.Unpacker=true):aj9 (R5 m d)≤aj9 m+2747:=by
 unfold R5
 split
 ·show aj9 m≤_;omega
 ·rename_i f hf
  have h1:=ao9 (f:=f) h
  have h2:=bm8 (I2 m.Ground.Unpacker f).2 (aS4 m (I2 m.Ground.Unpacker f).1) fun p hp=>(h1.2 p hp).1
  have h3:aj9 (aS4 m (I2 m.Ground.Unpacker f).1)=aj9 m:=rfl
  have:=h1.1
  rw[h3]at h2;omega
theorem bv9:∀ (l:List ByteArray) {k:Nat} {x:f7},af4 k x→af4 (k+67*l.length) (l.foldl R5 x)∧aj9 (l.foldl R5 x)≤aj9 x+2747*l.length
 | [],k,x,h=>⟨h,by simp⟩
 | d::r,k,x,h=>by
  have h1:=bv9 r (h.down d)
  have h2:=bP4 d h.unp
  rw[List.foldl_cons,List.length_cons]
  exact⟨h1.1.more om,by have:=h1.2;omega⟩
theorem aN0:∀ {l:List A8} {k:Nat},L7 k l=true→∀ f∈l,Y8 f=true
 | [],_,_,f,hf=>by cases hf
 | x::r,k,h,f,hf=>by
  rw[L7,Bool.and_eq_true,Bool.and_eq_true]at h
  rcases List.mem_cons.1 hf with rfl|hf
  ·exact h.1.1
  ·exact aN0 h.2 f hf
theorem ay9{m:f7}(h:j7 m=true):af4 0 (Y7 m)∧m.Downs.length≤1000∧(∀ f∈m.Downs,1≤f.Data.size∧f.Data.size≤404)∧0≤m.Time∧m.Time≤1000000:=by
 simp only[j7,B3,N6,N8,Z9,J3,Bool.and_eq_true,decide_eq_true_eq,beq_iff_eq,List.all_eq_true]at h
 obtain⟨h0,h1,h2,h3,h4,h5,h6,h7,h8,h9,h10,h11,h12,h13⟩:=h
 have hb:=D8.1 h2
 have ht:=D8.1 h0
 have hw:=D8.1 h10.1.2.1
 refine⟨⟨h10.2.1,?_,h10.2.2.1.1,?_,aN0 h10.2.2.2.2.2.2.2.2.2.2,?_,hb.1,hb.2⟩,h9.1,fun f hf=>?_,ht.1,ht.2⟩
 ·show m.Ground.Sender.Waiting.length≤1000;have:=h10.1.2.2.2.1;omega
 ·show m.Ground.Records.length≤_;have:=h10.2.2.2.2.2.2.1.1;omega
 ·show m.Ground.Files.length=8;have:=h10.2.2.2.2.2.2.2.2.1;omega
 have:=h9.2 f hf
 simp only[M8,Bool.and_eq_true]at this
 have:=D8.1 this.2
 omega
theorem br3(m:f7):Enc.tot (S7 m)≤Enc.tot m+2760000:=by
 unfold S7
 split
 ·rename_i h
  obtain⟨h1,h2,-⟩:=ay9 h
  have h3:=bv9 ((ag9 m.Time m.Downs).map k5.Data) h1
  have h4:=h3.1.tot
  have h5:((ag9 m.Time m.Downs).map k5.Data).length≤1000:=by rw[List.length_map];exact Nat.le_trans (List.length_filter_le _ _) h2
  have h6:aj9 (Y7 m)≤aj9 m:=by
   have:=aW6 (fun f=>!aB4 m.Time f) m.Downs
   have e:d9 (Y7 m).Downs=d9 (m.Downs.filter fun f=>!aB4 m.Time f):=rfl
   simp only[aj9,e]
   show d9 m.Plan+d9 m.Ups+_+(d9 m.Ground.Offers+d9 m.Ground.Told+Enc.tot m.Ground.Sender+d9 m.Ground.Records)+Enc.tot m.Space+d9 m.Offered+d9 m.Took≤_
   omega
  have h7:=bn0 m
  have h8:=d6 m.Ground.Pairs;have h9:=d6 m.Ground.Files;have h10:=Enc.tot_nonneg m.Ground.Unpacker
  omega
 ·omega
structure af3(k:Nat)(x:f7):Prop where
 inv:af4 k x
 snd:Enc.tot x.Ground.Sender≤100000000
 tim:0≤x.Time∧x.Time≤1000000
 lig:0≤x.Light∧x.Light≤50
theorem br6(x:f7)(p:E0):(B8 x p).Time=x.Time∧(B8 x p).Light=x.Light∧Enc.tot (B8 x p).Ground.Sender≤Enc.tot x.Ground.Sender:=by
 unfold B8
 split
 ·split
  ·split
   ·exact⟨rfl,rfl,aU7 _ _⟩
   ·exact⟨rfl,rfl,Int.le_refl _⟩
  ·exact⟨rfl,rfl,Int.le_refl _⟩
 ·split
  ·split
   ·exact⟨rfl,rfl,Int.le_refl _⟩
   ·exact⟨rfl,rfl,Int.le_refl _⟩
  ·split
   ·exact⟨rfl,rfl,Int.le_refl _⟩
   ·exact⟨rfl,rfl,Int.le_refl _⟩
theorem af3.more{k j:Nat}{x:f7}(h:af3 k x)(g:k≤j):af3 j x:=⟨h.inv.more g,h.snd,h.tim,h.lig⟩
theorem af3.pkt{k:Nat}{x:f7}(p:E0)(h:af3 k x):af3 (k+1) (B8 x p):=by
 obtain⟨h1,h2,h3⟩:=br6 x p
 exact⟨h.inv.pkt p,Int.le_trans h3 h.snd,by rw[h1];exact h.tim,by rw[h2];exact h.lig⟩
theorem af3.unp1{k:Nat}{x:f7}(h:af3 k x){u:f9}(hu:j6 u=true):af3 k (aS4 x u):=⟨h.inv.unp1 hu,h.snd,h.tim,h.lig⟩
theorem af3.bad{k:Nat}{x:f7}(h:af3 k x):af3 k (ad4 x):=⟨h.inv.bad,h.snd,h.tim,h.lig⟩
theorem bz6{m:f7}(h:j7 m=true)(ht:Enc.tot m≤100000000):af3 0 (Y7 m):=by
 obtain⟨h1,-,-,h4,h5⟩:=ay9 h
 refine⟨h1,?_,⟨h4,h5⟩,?_⟩
 ·have e:Enc.tot m=d9 m.Plan+d9 m.Ups+d9 m.Downs+(d9 m.Ground.Offers+Enc.tot m.Ground.Sender+Enc.tot m.Ground.Unpacker+d9 m.Ground.Pairs+d9 m.Ground.Records+d9 m.Ground.Files+d9 m.Ground.Told)+Enc.tot m.Space+d9 m.Offered+d9 m.Took:=rfl
  have:=d6 m.Plan;have:=d6 m.Ups;have:=d6 m.Downs;have:=d6 m.Ground.Offers;have:=Enc.tot_nonneg m.Ground.Unpacker;have:=d6 m.Ground.Pairs;have:=d6 m.Ground.Records;have:=d6 m.Ground.Files;have:=d6 m.Ground.Told;have:=Enc.tot_nonneg m.Space;have:=d6 m.Offered;have:=d6 m.Took
  show Enc.tot m.Ground.Sender≤_
  omega
 ·simp only[j7,Bool.and_eq_true]at h
  exact D8.1 h.2.1
theorem bN3{m:f7}{x:E0}(h:x.Apid=1)(h5:¬ x.Data.size=5):B8 m x=ad4 m:=by rw[B8,if_pos h,if_neg h5]
theorem bN1{m:f7}{x:E0}(h:x.Apid=1)(hn:ac8 (x.Data.extract 0 2)=none):B8 m x=ad4 m:=by rw[B8,if_pos h];split;rw[hn];rfl
theorem bT5{m:f7}{x:E0}{n:X8}(h:x.Apid=1)(h5:x.Data.size=5)(hn:ac8 (x.Data.extract 0 2)=some n):B8 m x=bJ4 m n (as9 x.Data):=by rw[B8,if_pos h,if_pos h5,hn]
theorem bN2{m:f7}{x:E0}(h:x.Apid=2)(hn:aa2 x.Data=none):B8 m x=ad4 m:=by rw[B8,if_neg om,if_pos h,hn]
theorem bT6{m:f7}{x:E0}{r:s8}(h:x.Apid=2)(hn:aa2 x.Data=some r):B8 m x=bT9 m r:=by rw[B8,if_neg om,if_pos h,hn]
theorem bT4{m:f7}{x:E0}(h:x.Apid=3):B8 m x=bP5 m x.Data:=by rw[B8,if_neg om,if_neg om,if_pos h]
theorem bT3{m:f7}{x:E0}(h1:¬ x.Apid=1)(h2:¬ x.Apid=2)(h3:¬ x.Apid=3):B8 m x=ad4 m:=by rw[B8,if_neg h1,if_neg h2,if_neg h3]
theorem bl2{n:X8}(h:ac8 s=some n):inB n.Expect 0 255=true:=by
 unfold ac8 at h
 split at h
 ·cases h;exact D8.2 (J5 s 0)
 ·cases h
theorem bx5(d:ByteArray):0≤as9 d∧as9 d≤16777215:=by
 have h2:=J5 d 2;have h3:=J5 d 3;have h4:=J5 d 4
 unfold as9;omega
theorem aU4{r:s8}(h:aa2 s=some r)(hs:s.size≤100):av4 r:=by
 unfold aa2 at h
 split at h
 ·cases h
  have h0:=J5 s 0;have h1:=J5 s 1;have h2:=J5 s 2;have h3:=J5 s 3;have h4:=J5 s 4;have h5:=J5 s 5
  refine⟨?_,?_,?_,?_,trivial⟩
  ·show i64 (bAt s 0*256+bAt s 1);unfold i64;omega
  ·show i64 (bAt s 2);unfold i64;omega
  ·show i64 ((bAt s 3*256+bAt s 4)*256+bAt s 5);unfold i64;omega
  ·show(s.extract 6 s.size).size≤_;simp only[ByteArray.size_extract];omega
 ·cases h
def cM(m:f7)(A:I1):List Value:=(s9 m A)
structure Fld(α:Type)[E:D7 α] where
 off:Nat
 col:Nat
 get:f7→List α
 set:f7→List α→f7
 ga:I1→Option Addr
 gc:I1→Nat
 sa:I1→Option Addr→Nat→I1
 own:∀ {B χ w A x},D9 B χ 0 w A x→B6 B χ (col,0) w (ga A) (gc A) (get x)
 put:∀ {B χ w w2 A x a c l},D9 B χ 0 w A x→Fr B χ (·=(col,0)) w w2→B6 B χ (col,0) w2 a c l→D9 B χ 0 w2 (sa A a c) (set x l)
 cell:∀ x A,(cM x A)[off]?=some (.slice (ga A) (get x).length (gc A))
 cells:∀ x A l a c,(cM x A).set off (.slice a l.length c)=cM (set x l) (sa A a c)
 lt:off<61
 clt:col<22
 eta:∀ A,sa A (ga A) (gc A)=A
theorem Own.held{α:Type}{T size g B c:Nat}{w:World}{enc:α→List Value}{l:List α}(h:Own enc T size B w (some ⟨g,0,none⟩) c l):∃ cs:List Value,j5 w g cs T∧l.length*size≤cs.length:=by
 obtain⟨hsz,-,⟨hv,hn0⟩|⟨g',cap,cur,hv,hB,hheap,hle,hmax,hcs,-⟩⟩:=h
 ·simp at hv
 ·simp only[Value.slice.injEq,Option.some.injEq,Addr.mk.injEq]at hv
  obtain⟨⟨rfl,-,-⟩,-,rfl⟩:=hv
  refine⟨cur.toList,by unfold j5;simpa using hheap,?_⟩
  rw[show cur.toList.length=cur.size by simp,hcs];exact Nat.mul_le_mul_right _ hle
def MB(X:Nat→Prop)(B b:Nat)(w:World)(A:I1)(m:f7):Prop :=
 ∃ χ:Nat→Col,j5 w b (cM m A) 90∧D9 B χ 0 w A m∧1000≤(χ b).1∧ar2 χ w∧B≤b∧∀ k,X k→1000≤(χ k).1∧k≠b∧k<w.heap.size
def MBp{α:Type}[E:D7 α](F:Fld α)(X:Nat→Prop)(B b:Nat)(w:World)(A:I1)(m:f7)(l:List α)(a:Option Addr)(c:Nat):Prop :=
 ∃ χ:Nat→Col,j5 w b (cM m A) 90∧D9 B χ 0 w (F.sa A a c) (F.set m l)∧1000≤(χ b).1∧ar2 χ w∧B≤b∧∀ k,X k→1000≤(χ k).1∧k≠b∧k<w.heap.size
section
variable {X:Nat→Prop} {B b:Nat} {w w':World} {A:I1} {m:f7}
theorem MB.held(h:MB X B b w A m):j5 w b (cM m A) 90:=h.elim fun _ h=>h.1
theorem MB.lt(h:MB X B b w A m):b<w.heap.size:=h.held.lt
theorem MB.f(h:MB X B b w A m):ad7 B w A m:=h.elim fun _ h=>h.2.1.f
theorem MB.rd(h:MB X B b w A m):Enc.Rd B w (cM m A) m:=⟨A,rfl,h.f⟩
theorem MB.keep(h:MB X B b w A m)(g:d7 B w w'):MB X B b w' A m :=
 h.elim fun χ h=>⟨χ,by have h1:=h.1;unfold j5 at h1 ⊢;rw[g.block b h.2.2.2.2.1 h.1.lt];exact h1,h.2.1.keep g,h.2.2.1,h.2.2.2.1.mono g.size,h.2.2.2.2.1,fun k hk=>⟨(h.2.2.2.2.2 k hk).1,(h.2.2.2.2.2 k hk).2.1,Nat.lt_of_lt_of_le (h.2.2.2.2.2 k hk).2.2 g.size⟩⟩
theorem MB.mono{B':Nat}(h:MB X B b w A m)(g:B'≤B):MB X B' b w A m :=
 h.elim fun χ h=>⟨χ,h.1,h.2.1.mono g,h.2.2.1,h.2.2.2.1,Nat.le_trans g h.2.2.2.2.1,h.2.2.2.2.2⟩
variable {α:Type} [E:D7 α] {F:Fld α} {l:List α} {a:Option Addr} {c:Nat}
theorem MB.own(F:Fld α)(h:MB X B b w A m):Own E.enc E.ty E.size B w (F.ga A) (F.gc A) (F.get m):=h.elim fun _ h=>(F.own h.2.1).own
theorem MB.good(F:Fld α)(h:MB X B b w A m):∀ x∈F.get m,E.good x:=h.elim fun _ h=>(F.own h.2.1).good
theorem MBp.held(h:MBp F X B b w A m l a c):j5 w b (cM m A) 90:=h.elim fun _ h=>h.1
end
section
variable {P:Program} {ops:Array Oper} {rest:List Oper} {op:Oper} {a:Act} {w w0:World} {Q:Exit→Act→World→Prop} {X:Nat→Prop} {B b:Nat} {A:I1} {m:f7} {α:Type} [E:D7 α] {F:Fld α} {l:List α}
end
structure Tr(n B:Nat)(χ:Nat→Col)(o:Nat)(w:World)(B':Nat)(χ':Nat→Col)(o':Nat)(w':World):Prop where
 c:∀ {γ:Type} [D7 γ] (i:Nat),i<n→∀ {a:Option Addr} {c:Nat} {l:List γ},B6 B χ (o+i,0) w a c l→B6 B' χ' (o'+i,0) w' a c l
 r:∀ {γ δ:Type} [ap4 γ δ] [D7 δ] (i:Nat),i<n→∀ {a:Option Addr} {c:Nat} {l:List (N2 γ)},M3 B χ (o+i) w a c l→M3 B' χ' (o'+i) w' a c l
section
variable {n B o:Nat} {χ χ2:Nat→Col} {w w':World}
theorem Tr.fr{C:Col→Prop}(f:Fr B χ C w w')(hi:∀ j k,o≤j→j<o+n→¬ C (j,k)):Tr n B χ o w B χ o w':=⟨fun i h=>fun k=>k.fr f (hi _ _ om om),fun i h=>fun k=>k.fr f fun j=>hi _ _ om om⟩
theorem Tr.to(g:b8 w w'):Tr n B χ o w B χ o w':=⟨fun _ _=>fun k=>k.to g,fun _ _=>fun k=>k.to g⟩
theorem Tr.keep(g:d7 B w w'):Tr n B χ o w B χ o w':=⟨fun _ _=>fun k=>k.keep g,fun _ _=>fun k=>k.keep g⟩
theorem Tr.mono{B2:Nat}(g:B2≤B):Tr n B χ o w B2 χ o w:=⟨fun _ _=>fun k=>k.mono g,fun _ _=>fun k=>k.mono g⟩
theorem Tr.old{f:Col→Col}{U:Nat}(g:w.heap.size≤U):Tr n B χ o w B (I7 U χ χ2 f) o w:=⟨fun _ _=>fun k=>k.old g,fun _ _=>fun k=>k.old g⟩
theorem Tr.new{d U:Nat}(g:U≤B):Tr n B χ2 0 w B (I7 U χ χ2 (B9 d)) d w:=⟨fun i _=>fun k=>(k.new g).ic (by simp[B9,Nat.add_comm]),fun i _=>fun k=>k.new g fun j=>by simp[B9,Nat.add_comm]⟩
end
class R4(α:Type) extends W0 α where
 ty:Nat
 n:Nat
 one:∀ {B χ o w vs x},O B χ o w vs x→vs.all (·.oneCell')=true
 map:∀ {B χ o w B' χ' o' w' vs x},O B χ o w vs x→Tr n B χ o w B' χ' o' w'→O B' χ' o' w' vs x
 nle:n≤1000
structure FS(α β:Type)[A:R4 α][E:D7 β] where
 off:Nat
 col:Nat
 get:α→List β
 set:α→List β→α
 own:∀ {B χ w vs x},A.O B χ 0 w vs x→∃ a c,vs[off]?=some (.slice a (get x).length c)∧B6 B χ (col,0) w a c (get x)
 put:∀ {B χ w w2 vs x a c l},A.O B χ 0 w vs x→Fr B χ (·=(col,0)) w w2→B6 B χ (col,0) w2 a c l→A.O B χ 0 w2 (vs.set off (.slice a l.length c)) (set x l)
 lt:off<A.size
 clt:col<A.n
structure FD(α β:Type)[A:R4 α][E:R4 β] where
 off:Nat
 col:Nat
 get:α→β
 set:α→β→α
 own:∀ {B χ w vs x},A.O B χ 0 w vs x→E.O B χ col w ((vs.drop off).take E.size) (get x)
 put:∀ {B χ w w2 vs us x y},A.O B χ 0 w vs x→Fr B χ (fun i=>col≤i.1∧i.1<col+E.n) w w2→E.O B χ col w2 us y→A.O B χ 0 w2 (ak0 vs off us) (set x y)
 le:off+E.size≤A.size
 cle:col+E.n≤A.n
def GB{α:Type}[E:R4 α](X:Nat→Prop)(B b:Nat)(w:World)(x:α):Prop :=
 ∃ (χ:Nat→Col) (vs:List Value),j5 w b vs E.ty∧E.O B χ 0 w vs x∧1000≤(χ b).1∧ar2 χ w∧B≤b∧∀ k,X k→1000≤(χ k).1∧k≠b∧k<w.heap.size
def GBp{α β:Type}[E:R4 α][D7 β](F:FS α β)(X:Nat→Prop)(B b:Nat)(w:World)(x:α)(l:List β)(a:Option Addr)(c:Nat):Prop :=
 ∃ (χ:Nat→Col) (vs:List Value),j5 w b vs E.ty∧vs.length=E.size∧E.O B χ 0 w (vs.set F.off (.slice a l.length c)) (F.set x l)∧1000≤(χ b).1∧ar2 χ w∧B≤b∧∀ k,X k→1000≤(χ k).1∧k≠b∧k<w.heap.size
def GBq{α β:Type}[E:R4 α][E2:R4 β](F:FD α β)(X:Nat→Prop)(B b:Nat)(w:World)(x:α)(us:List Value)(y:β):Prop :=
 ∃ (χ:Nat→Col) (vs:List Value),j5 w b vs E.ty∧vs.length=E.size∧us.length=E2.size∧us.all (·.oneCell')=true∧E.O B χ 0 w (ak0 vs F.off us) (F.set x y)∧1000≤(χ b).1∧ar2 χ w∧B≤b∧∀ k,X k→1000≤(χ k).1∧k≠b∧k<w.heap.size
theorem av2{α:Type}[E:R4 α]{χ:Nat→Col}{vs:List Value}{x:α}(h:E.O B χ o w vs x):vs.length=E.size:=E.len (E.toRd h)
section
variable {α β δ:Type} [E:R4 α] [E2:D7 β] [E3:R4 δ] {X:Nat→Prop} {B b:Nat} {w w':World} {x:α} {F:FS α β} {D:FD α δ} {l:List β} {a:Option Addr} {c:Nat} {y:δ} {us:List Value}
theorem GB.vs(h:GB X B b w x):∃ vs,j5 w b vs E.ty∧vs.length=E.size∧vs.all (·.oneCell')=true∧E.Rd B w vs x∧∃ χ,E.O B χ 0 w vs x:=h.elim fun χ h=>h.elim fun vs h=>⟨vs,h.1,av2 h.2.1,E.one h.2.1,E.toRd h.2.1,χ,h.2.1⟩
theorem GB.le(h:GB X B b w x):B≤b:=h.elim fun _ h=>h.elim fun _ h=>h.2.2.2.2.1
theorem GB.lt(h:GB X B b w x):b<w.heap.size:=h.elim fun _ h=>h.elim fun _ h=>h.1.lt
theorem GB.xs(h:GB X B b w x){k:Nat}(hk:X k):k≠b∧k<w.heap.size:=h.elim fun _ h=>h.elim fun _ h=>(h.2.2.2.2.2 k hk).2
theorem GB.to(h:GB X B b w x)(g:b8 w w'):GB X B b w' x :=
 h.elim fun χ h=>h.elim fun vs h=>⟨χ,vs,h.1.to g,E.map h.2.1 (.to g),h.2.2.1,h.2.2.2.1.mono g.out.size,h.2.2.2.2.1,fun k hk=>⟨(h.2.2.2.2.2 k hk).1,(h.2.2.2.2.2 k hk).2.1,Nat.lt_of_lt_of_le (h.2.2.2.2.2 k hk).2.2 g.out.size⟩⟩
theorem GB.keep(h:GB X B b w x)(g:d7 B w w'):GB X B b w' x :=
 h.elim fun χ h=>h.elim fun vs h=>⟨χ,vs,by have h1:=h.1;unfold j5 at h1 ⊢;rw[g.block b h.2.2.2.2.1 h.1.lt];exact h1,E.map h.2.1 (.keep g),h.2.2.1,h.2.2.2.1.mono g.size,h.2.2.2.2.1,fun k hk=>⟨(h.2.2.2.2.2 k hk).1,(h.2.2.2.2.2 k hk).2.1,Nat.lt_of_lt_of_le (h.2.2.2.2.2 k hk).2.2 g.size⟩⟩
theorem GB.mono{B':Nat}(h:GB X B b w x)(g:B'≤B):GB X B' b w x :=
 h.elim fun χ h=>h.elim fun vs h=>⟨χ,vs,h.1,E.map h.2.1 (.mono g),h.2.2.1,h.2.2.2.1,Nat.le_trans g h.2.2.2.2.1,h.2.2.2.2.2⟩
theorem GB.less{X':Nat→Prop}(h:GB X B b w x)(g:∀ k,X' k→X k):GB X' B b w x :=
 h.elim fun χ h=>h.elim fun vs h=>⟨χ,vs,h.1,h.2.1,h.2.2.1,h.2.2.2.1,h.2.2.2.2.1,fun k hk=>h.2.2.2.2.2 k (g k hk)⟩
theorem GB.of{χ:Nat→Col}{u z:World}{vs:List Value}(h:E.O B χ 0 u vs x)(k:d7 0 u z)(hB:B≤u.heap.size)(H:j5 z u.heap.size vs E.ty):GB (fun _=>False) B u.heap.size z x :=
 ⟨I7 u.heap.size χ (fun _=>(0,0)) (fun _=>(1000,0)),vs,H,E.map (E.map h (.old nl)) (.keep (k.more (Nat.zero_le _))),by rw[I7,if_neg (Nat.lt_irrefl _)];exact Nat.le_refl _,aC6 k.size,hB,fun _ h=>h.elim⟩
theorem GB.prot{P:Nat→Prop}{u:World}(h:GB X B b u x)(g:b8 u w)(hP:∀ k,P k→u.heap.size≤k∧k<w.heap.size):GB (fun k=>X k∨P k) B b w x:=by
 have hl:=h.lt
 obtain⟨χ,vs,h1,h2,h3,h4,h5,h6⟩:=h
 refine⟨χ,vs,h1.to g,E.map h2 (.to g),h3,h4.mono g.out.size,h5,fun k hk=>?_⟩
 rcases hk with hk|hk
 ·exact⟨(h6 k hk).1,(h6 k hk).2.1,Nat.lt_of_lt_of_le (h6 k hk).2.2 g.out.size⟩
 ·have:=hP k hk
  exact⟨h4 k this.1,by omega,this.2⟩
theorem ca5{χ:Nat→Col}{C:Col→Prop}(hF:Fr B χ C w w')(hC:∀ i,C i→i.1<1000){k:Nat}(hk:1000≤(χ k).1)(hl:k<w.heap.size):w'.heap[k]?=w.heap[k]? :=
 hF.block k hl fun e=>by have:=hC _ e.2;omega
theorem FS.c1000(F:FS α β):F.col<1000:=Nat.lt_of_lt_of_le F.clt E.nle
theorem GB.own(F:FS α β)(h:GB X B b w x):∃ a c,(∀ (W:World) [b8 w W],W.cell? ⟨b,F.off,none⟩=some (.slice a (F.get x).length c))∧Own E2.enc E2.ty E2.size B w a c (F.get x)∧(∀ s∈F.get x,E2.good s)∧RdS B w a c (F.get x):=by
 obtain⟨χ,vs,h1,h2,-⟩:=h
 obtain⟨a,c,hv,k⟩:=F.own h2
 exact⟨a,c,h1.cellG F.off _ hv,k.own,k.good,k.rd⟩
theorem GBp.app{n sc0:Nat}{u W W2:World}{p:β}{sa0 sa:Option Addr}{sc:Nat}(h:GB X B b u x)(hc0:u.cell? ⟨b,F.off,none⟩=some (.slice sa0 (F.get x).length sc0))(g:b8 u W)(hown:Own E2.enc E2.ty E2.size B W2 sa sc (F.get x++[p]))(hgr:W.grownBy W2 (Value.ownBlock (.slice sa0 n sc0)))
  (hblk:E9 sa=E9 sa0∨E9 sa=some W.heap.size) (hg:E2.good p):GBp F X B b W2 x (F.get x++[p]) sa sc∧∀ k,X k→W2.heap[k]?=W.heap[k]?:=by
 obtain⟨χ,vs,h1,h2,h3,h4,h5,h6⟩:=h
 obtain⟨a0,c0,hv,hO⟩:=F.own h2
 rw[h1.cell,hv]at hc0
 simp only[Option.some.injEq,Value.slice.injEq,true_and]at hc0
 obtain⟨rfl,rfl⟩:=hc0
 have hlu:=h1.lt
 have hF:=(hO.to g).wrote hgr
 have hc:=F.c1000
 have hsu:=g.out.size
 have hs:=hF.size
 have hlen:=av2 h2
 have hX:∀ k,1000≤(χ k).1→k<u.heap.size→W2.heap[k]?=W.heap[k]?:=fun k hk hl=>ca5 hF (fun i e=>by rw[e];exact hc) hk om
 have hp:∀ k,k<W.heap.size→I7 W2.heap.size (I7 W.heap.size χ (fun _=>(F.col,0)) id) (fun _=>(0,0)) (fun _=>(1000,0)) k=χ k:=fun k hk=>by rw[I7,if_pos om,I7,if_pos hk]
 refine⟨⟨I7 W2.heap.size (I7 W.heap.size χ (fun _=>(F.col,0)) id) (fun _=>(0,0)) (fun _=>(1000,0)),vs,?_,hlen,?_,?_,aC6 nl,h5,fun k hk=>⟨?_,(h6 k hk).2.1,by have:=(h6 k hk).2.2;omega⟩⟩,fun k hk=>hX k (h6 k hk).1 (h6 k hk).2.2⟩
 ·have h1':=h1.to g
  unfold j5 at h1' ⊢
  rw[hX b h3 hlu];exact h1'
 ·exact E.map (F.put (E.map (E.map h2 (.to g)) (.old nl)) (hF.old nl) ((hO.to g).app hown hblk hg)) (.old nl)
 ·rw[hp b om];exact h3
 ·rw[hp k (by have:=(h6 k hk).2.2;omega)];exact(h6 k hk).1
theorem GBp.new{u:World}{a:Option Addr}{c:Nat}{l:List β}(h:GB X B b u x)(g:b8 u w)(k:B6 u.heap.size (fun _=>(0,0)) (0,0) w a c l):GBp F X B b w x l a c:=by
 have hlu:=h.lt
 obtain⟨χ,vs,h1,h2,h3,h4,h5,h6⟩:=h
 have hs:=g.out.size
 have hp:∀ k,k<u.heap.size→I7 w.heap.size (I7 u.heap.size χ (fun _=>(0,0)) (fun _=>(F.col,0))) (fun _=>(0,0)) (fun _=>(1000,0)) k=χ k:=fun k hk=>by rw[I7,if_pos om,I7,if_pos hk]
 refine⟨_,vs,h1.to g,av2 h2,E.map (F.put (E.map (E.map h2 (.old (χ2:=fun _=>(0,0)) (f:=fun _=>(F.col,0)) nl)) (.to g)) (Fr.refl _ _ _ _) ((k.new (f:=fun _=>(F.col,0)) nl).mono om)) (.old nl),?_,aC6 nl,h5,fun k hk=>⟨?_,(h6 k hk).2.1,Nat.lt_of_lt_of_le (h6 k hk).2.2 hs⟩⟩
 ·rw[hp b hlu];exact h3
 ·rw[hp k (h6 k hk).2.2];exact(h6 k hk).1
theorem GBq.new{u:World}{χ2:Nat→Col}(h:GB X B b u x)(g:b8 u w)(k:E3.O u.heap.size χ2 0 w us y):GBq D X B b w x us y:=by
 have hlu:=h.lt
 obtain⟨χ,vs,h1,h2,h3,h4,h5,h6⟩:=h
 have hs:=g.out.size
 have hp:∀ k,k<u.heap.size→I7 w.heap.size (I7 u.heap.size χ χ2 (B9 D.col)) (fun _=>(0,0)) (fun _=>(1000,0)) k=χ k:=fun k hk=>by rw[I7,if_pos om,I7,if_pos hk]
 refine⟨_,vs,h1.to g,av2 h2,av2 k,E3.one k,E.map (D.put (E.map (E.map h2 (.old (χ2:=χ2) (f:=B9 D.col) nl)) (.to g)) (Fr.refl _ _ _ _) (E3.map (E3.map k (.new nl)) (.mono om))) (.old nl),?_,aC6 nl,h5,fun k hk=>⟨?_,(h6 k hk).2.1,Nat.lt_of_lt_of_le (h6 k hk).2.2 hs⟩⟩
 ·rw[hp b hlu];exact h3
 ·rw[hp k (h6 k hk).2.2];exact(h6 k hk).1
theorem bI6{χ:Nat→Col}{vs:List Value}(h:E.O B χ 0 w vs x)(hc:1000≤(χ b).1)(hB:B≤b)(g:w.grownBy w' (some b)):E.O B χ 0 w' vs x :=
 E.map h (.fr (C:=fun i=>i=χ b) ⟨g.os,g.tape,g.output,g.size,fun k hk hn=>g.block k hk (fun e=>hn (by cases e;exact⟨hB,rfl⟩))⟩ (fun j k _ h2 e=>by have:=E.nle;rw[← e]at hc;simp only at hc;omega))
end
section
variable {P:Program} {ops:Array Oper} {rest:List Oper} {op:Oper} {act:Act} {w w0:World} {Q:Exit→Act→World→Prop} {X:Nat→Prop} {B b:Nat} {α β δ:Type} [E:R4 α] [E2:D7 β] [E3:R4 δ] {x x':α} {F:FS α β} {D:FD α δ} {l:List β} {a:Option Addr} {c:Nat} {y:δ} {us:List Value}
theorem bE0(hgd:op.guard=none)(ty:TypeId)(p v:Operand)(ho:op.op=.store ty p v)(h:GBp F X B b w x l a c)(hx:act.eval p=.pointer (some ⟨b,F.off,none⟩))(hv:act.eval v=.slice a l.length c)(hi:(P.info? ty).map (·.size)=some 1)
  (g:b8 w0 w) (hb:w0.heap.size≤B) (K:∀ z:b7 w0,GB X B b z.w (F.set x l)→(∀ k,X k→z.w.heap[k]?=w.heap[k]?)→wpList P ops Q rest (act.put op.dst undef) z.w):wpList P ops Q (op::rest) act w:=by
 obtain⟨χ,vs,h1,hl,h2,h3,h4,h5,h6⟩:=h
 exact Q7 hgd ty p v ho b F.off hx h1 (us:=[.slice a l.length c]) (cs2:=vs.set F.off (.slice a l.length c)) (by rw[hv];rfl) hi rfl (by have:=F.lt;rw[hl];exact this) rfl g (Nat.le_trans hb h5) fun z hz hk =>
  K z ⟨χ,_,hz,bI6 h2 h3 h5 (hk.grown1 g),h3,h4.mono (hk.grown1 g).size,h5,fun k hk'=>⟨(h6 k hk').1,(h6 k hk').2.1,Nat.lt_of_lt_of_le (h6 k hk').2.2 (hk.grown1 g).size⟩⟩ (fun k hk'=>(hk.grown1 g).block k (h6 k hk').2.2 (fun e=>(h6 k hk').2.1 (by cases e;rfl)))
theorem bD8(hgd:op.guard=none)(ty:TypeId)(p v:Operand)(ho:op.op=.store ty p v)(h:GBq D X B b w x us y)(hx:act.eval p=.pointer (some ⟨b,D.off,none⟩))(hv:(act.eval v).cells.toList=us)(hi:(P.info? ty).map (·.size)=some us.length)
  (g:b8 w0 w) (hb:w0.heap.size≤B) (K:∀ z:b7 w0,GB X B b z.w (D.set x y)→(∀ k,X k→z.w.heap[k]?=w.heap[k]?)→wpList P ops Q rest (act.put op.dst undef) z.w):wpList P ops Q (op::rest) act w:=by
 obtain⟨χ,vs,h1,hl,hu,hu1,h2,h3,h4,h5,h6⟩:=h
 exact Q7 hgd ty p v ho b D.off hx h1 (us:=us) (cs2:=ak0 vs D.off us) hv hi hu1 (by have:=D.le;rw[hl,hu];exact this) rfl g (Nat.le_trans hb h5) fun z hz hk =>
  K z ⟨χ,_,hz,bI6 h2 h3 h5 (hk.grown1 g),h3,h4.mono (hk.grown1 g).size,h5,fun k hk'=>⟨(h6 k hk').1,(h6 k hk').2.1,Nat.lt_of_lt_of_le (h6 k hk').2.2 (hk.grown1 g).size⟩⟩ (fun k hk'=>(hk.grown1 g).block k (h6 k hk').2.2 (fun e=>(h6 k hk').2.1 (by cases e;rfl)))
theorem al9(x':α)(hgd:op.guard=none)(ty:TypeId)(p v:Operand)(ho:op.op=.store ty p v)(h:GB X B b w x)(hx:act.eval p=.pointer (some ⟨b,o,none⟩))(hv:(act.eval v).cells.toList=us)(hi:(P.info? ty).map (·.size)=some us.length)(h1:us.all (·.oneCell')=true)(hl:o+us.length≤E.size)
  (hm:∀ {χ vs w},E.O B χ 0 w vs x→E.O B χ 0 w (ak0 vs o us) x') (g:b8 w0 w) (hb:w0.heap.size≤B) (K:∀ z:b7 w0,GB X B b z.w x'→(∀ k,X k→z.w.heap[k]?=w.heap[k]?)→wpList P ops Q rest (act.put op.dst undef) z.w):wpList P ops Q (op::rest) act w:=by
 obtain⟨χ,vs,h0,h2,h3,h4,h5,h6⟩:=h
 exact Q7 hgd ty p v ho b o hx h0 (us:=us) (cs2:=ak0 vs o us) hv hi h1 (by rw[av2 h2];exact hl) rfl g (Nat.le_trans hb h5) fun z hz hk =>
  K z ⟨χ,_,hz,bI6 (hm h2) h3 h5 (hk.grown1 g),h3,h4.mono (hk.grown1 g).size,h5,fun k hk'=>⟨(h6 k hk').1,(h6 k hk').2.1,Nat.lt_of_lt_of_le (h6 k hk').2.2 (hk.grown1 g).size⟩⟩ (fun k hk'=>(hk.grown1 g).block k (h6 k hk').2.2 (fun e=>(h6 k hk').2.1 (by cases e;rfl)))
end
instance R4.iRecorder:R4 I9 where
 toW0:=inferInstance
 ty:=82
 n:=2
 one:=by rintro _ _ _ _ _ _ ⟨a0,c0,a1,c1,rfl,-⟩;rfl
 map:=by rintro _ _ _ _ _ _ _ _ _ _ ⟨a0,c0,a1,c1,rfl,h⟩ t;exact⟨a0,c0,a1,c1,rfl,t.c 0 de h.o0,t.c 1 de h.o1,h.ok⟩
 nle:=by decide
instance R4.iPacker:R4 Q8 where
 toW0:=inferInstance
 ty:=85
 n:=1
 one:=by rintro _ _ _ _ _ _ ⟨a0,c0,rfl,-⟩;rfl
 map:=by rintro _ _ _ _ _ _ _ _ _ _ ⟨a0,c0,rfl,h⟩ t;exact⟨a0,c0,rfl,t.c 0 de h.o0,h.ok⟩
 nle:=by decide
instance R4.iSender:R4 E8 where
 toW0:=inferInstance
 ty:=69
 n:=1
 one:=by rintro _ _ _ _ _ _ ⟨a0,c0,rfl,-⟩;rfl
 map:=by rintro _ _ _ _ _ _ _ _ _ _ ⟨a0,c0,rfl,h⟩ t;exact⟨a0,c0,rfl,t.c 0 de h.o0,h.ok⟩
 nle:=by decide
def ao0:FS E8 V9 where
 off:=2
 col:=0
 get:=(·.Waiting)
 set:=fun x l=>{ x with Waiting:=l }
 own:=by rintro _ _ _ _ _ ⟨a0,c0,rfl,h⟩;exact⟨_,_,rfl,h.o0⟩
 put:=by rintro _ _ _ _ _ _ a c _ ⟨a0,c0,rfl,h⟩ f k;exact⟨a,c,rfl,k,h.ok⟩
 lt:=by decide
 clt:=by decide
instance R4.iBoard:R4 I3 where
 toW0:=inferInstance
 ty:=84
 n:=7
 one:=by rintro _ _ _ _ _ _ ⟨A,rfl,-⟩;rfl
 map:=by rintro _ _ _ _ _ _ _ _ _ _ ⟨A,rfl,h⟩ t;exact⟨A,rfl,t.c 0 de h.o0,t.c 1 de h.o1,t.c 2 de h.o2,t.c 3 de h.o3,t.c 4 de h.o4,t.c 5 de h.o5,t.c 6 de h.o6,h.ok⟩
 nle:=by decide
instance R4.iFileOut:R4 s7 where
 toW0:=inferInstance
 ty:=183
 n:=1
 one:=by rintro _ _ _ _ _ _ ⟨a0,c0,rfl,-⟩;rfl
 map:=by rintro _ _ _ _ _ _ _ _ _ _ ⟨a0,c0,rfl,h⟩ t;exact⟨a0,c0,rfl,t.c 0 de h.o0,h.ok⟩
 nle:=by decide
instance R4.iFileIn:R4 A8 where
 toW0:=inferInstance
 ty:=179
 n:=1
 one:=by rintro _ _ _ _ _ _ ⟨a0,c0,rfl,-⟩;rfl
 map:=by rintro _ _ _ _ _ _ _ _ _ _ ⟨a0,c0,rfl,h⟩ t;exact⟨a0,c0,rfl,t.c 0 de h.o0,h.ok⟩
 nle:=by decide
section
variable {α β δ:Type} [E:R4 α] [E2:D7 β] {X:Nat→Prop} {B b:Nat} {w w':World} {x:α} {F:FS α β} {l:List β} {a:Option Addr} {c:Nat}
theorem ac2{χ:Nat→Col}{B0 k:Nat}{z:World}{vs:List Value}(h:E.O B χ 0 u vs x)(hk:But k u z)(hb:k<B)(h0:B0≤B):E.O B0 χ 0 z vs x:=E.map (E.map h (.keep (hk.keeps hb))) (.mono h0)
theorem ah9{χ:Nat→Col}{z:World}{vs:List Value}(h:E.O B χ 0 u vs x)(g:b8 u z):E.O B χ 0 z vs x:=E.map h (.to g)
end
section
variable {P:Program} {ops:Array Oper} {rest:List Oper} {op:Oper} {act:Act} {w w0:World} {Q:Exit→Act→World→Prop} {X:Nat→Prop} {B b:Nat} {α β:Type} [E:R4 α] [E2:D7 β] {x:α} {F:FS α β} {l:List β} {a:Option Addr} {c n:Nat}
theorem bL5{α:Type}{l:List α}{n:Nat}{y:α}(h:l.length=n):(l++[y]).length=n+1:=by rw[List.length_append,h];rfl
theorem aQ6(hn:l.length=n)(hgd:op.guard=none)(ty:TypeId)(p v:Operand)(ho:op.op=.store ty p v)(h:GBp F X B b w x l a c)(hx:act.eval p=.pointer (some ⟨b,F.off,none⟩))(hv:act.eval v=.slice a n c)(hi:(P.info? ty).map (·.size)=some 1)
  (g:b8 w0 w) (hb:w0.heap.size≤B) (K:∀ z:b7 w0,GB X B b z.w (F.set x l)→wpList P ops Q rest (act.put op.dst undef) z.w):wpList P ops Q (op::rest) act w :=
 bE0 hgd ty p v ho h hx (by rw[hn];exact hv) hi g hb fun z h1 _=>K z h1
end
def isO{α:Type}[E:R4 α](B:Nat)(x:α)(v:Value)(w:World):Prop:=∃ (vs:List Value) (χ:Nat→Col),v=.agg vs.toArray∧E.O B χ 0 w vs x
def bV4{α:Type}[E:R4 α](B:Nat)(x:α):Ent Gr:=.of (isO B x) (fun _ _ _ g ⟨vs,χ,e,h⟩=>⟨vs,χ,e,E.map h (.to ⟨g⟩)⟩)
theorem GBp.same{α β:Type}[E:R4 α][E2:D7 β]{F:FS α β}{X:Nat→Prop}{B b:Nat}{w:World}{x:α}{l:List β}{a:Option Addr}{c:Nat}(h:GBp F X B b w x l a c)(hc:w.cell? ⟨b,F.off,none⟩=some (.slice a l.length c)):GB X B b w (F.set x l):=by
 obtain⟨χ,vs,h1,-,h3,h4,h5,h6,h7⟩:=h
 rw[h1.cell]at hc
 obtain⟨hl,he⟩:=List.getElem?_eq_some_iff.1 hc
 rw[← he,List.set_getElem_self]at h3
 exact⟨χ,vs,h1,h3,h4,h5,h6,h7⟩
section
variable {P:Program} {ops:Array Oper} {rest:List Oper} {op:Oper} {act:Act} {w w0:World} {Q:Exit→Act→World→Prop} {X:Nat→Prop} {B b:Nat} {α β:Type} [E:R4 α] [E2:D7 β] {x:α}
end
theorem bC8{x:E0}{L:List E0}(h:M2 s=some x):X4 s.size s L=X4 (s.extract (4+x.Data.size) s.size).size (s.extract (4+x.Data.size) s.size) (if x.Apid=15 then L else L++[x]):=by
 have hf:=ag1 h
 have e:X4 s.size s L=X4 (s.size - 1+1) s L:=by rw[show s.size - 1+1=s.size by omega]
 rw[e,X4,h]
 simp only
 exact bf0 _ _ _ _ (by simp only[ByteArray.size_extract];omega) nl
theorem bC7{L:List E0}(h:M2 s=none):X4 s.size s L=(s,L):=by
 cases hz:s.size with
 | zero=>rfl
 | succ k=>rw[X4,h]
def bI2:Option aa1→Value
 | some f=>.tuple #[.agg #[.int .i64 f.Channel,.int .i64 f.Count,.int .i64 f.First,.string f.Data],.bool true]
 | none=>.tuple #[.agg #[.int .i64 0,.int .i64 0,.int .i64 0,.string ⟨#[]⟩],.bool false]
def bC6:Option E0→Value
 | some x=>.tuple #[.agg #[.int .i64 x.Apid,.int .i64 x.Seq,.string x.Data],.int .i64 (4+x.Data.size),.bool true]
 | none=>.tuple #[.agg #[.int .i64 0,.int .i64 0,.string ⟨#[]⟩],.int .i64 0,.bool false]
theorem aq9{f:aa1}(h:B7 f=true):(0≤f.Channel∧f.Channel≤2)∧(0≤f.Count∧f.Count≤255)∧(0≤f.First∧(f.First≤23∨f.First=255))∧f.Data.size=24:=by
 simp only[B7,Bool.and_eq_true,Bool.or_eq_true,decide_eq_true_eq,beq_iff_eq]at h
 have h1:=D8.1 h.1;have h2:=D8.1 h.2.1
 refine⟨h1,h2,?_,h.2.2.2⟩
 rcases h.2.2.1 with h3|h3
 ·have:=D8.1 h3;omega
 ·omega
theorem V3{P:Program}{fn:Func}{p t q q2:Nat}(hf:fn.results=#[.cell p t,.tmp q,.tmp q2]){tmps:Array Value}{b:Nat}(hp:tmps.getD p undef=.pointer (some ⟨b,0,none⟩)){cs:List Value}{T:TypeId}(H:j5 w b cs T)
  (d:TypeDesc) (hu:P.underlying t=some d) (hd:d.isRow=true) (hi:(P.info? t).map (·.size)=some cs.length) {u v:Value} (hq:tmps.getD q undef=u) (hv:tmps.getD q2 undef=v):(results fn tmps).run P w=.ok (.tuple #[.agg cs.toArray,u,v]) w:=by
 have:=run_loadVar_mid w b 0 t cs d (H.range (o:=0) (n:=cs.length) si) hu hd hi
 have hp2:tmps[p]?.getD undef=.pointer (some ⟨b,0,none⟩):=by rw[← hp];simp[Array.getD_eq_getD_getElem?]
 have hq2:tmps[q]?.getD undef=u:=by rw[← hq];simp[Array.getD_eq_getD_getElem?]
 have hv2:tmps[q2]?.getD undef=v:=by rw[← hv];simp[Array.getD_eq_getD_getElem?]
 simp[results,hf,hp2,hq2,hv2,asAddr,this]
def bX1(ops:Array Oper)(b:Act)(i:Nat):Option (TypeId × ByteArray × Int) :=
 if Region.wanted (ah4 ops i) (yielded ops b.tmps)then(match (ah4 ops i).op with
  | .slice t x (some y) none none=>(match b.eval x,b.eval y with|.string s,.int .i64 k=>some (t,s,k)|_,_=>none)
  | _=>none)else none
theorem bR8{P:Program}{ops:Array Oper}{b:Act}{i:Nat}{t:TypeId}{r:ByteArray}{k:Nat}{Fs:ai2 Gr}{val:Nat→Value}{q:Nat}(he:(U9 Fs q).fix=some fun _=>.string r)(hk:bX1 ops b i=some (t,s,(k:Int)))(hu:P.underlying t=some .string)(hl:k≤s.size)(hr:s.extract k s.size=r) :
  U0 P ops (ah4 ops i) b w (fun v w'=>(∃ y:b7 w,w'=y.w)∧ai8 Fs q val v w'):=by
 unfold bX1 at hk
 unfold U0
 split at hk
 case isFalse=>cases hk
 rename_i hw
 rw[if_pos hw]
 split at hk
 case h_2=>cases hk
 rename_i t' x y hop
 split at hk
 case h_2=>cases hk
 rename_i s' k' hx hy
 simp only[Option.some.injEq,Prod.mk.injEq]at hk
 obtain⟨rfl,rfl,rfl⟩:=hk
 unfold execOp
 simp only[hop,Sem.run_bind,hx,hy,Option.map_some,Option.map_none,run_sliceAt_string (h:=hu),run_slice_string_l w t' s' hu .i64 (k:Int) om om,Int.toNat_natCast,hr,Result.andThen_ok,Sem.run_pure,aa4]
 refine⟨b7.of,?_⟩
 unfold ai8
 rw[he]
theorem au2{x:aa1}(hz:x.Data.size≤100000000):Calls Tryz.prog 156 #[.agg #[I x.Channel,I x.Count,I x.First,.string x.Data]] w (b5 w (.bool (B7 x))):=by
 cases c0:inB x.First 0 23
 ·cases c1:(x.First == 255)
  ·cases c2:inB x.Channel 0 2
   ·have HV:=lH (show B7 x=false by simp[B7,c0,c1,c2])
    go_enter Tryz.func156,Tryz.ntmps156
    go_wp2_with (first|(go_at_call 146;refine gm (d8) ?_;intro x))
    go_ret
    exact b5.mk (by rw[HV.out];rfl)
   cases c3:inB x.Count 0 255
   ·have HV:=lH (show B7 x=false by simp[B7,c0,c1,c2,c3])
    go_enter Tryz.func156,Tryz.ntmps156
    go_wp2_with (first|(go_at_call 146;refine gm (d8) ?_;intro x))
    go_ret
    exact b5.mk (by rw[HV.out];rfl)
   ·have HV:=lH (show B7 x=false by simp[B7,c0,c1,c2,c3])
    go_enter Tryz.func156,Tryz.ntmps156
    go_wp2_with (first|(go_at_call 146;refine gm (d8) ?_;intro x))
    go_ret
    exact b5.mk (by rw[HV.out];rfl)
  ·cases c2:inB x.Channel 0 2
   ·have HV:=lH (show B7 x=false by simp[B7,c0,c1,c2])
    go_enter Tryz.func156,Tryz.ntmps156
    go_wp2_with (first|(go_at_call 146;refine gm (d8) ?_;intro x))
    go_ret
    exact b5.mk (by rw[HV.out];rfl)
   cases c3:inB x.Count 0 255
   ·have HV:=lH (show B7 x=false by simp[B7,c0,c1,c2,c3])
    go_enter Tryz.func156,Tryz.ntmps156
    go_wp2_with (first|(go_at_call 146;refine gm (d8) ?_;intro x))
    go_ret
    exact b5.mk (by rw[HV.out];rfl)
   cases c4:((x.Data.size:Int) == 24)
   ·have d4:decide (x.Data.size=24)=false:=by simp at c4 ⊢;omega
    have HV:=lH (show B7 x=false by simp[B7,c0,c1,c2,c3,c4,d4])
    go_enter Tryz.func156,Tryz.ntmps156
    go_wp2_with (first|(go_at_call 146;refine gm (d8) ?_;intro x))
    go_ret
    exact b5.mk (by rw[HV.out];rfl)
   ·have d4:decide (x.Data.size=24)=true:=by simp at c4 ⊢;omega
    have HV:=lH (show B7 x=true by simp[B7,c0,c1,c2,c3,c4,d4])
    go_enter Tryz.func156,Tryz.ntmps156
    go_wp2_with (first|(go_at_call 146;refine gm (d8) ?_;intro x))
    go_ret
    exact b5.mk (by rw[HV.out];rfl)
 ·cases c2:inB x.Channel 0 2
  ·have HV:=lH (show B7 x=false by simp[B7,c0,c2])
   go_enter Tryz.func156,Tryz.ntmps156
   go_wp2_with (first|(go_at_call 146;refine gm (d8) ?_;intro x))
   go_ret
   exact b5.mk (by rw[HV.out];rfl)
  cases c3:inB x.Count 0 255
  ·have HV:=lH (show B7 x=false by simp[B7,c0,c2,c3])
   go_enter Tryz.func156,Tryz.ntmps156
   go_wp2_with (first|(go_at_call 146;refine gm (d8) ?_;intro x))
   go_ret
   exact b5.mk (by rw[HV.out];rfl)
  cases c4:((x.Data.size:Int) == 24)
  ·have d4:decide (x.Data.size=24)=false:=by simp at c4 ⊢;omega
   have HV:=lH (show B7 x=false by simp[B7,c0,c2,c3,c4,d4])
   go_enter Tryz.func156,Tryz.ntmps156
   go_wp2_with (first|(go_at_call 146;refine gm (d8) ?_;intro x))
   go_ret
   exact b5.mk (by rw[HV.out];rfl)
  ·have d4:decide (x.Data.size=24)=true:=by simp at c4 ⊢;omega
   have HV:=lH (show B7 x=true by simp[B7,c0,c2,c3,c4,d4])
   go_enter Tryz.func156,Tryz.ntmps156
   go_wp2_with (first|(go_at_call 146;refine gm (d8) ?_;intro x))
   go_ret
   exact b5.mk (by rw[HV.out];rfl)
theorem bb0(hm:s.size≤100000000):Calls Tryz.prog 39 #[.string s] w (b5 w (bI2 (U7 s))):=by
 have HR:=lH (j5.new w [I 0,I 0,I 0,.string ⟨#[]⟩] 107 w.heap.size rfl)
 have gW:b8 w (w.alloc (.cells #[I 0,I 0,I 0,.string ⟨#[]⟩] 107)):=inferInstance
 cases ho:V2 s with
 | none =>
  have HV:=lH (show U7 s=none by rw[U7,ho])
  have HOT:=lH (fun(W:World)=>show Calls Tryz.prog 155 #[.string s] W (b5 W (.tuple #[.string ⟨#[]⟩,.bool false]))by have:=aT6 (s:=s) (w:=W) hm;rw[ho]at this;exact this)
  go_enter Tryz.func39,Tryz.ntmps39
  go_wp2_with (first|((with_reducible refine rl ?_);refine rq ?_;intro x)|(go_at_call 155;refine gm (HOT.out _) ?_;intro y1)|(refine sB rfl _ _ (.tmp 19) rfl (w.heap.size) 0 kr [I 0,I 0,I 0,.string ⟨#[]⟩] HR w nl ?_;intro z9 HX9 KX9))
  refine bodyPost_ret (v:=.tuple #[.agg #[I 0,I 0,I 0,.string ⟨#[]⟩],.bool false]) (A0 (P:=Tryz.prog) (u:=.bool false) rfl rfl HX9.out _ ay0 rfl kr rfl) rfl ⟨by rw[HV.out];rfl,b7.of⟩
 | some t =>
  have HOT:=lH (fun(W:World)=>show Calls Tryz.prog 155 #[.string s] W (b5 W (.tuple #[.string t,.bool true]))by have:=aT6 (s:=s) (w:=W) hm;rw[ho]at this;exact this)
  by_cases h7:t.size=27
  ·have c1:((t.size:Int) != 27)=false:=by simp;omega
   obtain⟨f,hf⟩:∃ f,bL8 t=f:=⟨_,rfl⟩
   have HST:=lH (show U7 s=if B7 f=true then some f else none by rw[U7,ho];simp only[h7,hf,true_and])
   have b0:=J5 t 0
   have e0:bAt t 0=f.Channel:=by rw[← hf];rfl
   have HE0:=lH e0
   rw[e0]at b0
   clear e0
   have b1:=J5 t 1
   have e1:bAt t 1=f.Count:=by rw[← hf];rfl
   have HE1:=lH e1
   rw[e1]at b1
   clear e1
   have b2:=J5 t 2
   have e2:bAt t 2=f.First:=by rw[← hf];rfl
   have HE2:=lH e2
   rw[e2]at b2
   clear e2
   have HD:=lH (show t.extract 3 t.size=f.Data by rw[← hf];rfl)
   have hdz:f.Data.size≤100000000:=by rw[← HD.out];simp only[ByteArray.size_extract];omega
   clear hf ho
   go_enter Tryz.func39,Tryz.ntmps39
   go_upto_region 4 with(first|((with_reducible refine rl ?_);(repeat(first|go_big_quiet_step (first|fail)|simp only[c1]));refine wpQuiet_nil ?_;intro x)|(go_at_call 155;refine gm (HOT.out _) ?_;intro y1))
   refine I5 kr (T:=[13]) (Zs:=[]) (H:=[(1,[]),(2,[]),(4,[]),(5,[]),(7,[]),(8,[]),(10,[]),(12,[])]) (C:=[12]) (Fs:=[(some 20,.v (.string t)),(some 21,.v (.int .u8 (f.Channel))),(some 22,.v (I (f.Channel))),(some 23,.v (.string t)),(some 24,.v (.int .u8 (f.Count))),(some 25,.v (I (f.Count))),(some 26,.v (.string t)),(some 27,.v (.int .u8 (f.First))),(some 28,.v (I (f.First))),(some 29,.v (.string t)),(some 30,.v (.string f.Data)),(some 31,.v (.agg #[I f.Channel,I f.Count,I f.First,.string f.Data])),(some 6,.box y1.w.heap.size [I 0,I 0,I 0,.string ⟨#[]⟩] 107),(none,.v (undef))]) kr (fun val W=>by kernel_rfl) ?ob4 ?lz4 ?pn4 ?tl4
   case ob4 =>
    refine⟨fun x=>?_,fun x=>?_,fun x=>?_,fun x=>?_,fun x=>?_,fun x=>?_,fun x=>?_,fun x=>?_,trivial⟩
    ·exact au1 rfl kr Tryz.underlying9 (show 0<t.size by omega) (by rw[← HE0.out];exact(K0 _).symm)
    ·exact aN3 (t:=5) (d:=3) (p:=.u8) (q:=.i64) (s:=(f.Channel)) rfl kr kr Tryz.underlying3 (aw9 om om)
    ·exact au1 rfl kr Tryz.underlying9 (show 1<t.size by omega) (by rw[← HE1.out];exact(K0 _).symm)
    ·exact aN3 (t:=5) (d:=3) (p:=.u8) (q:=.i64) (s:=(f.Count)) rfl kr kr Tryz.underlying3 (aw9 om om)
    ·exact au1 rfl kr Tryz.underlying9 (show 2<t.size by omega) (by rw[← HE2.out];exact(K0 _).symm)
    ·exact aN3 (t:=5) (d:=3) (p:=.u8) (q:=.i64) (s:=(f.First)) rfl kr kr Tryz.underlying3 (aw9 om om)
    ·exact bR8 (k:=3) rfl kr Tryz.underlying9 om HD.out
    ·exact bR7 rfl kr LeN.out
   case lz4 =>
    exact trivial
   case pn4=>exact fun _ _ _ _ _ _ h=>h
   case tl4 =>
    intro z
    refine aq0 fun v9 q9=>?_
    obtain⟨bq,rfl,hbq,hBq⟩:=(show ∃ b,v9=.pointer (some ⟨b,0,none⟩)∧y1.w.heap.size≤b∧j5 z.w b [I 0,I 0,I 0,.string ⟨#[]⟩] 107 from q9)
    clear q9
    have HBQ:=lH hBq
    have hbq2:w.heap.size+1≤bq:=by have h5:=(ii:b8 (w.alloc (.cells #[I 0,I 0,I 0,.string ⟨#[]⟩] 107)) y1.w).out.size;simp only[World.size_alloc]at h5;omega
    clear hBq
    refine aF1 rfl ?_
    simp only[ag8,ae9]
    simp only[nrm,if_true]
    go_upto_region 5 with(first|((with_reducible refine rl ?_);refine rq ?_;intro x)|(refine sB rfl _ _ (.tmp 31) rfl (bq) 0 kr [I f.Channel,I f.Count,I f.First,.string f.Data] HBQ w om ?_;intro z6 HX6 KX6))
    (try simp only[Act.put])
    have HR6:=lH ((HR.out.to (ii:b8 (w.alloc (.cells #[I 0,I 0,I 0,.string ⟨#[]⟩] 107)) _)).but KX6.out om)
    clear HR KX6
    go_wp2_with (first|((with_reducible refine rl ?_);refine rq ?_;intro x)|(refine lA rfl _ _ rfl (bq) 0 kr [I f.Channel,I f.Count,I f.First,.string f.Data] HX6 ay0 ?_))
    refine gm (au2 (x:=f) hdz) ?_
    intro y4
    cases c2:B7 f
    ·have HV:=lH (show U7 s=none by rw[HST.out,c2];rfl)
     go_wp2_with (first|((with_reducible refine rl ?_);(repeat(first|go_big_quiet_step (first|fail)|simp only[c2]));refine wpQuiet_nil ?_;intro x)|(refine sB rfl _ _ (.tmp 35) rfl (w.heap.size) 0 kr [I 0,I 0,I 0,.string ⟨#[]⟩] HR6 w nl ?_;intro z9 HX9 KX9))
     refine bodyPost_ret (v:=.tuple #[.agg #[I 0,I 0,I 0,.string ⟨#[]⟩],.bool false]) (A0 (P:=Tryz.prog) (u:=.bool false) rfl rfl HX9.out _ ay0 rfl kr rfl) rfl ⟨by rw[HV.out];rfl,b7.of⟩
    ·have HV:=lH (show U7 s=some f by rw[HST.out,c2];rfl)
     go_wp2_with (first|((with_reducible refine rl ?_);(repeat(first|go_big_quiet_step (first|fail)|simp only[c2]));refine wpQuiet_nil ?_;intro x)|(refine lA rfl _ _ rfl (bq) 0 kr [I f.Channel,I f.Count,I f.First,.string f.Data] HX6 ay0 ?_)|(refine sB rfl _ _ (.tmp 36) rfl (w.heap.size) 0 kr [I f.Channel,I f.Count,I f.First,.string f.Data] HR6 w nl ?_;intro z9 HX9 KX9))
     refine bodyPost_ret (v:=.tuple #[.agg #[I f.Channel,I f.Count,I f.First,.string f.Data],.bool true]) (A0 (P:=Tryz.prog) (u:=.bool true) rfl rfl HX9.out _ ay0 rfl kr rfl) rfl ⟨by rw[HV.out];rfl,b7.of⟩
  ·have c1:((t.size:Int) != 27)=true:=by simp;omega
   have HV:=lH (show U7 s=none by rw[U7,ho];simp only[h7,false_and,if_false])
   go_enter Tryz.func39,Tryz.ntmps39
   go_wp2_with (first|((with_reducible refine rl ?_);(repeat(first|go_big_quiet_step (first|fail)|simp only[c1]));refine wpQuiet_nil ?_;intro x)|(go_at_call 155;refine gm (HOT.out _) ?_;intro y1)|(refine sB rfl _ _ (.tmp 19) rfl (w.heap.size) 0 kr [I 0,I 0,I 0,.string ⟨#[]⟩] HR w nl ?_;intro z9 HX9 KX9))
   refine bodyPost_ret (v:=.tuple #[.agg #[I 0,I 0,I 0,.string ⟨#[]⟩],.bool false]) (A0 (P:=Tryz.prog) (u:=.bool false) rfl rfl HX9.out _ ay0 rfl kr rfl) rfl ⟨by rw[HV.out];rfl,b7.of⟩
theorem aC7{v:World}(g:b8 u v):d7 B u v:=⟨g.out.size,fun k _ h2=>g.out.block k h2⟩
theorem at5{P:Program}{ops:Array Oper}{rest:List Oper}{op:Oper}{act:Act}{w0:World}{Q:Exit→Act→World→Prop}{X:Nat→Prop}{b:Nat}{α β:Type}[E:R4 α][E2:D7 β]{x:α}{F:FS α β}{l:List β}{n:Nat}(hn:l.length=n)(hgd:op.guard=none)(ty:TypeId)(p v:Operand)(ho:op.op=.store ty p v)(h:GBp F X B b w x l a c)(hx:act.eval p=.pointer (some ⟨b,F.off,none⟩))(hv:act.eval v=.slice a n c)(hi:(P.info? ty).map (·.size)=some 1)
  (g:b8 w0 w) (hb:w0.heap.size≤B) (K:∀ z:b7 w0,GB X B b z.w (F.set x l)→(∀ k,X k→z.w.heap[k]?=w.heap[k]?)→wpList P ops Q rest (act.put op.dst undef) z.w):wpList P ops Q (op::rest) act w :=
 bE0 hgd ty p v ho h hx (by rw[hn];exact hv) hi g hb K
theorem aG9{α:Type}{enc:α→List Value}{T size:Nat}{W W2:World}{l:List α}{row:Option Nat}(h:Own enc T size B w a c l)(g:b8 w W)(hg:W.grownBy W2 row)(hne:∀ k,E9 a=some k→row≠some k):Own enc T size B W2 a c l :=
 h.same (fun k hk _ hl=>(hg.block k (Nat.lt_of_lt_of_le hl g.out.size) (fun e=>hne k hk e.symm)).trans (g.out.block k hl))
theorem bL6{l r:List k5}{x:k5}{D:List k5}{F:List k5}(h:D++ag9 t l=F)(hd:l=x::r)(hx:aB4 t x=true):(D++[x])++ag9 t r=F:=by
 rw[← h,hd];simp[ag9,List.filter_cons,hx]
theorem bR6{l r:List k5}{x:k5}{D F:List k5}(h:D++ag9 t l=F)(hd:l=x::r)(hx:aB4 t x=false):D++ag9 t r=F:=by
 rw[← h,hd];simp[ag9,List.filter_cons,hx]
theorem bm1{l r:List k5}{x:k5}{D F:List k5}(h:D++W5 t l=F)(hd:l=x::r)(hx:aB4 t x=false):(D++[x])++W5 t r=F:=by
 rw[← h,hd];simp[W5,List.filter_cons,hx]
theorem bA8{l r:List k5}{x:k5}{D F:List k5}(h:D++W5 t l=F)(hd:l=x::r)(hx:aB4 t x=true):D++W5 t r=F:=by
 rw[← h,hd];simp[W5,List.filter_cons,hx]
def bL1{α:Type}(f:k5→α)(enc:α→List Value)(T size:Nat)(w:World)(l:List k5)(t:Int):Ending→World→Prop:=fun e w'=>∃ (da la:Option Addr) (dc lc:Nat),e=.returned (.tuple #[.slice da (ag9 t l).length dc,.slice la (W5 t l).length lc])∧Own enc T size w.heap.size w' da dc ((ag9 t l).map f)∧Own D6 129 2 w.heap.size w' la lc (W5 t l)∧(∀ j,E9 da=some j→E9 la≠some j)∧∃ y:b7 w,w'=y.w
theorem aX1{l:List k5}(hs:RdS B w a c l)(hm:l.length≤100000000):Calls Tryz.prog 37 #[.slice a l.length c,I t] w (bL1 id D6 129 2 w l t):=by
 obtain⟨n,hn⟩:∃ n,l.length=n:=⟨_,rfl⟩
 have HN:=lH hn
 rw[hn]at hm ⊢
 clear hn
 go_enter Tryz.func37,Tryz.ntmps37
 go_wp2_with (fail)
 go_loopw [6,7,12] (fun u v i wr=>∃ (k p q:Nat) (D L:List k5) (da la:Option Addr) (dc lc:Nat),u=.slice da p dc∧v=.slice la q lc∧i=I k∧k≤n∧p≤k∧q≤k∧D.length=p∧L.length=q∧Hid (D++ag9 t (l.drop k)=ag9 t l)∧Hid (L++W5 t (l.drop k)=W5 t l)∧Hid (Own D6 129 2 w.heap.size wr da dc (D.map id))∧Hid (Own D6 129 2 w.heap.size wr la lc L)∧Hid (∀ j,E9 da=some j→E9 la≠some j)∧∃ y:b7 w,wr=y.w) (fun _ _ i _=>(n - intOf i).toNat)
 case atStart=>exact⟨0,0,0,[],[],none,none,0,0,rfl,rfl,rfl,Nat.zero_le _,Nat.le_refl _,Nat.le_refl _,rfl,rfl,rfl,rfl,lH (Own.nil ai5),lH (Own.nil ai5),lH (fun j hj=>by cases hj),b7.of⟩
 case round =>
  obtain⟨k,p,q,D,L,da,la,dc,lc,rfl,rfl,rfl,hk,hp,hq,hD,hL,HF,HG,HDO,HLO,HDJ,y,rfl⟩:=hrel
  by_cases h:k<n
  ·obtain⟨eb,eoff,es,rfl,ehb,ehd,eok,eh0,eh1⟩:=hs.atTFlight (show k<l.length by rw[HN.out];exact h)
   clear eok
   have hDm:(D.map id).length=p:=by rw[List.length_map];exact hD
   have hpb:p≤1000000000:=by omega
   have hqb:q≤1000000000:=by omega
   cases c1:decide (es.At≤t)
   ·have hx:aB4 t es=false:=c1
    have HX:=lH hx
    clear hx
    go_wp2_with (first|(at_builtin;refine ac6 (enc:=D6) (w0:=w) (z:=.agg #[I 0,.string ⟨#[]⟩]) (size:=2) (bytes:=24) (n:=q) (es) rfl (.tmp 24) (.tmp 26) rfl Tryz.underlying66 kr rfl de de rfl rfl hL (HLO.out.to ii) bk rfl (ai6 _) om LeN.out ii nl ?_;intro sa6 sc6 x6 ho6 hg6 hb6))
    have hD6:=aG9 HDO.out (ii) hg6 (fun k hk e=>HDJ.out k hk (by rw[I6]at e;exact e))
    have hdj:∀ j,E9 da=some j→E9 sa6≠some j:=fun j hj hl=>hb6.elim (fun e=>HDJ.out j hj (e▸hl)) (fun e=>by rw[e]at hl;cases hl;exact absurd (HDO.out.blk _ hj).2 (Nat.not_lt.2 (ii:b8 y.w _).out.size))
    have HD6:=lH hD6;have HDJ6:=lH hdj;have HO6:=lH ho6
    clear hD6 hdj ho6 hg6 hb6
    skip
    go_roundw
    case rel=>exact⟨k+1,p,q+1,D,L++[es],da,sa6,dc,sc6,rfl,rfl,by go_num,by omega,by omega,by omega,hD,by simp[hL],lH (bR6 HF.out ehd.out HX.out),lH (bm1 HG.out ehd.out HX.out),HD6.out.to ii,HO6.out.to ii,HDJ6,b7.of⟩
    case measure=>simp[intOf];omega
   ·have hx:aB4 t es=true:=c1
    have HX:=lH hx
    clear hx
    go_wp2_with (first|(at_builtin;refine ac6 (enc:=D6) (w0:=w) (z:=.agg #[I 0,.string ⟨#[]⟩]) (size:=2) (bytes:=24) (n:=p) (es) rfl (.tmp 20) (.tmp 22) rfl Tryz.underlying66 kr rfl de de rfl rfl hDm (HDO.out.to ii) bk rfl (ai6 _) om LeN.out ii nl ?_;intro sa6 sc6 x6 ho6 hg6 hb6))
    have hL6:=aG9 HLO.out (ii) hg6 (fun k hk e=>HDJ.out k (by rw[I6]at e;exact e) hk)
    have hdj:∀ j,E9 sa6=some j→E9 la≠some j:=fun j hj hl=>hb6.elim (fun e=>HDJ.out j (e▸hj) hl) (fun e=>by rw[e]at hj;cases hj;exact absurd (HLO.out.blk _ hl).2 (Nat.not_lt.2 (ii:b8 y.w _).out.size))
    have HL6:=lH hL6;have HDJ6:=lH hdj;have HO6:=lH (show Own D6 129 2 w.heap.size x6.w sa6 sc6 ((D++[es]).map id)by rw[List.map_append];exact ho6)
    clear hL6 hdj ho6 hg6 hb6
    go_roundw
    case rel=>exact⟨k+1,p+1,q,D++[es],L,sa6,la,sc6,lc,rfl,rfl,by go_num,by omega,by omega,by omega,by simp[hD],hL,lH (bL6 HF.out ehd.out HX.out),lH (bA8 HG.out ehd.out HX.out),HO6.out.to ii,HL6.out.to ii,HDJ6,b7.of⟩
    case measure=>simp[intOf];omega
  ·obtain rfl:k=n:=by omega
   have hf:D=ag9 t l:=by have:=HF.out;rw[List.drop_of_length_le (by rw[HN.out];exact Nat.le_refl _)]at this;simpa[ag9]using this
   have hg:L=W5 t l:=by have:=HG.out;rw[List.drop_of_length_le (by rw[HN.out];exact Nat.le_refl _)]at this;simpa[W5]using this
   have HDF:=lH hf;have HLF:=lH hg
   clear hf hg
   go_wp2_with (fail)
   refine bodyPost_ret (v:=.tuple #[.slice da p dc,.slice la q lc]) ?_ rfl ⟨da,la,dc,lc,by rw[← HDF.out,← HLF.out,hD,hL],by rw[← HDF.out];exact HDO.out.to ii,by rw[← HLF.out];exact HLO.out.to ii,HDJ.out,b7.of⟩
   simp[results,Tryz.results37,go_sem]
theorem bg9{l:List k5}(hs:RdS B w a c l)(hm:l.length≤100000000):Calls Tryz.prog 21 #[.slice a l.length c,I t] w (bL1 k5.Data L4 9 1 w l t):=by
 obtain⟨n,hn⟩:∃ n,l.length=n:=⟨_,rfl⟩
 have HN:=lH hn
 rw[hn]at hm ⊢
 clear hn
 go_enter Tryz.func21,Tryz.ntmps21
 go_wp2_with (fail)
 go_loopw [6,7,8] (fun u v i wr=>∃ (k p q:Nat) (D L:List k5) (da la:Option Addr) (dc lc:Nat),u=.slice da p dc∧v=.slice la q lc∧i=I k∧k≤n∧p≤k∧q≤k∧D.length=p∧L.length=q∧Hid (D++ag9 t (l.drop k)=ag9 t l)∧Hid (L++W5 t (l.drop k)=W5 t l)∧Hid (Own L4 9 1 w.heap.size wr da dc (D.map k5.Data))∧Hid (Own D6 129 2 w.heap.size wr la lc L)∧Hid (∀ j,E9 da=some j→E9 la≠some j)∧∃ y:b7 w,wr=y.w) (fun _ _ i _=>(n - intOf i).toNat)
 case atStart=>exact⟨0,0,0,[],[],_,_,0,0,rfl,rfl,rfl,Nat.zero_le _,Nat.le_refl _,Nat.le_refl _,rfl,rfl,rfl,rfl,lH ((Own.emptyAt (W:=w) az0 nl rfl).to ii),lH (Own.emptyAt (W:=w.alloc (.cells #[] 9)) ai5 LeN.out si),lH (fun j hj e=>by simp[E9]at hj e;omega),b7.of⟩
 case round =>
  obtain⟨k,p,q,D,L,da,la,dc,lc,rfl,rfl,rfl,hk,hp,hq,hD,hL,HF,HG,HDO,HLO,HDJ,y,rfl⟩:=hrel
  by_cases h:k<n
  ·obtain⟨eb,eoff,es,rfl,ehb,ehd,eok,eh0,eh1⟩:=hs.atTFlight (show k<l.length by rw[HN.out];exact h)
   clear eok
   have hDm:(D.map k5.Data).length=p:=by rw[List.length_map];exact hD
   have hpb:p≤1000000000:=by omega
   have hqb:q≤1000000000:=by omega
   cases c1:decide (es.At≤t)
   ·have hx:aB4 t es=false:=c1
    have HX:=lH hx
    clear hx
    go_wp2_with (first|(at_builtin;refine ac6 (enc:=D6) (w0:=w) (z:=.agg #[I 0,.string ⟨#[]⟩]) (size:=2) (bytes:=24) (n:=q) (es) rfl (.tmp 32) (.tmp 37) rfl Tryz.underlying66 kr rfl de de rfl rfl hL (HLO.out.to ii) bk rfl (ai6 _) om LeN.out ii nl ?_;intro sa6 sc6 x6 ho6 hg6 hb6))
    have hD6:=aG9 HDO.out (ii) hg6 (fun k hk e=>HDJ.out k hk (by rw[I6]at e;exact e))
    have hdj:∀ j,E9 da=some j→E9 sa6≠some j:=fun j hj hl=>hb6.elim (fun e=>HDJ.out j hj (e▸hl)) (fun e=>by rw[e]at hl;cases hl;exact absurd (HDO.out.blk _ hj).2 (Nat.not_lt.2 (ii:b8 y.w _).out.size))
    have HD6:=lH hD6;have HDJ6:=lH hdj;have HO6:=lH ho6
    clear hD6 hdj ho6 hg6 hb6
    skip
    go_roundw
    case rel=>exact⟨k+1,p,q+1,D,L++[es],da,sa6,dc,sc6,rfl,rfl,by go_num,by omega,by omega,by omega,hD,by simp[hL],lH (bR6 HF.out ehd.out HX.out),lH (bm1 HG.out ehd.out HX.out),HD6.out.to ii,HO6.out.to ii,HDJ6,b7.of⟩
    case measure=>simp[intOf];omega
   ·have hx:aB4 t es=true:=c1
    have HX:=lH hx
    clear hx
    go_wp2_with (first|(at_builtin;refine ac6 (enc:=L4) (w0:=w) (z:=.string ⟨#[]⟩) (size:=1) (bytes:=16) (n:=p) (es.Data) rfl (.tmp 24) (.tmp 30) rfl Tryz.underlying30 kr rfl de de rfl rfl hDm (HDO.out.to ii) bk rfl (az1 _) om LeN.out ii nl ?_;intro sa6 sc6 x6 ho6 hg6 hb6))
    have hL6:=aG9 HLO.out (ii) hg6 (fun k hk e=>HDJ.out k (by rw[I6]at e;exact e) hk)
    have hdj:∀ j,E9 sa6=some j→E9 la≠some j:=fun j hj hl=>hb6.elim (fun e=>HDJ.out j (e▸hj) hl) (fun e=>by rw[e]at hj;cases hj;exact absurd (HLO.out.blk _ hl).2 (Nat.not_lt.2 (ii:b8 y.w _).out.size))
    have HL6:=lH hL6;have HDJ6:=lH hdj;have HO6:=lH (show Own L4 9 1 w.heap.size x6.w sa6 sc6 ((D++[es]).map k5.Data)by rw[List.map_append];exact ho6)
    clear hL6 hdj ho6 hg6 hb6
    go_roundw
    case rel=>exact⟨k+1,p+1,q,D++[es],L,sa6,la,sc6,lc,rfl,rfl,by go_num,by omega,by omega,by omega,by simp[hD],hL,lH (bL6 HF.out ehd.out HX.out),lH (bA8 HG.out ehd.out HX.out),HO6.out.to ii,HL6.out.to ii,HDJ6,b7.of⟩
    case measure=>simp[intOf];omega
  ·obtain rfl:k=n:=by omega
   have hf:D=ag9 t l:=by have:=HF.out;rw[List.drop_of_length_le (by rw[HN.out];exact Nat.le_refl _)]at this;simpa[ag9]using this
   have hg:L=W5 t l:=by have:=HG.out;rw[List.drop_of_length_le (by rw[HN.out];exact Nat.le_refl _)]at this;simpa[W5]using this
   have HDF:=lH hf;have HLF:=lH hg
   clear hf hg
   go_wp2_with (fail)
   refine bodyPost_ret (v:=.tuple #[.slice da p dc,.slice la q lc]) ?_ rfl ⟨da,la,dc,lc,by rw[← HDF.out,← HLF.out,hD,hL],by rw[← HDF.out];exact HDO.out.to ii,by rw[← HLF.out];exact HLO.out.to ii,HDJ.out,b7.of⟩
   simp[results,Tryz.results21,go_sem]
instance R4.iMission:R4 f7 where
 toW0:=inferInstance
 ty:=90
 n:=22
 one:=by rintro _ _ _ _ _ _ ⟨A,rfl,-⟩;rfl
 map:=by rintro _ _ _ _ _ _ _ _ _ _ ⟨A,rfl,h⟩ t;exact⟨A,rfl,t.c 0 de h.o0,t.c 1 de h.o1,t.c 2 de h.o2,t.c 3 de h.o3,t.c 4 de h.o4,t.c 5 de h.o5,t.c 6 de h.o6,h.o7.elim fun r hr=>⟨r,hr.1,t.r 7 de hr.2⟩,t.c 8 de h.o8,t.c 9 de h.o9,t.c 10 de h.o10,t.c 11 de h.o11,t.c 12 de h.o12,t.c 13 de h.o13,t.c 14 de h.o14,t.c 15 de h.o15,t.c 16 de h.o16,t.c 17 de h.o17,h.o18.elim fun r hr=>⟨r,hr.1,t.r 18 de hr.2⟩,t.c 19 de h.o19,t.c 20 de h.o20,t.c 21 de h.o21,h.ok⟩
 nle:=by decide
def aR8:FS f7 k5 where
 off:=15
 col:=2
 get:=(·.Downs)
 set:=fun x l=>{ x with Downs:=l }
 own:=by rintro _ _ _ _ _ ⟨A,rfl,h⟩;exact⟨_,_,rfl,h.o2⟩
 put:=by rintro _ _ _ _ _ _ a c _ ⟨A,rfl,h⟩ f k;exact⟨{ A with a2:=a,c2:=c },rfl,h.put2 f k⟩
 lt:=by decide
 clt:=by decide
def aw3:FS f7 X1 where
 off:=29
 col:=5
 get:=(·.Ground.Pairs)
 set:=fun x l=>{ x with Ground.Pairs:=l }
 own:=by rintro _ _ _ _ _ ⟨A,rfl,h⟩;exact⟨_,_,rfl,h.o5⟩
 put:=by rintro _ _ _ _ _ _ a c _ ⟨A,rfl,h⟩ f k;exact⟨{ A with a5:=a,c5:=c },rfl,h.put5 f k⟩
 lt:=by decide
 clt:=by decide
def aG3:FS f7 s8 where
 off:=30
 col:=6
 get:=(·.Ground.Records)
 set:=fun x l=>{ x with Ground.Records:=l }
 own:=by rintro _ _ _ _ _ ⟨A,rfl,h⟩;exact⟨_,_,rfl,h.o6⟩
 put:=by rintro _ _ _ _ _ _ a c _ ⟨A,rfl,h⟩ f k;exact⟨{ A with a6:=a,c6:=c },rfl,h.put6 f k⟩
 lt:=by decide
 clt:=by decide
def aZ6:FD f7 E8 where
 off:=17
 col:=4
 get:=(·.Ground.Sender)
 set:=fun x y=>{ x with Ground.Sender:=y }
 own:=by rintro _ _ _ _ _ ⟨A,rfl,h⟩;exact⟨_,_,rfl,h.o4,h.ok.2.2.2.2.2.2.1.1⟩
 put:=by
  rintro _ _ _ _ _ _ _ _ ⟨A,rfl,h⟩ f ⟨b0,d0,rfl,k⟩
  exact⟨{ A with a4:=b0,c4:=d0 },rfl,h.o0.fr f (by simp[R4.n]),h.o1.fr f (by simp[R4.n]),h.o2.fr f (by simp[R4.n]),h.o3.fr f (by simp[R4.n]),k.o0,h.o5.fr f (by simp[R4.n]),h.o6.fr f (by simp[R4.n]),h.o7.elim fun r hr=>⟨r,hr.1,hr.2.fr f (by simp[R4.n])⟩,h.o8.fr f (by simp[R4.n]),h.o9.fr f (by simp[R4.n]),h.o10.fr f (by simp[R4.n]),h.o11.fr f (by simp[R4.n]),h.o12.fr f (by simp[R4.n]),h.o13.fr f (by simp[R4.n]),h.o14.fr f (by simp[R4.n]),h.o15.fr f (by simp[R4.n]),h.o16.fr f (by simp[R4.n]),h.o17.fr f (by simp[R4.n]),h.o18.elim fun r hr=>⟨r,hr.1,hr.2.fr f (by simp[R4.n])⟩,h.o19.fr f (by simp[R4.n]),h.o20.fr f (by simp[R4.n]),h.o21.fr f (by simp[R4.n]),by have q:=h.ok;exact⟨q.1,q.2.1,q.2.2.1,q.2.2.2.1,q.2.2.2.2.1,q.2.2.2.2.2.1,⟨k.ok,q.2.2.2.2.2.2.1.2⟩,q.2.2.2.2.2.2.2⟩⟩
 le:=by decide
 cle:=by decide
theorem aU1(hm:s.size≤100000000):Calls Tryz.prog 209 #[.string s] w (b5 w (.string (aF0 s))):=by
 have⟨h0,h1⟩:=bb8 s
 have hz:(aF4 (ak5 s)).size=2:=rfl
 go_enter Tryz.func209,Tryz.ntmps209
 go_wp2_with (first|(go_at_call 299;refine gm (bF2 om) ?_;intro y9)|(go_at_call 65;refine gm (aU0 h0 om) ?_;intro y9))
 go_ret
 exact b5.mk rfl
theorem bf7(s:E8):Enc.tot s=d9 s.Waiting:=rfl
theorem aS0{vs:List Value}{r:E8}(h:Enc.Rd B w vs r):vs.length=4:=Enc.len h
theorem bT2{vs:List Value}{r:E8}(h:Enc.Rd B w vs r):vs.all (·.oneCell')=true:=by
 obtain⟨a,c,rfl,-⟩:=h;rfl

