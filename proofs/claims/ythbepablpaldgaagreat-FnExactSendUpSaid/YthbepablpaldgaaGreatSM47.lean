/- A mission's marks, and what is held. No condition but on sizes. -/
import Derived.Test.YthbepablpaldgaaGreatSM44
import Derived.Test.YthbepablpaldgaaGreatSMk5
import Derived.Test.YthbepablpaldgaaGreatSMk6
import Derived.Test.YthbepablpaldgaaGreatSLto3
import Derived.Test.YthbepablpaldgaaGreatSM7
import Derived.Test.YthbepablpaldgaaGreatSFileO
import Derived.Test.YthbepablpaldgaaGreatSM16
import Derived.Test.YthbepablpaldgaaGreatSM22
import Derived.Test.YthbepablpaldgaaGreatSOne
import Derived.Test.YthbepablpaldgaaGreatSM29
import Derived.Test.YthbepablpaldgaaGreatSM34
import Derived.Test.YthbepablpaldgaaGreatSStepH
import Derived.Test.YthbepablpaldgaaGreatSStab3
import Derived.Test.YthbepablpaldgaaGreatSWholeL
import Derived.Deep.CutRange
import Derived.Test.YthbepablpaldgaaGreatSM41
import Derived.Test.YthbepablpaldgaaGreatSOkS
import Derived.Test.YthbepablpaldgaaGreatSM0
import Derived.Test.YthbepablpaldgaaGreatSOwnC
import Derived.Test.YthbepablpaldgaaGreatSCopyS
import Derived.Test.YthbepablpaldgaaGreatSMisI
import Derived.Test.YthbepablpaldgaaGreatSCopyMI
namespace Go.Proofs.YthbepablpaldgaaGreat
set_option maxRecDepth 100000
set_option maxHeartbeats 4000000
set_option linter.unusedVariables false
open Go.ChangeShapes Go.WideShapes Go.ChangeAt Go.RowKit
private abbrev uu67:=Tryz.underlying67
private abbrev uu69:=Tryz.underlying69
theorem cellsM_mk(m:TMission)(k:Int)(A:TMissionA):([.int .i64 (mkMMission m k).Time,.int .i64 (mkMMission m k).Light,.int .i64 (mkMMission m k).Drift.Rate,.int .i64 (mkMMission m k).Drift.Offset,.int .i64 (mkMMission m k).Orbit.Period,.int .i64 (mkMMission m k).Orbit.Start,.int .i64 (mkMMission m k).Orbit.Length,.slice A.a0 (mkMMission m k).Plan.length A.c0,.int .i64 (mkMMission m k).Up.Seed,.int .i64 (mkMMission m k).Up.Burst,.int .i64 (mkMMission m k).Up.Loss,.int .i64 (mkMMission m k).Down.Seed,.int .i64 (mkMMission m k).Down.Burst,.int .i64 (mkMMission m k).Down.Loss,.slice A.a1 (mkMMission m k).Ups.length A.c1,.slice A.a2 (mkMMission m k).Downs.length A.c2,.slice A.a3 (mkMMission m k).Ground.Offers.length A.c3,.int .i64 (mkMMission m k).Ground.Sender.Next,.int .i64 (mkMMission m k).Ground.Sender.Window,.slice A.a4 (mkMMission m k).Ground.Sender.Waiting.length A.c4,.int .i64 (mkMMission m k).Ground.Sender.Done,.int .i64 (mkMMission m k).Ground.Notice.Expect,.bool (mkMMission m k).Ground.Notice.Locked,.bool (mkMMission m k).Ground.Notice.Again,.int .i64 (mkMMission m k).Ground.Unpacker.Channel,.int .i64 (mkMMission m k).Ground.Unpacker.Next,.bool (mkMMission m k).Ground.Unpacker.Synced,.string (mkMMission m k).Ground.Unpacker.Rest,.int .i64 (mkMMission m k).Ground.Unpacker.Lost,.slice A.a5 (mkMMission m k).Ground.Pairs.length A.c5,.slice A.a6 (mkMMission m k).Ground.Records.length A.c6,.slice A.a7 (mkMMission m k).Ground.Files.length A.c7,.slice A.a8 (mkMMission m k).Ground.Told.length A.c8,.int .i64 (mkMMission m k).Space.Receiver.Expect,.bool (mkMMission m k).Space.Receiver.Locked,.bool (mkMMission m k).Space.Receiver.Again,.int .i64 (mkMMission m k).Space.Receiver.Taken,.int .i64 (mkMMission m k).Space.Board.Clock,.slice A.a9 (mkMMission m k).Space.Board.Params.length A.c9,.bool (mkMMission m k).Space.Board.Safe,.slice A.a10 (mkMMission m k).Space.Board.Limits.length A.c10,.slice A.a11 (mkMMission m k).Space.Board.Orders.length A.c11,.slice A.a12 (mkMMission m k).Space.Board.Done.length A.c12,.int .i64 (mkMMission m k).Space.Board.Recorder.Room,.slice A.a13 (mkMMission m k).Space.Board.Recorder.Records.length A.c13,.slice A.a14 (mkMMission m k).Space.Board.Recorder.Dropped.length A.c14,.int .i64 (mkMMission m k).Space.Board.Made,.int .i64 (mkMMission m k).Space.Board.Taken,.slice A.a15 (mkMMission m k).Space.Board.Asked.length A.c15,.int .i64 (mkMMission m k).Space.Packer.Channel,.int .i64 (mkMMission m k).Space.Packer.Count,.string (mkMMission m k).Space.Packer.Rest,.slice A.a16 (mkMMission m k).Space.Packer.Starts.length A.c16,.int .i64 (mkMMission m k).Space.Seq,.slice A.a17 (mkMMission m k).Space.Files.length A.c17,.slice A.a18 (mkMMission m k).Space.Outs.length A.c18,.int .i64 (mkMMission m k).Space.Begun,.slice A.a19 (mkMMission m k).Space.Sent.length A.c19,.slice A.a20 (mkMMission m k).Offered.length A.c20,.slice A.a21 (mkMMission m k).Took.length A.c21,.int .i64 (mkMMission m k).Bad]:List Value)=[.int .i64 m.Time,.int .i64 m.Light,.int .i64 m.Drift.Rate,.int .i64 m.Drift.Offset,.int .i64 m.Orbit.Period,.int .i64 m.Orbit.Start,.int .i64 m.Orbit.Length,.slice A.a0 m.Plan.length A.c0,.int .i64 m.Up.Seed,.int .i64 m.Up.Burst,.int .i64 m.Up.Loss,.int .i64 m.Down.Seed,.int .i64 m.Down.Burst,.int .i64 m.Down.Loss,.slice A.a1 m.Ups.length A.c1,.slice A.a2 m.Downs.length A.c2,.slice A.a3 m.Ground.Offers.length A.c3,.int .i64 m.Ground.Sender.Next,.int .i64 m.Ground.Sender.Window,.slice A.a4 m.Ground.Sender.Waiting.length A.c4,.int .i64 m.Ground.Sender.Done,.int .i64 m.Ground.Notice.Expect,.bool m.Ground.Notice.Locked,.bool m.Ground.Notice.Again,.int .i64 m.Ground.Unpacker.Channel,.int .i64 m.Ground.Unpacker.Next,.bool m.Ground.Unpacker.Synced,.string m.Ground.Unpacker.Rest,.int .i64 m.Ground.Unpacker.Lost,.slice A.a5 m.Ground.Pairs.length A.c5,.slice A.a6 m.Ground.Records.length A.c6,.slice A.a7 m.Ground.Files.length A.c7,.slice A.a8 m.Ground.Told.length A.c8,.int .i64 m.Space.Receiver.Expect,.bool m.Space.Receiver.Locked,.bool m.Space.Receiver.Again,.int .i64 m.Space.Receiver.Taken,.int .i64 m.Space.Board.Clock,.slice A.a9 m.Space.Board.Params.length A.c9,.bool m.Space.Board.Safe,.slice A.a10 m.Space.Board.Limits.length A.c10,.slice A.a11 m.Space.Board.Orders.length A.c11,.slice A.a12 m.Space.Board.Done.length A.c12,.int .i64 m.Space.Board.Recorder.Room,.slice A.a13 m.Space.Board.Recorder.Records.length A.c13,.slice A.a14 m.Space.Board.Recorder.Dropped.length A.c14,.int .i64 m.Space.Board.Made,.int .i64 m.Space.Board.Taken,.slice A.a15 m.Space.Board.Asked.length A.c15,.int .i64 m.Space.Packer.Channel,.int .i64 m.Space.Packer.Count,.string m.Space.Packer.Rest,.slice A.a16 m.Space.Packer.Starts.length A.c16,.int .i64 m.Space.Seq,.slice A.a17 m.Space.Files.length A.c17,.slice A.a18 m.Space.Outs.length A.c18,.int .i64 m.Space.Begun,.slice A.a19 m.Space.Sent.length A.c19,.slice A.a20 m.Offered.length A.c20,.slice A.a21 m.Took.length A.c21,.int .i64 m.Bad]:=by
 have e0:(mkMMission m k).Plan.length=m.Plan.length:=mkL_length _ _
 have e1:(mkMMission m k).Ups.length=m.Ups.length:=mkL_length _ _
 have e2:(mkMMission m k).Downs.length=m.Downs.length:=mkL_length _ _
 have e3:(mkMMission m k).Ground.Offers.length=m.Ground.Offers.length:=mkL_length _ _
 have e4:(mkMMission m k).Ground.Sender.Waiting.length=m.Ground.Sender.Waiting.length:=mkL_length _ _
 have e5:(mkMMission m k).Ground.Pairs.length=m.Ground.Pairs.length:=mkL_length _ _
 have e6:(mkMMission m k).Ground.Records.length=m.Ground.Records.length:=mkL_length _ _
 have e7:(mkMMission m k).Ground.Files.length=m.Ground.Files.length:=mkN_length _ _ _ _
 have e8:(mkMMission m k).Ground.Told.length=m.Ground.Told.length:=mkL_length _ _
 have e9:(mkMMission m k).Space.Board.Params.length=m.Space.Board.Params.length:=mkL_length _ _
 have e10:(mkMMission m k).Space.Board.Limits.length=m.Space.Board.Limits.length:=mkL_length _ _
 have e11:(mkMMission m k).Space.Board.Orders.length=m.Space.Board.Orders.length:=mkL_length _ _
 have e12:(mkMMission m k).Space.Board.Done.length=m.Space.Board.Done.length:=mkL_length _ _
 have e13:(mkMMission m k).Space.Board.Recorder.Records.length=m.Space.Board.Recorder.Records.length:=mkL_length _ _
 have e14:(mkMMission m k).Space.Board.Recorder.Dropped.length=m.Space.Board.Recorder.Dropped.length:=mkL_length _ _
 have e15:(mkMMission m k).Space.Board.Asked.length=m.Space.Board.Asked.length:=mkL_length _ _
 have e16:(mkMMission m k).Space.Packer.Starts.length=m.Space.Packer.Starts.length:=mkL_length _ _
 have e17:(mkMMission m k).Space.Files.length=m.Space.Files.length:=mkL_length _ _
 have e18:(mkMMission m k).Space.Outs.length=m.Space.Outs.length:=mkN_length _ _ _ _
 have e19:(mkMMission m k).Space.Sent.length=m.Space.Sent.length:=mkL_length _ _
 have e20:(mkMMission m k).Offered.length=m.Offered.length:=mkL_length _ _
 have e21:(mkMMission m k).Took.length=m.Took.length:=mkL_length _ _
 rw[e0,e1,e2,e3,e4,e5,e6,e7,e8,e9,e10,e11,e12,e13,e14,e15,e16,e17,e18,e19,e20,e21]
 rfl
theorem o_markM{B:Nat}{χ:Nat→Col}{w:World}{vs:List Value}{m:TMission}{k:Int}(h:EncO.O B χ 0 w vs m)(hf:Fresh χ w)(hB:B≤w.heap.size)(ht:Enc.tot m≤100000000)(h1:0≤k)(h2:k≤100000000000) :
  Calls Tryz.prog 10 #[.agg vs.toArray,.int .i64 k] w (Mkd (mnMMission m k) (fun w2=>EncO.O B χ 0 w2 vs (mkMMission m k)) (Fr B χ (Rng 0 22) w)):=by
 obtain⟨A,rfl,F⟩:=h
 refine(o_lmarkMission F hf hB (by omega) ht h1 h2).mono fun e w2 hq=>?_
 obtain⟨he,ho,hr⟩:=hq
 exact⟨he,⟨A,(cellsM_mk m k A).symm,ho⟩,by simpa using hr⟩
theorem o_heldM{B:Nat}{w:World}{vs:List Value}{m:TMission}{k:Int}(h:Enc.Rd B w vs (mkMMission m k))(ht:Enc.tot m≤100000000)(h1:0≤k)(h2:k≤100000000000) :
  Calls Tryz.prog 11 #[.agg vs.toArray,.int .i64 k] w (Gives w (.int .i64 (mnMMission m k))):=by
 obtain⟨A,rfl,F⟩:=h
 rw[cellsM_mk m k A]
 exact o_lheldMission F ht h1 h2
theorem dl_toMission{B:Nat}{vs:List Value}{x:TMission}{w:World}(h:Enc.Rd B w vs x)(ht:Enc.tot x≤1048576) :
  Calls Tryz.prog 7 #[.agg vs.toArray] w (GivesD w x):=(o_ltoMission h ht).mono fun _ _ g=>GivesO.d g
theorem om_old{B U o:Nat}{χ:Nat→Col}{w:World}{vs:List Value}{m:TMission}(h:EncO.O B χ o w vs m)(g:w.heap.size≤U):EncO.O B (paint U χ (fun _=>(0,0)) (fun _=>(1000,0))) o w vs m:=by
 obtain⟨A,h0,h1⟩:=h
 exact⟨A,h0,h1.old g⟩
theorem Held.past{u W z:World}{b c:Nat}{cs:List Value}{T:TypeId}(h:Held u c cs T)(g:Keeps 0 u W)(k:But b W z)(hb:u.heap.size≤b):Held z c cs T:=by
 have hl:=h.lt
 unfold Held
 rw[k.block c (by omega) (Nat.lt_of_lt_of_le hl g.size),g.block c (Nat.zero_le _) hl];exact h
theorem growsOf{W:World}(x y:Later W)(h:Keeps 0 x.w y.w):Grows x.w y.w :=
 ⟨⟨y.h.os.trans x.h.os.symm,y.h.tape.trans x.h.tape.symm,y.h.output.trans x.h.output.symm,h.size,fun b hb=>h.block b (Nat.zero_le _) hb⟩⟩
theorem growsTr{a b c:World}(h:Grows a b)(k:Grows b c):Grows a c:=⟨h.out.trans (k.out.mono h.out.size)⟩
theorem stepLoadG{P:Program}{ops:Array Oper}{rest:List Oper}{op:Oper}{a:Act}{w:World}{Q:Exit→Act→World→Prop}(hw:Region.wanted op (yielded ops a.tmps)=true)(ty:TypeId)(x:Operand)(ho:op.op=.load ty x)(b o:Nat)(hx:a.eval x=.pointer (some ⟨b,o,none⟩)){cs row:List Value}{T:TypeId}(H:Held w b cs T)
  (d:TypeDesc) (hu:P.underlying ty=some d) (hd:d.isRow=true) (hi:(P.info? ty).map (·.size)=some row.length) (hr:(cs.drop o).take row.length=row)
  (h:wpList P ops Q rest (a.put op.dst (.agg row.toArray)) w):wpList P ops Q (op::rest) a w :=
 wpList_step fun K hK=>st_loadH hw ty x ho b o hx H d hu hd hi hr (hK _ _ h)
theorem Later.ofG{W w:World}(h:Grows W w):∃ x:Later W,w=x.w:=⟨⟨w,h.out⟩,rfl⟩
def wordN(m n:Int):ByteArray:=if m=1 then word1 n else if m=2 then word2 n else word3 n
@[go_sem] theorem word3_size(n:Int):(word3 n).size=3:=rfl
@[go_sem] theorem wordN_one(n:Int):wordN 1 n=word1 n:=rfl
@[go_sem] theorem wordN_two(n:Int):wordN 2 n=word2 n:=rfl
@[go_sem] theorem wordN_three(n:Int):wordN 3 n=word3 n:=rfl
theorem totL_snoc{α:Type}[Enc α](l:List α)(y:α):totL (l++[y])=totL l+1+Enc.tot y:=by
 rw[totL_app];simp only[totL];omega
def GivesOB{α:Type}[E:EncO α](w:World)(x:α)(b:Bool):Ending→World→Prop:=fun e w'=>∃ (vs:List Value) (χ:Nat→Col),e=.returned (.tuple #[.agg vs.toArray,.bool b])∧E.O w.heap.size χ 0 w' vs x∧∃ y:Later w,w'=y.w
theorem OwnC.app{α:Type}[E:Flat α]{B:Nat}{χ:Nat→Col}{i:Col}{w w2:World}{a a2:Option Addr}{c c2:Nat}{l:List α}{y:α}(h:OwnC B χ i w a c l)(ho:Own E.enc E.ty E.size B w2 a2 c2 (l++[y]))(hb:blkOf a2=blkOf a∨blkOf a2=some w.heap.size)(hg:E.good y) :
  OwnC B (paint w.heap.size χ (fun _=>i) id) i w2 a2 c2 (l++[y]):=by
 refine⟨ho,fun k hk=>?_,fun x hx=>?_⟩
 ·rcases hb with hb|hb
  ·rw[hb]at hk
   have:=(h.own.blk k hk).2
   rw[paint,if_pos this];exact h.col k hk
  ·rw[hb]at hk
   cases hk
   rw[paint,if_neg (by omega)];rfl
 ·rcases List.mem_append.1 hx with hx|hx
  ·exact h.good x hx
  ·obtain rfl:=List.mem_singleton.1 hx;exact hg
section
variable {P:Program} {ops:Array Oper} {op:Oper} {a:Act} {w:World} {Q:Exit→Act→World→Prop} {S:World→Prop} {md:Region.Mode} {fuel:Nat} {listed:Array Bool} {i:Nat}
end
def cM(m:TMission)(A:TMissionA):List Value:=(dMission m A)
structure Fld(α:Type)[E:Flat α] where
 off:Nat
 col:Nat
 get:TMission→List α
 set:TMission→List α→TMission
 ga:TMissionA→Option Addr
 gc:TMissionA→Nat
 sa:TMissionA→Option Addr→Nat→TMissionA
 own:∀ {B χ w A x},TMissionO B χ 0 w A x→OwnC B χ (col,0) w (ga A) (gc A) (get x)
 put:∀ {B χ w w2 A x a c l},TMissionO B χ 0 w A x→Fr B χ (·=(col,0)) w w2→OwnC B χ (col,0) w2 a c l→TMissionO B χ 0 w2 (sa A a c) (set x l)
 cell:∀ x A,(cM x A)[off]?=some (.slice (ga A) (get x).length (gc A))
 cells:∀ x A l a c,(cM x A).set off (.slice a l.length c)=cM (set x l) (sa A a c)
 lt:off<61
 clt:col<22
 eta:∀ A,sa A (ga A) (gc A)=A
theorem Own.held{α:Type}{T size g B c:Nat}{w:World}{enc:α→List Value}{l:List α}(h:Own enc T size B w (some ⟨g,0,none⟩) c l):∃ cs:List Value,Held w g cs T∧l.length*size≤cs.length:=by
 obtain⟨hsz,-,⟨hv,hn0⟩|⟨g',cap,cur,hv,hB,hheap,hle,hmax,hcs,-⟩⟩:=h
 ·simp at hv
 ·simp only[Value.slice.injEq,Option.some.injEq,Addr.mk.injEq]at hv
  obtain⟨⟨rfl,-,-⟩,-,rfl⟩:=hv
  refine⟨cur.toList,by unfold Held;simpa using hheap,?_⟩
  rw[show cur.toList.length=cur.size by simp,hcs];exact Nat.mul_le_mul_right _ hle
def MB(X:Nat→Prop)(B b:Nat)(w:World)(A:TMissionA)(m:TMission):Prop :=
 ∃ χ:Nat→Col,Held w b (cM m A) 90∧TMissionO B χ 0 w A m∧1000≤(χ b).1∧Fresh χ w∧B≤b∧∀ k,X k→1000≤(χ k).1∧k≠b∧k<w.heap.size
def MBp{α:Type}[E:Flat α](F:Fld α)(X:Nat→Prop)(B b:Nat)(w:World)(A:TMissionA)(m:TMission)(l:List α)(a:Option Addr)(c:Nat):Prop :=
 ∃ χ:Nat→Col,Held w b (cM m A) 90∧TMissionO B χ 0 w (F.sa A a c) (F.set m l)∧1000≤(χ b).1∧Fresh χ w∧B≤b∧∀ k,X k→1000≤(χ k).1∧k≠b∧k<w.heap.size
section
variable {X:Nat→Prop} {B b:Nat} {w w':World} {A:TMissionA} {m:TMission}
theorem MB.held(h:MB X B b w A m):Held w b (cM m A) 90:=h.elim fun _ h=>h.1
theorem MB.lt(h:MB X B b w A m):b<w.heap.size:=h.held.lt
theorem MB.f(h:MB X B b w A m):TMissionF B w A m:=h.elim fun _ h=>h.2.1.f
theorem MB.rd(h:MB X B b w A m):Enc.Rd B w (cM m A) m:=⟨A,rfl,h.f⟩
theorem MB.keep(h:MB X B b w A m)(g:Keeps B w w'):MB X B b w' A m :=
 h.elim fun χ h=>⟨χ,by have h1:=h.1;unfold Held at h1 ⊢;rw[g.block b h.2.2.2.2.1 h.1.lt];exact h1,h.2.1.keep g,h.2.2.1,h.2.2.2.1.mono g.size,h.2.2.2.2.1,fun k hk=>⟨(h.2.2.2.2.2 k hk).1,(h.2.2.2.2.2 k hk).2.1,Nat.lt_of_lt_of_le (h.2.2.2.2.2 k hk).2.2 g.size⟩⟩
theorem MB.mono{B':Nat}(h:MB X B b w A m)(g:B'≤B):MB X B' b w A m :=
 h.elim fun χ h=>⟨χ,h.1,h.2.1.mono g,h.2.2.1,h.2.2.2.1,Nat.le_trans g h.2.2.2.2.1,h.2.2.2.2.2⟩
variable {α:Type} [E:Flat α] {F:Fld α} {l:List α} {a:Option Addr} {c:Nat}
theorem MB.own(F:Fld α)(h:MB X B b w A m):Own E.enc E.ty E.size B w (F.ga A) (F.gc A) (F.get m):=h.elim fun _ h=>(F.own h.2.1).own
theorem MB.good(F:Fld α)(h:MB X B b w A m):∀ x∈F.get m,E.good x:=h.elim fun _ h=>(F.own h.2.1).good
theorem MBp.held(h:MBp F X B b w A m l a c):Held w b (cM m A) 90:=h.elim fun _ h=>h.1
end
section
variable {P:Program} {ops:Array Oper} {rest:List Oper} {op:Oper} {a:Act} {w w0:World} {Q:Exit→Act→World→Prop} {X:Nat→Prop} {B b:Nat} {A:TMissionA} {m:TMission} {α:Type} [E:Flat α] {F:Fld α} {l:List α}
end
structure Tr(n B:Nat)(χ:Nat→Col)(o:Nat)(w:World)(B':Nat)(χ':Nat→Col)(o':Nat)(w':World):Prop where
 c:∀ {γ:Type} [Flat γ] (i:Nat),i<n→∀ {a:Option Addr} {c:Nat} {l:List γ},OwnC B χ (o+i,0) w a c l→OwnC B' χ' (o'+i,0) w' a c l
 r:∀ {γ δ:Type} [Nest γ δ] [Flat δ] (i:Nat),i<n→∀ {a:Option Addr} {c:Nat} {l:List (NRow γ)},OwnN B χ (o+i) w a c l→OwnN B' χ' (o'+i) w' a c l
section
variable {n B o:Nat} {χ χ2:Nat→Col} {w w':World}
theorem Tr.fr{C:Col→Prop}(f:Fr B χ C w w')(hi:∀ j k,o≤j→j<o+n→¬ C (j,k)):Tr n B χ o w B χ o w':=⟨fun i h=>fun k=>k.fr f (hi _ _ (by omega) (by omega)),fun i h=>fun k=>k.fr f fun j=>hi _ _ (by omega) (by omega)⟩
theorem Tr.to(g:Grows w w'):Tr n B χ o w B χ o w':=⟨fun _ _=>fun k=>k.to g,fun _ _=>fun k=>k.to g⟩
theorem Tr.keep(g:Keeps B w w'):Tr n B χ o w B χ o w':=⟨fun _ _=>fun k=>k.keep g,fun _ _=>fun k=>k.keep g⟩
theorem Tr.mono{B2:Nat}(g:B2≤B):Tr n B χ o w B2 χ o w:=⟨fun _ _=>fun k=>k.mono g,fun _ _=>fun k=>k.mono g⟩
theorem Tr.old{f:Col→Col}{U:Nat}(g:w.heap.size≤U):Tr n B χ o w B (paint U χ χ2 f) o w:=⟨fun _ _=>fun k=>k.old g,fun _ _=>fun k=>k.old g⟩
theorem Tr.new{d U:Nat}(g:U≤B):Tr n B χ2 0 w B (paint U χ χ2 (shift d)) d w:=⟨fun i _=>fun k=>(k.new g).ic (by simp[shift,Nat.add_comm]),fun i _=>fun k=>k.new g fun j=>by simp[shift,Nat.add_comm]⟩
end
class OBox(α:Type) extends EncO α where
 ty:Nat
 n:Nat
 one:∀ {B χ o w vs x},O B χ o w vs x→vs.all (·.oneCell')=true
 map:∀ {B χ o w B' χ' o' w' vs x},O B χ o w vs x→Tr n B χ o w B' χ' o' w'→O B' χ' o' w' vs x
 nle:n≤1000
structure FS(α β:Type)[A:OBox α][E:Flat β] where
 off:Nat
 col:Nat
 get:α→List β
 set:α→List β→α
 own:∀ {B χ w vs x},A.O B χ 0 w vs x→∃ a c,vs[off]?=some (.slice a (get x).length c)∧OwnC B χ (col,0) w a c (get x)
 put:∀ {B χ w w2 vs x a c l},A.O B χ 0 w vs x→Fr B χ (·=(col,0)) w w2→OwnC B χ (col,0) w2 a c l→A.O B χ 0 w2 (vs.set off (.slice a l.length c)) (set x l)
 lt:off<A.size
 clt:col<A.n
structure FD(α β:Type)[A:OBox α][E:OBox β] where
 off:Nat
 col:Nat
 get:α→β
 set:α→β→α
 own:∀ {B χ w vs x},A.O B χ 0 w vs x→E.O B χ col w ((vs.drop off).take E.size) (get x)
 put:∀ {B χ w w2 vs us x y},A.O B χ 0 w vs x→Fr B χ (fun i=>col≤i.1∧i.1<col+E.n) w w2→E.O B χ col w2 us y→A.O B χ 0 w2 (splice vs off us) (set x y)
 le:off+E.size≤A.size
 cle:col+E.n≤A.n
def GB{α:Type}[E:OBox α](X:Nat→Prop)(B b:Nat)(w:World)(x:α):Prop :=
 ∃ (χ:Nat→Col) (vs:List Value),Held w b vs E.ty∧E.O B χ 0 w vs x∧1000≤(χ b).1∧Fresh χ w∧B≤b∧∀ k,X k→1000≤(χ k).1∧k≠b∧k<w.heap.size
def GBp{α β:Type}[E:OBox α][Flat β](F:FS α β)(X:Nat→Prop)(B b:Nat)(w:World)(x:α)(l:List β)(a:Option Addr)(c:Nat):Prop :=
 ∃ (χ:Nat→Col) (vs:List Value),Held w b vs E.ty∧vs.length=E.size∧E.O B χ 0 w (vs.set F.off (.slice a l.length c)) (F.set x l)∧1000≤(χ b).1∧Fresh χ w∧B≤b∧∀ k,X k→1000≤(χ k).1∧k≠b∧k<w.heap.size
def GBq{α β:Type}[E:OBox α][E2:OBox β](F:FD α β)(X:Nat→Prop)(B b:Nat)(w:World)(x:α)(us:List Value)(y:β):Prop :=
 ∃ (χ:Nat→Col) (vs:List Value),Held w b vs E.ty∧vs.length=E.size∧us.length=E2.size∧us.all (·.oneCell')=true∧E.O B χ 0 w (splice vs F.off us) (F.set x y)∧1000≤(χ b).1∧Fresh χ w∧B≤b∧∀ k,X k→1000≤(χ k).1∧k≠b∧k<w.heap.size
theorem obox_len{α:Type}[E:OBox α]{B o:Nat}{χ:Nat→Col}{w:World}{vs:List Value}{x:α}(h:E.O B χ o w vs x):vs.length=E.size:=E.len (E.toRd h)
section
variable {α β δ:Type} [E:OBox α] [E2:Flat β] [E3:OBox δ] {X:Nat→Prop} {B b:Nat} {w w':World} {x:α} {F:FS α β} {D:FD α δ} {l:List β} {a:Option Addr} {c:Nat} {y:δ} {us:List Value}
theorem GB.vs(h:GB X B b w x):∃ vs,Held w b vs E.ty∧vs.length=E.size∧vs.all (·.oneCell')=true∧E.Rd B w vs x∧∃ χ,E.O B χ 0 w vs x:=h.elim fun χ h=>h.elim fun vs h=>⟨vs,h.1,obox_len h.2.1,E.one h.2.1,E.toRd h.2.1,χ,h.2.1⟩
theorem GB.le(h:GB X B b w x):B≤b:=h.elim fun _ h=>h.elim fun _ h=>h.2.2.2.2.1
theorem GB.lt(h:GB X B b w x):b<w.heap.size:=h.elim fun _ h=>h.elim fun _ h=>h.1.lt
theorem GB.xs(h:GB X B b w x){k:Nat}(hk:X k):k≠b∧k<w.heap.size:=h.elim fun _ h=>h.elim fun _ h=>(h.2.2.2.2.2 k hk).2
theorem GB.to(h:GB X B b w x)(g:Grows w w'):GB X B b w' x :=
 h.elim fun χ h=>h.elim fun vs h=>⟨χ,vs,h.1.to g,E.map h.2.1 (.to g),h.2.2.1,h.2.2.2.1.mono g.out.size,h.2.2.2.2.1,fun k hk=>⟨(h.2.2.2.2.2 k hk).1,(h.2.2.2.2.2 k hk).2.1,Nat.lt_of_lt_of_le (h.2.2.2.2.2 k hk).2.2 g.out.size⟩⟩
theorem GB.keep(h:GB X B b w x)(g:Keeps B w w'):GB X B b w' x :=
 h.elim fun χ h=>h.elim fun vs h=>⟨χ,vs,by have h1:=h.1;unfold Held at h1 ⊢;rw[g.block b h.2.2.2.2.1 h.1.lt];exact h1,E.map h.2.1 (.keep g),h.2.2.1,h.2.2.2.1.mono g.size,h.2.2.2.2.1,fun k hk=>⟨(h.2.2.2.2.2 k hk).1,(h.2.2.2.2.2 k hk).2.1,Nat.lt_of_lt_of_le (h.2.2.2.2.2 k hk).2.2 g.size⟩⟩
theorem GB.mono{B':Nat}(h:GB X B b w x)(g:B'≤B):GB X B' b w x :=
 h.elim fun χ h=>h.elim fun vs h=>⟨χ,vs,h.1,E.map h.2.1 (.mono g),h.2.2.1,h.2.2.2.1,Nat.le_trans g h.2.2.2.2.1,h.2.2.2.2.2⟩
theorem GB.of{χ:Nat→Col}{u z:World}{vs:List Value}(h:E.O B χ 0 u vs x)(k:Keeps 0 u z)(hB:B≤u.heap.size)(H:Held z u.heap.size vs E.ty):GB (fun _=>False) B u.heap.size z x :=
 ⟨paint u.heap.size χ (fun _=>(0,0)) (fun _=>(1000,0)),vs,H,E.map (E.map h (.old nl)) (.keep (k.more (Nat.zero_le _))),by rw[paint,if_neg (Nat.lt_irrefl _)];exact Nat.le_refl _,freshU k.size,hB,fun _ h=>h.elim⟩
theorem GB.prot{P:Nat→Prop}{u:World}(h:GB X B b u x)(g:Grows u w)(hP:∀ k,P k→u.heap.size≤k∧k<w.heap.size):GB (fun k=>X k∨P k) B b w x:=by
 have hl:=h.lt
 obtain⟨χ,vs,h1,h2,h3,h4,h5,h6⟩:=h
 refine⟨χ,vs,h1.to g,E.map h2 (.to g),h3,h4.mono g.out.size,h5,fun k hk=>?_⟩
 rcases hk with hk|hk
 ·exact⟨(h6 k hk).1,(h6 k hk).2.1,Nat.lt_of_lt_of_le (h6 k hk).2.2 g.out.size⟩
 ·have:=hP k hk
  exact⟨h4 k this.1,by omega,this.2⟩
theorem gb_fr{χ:Nat→Col}{C:Col→Prop}(hF:Fr B χ C w w')(hC:∀ i,C i→i.1<1000){k:Nat}(hk:1000≤(χ k).1)(hl:k<w.heap.size):w'.heap[k]?=w.heap[k]? :=
 hF.block k hl fun e=>by have:=hC _ e.2;omega
theorem FS.c1000(F:FS α β):F.col<1000:=Nat.lt_of_lt_of_le F.clt E.nle
theorem GB.own(F:FS α β)(h:GB X B b w x):∃ a c,(∀ (W:World) [Grows w W],W.cell? ⟨b,F.off,none⟩=some (.slice a (F.get x).length c))∧Own E2.enc E2.ty E2.size B w a c (F.get x)∧(∀ s∈F.get x,E2.good s)∧RdS B w a c (F.get x):=by
 obtain⟨χ,vs,h1,h2,-⟩:=h
 obtain⟨a,c,hv,k⟩:=F.own h2
 exact⟨a,c,h1.cellG F.off _ hv,k.own,k.good,k.rd⟩
theorem GBp.app{n sc0:Nat}{u W W2:World}{p:β}{sa0 sa:Option Addr}{sc:Nat}(h:GB X B b u x)(hc0:u.cell? ⟨b,F.off,none⟩=some (.slice sa0 (F.get x).length sc0))(g:Grows u W)(hown:Own E2.enc E2.ty E2.size B W2 sa sc (F.get x++[p]))(hgr:W.grownBy W2 (Value.ownBlock (.slice sa0 n sc0)))
  (hblk:blkOf sa=blkOf sa0∨blkOf sa=some W.heap.size) (hg:E2.good p):GBp F X B b W2 x (F.get x++[p]) sa sc∧∀ k,X k→W2.heap[k]?=W.heap[k]?:=by
 obtain⟨χ,vs,h1,h2,h3,h4,h5,h6⟩:=h
 obtain⟨a0,c0,hv,hO⟩:=F.own h2
 rw[h1.cell,hv]at hc0
 simp only[Option.some.injEq,Value.slice.injEq,true_and]at hc0
 obtain⟨rfl,rfl⟩:=hc0
 have hlu:=h1.lt
 have hF:=(hO.to g).wrote hgr
 have hc:=F.c1000
 have hsu:=g.out.size
 have hs:=hF.size
 have hlen:=obox_len h2
 have hX:∀ k,1000≤(χ k).1→k<u.heap.size→W2.heap[k]?=W.heap[k]?:=fun k hk hl=>gb_fr hF (fun i e=>by rw[e];exact hc) hk (by omega)
 have hp:∀ k,k<W.heap.size→paint W2.heap.size (paint W.heap.size χ (fun _=>(F.col,0)) id) (fun _=>(0,0)) (fun _=>(1000,0)) k=χ k:=fun k hk=>by rw[paint,if_pos (by omega),paint,if_pos hk]
 refine⟨⟨paint W2.heap.size (paint W.heap.size χ (fun _=>(F.col,0)) id) (fun _=>(0,0)) (fun _=>(1000,0)),vs,?_,hlen,?_,?_,freshU nl,h5,fun k hk=>⟨?_,(h6 k hk).2.1,by have:=(h6 k hk).2.2;omega⟩⟩,fun k hk=>hX k (h6 k hk).1 (h6 k hk).2.2⟩
 ·have h1':=h1.to g
  unfold Held at h1' ⊢
  rw[hX b h3 hlu];exact h1'
 ·exact E.map (F.put (E.map (E.map h2 (.to g)) (.old nl)) (hF.old nl) ((hO.to g).app hown hblk hg)) (.old nl)
 ·rw[hp b (by omega)];exact h3
 ·rw[hp k (by have:=(h6 k hk).2.2;omega)];exact(h6 k hk).1
theorem GBp.new{u:World}{a:Option Addr}{c:Nat}{l:List β}(h:GB X B b u x)(g:Grows u w)(k:OwnC u.heap.size (fun _=>(0,0)) (0,0) w a c l):GBp F X B b w x l a c:=by
 have hlu:=h.lt
 obtain⟨χ,vs,h1,h2,h3,h4,h5,h6⟩:=h
 have hs:=g.out.size
 have hp:∀ k,k<u.heap.size→paint w.heap.size (paint u.heap.size χ (fun _=>(0,0)) (fun _=>(F.col,0))) (fun _=>(0,0)) (fun _=>(1000,0)) k=χ k:=fun k hk=>by rw[paint,if_pos (by omega),paint,if_pos hk]
 refine⟨_,vs,h1.to g,obox_len h2,E.map (F.put (E.map (E.map h2 (.old (χ2:=fun _=>(0,0)) (f:=fun _=>(F.col,0)) nl)) (.to g)) (Fr.refl _ _ _ _) ((k.new (f:=fun _=>(F.col,0)) nl).mono (by omega))) (.old nl),?_,freshU nl,h5,fun k hk=>⟨?_,(h6 k hk).2.1,Nat.lt_of_lt_of_le (h6 k hk).2.2 hs⟩⟩
 ·rw[hp b hlu];exact h3
 ·rw[hp k (h6 k hk).2.2];exact(h6 k hk).1
theorem GBq.new{u:World}{χ2:Nat→Col}(h:GB X B b u x)(g:Grows u w)(k:E3.O u.heap.size χ2 0 w us y):GBq D X B b w x us y:=by
 have hlu:=h.lt
 obtain⟨χ,vs,h1,h2,h3,h4,h5,h6⟩:=h
 have hs:=g.out.size
 have hp:∀ k,k<u.heap.size→paint w.heap.size (paint u.heap.size χ χ2 (shift D.col)) (fun _=>(0,0)) (fun _=>(1000,0)) k=χ k:=fun k hk=>by rw[paint,if_pos (by omega),paint,if_pos hk]
 refine⟨_,vs,h1.to g,obox_len h2,obox_len k,E3.one k,E.map (D.put (E.map (E.map h2 (.old (χ2:=χ2) (f:=shift D.col) nl)) (.to g)) (Fr.refl _ _ _ _) (E3.map (E3.map k (.new nl)) (.mono (by omega)))) (.old nl),?_,freshU nl,h5,fun k hk=>⟨?_,(h6 k hk).2.1,Nat.lt_of_lt_of_le (h6 k hk).2.2 hs⟩⟩
 ·rw[hp b hlu];exact h3
 ·rw[hp k (h6 k hk).2.2];exact(h6 k hk).1
theorem gb_box{χ:Nat→Col}{vs:List Value}(h:E.O B χ 0 w vs x)(hc:1000≤(χ b).1)(hB:B≤b)(g:w.grownBy w' (some b)):E.O B χ 0 w' vs x :=
 E.map h (.fr (C:=fun i=>i=χ b) ⟨g.os,g.tape,g.output,g.size,fun k hk hn=>g.block k hk (fun e=>hn (by cases e;exact⟨hB,rfl⟩))⟩ (fun j k _ h2 e=>by have:=E.nle;rw[← e]at hc;simp only at hc;omega))
end
section
variable {P:Program} {ops:Array Oper} {rest:List Oper} {op:Oper} {act:Act} {w w0:World} {Q:Exit→Act→World→Prop} {X:Nat→Prop} {B b:Nat} {α β δ:Type} [E:OBox α] [E2:Flat β] [E3:OBox δ] {x x':α} {F:FS α β} {D:FD α δ} {l:List β} {a:Option Addr} {c:Nat} {y:δ} {us:List Value}
theorem step_gbS(hgd:op.guard=none)(ty:TypeId)(p v:Operand)(ho:op.op=.store ty p v)(h:GBp F X B b w x l a c)(hx:act.eval p=.pointer (some ⟨b,F.off,none⟩))(hv:act.eval v=.slice a l.length c)(hi:(P.info? ty).map (·.size)=some 1)
  (g:Grows w0 w) (hb:w0.heap.size≤B) (K:∀ z:Later w0,GB X B b z.w (F.set x l)→(∀ k,X k→z.w.heap[k]?=w.heap[k]?)→wpList P ops Q rest (act.put op.dst undef) z.w):wpList P ops Q (op::rest) act w:=by
 obtain⟨χ,vs,h1,hl,h2,h3,h4,h5,h6⟩:=h
 exact stepStore2 hgd ty p v ho b F.off hx h1 (us:=[.slice a l.length c]) (cs2:=vs.set F.off (.slice a l.length c)) (by rw[hv];rfl) hi rfl (by have:=F.lt;rw[hl];exact this) rfl g (Nat.le_trans hb h5) fun z hz hk =>
  K z ⟨χ,_,hz,gb_box h2 h3 h5 (hk.grown1 g),h3,h4.mono (hk.grown1 g).size,h5,fun k hk'=>⟨(h6 k hk').1,(h6 k hk').2.1,Nat.lt_of_lt_of_le (h6 k hk').2.2 (hk.grown1 g).size⟩⟩ (fun k hk'=>(hk.grown1 g).block k (h6 k hk').2.2 (fun e=>(h6 k hk').2.1 (by cases e;rfl)))
theorem step_gbD(hgd:op.guard=none)(ty:TypeId)(p v:Operand)(ho:op.op=.store ty p v)(h:GBq D X B b w x us y)(hx:act.eval p=.pointer (some ⟨b,D.off,none⟩))(hv:(act.eval v).cells.toList=us)(hi:(P.info? ty).map (·.size)=some us.length)
  (g:Grows w0 w) (hb:w0.heap.size≤B) (K:∀ z:Later w0,GB X B b z.w (D.set x y)→(∀ k,X k→z.w.heap[k]?=w.heap[k]?)→wpList P ops Q rest (act.put op.dst undef) z.w):wpList P ops Q (op::rest) act w:=by
 obtain⟨χ,vs,h1,hl,hu,hu1,h2,h3,h4,h5,h6⟩:=h
 exact stepStore2 hgd ty p v ho b D.off hx h1 (us:=us) (cs2:=splice vs D.off us) hv hi hu1 (by have:=D.le;rw[hl,hu];exact this) rfl g (Nat.le_trans hb h5) fun z hz hk =>
  K z ⟨χ,_,hz,gb_box h2 h3 h5 (hk.grown1 g),h3,h4.mono (hk.grown1 g).size,h5,fun k hk'=>⟨(h6 k hk').1,(h6 k hk').2.1,Nat.lt_of_lt_of_le (h6 k hk').2.2 (hk.grown1 g).size⟩⟩ (fun k hk'=>(hk.grown1 g).block k (h6 k hk').2.2 (fun e=>(h6 k hk').2.1 (by cases e;rfl)))
theorem step_gbC{o:Nat}(x':α)(hgd:op.guard=none)(ty:TypeId)(p v:Operand)(ho:op.op=.store ty p v)(h:GB X B b w x)(hx:act.eval p=.pointer (some ⟨b,o,none⟩))(hv:(act.eval v).cells.toList=us)(hi:(P.info? ty).map (·.size)=some us.length)(h1:us.all (·.oneCell')=true)(hl:o+us.length≤E.size)
  (hm:∀ {χ vs w},E.O B χ 0 w vs x→E.O B χ 0 w (splice vs o us) x') (g:Grows w0 w) (hb:w0.heap.size≤B) (K:∀ z:Later w0,GB X B b z.w x'→(∀ k,X k→z.w.heap[k]?=w.heap[k]?)→wpList P ops Q rest (act.put op.dst undef) z.w):wpList P ops Q (op::rest) act w:=by
 obtain⟨χ,vs,h0,h2,h3,h4,h5,h6⟩:=h
 exact stepStore2 hgd ty p v ho b o hx h0 (us:=us) (cs2:=splice vs o us) hv hi h1 (by rw[obox_len h2];exact hl) rfl g (Nat.le_trans hb h5) fun z hz hk =>
  K z ⟨χ,_,hz,gb_box (hm h2) h3 h5 (hk.grown1 g),h3,h4.mono (hk.grown1 g).size,h5,fun k hk'=>⟨(h6 k hk').1,(h6 k hk').2.1,Nat.lt_of_lt_of_le (h6 k hk').2.2 (hk.grown1 g).size⟩⟩ (fun k hk'=>(hk.grown1 g).block k (h6 k hk').2.2 (fun e=>(h6 k hk').2.1 (by cases e;rfl)))
end
instance OBox.iRecorder:OBox TRecorder where
 toEncO:=inferInstance
 ty:=82
 n:=2
 one:=by rintro _ _ _ _ _ _ ⟨a0,c0,a1,c1,rfl,-⟩;rfl
 map:=by rintro _ _ _ _ _ _ _ _ _ _ ⟨a0,c0,a1,c1,rfl,h⟩ t;exact⟨a0,c0,a1,c1,rfl,t.c 0 (by decide) h.o0,t.c 1 (by decide) h.o1,h.ok⟩
 nle:=by decide
instance OBox.iPacker:OBox TPacker where
 toEncO:=inferInstance
 ty:=85
 n:=1
 one:=by rintro _ _ _ _ _ _ ⟨a0,c0,rfl,-⟩;rfl
 map:=by rintro _ _ _ _ _ _ _ _ _ _ ⟨a0,c0,rfl,h⟩ t;exact⟨a0,c0,rfl,t.c 0 (by decide) h.o0,h.ok⟩
 nle:=by decide
instance OBox.iSender:OBox TSender where
 toEncO:=inferInstance
 ty:=69
 n:=1
 one:=by rintro _ _ _ _ _ _ ⟨a0,c0,rfl,-⟩;rfl
 map:=by rintro _ _ _ _ _ _ _ _ _ _ ⟨a0,c0,rfl,h⟩ t;exact⟨a0,c0,rfl,t.c 0 (by decide) h.o0,h.ok⟩
 nle:=by decide
def fSenderWaiting:FS TSender TSent where
 off:=2
 col:=0
 get:=(·.Waiting)
 set:=fun x l=>{ x with Waiting:=l }
 own:=by rintro _ _ _ _ _ ⟨a0,c0,rfl,h⟩;exact⟨_,_,rfl,h.o0⟩
 put:=by rintro _ _ _ _ _ _ a c _ ⟨a0,c0,rfl,h⟩ f k;exact⟨a,c,rfl,k,h.ok⟩
 lt:=by decide
 clt:=by decide
instance OBox.iBoard:OBox TBoard where
 toEncO:=inferInstance
 ty:=84
 n:=7
 one:=by rintro _ _ _ _ _ _ ⟨A,rfl,-⟩;rfl
 map:=by rintro _ _ _ _ _ _ _ _ _ _ ⟨A,rfl,h⟩ t;exact⟨A,rfl,t.c 0 (by decide) h.o0,t.c 1 (by decide) h.o1,t.c 2 (by decide) h.o2,t.c 3 (by decide) h.o3,t.c 4 (by decide) h.o4,t.c 5 (by decide) h.o5,t.c 6 (by decide) h.o6,h.ok⟩
 nle:=by decide
instance OBox.iFileOut:OBox TFileOut where
 toEncO:=inferInstance
 ty:=105
 n:=1
 one:=by rintro _ _ _ _ _ _ ⟨a0,c0,rfl,-⟩;rfl
 map:=by rintro _ _ _ _ _ _ _ _ _ _ ⟨a0,c0,rfl,h⟩ t;exact⟨a0,c0,rfl,t.c 0 (by decide) h.o0,h.ok⟩
 nle:=by decide
instance OBox.iFileIn:OBox TFileIn where
 toEncO:=inferInstance
 ty:=154
 n:=1
 one:=by rintro _ _ _ _ _ _ ⟨a0,c0,rfl,-⟩;rfl
 map:=by rintro _ _ _ _ _ _ _ _ _ _ ⟨a0,c0,rfl,h⟩ t;exact⟨a0,c0,rfl,t.c 0 (by decide) h.o0,h.ok⟩
 nle:=by decide
section
variable {α β δ:Type} [E:OBox α] [E2:Flat β] {X:Nat→Prop} {B b:Nat} {w w':World} {x:α} {F:FS α β} {l:List β} {a:Option Addr} {c:Nat}
theorem GBp.upd{n sc0:Nat}{u W W2:World}{l':List β}{sa0 sa:Option Addr}{sc:Nat}(h:GB X B b u x)(hc0:u.cell? ⟨b,F.off,none⟩=some (.slice sa0 (F.get x).length sc0))(g:Grows u W)(hown:Own E2.enc E2.ty E2.size B W2 sa sc l')(hgr:W.grownBy W2 (Value.ownBlock (.slice sa0 n sc0)))
  (hblk:blkOf sa=blkOf sa0∨blkOf sa=some W.heap.size) (hg:∀ p∈l',E2.good p):GBp F X B b W2 x l' sa sc∧∀ k,X k→W2.heap[k]?=W.heap[k]?:=by
 obtain⟨χ,vs,h1,h2,h3,h4,h5,h6⟩:=h
 obtain⟨a0,c0,hv,hO⟩:=F.own h2
 rw[h1.cell,hv]at hc0
 simp only[Option.some.injEq,Value.slice.injEq,true_and]at hc0
 obtain⟨rfl,rfl⟩:=hc0
 have hlu:=h1.lt
 have hF:=(hO.to g).wrote hgr
 have hc:=F.c1000
 have hsu:=g.out.size
 have hs:=hF.size
 have hlen:=obox_len h2
 have hX:∀ k,1000≤(χ k).1→k<u.heap.size→W2.heap[k]?=W.heap[k]?:=fun k hk hl=>gb_fr hF (fun i e=>by rw[e];exact hc) hk (by omega)
 have hp:∀ k,k<W.heap.size→paint W2.heap.size (paint W.heap.size χ (fun _=>(F.col,0)) id) (fun _=>(0,0)) (fun _=>(1000,0)) k=χ k:=fun k hk=>by rw[paint,if_pos (by omega),paint,if_pos hk]
 refine⟨⟨paint W2.heap.size (paint W.heap.size χ (fun _=>(F.col,0)) id) (fun _=>(0,0)) (fun _=>(1000,0)),vs,?_,hlen,?_,?_,freshU nl,h5,fun k hk=>⟨?_,(h6 k hk).2.1,by have:=(h6 k hk).2.2;omega⟩⟩,fun k hk=>hX k (h6 k hk).1 (h6 k hk).2.2⟩
 ·have h1':=h1.to g
  unfold Held at h1' ⊢
  rw[hX b h3 hlu];exact h1'
 ·exact E.map (F.put (E.map (E.map h2 (.to g)) (.old nl)) (hF.old nl) ((hO.to g).appd hown hblk hg)) (.old nl)
 ·rw[hp b (by omega)];exact h3
 ·rw[hp k (by have:=(h6 k hk).2.2;omega)];exact(h6 k hk).1
theorem obox_fin{χ:Nat→Col}{B0 k:Nat}{u z:World}{vs:List Value}(h:E.O B χ 0 u vs x)(hk:But k u z)(hb:k<B)(h0:B0≤B):E.O B0 χ 0 z vs x:=E.map (E.map h (.keep (hk.keeps hb))) (.mono h0)
theorem obox_to{χ:Nat→Col}{u z:World}{vs:List Value}(h:E.O B χ 0 u vs x)(g:Grows u z):E.O B χ 0 z vs x:=E.map h (.to g)
end
section
variable {P:Program} {ops:Array Oper} {rest:List Oper} {op:Oper} {act:Act} {w w0:World} {Q:Exit→Act→World→Prop} {X:Nat→Prop} {B b:Nat} {α β:Type} [E:OBox α] [E2:Flat β] {x:α} {F:FS α β} {l:List β} {a:Option Addr} {c n:Nat}
theorem app_len{α:Type}{l:List α}{n:Nat}{y:α}(h:l.length=n):(l++[y]).length=n+1:=by rw[List.length_append,h];rfl
theorem step_gbN(hn:l.length=n)(hgd:op.guard=none)(ty:TypeId)(p v:Operand)(ho:op.op=.store ty p v)(h:GBp F X B b w x l a c)(hx:act.eval p=.pointer (some ⟨b,F.off,none⟩))(hv:act.eval v=.slice a n c)(hi:(P.info? ty).map (·.size)=some 1)
  (g:Grows w0 w) (hb:w0.heap.size≤B) (K:∀ z:Later w0,GB X B b z.w (F.set x l)→wpList P ops Q rest (act.put op.dst undef) z.w):wpList P ops Q (op::rest) act w :=
 step_gbS hgd ty p v ho h hx (by rw[hn];exact hv) hi g hb fun z h1 _=>K z h1
end
def gFst:List Value→Value
 | [.tuple t]=>t.getD 0 undef
 | _=>undef
def gSnd:List Value→Value
 | [.tuple t]=>t.getD 1 undef
 | _=>undef
def gOne:List Value→Value
 | [v]=>v
 | _=>undef
def isOB{α:Type}[E:OBox α](B:Nat)(x:α)(b:Bool)(v:Value)(w:World):Prop:=∃ (vs:List Value) (χ:Nat→Col),v=.tuple #[.agg vs.toArray,.bool b]∧E.O B χ 0 w vs x
def entOB{α:Type}[E:OBox α](B:Nat)(x:α)(b:Bool):Ent Gr:=.of (isOB B x b) (fun _ _ _ g ⟨vs,χ,e,h⟩=>⟨vs,χ,e,E.map h (.to ⟨g⟩)⟩)
theorem GBp.same{α β:Type}[E:OBox α][E2:Flat β]{F:FS α β}{X:Nat→Prop}{B b:Nat}{w:World}{x:α}{l:List β}{a:Option Addr}{c:Nat}(h:GBp F X B b w x l a c)(hc:w.cell? ⟨b,F.off,none⟩=some (.slice a l.length c)):GB X B b w (F.set x l):=by
 obtain⟨χ,vs,h1,-,h3,h4,h5,h6,h7⟩:=h
 rw[h1.cell]at hc
 obtain⟨hl,he⟩:=List.getElem?_eq_some_iff.1 hc
 rw[← he,List.set_getElem_self]at h3
 exact⟨χ,vs,h1,h3,h4,h5,h6,h7⟩
section
variable {P:Program} {ops:Array Oper} {rest:List Oper} {op:Oper} {act:Act} {w w0:World} {Q:Exit→Act→World→Prop} {X:Nat→Prop} {B b:Nat} {α β:Type} [E:OBox α] [E2:Flat β] {x:α}
end
theorem gKeeps{B:Nat}{u v:World}(g:Grows u v):Keeps B u v:=⟨g.out.size,fun k _ h2=>g.out.block k h2⟩
def cellLen(w:World)(b o:Nat):Nat:=match w.cell? ⟨b,o,none⟩with|some (.slice _ n _)=>n|_=>0
theorem cellLen_eq{w:World}{b o n c:Nat}{a:Option Addr}(h:w.cell? ⟨b,o,none⟩=some (.slice a n c)):cellLen w b o=n:=by rw[cellLen,h]
instance OBox.iMission:OBox TMission where
 toEncO:=inferInstance
 ty:=90
 n:=22
 one:=by rintro _ _ _ _ _ _ ⟨A,rfl,-⟩;rfl
 map:=by rintro _ _ _ _ _ _ _ _ _ _ ⟨A,rfl,h⟩ t;exact⟨A,rfl,t.c 0 (by decide) h.o0,t.c 1 (by decide) h.o1,t.c 2 (by decide) h.o2,t.c 3 (by decide) h.o3,t.c 4 (by decide) h.o4,t.c 5 (by decide) h.o5,t.c 6 (by decide) h.o6,h.o7.elim fun r hr=>⟨r,hr.1,t.r 7 (by decide) hr.2⟩,t.c 8 (by decide) h.o8,t.c 9 (by decide) h.o9,t.c 10 (by decide) h.o10,t.c 11 (by decide) h.o11,t.c 12 (by decide) h.o12,t.c 13 (by decide) h.o13,t.c 14 (by decide) h.o14,t.c 15 (by decide) h.o15,t.c 16 (by decide) h.o16,t.c 17 (by decide) h.o17,h.o18.elim fun r hr=>⟨r,hr.1,t.r 18 (by decide) hr.2⟩,t.c 19 (by decide) h.o19,t.c 20 (by decide) h.o20,t.c 21 (by decide) h.o21,h.ok⟩
 nle:=by decide
def mUps:FS TMission TFlight where
 off:=14
 col:=1
 get:=(·.Ups)
 set:=fun x l=>{ x with Ups:=l }
 own:=by rintro _ _ _ _ _ ⟨A,rfl,h⟩;exact⟨_,_,rfl,h.o1⟩
 put:=by rintro _ _ _ _ _ _ a c _ ⟨A,rfl,h⟩ f k;exact⟨{ A with a1:=a,c1:=c },rfl,h.put1 f k⟩
 lt:=by decide
 clt:=by decide
def mGOffers:FS TMission ByteArray where
 off:=16
 col:=3
 get:=(·.Ground.Offers)
 set:=fun x l=>{ x with Ground.Offers:=l }
 own:=by rintro _ _ _ _ _ ⟨A,rfl,h⟩;exact⟨_,_,rfl,h.o3⟩
 put:=by rintro _ _ _ _ _ _ a c _ ⟨A,rfl,h⟩ f k;exact⟨{ A with a3:=a,c3:=c },rfl,h.put3 f k⟩
 lt:=by decide
 clt:=by decide
def mOffered:FS TMission ByteArray where
 off:=58
 col:=20
 get:=(·.Offered)
 set:=fun x l=>{ x with Offered:=l }
 own:=by rintro _ _ _ _ _ ⟨A,rfl,h⟩;exact⟨_,_,rfl,h.o20⟩
 put:=by rintro _ _ _ _ _ _ a c _ ⟨A,rfl,h⟩ f k;exact⟨{ A with a20:=a,c20:=c },rfl,h.put20 f k⟩
 lt:=by decide
 clt:=by decide
def mSender:FD TMission TSender where
 off:=17
 col:=4
 get:=(·.Ground.Sender)
 set:=fun x y=>{ x with Ground.Sender:=y }
 own:=by rintro _ _ _ _ _ ⟨A,rfl,h⟩;exact⟨_,_,rfl,h.o4,h.ok.2.2.2.2.2.2.1.1⟩
 put:=by
  rintro _ _ _ _ _ _ _ _ ⟨A,rfl,h⟩ f ⟨b0,d0,rfl,k⟩
  exact⟨{ A with a4:=b0,c4:=d0 },rfl,h.o0.fr f (by simp[OBox.n]),h.o1.fr f (by simp[OBox.n]),h.o2.fr f (by simp[OBox.n]),h.o3.fr f (by simp[OBox.n]),k.o0,h.o5.fr f (by simp[OBox.n]),h.o6.fr f (by simp[OBox.n]),h.o7.elim fun r hr=>⟨r,hr.1,hr.2.fr f (by simp[OBox.n])⟩,h.o8.fr f (by simp[OBox.n]),h.o9.fr f (by simp[OBox.n]),h.o10.fr f (by simp[OBox.n]),h.o11.fr f (by simp[OBox.n]),h.o12.fr f (by simp[OBox.n]),h.o13.fr f (by simp[OBox.n]),h.o14.fr f (by simp[OBox.n]),h.o15.fr f (by simp[OBox.n]),h.o16.fr f (by simp[OBox.n]),h.o17.fr f (by simp[OBox.n]),h.o18.elim fun r hr=>⟨r,hr.1,hr.2.fr f (by simp[OBox.n])⟩,h.o19.fr f (by simp[OBox.n]),h.o20.fr f (by simp[OBox.n]),h.o21.fr f (by simp[OBox.n]),by have q:=h.ok;exact⟨q.1,q.2.1,q.2.2.1,q.2.2.2.1,q.2.2.2.2.1,q.2.2.2.2.2.1,⟨k.ok,q.2.2.2.2.2.2.1.2⟩,q.2.2.2.2.2.2.2⟩⟩
 le:=by decide
 cle:=by decide
theorem gb_cells{X:Nat→Prop}{B b:Nat}{w:World}{m:TMission}(h:GB X B b w m):∃ (vs:List Value) (A:TMissionA),Held w b vs 90∧vs=[.int .i64 m.Time,.int .i64 m.Light,.int .i64 m.Drift.Rate,.int .i64 m.Drift.Offset,.int .i64 m.Orbit.Period,.int .i64 m.Orbit.Start,.int .i64 m.Orbit.Length,.slice A.a0 m.Plan.length A.c0,.int .i64 m.Up.Seed,.int .i64 m.Up.Burst,.int .i64 m.Up.Loss,.int .i64 m.Down.Seed,.int .i64 m.Down.Burst,.int .i64 m.Down.Loss,.slice A.a1 m.Ups.length A.c1,.slice A.a2 m.Downs.length A.c2,.slice A.a3 m.Ground.Offers.length A.c3,.int .i64 m.Ground.Sender.Next,.int .i64 m.Ground.Sender.Window,.slice A.a4 m.Ground.Sender.Waiting.length A.c4,.int .i64 m.Ground.Sender.Done,.int .i64 m.Ground.Notice.Expect,.bool m.Ground.Notice.Locked,.bool m.Ground.Notice.Again,.int .i64 m.Ground.Unpacker.Channel,.int .i64 m.Ground.Unpacker.Next,.bool m.Ground.Unpacker.Synced,.string m.Ground.Unpacker.Rest,.int .i64 m.Ground.Unpacker.Lost,.slice A.a5 m.Ground.Pairs.length A.c5,.slice A.a6 m.Ground.Records.length A.c6,.slice A.a7 m.Ground.Files.length A.c7,.slice A.a8 m.Ground.Told.length A.c8,.int .i64 m.Space.Receiver.Expect,.bool m.Space.Receiver.Locked,.bool m.Space.Receiver.Again,.int .i64 m.Space.Receiver.Taken,.int .i64 m.Space.Board.Clock,.slice A.a9 m.Space.Board.Params.length A.c9,.bool m.Space.Board.Safe,.slice A.a10 m.Space.Board.Limits.length A.c10,.slice A.a11 m.Space.Board.Orders.length A.c11,.slice A.a12 m.Space.Board.Done.length A.c12,.int .i64 m.Space.Board.Recorder.Room,.slice A.a13 m.Space.Board.Recorder.Records.length A.c13,.slice A.a14 m.Space.Board.Recorder.Dropped.length A.c14,.int .i64 m.Space.Board.Made,.int .i64 m.Space.Board.Taken,.slice A.a15 m.Space.Board.Asked.length A.c15,.int .i64 m.Space.Packer.Channel,.int .i64 m.Space.Packer.Count,.string m.Space.Packer.Rest,.slice A.a16 m.Space.Packer.Starts.length A.c16,.int .i64 m.Space.Seq,.slice A.a17 m.Space.Files.length A.c17,.slice A.a18 m.Space.Outs.length A.c18,.int .i64 m.Space.Begun,.slice A.a19 m.Space.Sent.length A.c19,.slice A.a20 m.Offered.length A.c20,.slice A.a21 m.Took.length A.c21,.int .i64 m.Bad]∧TMissionF B w A m:=by
 obtain⟨vs,hH,-,-,⟨A,hv,F⟩,-⟩:=h.vs
 exact⟨vs,A,hH,hv,F⟩
theorem addr_add(b o k:Nat):(⟨b,o,none⟩:Addr).add k=⟨b,o+k,none⟩:=by
 unfold Addr.add;split
 ·rename_i h;rw[h,Nat.add_zero]
 ·rfl
theorem Own.at0{α:Type}{enc:α→List Value}{T size B:Nat}{w:World}{a:Option Addr}{c:Nat}{l:List α}(h:Own enc T size B w a c l):(a=none∧c=0)∨∃ g,a=some ⟨g,0,none⟩:=by
 obtain⟨-,-,⟨hv1,hn1⟩|⟨g,cap,cur,hv1,-⟩⟩:=h
 ·simp only[Value.slice.injEq]at hv1;exact .inl ⟨hv1.1,hv1.2.2⟩
 ·simp only[Value.slice.injEq]at hv1;exact .inr ⟨g,hv1.1⟩
theorem cell_heap{w w':World}{b:Nat}(h:w'.heap[b]?=w.heap[b]?)(o:Nat):w'.cell? ⟨b,o,none⟩=w.cell? ⟨b,o,none⟩:=by
 simp only[World.cell?,h]
section
variable {P:Program} {ops:Array Oper} {rest:List Oper} {op:Oper} {act:Act} {u w w0:World} {Q:Exit→Act→World→Prop} {X:Nat→Prop} {B b:Nat} {α β γ:Type} [E:OBox α] [N:Nest β γ] [E2:Flat γ] {x:α}
end
theorem grown_later{w0 W W2:World}{row:Option Nat}(g:Grows w0 W)(h:W.grownBy W2 row)(hr:∀ k,row=some k→w0.heap.size≤k):∃ z:Later w0,W2=z.w :=
 ⟨⟨W2,h.os.trans g.out.os,h.tape.trans g.out.tape,h.output.trans g.out.output,Nat.le_trans g.out.size h.size,fun k hk=>(h.block k (Nat.lt_of_lt_of_le hk g.out.size) (fun e=>by have:=hr k e.symm;omega)).trans (g.out.block k hk)⟩,rfl⟩
theorem c_sSealText{s:ByteArray}{w:World}(hm:s.size≤100000000):Calls Tryz.prog 164 #[.string s] w (Gives w (.string (sealText s))):=by
 have⟨h0,h1⟩:=checkOf_bd s
 have hz:(word2 (checkOf s)).size=2:=rfl
 go_enter Tryz.func164,Tryz.ntmps164
 go_wp2_with (first|(go_at_call 249;refine gm (c_sCheckOf (by omega)) ?_;intro y9)|(go_at_call 165;refine gm (c_sPutWord2 h0 (by omega)) ?_;intro y9))
 go_ret
 exact Gives.mk rfl
theorem c_sEncodeCommand{kind seq:Int}{s:ByteArray}{w:World}(hk:kind=0∨kind=1)(h0:0≤seq)(h1:seq≤255)(hs:s.size≤40):Calls Tryz.prog 58 #[.int .i64 kind,.int .i64 seq,.string s] w (Gives w (.string (encCmd kind seq s))):=by
 rcases hk with rfl|rfl
 ·have c2:inB seq 0 255=true:=inB_iff.2 ⟨h0,h1⟩
  have c3:decide (40<(s.size:Int))=false:=by simp;omega
  have c1:inB 0 0 1=true:=rfl
  have hz1:(word1 0).size=1:=rfl
  have hz2:(word1 seq).size=1:=rfl
  have hz3:(word1 0++word1 seq++s).size=2+s.size:=by rw[ByteArray.size_append,ByteArray.size_append];rfl
  go_enter Tryz.func58,Tryz.ntmps58
  go_wp2_with (first|(go_at_call 82;refine gm (c_sl01In) ?_;intro x)|(go_at_call 165;refine gm (c_sPutWord1 (by omega) (by omega)) ?_;intro y9)|(go_at_call 164;refine gm (c_sSealText (by omega)) ?_;intro y9))
  go_ret
  exact Gives.mk rfl
 ·have c2:inB seq 0 255=true:=inB_iff.2 ⟨h0,h1⟩
  have c3:decide (40<(s.size:Int))=false:=by simp;omega
  have c1:inB 1 0 1=true:=rfl
  have hz1:(word1 1).size=1:=rfl
  have hz2:(word1 seq).size=1:=rfl
  have hz3:(word1 1++word1 seq++s).size=2+s.size:=by rw[ByteArray.size_append,ByteArray.size_append];rfl
  go_enter Tryz.func58,Tryz.ntmps58
  go_wp2_with (first|(go_at_call 82;refine gm (c_sl01In) ?_;intro x)|(go_at_call 165;refine gm (c_sPutWord1 (by omega) (by omega)) ?_;intro y9)|(go_at_call 164;refine gm (c_sSealText (by omega)) ?_;intro y9))
  go_ret
  exact Gives.mk rfl
theorem c_sCommandBlocks{B:Nat}{a:Option Addr}{c:Nat}{sD:TSender}{w:World}(hs:RdS B w a c sD.Waiting)(hi:okDTSender sD)(h0:senderOk sD=true):Calls Tryz.prog 57 #[.agg #[.int .i64 sD.Next,.int .i64 sD.Window,.slice a sD.Waiting.length c,.int .i64 sD.Done]] w (GivesSl encStr 9 1 w (cmdBlocks sD)):=by
 obtain⟨n,hn⟩:∃ n,sD.Waiting.length=n:=⟨_,rfl⟩
 have⟨hl,hel⟩:=senderOk_at h0
 have HEL:=lH hel;clear hel
 have HN:=lH hn
 have HI:=lH hi;clear hi
 have HLB:=lH (show(cmdBlocks sD).length=n by rw[cmdBlocks,List.length_map];exact hn)
 rw[hn]at hl ⊢
 clear hn
 have HB:=lH (Held.new w [.int .i64 sD.Next,.int .i64 sD.Window,.slice a n c,.int .i64 sD.Done] 69 w.heap.size rfl)
 have gW:Grows w (w.alloc (.cells #[.int .i64 sD.Next,.int .i64 sD.Window,.slice a n c,.int .i64 sD.Done] 69)):=inferInstance
 go_enter Tryz.func57,Tryz.ntmps57
 go_upto_region 1 with(first|((with_reducible refine rl ?_);refine rq ?_;intro x))
 generalize (w.alloc (.cells #[.int .i64 sD.Next,.int .i64 sD.Window,.slice a n c,.int .i64 sD.Done] 69))=W2 at HB gW ⊢
 have HS:=lH hs
 go_wp2_with (first|((with_reducible refine rl ?_);refine rq ?_;intro x))
 go_loopw [3,4] (fun u v wr=>∃ (k:Nat) (L:List ByteArray) (sa:Option Addr) (sc:Nat),u=.slice sa k sc∧v=.int .i64 k∧k≤n∧L.length=k∧Hid (L=(cmdBlocks sD).take k)∧Hid (Own encStr 9 1 W2.heap.size wr sa sc L)∧∃ x:Later W2,wr=x.w) (fun _ v _=>(n - intOf v).toNat)
 case atStart=>exact⟨0,[],_,_,rfl,rfl,by omega,rfl,rfl,Own.empty0 encStr_len nl,Later.of⟩
 case round =>
  obtain⟨k,L,sa,sc,rfl,rfl,hk,hL,HL,hO,y,rfl⟩:=hrel
  by_cases h:k<n
  ·have hkl:k<sD.Waiting.length:=by have:=HN.out;omega
   obtain⟨eb,eoff,ex,rfl,ehb,ehd,eok,eh0,eh1⟩:=hs.atTSent hkl
   have⟨hq2,hq3,hq0,hq1⟩:=HEL.out ex (List.mem_of_mem_drop (show ex∈sD.Waiting.drop k by rw[ehd.out];simp))
   clear eok hkl
   have kd:decide ((k:Int)<(n:Int))=true:=by simp;omega
   go_upto_region 5 with(first|((with_reducible refine rl ?_);(repeat(first|go_big_quiet_step (first|fail)|simp only[kd]));refine wpQuiet_nil ?_;intro x)|(refine stepLoad1 rfl _ (.tmp 7) rfl (w.heap.size) 2 kr (HB.out.to ii) (.slice (some ⟨eb,eoff,none⟩) n c) rfl _ uu67 rfl ?_)|(refine stepLoadW kg _ (.tmp 1) rfl (w.heap.size) 0 kr (row:=[.int .i64 sD.Next,.int .i64 sD.Window,.slice (some ⟨eb,eoff,none⟩) n c,.int .i64 sD.Done]) (HB.out.to ii) _ uu69 rfl kr rfl ?_)|(go_at_call 163;refine gm (k_sSenderOkN (sD:=sD) (hs.keep (gKeeps (ii:Grows w W2))) HN.out (by omega) HI.out) ?_;intro y9;rw[h0]))
   refine wp_region_stabZ kr (T:=[15,16]) (Zs:=[]) (H:=[(2,[]),(4,[]),(6,[]),(8,[]),(10,[]),(12,[]),(13,[]),(14,[])]) (C:=[14]) (Fs:=[(some 17,.v (.slice sa k sc)),(some 18,.v (.pointer (some ⟨w.heap.size,2,none⟩))),(some 19,.v (.slice (some ⟨eb,eoff,none⟩) n c)),(some 20,.v (.int .i64 (k))),(some 21,.v (.pointer (some ⟨eb,eoff+k*2,none⟩))),(some 22,.v (.pointer (some ⟨eb,eoff+k*2,none⟩))),(some 23,.v (.int .i64 (ex.Seq))),(some 24,.v (.pointer (some ⟨w.heap.size,2,none⟩))),(some 25,.v (.slice (some ⟨eb,eoff,none⟩) n c)),(some 26,.v (.int .i64 (k))),(some 27,.v (.pointer (some ⟨eb,eoff+k*2,none⟩))),(some 28,.v (.pointer (some ⟨eb,eoff+k*2+1,none⟩))),(some 29,.v (.string ex.Data)),(some 30,.v (.string (encCmd 0 ex.Seq ex.Data))),(some 31,.sl y.w.heap.size 1 [.string (encCmd 0 ex.Seq ex.Data)] 9),(none,.v (undef)),(none,.v (undef))]) kr (fun val W=>by kernel_rfl) ?ob5 ?lz5 ?pn5 ?tl5
   case ob5 =>
    refine⟨fun x=>?_,fun x=>?_,fun x=>?_,fun x=>?_,fun x=>?_,fun x=>?_,fun x=>?_,fun x=>?_,trivial⟩
    ·exact g_one (o:=2) (v:=.slice (some ⟨eb,eoff,none⟩) n c) (HB.out.to (ii:Grows W2 x.w)) rfl kr rfl _ uu67 rfl
    ·exact g_ix (size:=2) (o:=eoff) (j:=k) (n:=n) (c:=c) rfl kr uu67 kr h
    ·exact g_cell (eh0 x.w) rfl kr _ Tryz.underlying3 rfl
    ·exact g_one (o:=2) (v:=.slice (some ⟨eb,eoff,none⟩) n c) (HB.out.to (ii:Grows W2 x.w)) rfl kr rfl _ uu67 rfl
    ·exact g_ix (size:=2) (o:=eoff) (j:=k) (n:=n) (c:=c) rfl kr uu67 kr h
    ·exact g_cell (eh1 x.w) rfl kr _ Tryz.underlying9 rfl
    ·refine g_call (f:=58) (args:=[.int .i64 0,.int .i64 ex.Seq,.string ex.Data]) Tryz.func58 kr kr ((c_sEncodeCommand (.inl rfl) hq0 hq1 hq3).mono ?_)
     rintro _ _ ⟨rfl,y9,rfl⟩
     exact⟨_,rfl,⟨y9,rfl⟩,rfl⟩
    ·exact g_sl rfl kr LeN.out
   case lz5 =>
    exact trivial
   case pn5=>exact fun _ _ _ _ _ _ h=>h
   case tl5 =>
    intro x
    refine chain1 fun v8 q8=>?_
    obtain⟨bs,rfl,hbs,hH⟩:=(show ∃ g,v8=.slice (some ⟨g,0,none⟩) 1 1∧y.w.heap.size≤g∧Held x.w g [.string (encCmd 0 ex.Seq ex.Data)] 9 from q8)
    clear q8
    refine tail2 rfl rfl ?_
    simp only[put_nrm]
    simp only[Act.put,List.setIfInBounds_toArray,List.set_cons_succ,List.set_cons_zero]
    have gx:Grows W2 x.w:=growsTr (ii:Grows W2 y.w) ii
    refine wpList_app1F (enc:=encStr) (w0:=W2) (z:=.string ⟨#[]⟩) (size:=1) (bytes:=16) (n:=k) (encCmd 0 ex.Seq ex.Data) rfl (.tmp 17) (.tmp 31) rfl Tryz.underlying30 kr rfl (by decide) (by decide) kr kr hL (hO.out.to ii) hH rfl (encStr_one _) (by omega) gx.out.size gx nl ?_
    intro sa1 sc1 x1 hown1 hgr1 hblk1
    have HO6:=lH hown1;clear hown1 hgr1 hblk1 hH
    (try simp only[Act.put,List.setIfInBounds_toArray])
    go_wp2_with (first|((with_reducible refine rl ?_);refine rq ?_;intro x))
    go_roundw
    case rel=>exact⟨k+1,L++[cmdBlk ex],sa1,sc1,rfl,by go_num,by omega,by simp[hL],lH (cmdBlocks_app HL.out ehd.out),HO6,Later.of⟩
    case measure=>simp[intOf];omega
  ·obtain rfl:n=k:=by omega
   have kd:decide ((n:Int)<(n:Int))=false:=by simp
   go_wp2_with (first|((with_reducible refine rl ?_);(repeat(first|go_big_quiet_step (first|fail)|simp only[kd]));refine wpQuiet_nil ?_;intro x)|(refine stepLoad1 rfl _ (.tmp 7) rfl (w.heap.size) 2 kr (HB.out.to ii) (.slice a n c) rfl _ uu67 rfl ?_))
   go_ret
   exact⟨sa,sc,by rw[HLB.out];rfl,by have:=hO.out.mono (show w.heap.size≤W2.heap.size from gW.out.size);rw[HL.out,List.take_of_length_le (by rw[HLB.out];exact Nat.le_refl _)]at this;exact this,Later.of⟩
def offerRes(s:TSender)(d:ByteArray):TSender:={ s with Waiting:=s.Waiting++[⟨s.Next,d⟩],Next:=(s.Next+1) % 256 }
def offerCmd(s:TSender)(d:ByteArray):TSender × Bool:=if senderOk s=true then(if senderOk (offerRes s d)=true then(offerRes s d,true)else(s,false))else(s,false)
def offerGo:List ByteArray→TSender→List ByteArray→List ByteArray × TSender × List ByteArray
 | [],s,o=>([],s,o)
 | d::r,s,o=>if (offerCmd s d).2=true then offerGo r (offerCmd s d).1 (o++[d])else(d::r,s,o)
def upM(m:TMission)(q:List ByteArray × TSender × List ByteArray):TMission:={ m with Ground:={ m.Ground with Offers:=q.1,Sender:=q.2.1 },Offered:=q.2.2 }
def offeredM(m:TMission):TMission:=upM m (offerGo m.Ground.Offers m.Ground.Sender m.Offered)
theorem sender_tot(s:TSender):Enc.tot s=totL s.Waiting:=rfl
theorem offerRes_tot(s:TSender)(d:ByteArray):Enc.tot (offerRes s d)=Enc.tot s+1+d.size:=totL_snoc s.Waiting _
theorem offerCmd_tot(s:TSender)(d:ByteArray):Enc.tot (offerCmd s d).1≤Enc.tot s+1+d.size:=by
 have h:=offerRes_tot s d
 unfold offerCmd
 split
 ·split
  ·exact Int.le_of_eq h
  ·simp only;omega
 ·simp only;omega
theorem offerCmd_ok{s:TSender}(h:senderOk s=true)(d:ByteArray):senderOk (offerCmd s d).1=true:=by
 unfold offerCmd
 rw[if_pos h]
 split
 ·assumption
 ·exact h
theorem offerGo_tot:∀ (r:List ByteArray) (s:TSender) (o:List ByteArray),totL (offerGo r s o).1+totL (offerGo r s o).2.2=totL r+totL o∧Enc.tot (offerGo r s o).2.1+totL (offerGo r s o).1≤Enc.tot s+totL r
 | [],_,_=>⟨rfl,Int.le_refl _⟩
 | d::r,s,o=>by
  rw[offerGo]
  split
  ·have ih:=offerGo_tot r (offerCmd s d).1 (o++[d])
   have h1:=offerCmd_tot s d
   have h2:Enc.tot d=(d.size:Int):=rfl
   rw[totL_snoc,h2]at ih
   simp only[totL,h2]
   omega
  ·exact⟨rfl,Int.le_refl _⟩
theorem upM_tot(m:TMission)(q:List ByteArray × TSender × List ByteArray):Enc.tot (upM m q)=Enc.tot m - totL m.Ground.Offers - Enc.tot m.Ground.Sender - totL m.Offered+totL q.1+Enc.tot q.2.1+totL q.2.2:=by
 have h1:Enc.tot (upM m q)=totL m.Plan+totL m.Ups+totL m.Downs+(totL q.1+Enc.tot q.2.1+Enc.tot m.Ground.Unpacker+totL m.Ground.Pairs+totL m.Ground.Records+totL m.Ground.Files+totL m.Ground.Told)+Enc.tot m.Space+totL q.2.2+totL m.Took:=rfl
 have h2:Enc.tot m=totL m.Plan+totL m.Ups+totL m.Downs+(totL m.Ground.Offers+Enc.tot m.Ground.Sender+Enc.tot m.Ground.Unpacker+totL m.Ground.Pairs+totL m.Ground.Records+totL m.Ground.Files+totL m.Ground.Told)+Enc.tot m.Space+totL m.Offered+totL m.Took:=rfl
 rw[h1,h2];omega
theorem offers_le(m:TMission):totL m.Ground.Offers≤Enc.tot m∧Enc.tot m.Ground.Sender≤Enc.tot m∧totL m.Offered≤Enc.tot m∧totL m.Ground.Offers+Enc.tot m.Ground.Sender+totL m.Offered≤Enc.tot m:=by
 have h2:Enc.tot m=totL m.Plan+totL m.Ups+totL m.Downs+(totL m.Ground.Offers+Enc.tot m.Ground.Sender+Enc.tot m.Ground.Unpacker+totL m.Ground.Pairs+totL m.Ground.Records+totL m.Ground.Files+totL m.Ground.Told)+Enc.tot m.Space+totL m.Offered+totL m.Took:=rfl
 have a0:=totL_nonneg m.Plan;have a1:=totL_nonneg m.Ups;have a2:=totL_nonneg m.Downs;have a3:=totL_nonneg m.Ground.Offers;have a4:=Enc.tot_nonneg m.Ground.Sender;have a5:=Enc.tot_nonneg m.Ground.Unpacker
 have a6:=totL_nonneg m.Ground.Pairs;have a7:=totL_nonneg m.Ground.Records;have a8:=totL_nonneg m.Ground.Files;have a9:=totL_nonneg m.Ground.Told;have b0:=Enc.tot_nonneg m.Space;have b1:=totL_nonneg m.Offered;have b2:=totL_nonneg m.Took
 omega
theorem offeredM_tot(m:TMission):Enc.tot (offeredM m)≤2*Enc.tot m:=by
 have h:=offerGo_tot m.Ground.Offers m.Ground.Sender m.Offered
 have h1:=offers_le m
 have h2:=totL_nonneg (offerGo m.Ground.Offers m.Ground.Sender m.Offered).1
 have h3:=totL_nonneg m.Offered
 have h4:=Enc.tot_nonneg m.Ground.Sender
 rw[offeredM,upM_tot];omega
theorem offerGo_app:∀ (r:List ByteArray) (s:TSender) (o:List ByteArray),(offerGo r s o).2.2++(offerGo r s o).1=o++r∧(senderOk s=true→senderOk (offerGo r s o).2.1=true)
 | [],_,_=>⟨rfl,id⟩
 | d::r,s,o=>by
  rw[offerGo]
  split
  ·have ih:=offerGo_app r (offerCmd s d).1 (o++[d])
   exact⟨by rw[ih.1,List.append_assoc];rfl,fun h=>ih.2 (offerCmd_ok h d)⟩
  ·exact⟨rfl,id⟩
theorem os_len{B:Nat}{w:World}{vs:List Value}{r:TSender}(h:Enc.Rd B w vs r):vs.length=4:=Enc.len h
theorem os_one{B:Nat}{w:World}{vs:List Value}{r:TSender}(h:Enc.Rd B w vs r):vs.all (·.oneCell')=true:=by
 obtain⟨a,c,rfl,-⟩:=h;rfl
theorem senderOk_next{s:TSender}(h:senderOk s=true):0≤s.Next∧s.Next≤255∧s.Waiting.length≤20:=by
 simp only[senderOk,Bool.and_eq_true,decide_eq_true_eq]at h
 have h1:=inB_iff.1 h.1;have h2:=inB_iff.1 h.2.1
 omega
theorem o_iOfferCommand{B:Nat}{vs:List Value}{s:TSender}{d:ByteArray}{w:World}(h:Enc.Rd B w vs s)(hd:d.size≤9223372036854775807)(ht:Enc.tot s≤50000000) :
  Calls Tryz.prog 61 #[.agg vs.toArray,.string d] w (GivesOB w (offerCmd s d).1 (offerCmd s d).2):=by
 have HM:=lH h
 obtain⟨a,c,rfl,hs,hok⟩:=h
 have hm:s.Waiting.length≤50000000:=by have:=totL_len s.Waiting;rw[sender_tot]at ht;omega
 have HT:=lH (show Enc.tot s≤100000000 by omega)
 clear ht
 obtain⟨n,hn⟩:∃ n,s.Waiting.length=n:=⟨_,rfl⟩
 rw[hn]at HM hm ⊢
 have HN:=lH hn
 have HB:=lH ((Held.new w [.int .i64 s.Next,.int .i64 s.Window,.slice a n c,.int .i64 s.Done] 69 w.heap.size rfl).to (ii:Grows _ ((w.alloc (.cells #[.int .i64 s.Next,.int .i64 s.Window,.slice a n c,.int .i64 s.Done] 69)).alloc (.cells #[.int .i64 0,.int .i64 0,.slice none 0 0,.int .i64 0] 69))))
 have HR:=lH (Held.new (w.alloc (.cells #[.int .i64 s.Next,.int .i64 s.Window,.slice a n c,.int .i64 s.Done] 69)) [.int .i64 0,.int .i64 0,.slice none 0 0,.int .i64 0] 69 (w.heap.size+1) (by simp))
 cases c0:senderOk s
 ·have HK:=lH (show offerCmd s d=(s,false)by rw[offerCmd,c0];rfl)
  go_enter Tryz.func61,Tryz.ntmps61
  go_wp2_with (first|(go_at_call 170;refine gm (k_iSenderOkN) ?_;intro x)|(refine stepLoad rfl _ (.tmp 2) rfl (w.heap.size) 0 rfl (row:=[.int .i64 s.Next,.int .i64 s.Window,.slice a n c,.int .i64 s.Done]) (HB.out.to ii) _ uu69 rfl kr rfl ?_))
  refine(o_cloneSender (x:=s) (Enc.keep HM.out ii) HT.out).mono ?_
  rintro _ _ ⟨cs,χ,rfl,hO,y1,rfl⟩
  have HLC:=lH (os_len (EncO.toRd hO));have HOC:=lH (os_one (EncO.toRd hO));have HO:=lH hO;clear hO
  go_wp2_with (first|(refine sW rfl _ _ _ rfl (w.heap.size+1) rfl (us:=cs) (HR.out.to ii) HLC HOC (w0:=(w.alloc (.cells #[.int .i64 s.Next,.int .i64 s.Window,.slice a n c,.int .i64 s.Done] 69))) ii (by simp) ?_;intro z9 HX9 KX9))
  refine bodyPost_ret (v:=.tuple #[.agg cs.toArray,.bool false]) (results_cell2 (P:=Tryz.prog) (u:=.bool false) rfl rfl HX9.out _ uu69 rfl (by rw[HLC.out];kernel_rfl) rfl) rfl ?_
  rw[HK.out]
  exact⟨cs,χ,rfl,obox_fin HO.out KX9.out LtN.out LeN.out,Later.of⟩
 have hnx:=senderOk_next c0
 have HC0:=lH c0
 go_enter Tryz.func61,Tryz.ntmps61
 go_wp2_with (first|(refine stepLoad rfl _ (.tmp 2) rfl (w.heap.size) 0 rfl (row:=[.int .i64 s.Next,.int .i64 s.Window,.slice a n c,.int .i64 s.Done]) (HB.out.to ii) _ uu69 rfl kr rfl ?_))
 refine gm (k_iSenderOkN (sD:=s) hs hn (by omega) hok) ?_
 intro y0
 rw[c0]
 go_wp2_with (first|(refine stepLoad rfl _ (.tmp 2) rfl (w.heap.size) 0 rfl (row:=[.int .i64 s.Next,.int .i64 s.Window,.slice a n c,.int .i64 s.Done]) (HB.out.to ii) _ uu69 rfl kr rfl ?_))
 refine(o_cloneSender (x:=s) (Enc.keep HM.out ii) HT.out).mono ?_
 rintro _ _ ⟨cs,χ,rfl,hO,y1,rfl⟩
 have HLC:=lH (os_len (EncO.toRd hO));have HOC:=lH (os_one (EncO.toRd hO));have HO:=lH hO;clear hO
 go_upto_region 4 with((first|(refine sW rfl _ _ _ rfl _ rfl (us:=cs) (Held.new _ [.int .i64 0,.int .i64 0,.slice none 0 0,.int .i64 0] 69 _ rfl) HLC HOC (w0:=y0.w) ii LeN.out ?_;intro z1 HX1 KX1)))
 (try simp only[Act.put])
 obtain⟨qb,hqb⟩:∃ qb,(y0.andThen y1).w.heap.size=qb:=⟨_,rfl⟩
 rw[hqb]
 have HG:=lH (show GB (fun _=>False) y0.w.heap.size qb z1.w s from hqb▸GB.of HO.out (KX1.out.under ii nl) y1.size_le HX1.out)
 have hqB:y0.w.heap.size≤qb:=HG.out.le
 have hqlt:LtN qb z1.w.heap.size:=⟨HG.out.lt⟩
 clear hqb HX1 KX1 HO HLC HOC
 have e0:=HB.out.cellG 0 _ rfl
 obtain⟨sa,sc,ec,hown,-,-⟩:=HG.out.own fSenderWaiting
 have HEC:=lH (ec z1.w)
 have ec2:∀ (W:World) [Grows z1.w W],W.cell? ⟨qb,2,none⟩=some (.slice sa n sc):=fun W g=>HN.out▸ec W
 clear ec
 have hgood:okDTSent ⟨s.Next,d⟩:=⟨hok.1,hd,trivial⟩
 go_upto_region 5 with((first|(at_builtin;refine wpList_app1F (enc:=encTSent) (w0:=y0.w) (z:=.agg #[.int .i64 0,.string ⟨#[]⟩]) (size:=2) (bytes:=24) (⟨s.Next,d⟩:TSent) rfl (.tmp 15) (.tmp 20) rfl uu67 kr rfl (by decide) (by decide) rfl rfl HN.out (hown.to ii) bk rfl (encTSent_one _) (by omega) LeN.out ii nl ?_;intro sa2 sc2 xa2 hown1 hgr1 hblk1;have hp2:=(GBp.app (F:=fSenderWaiting) HG.out HEC.out ii hown1 hgr1 hblk1 hgood).1;clear hown1 hgr1 hblk1)|(refine step_gbN (app_len HN.out) rfl _ _ _ rfl hp2 rfl rfl kr ii nl ?_;intro z2 hz2)))
 have hi256:i64 ((s.Next+1) % 256):=by unfold i64;omega
 go_upto_region 6 with((first|(refine step_gbC (o:=0) (us:=[.int .i64 ((s.Next+1) % 256)]) (offerRes s d) rfl _ (.tmp 27) (.tmp 26) rfl hz2 rfl rfl kr rfl nb (by intros;rename_i h;obtain⟨a0,c0,rfl,q⟩:=h;exact⟨a0,c0,rfl,q.o0,hi256,q.ok.2⟩) ii nl ?_;intro z3 hz3 hX3)))
 (try simp only[Act.put])
 have HZ3:=lH hz3
 obtain⟨vs9,hH9,-,h19,-,χ9,hO9⟩:=hz3.vs
 have hO9':=hO9
 obtain⟨a9,c9,rfl,hO⟩:=hO9'
 have hs9:=hO.o0.rd;have hok9:=hO.ok
 have HH9:=lH hH9;have HO9:=lH hO9;have H19:=lH h19
 have hn9:(offerRes s d).Waiting.length=n+1:=app_len HN.out
 rw[hn9]at HH9 HO9 H19
 have HL9:=lH (os_len (EncO.toRd HO9.out))
 clear hz3 hO9 hH9 h19 hO hs e0 ec2 hown HEC HG
 cases c1:senderOk (offerRes s d)
 ·have HK:=lH (show offerCmd s d=(s,false)by rw[offerCmd,HC0.out,c1];rfl)
  go_wp2_with (first|(go_at_call 170;refine gm (k_iSenderOkN) ?_;intro x)|(refine stepLoad rfl _ (.tmp 6) rfl (qb) 0 rfl (row:=[.int .i64 (offerRes s d).Next,.int .i64 (offerRes s d).Window,.slice a9 (n+1) c9,.int .i64 (offerRes s d).Done]) (HH9.out.to ii) _ uu69 rfl kr rfl ?_)|(refine stepLoad rfl _ (.tmp 2) rfl (w.heap.size) 0 rfl (row:=[.int .i64 s.Next,.int .i64 s.Window,.slice a n c,.int .i64 s.Done]) (HB.out.to ii) _ uu69 rfl kr rfl ?_))
  refine(o_cloneSender (x:=s) (Enc.keep HM.out ii) HT.out).mono ?_
  rintro _ _ ⟨cs8,χ8,rfl,hO8,y8,rfl⟩
  have HLC:=lH (os_len (EncO.toRd hO8));have HOC:=lH (os_one (EncO.toRd hO8));have HO:=lH hO8;clear hO8
  go_wp2_with (first|(refine sW rfl _ _ _ rfl (w.heap.size+1) rfl (us:=cs8) (HR.out.to ii) HLC HOC (w0:=(w.alloc (.cells #[.int .i64 s.Next,.int .i64 s.Window,.slice a n c,.int .i64 s.Done] 69))) ii (by simp) ?_;intro z8 HX8 KX8))
  refine bodyPost_ret (v:=.tuple #[.agg cs8.toArray,.bool false]) (results_cell2 (P:=Tryz.prog) (u:=.bool false) rfl rfl HX8.out _ uu69 rfl (by rw[HLC.out];kernel_rfl) rfl) rfl ?_
  rw[HK.out]
  exact⟨cs8,χ8,rfl,obox_fin HO.out KX8.out LtN.out LeN.out,Later.of⟩
 ·have HK:=lH (show offerCmd s d=(offerRes s d,true)by rw[offerCmd,HC0.out,c1];rfl)
  go_wp2_with (first|(go_at_call 170;refine gm (k_iSenderOkN) ?_;intro x)|(refine stepLoad rfl _ (.tmp 6) rfl (qb) 0 rfl (row:=[.int .i64 (offerRes s d).Next,.int .i64 (offerRes s d).Window,.slice a9 (n+1) c9,.int .i64 (offerRes s d).Done]) (HH9.out.to ii) _ uu69 rfl kr rfl ?_)|(refine stepStore2 rfl _ _ _ rfl (w.heap.size+1) 0 rfl (us:=[.int .i64 (offerRes s d).Next,.int .i64 (offerRes s d).Window,.slice a9 (n+1) c9,.int .i64 (offerRes s d).Done]) (cs2:=[.int .i64 (offerRes s d).Next,.int .i64 (offerRes s d).Window,.slice a9 (n+1) c9,.int .i64 (offerRes s d).Done]) (HR.out.to ii) ?a71 ?a72 ?a73 ?a74 ?a75 (w0:=(w.alloc (.cells #[.int .i64 s.Next,.int .i64 s.Window,.slice a n c,.int .i64 s.Done] 69))) ii (by simp) ?_;(case a71=>rfl);(case a72=>(rw[HL9.out];kernel_rfl));(case a73=>exact H19.out);(case a74=>(rw[HL9.out];exact Nat.le_of_ble_eq_true rfl));(case a75=>exact splice_all HL9.out);intro z7 hx kx;have HX7:=lH hx;clear hx;have KX7:=lH kx;clear kx))
  refine bodyPost_ret (v:=.tuple #[.agg [.int .i64 (offerRes s d).Next,.int .i64 (offerRes s d).Window,.slice a9 (n+1) c9,.int .i64 (offerRes s d).Done].toArray,.bool true]) (results_cell2 (P:=Tryz.prog) (u:=.bool true) rfl rfl HX7.out _ uu69 rfl (by rw[HL9.out];kernel_rfl) rfl) rfl ?_
  rw[HK.out]
  exact⟨_,χ9,rfl,obox_fin (obox_to HO9.out ii) KX7.out LtN.out LeN.out,Later.of⟩
theorem o_sOfferCommand{B:Nat}{vs:List Value}{s:TSender}{d:ByteArray}{w:World}(h:Enc.Rd B w vs s)(hd:d.size≤9223372036854775807)(ht:Enc.tot s≤50000000) :
  Calls Tryz.prog 55 #[.agg vs.toArray,.string d] w (GivesOB w (offerCmd s d).1 (offerCmd s d).2):=by
 have HM:=lH h
 obtain⟨a,c,rfl,hs,hok⟩:=h
 have hm:s.Waiting.length≤50000000:=by have:=totL_len s.Waiting;rw[sender_tot]at ht;omega
 have HT:=lH (show Enc.tot s≤100000000 by omega)
 clear ht
 have HOKS:=lH hok
 obtain⟨n,hn⟩:∃ n,s.Waiting.length=n:=⟨_,rfl⟩
 rw[hn]at HM hm ⊢
 have HN:=lH hn
 have HB:=lH ((Held.new w [.int .i64 s.Next,.int .i64 s.Window,.slice a n c,.int .i64 s.Done] 69 w.heap.size rfl).to (ii:Grows _ ((w.alloc (.cells #[.int .i64 s.Next,.int .i64 s.Window,.slice a n c,.int .i64 s.Done] 69)).alloc (.cells #[.int .i64 0,.int .i64 0,.slice none 0 0,.int .i64 0] 69))))
 have HR:=lH (Held.new (w.alloc (.cells #[.int .i64 s.Next,.int .i64 s.Window,.slice a n c,.int .i64 s.Done] 69)) [.int .i64 0,.int .i64 0,.slice none 0 0,.int .i64 0] 69 (w.heap.size+1) (by simp))
 go_enter Tryz.func55,Tryz.ntmps55
 go_wp2_with (first|(refine stepLoad rfl _ (.tmp 2) rfl (w.heap.size) 0 rfl (row:=[.int .i64 s.Next,.int .i64 s.Window,.slice a n c,.int .i64 s.Done]) (HB.out.to ii) _ uu69 rfl kr rfl ?_))
 refine(o_copySender (x:=s) (Enc.keep HM.out ii) HT.out).mono ?_
 rintro _ _ ⟨cs,χ,rfl,hO,y1,rfl⟩
 have HLC:=lH (os_len (EncO.toRd hO));have HOC:=lH (os_one (EncO.toRd hO));have HO:=lH hO;clear hO
 go_upto_region 2 with(first|(refine sW rfl _ _ _ rfl _ rfl (us:=cs) (Held.new _ [.int .i64 0,.int .i64 0,.slice none 0 0,.int .i64 0] 69 _ rfl) HLC HOC (w0:=((w.alloc (.cells #[.int .i64 s.Next,.int .i64 s.Window,.slice a n c,.int .i64 s.Done] 69)).alloc (.cells #[.int .i64 0,.int .i64 0,.slice none 0 0,.int .i64 0] 69))) ii LeN.out ?_;intro z1 HX1 KX1))
 (try simp only[Act.put])
 obtain⟨qb,hqb⟩:∃ qb,y1.w.heap.size=qb:=⟨_,rfl⟩
 rw[hqb]
 have HG:=lH (show GB (fun _=>False) ((w.alloc (.cells #[.int .i64 s.Next,.int .i64 s.Window,.slice a n c,.int .i64 s.Done] 69)).alloc (.cells #[.int .i64 0,.int .i64 0,.slice none 0 0,.int .i64 0] 69)).heap.size qb z1.w s from hqb▸GB.of HO.out (KX1.out.under ii nl) y1.size_le HX1.out)
 have hqB:((w.alloc (.cells #[.int .i64 s.Next,.int .i64 s.Window,.slice a n c,.int .i64 s.Done] 69)).alloc (.cells #[.int .i64 0,.int .i64 0,.slice none 0 0,.int .i64 0] 69)).heap.size≤qb:=HG.out.le
 have hqlt:LtN qb z1.w.heap.size:=⟨HG.out.lt⟩
 clear hqb HX1 KX1 HO HLC HOC
 cases c0:senderOk s
 ·have HK:=lH (show offerCmd s d=(s,false)by rw[offerCmd,c0];rfl)
  obtain⟨vs8,hH8,hl8,h18,-,χ8,hO8⟩:=HG.out.vs
  have HH8:=lH hH8;have HO8:=lH hO8;have H18:=lH h18;have HL8:=lH (show vs8.length=4 from hl8)
  clear hO8 hH8 h18 hl8
  go_wp2_with (first|(refine stepLoad rfl _ (.tmp 2) rfl (w.heap.size) 0 rfl (row:=[.int .i64 s.Next,.int .i64 s.Window,.slice a n c,.int .i64 s.Done]) (HB.out.to ii) _ uu69 rfl kr rfl ?_)|(go_at_call 163;refine gm (k_sSenderOkN (sD:=s) hs HN.out (by omega) HOKS.out) ?_;intro y9;rw[c0])|(refine sL rfl _ (.tmp 6) rfl (qb) rfl HH8 ii uu69 HL8 ?_)|(refine sW rfl _ _ _ rfl (w.heap.size+1) rfl (us:=vs8) (HR.out.to ii) HL8 H18 (w0:=(w.alloc (.cells #[.int .i64 s.Next,.int .i64 s.Window,.slice a n c,.int .i64 s.Done] 69))) ii (by simp) ?_;intro z9 HX9 KX9))
  refine bodyPost_ret (v:=.tuple #[.agg vs8.toArray,.bool false]) (results_cell2 (P:=Tryz.prog) (u:=.bool false) rfl rfl HX9.out _ uu69 rfl (by rw[HL8.out];kernel_rfl) rfl) rfl ?_
  rw[HK.out]
  exact⟨vs8,χ8,rfl,obox_fin (obox_to HO8.out ii) KX9.out (by simp) LeN.out,Later.of⟩
 ·have hnx:=senderOk_next c0
  have HC0:=lH c0
  have e0:=HB.out.cellG 0 _ rfl
  obtain⟨sa,sc,ec,hown,-,-⟩:=HG.out.own fSenderWaiting
  have HEC:=lH (ec z1.w)
  have ec2:∀ (W:World) [Grows z1.w W],W.cell? ⟨qb,2,none⟩=some (.slice sa n sc):=fun W g=>HN.out▸ec W
  clear ec
  have hgood:okDTSent ⟨s.Next,d⟩:=⟨hok.1,hd,trivial⟩
  go_upto_region 5 with(first|(refine stepLoad rfl _ (.tmp 2) rfl (w.heap.size) 0 rfl (row:=[.int .i64 s.Next,.int .i64 s.Window,.slice a n c,.int .i64 s.Done]) (HB.out.to ii) _ uu69 rfl kr rfl ?_)|(go_at_call 163;refine gm (k_sSenderOkN (sD:=s) hs HN.out (by omega) HOKS.out) ?_;intro y9;rw[c0])|(at_builtin;refine wpList_app1F (enc:=encTSent) (w0:=((w.alloc (.cells #[.int .i64 s.Next,.int .i64 s.Window,.slice a n c,.int .i64 s.Done] 69)).alloc (.cells #[.int .i64 0,.int .i64 0,.slice none 0 0,.int .i64 0] 69))) (z:=.agg #[.int .i64 0,.string ⟨#[]⟩]) (size:=2) (bytes:=24) (⟨s.Next,d⟩:TSent) rfl (.tmp 14) (.tmp 19) rfl uu67 kr rfl (by decide) (by decide) rfl rfl HN.out (hown.to ii) bk rfl (encTSent_one _) (by omega) LeN.out ii nl ?_;intro sa2 sc2 xa2 hown1 hgr1 hblk1;have hp2:=(GBp.app (F:=fSenderWaiting) HG.out HEC.out ii hown1 hgr1 hblk1 hgood).1;clear hown1 hgr1 hblk1)|(refine step_gbN (app_len HN.out) rfl _ _ _ rfl hp2 rfl rfl kr ii nl ?_;intro z2 hz2))
  have hi256:i64 ((s.Next+1) % 256):=by unfold i64;omega
  go_upto_region 6 with(first|(refine step_gbC (o:=0) (us:=[.int .i64 ((s.Next+1) % 256)]) (offerRes s d) rfl _ (.tmp 26) (.tmp 25) rfl hz2 rfl rfl kr rfl nb (by intros;rename_i h;obtain⟨a0,c0,rfl,q⟩:=h;exact⟨a0,c0,rfl,q.o0,hi256,q.ok.2⟩) ii nl ?_;intro z3 hz3 hX3))
  (try simp only[Act.put])
  have HZ3:=lH hz3
  obtain⟨vs9,hH9,-,h19,-,χ9,hO9⟩:=hz3.vs
  have hO9':=hO9
  obtain⟨a9,c9,rfl,hO⟩:=hO9'
  have hs9:=hO.o0.rd;have hok9:=hO.ok
  have HH9:=lH hH9;have HO9:=lH hO9;have H19:=lH h19
  have hn9:(offerRes s d).Waiting.length=n+1:=app_len HN.out
  rw[hn9]at HH9 HO9 H19
  have HL9:=lH (os_len (EncO.toRd HO9.out))
  clear hz3 hO9 hH9 h19 hO hs e0 ec2 hown HEC HG
  cases c1:senderOk (offerRes s d)
  ·have HK:=lH (show offerCmd s d=(s,false)by rw[offerCmd,HC0.out,c1];rfl)
   go_wp2_with (first|(go_at_call 163;refine gm (k_sSenderOkN) ?_;intro x)|(refine stepLoad rfl _ (.tmp 6) rfl (qb) 0 rfl (row:=[.int .i64 (offerRes s d).Next,.int .i64 (offerRes s d).Window,.slice a9 (n+1) c9,.int .i64 (offerRes s d).Done]) (HH9.out.to ii) _ uu69 rfl kr rfl ?_)|(refine stepLoad rfl _ (.tmp 2) rfl (w.heap.size) 0 rfl (row:=[.int .i64 s.Next,.int .i64 s.Window,.slice a n c,.int .i64 s.Done]) (HB.out.to ii) _ uu69 rfl kr rfl ?_))
   refine(o_copySender (x:=s) (Enc.keep HM.out ii) HT.out).mono ?_
   rintro _ _ ⟨cs8,χ8,rfl,hO8,y8,rfl⟩
   have HLC:=lH (os_len (EncO.toRd hO8));have HOC:=lH (os_one (EncO.toRd hO8));have HO:=lH hO8;clear hO8
   go_wp2_with (first|(refine sW rfl _ _ _ rfl (w.heap.size+1) rfl (us:=cs8) (HR.out.to ii) HLC HOC (w0:=(w.alloc (.cells #[.int .i64 s.Next,.int .i64 s.Window,.slice a n c,.int .i64 s.Done] 69))) ii (by simp) ?_;intro z8 HX8 KX8))
   refine bodyPost_ret (v:=.tuple #[.agg cs8.toArray,.bool false]) (results_cell2 (P:=Tryz.prog) (u:=.bool false) rfl rfl HX8.out _ uu69 rfl (by rw[HLC.out];kernel_rfl) rfl) rfl ?_
   rw[HK.out]
   exact⟨cs8,χ8,rfl,obox_fin HO.out KX8.out LtN.out LeN.out,Later.of⟩
  ·have HK:=lH (show offerCmd s d=(offerRes s d,true)by rw[offerCmd,HC0.out,c1];rfl)
   go_wp2_with (first|(go_at_call 163;refine gm (k_sSenderOkN) ?_;intro x)|(refine stepLoad rfl _ (.tmp 6) rfl (qb) 0 rfl (row:=[.int .i64 (offerRes s d).Next,.int .i64 (offerRes s d).Window,.slice a9 (n+1) c9,.int .i64 (offerRes s d).Done]) (HH9.out.to ii) _ uu69 rfl kr rfl ?_)|(refine stepStore2 rfl _ _ _ rfl (w.heap.size+1) 0 rfl (us:=[.int .i64 (offerRes s d).Next,.int .i64 (offerRes s d).Window,.slice a9 (n+1) c9,.int .i64 (offerRes s d).Done]) (cs2:=[.int .i64 (offerRes s d).Next,.int .i64 (offerRes s d).Window,.slice a9 (n+1) c9,.int .i64 (offerRes s d).Done]) (HR.out.to ii) ?a71 ?a72 ?a73 ?a74 ?a75 (w0:=(w.alloc (.cells #[.int .i64 s.Next,.int .i64 s.Window,.slice a n c,.int .i64 s.Done] 69))) ii (by simp) ?_;(case a71=>rfl);(case a72=>(rw[HL9.out];kernel_rfl));(case a73=>exact H19.out);(case a74=>(rw[HL9.out];exact Nat.le_of_ble_eq_true rfl));(case a75=>exact splice_all HL9.out);intro z7 hx kx;have HX7:=lH hx;clear hx;have KX7:=lH kx;clear kx))
   refine bodyPost_ret (v:=.tuple #[.agg [.int .i64 (offerRes s d).Next,.int .i64 (offerRes s d).Window,.slice a9 (n+1) c9,.int .i64 (offerRes s d).Done].toArray,.bool true]) (results_cell2 (P:=Tryz.prog) (u:=.bool true) rfl rfl HX7.out _ uu69 rfl (by rw[HL9.out];kernel_rfl) rfl) rfl ?_
   rw[HK.out]
   exact⟨_,χ9,rfl,obox_fin (obox_to HO9.out ii) KX7.out (by simp) LeN.out,Later.of⟩
section
variable {P:Program} {ops:Array Oper} {b:Act} {w:World} {i:Nat}
end
theorem Sl.from2{α:Type}{enc:α→List Value}{w:World}{bb o c j size:Nat}{l:List α}(h:Sl enc w (some ⟨bb,o,none⟩) l)(hc:l.length≤c)(hs:∀ y,(enc y).length=size):Sl enc w (some ⟨bb,if c=j then o else o+j*size,none⟩) (l.drop j):=fun i x hx=>by
 rw[List.getElem?_drop]at hx
 have hl:=(List.getElem?_eq_some_iff.1 hx).1
 obtain⟨b,off,h1,h2,h3⟩:=h (j+i) x hx
 cases h1
 refine⟨bb,o+j*size,by rw[if_neg (by omega)],h2,fun q v hv=>?_⟩
 have:=h3 q v hv
 rw[hs,Nat.add_mul]at this
 rw[hs,show o+j*size+i*size+q=o+(j*size+i*size)+q by omega];exact this
section
variable {P:Program} {ops:Array Oper} {C:World→Prop} {Q:Act→Prop} {o:Oper} {rest:List Oper} {a:Act}
end
