/- A mission's marks, and what is held. No condition but on sizes. -/
import Derived.Test.YthbepablpaldgaaGreatSM35
import Derived.Test.YthbepablpaldgaaGreatSMk6
import Derived.Test.YthbepablpaldgaaGreatSPut
import Derived.Test.YthbepablpaldgaaGreatSM32
import Derived.Test.YthbepablpaldgaaGreatSM16
import Derived.Test.YthbepablpaldgaaGreatSFileO
import Derived.Test.YthbepablpaldgaaGreatSM20
import Derived.Test.YthbepablpaldgaaGreatSM28
import Derived.Test.YthbepablpaldgaaGreatSM26
import Derived.Test.YthbepablpaldgaaGreatSStab3
import Derived.Test.YthbepablpaldgaaGreatSM4
namespace Go.Proofs.YthbepablpaldgaaGreat
set_option linter.unusedVariables false
open Go.ChangeShapes Go.WideShapes Go.ChangeAt Go.RowKit
theorem cellsM_mk(m:TMission)(k:Int)(A:TMissionA):([.int .i64 (mkMMission m k).Time,.int .i64 (mkMMission m k).Light,.int .i64 (mkMMission m k).Drift.Rate,.int .i64 (mkMMission m k).Drift.Offset,.int .i64 (mkMMission m k).Orbit.Period,.int .i64 (mkMMission m k).Orbit.Start,.int .i64 (mkMMission m k).Orbit.Length,.slice A.a0 (mkMMission m k).Plan.length A.c0,.int .i64 (mkMMission m k).Up.Seed,.int .i64 (mkMMission m k).Up.Burst,.int .i64 (mkMMission m k).Up.Loss,.int .i64 (mkMMission m k).Down.Seed,.int .i64 (mkMMission m k).Down.Burst,.int .i64 (mkMMission m k).Down.Loss,.slice A.a1 (mkMMission m k).Ups.length A.c1,.slice A.a2 (mkMMission m k).Downs.length A.c2,.slice A.a3 (mkMMission m k).Ground.Offers.length A.c3,.int .i64 (mkMMission m k).Ground.Sender.Next,.int .i64 (mkMMission m k).Ground.Sender.Window,.slice A.a4 (mkMMission m k).Ground.Sender.Waiting.length A.c4,.int .i64 (mkMMission m k).Ground.Sender.Done,.int .i64 (mkMMission m k).Ground.Notice.Expect,.bool (mkMMission m k).Ground.Notice.Locked,.bool (mkMMission m k).Ground.Notice.Again,.int .i64 (mkMMission m k).Ground.Unpacker.Channel,.int .i64 (mkMMission m k).Ground.Unpacker.Next,.bool (mkMMission m k).Ground.Unpacker.Synced,.string (mkMMission m k).Ground.Unpacker.Rest,.int .i64 (mkMMission m k).Ground.Unpacker.Lost,.slice A.a5 (mkMMission m k).Ground.Pairs.length A.c5,.slice A.a6 (mkMMission m k).Ground.Records.length A.c6,.slice A.a7 (mkMMission m k).Ground.Files.length A.c7,.slice A.a8 (mkMMission m k).Ground.Told.length A.c8,.int .i64 (mkMMission m k).Space.Receiver.Expect,.bool (mkMMission m k).Space.Receiver.Locked,.bool (mkMMission m k).Space.Receiver.Again,.int .i64 (mkMMission m k).Space.Receiver.Taken,.int .i64 (mkMMission m k).Space.Board.Clock,.slice A.a9 (mkMMission m k).Space.Board.Params.length A.c9,.bool (mkMMission m k).Space.Board.Safe,.slice A.a10 (mkMMission m k).Space.Board.Limits.length A.c10,.slice A.a11 (mkMMission m k).Space.Board.Orders.length A.c11,.slice A.a12 (mkMMission m k).Space.Board.Done.length A.c12,.int .i64 (mkMMission m k).Space.Board.Recorder.Room,.slice A.a13 (mkMMission m k).Space.Board.Recorder.Records.length A.c13,.slice A.a14 (mkMMission m k).Space.Board.Recorder.Dropped.length A.c14,.int .i64 (mkMMission m k).Space.Board.Made,.int .i64 (mkMMission m k).Space.Board.Taken,.slice A.a15 (mkMMission m k).Space.Board.Asked.length A.c15,.int .i64 (mkMMission m k).Space.Packer.Channel,.int .i64 (mkMMission m k).Space.Packer.Count,.string (mkMMission m k).Space.Packer.Rest,.slice A.a16 (mkMMission m k).Space.Packer.Starts.length A.c16,.int .i64 (mkMMission m k).Space.Seq,.slice A.a17 (mkMMission m k).Space.Files.length A.c17,.slice A.a18 (mkMMission m k).Space.Outs.length A.c18,.int .i64 (mkMMission m k).Space.Begun,.slice A.a19 (mkMMission m k).Space.Sent.length A.c19,.slice A.a20 (mkMMission m k).Offered.length A.c20,.slice A.a21 (mkMMission m k).Took.length A.c21,.int .i64 (mkMMission m k).Bad]:List Value)=[.int .i64 m.Time,.int .i64 m.Light,.int .i64 m.Drift.Rate,.int .i64 m.Drift.Offset,.int .i64 m.Orbit.Period,.int .i64 m.Orbit.Start,.int .i64 m.Orbit.Length,.slice A.a0 m.Plan.length A.c0,.int .i64 m.Up.Seed,.int .i64 m.Up.Burst,.int .i64 m.Up.Loss,.int .i64 m.Down.Seed,.int .i64 m.Down.Burst,.int .i64 m.Down.Loss,.slice A.a1 m.Ups.length A.c1,.slice A.a2 m.Downs.length A.c2,.slice A.a3 m.Ground.Offers.length A.c3,.int .i64 m.Ground.Sender.Next,.int .i64 m.Ground.Sender.Window,.slice A.a4 m.Ground.Sender.Waiting.length A.c4,.int .i64 m.Ground.Sender.Done,.int .i64 m.Ground.Notice.Expect,.bool m.Ground.Notice.Locked,.bool m.Ground.Notice.Again,.int .i64 m.Ground.Unpacker.Channel,.int .i64 m.Ground.Unpacker.Next,.bool m.Ground.Unpacker.Synced,.string m.Ground.Unpacker.Rest,.int .i64 m.Ground.Unpacker.Lost,.slice A.a5 m.Ground.Pairs.length A.c5,.slice A.a6 m.Ground.Records.length A.c6,.slice A.a7 m.Ground.Files.length A.c7,.slice A.a8 m.Ground.Told.length A.c8,.int .i64 m.Space.Receiver.Expect,.bool m.Space.Receiver.Locked,.bool m.Space.Receiver.Again,.int .i64 m.Space.Receiver.Taken,.int .i64 m.Space.Board.Clock,.slice A.a9 m.Space.Board.Params.length A.c9,.bool m.Space.Board.Safe,.slice A.a10 m.Space.Board.Limits.length A.c10,.slice A.a11 m.Space.Board.Orders.length A.c11,.slice A.a12 m.Space.Board.Done.length A.c12,.int .i64 m.Space.Board.Recorder.Room,.slice A.a13 m.Space.Board.Recorder.Records.length A.c13,.slice A.a14 m.Space.Board.Recorder.Dropped.length A.c14,.int .i64 m.Space.Board.Made,.int .i64 m.Space.Board.Taken,.slice A.a15 m.Space.Board.Asked.length A.c15,.int .i64 m.Space.Packer.Channel,.int .i64 m.Space.Packer.Count,.string m.Space.Packer.Rest,.slice A.a16 m.Space.Packer.Starts.length A.c16,.int .i64 m.Space.Seq,.slice A.a17 m.Space.Files.length A.c17,.slice A.a18 m.Space.Outs.length A.c18,.int .i64 m.Space.Begun,.slice A.a19 m.Space.Sent.length A.c19,.slice A.a20 m.Offered.length A.c20,.slice A.a21 m.Took.length A.c21,.int .i64 m.Bad]:=by
 have e0:(mkMMission m k).Plan.length=m.Plan.length:=mkL_length _ _
 have e1:(mkMMission m k).Ups.length=m.Ups.length:=mkL_length _ _
 have e2:(mkMMission m k).Downs.length=m.Downs.length:=mkL_length _ _
 have e3:(mkMMission m k).Ground.Offers.length=m.Ground.Offers.length:=mkL_length _ _
 have e4:(mkMMission m k).Ground.Sender.Waiting.length=m.Ground.Sender.Waiting.length:=mkL_length _ _
 have e5:(mkMMission m k).Ground.Pairs.length=m.Ground.Pairs.length:=mkL_length _ _
 have e6:(mkMMission m k).Ground.Records.length=m.Ground.Records.length:=mkL_length _ _
 have e7:(mkMMission m k).Ground.Files.length=m.Ground.Files.length:=mkN_length _ _ _ _
 have e8:(mkMMission m k).Ground.Told.length=m.Ground.Told.length:=mkL_length _ _
 have e9:(mkMMission m k).Space.Board.Params.length=m.Space.Board.Params.length:=mkL_length _ _
 have e10:(mkMMission m k).Space.Board.Limits.length=m.Space.Board.Limits.length:=mkL_length _ _
 have e11:(mkMMission m k).Space.Board.Orders.length=m.Space.Board.Orders.length:=mkL_length _ _
 have e12:(mkMMission m k).Space.Board.Done.length=m.Space.Board.Done.length:=mkL_length _ _
 have e13:(mkMMission m k).Space.Board.Recorder.Records.length=m.Space.Board.Recorder.Records.length:=mkL_length _ _
 have e14:(mkMMission m k).Space.Board.Recorder.Dropped.length=m.Space.Board.Recorder.Dropped.length:=mkL_length _ _
 have e15:(mkMMission m k).Space.Board.Asked.length=m.Space.Board.Asked.length:=mkL_length _ _
 have e16:(mkMMission m k).Space.Packer.Starts.length=m.Space.Packer.Starts.length:=mkL_length _ _
 have e17:(mkMMission m k).Space.Files.length=m.Space.Files.length:=mkL_length _ _
 have e18:(mkMMission m k).Space.Outs.length=m.Space.Outs.length:=mkN_length _ _ _ _
 have e19:(mkMMission m k).Space.Sent.length=m.Space.Sent.length:=mkL_length _ _
 have e20:(mkMMission m k).Offered.length=m.Offered.length:=mkL_length _ _
 have e21:(mkMMission m k).Took.length=m.Took.length:=mkL_length _ _
 rw[e0,e1,e2,e3,e4,e5,e6,e7,e8,e9,e10,e11,e12,e13,e14,e15,e16,e17,e18,e19,e20,e21]
 rfl
theorem o_markM{B:Nat}{χ:Nat→Col}{w:World}{vs:List Value}{m:TMission}{k:Int}(h:EncO.O B χ 0 w vs m)(hf:Fresh χ w)(hB:B≤w.heap.size)(ht:Enc.tot m≤100000000)(h1:0≤k)(h2:k≤100000000000) :
  Calls Tryz.prog 10 #[.agg vs.toArray,.int .i64 k] w (Mkd (mnMMission m k) (fun w2=>EncO.O B χ 0 w2 vs (mkMMission m k)) (Fr B χ (Rng 0 22) w)):=by
 obtain⟨A,rfl,F⟩:=h
 refine(o_lmarkMission F hf hB (by omega) ht h1 h2).mono fun e w2 hq=>?_
 obtain⟨he,ho,hr⟩:=hq
 exact⟨he,⟨A,(cellsM_mk m k A).symm,ho⟩,by simpa using hr⟩
theorem o_heldM{B:Nat}{w:World}{vs:List Value}{m:TMission}{k:Int}(h:Enc.Rd B w vs (mkMMission m k))(ht:Enc.tot m≤100000000)(h1:0≤k)(h2:k≤100000000000) :
  Calls Tryz.prog 11 #[.agg vs.toArray,.int .i64 k] w (Gives w (.int .i64 (mnMMission m k))):=by
 obtain⟨A,rfl,F⟩:=h
 rw[cellsM_mk m k A]
 exact o_lheldMission F ht h1 h2
theorem dl_toMission{B:Nat}{vs:List Value}{x:TMission}{w:World}(h:Enc.Rd B w vs x)(ht:Enc.tot x≤1048576) :
  Calls Tryz.prog 7 #[.agg vs.toArray] w (GivesD w x):=(o_ltoMission h ht).mono fun _ _ g=>GivesO.d g
theorem om_old{B U o:Nat}{χ:Nat→Col}{w:World}{vs:List Value}{m:TMission}(h:EncO.O B χ o w vs m)(g:w.heap.size≤U):EncO.O B (paint U χ (fun _=>(0,0)) (fun _=>(1000,0))) o w vs m:=by
 obtain⟨A,h0,h1⟩:=h
 exact⟨A,h0,h1.old g⟩
theorem Held.past{u W z:World}{b c:Nat}{cs:List Value}{T:TypeId}(h:Held u c cs T)(g:Keeps 0 u W)(k:But b W z)(hb:u.heap.size≤b):Held z c cs T:=by
 have hl:=h.lt
 unfold Held
 rw[k.block c (by omega) (Nat.lt_of_lt_of_le hl g.size),g.block c (Nat.zero_le _) hl];exact h
theorem growsOf{W:World}(x y:Later W)(h:Keeps 0 x.w y.w):Grows x.w y.w :=
 ⟨⟨y.h.os.trans x.h.os.symm,y.h.tape.trans x.h.tape.symm,y.h.output.trans x.h.output.symm,h.size,fun b hb=>h.block b (Nat.zero_le _) hb⟩⟩
theorem growsTr{a b c:World}(h:Grows a b)(k:Grows b c):Grows a c:=⟨h.out.trans (k.out.mono h.out.size)⟩
theorem stepLoadG{P:Program}{ops:Array Oper}{rest:List Oper}{op:Oper}{a:Act}{w:World}{Q:Exit→Act→World→Prop}(hw:Region.wanted op (yielded ops a.tmps)=true)(ty:TypeId)(x:Operand)(ho:op.op=.load ty x)(b o:Nat)(hx:a.eval x=.pointer (some ⟨b,o,none⟩)){cs row:List Value}{T:TypeId}(H:Held w b cs T)
  (d:TypeDesc) (hu:P.underlying ty=some d) (hd:d.isRow=true) (hi:(P.info? ty).map (·.size)=some row.length) (hr:(cs.drop o).take row.length=row)
  (h:wpList P ops Q rest (a.put op.dst (.agg row.toArray)) w):wpList P ops Q (op::rest) a w :=
 wpList_step fun K hK=>st_loadH hw ty x ho b o hx H d hu hd hi hr (hK _ _ h)
theorem Later.ofG{W w:World}(h:Grows W w):∃ x:Later W,w=x.w:=⟨⟨w,h.out⟩,rfl⟩
def wordN(m n:Int):ByteArray:=if m=1 then word1 n else if m=2 then word2 n else word3 n
@[go_sem] theorem word3_size(n:Int):(word3 n).size=3:=rfl
@[go_sem] theorem wordN_one(n:Int):wordN 1 n=word1 n:=rfl
@[go_sem] theorem wordN_two(n:Int):wordN 2 n=word2 n:=rfl
@[go_sem] theorem wordN_three(n:Int):wordN 3 n=word3 n:=rfl
def GivesOB{α:Type}[E:EncO α](w:World)(x:α)(b:Bool):Ending→World→Prop:=fun e w'=>∃ (vs:List Value) (χ:Nat→Col),e=.returned (.tuple #[.agg vs.toArray,.bool b])∧E.O w.heap.size χ 0 w' vs x∧∃ y:Later w,w'=y.w
theorem OwnC.app{α:Type}[E:Flat α]{B:Nat}{χ:Nat→Col}{i:Col}{w w2:World}{a a2:Option Addr}{c c2:Nat}{l:List α}{y:α}(h:OwnC B χ i w a c l)(ho:Own E.enc E.ty E.size B w2 a2 c2 (l++[y]))(hb:blkOf a2=blkOf a∨blkOf a2=some w.heap.size)(hg:E.good y) :
  OwnC B (paint w.heap.size χ (fun _=>i) id) i w2 a2 c2 (l++[y]):=by
 refine⟨ho,fun k hk=>?_,fun x hx=>?_⟩
 ·rcases hb with hb|hb
  ·rw[hb]at hk
   have:=(h.own.blk k hk).2
   rw[paint,if_pos this];exact h.col k hk
  ·rw[hb]at hk
   cases hk
   rw[paint,if_neg (by omega)];rfl
 ·rcases List.mem_append.1 hx with hx|hx
  ·exact h.good x hx
  ·obtain rfl:=List.mem_singleton.1 hx;exact hg
section
variable {P:Program} {ops:Array Oper} {op:Oper} {a:Act} {w:World} {Q:Exit→Act→World→Prop} {S:World→Prop} {md:Region.Mode} {fuel:Nat} {listed:Array Bool} {i:Nat}
end
theorem allB_drop{lo hi y:Int}{l r:List Int}{k:Nat}(h:allB lo hi l=true)(hd:l.drop k=y::r):inB y lo hi=true:=by
 have hm:y∈l:=List.mem_of_mem_drop (by rw[hd];exact List.mem_cons_self ..)
 clear hd
 induction l with
 | nil=>cases hm
 | cons x r ih =>
  rw[allB,Bool.and_eq_true]at h
  rcases List.mem_cons.1 hm with rfl|hm
  ·exact h.1
  ·exact ih h.2 hm
def recSize(x:TRecord):Int:=6+x.Data.size
theorem used_erase:∀ (l:List TRecord) (k:Nat) (s:TRecord),l[k]?=some s→used (l.eraseIdx k)=used l - recSize s
 | [],k,s,h=>by simp at h
 | x::r,0,s,h=>by
  simp only[List.getElem?_cons_zero,Option.some.injEq]at h
  subst h
  show used r=used (x::r) - recSize x
  simp only[used,recSize];omega
 | x::r,k+1,s,h=>by
  have ih:=used_erase r k s (by simpa using h)
  show used (x::r.eraseIdx k)=used (x::r) - recSize s
  simp only[used,ih];omega
theorem used_nonneg:∀ l:List TRecord,0≤used l
 | []=>Int.le_refl _
 | x::r=>by have:=used_nonneg r;simp only[used];omega
theorem used_snoc(x:TRecord):∀ l:List TRecord,used (l++[x])=used l+recSize x
 | []=>by simp[used,recSize]
 | y::r=>by
  have ih:=used_snoc x r
  show used (y::(r++[x]))=_
  simp only[used,ih];omega
def lesser(p:Int):List TRecord→Int
 | []=>0
 | s::r=>(if s.Priority<p then recSize s else 0)+lesser p r
theorem lesser_erase{p:Int}:∀ (l:List TRecord) (k:Nat) (s:TRecord),l[k]?=some s→s.Priority<p→lesser p (l.eraseIdx k)=lesser p l - recSize s
 | [],k,s,h,_=>by simp at h
 | x::r,0,s,h,hp=>by
  simp only[List.getElem?_cons_zero,Option.some.injEq]at h
  subst h
  show lesser p r=lesser p (x::r) - recSize x
  simp only[lesser,if_pos hp];omega
 | x::r,k+1,s,h,hp=>by
  have ih:=lesser_erase r k s (by simpa using h) hp
  show lesser p (x::r.eraseIdx k)=lesser p (x::r) - recSize s
  simp only[lesser,ih];omega
theorem lesser_le{p:Int}:∀ l:List TRecord,0≤lesser p l∧lesser p l≤used l
 | []=>⟨Int.le_refl _,Int.le_refl _⟩
 | x::r=>by
  have:=lesser_le (p:=p) r
  simp only[lesser,used,recSize]
  split<;>omega
def pr(l:List TRecord)(j:Nat):Int:=match l[j]? with|some y=>y.Priority|none=>0
theorem pr_at{l r:List TRecord}{x:TRecord}{k:Nat}(h:l.drop k=x::r):pr l k=x.Priority:=by
 have:l[k]?=some x:=by
  have:=congrArg (fun m=>m[0]?) h
  simpa using this
 rw[pr,this]
theorem lesser_none{p:Int}:∀ l:List TRecord,(∀ j,j<l.length→p≤pr l j)→lesser p l=0
 | [],_=>rfl
 | x::r,h=>by
  have h0:p≤x.Priority:=h 0 (by simp)
  have ih:=lesser_none r (fun j hj=>h (j+1) (by simpa using hj))
  simp only[lesser,ih,if_neg (show ¬ x.Priority<p by omega)];rfl
structure First(l:List TRecord)(k b:Nat):Prop where
 lt:b<k
 lo:∀ j,j<b→pr l b<pr l j
 hi:∀ j,b≤j→j<k→pr l b≤pr l j
theorem First.uniq{l:List TRecord}{k b c:Nat}(h:First l k b)(g:First l k c):b=c:=by
 rcases Nat.lt_trichotomy b c with e|e|e
 ·have h1:=g.lo b e;have h2:=h.hi c (Nat.le_of_lt e) g.lt;omega
 ·exact e
 ·have h1:=h.lo c e;have h2:=g.hi b (Nat.le_of_lt e) h.lt;omega
def leastTo(p:Int)(l:List TRecord):Nat→Int
 | 0=>-1
 | k+1=>if pr l k<p∧(leastTo p l k<0∨pr l k<pr l (leastTo p l k).toNat)then(k:Int)else leastTo p l k
def minTo(l:List TRecord):Nat→Nat
 | 0=>0
 | k+1=>if pr l k<pr l (minTo l k)then k else minTo l k
theorem leastTo_is(p:Int)(l:List TRecord):∀ k,(leastTo p l k=-1∧∀ j,j<k→p≤pr l j)∨∃ b:Nat,leastTo p l k=(b:Int)∧First l k b∧pr l b<p
 | 0=>.inl ⟨rfl,fun j hj=>by omega⟩
 | k+1=>by
  rw[leastTo]
  rcases leastTo_is p l k with⟨h1,h2⟩|⟨b,h1,h2,h3⟩
  ·rw[h1]
   by_cases hk:pr l k<p
   ·rw[if_pos ⟨hk,.inl (by omega)⟩]
    exact .inr ⟨k,rfl,⟨by omega,fun j hj=>by have:=h2 j hj;omega,fun j h4 h5=>(show j=k by omega)▸Int.le_refl _⟩,hk⟩
   ·rw[if_neg (fun e=>hk e.1)]
    refine .inl ⟨rfl,fun j hj=>?_⟩
    by_cases hj':j=k
    ·subst hj';omega
    ·exact h2 j (by omega)
  ·rw[h1,Int.toNat_natCast]
   by_cases hk:pr l k<p∧((b:Int)<0∨pr l k<pr l b)
   ·rw[if_pos hk]
    have hkb:pr l k<pr l b:=by rcases hk.2 with e|e<;>omega
    refine .inr ⟨k,rfl,⟨by omega,fun j hj=>?_,fun j h4 h5=>(show j=k by omega)▸Int.le_refl _⟩,hk.1⟩
    by_cases hjb:j<b
    ·have:=h2.lo j hjb;omega
    ·have:=h2.hi j (by omega) hj;omega
   ·rw[if_neg hk]
    refine .inr ⟨b,rfl,⟨by have:=h2.lt;omega,h2.lo,fun j h4 h5=>?_⟩,h3⟩
    by_cases hj':j=k
    ·subst hj'
     by_cases hp:pr l j<p
     ·have:¬ pr l j<pr l b:=fun e=>hk ⟨hp,.inr e⟩
      omega
     ·omega
    ·exact h2.hi j h4 (by omega)
theorem minTo_is(l:List TRecord):∀ k,First l (k+1) (minTo l (k+1))
 | 0=>by
  rw[minTo,minTo,if_neg (Int.lt_irrefl _)]
  exact⟨by omega,fun j hj=>by omega,fun j h1 h2=>(show j=0 by omega)▸Int.le_refl _⟩
 | k+1=>by
  have ih:=minTo_is l k
  rw[minTo]
  generalize minTo l (k+1)=b at ih ⊢
  split
  ·rename_i h
   refine⟨by omega,fun j hj=>?_,fun j h1 h2=>(show j=k+1 by omega)▸Int.le_refl _⟩
   by_cases hjb:j<b
   ·have:=ih.lo j hjb;omega
   ·have:=ih.hi j (by omega) hj;omega
  ·rename_i h
   refine⟨by have:=ih.lt;omega,ih.lo,fun j h1 h2=>?_⟩
   by_cases hj':j=k+1
   ·subst hj';omega
   ·exact ih.hi j h1 (by omega)
def leastBelow(p:Int)(l:List TRecord):Int:=leastTo p l l.length
theorem leastBelow_is(p:Int)(l:List TRecord):(leastBelow p l=-1∧∀ j,j<l.length→p≤pr l j)∨∃ b:Nat,leastBelow p l=(b:Int)∧First l l.length b∧pr l b<p:=leastTo_is p l _
theorem minTo_least{p:Int}{l:List TRecord}(h:¬ leastBelow p l<0):leastBelow p l=(minTo l l.length:Int)∧minTo l l.length<l.length:=by
 rcases leastBelow_is p l with⟨h1,-⟩|⟨b,h1,h2,-⟩
 ·omega
 ·have h0:0<l.length:=by have:=h2.lt;omega
  have h3:=minTo_is l (l.length - 1)
  rw[show l.length - 1+1=l.length by omega]at h3
  obtain rfl:=h2.uniq h3
  exact⟨h1,h2.lt⟩
def keepGo(room need p:Int):Nat→List TRecord→List Int→Option (List TRecord × List Int)
 | 0,l,d=>if used l+need≤room then some (l,d)else none
 | n+1,l,d=>if used l+need≤room then some (l,d)else if leastBelow p l<0 then none else
  match l[(leastBelow p l).toNat]? with
  | some y=>keepGo room need p n (l.eraseIdx (leastBelow p l).toNat) (d++[y.Id])
  | none=>none
theorem keepGo_none{room need p:Int}:∀ (n:Nat) (l:List TRecord) (d:List Int),l.length≤n→(keepGo room need p n l d=none↔room - used l+lesser p l<need)
 | 0,l,d,hn=>by
  obtain rfl:l=[]:=List.length_eq_zero_iff.1 (by omega)
  have hu:used []=0:=rfl
  have hl:lesser p []=0:=rfl
  rw[keepGo,hl]
  by_cases h:used []+need≤room
  ·rw[if_pos h];simp;omega
  ·rw[if_neg h];simp;omega
 | n+1,l,d,hn=>by
  rw[keepGo]
  have h0:=lesser_le (p:=p) l
  split
  ·simp;omega
  ·rename_i h1
   split
   ·rename_i h2
    rcases leastBelow_is p l with⟨-,h3⟩|⟨b,h3,-⟩
    ·rw[lesser_none l h3];simp;omega
    ·omega
   ·rename_i h2
    rcases leastBelow_is p l with⟨h3,-⟩|⟨b,h3,h4,h5⟩
    ·omega
    ·rw[h3,Int.toNat_natCast]
     obtain⟨y,hy⟩:∃ y,l[b]?=some y:=⟨l[b]'h4.lt,List.getElem?_eq_getElem h4.lt⟩
     have hp:y.Priority<p:=by rw[pr,hy]at h5;exact h5
     rw[hy]
     simp only
     rw[keepGo_none n _ _ (by rw[List.length_eraseIdx,if_pos h4.lt];omega),used_erase l b y hy,lesser_erase l b y hy hp]
     omega
def keepNow(r:TRecorder)(x:TRecord):Bool:=recorderOk r && (recordOk x && (match r.Records.getLast? with|some y=>decide (y.Id<x.Id)|none=>true))
def keepRes(r:TRecorder)(x:TRecord):TRecorder :=
 match keepGo r.Room (recSize x) x.Priority r.Records.length r.Records r.Dropped with
 | some (l,d)=>{ r with Records:=l++[x],Dropped:=d }
 | none=>{ r with Dropped:=r.Dropped++[x.Id] }
def keepRecord(r:TRecorder)(x:TRecord):TRecorder:=if keepNow r x=true then(if recorderOk (keepRes r x)=true then keepRes r x else r)else r
theorem keepGo_len{room need p:Int}:∀ (n:Nat) (l:List TRecord) (d:List Int) (l':List TRecord) (d':List Int),keepGo room need p n l d=some (l',d')→l'.length+d'.length=l.length+d.length∧l'.Sublist l
 | 0,l,d,l',d',h=>by
  rw[keepGo]at h
  split at h
  ·simp only[Option.some.injEq,Prod.mk.injEq]at h;obtain⟨rfl,rfl⟩:=h;exact⟨rfl,List.Sublist.refl _⟩
  ·cases h
 | n+1,l,d,l',d',h=>by
  rw[keepGo]at h
  split at h
  ·simp only[Option.some.injEq,Prod.mk.injEq]at h;obtain⟨rfl,rfl⟩:=h;exact⟨rfl,List.Sublist.refl _⟩
  ·split at h
   ·cases h
   ·split at h
    ·rename_i y hy
     have hlt:=(List.getElem?_eq_some_iff.1 hy).1
     obtain⟨h1,h2⟩:=keepGo_len n _ _ l' d' h
     rw[List.length_eraseIdx,if_pos hlt,List.length_append,List.length_singleton]at h1
     exact⟨by omega,h2.trans (List.eraseIdx_sublist _ _)⟩
    ·cases h
/-! ### Orders -/
def setParam(b:TBoard)(p v:Int):TBoard:={ b with Params:=b.Params.set p.toNat v,Safe:=b.Safe || b.Limits.any (fun l=>(l.Param == p) && (decide (v<l.Low) || decide (l.High<v))) }
def paramText(l:List Int):ByteArray:=l.foldl (fun s k=>s++word2 k) ⟨#[]⟩
theorem paramText_snoc(l:List Int)(k:Int):paramText (l++[k])=paramText l++word2 k:=by simp[paramText,List.foldl_append]
def makeRec(b:TBoard)(p:Int):TBoard:={ b with Recorder:=keepRecord b.Recorder ⟨b.Made,p,b.Clock,paramText b.Params⟩,Made:=b.Made+1 }
def doOrder(b:TBoard)(x:TOrder):TBoard × Int :=
 if x.Kind=0 then(setParam b x.A x.B,1)
 else if x.Kind=1 then(if b.Safe=true then(b,0)else(makeRec b x.A,1))
 else if x.Kind=2 then({ b with Safe:=(x.A == 1) },1)
 else if x.Kind=3 then(if b.Safe=true then(b,0)else({ b with Asked:=b.Asked++[x.A] },1))
 else if firstAt x.A 0 b.Orders<0 then(b,0)else({ b with Orders:=b.Orders.eraseIdx (firstAt x.A 0 b.Orders).toNat,Done:=b.Done++[⟨x.A,b.Clock,0⟩] },1)
def performNow(b:TBoard)(w:TWaiting):Bool:=boardOk b && (orderOk w.Order && (inB w.Number 0 (b.Taken - 1) && decide (firstAt w.Number 0 b.Orders<0)))
def performRes(b:TBoard)(w:TWaiting):TBoard:={ (doOrder b w.Order).1 with Done:=(doOrder b w.Order).1.Done++[⟨w.Number,b.Clock,(doOrder b w.Order).2⟩] }
def performOrder(b:TBoard)(w:TWaiting):TBoard:=if performNow b w=true then(if boardOk (performRes b w)=true then performRes b w else b)else b
def tickGo:Nat→TBoard→TBoard
 | 0,b=>b
 | n+1,b=>match b.Orders with
  | []=>b
  | w::r=>if w.Order.At≤b.Clock then tickGo n (performOrder { b with Orders:=r } w)else b
def tickNow(b:TBoard):Bool:=boardOk b && (!(b.Clock == 1000000) && (decide (b.Made≤60000) && (decide (b.Taken≤60000) && (decide ((b.Done.length:Int)≤4900) && decide ((b.Asked.length:Int)≤4900)))))
def tickBoard(b:TBoard):TBoard:=if tickNow b=true then tickGo b.Orders.length { b with Clock:=b.Clock+1 } else b
theorem doOrder_orders(b:TBoard)(x:TOrder):(doOrder b x).1.Orders.length≤b.Orders.length∧(doOrder b x).1.Clock=b.Clock:=by
 unfold doOrder setParam makeRec
 repeat' split
 all_goals simp only[Nat.le_refl,and_self]
 exact⟨List.length_eraseIdx_le _ _,trivial⟩
theorem performOrder_orders(b:TBoard)(w:TWaiting):(performOrder b w).Orders.length≤b.Orders.length∧(performOrder b w).Clock=b.Clock:=by
 unfold performOrder
 split
 ·split
  ·exact doOrder_orders b w.Order
  ·exact⟨Nat.le_refl _,rfl⟩
 ·exact⟨Nat.le_refl _,rfl⟩
theorem allB_all{lo hi:Int}:∀ {l:List Int},allB lo hi l=true↔∀ y∈l,lo≤y∧y≤hi
 | []=>by simp[allB]
 | x::r=>by simp only[allB,Bool.and_eq_true,allB_all (l:=r),inB_iff,List.mem_cons,forall_eq_or_imp]
theorem totL_zero{α:Type}[Enc α](h:∀ x:α,Enc.tot x=0):∀ l:List α,totL l=l.length
 | []=>rfl
 | x::r=>by simp only[totL,totL_zero h r,h x,List.length_cons];omega
theorem totL_used:∀ l:List TRecord,totL l≤used l
 | []=>Int.le_refl _
 | x::r=>by
  have h:Enc.tot x=(x.Data.size:Int):=rfl
  have ih:=totL_used r
  simp only[totL,used,h];omega
theorem board_tot(b:TBoard):Enc.tot b=b.Params.length+b.Limits.length+b.Orders.length+b.Done.length+(totL b.Recorder.Records+b.Recorder.Dropped.length)+b.Asked.length:=by
 have h:Enc.tot b=totL b.Params+totL b.Limits+totL b.Orders+totL b.Done+(totL b.Recorder.Records+totL b.Recorder.Dropped)+totL b.Asked:=rfl
 rw[h,totL_zero (fun _=>rfl) b.Params,totL_zero (fun _=>rfl) b.Limits,totL_zero (fun _=>rfl) b.Orders,totL_zero (fun _=>rfl) b.Done,totL_zero (fun _=>rfl) b.Recorder.Dropped,totL_zero (fun _=>rfl) b.Asked]
theorem recorder_tot(r:TRecorder):Enc.tot r=totL r.Records+r.Dropped.length:=by
 have h:Enc.tot r=totL r.Records+totL r.Dropped:=rfl
 rw[h,totL_zero (fun _=>rfl) r.Dropped]
theorem recorderOk_tot{r:TRecorder}(h:recorderOk r=true):Enc.tot r≤70000:=by
 simp only[recorderOk,Bool.and_eq_true,decide_eq_true_eq]at h
 have h1:=inB_iff.1 h.1
 have h2:=totL_used r.Records
 rw[recorder_tot];omega
theorem boardOk_tot{b:TBoard}(h:boardOk b=true):Enc.tot b≤81000:=by
 simp only[boardOk,Bool.and_eq_true,decide_eq_true_eq,beq_iff_eq]at h
 obtain⟨-,h1,-,h2,-,-,-,h3,h4,-,h5,-,h6,-⟩:=h
 have h7:=recorderOk_tot h5
 rw[recorder_tot]at h7
 have h8:(b.Orders.length:Int)≤40:=by
  rw[ordersOk,Bool.and_eq_true,decide_eq_true_eq]at h3;exact h3.1
 rw[board_tot];omega
theorem keepRes_tot(r:TRecorder)(x:TRecord):(keepRes r x).Records.length+(keepRes r x).Dropped.length=r.Records.length+r.Dropped.length+1:=by
 unfold keepRes
 split
 ·rename_i l d h
  have:=(keepGo_len _ _ _ _ _ h).1
  simp only[List.length_append,List.length_singleton];omega
 ·simp only[List.length_append,List.length_singleton];omega
/-! ### What stays as it is -/
def askedOk(b:TBoard):Prop:=b.Asked.length≤5000∧∀ f∈b.Asked,0≤f∧f≤7
theorem boardOk_asked{b:TBoard}(h:boardOk b=true):askedOk b:=by
 simp only[boardOk,Bool.and_eq_true,decide_eq_true_eq]at h
 obtain⟨-,-,-,-,-,-,-,-,-,-,-,-,h6,h7⟩:=h
 exact⟨by omega,allB_all.1 h7⟩
theorem doOrder_asked(b:TBoard)(x:TOrder):b.Asked <+: (doOrder b x).1.Asked:=by
 unfold doOrder setParam makeRec
 repeat' split
 all_goals first|exact List.prefix_refl _|exact List.prefix_append _ _
theorem perform_asked(b:TBoard)(w:TWaiting):b.Asked <+: (performOrder b w).Asked∧(askedOk b→askedOk (performOrder b w))∧(Enc.tot (performOrder b w)=Enc.tot b∨Enc.tot (performOrder b w)≤81000):=by
 unfold performOrder
 split
 ·split
  ·rename_i h
   exact⟨doOrder_asked b w.Order,fun _=>boardOk_asked h,.inr (boardOk_tot h)⟩
  ·exact⟨List.prefix_refl _,id,.inl rfl⟩
 ·exact⟨List.prefix_refl _,id,.inl rfl⟩
theorem tickGo_asked:∀ (n:Nat) (b:TBoard),b.Asked <+: (tickGo n b).Asked∧(askedOk b→askedOk (tickGo n b))∧(Enc.tot (tickGo n b)≤Enc.tot b∨Enc.tot (tickGo n b)≤81000)
 | 0,b=>⟨List.prefix_refl _,id,.inl (Int.le_refl _)⟩
 | n+1,b=>by
  rw[tickGo]
  split
  ·exact⟨List.prefix_refl _,id,.inl (Int.le_refl _)⟩
  ·rename_i w r hr
   split
   ·have h1:=perform_asked { b with Orders:=r } w
    have h2:=tickGo_asked n (performOrder { b with Orders:=r } w)
    have h3:Enc.tot ({ b with Orders:=r }:TBoard)≤Enc.tot b:=by
     rw[board_tot,board_tot,hr,List.length_cons];simp only;omega
    refine⟨h1.1.trans h2.1,fun h=>h2.2.1 (h1.2.1 h),?_⟩
    rcases h2.2.2 with h4|h4
    ·rcases h1.2.2 with h5|h5
     ·left;omega
     ·right;omega
    ·exact .inr h4
   ·exact⟨List.prefix_refl _,id,.inl (Int.le_refl _)⟩
theorem tickBoard_asked(b:TBoard):b.Asked <+: (tickBoard b).Asked∧(askedOk b→askedOk (tickBoard b))∧(Enc.tot (tickBoard b)≤Enc.tot b∨Enc.tot (tickBoard b)≤81000):=by
 unfold tickBoard
 split
 ·exact tickGo_asked _ { b with Clock:=b.Clock+1 }
 ·exact⟨List.prefix_refl _,id,.inl (Int.le_refl _)⟩
def tickN:Nat→TBoard→TBoard
 | 0,b=>b
 | n+1,b=>tickN n (tickBoard b)
theorem tickN_snoc:∀ (n:Nat) (b:TBoard),tickN (n+1) b=tickBoard (tickN n b)
 | 0,_=>rfl
 | n+1,b=>tickN_snoc n (tickBoard b)
theorem tickN_asked:∀ (n:Nat) (b:TBoard),b.Asked <+: (tickN n b).Asked∧(askedOk b→askedOk (tickN n b))∧(Enc.tot (tickN n b)≤Enc.tot b∨Enc.tot (tickN n b)≤81000)
 | 0,b=>⟨List.prefix_refl _,id,.inl (Int.le_refl _)⟩
 | n+1,b=>by
  have h1:=tickBoard_asked b
  have h2:=tickN_asked n (tickBoard b)
  rw[tickN]
  refine⟨h1.1.trans h2.1,fun h=>h2.2.1 (h1.2.1 h),?_⟩
  rcases h2.2.2 with h4|h4
  ·rcases h1.2.2 with h5|h5
   ·left;omega
   ·right;omega
  ·exact .inr h4
/-! ### The senders of files -/
def segNums(n:Int):List Int:=(List.range n.toNat).map (fun j:Nat=>(j:Int))
theorem segNums_snoc(k:Nat):segNums ((k:Int)+1)=segNums k++[(k:Int)]:=by
 rw[segNums,segNums,show((k:Int)+1).toNat=k+1 by omega,List.range_succ,List.map_append];rfl
theorem segNums_len(k:Nat):(segNums k).length=k:=by simp[segNums]
def newOut(f:Int)(s:ByteArray):TFileOut:=⟨f,s,segNums (countSeg s.size)++[-1],false⟩
theorem newOut_ok{f:Int}{s:ByteArray}(hf:0≤f∧f≤7)(hs:s.size≤600):fileOutOkT (newOut f s)=true:=by
 have h1:=countSeg_bd s.size
 have h2:((s.size:Int)≤600):=by omega
 have h3:(segNums (countSeg s.size)).length=(countSeg s.size).toNat:=by simp[segNums]
 have h4:allB (-1) (countSeg s.size - 1) (segNums (countSeg s.size)++[-1])=true:=allB_all.2 fun y hy=>by
  rcases List.mem_append.1 hy with h|h
  ·obtain⟨j,h5,rfl⟩:=List.mem_map.1 h
   have:=List.mem_range.1 h5
   omega
  ·simp at h;omega
 simp[fileOutOkT,fileOutOk,newOut,inB,hf.1,hf.2,h2,h4,h3]
 omega
theorem newOut_tot(f:Int)(s:ByteArray):Enc.tot (newOut f s)≤s.size+26:=by
 have h:Enc.tot (newOut f s)=(s.size:Int)+totL (segNums (countSeg s.size)++[-1]):=rfl
 have h1:=countSeg_bd s.size
 rw[h,totL_zero (fun _=>rfl)]
 simp[segNums];omega
def beginFiles(fs:List ByteArray):List Int→List TFileOut→List TFileOut
 | [],o=>o
 | f::r,o=>beginFiles fs r (o.set f.toNat (newOut f (fs.getD f.toNat ByteArray.empty)))
theorem beginFiles_snoc(fs:List ByteArray)(f:Int):∀ (l:List Int) (o:List TFileOut),beginFiles fs (l++[f]) o=(beginFiles fs l o).set f.toNat (newOut f (fs.getD f.toNat ByteArray.empty))
 | [],_=>rfl
 | _::r,_=>beginFiles_snoc fs f r _
theorem beginFiles_len(fs:List ByteArray):∀ (l:List Int) (o:List TFileOut),(beginFiles fs l o).length=o.length
 | [],_=>rfl
 | _::r,_=>by rw[beginFiles,beginFiles_len fs r,List.length_set]
def advNow(m:TMission):Bool:=missionOk m && !(m.Time == 1000000)
def advN(m:TMission):Nat:=(ticksDue m.Drift.Rate m.Drift.Offset m.Time).toNat
def advB(m:TMission):TBoard:=tickN (advN m) m.Space.Board
def advO(m:TMission):List TFileOut:=beginFiles m.Space.Files ((advB m).Asked.drop m.Space.Begun.toNat) m.Space.Outs
def advanceBoard(m:TMission):TMission :=
 if advNow m=true then { m with Time:=m.Time+1,Space:={ m.Space with Board:=advB m,Outs:=advO m,Begun:=(advB m).Asked.length } } else m
theorem outs_small{fs:List ByteArray}:∀ {l:List TFileOut} {k:Nat},outsFrom fs k l=true→∀ o∈l,Enc.tot o≤1600
 | [],_,_,o,ho=>by cases ho
 | x::r,k,h,o,ho=>by
  rw[outsFrom,Bool.and_eq_true]at h
  rcases List.mem_cons.1 ho with rfl|ho
  ·have h1:=h.1
   simp only[outOk,fileOutOkT,fileOutOk,Bool.and_eq_true,decide_eq_true_eq]at h1
   have h2:Enc.tot o=(o.Data.size:Int)+totL o.Queue:=rfl
   rw[h2,totL_zero (fun _=>rfl)];omega
  ·exact outs_small h.2 o ho
theorem totL_le{α:Type}[Enc α]{b:Int}:∀ {l:List α},(∀ x∈l,Enc.tot x≤b)→totL l≤l.length*(b+1)
 | [],_=>by simp[totL]
 | x::r,h=>by
  have h1:=h x (by simp)
  have h2:=totL_le (l:=r) (fun t ht=>h t (by simp[ht]))
  have h4:((r.length+1:Nat):Int)*(b+1)=r.length*(b+1)+(b+1):=by rw[Int.natCast_add,Int.add_mul];simp
  simp only[totL,List.length_cons]
  rw[h4];omega
theorem begin_small{fs:List ByteArray}(hf:∀ s∈fs,s.size≤600):∀ (l:List Int) (o:List TFileOut),(∀ x∈o,Enc.tot x≤1600)→∀ x∈beginFiles fs l o,Enc.tot x≤1600
 | [],_,h=>h
 | f::r,o,h=>begin_small hf r _ fun x hx=>by
  rcases List.mem_or_eq_of_mem_set hx with hx|rfl
  ·exact h x hx
  ·have h1:=newOut_tot f (fs.getD f.toNat ByteArray.empty)
   have h2:(fs.getD f.toNat ByteArray.empty).size≤600:=by
    rw[List.getD_eq_getElem?_getD]
    cases e:fs[f.toNat]? with
    | none=>exact Nat.zero_le _
    | some s=>exact hf s (List.mem_of_getElem? e)
   omega
theorem adv_parts{m:TMission}(h:advNow m=true):missionOk m=true∧0≤m.Time∧m.Time≤999999∧boardOk m.Space.Board=true∧0≤m.Space.Begun∧m.Space.Begun≤m.Space.Board.Asked.length∧m.Space.Files.length=8∧m.Space.Outs.length=8∧outsFrom m.Space.Files 0 m.Space.Outs=true:=by
 rw[advNow,Bool.and_eq_true]at h
 obtain⟨h,h0⟩:=h
 have h1:=h
 simp only[missionOk,spaceOk,Bool.and_eq_true,decide_eq_true_eq,beq_iff_eq]at h
 have ht:=inB_iff.1 h.1
 have hb:=inB_iff.1 h.2.2.2.2.2.2.2.2.2.2.2.1.2.2.2.2.2.1
 have hs:=h.2.2.2.2.2.2.2.2.2.2.2.1
 simp at h0
 exact⟨h1,ht.1,by omega,hs.2.1,hb.1,hb.2,by omega,by omega,hs.2.2.2.2.2.2.2.2.2⟩
theorem files_small{fs:List ByteArray}:∀ {l:List TFileOut} {k:Nat},outsFrom fs k l=true→∀ i,k≤i→i<k+l.length→(fs.getD i ByteArray.empty).size≤600
 | [],k,_,i,h1,h2=>by simp at h2;omega
 | x::r,k,h,i,h1,h2=>by
  rw[outsFrom,Bool.and_eq_true]at h
  by_cases hi:i=k
  ·subst hi
   have h3:=h.1
   simp only[outOk,Bool.and_eq_true,Bool.not_eq_true',decide_eq_false_iff_not]at h3
   omega
  ·simp only[List.length_cons]at h2
   exact files_small h.2 i (by omega) (by omega)
theorem adv_files{m:TMission}(h:advNow m=true):∀ s∈m.Space.Files,s.size≤600:=fun s hs=>by
 obtain⟨-,-,-,-,-,-,h1,h2,h3⟩:=adv_parts h
 obtain⟨i,hi,rfl⟩:=List.getElem_of_mem hs
 have:=files_small h3 i (Nat.zero_le _) (by omega)
 rwa[List.getD_eq_getElem?_getD,List.getElem?_eq_getElem hi]at this
theorem adv_asked{m:TMission}(h:advNow m=true):m.Space.Begun.toNat≤(advB m).Asked.length∧(∀ f∈(advB m).Asked,0≤f∧f≤7)∧(advB m).Asked.length≤5000∧(Enc.tot (advB m)≤Enc.tot m.Space.Board∨Enc.tot (advB m)≤81000):=by
 obtain⟨-,-,-,h1,h2,h3,-⟩:=adv_parts h
 have h4:=tickN_asked (advN m) m.Space.Board
 have h5:=h4.2.1 (boardOk_asked h1)
 have h6:=h4.1.length_le
 exact⟨by unfold advB;omega,h5.2,h5.1,h4.2.2⟩
theorem advanceBoard_tot(m:TMission):Enc.tot (advanceBoard m)≤Enc.tot m+100000:=by
 unfold advanceBoard
 split
 ·rename_i h
  obtain⟨-,-,-,-,-,-,h1,h2,h3⟩:=adv_parts h
  obtain⟨-,-,-,h4⟩:=adv_asked h
  have h5:totL (advO m)≤8*1601:=by
   have h6:=totL_le (begin_small (adv_files h) ((advB m).Asked.drop m.Space.Begun.toNat) m.Space.Outs (outs_small h3))
   rw[beginFiles_len,h2]at h6
   exact h6
  have h6:=totL_nonneg m.Space.Outs
  have h7:=Enc.tot_nonneg m.Space.Board
  have e1:Enc.tot m=totL m.Plan+totL m.Ups+totL m.Downs+Enc.tot m.Ground+(Enc.tot m.Space.Board+Enc.tot m.Space.Packer+totL m.Space.Files+totL m.Space.Outs+totL m.Space.Sent)+totL m.Offered+totL m.Took:=rfl
  have e2:Enc.tot ({ m with Time:=m.Time+1,Space:={ m.Space with Board:=advB m,Outs:=advO m,Begun:=(advB m).Asked.length } }:TMission)=totL m.Plan+totL m.Ups+totL m.Downs+Enc.tot m.Ground+(Enc.tot (advB m)+Enc.tot m.Space.Packer+totL m.Space.Files+totL (advO m)+totL m.Space.Sent)+totL m.Offered+totL m.Took:=rfl
  rw[e1,e2];omega
 ·omega
theorem take_snoc{α:Type}{l r:List α}{k:Nat}{s:α}(h:l.drop k=s::r):l.take (k+1)=l.take k++[s]:=by
 have h0:=congrArg (fun m=>m[0]?) h
 simp only[List.getElem?_drop,Nat.add_zero,List.getElem?_cons_zero]at h0
 rw[List.take_add_one,h0];rfl
structure Tr(n B:Nat)(χ:Nat→Col)(o:Nat)(w:World)(B':Nat)(χ':Nat→Col)(o':Nat)(w':World):Prop where
 c:∀ {γ:Type} [Flat γ] (i:Nat),i<n→∀ {a:Option Addr} {c:Nat} {l:List γ},OwnC B χ (o+i,0) w a c l→OwnC B' χ' (o'+i,0) w' a c l
 r:∀ {γ δ:Type} [Nest γ δ] [Flat δ] (i:Nat),i<n→∀ {a:Option Addr} {c:Nat} {l:List (NRow γ)},OwnN B χ (o+i) w a c l→OwnN B' χ' (o'+i) w' a c l
section
variable {n B o:Nat} {χ χ2:Nat→Col} {w w':World}
theorem Tr.fr{C:Col→Prop}(f:Fr B χ C w w')(hi:∀ j k,o≤j→j<o+n→¬ C (j,k)):Tr n B χ o w B χ o w':=⟨fun i h=>fun k=>k.fr f (hi _ _ (by omega) (by omega)),fun i h=>fun k=>k.fr f fun j=>hi _ _ (by omega) (by omega)⟩
theorem Tr.to(g:Grows w w'):Tr n B χ o w B χ o w':=⟨fun _ _=>fun k=>k.to g,fun _ _=>fun k=>k.to g⟩
theorem Tr.keep(g:Keeps B w w'):Tr n B χ o w B χ o w':=⟨fun _ _=>fun k=>k.keep g,fun _ _=>fun k=>k.keep g⟩
theorem Tr.mono{B2:Nat}(g:B2≤B):Tr n B χ o w B2 χ o w:=⟨fun _ _=>fun k=>k.mono g,fun _ _=>fun k=>k.mono g⟩
theorem Tr.old{f:Col→Col}{U:Nat}(g:w.heap.size≤U):Tr n B χ o w B (paint U χ χ2 f) o w:=⟨fun _ _=>fun k=>k.old g,fun _ _=>fun k=>k.old g⟩
theorem Tr.new{d U:Nat}(g:U≤B):Tr n B χ2 0 w B (paint U χ χ2 (shift d)) d w:=⟨fun i _=>fun k=>(k.new g).ic (by simp[shift,Nat.add_comm]),fun i _=>fun k=>k.new g fun j=>by simp[shift,Nat.add_comm]⟩
end
class OBox(α:Type) extends EncO α where
 ty:Nat
 n:Nat
 one:∀ {B χ o w vs x},O B χ o w vs x→vs.all (·.oneCell')=true
 map:∀ {B χ o w B' χ' o' w' vs x},O B χ o w vs x→Tr n B χ o w B' χ' o' w'→O B' χ' o' w' vs x
 nle:n≤1000
structure FS(α β:Type)[A:OBox α][E:Flat β] where
 off:Nat
 col:Nat
 get:α→List β
 set:α→List β→α
 own:∀ {B χ w vs x},A.O B χ 0 w vs x→∃ a c,vs[off]?=some (.slice a (get x).length c)∧OwnC B χ (col,0) w a c (get x)
 put:∀ {B χ w w2 vs x a c l},A.O B χ 0 w vs x→Fr B χ (·=(col,0)) w w2→OwnC B χ (col,0) w2 a c l→A.O B χ 0 w2 (vs.set off (.slice a l.length c)) (set x l)
 lt:off<A.size
 clt:col<A.n
structure FD(α β:Type)[A:OBox α][E:OBox β] where
 off:Nat
 col:Nat
 get:α→β
 set:α→β→α
 own:∀ {B χ w vs x},A.O B χ 0 w vs x→E.O B χ col w ((vs.drop off).take E.size) (get x)
 put:∀ {B χ w w2 vs us x y},A.O B χ 0 w vs x→Fr B χ (fun i=>col≤i.1∧i.1<col+E.n) w w2→E.O B χ col w2 us y→A.O B χ 0 w2 (splice vs off us) (set x y)
 le:off+E.size≤A.size
 cle:col+E.n≤A.n
def GB{α:Type}[E:OBox α](X:Nat→Prop)(B b:Nat)(w:World)(x:α):Prop :=
 ∃ (χ:Nat→Col) (vs:List Value),Held w b vs E.ty∧E.O B χ 0 w vs x∧1000≤(χ b).1∧Fresh χ w∧B≤b∧∀ k,X k→1000≤(χ k).1∧k≠b∧k<w.heap.size
def GBp{α β:Type}[E:OBox α][Flat β](F:FS α β)(X:Nat→Prop)(B b:Nat)(w:World)(x:α)(l:List β)(a:Option Addr)(c:Nat):Prop :=
 ∃ (χ:Nat→Col) (vs:List Value),Held w b vs E.ty∧vs.length=E.size∧E.O B χ 0 w (vs.set F.off (.slice a l.length c)) (F.set x l)∧1000≤(χ b).1∧Fresh χ w∧B≤b∧∀ k,X k→1000≤(χ k).1∧k≠b∧k<w.heap.size
def GBq{α β:Type}[E:OBox α][E2:OBox β](F:FD α β)(X:Nat→Prop)(B b:Nat)(w:World)(x:α)(us:List Value)(y:β):Prop :=
 ∃ (χ:Nat→Col) (vs:List Value),Held w b vs E.ty∧vs.length=E.size∧us.length=E2.size∧us.all (·.oneCell')=true∧E.O B χ 0 w (splice vs F.off us) (F.set x y)∧1000≤(χ b).1∧Fresh χ w∧B≤b∧∀ k,X k→1000≤(χ k).1∧k≠b∧k<w.heap.size
theorem obox_len{α:Type}[E:OBox α]{B o:Nat}{χ:Nat→Col}{w:World}{vs:List Value}{x:α}(h:E.O B χ o w vs x):vs.length=E.size:=E.len (E.toRd h)
section
variable {α β δ:Type} [E:OBox α] [E2:Flat β] [E3:OBox δ] {X:Nat→Prop} {B b:Nat} {w w':World} {x:α} {F:FS α β} {D:FD α δ} {l:List β} {a:Option Addr} {c:Nat} {y:δ} {us:List Value}
theorem GB.vs(h:GB X B b w x):∃ vs,Held w b vs E.ty∧vs.length=E.size∧vs.all (·.oneCell')=true∧E.Rd B w vs x∧∃ χ,E.O B χ 0 w vs x:=h.elim fun χ h=>h.elim fun vs h=>⟨vs,h.1,obox_len h.2.1,E.one h.2.1,E.toRd h.2.1,χ,h.2.1⟩
theorem GB.le(h:GB X B b w x):B≤b:=h.elim fun _ h=>h.elim fun _ h=>h.2.2.2.2.1
theorem GB.lt(h:GB X B b w x):b<w.heap.size:=h.elim fun _ h=>h.elim fun _ h=>h.1.lt
theorem GB.to(h:GB X B b w x)(g:Grows w w'):GB X B b w' x :=
 h.elim fun χ h=>h.elim fun vs h=>⟨χ,vs,h.1.to g,E.map h.2.1 (.to g),h.2.2.1,h.2.2.2.1.mono g.out.size,h.2.2.2.2.1,fun k hk=>⟨(h.2.2.2.2.2 k hk).1,(h.2.2.2.2.2 k hk).2.1,Nat.lt_of_lt_of_le (h.2.2.2.2.2 k hk).2.2 g.out.size⟩⟩
theorem GB.keep(h:GB X B b w x)(g:Keeps B w w'):GB X B b w' x :=
 h.elim fun χ h=>h.elim fun vs h=>⟨χ,vs,by have h1:=h.1;unfold Held at h1 ⊢;rw[g.block b h.2.2.2.2.1 h.1.lt];exact h1,E.map h.2.1 (.keep g),h.2.2.1,h.2.2.2.1.mono g.size,h.2.2.2.2.1,fun k hk=>⟨(h.2.2.2.2.2 k hk).1,(h.2.2.2.2.2 k hk).2.1,Nat.lt_of_lt_of_le (h.2.2.2.2.2 k hk).2.2 g.size⟩⟩
theorem GB.mono{B':Nat}(h:GB X B b w x)(g:B'≤B):GB X B' b w x :=
 h.elim fun χ h=>h.elim fun vs h=>⟨χ,vs,h.1,E.map h.2.1 (.mono g),h.2.2.1,h.2.2.2.1,Nat.le_trans g h.2.2.2.2.1,h.2.2.2.2.2⟩
theorem GB.less{X':Nat→Prop}(h:GB X B b w x)(g:∀ k,X' k→X k):GB X' B b w x :=
 h.elim fun χ h=>h.elim fun vs h=>⟨χ,vs,h.1,h.2.1,h.2.2.1,h.2.2.2.1,h.2.2.2.2.1,fun k hk=>h.2.2.2.2.2 k (g k hk)⟩
theorem GB.of{χ:Nat→Col}{u z:World}{vs:List Value}(h:E.O B χ 0 u vs x)(k:Keeps 0 u z)(hB:B≤u.heap.size)(H:Held z u.heap.size vs E.ty):GB (fun _=>False) B u.heap.size z x :=
 ⟨paint u.heap.size χ (fun _=>(0,0)) (fun _=>(1000,0)),vs,H,E.map (E.map h (.old nl)) (.keep (k.more (Nat.zero_le _))),by rw[paint,if_neg (Nat.lt_irrefl _)];exact Nat.le_refl _,freshU k.size,hB,fun _ h=>h.elim⟩
theorem GB.prot{P:Nat→Prop}{u:World}(h:GB X B b u x)(g:Grows u w)(hP:∀ k,P k→u.heap.size≤k∧k<w.heap.size):GB (fun k=>X k∨P k) B b w x:=by
 have hl:=h.lt
 obtain⟨χ,vs,h1,h2,h3,h4,h5,h6⟩:=h
 refine⟨χ,vs,h1.to g,E.map h2 (.to g),h3,h4.mono g.out.size,h5,fun k hk=>?_⟩
 rcases hk with hk|hk
 ·exact⟨(h6 k hk).1,(h6 k hk).2.1,Nat.lt_of_lt_of_le (h6 k hk).2.2 g.out.size⟩
 ·have:=hP k hk
  exact⟨h4 k this.1,by omega,this.2⟩
theorem gb_fr{χ:Nat→Col}{C:Col→Prop}(hF:Fr B χ C w w')(hC:∀ i,C i→i.1<1000){k:Nat}(hk:1000≤(χ k).1)(hl:k<w.heap.size):w'.heap[k]?=w.heap[k]? :=
 hF.block k hl fun e=>by have:=hC _ e.2;omega
theorem FS.c1000(F:FS α β):F.col<1000:=Nat.lt_of_lt_of_le F.clt E.nle
theorem GB.own(F:FS α β)(h:GB X B b w x):∃ a c,(∀ (W:World) [Grows w W],W.cell? ⟨b,F.off,none⟩=some (.slice a (F.get x).length c))∧Own E2.enc E2.ty E2.size B w a c (F.get x)∧(∀ s∈F.get x,E2.good s)∧RdS B w a c (F.get x):=by
 obtain⟨χ,vs,h1,h2,-⟩:=h
 obtain⟨a,c,hv,k⟩:=F.own h2
 exact⟨a,c,h1.cellG F.off _ hv,k.own,k.good,k.rd⟩
theorem GBp.app{n sc0:Nat}{u W W2:World}{p:β}{sa0 sa:Option Addr}{sc:Nat}(h:GB X B b u x)(hc0:u.cell? ⟨b,F.off,none⟩=some (.slice sa0 (F.get x).length sc0))(g:Grows u W)(hown:Own E2.enc E2.ty E2.size B W2 sa sc (F.get x++[p]))(hgr:W.grownBy W2 (Value.ownBlock (.slice sa0 n sc0)))
  (hblk:blkOf sa=blkOf sa0∨blkOf sa=some W.heap.size) (hg:E2.good p):GBp F X B b W2 x (F.get x++[p]) sa sc∧∀ k,X k→W2.heap[k]?=W.heap[k]?:=by
 obtain⟨χ,vs,h1,h2,h3,h4,h5,h6⟩:=h
 obtain⟨a0,c0,hv,hO⟩:=F.own h2
 rw[h1.cell,hv]at hc0
 simp only[Option.some.injEq,Value.slice.injEq,true_and]at hc0
 obtain⟨rfl,rfl⟩:=hc0
 have hlu:=h1.lt
 have hF:=(hO.to g).wrote hgr
 have hc:=F.c1000
 have hsu:=g.out.size
 have hs:=hF.size
 have hlen:=obox_len h2
 have hX:∀ k,1000≤(χ k).1→k<u.heap.size→W2.heap[k]?=W.heap[k]?:=fun k hk hl=>gb_fr hF (fun i e=>by rw[e];exact hc) hk (by omega)
 have hp:∀ k,k<W.heap.size→paint W2.heap.size (paint W.heap.size χ (fun _=>(F.col,0)) id) (fun _=>(0,0)) (fun _=>(1000,0)) k=χ k:=fun k hk=>by rw[paint,if_pos (by omega),paint,if_pos hk]
 refine⟨⟨paint W2.heap.size (paint W.heap.size χ (fun _=>(F.col,0)) id) (fun _=>(0,0)) (fun _=>(1000,0)),vs,?_,hlen,?_,?_,freshU nl,h5,fun k hk=>⟨?_,(h6 k hk).2.1,by have:=(h6 k hk).2.2;omega⟩⟩,fun k hk=>hX k (h6 k hk).1 (h6 k hk).2.2⟩
 ·have h1':=h1.to g
  unfold Held at h1' ⊢
  rw[hX b h3 hlu];exact h1'
 ·exact E.map (F.put (E.map (E.map h2 (.to g)) (.old nl)) (hF.old nl) ((hO.to g).app hown hblk hg)) (.old nl)
 ·rw[hp b (by omega)];exact h3
 ·rw[hp k (by have:=(h6 k hk).2.2;omega)];exact(h6 k hk).1
theorem GBp.new{u:World}{a:Option Addr}{c:Nat}{l:List β}(h:GB X B b u x)(g:Grows u w)(k:OwnC u.heap.size (fun _=>(0,0)) (0,0) w a c l):GBp F X B b w x l a c:=by
 have hlu:=h.lt
 obtain⟨χ,vs,h1,h2,h3,h4,h5,h6⟩:=h
 have hs:=g.out.size
 have hp:∀ k,k<u.heap.size→paint w.heap.size (paint u.heap.size χ (fun _=>(0,0)) (fun _=>(F.col,0))) (fun _=>(0,0)) (fun _=>(1000,0)) k=χ k:=fun k hk=>by rw[paint,if_pos (by omega),paint,if_pos hk]
 refine⟨_,vs,h1.to g,obox_len h2,E.map (F.put (E.map (E.map h2 (.old (χ2:=fun _=>(0,0)) (f:=fun _=>(F.col,0)) nl)) (.to g)) (Fr.refl _ _ _ _) ((k.new (f:=fun _=>(F.col,0)) nl).mono (by omega))) (.old nl),?_,freshU nl,h5,fun k hk=>⟨?_,(h6 k hk).2.1,Nat.lt_of_lt_of_le (h6 k hk).2.2 hs⟩⟩
 ·rw[hp b hlu];exact h3
 ·rw[hp k (h6 k hk).2.2];exact(h6 k hk).1
theorem GBq.new{u:World}{χ2:Nat→Col}(h:GB X B b u x)(g:Grows u w)(k:E3.O u.heap.size χ2 0 w us y):GBq D X B b w x us y:=by
 have hlu:=h.lt
 obtain⟨χ,vs,h1,h2,h3,h4,h5,h6⟩:=h
 have hs:=g.out.size
 have hp:∀ k,k<u.heap.size→paint w.heap.size (paint u.heap.size χ χ2 (shift D.col)) (fun _=>(0,0)) (fun _=>(1000,0)) k=χ k:=fun k hk=>by rw[paint,if_pos (by omega),paint,if_pos hk]
 refine⟨_,vs,h1.to g,obox_len h2,obox_len k,E3.one k,E.map (D.put (E.map (E.map h2 (.old (χ2:=χ2) (f:=shift D.col) nl)) (.to g)) (Fr.refl _ _ _ _) (E3.map (E3.map k (.new nl)) (.mono (by omega)))) (.old nl),?_,freshU nl,h5,fun k hk=>⟨?_,(h6 k hk).2.1,Nat.lt_of_lt_of_le (h6 k hk).2.2 hs⟩⟩
 ·rw[hp b hlu];exact h3
 ·rw[hp k (h6 k hk).2.2];exact(h6 k hk).1
theorem gb_box{χ:Nat→Col}{vs:List Value}(h:E.O B χ 0 w vs x)(hc:1000≤(χ b).1)(hB:B≤b)(g:w.grownBy w' (some b)):E.O B χ 0 w' vs x :=
 E.map h (.fr (C:=fun i=>i=χ b) ⟨g.os,g.tape,g.output,g.size,fun k hk hn=>g.block k hk (fun e=>hn (by cases e;exact⟨hB,rfl⟩))⟩ (fun j k _ h2 e=>by have:=E.nle;rw[← e]at hc;simp only at hc;omega))
end
section
variable {P:Program} {ops:Array Oper} {rest:List Oper} {op:Oper} {act:Act} {w w0:World} {Q:Exit→Act→World→Prop} {X:Nat→Prop} {B b:Nat} {α β δ:Type} [E:OBox α] [E2:Flat β] [E3:OBox δ] {x x':α} {F:FS α β} {D:FD α δ} {l:List β} {a:Option Addr} {c:Nat} {y:δ} {us:List Value}
theorem step_gbS(hgd:op.guard=none)(ty:TypeId)(p v:Operand)(ho:op.op=.store ty p v)(h:GBp F X B b w x l a c)(hx:act.eval p=.pointer (some ⟨b,F.off,none⟩))(hv:act.eval v=.slice a l.length c)(hi:(P.info? ty).map (·.size)=some 1)
  (g:Grows w0 w) (hb:w0.heap.size≤B) (K:∀ z:Later w0,GB X B b z.w (F.set x l)→(∀ k,X k→z.w.heap[k]?=w.heap[k]?)→wpList P ops Q rest (act.put op.dst undef) z.w):wpList P ops Q (op::rest) act w:=by
 obtain⟨χ,vs,h1,hl,h2,h3,h4,h5,h6⟩:=h
 exact stepStore2 hgd ty p v ho b F.off hx h1 (us:=[.slice a l.length c]) (cs2:=vs.set F.off (.slice a l.length c)) (by rw[hv];rfl) hi rfl (by have:=F.lt;rw[hl];exact this) rfl g (Nat.le_trans hb h5) fun z hz hk =>
  K z ⟨χ,_,hz,gb_box h2 h3 h5 (hk.grown1 g),h3,h4.mono (hk.grown1 g).size,h5,fun k hk'=>⟨(h6 k hk').1,(h6 k hk').2.1,Nat.lt_of_lt_of_le (h6 k hk').2.2 (hk.grown1 g).size⟩⟩ (fun k hk'=>(hk.grown1 g).block k (h6 k hk').2.2 (fun e=>(h6 k hk').2.1 (by cases e;rfl)))
theorem step_gbD(hgd:op.guard=none)(ty:TypeId)(p v:Operand)(ho:op.op=.store ty p v)(h:GBq D X B b w x us y)(hx:act.eval p=.pointer (some ⟨b,D.off,none⟩))(hv:(act.eval v).cells.toList=us)(hi:(P.info? ty).map (·.size)=some us.length)
  (g:Grows w0 w) (hb:w0.heap.size≤B) (K:∀ z:Later w0,GB X B b z.w (D.set x y)→(∀ k,X k→z.w.heap[k]?=w.heap[k]?)→wpList P ops Q rest (act.put op.dst undef) z.w):wpList P ops Q (op::rest) act w:=by
 obtain⟨χ,vs,h1,hl,hu,hu1,h2,h3,h4,h5,h6⟩:=h
 exact stepStore2 hgd ty p v ho b D.off hx h1 (us:=us) (cs2:=splice vs D.off us) hv hi hu1 (by have:=D.le;rw[hl,hu];exact this) rfl g (Nat.le_trans hb h5) fun z hz hk =>
  K z ⟨χ,_,hz,gb_box h2 h3 h5 (hk.grown1 g),h3,h4.mono (hk.grown1 g).size,h5,fun k hk'=>⟨(h6 k hk').1,(h6 k hk').2.1,Nat.lt_of_lt_of_le (h6 k hk').2.2 (hk.grown1 g).size⟩⟩ (fun k hk'=>(hk.grown1 g).block k (h6 k hk').2.2 (fun e=>(h6 k hk').2.1 (by cases e;rfl)))
theorem step_gbC{o:Nat}(x':α)(hgd:op.guard=none)(ty:TypeId)(p v:Operand)(ho:op.op=.store ty p v)(h:GB X B b w x)(hx:act.eval p=.pointer (some ⟨b,o,none⟩))(hv:(act.eval v).cells.toList=us)(hi:(P.info? ty).map (·.size)=some us.length)(h1:us.all (·.oneCell')=true)(hl:o+us.length≤E.size)
  (hm:∀ {χ vs w},E.O B χ 0 w vs x→E.O B χ 0 w (splice vs o us) x') (g:Grows w0 w) (hb:w0.heap.size≤B) (K:∀ z:Later w0,GB X B b z.w x'→(∀ k,X k→z.w.heap[k]?=w.heap[k]?)→wpList P ops Q rest (act.put op.dst undef) z.w):wpList P ops Q (op::rest) act w:=by
 obtain⟨χ,vs,h0,h2,h3,h4,h5,h6⟩:=h
 exact stepStore2 hgd ty p v ho b o hx h0 (us:=us) (cs2:=splice vs o us) hv hi h1 (by rw[obox_len h2];exact hl) rfl g (Nat.le_trans hb h5) fun z hz hk =>
  K z ⟨χ,_,hz,gb_box (hm h2) h3 h5 (hk.grown1 g),h3,h4.mono (hk.grown1 g).size,h5,fun k hk'=>⟨(h6 k hk').1,(h6 k hk').2.1,Nat.lt_of_lt_of_le (h6 k hk').2.2 (hk.grown1 g).size⟩⟩ (fun k hk'=>(hk.grown1 g).block k (h6 k hk').2.2 (fun e=>(h6 k hk').2.1 (by cases e;rfl)))
end
instance OBox.iRecorder:OBox TRecorder where
 toEncO:=inferInstance
 ty:=82
 n:=2
 one:=by rintro _ _ _ _ _ _ ⟨a0,c0,a1,c1,rfl,-⟩;rfl
 map:=by rintro _ _ _ _ _ _ _ _ _ _ ⟨a0,c0,a1,c1,rfl,h⟩ t;exact⟨a0,c0,a1,c1,rfl,t.c 0 (by decide) h.o0,t.c 1 (by decide) h.o1,h.ok⟩
 nle:=by decide
def fRecorderRecords:FS TRecorder TRecord where
 off:=1
 col:=0
 get:=(·.Records)
 set:=fun x l=>{ x with Records:=l }
 own:=by rintro _ _ _ _ _ ⟨a0,c0,a1,c1,rfl,h⟩;exact⟨_,_,rfl,h.o0⟩
 put:=by rintro _ _ _ _ _ _ a c _ ⟨a0,c0,a1,c1,rfl,h⟩ f k;exact⟨a,c,a1,c1,rfl,k,h.o1.fr f (by simp),h.ok⟩
 lt:=by decide
 clt:=by decide
def fRecorderDropped:FS TRecorder Int where
 off:=2
 col:=1
 get:=(·.Dropped)
 set:=fun x l=>{ x with Dropped:=l }
 own:=by rintro _ _ _ _ _ ⟨a0,c0,a1,c1,rfl,h⟩;exact⟨_,_,rfl,h.o1⟩
 put:=by rintro _ _ _ _ _ _ a c _ ⟨a0,c0,a1,c1,rfl,h⟩ f k;exact⟨a0,c0,a,c,rfl,h.o0.fr f (by simp),k,h.ok⟩
 lt:=by decide
 clt:=by decide
instance OBox.iPacker:OBox TPacker where
 toEncO:=inferInstance
 ty:=85
 n:=1
 one:=by rintro _ _ _ _ _ _ ⟨a0,c0,rfl,-⟩;rfl
 map:=by rintro _ _ _ _ _ _ _ _ _ _ ⟨a0,c0,rfl,h⟩ t;exact⟨a0,c0,rfl,t.c 0 (by decide) h.o0,h.ok⟩
 nle:=by decide
instance OBox.iSender:OBox TSender where
 toEncO:=inferInstance
 ty:=69
 n:=1
 one:=by rintro _ _ _ _ _ _ ⟨a0,c0,rfl,-⟩;rfl
 map:=by rintro _ _ _ _ _ _ _ _ _ _ ⟨a0,c0,rfl,h⟩ t;exact⟨a0,c0,rfl,t.c 0 (by decide) h.o0,h.ok⟩
 nle:=by decide
instance OBox.iBoard:OBox TBoard where
 toEncO:=inferInstance
 ty:=84
 n:=7
 one:=by rintro _ _ _ _ _ _ ⟨A,rfl,-⟩;rfl
 map:=by rintro _ _ _ _ _ _ _ _ _ _ ⟨A,rfl,h⟩ t;exact⟨A,rfl,t.c 0 (by decide) h.o0,t.c 1 (by decide) h.o1,t.c 2 (by decide) h.o2,t.c 3 (by decide) h.o3,t.c 4 (by decide) h.o4,t.c 5 (by decide) h.o5,t.c 6 (by decide) h.o6,h.ok⟩
 nle:=by decide
def fBoardParams:FS TBoard Int where
 off:=1
 col:=0
 get:=(·.Params)
 set:=fun x l=>{ x with Params:=l }
 own:=by rintro _ _ _ _ _ ⟨A,rfl,h⟩;exact⟨_,_,rfl,h.o0⟩
 put:=by rintro _ _ _ _ _ _ a c _ ⟨A,rfl,h⟩ f k;exact⟨{ A with a0:=a,c0:=c },rfl,k,h.o1.fr f (by simp),h.o2.fr f (by simp),h.o3.fr f (by simp),h.o4.fr f (by simp),h.o5.fr f (by simp),h.o6.fr f (by simp),h.ok⟩
 lt:=by decide
 clt:=by decide
def fBoardLimits:FS TBoard TLimit where
 off:=3
 col:=1
 get:=(·.Limits)
 set:=fun x l=>{ x with Limits:=l }
 own:=by rintro _ _ _ _ _ ⟨A,rfl,h⟩;exact⟨_,_,rfl,h.o1⟩
 put:=by rintro _ _ _ _ _ _ a c _ ⟨A,rfl,h⟩ f k;exact⟨{ A with a1:=a,c1:=c },rfl,h.o0.fr f (by simp),k,h.o2.fr f (by simp),h.o3.fr f (by simp),h.o4.fr f (by simp),h.o5.fr f (by simp),h.o6.fr f (by simp),h.ok⟩
 lt:=by decide
 clt:=by decide
def fBoardOrders:FS TBoard TWaiting where
 off:=4
 col:=2
 get:=(·.Orders)
 set:=fun x l=>{ x with Orders:=l }
 own:=by rintro _ _ _ _ _ ⟨A,rfl,h⟩;exact⟨_,_,rfl,h.o2⟩
 put:=by rintro _ _ _ _ _ _ a c _ ⟨A,rfl,h⟩ f k;exact⟨{ A with a2:=a,c2:=c },rfl,h.o0.fr f (by simp),h.o1.fr f (by simp),k,h.o3.fr f (by simp),h.o4.fr f (by simp),h.o5.fr f (by simp),h.o6.fr f (by simp),h.ok⟩
 lt:=by decide
 clt:=by decide
def fBoardDone:FS TBoard TDone where
 off:=5
 col:=3
 get:=(·.Done)
 set:=fun x l=>{ x with Done:=l }
 own:=by rintro _ _ _ _ _ ⟨A,rfl,h⟩;exact⟨_,_,rfl,h.o3⟩
 put:=by rintro _ _ _ _ _ _ a c _ ⟨A,rfl,h⟩ f k;exact⟨{ A with a3:=a,c3:=c },rfl,h.o0.fr f (by simp),h.o1.fr f (by simp),h.o2.fr f (by simp),k,h.o4.fr f (by simp),h.o5.fr f (by simp),h.o6.fr f (by simp),h.ok⟩
 lt:=by decide
 clt:=by decide
def fBoardAsked:FS TBoard Int where
 off:=11
 col:=6
 get:=(·.Asked)
 set:=fun x l=>{ x with Asked:=l }
 own:=by rintro _ _ _ _ _ ⟨A,rfl,h⟩;exact⟨_,_,rfl,h.o6⟩
 put:=by rintro _ _ _ _ _ _ a c _ ⟨A,rfl,h⟩ f k;exact⟨{ A with a6:=a,c6:=c },rfl,h.o0.fr f (by simp),h.o1.fr f (by simp),h.o2.fr f (by simp),h.o3.fr f (by simp),h.o4.fr f (by simp),h.o5.fr f (by simp),k,h.ok⟩
 lt:=by decide
 clt:=by decide
instance OBox.iFileOut:OBox TFileOut where
 toEncO:=inferInstance
 ty:=105
 n:=1
 one:=by rintro _ _ _ _ _ _ ⟨a0,c0,rfl,-⟩;rfl
 map:=by rintro _ _ _ _ _ _ _ _ _ _ ⟨a0,c0,rfl,h⟩ t;exact⟨a0,c0,rfl,t.c 0 (by decide) h.o0,h.ok⟩
 nle:=by decide
def fFileOutQueue:FS TFileOut Int where
 off:=2
 col:=0
 get:=(·.Queue)
 set:=fun x l=>{ x with Queue:=l }
 own:=by rintro _ _ _ _ _ ⟨a0,c0,rfl,h⟩;exact⟨_,_,rfl,h.o0⟩
 put:=by rintro _ _ _ _ _ _ a c _ ⟨a0,c0,rfl,h⟩ f k;exact⟨a,c,rfl,k,h.ok⟩
 lt:=by decide
 clt:=by decide
instance OBox.iFileIn:OBox TFileIn where
 toEncO:=inferInstance
 ty:=154
 n:=1
 one:=by rintro _ _ _ _ _ _ ⟨a0,c0,rfl,-⟩;rfl
 map:=by rintro _ _ _ _ _ _ _ _ _ _ ⟨a0,c0,rfl,h⟩ t;exact⟨a0,c0,rfl,t.c 0 (by decide) h.o0,h.ok⟩
 nle:=by decide
def fBoardRecorder:FD TBoard TRecorder where
 off:=6
 col:=4
 get:=(·.Recorder)
 set:=fun x y=>{ x with Recorder:=y }
 own:=by rintro _ _ _ _ _ ⟨A,rfl,h⟩;exact⟨_,_,_,_,rfl,h.o4,h.o5,h.ok.2.1⟩
 put:=by
  rintro _ _ _ _ _ _ _ _ ⟨A,rfl,h⟩ f ⟨a0,c0,a1,c1,rfl,k⟩
  exact⟨{ A with a4:=a0,c4:=c0,a5:=a1,c5:=c1 },rfl,h.o0.fr f (by simp),h.o1.fr f (by simp),h.o2.fr f (by simp),h.o3.fr f (by simp),k.o0,k.o1,h.o6.fr f (by simp[OBox.n]),by have:=h.ok;have:=k.ok;exact⟨h.ok.1,k.ok,h.ok.2.2⟩⟩
 le:=by decide
 cle:=by decide
section
variable {α β δ:Type} [E:OBox α] [E2:Flat β] {X:Nat→Prop} {B b:Nat} {w w':World} {x:α} {F:FS α β} {l:List β} {a:Option Addr} {c:Nat}
theorem GBp.upd{n sc0:Nat}{u W W2:World}{l':List β}{sa0 sa:Option Addr}{sc:Nat}(h:GB X B b u x)(hc0:u.cell? ⟨b,F.off,none⟩=some (.slice sa0 (F.get x).length sc0))(g:Grows u W)(hown:Own E2.enc E2.ty E2.size B W2 sa sc l')(hgr:W.grownBy W2 (Value.ownBlock (.slice sa0 n sc0)))
  (hblk:blkOf sa=blkOf sa0∨blkOf sa=some W.heap.size) (hg:∀ p∈l',E2.good p):GBp F X B b W2 x l' sa sc∧∀ k,X k→W2.heap[k]?=W.heap[k]?:=by
 obtain⟨χ,vs,h1,h2,h3,h4,h5,h6⟩:=h
 obtain⟨a0,c0,hv,hO⟩:=F.own h2
 rw[h1.cell,hv]at hc0
 simp only[Option.some.injEq,Value.slice.injEq,true_and]at hc0
 obtain⟨rfl,rfl⟩:=hc0
 have hlu:=h1.lt
 have hF:=(hO.to g).wrote hgr
 have hc:=F.c1000
 have hsu:=g.out.size
 have hs:=hF.size
 have hlen:=obox_len h2
 have hX:∀ k,1000≤(χ k).1→k<u.heap.size→W2.heap[k]?=W.heap[k]?:=fun k hk hl=>gb_fr hF (fun i e=>by rw[e];exact hc) hk (by omega)
 have hp:∀ k,k<W.heap.size→paint W2.heap.size (paint W.heap.size χ (fun _=>(F.col,0)) id) (fun _=>(0,0)) (fun _=>(1000,0)) k=χ k:=fun k hk=>by rw[paint,if_pos (by omega),paint,if_pos hk]
 refine⟨⟨paint W2.heap.size (paint W.heap.size χ (fun _=>(F.col,0)) id) (fun _=>(0,0)) (fun _=>(1000,0)),vs,?_,hlen,?_,?_,freshU nl,h5,fun k hk=>⟨?_,(h6 k hk).2.1,by have:=(h6 k hk).2.2;omega⟩⟩,fun k hk=>hX k (h6 k hk).1 (h6 k hk).2.2⟩
 ·have h1':=h1.to g
  unfold Held at h1' ⊢
  rw[hX b h3 hlu];exact h1'
 ·exact E.map (F.put (E.map (E.map h2 (.to g)) (.old nl)) (hF.old nl) ((hO.to g).appd hown hblk hg)) (.old nl)
 ·rw[hp b (by omega)];exact h3
 ·rw[hp k (by have:=(h6 k hk).2.2;omega)];exact(h6 k hk).1
theorem obox_fin{χ:Nat→Col}{B0 k:Nat}{u z:World}{vs:List Value}(h:E.O B χ 0 u vs x)(hk:But k u z)(hb:k<B)(h0:B0≤B):E.O B0 χ 0 z vs x:=E.map (E.map h (.keep (hk.keeps hb))) (.mono h0)
theorem obox_to{χ:Nat→Col}{u z:World}{vs:List Value}(h:E.O B χ 0 u vs x)(g:Grows u z):E.O B χ 0 z vs x:=E.map h (.to g)
end
section
variable {P:Program} {ops:Array Oper} {rest:List Oper} {op:Oper} {act:Act} {w w0:World} {Q:Exit→Act→World→Prop} {X:Nat→Prop} {B b:Nat} {α β:Type} [E:OBox α] [E2:Flat β] {x:α} {F:FS α β} {l:List β} {a:Option Addr} {c n:Nat}
theorem app_len{α:Type}{l:List α}{n:Nat}{y:α}(h:l.length=n):(l++[y]).length=n+1:=by rw[List.length_append,h];rfl
theorem step_gbN(hn:l.length=n)(hgd:op.guard=none)(ty:TypeId)(p v:Operand)(ho:op.op=.store ty p v)(h:GBp F X B b w x l a c)(hx:act.eval p=.pointer (some ⟨b,F.off,none⟩))(hv:act.eval v=.slice a n c)(hi:(P.info? ty).map (·.size)=some 1)
  (g:Grows w0 w) (hb:w0.heap.size≤B) (K:∀ z:Later w0,GB X B b z.w (F.set x l)→wpList P ops Q rest (act.put op.dst undef) z.w):wpList P ops Q (op::rest) act w :=
 step_gbS hgd ty p v ho h hx (by rw[hn];exact hv) hi g hb fun z h1 _=>K z h1
end
def gFst:List Value→Value
 | [.tuple t]=>t.getD 0 undef
 | _=>undef
def gSnd:List Value→Value
 | [.tuple t]=>t.getD 1 undef
 | _=>undef
def gOne:List Value→Value
 | [v]=>v
 | _=>undef
def isOB{α:Type}[E:OBox α](B:Nat)(x:α)(b:Bool)(v:Value)(w:World):Prop:=∃ (vs:List Value) (χ:Nat→Col),v=.tuple #[.agg vs.toArray,.bool b]∧E.O B χ 0 w vs x
def entOB{α:Type}[E:OBox α](B:Nat)(x:α)(b:Bool):Ent Gr:=.of (isOB B x b) (fun _ _ _ g ⟨vs,χ,e,h⟩=>⟨vs,χ,e,E.map h (.to ⟨g⟩)⟩)
def isO{α:Type}[E:OBox α](B:Nat)(x:α)(v:Value)(w:World):Prop:=∃ (vs:List Value) (χ:Nat→Col),v=.agg vs.toArray∧E.O B χ 0 w vs x
def entO{α:Type}[E:OBox α](B:Nat)(x:α):Ent Gr:=.of (isO B x) (fun _ _ _ g ⟨vs,χ,e,h⟩=>⟨vs,χ,e,E.map h (.to ⟨g⟩)⟩)
theorem Own.heldB{α:Type}{T size g B c:Nat}{w:World}{enc:α→List Value}{l:List α}(h:Own enc T size B w (some ⟨g,0,none⟩) c l):∃ cs:List Value,Held w g cs T∧l.length*size≤cs.length:=by
 obtain⟨hsz,-,⟨hv,hn0⟩|⟨g',cap,cur,hv,hB,hheap,hle,hmax,hcs,-⟩⟩:=h
 ·simp at hv
 ·simp only[Value.slice.injEq,Option.some.injEq,Addr.mk.injEq]at hv
  obtain⟨⟨rfl,-,-⟩,-,rfl⟩:=hv
  refine⟨cur.toList,by unfold Held;simpa using hheap,?_⟩
  rw[show cur.toList.length=cur.size by simp,hcs];exact Nat.mul_le_mul_right _ hle
theorem GBp.same{α β:Type}[E:OBox α][E2:Flat β]{F:FS α β}{X:Nat→Prop}{B b:Nat}{w:World}{x:α}{l:List β}{a:Option Addr}{c:Nat}(h:GBp F X B b w x l a c)(hc:w.cell? ⟨b,F.off,none⟩=some (.slice a l.length c)):GB X B b w (F.set x l):=by
 obtain⟨χ,vs,h1,-,h3,h4,h5,h6,h7⟩:=h
 rw[h1.cell]at hc
 obtain⟨hl,he⟩:=List.getElem?_eq_some_iff.1 hc
 rw[← he,List.set_getElem_self]at h3
 exact⟨χ,vs,h1,h3,h4,h5,h6,h7⟩
section
variable {P:Program} {ops:Array Oper} {rest:List Oper} {op:Oper} {act:Act} {w w0:World} {Q:Exit→Act→World→Prop} {X:Nat→Prop} {B b:Nat} {α β:Type} [E:OBox α] [E2:Flat β] {x:α}
theorem step_gbE{q j c:Nat}{y0:β}{v0:Value}(F:FS α β)(hgd:op.guard=none)(ty:TypeId)(p v:Operand)(ho:op.op=.store ty p v)(h:GB X B b w x)(hc:w.cell? ⟨b,F.off,none⟩=some (.slice (some ⟨q,0,none⟩) (F.get x).length c))(hqb:q≠b)(hsz:E2.size=1)(hx:act.eval p=.pointer (some ⟨q,j,none⟩))(hv:(act.eval v).cells.toList=[v0])(hi:(P.info? ty).map (·.size)=some 1)(h1:v0.oneCell'=true)
  (hj:j<(F.get x).length) (hy:E2.enc y0=[v0]) (hg:E2.good y0) (g:Grows w0 w) (hb:w0.heap.size≤B) (K:∀ z:Later w0,GB X B b z.w (F.set x ((F.get x).set j y0))→wpList P ops Q rest (act.put op.dst undef) z.w):wpList P ops Q (op::rest) act w:=by
 obtain⟨a1,c1,ec,hO,hgood,-⟩:=h.own F
 have e1:=(ec w).symm.trans hc
 simp only[Option.some.injEq,Value.slice.injEq,true_and]at e1
 obtain⟨rfl,rfl⟩:=e1
 obtain⟨cs,hH,hcl⟩:=Own.heldB hO
 refine wpList_plain hgd fun _ hK=>?_
 unfold Oper.wp execOp
 simp only[ho,hx,Instr.storeAt,Instr.sureAddr,Sem.run_bind,Sem.run_pure,Result.andThen_ok,run_storeVar_held hv (hH.there (o:=j) (n:=1) (by rw[hsz]at hcl;omega)) hi (fun u hu=>by simp at hu;subst hu;exact h1)]
 have hO1:Own E2.enc E2.ty 1 B w (some ⟨q,0,none⟩) c1 (F.get x):=hsz▸hO
 obtain⟨p1,p2⟩:=hO1.put1 hj hy
 have p1':Own E2.enc E2.ty E2.size B (w.setCell ⟨q,j,none⟩ v0) (some ⟨q,0,none⟩) c1 ((F.get x).set j y0):=by rw[hsz];exact p1
 have hq:B≤q:=(hO.blk q rfl).1
 have r:=(GBp.upd (n:=0) h hc ii p1' (by rw[ownBlock_eq];exact p2) (.inl rfl) (fun z hz=>by
  rcases List.mem_or_eq_of_mem_set hz with hz|rfl
  ·exact hgood z hz
  ·exact hg)).1
 refine hK _ _ (K ⟨_,g.out.setCell (Nat.le_trans hb hq) v0⟩ (GBp.same r ?_))
 rw[World.cell?_setCell_far _ _ _ _ (by intro e;cases e;exact hqb rfl),hc,List.length_set]
theorem splice_ne:∀ (us cs:List Value) (o k:Nat),(k<o∨o+us.length≤k)→(splice cs o us)[k]?=cs[k]?
 | [],cs,o,k,_=>rfl
 | u::r,cs,o,k,h=>by
  rw[splice,splice_ne r (cs.set o u) (o+1) k (by simp only[List.length_cons]at h;omega),List.getElem?_set_ne (by simp only[List.length_cons]at h;omega)]
theorem step_gbK{us:List Value}{o:Nat}(x':α)(hgd:op.guard=none)(ty:TypeId)(p v:Operand)(ho:op.op=.store ty p v)(h:GB X B b w x)(hx:act.eval p=.pointer (some ⟨b,o,none⟩))(hv:(act.eval v).cells.toList=us)(hi:(P.info? ty).map (·.size)=some us.length)(h1:us.all (·.oneCell')=true)(hl:o+us.length≤E.size)
  (hm:∀ {χ vs w},E.O B χ 0 w vs x→E.O B χ 0 w (splice vs o us) x') (g:Grows w0 w) (hb:w0.heap.size≤B) (K:∀ z:Later w0,GB X B b z.w x'→(∀ k,(k<o∨o+us.length≤k)→z.w.cell? ⟨b,k,none⟩=w.cell? ⟨b,k,none⟩)→wpList P ops Q rest (act.put op.dst undef) z.w):wpList P ops Q (op::rest) act w:=by
 obtain⟨χ,vs,h0,h2,h3,h4,h5,h6⟩:=h
 exact stepStore2 hgd ty p v ho b o hx h0 (us:=us) (cs2:=splice vs o us) hv hi h1 (by rw[obox_len h2];exact hl) rfl g (Nat.le_trans hb h5) fun z hz hk =>
  K z ⟨χ,_,hz,gb_box (hm h2) h3 h5 (hk.grown1 g),h3,h4.mono (hk.grown1 g).size,h5,fun k hk'=>⟨(h6 k hk').1,(h6 k hk').2.1,Nat.lt_of_lt_of_le (h6 k hk').2.2 (hk.grown1 g).size⟩⟩ (fun k hk'=>by rw[hz.cell,h0.cell,splice_ne _ _ _ _ hk'])
end
theorem gKeeps{B:Nat}{u v:World}(g:Grows u v):Keeps B u v:=⟨g.out.size,fun k _ h2=>g.out.block k h2⟩
def cellLen(w:World)(b o:Nat):Nat:=match w.cell? ⟨b,o,none⟩with|some (.slice _ n _)=>n|_=>0
theorem cellLen_eq{w:World}{b o n c:Nat}{a:Option Addr}(h:w.cell? ⟨b,o,none⟩=some (.slice a n c)):cellLen w b o=n:=by rw[cellLen,h]
theorem GB.over{α:Type}[E:OBox α]{B q:Nat}{u u2 z:World}{χ:Nat→Col}{vs:List Value}{x:α}(h:E.O u.heap.size χ 0 u2 vs x)(hs:u.heap.size≤u2.heap.size)(k:But q u2 z)(hq:q<u.heap.size)(hB:B≤q)(H:Held z q vs E.ty):GB (fun _=>False) B q z x :=
 ⟨paint u.heap.size (fun _=>(1000,0)) (paint u2.heap.size χ (fun _=>(0,0)) (fun _=>(1000,0))) (shift 0),vs,H,
  E.map (E.map (E.map (E.map h (.old nl)) (.keep (k.keeps hq))) (.new nl)) (.mono (by omega)),by rw[paint,if_pos hq];exact Nat.le_refl _,
  fun b hb=>by rw[paint,if_neg (by have:=k.size;omega),paint,if_neg (by have:=k.size;omega)];exact Nat.le_refl _,hB,fun _ h=>h.elim⟩
theorem Sl.row0{α:Type}{enc:α→List Value}{w:World}{a:Option Addr}{x:α}{r:List α}(h:Sl enc w a (x::r)):∃ b off,a=some ⟨b,off,none⟩∧LtN b w.heap.size∧∀ (W:World),Grows w W→W.rangeAt b (off+0) (enc x):=by
 obtain⟨b,off,h1,h2,h3⟩:=h 0 x rfl
 refine⟨b,off,h1,⟨h2⟩,fun W g j v hv=>?_⟩
 have:=h3 j v hv
 rw[Nat.zero_mul]at this
 exact(g.out.cell (p:=⟨b,off+0+j,none⟩) h2).trans this
theorem step_gbNX{P:Program}{ops:Array Oper}{rest:List Oper}{op:Oper}{act:Act}{w w0:World}{Q:Exit→Act→World→Prop}{X:Nat→Prop}{B b:Nat}{α β:Type}[E:OBox α][E2:Flat β]{x:α}{F:FS α β}{l:List β}{a:Option Addr}{c n:Nat}(hn:l.length=n)(hgd:op.guard=none)(ty:TypeId)(p v:Operand)(ho:op.op=.store ty p v)(h:GBp F X B b w x l a c)(hx:act.eval p=.pointer (some ⟨b,F.off,none⟩))(hv:act.eval v=.slice a n c)(hi:(P.info? ty).map (·.size)=some 1)
  (g:Grows w0 w) (hb:w0.heap.size≤B) (K:∀ z:Later w0,GB X B b z.w (F.set x l)→(∀ k,X k→z.w.heap[k]?=w.heap[k]?)→wpList P ops Q rest (act.put op.dst undef) z.w):wpList P ops Q (op::rest) act w :=
 step_gbS hgd ty p v ho h hx (by rw[hn];exact hv) hi g hb K
instance OBox.iMission:OBox TMission where
 toEncO:=inferInstance
 ty:=90
 n:=22
 one:=by rintro _ _ _ _ _ _ ⟨A,rfl,-⟩;rfl
 map:=by rintro _ _ _ _ _ _ _ _ _ _ ⟨A,rfl,h⟩ t;exact⟨A,rfl,t.c 0 (by decide) h.o0,t.c 1 (by decide) h.o1,t.c 2 (by decide) h.o2,t.c 3 (by decide) h.o3,t.c 4 (by decide) h.o4,t.c 5 (by decide) h.o5,t.c 6 (by decide) h.o6,h.o7.elim fun r hr=>⟨r,hr.1,t.r 7 (by decide) hr.2⟩,t.c 8 (by decide) h.o8,t.c 9 (by decide) h.o9,t.c 10 (by decide) h.o10,t.c 11 (by decide) h.o11,t.c 12 (by decide) h.o12,t.c 13 (by decide) h.o13,t.c 14 (by decide) h.o14,t.c 15 (by decide) h.o15,t.c 16 (by decide) h.o16,t.c 17 (by decide) h.o17,h.o18.elim fun r hr=>⟨r,hr.1,t.r 18 (by decide) hr.2⟩,t.c 19 (by decide) h.o19,t.c 20 (by decide) h.o20,t.c 21 (by decide) h.o21,h.ok⟩
 nle:=by decide
def mAsked:FS TMission Int where
 off:=48
 col:=15
 get:=(·.Space.Board.Asked)
 set:=fun x l=>{ x with Space.Board.Asked:=l }
 own:=by rintro _ _ _ _ _ ⟨A,rfl,h⟩;exact⟨_,_,rfl,h.o15⟩
 put:=by rintro _ _ _ _ _ _ a c _ ⟨A,rfl,h⟩ f k;exact⟨{ A with a15:=a,c15:=c },rfl,h.put15 f k⟩
 lt:=by decide
 clt:=by decide
def mSFiles:FS TMission ByteArray where
 off:=54
 col:=17
 get:=(·.Space.Files)
 set:=fun x l=>{ x with Space.Files:=l }
 own:=by rintro _ _ _ _ _ ⟨A,rfl,h⟩;exact⟨_,_,rfl,h.o17⟩
 put:=by rintro _ _ _ _ _ _ a c _ ⟨A,rfl,h⟩ f k;exact⟨{ A with a17:=a,c17:=c },rfl,h.put17 f k⟩
 lt:=by decide
 clt:=by decide
def mBoard:FD TMission TBoard where
 off:=37
 col:=9
 get:=(·.Space.Board)
 set:=fun x y=>{ x with Space.Board:=y }
 own:=by rintro _ _ _ _ _ ⟨A,rfl,h⟩;exact⟨⟨A.a9,A.c9,A.a10,A.c10,A.a11,A.c11,A.a12,A.c12,A.a13,A.c13,A.a14,A.c14,A.a15,A.c15⟩,rfl,h.o9,h.o10,h.o11,h.o12,h.o13,h.o14,h.o15,h.ok.2.2.2.2.2.2.2.1.2.1⟩
 put:=by
  rintro _ _ _ _ _ _ _ _ ⟨A,rfl,h⟩ f ⟨A2,rfl,k⟩
  exact⟨{ A with a9:=A2.a0,c9:=A2.c0,a10:=A2.a1,c10:=A2.c1,a11:=A2.a2,c11:=A2.c2,a12:=A2.a3,c12:=A2.c3,a13:=A2.a4,c13:=A2.c4,a14:=A2.a5,c14:=A2.c5,a15:=A2.a6,c15:=A2.c6 },rfl,h.o0.fr f (by simp[OBox.n]),h.o1.fr f (by simp[OBox.n]),h.o2.fr f (by simp[OBox.n]),h.o3.fr f (by simp[OBox.n]),h.o4.fr f (by simp[OBox.n]),h.o5.fr f (by simp[OBox.n]),h.o6.fr f (by simp[OBox.n]),h.o7.elim fun r hr=>⟨r,hr.1,hr.2.fr f (by simp[OBox.n])⟩,h.o8.fr f (by simp[OBox.n]),k.o0,k.o1,k.o2,k.o3,k.o4,k.o5,k.o6,h.o16.fr f (by simp[OBox.n]),h.o17.fr f (by simp[OBox.n]),h.o18.elim fun r hr=>⟨r,hr.1,hr.2.fr f (by simp[OBox.n])⟩,h.o19.fr f (by simp[OBox.n]),h.o20.fr f (by simp[OBox.n]),h.o21.fr f (by simp[OBox.n]),by have q:=h.ok;exact⟨q.1,q.2.1,q.2.2.1,q.2.2.2.1,q.2.2.2.2.1,q.2.2.2.2.2.1,q.2.2.2.2.2.2.1,⟨q.2.2.2.2.2.2.2.1.1,k.ok,q.2.2.2.2.2.2.2.1.2.2⟩,q.2.2.2.2.2.2.2.2⟩⟩
 le:=by decide
 cle:=by decide
structure FN(α β:Type){γ:Type}[A:OBox α][N:Nest β γ][Flat γ] where
 off:Nat
 col:Nat
 get:α→List β
 set:α→List β→α
 own:∀ {B χ w vs x},A.O B χ 0 w vs x→∃ (a:Option Addr) (c:Nat) (rows:List (NRow β)),vs[off]?=some (.slice a (get x).length c)∧rows.map (·.x)=get x∧OwnN B χ col w a c rows
 put:∀ {B χ w w2 vs x a c} {rows:List (NRow β)} {l:List β},A.O B χ 0 w vs x→Fr B χ (fun i=>i.1=col) w w2→vs[off]?=some (.slice a (get x).length c)→rows.map (·.x)=l→l.length=(get x).length→OwnN B χ col w2 a c rows→A.O B χ 0 w2 vs (set x l)
 clt:col<A.n
theorem gb_time{X:Nat→Prop}{B b:Nat}{w:World}{m:TMission}(h:GB X B b w m):∀ (W:World) [Grows w W],W.cell? ⟨b,0,none⟩=some (.int .i64 m.Time):=by
 obtain⟨vs,hH,-,-,hR,-⟩:=h.vs
 obtain⟨A,rfl,-⟩:=hR
 exact hH.cellG 0 _ rfl
theorem gb_cells{X:Nat→Prop}{B b:Nat}{w:World}{m:TMission}(h:GB X B b w m):∃ (vs:List Value) (A:TMissionA),Held w b vs 90∧vs=[.int .i64 m.Time,.int .i64 m.Light,.int .i64 m.Drift.Rate,.int .i64 m.Drift.Offset,.int .i64 m.Orbit.Period,.int .i64 m.Orbit.Start,.int .i64 m.Orbit.Length,.slice A.a0 m.Plan.length A.c0,.int .i64 m.Up.Seed,.int .i64 m.Up.Burst,.int .i64 m.Up.Loss,.int .i64 m.Down.Seed,.int .i64 m.Down.Burst,.int .i64 m.Down.Loss,.slice A.a1 m.Ups.length A.c1,.slice A.a2 m.Downs.length A.c2,.slice A.a3 m.Ground.Offers.length A.c3,.int .i64 m.Ground.Sender.Next,.int .i64 m.Ground.Sender.Window,.slice A.a4 m.Ground.Sender.Waiting.length A.c4,.int .i64 m.Ground.Sender.Done,.int .i64 m.Ground.Notice.Expect,.bool m.Ground.Notice.Locked,.bool m.Ground.Notice.Again,.int .i64 m.Ground.Unpacker.Channel,.int .i64 m.Ground.Unpacker.Next,.bool m.Ground.Unpacker.Synced,.string m.Ground.Unpacker.Rest,.int .i64 m.Ground.Unpacker.Lost,.slice A.a5 m.Ground.Pairs.length A.c5,.slice A.a6 m.Ground.Records.length A.c6,.slice A.a7 m.Ground.Files.length A.c7,.slice A.a8 m.Ground.Told.length A.c8,.int .i64 m.Space.Receiver.Expect,.bool m.Space.Receiver.Locked,.bool m.Space.Receiver.Again,.int .i64 m.Space.Receiver.Taken,.int .i64 m.Space.Board.Clock,.slice A.a9 m.Space.Board.Params.length A.c9,.bool m.Space.Board.Safe,.slice A.a10 m.Space.Board.Limits.length A.c10,.slice A.a11 m.Space.Board.Orders.length A.c11,.slice A.a12 m.Space.Board.Done.length A.c12,.int .i64 m.Space.Board.Recorder.Room,.slice A.a13 m.Space.Board.Recorder.Records.length A.c13,.slice A.a14 m.Space.Board.Recorder.Dropped.length A.c14,.int .i64 m.Space.Board.Made,.int .i64 m.Space.Board.Taken,.slice A.a15 m.Space.Board.Asked.length A.c15,.int .i64 m.Space.Packer.Channel,.int .i64 m.Space.Packer.Count,.string m.Space.Packer.Rest,.slice A.a16 m.Space.Packer.Starts.length A.c16,.int .i64 m.Space.Seq,.slice A.a17 m.Space.Files.length A.c17,.slice A.a18 m.Space.Outs.length A.c18,.int .i64 m.Space.Begun,.slice A.a19 m.Space.Sent.length A.c19,.slice A.a20 m.Offered.length A.c20,.slice A.a21 m.Took.length A.c21,.int .i64 m.Bad]∧TMissionF B w A m:=by
 obtain⟨vs,hH,-,-,⟨A,hv,F⟩,-⟩:=h.vs
 exact⟨vs,A,hH,hv,F⟩
theorem stepLoad1W{P:Program}{ops:Array Oper}{rest:List Oper}{op:Oper}{a:Act}{w:World}{Q:Exit→Act→World→Prop}(hw:Region.wanted op (yielded ops a.tmps)=true)(ty:TypeId)(x:Operand)(ho:op.op=.load ty x)(b o:Nat)(hx:a.eval x=.pointer (some ⟨b,o,none⟩)){cs:List Value}{T:TypeId}(H:Held w b cs T)(v:Value)(hv:cs[o]?=some v)
  (d:TypeDesc) (hu:P.underlying ty=some d) (hd:d.isRow=false) (h:wpList P ops Q rest (a.put op.dst v) w):wpList P ops Q (op::rest) a w :=
 wpList_step fun K hK=>st_load1 hw ty x ho b o hx H v hv d hu hd (hK _ _ h)
theorem addr_add(b o k:Nat):(⟨b,o,none⟩:Addr).add k=⟨b,o+k,none⟩:=by
 unfold Addr.add;split
 ·rename_i h;rw[h,Nat.add_zero]
 ·rfl
theorem GB.ownN{α β γ:Type}[E:OBox α][N:Nest β γ][E2:Flat γ]{X:Nat→Prop}{B b:Nat}{w:World}{x:α}(F:FN α β)(h:GB X B b w x):∃ a c,(∀ (W:World) [Grows w W],W.cell? ⟨b,F.off,none⟩=some (.slice a (F.get x).length c))∧(0<(F.get x).length→∃ g,a=some ⟨g,0,none⟩):=by
 obtain⟨χ,vs,h1,h2,-⟩:=h
 obtain⟨a,c,rows,hv,hx,k⟩:=F.own h2
 refine⟨a,c,h1.cellG F.off _ hv,fun h0=>?_⟩
 obtain⟨-,-,⟨hv1,hn1⟩|⟨g,cap,cur,hv1,-⟩⟩:=k.own
 ·rw[← hx,List.length_map]at h0;omega
 ·simp only[Value.slice.injEq]at hv1;exact⟨g,hv1.1⟩
theorem Own.at0{α:Type}{enc:α→List Value}{T size B:Nat}{w:World}{a:Option Addr}{c:Nat}{l:List α}(h:Own enc T size B w a c l):(a=none∧c=0)∨∃ g,a=some ⟨g,0,none⟩:=by
 obtain⟨-,-,⟨hv1,hn1⟩|⟨g,cap,cur,hv1,-⟩⟩:=h
 ·simp only[Value.slice.injEq]at hv1;exact .inl ⟨hv1.1,hv1.2.2⟩
 ·simp only[Value.slice.injEq]at hv1;exact .inr ⟨g,hv1.1⟩
theorem cell_heap{w w':World}{b:Nat}(h:w'.heap[b]?=w.heap[b]?)(o:Nat):w'.cell? ⟨b,o,none⟩=w.cell? ⟨b,o,none⟩:=by
 simp only[World.cell?,h]
section
variable {P:Program} {ops:Array Oper} {rest:List Oper} {op:Oper} {act:Act} {u w w0:World} {Q:Exit→Act→World→Prop} {X:Nat→Prop} {B b:Nat} {α β γ:Type} [E:OBox α] [N:Nest β γ] [E2:Flat γ] {x:α}
theorem step_gbR{q j c:Nat}{y:β}{ra:Option Addr}{rc:Nat}{i0:Col}{χ2:Nat→Col}(F:FN α β)(hgd:op.guard=none)(ty:TypeId)(p v:Operand)(ho:op.op=.store ty p v)(h:GB X B b u x)(g:Grows u w)(hc:u.cell? ⟨b,F.off,none⟩=some (.slice (some ⟨q,0,none⟩) (F.get x).length c))
  (hj:j<(F.get x).length) (k:OwnC u.heap.size χ2 i0 w ra rc (N.inner y)) (hy:N.good y) (hs4:N.size=4) {o4:Nat} (hx:act.eval p=.pointer (some ⟨q,o4,none⟩)) (ho4:o4=j*4) {v0 v1 v2 v3:Value} (hr:N.cells y ra rc=[v0,v1,v2,v3]) (hv:(act.eval v).cells.toList=[v0,v1,v2,v3]) (hi:(P.info? ty).map (·.size)=some 4)
  (gw:Grows w0 w) (hb:w0.heap.size≤B) (K:∀ z:Later w0,GB X B b z.w (F.set x ((F.get x).set j y))→b≠q→(∀ k,k<w.heap.size→k≠q→z.w.heap[k]?=w.heap[k]?)→wpList P ops Q rest (act.put op.dst undef) z.w):wpList P ops Q (op::rest) act w:=by
 subst ho4
 have hlu:=h.lt
 obtain⟨χ,vs,h1,h2,h3,h4,h5,h6⟩:=h
 obtain⟨a1,c1,rows,hv1,hxr,hN⟩:=F.own h2
 rw[h1.cell,hv1]at hc
 simp only[Option.some.injEq,Value.slice.injEq,true_and]at hc
 obtain⟨rfl,rfl⟩:=hc
 have hlen:rows.length=(F.get x).length:=by rw[← hxr,List.length_map]
 have hq:=hN.own.blk q rfl
 have hone:[v0,v1,v2,v3].all (·.oneCell')=true:=List.all_eq_true.2 fun u hu=>N.one y ra rc u (by rw[hr];exact hu)
 have hO4:Own (encN (α:=β)) N.ty 4 B w (some ⟨q,0,none⟩) c1 rows:=hs4▸(hN.to g).own
 have hc1:=F.clt
 have hn1:=E.nle
 refine wpList_step fun K' hK=>st_storeOwn4 (by simp[Region.wanted,hgd]) ty p v ho j hx hO4 (hlen▸hj) ⟨y,ra,rc⟩ hr hv hi hone gw hb fun z hown hg=>hK _ _ ?_
 have hsu:=g.out.size
 have hsz:=hg.size
 have hown:Own (encN (α:=β)) N.ty N.size B z.w (some ⟨q,0,none⟩) c1 (rows.set j ⟨y,ra,rc⟩):=by rw[hs4];exact hown
 have hcq:χ q=(F.col,0):=hN.col q rfl
 let χ1:Nat→Col:=paint u.heap.size χ χ2 (fun _=>(F.col,j+1))
 have hc1q:χ1 q=(F.col,0):=by show paint _ _ _ _ q=_;rw[paint,if_pos hq.2];exact hcq
 have hfr:Fr B χ1 (·=(F.col,0)) w z.w:=⟨hg.os,hg.tape,hg.output,hg.size,fun k h2 h3=>hg.block k h2 (fun e=>h3 (by cases e;exact⟨hq.1,hc1q⟩))⟩
 have hNz:OwnN B χ1 F.col z.w (some ⟨q,0,none⟩) c1 (rows.set j ⟨y,ra,rc⟩):=by
  refine⟨hown,fun k hk=>by cases hk;exact hc1q,fun i r hr=>?_⟩
  by_cases hij:i=j
  ·subst hij
   rw[List.getElem?_set_self (by rw[hlen];exact hj)]at hr
   cases hr
   exact⟨hy,((k.new (χ:=χ) (f:=fun _=>(F.col,i+1)) nl).mono (by omega)).fr hfr (by simp)⟩
  ·rw[List.getElem?_set_ne (fun e=>hij e.symm)]at hr
   obtain⟨p1,p2⟩:=hN.each i r hr
   exact⟨p1,(OwnC.to (OwnC.old (χ2:=χ2) (f:=fun _=>(F.col,j+1)) p2 nl) g).fr hfr (by simp)⟩
 have hO:E.O B χ1 0 z.w vs (F.set x ((F.get x).set j y)) :=
  F.put (E.map (E.map h2 (.old (χ2:=χ2) (f:=fun _=>(F.col,j+1)) nl)) (.to g)) (hfr.wide (fun i hi=>by rw[hi])) hv1 (by rw[List.map_set,hxr]) (List.length_set ..) hNz
 have hX:∀ k,1000≤(χ k).1→k<u.heap.size→z.w.heap[k]?=w.heap[k]?:=fun k hk hl=>hg.block k (by omega) (fun e=>by cases e;rw[hcq]at hk;simp only at hk;omega)
 refine K z ⟨paint z.w.heap.size χ1 (fun _=>(0,0)) (fun _=>(1000,0)),vs,?_,E.map hO (.old nl),?_,freshU nl,h5,fun k hk=>⟨?_,(h6 k hk).2.1,by have:=(h6 k hk).2.2;omega⟩⟩ (fun e=>by subst e;rw[hcq]at h3;simp only at h3;omega) (fun k hk hn=>hg.block k hk (fun e=>hn (by cases e;rfl)))
 ·have h1':=h1.to g
  unfold Held at h1' ⊢
  rw[hX b h3 hlu];exact h1'
 ·rw[paint,if_pos (by omega)]
  show 1000≤(paint _ _ _ _ b).1
  rw[paint,if_pos hlu];exact h3
 ·have:=(h6 k hk).2.2
  rw[paint,if_pos (by omega)]
  show 1000≤(paint _ _ _ _ k).1
  rw[paint,if_pos this];exact(h6 k hk).1
end
def mOuts:FN TMission TFileOut where
 off:=55
 col:=18
 get:=(·.Space.Outs)
 set:=fun x l=>{ x with Space.Outs:=l }
 own:=by rintro _ _ _ _ _ ⟨A,rfl,h⟩;obtain⟨rows,h1,h2⟩:=h.o18;exact⟨_,_,rows,rfl,h1,h2⟩
 put:=by
  rintro _ _ _ _ _ _ a c _ _ ⟨A,rfl,h⟩ f hv hm hl k
  have hv:some (Value.slice A.a18 _ A.c18)=some (Value.slice a _ c):=hv
  simp only[Option.some.injEq,Value.slice.injEq,true_and]at hv
  obtain⟨rfl,rfl⟩:=hv
  refine⟨A,?_,h.o0.fr f (by simp),h.o1.fr f (by simp),h.o2.fr f (by simp),h.o3.fr f (by simp),h.o4.fr f (by simp),h.o5.fr f (by simp),h.o6.fr f (by simp),h.o7.elim fun r hr=>⟨r,hr.1,hr.2.fr f (by simp)⟩,h.o8.fr f (by simp),h.o9.fr f (by simp),h.o10.fr f (by simp),h.o11.fr f (by simp),h.o12.fr f (by simp),h.o13.fr f (by simp),h.o14.fr f (by simp),h.o15.fr f (by simp),h.o16.fr f (by simp),h.o17.fr f (by simp),⟨_,hm,k⟩,h.o19.fr f (by simp),h.o20.fr f (by simp),h.o21.fr f (by simp),h.ok⟩
  simp only[dMission,cMission,hl]
 clt:=by decide
