/- The contracts of the mirrors, sizes and equalities of flat structs (2). No condition but on sizes. The contracts of the mirrors, sizes and equalities of slices of plain values. No condition but on sizes. The contracts of the mirrors, sizes and equalities of files. No condition but on sizes. The contracts of EncodeEnd, EncodeSegment, SegmentOf. No condition but on numbers. The contracts of FileText and MissingOf. No condition but on lengths. The contract of MissingOf, the reference's. No condition but on lengths. The contract of FileText, the reference's. No condition but on lengths. -/
import Derived.Test.YtbaffippdifbpaaGreatSDTy
import Derived.Test.YtbaffippdifbpaaGreatSCrc
import Derived.Test.YtbaffippdifbpaaGreatSM9
import Derived.Test.YtbaffippdifbpaaGreatSFileI
namespace Go.Proofs.YtbaffippdifbpaaGreat
set_option linter.unusedVariables false
open Go.ChangeShapes Go.WideShapes Go.ChangeAt Go.RowKit
end Go.Proofs.YtbaffippdifbpaaGreat
namespace Go.Proofs.YtbaffippdifbpaaGreat
set_option linter.unusedVariables false
open Go.ChangeShapes Go.WideShapes Go.ChangeAt Go.RowKit
end Go.Proofs.YtbaffippdifbpaaGreat
namespace Go.Proofs.YtbaffippdifbpaaGreat
set_option linter.unusedVariables false
open Go.ChangeShapes Go.WideShapes Go.ChangeAt Go.RowKit
end Go.Proofs.YtbaffippdifbpaaGreat
namespace Go.Proofs.YtbaffippdifbpaaGreat
set_option linter.unusedVariables false
open Go.ChangeShapes Go.WideShapes Go.ChangeAt Go.RowKit
@[go_sem] theorem word1_size(n:Int):(word1 n).size=1:=rfl
@[go_sem] theorem word2_size(n:Int):(word2 n).size=2:=rfl
def wordM(m n:Int):ByteArray:=if m=1 then word1 n else word2 n
@[go_sem] theorem wordM_one(n:Int):wordM 1 n=word1 n:=rfl
@[go_sem] theorem wordM_two(n:Int):wordM 2 n=word2 n:=rfl
end Go.Proofs.YtbaffippdifbpaaGreat
namespace Go.Proofs.YtbaffippdifbpaaGreat
set_option linter.unusedVariables false
open Go.ChangeShapes Go.WideShapes Go.ChangeAt Go.RowKit
def joined(p:List ByteArray):ByteArray:=p.foldl (·++·) ⟨#[]⟩
def noEmpty(p:List ByteArray):Bool:=p.all (fun s=>!(s.toList == []))
def segsIn(z:Int)(p:List ByteArray):List ByteArray:=p.take (countSeg z).toNat
def textIs(f z k:Int)(p:List ByteArray):Bool:=fileInOk f z k p && (!(z == -1) && (noEmpty (segsIn z p) && (((joined (segsIn z p)).size:Int) == z && checkOf (joined (segsIn z p)) == k)))
def fileText(f z k:Int)(p:List ByteArray):ByteArray:=if textIs f z k p=true then joined (segsIn z p)else⟨#[]⟩
theorem joined_snoc(p:List ByteArray)(s:ByteArray):joined (p++[s])=joined p++s:=by simp[joined,List.foldl_append]
theorem noEmpty_snoc(p:List ByteArray)(s:ByteArray):noEmpty (p++[s])=(noEmpty p && !(s.toList == [])):=by simp[noEmpty,List.all_append]
theorem fileInOk_parts{f z k:Int}{p:List ByteArray}(h:fileInOk f z k p=true):p.length=25∧∀ s∈p,s.size≤24:=by
 simp only[fileInOk,Bool.and_eq_true,decide_eq_true_eq]at h
 refine⟨h.2.2.2.2.1,fun s hs=>?_⟩
 have:=List.all_eq_true.1 h.2.2.2.2.2 s hs
 simpa using this
theorem take_snoc2{p:List ByteArray}{j:Nat}{s:ByteArray}(h:p[j]?=some s):p.take (j+1)=p.take j++[s]:=by
 rw[List.take_add_one,h];rfl
def tupText(t:ByteArray)(b:Bool):Value:=.tuple #[.string t,.bool b]
set_option maxRecDepth 100000 in
set_option maxHeartbeats 2000000 in
theorem c_iFileText{a:Option Addr}{n c:Nat}{f z k:Int}{p:List ByteArray}{w:World}(hs:Sl encStr w a p)(hn:p.length=n)(hm:n≤100000000)(hsz:∀ s∈p,s.size≤100000000) :
  Calls Tryz.prog 109 #[.agg #[.int .i64 f,.int .i64 z,.int .i64 k,.slice a n c]] w (Gives w (tupText (fileText f z k p) (textIs f z k p))):=by
 have HS:=lH hsz;clear hsz
 cases c0:fileInOk f z k p
 ·have HV:=lH (show textIs f z k p=false by rw[textIs,c0];rfl)
  go_enter Tryz.func109,Tryz.ntmps109
  go_wp2_with (first|((with_reducible refine wp_region_later (by kernel_rfl) (by kernel_rfl) ?_);(repeat(first|go_big_quiet_step (first|fail)));refine wpQuiet_nil ?_;rintro _ ⟨x,rfl⟩))
  refine(c_iFileInOk (hs.to inferInstance) hn (by omega) HS.out).mono ?_
  rintro _ _ ⟨rfl,y1,rfl⟩
  go_wp2_with (first|((with_reducible refine wp_region_later (by kernel_rfl) (by kernel_rfl) ?_);(repeat(first|go_big_quiet_step (first|fail)|simp only[c0]));refine wpQuiet_nil ?_;rintro _ ⟨x,rfl⟩))
  refine bodyPost_ret (v:=.tuple #[.string ⟨#[]⟩,.bool false]) ?_ rfl (Gives.mk (by rw[fileText,HV.out];rfl))
  simp[results,Tryz.results109,go_sem]
 have hpp:=fileInOk_parts c0
 have h25:n=25:=by omega
 have HP:=lH hpp.2;clear hpp
 cases c1:(z == -1)
 ·obtain⟨N,hN⟩:∃ N:Nat,countSeg z=N:=⟨(countSeg z).toNat,by have:=countSeg_bd z;omega⟩
  have hNb:N≤25:=by have:=countSeg_bd z;omega
  have HN:=lH (show segsIn z p=p.take N by rw[segsIn,hN];rfl)
  have HC:=lH hN;clear hN
  have HV:=lH (show textIs f z k p=(noEmpty (p.take N) && (((joined (p.take N)).size:Int) == z && checkOf (joined (p.take N)) == k))by rw[textIs,c0,c1,HN.out];rfl)
  have H25:=lH h25
  have hnn:25≤n:=by omega
  clear h25
  go_enter Tryz.func109,Tryz.ntmps109
  go_wp2_with (first|((with_reducible refine wp_region_later (by kernel_rfl) (by kernel_rfl) ?_);(repeat(first|go_big_quiet_step (first|fail)));refine wpQuiet_nil ?_;rintro _ ⟨x,rfl⟩))
  refine(c_iFileInOk (hs.to inferInstance) hn (by omega) HS.out).mono ?_
  rintro _ _ ⟨rfl,y1,rfl⟩
  go_wp2_with (first|((with_reducible refine wp_region_later (by kernel_rfl) (by kernel_rfl) ?_);(repeat(first|go_big_quiet_step (first|fail)|simp only[c0]|simp only[c1]));refine wpQuiet_nil ?_;rintro _ ⟨x,rfl⟩))
  refine c_iCountSegments.mono ?_
  rintro _ _ ⟨rfl,y2,rfl⟩
  rw[HC.out]
  go_wp2_with (first|((with_reducible refine wp_region_later (by kernel_rfl) (by kernel_rfl) ?_);(repeat(first|go_big_quiet_step (first|fail)));refine wpQuiet_nil ?_;rintro _ ⟨x,rfl⟩))
  go_loopw [4,17] (fun u v wr=>∃ (j:Nat) (acc:ByteArray),v=.int .i64 j∧u=.string acc∧j≤N∧acc.size≤24*j∧Hid (acc=joined (p.take j)∧noEmpty (p.take j)=true)∧∃ x:Later (w.alloc (.cells #[.int .i64 f,.int .i64 z,.int .i64 k,.slice a n c] 140)),wr=x.w) (fun _ v _=>(N - intOf v).toNat)
  case atStart=>exact⟨0,_,rfl,rfl,by omega,by simp[ByteArray.size],⟨rfl,rfl⟩,Later.of⟩
  case round =>
   obtain⟨j,acc,rfl,rfl,hj,hacc,hf,x,rfl⟩:=hrel
   by_cases h:j<N
   ·have hjn:j<n:=by omega
    obtain⟨b,off,s,rfl,hb,hd,h0⟩:=hs.str (show j<p.length by omega)
    have hps:p[j]?=some s:=by
     have:=congrArg (fun m=>m[0]?) hd.out
     simpa using this
    have hss:s.size≤24:=HP.out s (List.mem_of_getElem? hps)
    have HPS:=lH hps;clear hps hd
    cases c2:(s.toList == [])
    ·have HF:=lH (show acc++s=joined (p.take (j+1))∧noEmpty (p.take (j+1))=true by
      rw[take_snoc2 HPS.out,joined_snoc,noEmpty_snoc,hf.out.2,c2,← hf.out.1];exact⟨rfl,rfl⟩)
     go_wp2_with (first|((with_reducible refine wp_region_later (by kernel_rfl) (by kernel_rfl) ?_);(repeat(first|go_big_quiet_step (first|fail)|simp only[c2]));refine wpQuiet_nil ?_;rintro _ ⟨x,rfl⟩))
     go_roundw
     case rel=>exact⟨j+1,_,by go_num,rfl,by omega,by rw[ByteArray.size_append];omega,HF,Later.of⟩
     case measure=>simp[intOf];omega
    ·have HF:=lH (show textIs f z k p=false by
      have h8:noEmpty (p.take N)=false:=by
       cases h9:noEmpty (p.take N)
       ·rfl
       ·have hmem:s∈p.take N:=List.mem_of_getElem? (i:=j) (by rw[List.getElem?_take_of_lt h];exact HPS.out)
        have:=List.all_eq_true.1 h9 s hmem
        rw[c2]at this;cases this
      rw[HV.out,h8];rfl)
     clear HV hf
     go_wp2_with (first|((with_reducible refine wp_region_later (by kernel_rfl) (by kernel_rfl) ?_);(repeat(first|go_big_quiet_step (first|fail)|simp only[c2]));refine wpQuiet_nil ?_;rintro _ ⟨x,rfl⟩))
     refine bodyPost_ret (v:=.tuple #[.string ⟨#[]⟩,.bool false]) ?_ rfl (Gives.mk (by rw[fileText,HF.out];rfl))
     simp[results,Tryz.results109,go_sem]
   ·have hjN:j=N:=by omega
    have HF:=lH (show acc=joined (p.take N)∧noEmpty (p.take N)=true by rw[← hjN];exact hf.out)
    clear hf hjN
    have HV2:=lH (show textIs f z k p=(((acc.size:Int) == z) && (checkOf acc == k))by rw[HV.out,HF.out.2,HF.out.1];rfl)
    have HT:=lH (show joined (segsIn z p)=acc by rw[HN.out,HF.out.1])
    clear HV HF
    cases c3:((acc.size:Int) == z)
    ·have c4:((acc.size:Int) != z)=true:=by rw[bne,c3];rfl
     have HV3:=lH (show textIs f z k p=false by rw[HV2.out,c3];rfl)
     go_wp2_with (first|((with_reducible refine wp_region_later (by kernel_rfl) (by kernel_rfl) ?_);(repeat(first|go_big_quiet_step (first|(go_at_call 232;exact Gives.quiet (c_iCheckOf (by omega))))|simp only[c4]));refine wpQuiet_nil ?_;rintro _ ⟨x,rfl⟩)|(go_at_call 232;refine(c_iCheckOf (by omega)).mono ?_;rintro _ _ ⟨rfl,x,rfl⟩))
     refine bodyPost_ret (v:=.tuple #[.string ⟨#[]⟩,.bool false]) ?_ rfl (Gives.mk (by rw[fileText,HV3.out];rfl))
     simp[results,Tryz.results109,go_sem]
    ·have c4:((acc.size:Int) != z)=false:=by rw[bne,c3];rfl
     cases c5:(checkOf acc == k)
     ·have c6:(checkOf acc != k)=true:=by rw[bne,c5];rfl
      have HV3:=lH (show textIs f z k p=false by rw[HV2.out,c3,c5];rfl)
      go_wp2_with (first|((with_reducible refine wp_region_later (by kernel_rfl) (by kernel_rfl) ?_);(repeat(first|go_big_quiet_step (first|(go_at_call 232;exact Gives.quiet (c_iCheckOf (by omega))))|simp only[c4]|simp only[c6]));refine wpQuiet_nil ?_;rintro _ ⟨x,rfl⟩)|(go_at_call 232;refine(c_iCheckOf (by omega)).mono ?_;rintro _ _ ⟨rfl,x,rfl⟩))
      refine bodyPost_ret (v:=.tuple #[.string ⟨#[]⟩,.bool false]) ?_ rfl (Gives.mk (by rw[fileText,HV3.out];rfl))
      simp[results,Tryz.results109,go_sem]
     ·have c6:(checkOf acc != k)=false:=by rw[bne,c5];rfl
      have HV3:=lH (show textIs f z k p=true by rw[HV2.out,c3,c5];rfl)
      go_wp2_with (first|((with_reducible refine wp_region_later (by kernel_rfl) (by kernel_rfl) ?_);(repeat(first|go_big_quiet_step (first|(go_at_call 232;exact Gives.quiet (c_iCheckOf (by omega))))|simp only[c4]|simp only[c6]));refine wpQuiet_nil ?_;rintro _ ⟨x,rfl⟩)|(go_at_call 232;refine(c_iCheckOf (by omega)).mono ?_;rintro _ _ ⟨rfl,x,rfl⟩))
      refine bodyPost_ret (v:=.tuple #[.string acc,.bool true]) ?_ rfl (Gives.mk (by rw[fileText,HV3.out,HT.out];rfl))
      simp[results,Tryz.results109,go_sem]
 ·obtain rfl:z=-1:=by simpa using c1
  have HV:=lH (show textIs f (-1) k p=false by rw[textIs,c0];rfl)
  clear c1 h25
  go_enter Tryz.func109,Tryz.ntmps109
  go_wp2_with (first|((with_reducible refine wp_region_later (by kernel_rfl) (by kernel_rfl) ?_);(repeat(first|go_big_quiet_step (first|fail)));refine wpQuiet_nil ?_;rintro _ ⟨x,rfl⟩))
  refine(c_iFileInOk (hs.to inferInstance) hn (by omega) HS.out).mono ?_
  rintro _ _ ⟨rfl,y1,rfl⟩
  go_wp2_with (first|((with_reducible refine wp_region_later (by kernel_rfl) (by kernel_rfl) ?_);(repeat(first|go_big_quiet_step (first|fail)|simp only[c0]));refine wpQuiet_nil ?_;rintro _ ⟨x,rfl⟩))
  refine bodyPost_ret (v:=.tuple #[.string ⟨#[]⟩,.bool false]) ?_ rfl (Gives.mk (by rw[fileText,HV.out];rfl))
  simp[results,Tryz.results109,go_sem]
end Go.Proofs.YtbaffippdifbpaaGreat
namespace Go.Proofs.YtbaffippdifbpaaGreat
set_option linter.unusedVariables false
open Go.ChangeShapes Go.WideShapes Go.ChangeAt Go.RowKit
/-! ### What is missing -/
end Go.Proofs.YtbaffippdifbpaaGreat
namespace Go.Proofs.YtbaffippdifbpaaGreat
set_option linter.unusedVariables false
open Go.ChangeShapes Go.WideShapes Go.ChangeAt Go.RowKit
end Go.Proofs.YtbaffippdifbpaaGreat
namespace Go.Proofs.YtbaffippdifbpaaGreat
set_option linter.unusedVariables false
open Go.ChangeShapes Go.WideShapes Go.ChangeAt Go.RowKit
theorem Own.rdS{α:Type}[E:Enc α]{enc:α→List Value}{T size B:Nat}{w:World}{a:Option Addr}{c:Nat}{l:List α}(h:Own enc T size B w a c l)(hs:E.size=size)(hR:∀ x∈l,E.Rd B w (enc x) x):RdS B w a c l:=by
 have hsl:=h.sl
 obtain⟨hsz,-,⟨hv,hn0⟩|⟨g,cap,cur,hv,hB,hheap,hle,hmax,-⟩⟩:=h
 ·simp only[Value.slice.injEq]at hv
  obtain⟨rfl,-,rfl⟩:=hv
  have:l=[]:=List.length_eq_zero_iff.1 hn0
  subst this
  exact RdS.nil
 ·simp only[Value.slice.injEq,true_and]at hv
  obtain⟨rfl,rfl⟩:=hv
  refine⟨hle,hmax,(fun e=>by cases e),fun i x hx=>?_⟩
  obtain⟨b,off,hb,hlt,hc⟩:=hsl i x hx
  simp only[Option.some.injEq,Addr.mk.injEq]at hb
  obtain⟨rfl,rfl,-⟩:=hb
  refine⟨g,0,enc x,rfl,hB,hlt,hR x (List.mem_of_getElem? hx),fun j u hu=>?_⟩
  have:=hc j u hu
  rw[hsz]at this
  rw[hs];exact this
class Flat(α:Type) extends Enc α where
 enc:α→List Value
 ty:Nat
 good:α→Prop
 encLen:∀ x,(enc x).length=size
 one:∀ x,∀ u∈enc x,u.oneCell'=true
 rd:∀ {B w x},good x→Rd B w (enc x) x
 inv:∀ {B w vs x},Rd B w vs x→vs=enc x∧good x
abbrev Col:=Nat × Nat
def blkOf(a:Option Addr):Option Nat:=a.map (·.block)
theorem ownBlock_eq(a:Option Addr)(n c:Nat):Value.ownBlock (.slice a n c)=blkOf a:=by cases a<;>rfl
theorem Own.blk{α:Type}{enc:α→List Value}{T size B:Nat}{w:World}{a:Option Addr}{c:Nat}{l:List α}(h:Own enc T size B w a c l):∀ k,blkOf a=some k→B≤k∧k<w.heap.size:=fun k hk=>h.2.lt k (by rw[ownBlock_eq];exact hk)
theorem Own.same{α:Type}{enc:α→List Value}{T size B:Nat}{w w':World}{a:Option Addr}{c:Nat}{l:List α}(h:Own enc T size B w a c l)(hk:∀ k,blkOf a=some k→B≤k→k<w.heap.size→w'.heap[k]?=w.heap[k]?):Own enc T size B w' a c l:=by
 obtain⟨h0,h1,h2|⟨g,cap,cur,hv,hg,hh,r⟩⟩:=h
 ·exact⟨h0,h1,.inl h2⟩
 ·refine⟨h0,h1,.inr ⟨g,cap,cur,hv,hg,?_,r⟩⟩
  simp only[Value.slice.injEq]at hv
  rw[hk g (by rw[hv.1];rfl) hg (Array.getElem?_eq_some_iff.1 hh).1];exact hh
structure OwnC{α:Type}[E:Flat α](B:Nat)(χ:Nat→Col)(i:Col)(w:World)(a:Option Addr)(c:Nat)(l:List α):Prop where
 own:Own E.enc E.ty E.size B w a c l
 col:∀ k,blkOf a=some k→χ k=i
 good:∀ x∈l,E.good x
structure Fr(B:Nat)(χ:Nat→Col)(C:Col→Prop)(w w':World):Prop where
 os:w'.os=w.os
 tape:w'.tape=w.tape
 output:w'.output=w.output
 size:w.heap.size≤w'.heap.size
 block:∀ b,b<w.heap.size→¬ (B≤b∧C (χ b))→w'.heap[b]?=w.heap[b]?
def paint(U:Nat)(χ χ2:Nat→Col)(f:Col→Col):Nat→Col:=fun b=>if b<U then χ b else f (χ2 b)
section
variable {α:Type} [E:Flat α] {B:Nat} {χ χ2:Nat→Col} {i:Col} {w w':World} {a:Option Addr} {c:Nat} {l:List α} {C:Col→Prop}
theorem OwnC.rd(h:OwnC B χ i w a c l):RdS B w a c l:=h.own.rdS rfl (fun x hx=>E.rd (h.good x hx))
theorem OwnC.sl(h:OwnC B χ i w a c l):Sl E.enc w a l:=h.own.sl
theorem OwnC.fr(h:OwnC B χ i w a c l)(f:Fr B χ C w w')(hi:¬ C i):OwnC B χ i w' a c l :=
 ⟨h.own.same (fun k hk h1 h2=>f.block k h2 (fun e=>by rw[h.col k hk]at e;exact hi e.2)),h.col,h.good⟩
theorem OwnC.to(h:OwnC B χ i w a c l)(g:Grows w w'):OwnC B χ i w' a c l:=⟨h.own.to g,h.col,h.good⟩
theorem OwnC.keep(h:OwnC B χ i w a c l)(g:Keeps B w w'):OwnC B χ i w' a c l:=⟨h.own.same (fun k _ h1 h2=>g.block k h1 h2),h.col,h.good⟩
theorem OwnC.mono{B':Nat}(h:OwnC B χ i w a c l)(hB:B'≤B):OwnC B' χ i w a c l:=⟨h.own.mono hB,h.col,h.good⟩
theorem OwnC.recol{χ':Nat→Col}{i':Col}(h:OwnC B χ i w a c l)(hc:∀ k,B≤k→k<w.heap.size→χ k=i→χ' k=i'):OwnC B χ' i' w a c l :=
 ⟨h.own,fun k hk=>hc k (h.own.blk k hk).1 (h.own.blk k hk).2 (h.col k hk),h.good⟩
theorem OwnC.old{f:Col→Col}{U:Nat}(h:OwnC B χ i w a c l)(hU:w.heap.size≤U):OwnC B (paint U χ χ2 f) i w a c l :=
 h.recol fun k _ h2 h3=>by rw[paint,if_pos (by omega)];exact h3
theorem OwnC.nil:OwnC B χ i w none 0 ([]:List α):=⟨Own.nil E.encLen,(fun k hk=>by cases hk),(fun x hx=>by cases hx)⟩
theorem OwnC.of(h:Own E.enc E.ty E.size B w a c l)(hg:∀ x∈l,E.good x)(i:Col):OwnC B (fun _=>i) i w a c l:=⟨h,fun _ _=>rfl,hg⟩
theorem Fr.refl(B:Nat)(χ:Nat→Col)(C:Col→Prop)(w:World):Fr B χ C w w:=⟨rfl,rfl,rfl,Nat.le_refl _,fun _ _ _=>rfl⟩
theorem Fr.grows(B:Nat)(χ:Nat→Col)(C:Col→Prop)(w w':World)[g:Grows w w']:Fr B χ C w w':=⟨g.out.os,g.out.tape,g.out.output,g.out.size,fun b h _=>g.out.block b h⟩
theorem Fr.trans{w1:World}(h:Fr B χ C w w1)(k:Fr B χ C w1 w'):Fr B χ C w w':=⟨k.os.trans h.os,k.tape.trans h.tape,k.output.trans h.output,Nat.le_trans h.size k.size,fun b h2 h3=>(k.block b (Nat.lt_of_lt_of_le h2 h.size) h3).trans (h.block b h2 h3)⟩
theorem OwnC.wrote{n c2:Nat}(h:OwnC B χ i w a c l)(g:w.grownBy w' (Value.ownBlock (.slice a n c2))):Fr B χ (·=i) w w' :=
 ⟨g.os,g.tape,g.output,g.size,fun b h2 h3=>g.block b h2 (by rw[ownBlock_eq];exact fun e=>h3 ⟨(h.own.blk b e.symm).1,h.col b e.symm⟩)⟩
end
def GivesOS{α:Type}[E:Flat α](w:World)(l:List α):Ending→World→Prop:=fun e w'=>∃ a c,e=.returned (.slice a l.length c)∧OwnC w.heap.size (fun _=>(0,0)) (0,0) w' a c l∧∃ y:Later w,w'=y.w
/-! ### Elements that hold a slice each -/
class Nest(α:Type)(β:outParam Type) extends Enc α where
 cells:α→Option Addr→Nat→List Value
 inner:α→List β
 ty:Nat
 good:α→Prop
 cellsLen:∀ x a c,(cells x a c).length=size
 one:∀ x a c,∀ u∈cells x a c,u.oneCell'=true
structure NRow(α:Type) where
 x:α
 a:Option Addr
 c:Nat
def encN{α β:Type}[N:Nest α β](r:NRow α):List Value:=N.cells r.x r.a r.c
theorem encN_len{α β:Type}[N:Nest α β](r:NRow α):(encN r).length=N.size:=N.cellsLen _ _ _
structure OwnN{α β:Type}[N:Nest α β][F:Flat β](B:Nat)(χ:Nat→Col)(o:Nat)(w:World)(a:Option Addr)(c:Nat)(rows:List (NRow α)):Prop where
 own:Own (encN (α:=α)) N.ty N.size B w a c rows
 col:∀ k,blkOf a=some k→χ k=(o,0)
 each:∀ k r,rows[k]?=some r→N.good r.x∧OwnC B χ (o,k+1) w r.a r.c (N.inner r.x)
class NestRd(α:Type){β:Type}[N:Nest α β][F:Flat β]:Prop where
 rd:∀ {B w x a c},N.good x→RdS B w a c (N.inner x)→N.Rd B w (N.cells x a c) x
section
variable {α β:Type} [N:Nest α β] [F:Flat β] {B:Nat} {χ χ2:Nat→Col} {o:Nat} {w w':World} {a:Option Addr} {c:Nat} {rows:List (NRow α)} {C:Col→Prop}
theorem OwnN.fr(h:OwnN B χ o w a c rows)(f:Fr B χ C w w')(hi:∀ k,¬ C (o,k)):OwnN B χ o w' a c rows :=
 ⟨h.own.same (fun k hk h1 h2=>f.block k h2 (fun e=>by rw[h.col k hk]at e;exact hi 0 e.2)),h.col,fun k r hr=>⟨(h.each k r hr).1,(h.each k r hr).2.fr f (hi _)⟩⟩
theorem OwnN.to(h:OwnN B χ o w a c rows)(g:Grows w w'):OwnN B χ o w' a c rows:=⟨h.own.to g,h.col,fun k r hr=>⟨(h.each k r hr).1,(h.each k r hr).2.to g⟩⟩
theorem OwnN.keep(h:OwnN B χ o w a c rows)(g:Keeps B w w'):OwnN B χ o w' a c rows:=⟨h.own.same (fun k _ h1 h2=>g.block k h1 h2),h.col,fun k r hr=>⟨(h.each k r hr).1,(h.each k r hr).2.keep g⟩⟩
theorem OwnN.mono{B':Nat}(h:OwnN B χ o w a c rows)(hB:B'≤B):OwnN B' χ o w a c rows:=⟨h.own.mono hB,h.col,fun k r hr=>⟨(h.each k r hr).1,(h.each k r hr).2.mono hB⟩⟩
theorem OwnN.nil:OwnN B χ o w none 0 ([]:List (NRow α)):=⟨Own.nil encN_len,(fun k hk=>by cases hk),(fun k r hr=>by simp at hr)⟩
theorem OwnN.rd[R:NestRd α](h:OwnN B χ o w a c rows):RdS B w a c (rows.map (·.x)):=by
 have hsl:=h.own.sl
 have hE:=h.each
 obtain⟨hsz,-,⟨hv,hn0⟩|⟨g,cap,cur,hv,hB,hheap,hle,hmax,-⟩⟩:=h.own
 ·simp only[Value.slice.injEq]at hv
  obtain⟨rfl,-,rfl⟩:=hv
  have:rows=[]:=List.length_eq_zero_iff.1 hn0
  subst this
  exact RdS.nil
 ·simp only[Value.slice.injEq,true_and]at hv
  obtain⟨rfl,rfl⟩:=hv
  refine⟨by rw[List.length_map];exact hle,hmax,(fun e=>by cases e),fun i x hx=>?_⟩
  rw[List.getElem?_map]at hx
  obtain⟨r,hr,rfl⟩:=Option.map_eq_some_iff.1 hx
  obtain⟨b,off,hb,hlt,hc⟩:=hsl i r hr
  simp only[Option.some.injEq,Addr.mk.injEq]at hb
  obtain⟨rfl,rfl,-⟩:=hb
  refine⟨g,0,encN r,rfl,hB,hlt,R.rd (hE i r hr).1 (hE i r hr).2.rd,fun j u hu=>?_⟩
  have:=hc j u hu
  rw[hsz]at this
  exact this
end
end Go.Proofs.YtbaffippdifbpaaGreat
namespace Go.Proofs.YtbaffippdifbpaaGreat
set_option linter.unusedVariables false
open Go.ChangeShapes Go.WideShapes Go.ChangeAt Go.RowKit
theorem RdS.goods{α:Type}[E:Flat α]{B:Nat}{w:World}{a:Option Addr}{c:Nat}{l:List α}(h:RdS B w a c l):∀ x∈l,E.good x:=fun x hx=>by
 obtain⟨i,hi⟩:=List.getElem?_of_mem hx
 obtain⟨b,off,vs,-,-,-,h3,-⟩:=h.2.2.2 i x hi
 exact(E.inv h3).2
theorem RdS.slF{α:Type}[E:Flat α]{B:Nat}{w:World}{a:Option Addr}{c:Nat}{l:List α}(h:RdS B w a c l):Sl E.enc w a l:=fun i x hx=>by
 obtain⟨b,off,vs,h0,-,h2,h3,h4⟩:=h.2.2.2 i x hx
 obtain⟨rfl,-⟩:=E.inv h3
 exact⟨b,off,h0,h2,fun j v hv=>by rw[E.encLen];exact h4 j v hv⟩
theorem GivesSl.os{α:Type}[E:Flat α]{w w':World}{l:List α}{e:Ending}{B:Nat}{w0:World}{a:Option Addr}{c:Nat}(h:GivesSl E.enc E.ty E.size w l e w')(hs:RdS B w0 a c l):GivesOS w l e w':=by
 obtain⟨a',c',he,ho,y,hy⟩:=h
 exact⟨a',c',he,OwnC.of ho hs.goods _,y,hy⟩
instance Flat.iInt:Flat Int where
 toEnc:=inferInstance
 enc:=encInt
 ty:=3
 good:=i64
 encLen:=fun _=>rfl
 one:=encInt_one
 rd:=fun h=>⟨rfl,h⟩
 inv:=fun h=>h
def encBoo(x:Bool):List Value:=[.bool x]
theorem encBoo_len(x:Bool):(encBoo x).length=1:=rfl
theorem encBoo_one(x:Bool):∀ u∈encBoo x,u.oneCell'=true:=by
 intro u hu
 simp only[encBoo,List.mem_cons,List.not_mem_nil,or_false]at hu
 rcases hu with rfl<;>rfl
instance Flat.iBool:Flat Bool where
 toEnc:=inferInstance
 enc:=encBoo
 ty:=4
 good:=fun _=>True
 encLen:=fun _=>rfl
 one:=encBoo_one
 rd:=fun _=>rfl
 inv:=fun h=>⟨h,trivial⟩
instance Flat.iByteArray:Flat ByteArray where
 toEnc:=inferInstance
 enc:=encStr
 ty:=9
 good:=fun s=>s.size≤9223372036854775807
 encLen:=fun _=>rfl
 one:=encStr_one
 rd:=fun h=>⟨rfl,h⟩
 inv:=fun h=>h
theorem encSlot_oneO(x:Slot):∀ u∈encSlot x,u.oneCell'=true:=by
 intro u hu
 simp only[encSlot,List.mem_cons,List.not_mem_nil,or_false]at hu
 rcases hu with rfl|rfl<;>rfl
instance Flat.iSlot:Flat Slot where
 toEnc:=inferInstance
 enc:=encSlot
 ty:=205
 good:=okDSlot
 encLen:=fun _=>rfl
 one:=encSlot_oneO
 rd:=fun h=>⟨rfl,h⟩
 inv:=fun h=>h
theorem encPair_oneO(x:Pair):∀ u∈encPair x,u.oneCell'=true:=by
 intro u hu
 simp only[encPair,List.mem_cons,List.not_mem_nil,or_false]at hu
 rcases hu with rfl|rfl<;>rfl
instance Flat.iPair:Flat Pair where
 toEnc:=inferInstance
 enc:=encPair
 ty:=221
 good:=okDPair
 encLen:=fun _=>rfl
 one:=encPair_oneO
 rd:=fun h=>⟨rfl,h⟩
 inv:=fun h=>h
def encTFlight(x:TFlight):List Value:=[.int .i64 x.At,.string x.Data]
theorem encTFlight_one(x:TFlight):∀ u∈encTFlight x,u.oneCell'=true:=by
 intro u hu
 simp only[encTFlight,List.mem_cons,List.not_mem_nil,or_false]at hu
 rcases hu with rfl|rfl<;>rfl
instance Flat.iTFlight:Flat TFlight where
 toEnc:=inferInstance
 enc:=encTFlight
 ty:=230
 good:=okDTFlight
 encLen:=fun _=>rfl
 one:=encTFlight_one
 rd:=fun h=>⟨rfl,h⟩
 inv:=fun h=>h
def encTRecord(x:TRecord):List Value:=[.int .i64 x.Id,.int .i64 x.Priority,.int .i64 x.Time,.string x.Data]
theorem encTRecord_one(x:TRecord):∀ u∈encTRecord x,u.oneCell'=true:=by
 intro u hu
 simp only[encTRecord,List.mem_cons,List.not_mem_nil,or_false]at hu
 rcases hu with rfl|rfl|rfl|rfl<;>rfl
instance Flat.iTRecord:Flat TRecord where
 toEnc:=inferInstance
 enc:=encTRecord
 ty:=218
 good:=okDTRecord
 encLen:=fun _=>rfl
 one:=encTRecord_one
 rd:=fun h=>⟨rfl,h⟩
 inv:=fun h=>h
def encTWaiting(x:TWaiting):List Value:=[.int .i64 x.Number,.int .i64 x.Order.Kind,.int .i64 x.Order.At,.int .i64 x.Order.A,.int .i64 x.Order.B]
theorem encTWaiting_one(x:TWaiting):∀ u∈encTWaiting x,u.oneCell'=true:=by
 intro u hu
 simp only[encTWaiting,List.mem_cons,List.not_mem_nil,or_false]at hu
 rcases hu with rfl|rfl|rfl|rfl|rfl<;>rfl
instance Flat.iTWaiting:Flat TWaiting where
 toEnc:=inferInstance
 enc:=encTWaiting
 ty:=212
 good:=okDTWaiting
 encLen:=fun _=>rfl
 one:=encTWaiting_one
 rd:=fun h=>⟨rfl,h⟩
 inv:=fun h=>h
def encTLimit(x:TLimit):List Value:=[.int .i64 x.Param,.int .i64 x.Low,.int .i64 x.High]
theorem encTLimit_len(x:TLimit):(encTLimit x).length=3:=rfl
theorem encTLimit_one(x:TLimit):∀ u∈encTLimit x,u.oneCell'=true:=by
 intro u hu
 simp only[encTLimit,List.mem_cons,List.not_mem_nil,or_false]at hu
 rcases hu with rfl|rfl|rfl<;>rfl
instance Flat.iTLimit:Flat TLimit where
 toEnc:=inferInstance
 enc:=encTLimit
 ty:=149
 good:=okDTLimit
 encLen:=fun _=>rfl
 one:=encTLimit_one
 rd:=fun h=>⟨rfl,h⟩
 inv:=fun h=>h
theorem c_cloneTLimit{a:Option Addr}{n c:Nat}{l:List TLimit}{w:World}(hs:Sl encTLimit w a l)(hn:l.length=n)(hm:n≤100000000) :
  Calls Tryz.prog 124 #[.slice a n c] w (GivesSl encTLimit 149 3 w l):=by
 cases a with
 | none =>
  have hl:l=[]:=by
   cases l with
   | nil=>rfl
   | cons y r=>obtain⟨b,off,h0,-⟩:=hs 0 y rfl;cases h0
  have hq:=fun(w:World)=>run_eql_slice_nil (P:=Tryz.prog) w 49 149 none n c Tryz.underlying49
  simp only[Option.isNone]at hq
  have HL:=lH hl;clear hl
  go_enter Tryz.func124,Tryz.ntmps124
  go_wp2_with (first|((with_reducible refine wp_region_later (by kernel_rfl) (by kernel_rfl) ?_);(repeat(first|go_big_quiet_step (first|fail)));refine wpQuiet_nil ?_;rintro _ ⟨x,rfl⟩))
  go_ret
  exact GivesSl.nilOf encTLimit_len HL.out
 | some ad =>
  have hq:=fun(w:World)=>run_eql_slice_nil (P:=Tryz.prog) w 49 149 (some ad) n c Tryz.underlying49
  simp only[Option.isNone]at hq
  go_enter Tryz.func124,Tryz.ntmps124
  go_wp2_with (first|((with_reducible refine wp_region_later (by kernel_rfl) (by kernel_rfl) ?_);(repeat(first|go_big_quiet_step (first|fail)));refine wpQuiet_nil ?_;rintro _ ⟨x,rfl⟩)|(at_builtin;refine wpList_appS (enc:=encTLimit) (w0:=w) (z:=.agg #[.int .i64 0,.int .i64 0,.int .i64 0]) (size:=3) (bytes:=24) (n:=0) (l:=[]) rfl (.tmp 5) (.tmp 6) rfl Tryz.underlying49 (by kernel_rfl) rfl (by decide) (by decide) rfl rfl (fun h=>by cases h) rfl hn (Own.emptyAt encTLimit_len (Nat.le_refl _) rfl) (hs.to inferInstance) encTLimit_one (by omega) ?_;intro sa1 sc1 x1 hown1 hgr1))
  go_ret
  rw[List.nil_append]at hown1
  exact⟨sa1,sc1,by rw[hn];first|rfl|simp,hown1,Later.of⟩
def encTDone(x:TDone):List Value:=[.int .i64 x.Number,.int .i64 x.Time,.int .i64 x.Result]
theorem encTDone_one(x:TDone):∀ u∈encTDone x,u.oneCell'=true:=by
 intro u hu
 simp only[encTDone,List.mem_cons,List.not_mem_nil,or_false]at hu
 rcases hu with rfl|rfl|rfl<;>rfl
instance Flat.iTDone:Flat TDone where
 toEnc:=inferInstance
 enc:=encTDone
 ty:=214
 good:=okDTDone
 encLen:=fun _=>rfl
 one:=encTDone_one
 rd:=fun h=>⟨rfl,h⟩
 inv:=fun h=>h
def encTSent(x:TSent):List Value:=[.int .i64 x.Seq,.string x.Data]
theorem encTSent_one(x:TSent):∀ u∈encTSent x,u.oneCell'=true:=by
 intro u hu
 simp only[encTSent,List.mem_cons,List.not_mem_nil,or_false]at hu
 rcases hu with rfl|rfl<;>rfl
instance Flat.iTSent:Flat TSent where
 toEnc:=inferInstance
 enc:=encTSent
 ty:=295
 good:=okDTSent
 encLen:=fun _=>rfl
 one:=encTSent_one
 rd:=fun h=>⟨rfl,h⟩
 inv:=fun h=>h
end Go.Proofs.YtbaffippdifbpaaGreat
namespace Go.Proofs.YtbaffippdifbpaaGreat
set_option linter.unusedVariables false
open Go.ChangeShapes Go.WideShapes Go.ChangeAt Go.RowKit
class EncO(α:Type) extends Enc α where
 O:Nat→(Nat→Col)→Nat→World→List Value→α→Prop
 toRd:∀ {B χ o w vs x},O B χ o w vs x→Rd B w vs x
instance Nest.iTFileIn:Nest TFileIn ByteArray where
 toEnc:=inferInstance
 cells x a c:=[.int .i64 x.File,.int .i64 x.Size,.int .i64 x.Check,.slice a x.Parts.length c]
 inner x:=x.Parts
 ty:=140
 good:=okDTFileIn
 cellsLen:=fun _ _ _=>rfl
 one:=fun x a c u hu=>by
  simp only[List.mem_cons,List.not_mem_nil,or_false]at hu
  rcases hu with rfl|rfl|rfl|rfl<;>rfl
instance NestRd.iTFileIn:NestRd TFileIn where
 rd:=fun h1 h2=>⟨_,_,rfl,h2,h1⟩
instance Nest.iTFileOut:Nest TFileOut Int where
 toEnc:=inferInstance
 cells x a c:=[.int .i64 x.File,.string x.Data,.slice a x.Queue.length c,.bool x.Done]
 inner x:=x.Queue
 ty:=143
 good:=okDTFileOut
 cellsLen:=fun _ _ _=>rfl
 one:=fun x a c u hu=>by
  simp only[List.mem_cons,List.not_mem_nil,or_false]at hu
  rcases hu with rfl|rfl|rfl|rfl<;>rfl
instance NestRd.iTFileOut:NestRd TFileOut where
 rd:=fun h1 h2=>⟨_,_,rfl,h2,h1⟩
structure TPackerO(B:Nat)(χ:Nat→Col)(o:Nat)(w:World)(a0:Option Addr)(c0:Nat)(x:TPacker):Prop where
 o0:OwnC B χ (o,0) w a0 c0 x.Starts
 ok:okDTPacker x
theorem TPackerO.fr{B:Nat}{χ:Nat→Col}{o:Nat}{w w2:World}{a0:Option Addr}{c0:Nat}{x:TPacker}(h:TPackerO B χ o w a0 c0 x){C:Col→Prop}(f:Fr B χ C w w2)(hi:∀ j k,o≤j→j<o+1→¬ C (j,k)):TPackerO B χ o w2 a0 c0 x:=⟨h.o0.fr f (hi _ _ (by omega) (by omega)),h.ok⟩
theorem TPackerO.keep{B:Nat}{χ:Nat→Col}{o:Nat}{w w2:World}{a0:Option Addr}{c0:Nat}{x:TPacker}(h:TPackerO B χ o w a0 c0 x)(g:Keeps B w w2):TPackerO B χ o w2 a0 c0 x:=⟨h.o0.keep g,h.ok⟩
theorem TPackerO.mono{B:Nat}{χ:Nat→Col}{o:Nat}{w:World}{a0:Option Addr}{c0:Nat}{x:TPacker}(h:TPackerO B χ o w a0 c0 x){B2:Nat}(g:B2≤B):TPackerO B2 χ o w a0 c0 x:=⟨h.o0.mono g,h.ok⟩
theorem TPackerO.rd{B:Nat}{χ:Nat→Col}{o:Nat}{w:World}{a0:Option Addr}{c0:Nat}{x:TPacker}(h:TPackerO B χ o w a0 c0 x):Enc.Rd B w [.int .i64 x.Channel,.int .i64 x.Count,.string x.Rest,.slice a0 x.Starts.length c0] x:=⟨a0,c0,rfl,h.o0.rd,h.ok⟩
instance EncO.iTPacker:EncO TPacker where
 toEnc:=inferInstance
 O B χ o w vs x:=∃ (a0:Option Addr) (c0:Nat),vs=[.int .i64 x.Channel,.int .i64 x.Count,.string x.Rest,.slice a0 x.Starts.length c0]∧TPackerO B χ o w a0 c0 x
 toRd:=by rintro _ _ _ _ _ _ ⟨a0,c0,rfl,h⟩;exact h.rd
structure TSenderO(B:Nat)(χ:Nat→Col)(o:Nat)(w:World)(a0:Option Addr)(c0:Nat)(x:TSender):Prop where
 o0:OwnC B χ (o,0) w a0 c0 x.Waiting
 ok:okDTSender x
theorem TSenderO.fr{B:Nat}{χ:Nat→Col}{o:Nat}{w w2:World}{a0:Option Addr}{c0:Nat}{x:TSender}(h:TSenderO B χ o w a0 c0 x){C:Col→Prop}(f:Fr B χ C w w2)(hi:∀ j k,o≤j→j<o+1→¬ C (j,k)):TSenderO B χ o w2 a0 c0 x:=⟨h.o0.fr f (hi _ _ (by omega) (by omega)),h.ok⟩
theorem TSenderO.keep{B:Nat}{χ:Nat→Col}{o:Nat}{w w2:World}{a0:Option Addr}{c0:Nat}{x:TSender}(h:TSenderO B χ o w a0 c0 x)(g:Keeps B w w2):TSenderO B χ o w2 a0 c0 x:=⟨h.o0.keep g,h.ok⟩
theorem TSenderO.mono{B:Nat}{χ:Nat→Col}{o:Nat}{w:World}{a0:Option Addr}{c0:Nat}{x:TSender}(h:TSenderO B χ o w a0 c0 x){B2:Nat}(g:B2≤B):TSenderO B2 χ o w a0 c0 x:=⟨h.o0.mono g,h.ok⟩
theorem TSenderO.rd{B:Nat}{χ:Nat→Col}{o:Nat}{w:World}{a0:Option Addr}{c0:Nat}{x:TSender}(h:TSenderO B χ o w a0 c0 x):Enc.Rd B w [.int .i64 x.Next,.int .i64 x.Window,.slice a0 x.Waiting.length c0,.int .i64 x.Done] x:=⟨a0,c0,rfl,h.o0.rd,h.ok⟩
instance EncO.iTSender:EncO TSender where
 toEnc:=inferInstance
 O B χ o w vs x:=∃ (a0:Option Addr) (c0:Nat),vs=[.int .i64 x.Next,.int .i64 x.Window,.slice a0 x.Waiting.length c0,.int .i64 x.Done]∧TSenderO B χ o w a0 c0 x
 toRd:=by rintro _ _ _ _ _ _ ⟨a0,c0,rfl,h⟩;exact h.rd
structure TRecorderO(B:Nat)(χ:Nat→Col)(o:Nat)(w:World)(a0:Option Addr)(c0:Nat)(a1:Option Addr)(c1:Nat)(x:TRecorder):Prop where
 o0:OwnC B χ (o,0) w a0 c0 x.Records
 o1:OwnC B χ (o+1,0) w a1 c1 x.Dropped
 ok:okDTRecorder x
theorem TRecorderO.fr{B:Nat}{χ:Nat→Col}{o:Nat}{w w2:World}{a0:Option Addr}{c0:Nat}{a1:Option Addr}{c1:Nat}{x:TRecorder}(h:TRecorderO B χ o w a0 c0 a1 c1 x){C:Col→Prop}(f:Fr B χ C w w2)(hi:∀ j k,o≤j→j<o+2→¬ C (j,k)):TRecorderO B χ o w2 a0 c0 a1 c1 x:=⟨h.o0.fr f (hi _ _ (by omega) (by omega)),h.o1.fr f (hi _ _ (by omega) (by omega)),h.ok⟩
theorem TRecorderO.keep{B:Nat}{χ:Nat→Col}{o:Nat}{w w2:World}{a0:Option Addr}{c0:Nat}{a1:Option Addr}{c1:Nat}{x:TRecorder}(h:TRecorderO B χ o w a0 c0 a1 c1 x)(g:Keeps B w w2):TRecorderO B χ o w2 a0 c0 a1 c1 x:=⟨h.o0.keep g,h.o1.keep g,h.ok⟩
theorem TRecorderO.mono{B:Nat}{χ:Nat→Col}{o:Nat}{w:World}{a0:Option Addr}{c0:Nat}{a1:Option Addr}{c1:Nat}{x:TRecorder}(h:TRecorderO B χ o w a0 c0 a1 c1 x){B2:Nat}(g:B2≤B):TRecorderO B2 χ o w a0 c0 a1 c1 x:=⟨h.o0.mono g,h.o1.mono g,h.ok⟩
theorem TRecorderO.rd{B:Nat}{χ:Nat→Col}{o:Nat}{w:World}{a0:Option Addr}{c0:Nat}{a1:Option Addr}{c1:Nat}{x:TRecorder}(h:TRecorderO B χ o w a0 c0 a1 c1 x):Enc.Rd B w [.int .i64 x.Room,.slice a0 x.Records.length c0,.slice a1 x.Dropped.length c1] x:=⟨a0,c0,a1,c1,rfl,h.o0.rd,h.o1.rd,h.ok⟩
instance EncO.iTRecorder:EncO TRecorder where
 toEnc:=inferInstance
 O B χ o w vs x:=∃ (a0:Option Addr) (c0:Nat),∃ (a1:Option Addr) (c1:Nat),vs=[.int .i64 x.Room,.slice a0 x.Records.length c0,.slice a1 x.Dropped.length c1]∧TRecorderO B χ o w a0 c0 a1 c1 x
 toRd:=by rintro _ _ _ _ _ _ ⟨a0,c0,a1,c1,rfl,h⟩;exact h.rd
structure TBoardO(B:Nat)(χ:Nat→Col)(o:Nat)(w:World)(A:TBoardA)(x:TBoard):Prop where
 o0:OwnC B χ (o,0) w A.a0 A.c0 x.Params
 o1:OwnC B χ (o+1,0) w A.a1 A.c1 x.Limits
 o2:OwnC B χ (o+2,0) w A.a2 A.c2 x.Orders
 o3:OwnC B χ (o+3,0) w A.a3 A.c3 x.Done
 o4:OwnC B χ (o+4,0) w A.a4 A.c4 x.Recorder.Records
 o5:OwnC B χ (o+5,0) w A.a5 A.c5 x.Recorder.Dropped
 o6:OwnC B χ (o+6,0) w A.a6 A.c6 x.Asked
 ok:okDTBoard x
theorem TBoardO.fr{B:Nat}{χ:Nat→Col}{o:Nat}{w w2:World}{A:TBoardA}{x:TBoard}(h:TBoardO B χ o w A x){C:Col→Prop}(f:Fr B χ C w w2)(hi:∀ j k,o≤j→j<o+7→¬ C (j,k)):TBoardO B χ o w2 A x:=⟨h.o0.fr f (hi _ _ (by omega) (by omega)),h.o1.fr f (hi _ _ (by omega) (by omega)),h.o2.fr f (hi _ _ (by omega) (by omega)),h.o3.fr f (hi _ _ (by omega) (by omega)),h.o4.fr f (hi _ _ (by omega) (by omega)),h.o5.fr f (hi _ _ (by omega) (by omega)),h.o6.fr f (hi _ _ (by omega) (by omega)),h.ok⟩
theorem TBoardO.keep{B:Nat}{χ:Nat→Col}{o:Nat}{w w2:World}{A:TBoardA}{x:TBoard}(h:TBoardO B χ o w A x)(g:Keeps B w w2):TBoardO B χ o w2 A x:=⟨h.o0.keep g,h.o1.keep g,h.o2.keep g,h.o3.keep g,h.o4.keep g,h.o5.keep g,h.o6.keep g,h.ok⟩
theorem TBoardO.mono{B:Nat}{χ:Nat→Col}{o:Nat}{w:World}{A:TBoardA}{x:TBoard}(h:TBoardO B χ o w A x){B2:Nat}(g:B2≤B):TBoardO B2 χ o w A x:=⟨h.o0.mono g,h.o1.mono g,h.o2.mono g,h.o3.mono g,h.o4.mono g,h.o5.mono g,h.o6.mono g,h.ok⟩
theorem TBoardO.f{B:Nat}{χ:Nat→Col}{o:Nat}{w:World}{A:TBoardA}{x:TBoard}(h:TBoardO B χ o w A x):TBoardF B w A x:=⟨h.o0.rd,h.o1.rd,h.o2.rd,h.o3.rd,h.o4.rd,h.o5.rd,h.o6.rd,h.ok⟩
theorem TBoardO.rd{B:Nat}{χ:Nat→Col}{o:Nat}{w:World}{A:TBoardA}{x:TBoard}(h:TBoardO B χ o w A x):Enc.Rd B w (cBoard x A.a0 A.c0 A.a1 A.c1 A.a2 A.c2 A.a3 A.c3 A.a4 A.c4 A.a5 A.c5 A.a6 A.c6) x:=⟨A,rfl,h.f⟩
instance EncO.iTBoard:EncO TBoard where
 toEnc:=inferInstance
 O B χ o w vs x:=∃ A:TBoardA,vs=(cBoard x A.a0 A.c0 A.a1 A.c1 A.a2 A.c2 A.a3 A.c3 A.a4 A.c4 A.a5 A.c5 A.a6 A.c6)∧TBoardO B χ o w A x
 toRd:=by rintro _ _ _ _ _ _ ⟨A,rfl,h⟩;exact h.rd
structure TFileInO(B:Nat)(χ:Nat→Col)(o:Nat)(w:World)(a0:Option Addr)(c0:Nat)(x:TFileIn):Prop where
 o0:OwnC B χ (o,0) w a0 c0 x.Parts
 ok:okDTFileIn x
theorem TFileInO.fr{B:Nat}{χ:Nat→Col}{o:Nat}{w w2:World}{a0:Option Addr}{c0:Nat}{x:TFileIn}(h:TFileInO B χ o w a0 c0 x){C:Col→Prop}(f:Fr B χ C w w2)(hi:∀ j k,o≤j→j<o+1→¬ C (j,k)):TFileInO B χ o w2 a0 c0 x:=⟨h.o0.fr f (hi _ _ (by omega) (by omega)),h.ok⟩
theorem TFileInO.keep{B:Nat}{χ:Nat→Col}{o:Nat}{w w2:World}{a0:Option Addr}{c0:Nat}{x:TFileIn}(h:TFileInO B χ o w a0 c0 x)(g:Keeps B w w2):TFileInO B χ o w2 a0 c0 x:=⟨h.o0.keep g,h.ok⟩
theorem TFileInO.mono{B:Nat}{χ:Nat→Col}{o:Nat}{w:World}{a0:Option Addr}{c0:Nat}{x:TFileIn}(h:TFileInO B χ o w a0 c0 x){B2:Nat}(g:B2≤B):TFileInO B2 χ o w a0 c0 x:=⟨h.o0.mono g,h.ok⟩
theorem TFileInO.rd{B:Nat}{χ:Nat→Col}{o:Nat}{w:World}{a0:Option Addr}{c0:Nat}{x:TFileIn}(h:TFileInO B χ o w a0 c0 x):Enc.Rd B w [.int .i64 x.File,.int .i64 x.Size,.int .i64 x.Check,.slice a0 x.Parts.length c0] x:=⟨a0,c0,rfl,h.o0.rd,h.ok⟩
instance EncO.iTFileIn:EncO TFileIn where
 toEnc:=inferInstance
 O B χ o w vs x:=∃ (a0:Option Addr) (c0:Nat),vs=[.int .i64 x.File,.int .i64 x.Size,.int .i64 x.Check,.slice a0 x.Parts.length c0]∧TFileInO B χ o w a0 c0 x
 toRd:=by rintro _ _ _ _ _ _ ⟨a0,c0,rfl,h⟩;exact h.rd
structure TFileOutO(B:Nat)(χ:Nat→Col)(o:Nat)(w:World)(a0:Option Addr)(c0:Nat)(x:TFileOut):Prop where
 o0:OwnC B χ (o,0) w a0 c0 x.Queue
 ok:okDTFileOut x
theorem TFileOutO.fr{B:Nat}{χ:Nat→Col}{o:Nat}{w w2:World}{a0:Option Addr}{c0:Nat}{x:TFileOut}(h:TFileOutO B χ o w a0 c0 x){C:Col→Prop}(f:Fr B χ C w w2)(hi:∀ j k,o≤j→j<o+1→¬ C (j,k)):TFileOutO B χ o w2 a0 c0 x:=⟨h.o0.fr f (hi _ _ (by omega) (by omega)),h.ok⟩
theorem TFileOutO.keep{B:Nat}{χ:Nat→Col}{o:Nat}{w w2:World}{a0:Option Addr}{c0:Nat}{x:TFileOut}(h:TFileOutO B χ o w a0 c0 x)(g:Keeps B w w2):TFileOutO B χ o w2 a0 c0 x:=⟨h.o0.keep g,h.ok⟩
theorem TFileOutO.mono{B:Nat}{χ:Nat→Col}{o:Nat}{w:World}{a0:Option Addr}{c0:Nat}{x:TFileOut}(h:TFileOutO B χ o w a0 c0 x){B2:Nat}(g:B2≤B):TFileOutO B2 χ o w a0 c0 x:=⟨h.o0.mono g,h.ok⟩
theorem TFileOutO.rd{B:Nat}{χ:Nat→Col}{o:Nat}{w:World}{a0:Option Addr}{c0:Nat}{x:TFileOut}(h:TFileOutO B χ o w a0 c0 x):Enc.Rd B w [.int .i64 x.File,.string x.Data,.slice a0 x.Queue.length c0,.bool x.Done] x:=⟨a0,c0,rfl,h.o0.rd,h.ok⟩
instance EncO.iTFileOut:EncO TFileOut where
 toEnc:=inferInstance
 O B χ o w vs x:=∃ (a0:Option Addr) (c0:Nat),vs=[.int .i64 x.File,.string x.Data,.slice a0 x.Queue.length c0,.bool x.Done]∧TFileOutO B χ o w a0 c0 x
 toRd:=by rintro _ _ _ _ _ _ ⟨a0,c0,rfl,h⟩;exact h.rd
structure TGroundO(B:Nat)(χ:Nat→Col)(o:Nat)(w:World)(A:TGroundA)(x:TGround):Prop where
 o0:OwnC B χ (o,0) w A.a0 A.c0 x.Offers
 o1:OwnC B χ (o+1,0) w A.a1 A.c1 x.Sender.Waiting
 o2:OwnC B χ (o+2,0) w A.a2 A.c2 x.Pairs
 o3:OwnC B χ (o+3,0) w A.a3 A.c3 x.Records
 o4:∃ rows:List (NRow TFileIn),rows.map (·.x)=x.Files∧OwnN B χ (o+4) w A.a4 A.c4 rows
 o5:OwnC B χ (o+5,0) w A.a5 A.c5 x.Told
 ok:okDTGround x
theorem TGroundO.fr{B:Nat}{χ:Nat→Col}{o:Nat}{w w2:World}{A:TGroundA}{x:TGround}(h:TGroundO B χ o w A x){C:Col→Prop}(f:Fr B χ C w w2)(hi:∀ j k,o≤j→j<o+6→¬ C (j,k)):TGroundO B χ o w2 A x:=⟨h.o0.fr f (hi _ _ (by omega) (by omega)),h.o1.fr f (hi _ _ (by omega) (by omega)),h.o2.fr f (hi _ _ (by omega) (by omega)),h.o3.fr f (hi _ _ (by omega) (by omega)),h.o4.elim fun r hr=>⟨r,hr.1,hr.2.fr f (fun _=>hi _ _ (by omega) (by omega))⟩,h.o5.fr f (hi _ _ (by omega) (by omega)),h.ok⟩
theorem TGroundO.keep{B:Nat}{χ:Nat→Col}{o:Nat}{w w2:World}{A:TGroundA}{x:TGround}(h:TGroundO B χ o w A x)(g:Keeps B w w2):TGroundO B χ o w2 A x:=⟨h.o0.keep g,h.o1.keep g,h.o2.keep g,h.o3.keep g,h.o4.elim fun r hr=>⟨r,hr.1,hr.2.keep g⟩,h.o5.keep g,h.ok⟩
theorem TGroundO.mono{B:Nat}{χ:Nat→Col}{o:Nat}{w:World}{A:TGroundA}{x:TGround}(h:TGroundO B χ o w A x){B2:Nat}(g:B2≤B):TGroundO B2 χ o w A x:=⟨h.o0.mono g,h.o1.mono g,h.o2.mono g,h.o3.mono g,h.o4.elim fun r hr=>⟨r,hr.1,hr.2.mono g⟩,h.o5.mono g,h.ok⟩
theorem TGroundO.f{B:Nat}{χ:Nat→Col}{o:Nat}{w:World}{A:TGroundA}{x:TGround}(h:TGroundO B χ o w A x):TGroundF B w A x:=⟨h.o0.rd,h.o1.rd,h.o2.rd,h.o3.rd,h.o4.elim fun r hr=>hr.1▸hr.2.rd,h.o5.rd,h.ok⟩
theorem TGroundO.rd{B:Nat}{χ:Nat→Col}{o:Nat}{w:World}{A:TGroundA}{x:TGround}(h:TGroundO B χ o w A x):Enc.Rd B w (cGround x A.a0 A.c0 A.a1 A.c1 A.a2 A.c2 A.a3 A.c3 A.a4 A.c4 A.a5 A.c5) x:=⟨A,rfl,h.f⟩
instance EncO.iTGround:EncO TGround where
 toEnc:=inferInstance
 O B χ o w vs x:=∃ A:TGroundA,vs=(cGround x A.a0 A.c0 A.a1 A.c1 A.a2 A.c2 A.a3 A.c3 A.a4 A.c4 A.a5 A.c5)∧TGroundO B χ o w A x
 toRd:=by rintro _ _ _ _ _ _ ⟨A,rfl,h⟩;exact h.rd
structure TSpaceO(B:Nat)(χ:Nat→Col)(o:Nat)(w:World)(A:TSpaceA)(x:TSpace):Prop where
 o0:OwnC B χ (o,0) w A.a0 A.c0 x.Board.Params
 o1:OwnC B χ (o+1,0) w A.a1 A.c1 x.Board.Limits
 o2:OwnC B χ (o+2,0) w A.a2 A.c2 x.Board.Orders
 o3:OwnC B χ (o+3,0) w A.a3 A.c3 x.Board.Done
 o4:OwnC B χ (o+4,0) w A.a4 A.c4 x.Board.Recorder.Records
 o5:OwnC B χ (o+5,0) w A.a5 A.c5 x.Board.Recorder.Dropped
 o6:OwnC B χ (o+6,0) w A.a6 A.c6 x.Board.Asked
 o7:OwnC B χ (o+7,0) w A.a7 A.c7 x.Packer.Starts
 o8:OwnC B χ (o+8,0) w A.a8 A.c8 x.Files
 o9:∃ rows:List (NRow TFileOut),rows.map (·.x)=x.Outs∧OwnN B χ (o+9) w A.a9 A.c9 rows
 o10:OwnC B χ (o+10,0) w A.a10 A.c10 x.Sent
 ok:okDTSpace x
theorem TSpaceO.fr{B:Nat}{χ:Nat→Col}{o:Nat}{w w2:World}{A:TSpaceA}{x:TSpace}(h:TSpaceO B χ o w A x){C:Col→Prop}(f:Fr B χ C w w2)(hi:∀ j k,o≤j→j<o+11→¬ C (j,k)):TSpaceO B χ o w2 A x:=⟨h.o0.fr f (hi _ _ (by omega) (by omega)),h.o1.fr f (hi _ _ (by omega) (by omega)),h.o2.fr f (hi _ _ (by omega) (by omega)),h.o3.fr f (hi _ _ (by omega) (by omega)),h.o4.fr f (hi _ _ (by omega) (by omega)),h.o5.fr f (hi _ _ (by omega) (by omega)),h.o6.fr f (hi _ _ (by omega) (by omega)),h.o7.fr f (hi _ _ (by omega) (by omega)),h.o8.fr f (hi _ _ (by omega) (by omega)),h.o9.elim fun r hr=>⟨r,hr.1,hr.2.fr f (fun _=>hi _ _ (by omega) (by omega))⟩,h.o10.fr f (hi _ _ (by omega) (by omega)),h.ok⟩
theorem TSpaceO.keep{B:Nat}{χ:Nat→Col}{o:Nat}{w w2:World}{A:TSpaceA}{x:TSpace}(h:TSpaceO B χ o w A x)(g:Keeps B w w2):TSpaceO B χ o w2 A x:=⟨h.o0.keep g,h.o1.keep g,h.o2.keep g,h.o3.keep g,h.o4.keep g,h.o5.keep g,h.o6.keep g,h.o7.keep g,h.o8.keep g,h.o9.elim fun r hr=>⟨r,hr.1,hr.2.keep g⟩,h.o10.keep g,h.ok⟩
theorem TSpaceO.mono{B:Nat}{χ:Nat→Col}{o:Nat}{w:World}{A:TSpaceA}{x:TSpace}(h:TSpaceO B χ o w A x){B2:Nat}(g:B2≤B):TSpaceO B2 χ o w A x:=⟨h.o0.mono g,h.o1.mono g,h.o2.mono g,h.o3.mono g,h.o4.mono g,h.o5.mono g,h.o6.mono g,h.o7.mono g,h.o8.mono g,h.o9.elim fun r hr=>⟨r,hr.1,hr.2.mono g⟩,h.o10.mono g,h.ok⟩
theorem TSpaceO.f{B:Nat}{χ:Nat→Col}{o:Nat}{w:World}{A:TSpaceA}{x:TSpace}(h:TSpaceO B χ o w A x):TSpaceF B w A x:=⟨h.o0.rd,h.o1.rd,h.o2.rd,h.o3.rd,h.o4.rd,h.o5.rd,h.o6.rd,h.o7.rd,h.o8.rd,h.o9.elim fun r hr=>hr.1▸hr.2.rd,h.o10.rd,h.ok⟩
theorem TSpaceO.rd{B:Nat}{χ:Nat→Col}{o:Nat}{w:World}{A:TSpaceA}{x:TSpace}(h:TSpaceO B χ o w A x):Enc.Rd B w (cSpace x A.a0 A.c0 A.a1 A.c1 A.a2 A.c2 A.a3 A.c3 A.a4 A.c4 A.a5 A.c5 A.a6 A.c6 A.a7 A.c7 A.a8 A.c8 A.a9 A.c9 A.a10 A.c10) x:=⟨A,rfl,h.f⟩
instance EncO.iTSpace:EncO TSpace where
 toEnc:=inferInstance
 O B χ o w vs x:=∃ A:TSpaceA,vs=(cSpace x A.a0 A.c0 A.a1 A.c1 A.a2 A.c2 A.a3 A.c3 A.a4 A.c4 A.a5 A.c5 A.a6 A.c6 A.a7 A.c7 A.a8 A.c8 A.a9 A.c9 A.a10 A.c10)∧TSpaceO B χ o w A x
 toRd:=by rintro _ _ _ _ _ _ ⟨A,rfl,h⟩;exact h.rd
structure TMissionO(B:Nat)(χ:Nat→Col)(o:Nat)(w:World)(A:TMissionA)(x:TMission):Prop where
 o0:OwnC B χ (o,0) w A.a0 A.c0 x.Plan
 o1:OwnC B χ (o+1,0) w A.a1 A.c1 x.Ups
 o2:OwnC B χ (o+2,0) w A.a2 A.c2 x.Downs
 o3:OwnC B χ (o+3,0) w A.a3 A.c3 x.Ground.Offers
 o4:OwnC B χ (o+4,0) w A.a4 A.c4 x.Ground.Sender.Waiting
 o5:OwnC B χ (o+5,0) w A.a5 A.c5 x.Ground.Pairs
 o6:OwnC B χ (o+6,0) w A.a6 A.c6 x.Ground.Records
 o7:∃ rows:List (NRow TFileIn),rows.map (·.x)=x.Ground.Files∧OwnN B χ (o+7) w A.a7 A.c7 rows
 o8:OwnC B χ (o+8,0) w A.a8 A.c8 x.Ground.Told
 o9:OwnC B χ (o+9,0) w A.a9 A.c9 x.Space.Board.Params
 o10:OwnC B χ (o+10,0) w A.a10 A.c10 x.Space.Board.Limits
 o11:OwnC B χ (o+11,0) w A.a11 A.c11 x.Space.Board.Orders
 o12:OwnC B χ (o+12,0) w A.a12 A.c12 x.Space.Board.Done
 o13:OwnC B χ (o+13,0) w A.a13 A.c13 x.Space.Board.Recorder.Records
 o14:OwnC B χ (o+14,0) w A.a14 A.c14 x.Space.Board.Recorder.Dropped
 o15:OwnC B χ (o+15,0) w A.a15 A.c15 x.Space.Board.Asked
 o16:OwnC B χ (o+16,0) w A.a16 A.c16 x.Space.Packer.Starts
 o17:OwnC B χ (o+17,0) w A.a17 A.c17 x.Space.Files
 o18:∃ rows:List (NRow TFileOut),rows.map (·.x)=x.Space.Outs∧OwnN B χ (o+18) w A.a18 A.c18 rows
 o19:OwnC B χ (o+19,0) w A.a19 A.c19 x.Space.Sent
 o20:OwnC B χ (o+20,0) w A.a20 A.c20 x.Offered
 o21:OwnC B χ (o+21,0) w A.a21 A.c21 x.Took
 ok:okDTMission x
theorem TMissionO.fr{B:Nat}{χ:Nat→Col}{o:Nat}{w w2:World}{A:TMissionA}{x:TMission}(h:TMissionO B χ o w A x){C:Col→Prop}(f:Fr B χ C w w2)(hi:∀ j k,o≤j→j<o+22→¬ C (j,k)):TMissionO B χ o w2 A x:=⟨h.o0.fr f (hi _ _ (by omega) (by omega)),h.o1.fr f (hi _ _ (by omega) (by omega)),h.o2.fr f (hi _ _ (by omega) (by omega)),h.o3.fr f (hi _ _ (by omega) (by omega)),h.o4.fr f (hi _ _ (by omega) (by omega)),h.o5.fr f (hi _ _ (by omega) (by omega)),h.o6.fr f (hi _ _ (by omega) (by omega)),h.o7.elim fun r hr=>⟨r,hr.1,hr.2.fr f (fun _=>hi _ _ (by omega) (by omega))⟩,h.o8.fr f (hi _ _ (by omega) (by omega)),h.o9.fr f (hi _ _ (by omega) (by omega)),h.o10.fr f (hi _ _ (by omega) (by omega)),h.o11.fr f (hi _ _ (by omega) (by omega)),h.o12.fr f (hi _ _ (by omega) (by omega)),h.o13.fr f (hi _ _ (by omega) (by omega)),h.o14.fr f (hi _ _ (by omega) (by omega)),h.o15.fr f (hi _ _ (by omega) (by omega)),h.o16.fr f (hi _ _ (by omega) (by omega)),h.o17.fr f (hi _ _ (by omega) (by omega)),h.o18.elim fun r hr=>⟨r,hr.1,hr.2.fr f (fun _=>hi _ _ (by omega) (by omega))⟩,h.o19.fr f (hi _ _ (by omega) (by omega)),h.o20.fr f (hi _ _ (by omega) (by omega)),h.o21.fr f (hi _ _ (by omega) (by omega)),h.ok⟩
theorem TMissionO.to{B:Nat}{χ:Nat→Col}{o:Nat}{w w2:World}{A:TMissionA}{x:TMission}(h:TMissionO B χ o w A x)(g:Grows w w2):TMissionO B χ o w2 A x:=⟨h.o0.to g,h.o1.to g,h.o2.to g,h.o3.to g,h.o4.to g,h.o5.to g,h.o6.to g,h.o7.elim fun r hr=>⟨r,hr.1,hr.2.to g⟩,h.o8.to g,h.o9.to g,h.o10.to g,h.o11.to g,h.o12.to g,h.o13.to g,h.o14.to g,h.o15.to g,h.o16.to g,h.o17.to g,h.o18.elim fun r hr=>⟨r,hr.1,hr.2.to g⟩,h.o19.to g,h.o20.to g,h.o21.to g,h.ok⟩
theorem TMissionO.keep{B:Nat}{χ:Nat→Col}{o:Nat}{w w2:World}{A:TMissionA}{x:TMission}(h:TMissionO B χ o w A x)(g:Keeps B w w2):TMissionO B χ o w2 A x:=⟨h.o0.keep g,h.o1.keep g,h.o2.keep g,h.o3.keep g,h.o4.keep g,h.o5.keep g,h.o6.keep g,h.o7.elim fun r hr=>⟨r,hr.1,hr.2.keep g⟩,h.o8.keep g,h.o9.keep g,h.o10.keep g,h.o11.keep g,h.o12.keep g,h.o13.keep g,h.o14.keep g,h.o15.keep g,h.o16.keep g,h.o17.keep g,h.o18.elim fun r hr=>⟨r,hr.1,hr.2.keep g⟩,h.o19.keep g,h.o20.keep g,h.o21.keep g,h.ok⟩
theorem TMissionO.mono{B:Nat}{χ:Nat→Col}{o:Nat}{w:World}{A:TMissionA}{x:TMission}(h:TMissionO B χ o w A x){B2:Nat}(g:B2≤B):TMissionO B2 χ o w A x:=⟨h.o0.mono g,h.o1.mono g,h.o2.mono g,h.o3.mono g,h.o4.mono g,h.o5.mono g,h.o6.mono g,h.o7.elim fun r hr=>⟨r,hr.1,hr.2.mono g⟩,h.o8.mono g,h.o9.mono g,h.o10.mono g,h.o11.mono g,h.o12.mono g,h.o13.mono g,h.o14.mono g,h.o15.mono g,h.o16.mono g,h.o17.mono g,h.o18.elim fun r hr=>⟨r,hr.1,hr.2.mono g⟩,h.o19.mono g,h.o20.mono g,h.o21.mono g,h.ok⟩
theorem TMissionO.f{B:Nat}{χ:Nat→Col}{o:Nat}{w:World}{A:TMissionA}{x:TMission}(h:TMissionO B χ o w A x):TMissionF B w A x:=⟨h.o0.rd,h.o1.rd,h.o2.rd,h.o3.rd,h.o4.rd,h.o5.rd,h.o6.rd,h.o7.elim fun r hr=>hr.1▸hr.2.rd,h.o8.rd,h.o9.rd,h.o10.rd,h.o11.rd,h.o12.rd,h.o13.rd,h.o14.rd,h.o15.rd,h.o16.rd,h.o17.rd,h.o18.elim fun r hr=>hr.1▸hr.2.rd,h.o19.rd,h.o20.rd,h.o21.rd,h.ok⟩
theorem TMissionO.rd{B:Nat}{χ:Nat→Col}{o:Nat}{w:World}{A:TMissionA}{x:TMission}(h:TMissionO B χ o w A x):Enc.Rd B w (cMission x A.a0 A.c0 A.a1 A.c1 A.a2 A.c2 A.a3 A.c3 A.a4 A.c4 A.a5 A.c5 A.a6 A.c6 A.a7 A.c7 A.a8 A.c8 A.a9 A.c9 A.a10 A.c10 A.a11 A.c11 A.a12 A.c12 A.a13 A.c13 A.a14 A.c14 A.a15 A.c15 A.a16 A.c16 A.a17 A.c17 A.a18 A.c18 A.a19 A.c19 A.a20 A.c20 A.a21 A.c21) x:=⟨A,rfl,h.f⟩
instance EncO.iTMission:EncO TMission where
 toEnc:=inferInstance
 O B χ o w vs x:=∃ A:TMissionA,vs=(cMission x A.a0 A.c0 A.a1 A.c1 A.a2 A.c2 A.a3 A.c3 A.a4 A.c4 A.a5 A.c5 A.a6 A.c6 A.a7 A.c7 A.a8 A.c8 A.a9 A.c9 A.a10 A.c10 A.a11 A.c11 A.a12 A.c12 A.a13 A.c13 A.a14 A.c14 A.a15 A.c15 A.a16 A.c16 A.a17 A.c17 A.a18 A.c18 A.a19 A.c19 A.a20 A.c20 A.a21 A.c21)∧TMissionO B χ o w A x
 toRd:=by rintro _ _ _ _ _ _ ⟨A,rfl,h⟩;exact h.rd
end Go.Proofs.YtbaffippdifbpaaGreat
namespace Go.Proofs.YtbaffippdifbpaaGreat
set_option linter.unusedVariables false
open Go.ChangeShapes Go.WideShapes Go.ChangeAt Go.RowKit
section
variable {P:Program} {ops:Array Oper} {rest:List Oper} {op:Oper} {a:Act} {w:World} {Q:Exit→Act→World→Prop}
theorem stepLoad1(hgd:op.guard=none)(ty:TypeId)(x:Operand)(ho:op.op=.load ty x)(b o:Nat)(hx:a.eval x=.pointer (some ⟨b,o,none⟩)){cs:List Value}{T:TypeId}(H:Held w b cs T)(v:Value)(hv:cs[o]?=some v)
  (d:TypeDesc) (hu:P.underlying ty=some d) (hd:d.isRow=false) (h:wpList P ops Q rest (a.put op.dst v) w):wpList P ops Q (op::rest) a w:=by
 refine wpList_plain hgd fun _ hK=>?_
 have hagg:(isAgg ty).run P w=.ok false w:=by
  unfold isAgg
  rw[Sem.run_bind,run_underlying hu w]
  cases d<;>simp_all [TypeDesc.isRow]
 have hl:(loadVar ty ⟨b,o,none⟩).run P w=.ok v w:=by
  have hc:=H.cell o
  rw[hv]at hc
  simp[loadVar,Sem.run_bind,hagg,go_sem,hc]
 unfold Oper.wp execOp
 simp only[ho,hx,Instr.loadAt,Instr.sureAddr,Sem.run_bind,Sem.run_pure,Result.andThen_ok,hl]
 exact hK _ _ h
end
end Go.Proofs.YtbaffippdifbpaaGreat
namespace Go.Proofs.YtbaffippdifbpaaGreat
set_option linter.unusedVariables false
open Go.ChangeShapes Go.WideShapes Go.ChangeAt Go.RowKit
end Go.Proofs.YtbaffippdifbpaaGreat
namespace Go.Proofs.YtbaffippdifbpaaGreat
set_option linter.unusedVariables false
open Go.ChangeShapes Go.WideShapes Go.ChangeAt Go.RowKit
end Go.Proofs.YtbaffippdifbpaaGreat
