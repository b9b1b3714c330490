/- hearPacket of the program, on a mission in a box. No condition but on sizes. -/
import Derived.Test.YtdijmbipcgalfaaGreatHM47
import Derived.Test.YtdijmbipcgalfaaGreatHHearP
import Derived.Test.YtdijmbipcgalfaaGreatHM7
import Derived.Test.YtdijmbipcgalfaaGreatHGBn
import Derived.Deep.CutRange
namespace Go.Proofs.YtdijmbipcgalfaaGreat
set_option maxRecDepth 100000
set_option maxHeartbeats 4000000
set_option linter.unusedVariables false
open Go.ChangeShapes Go.WideShapes Go.ChangeAt Go.RowKit
variable {d:ByteArray}{w:World}
theorem aw2{w':World}{b:Nat}{cs:List Value}{T:TypeId}(h:j5 w b cs T)(e:w'.heap[b]?=w.heap[b]?):j5 w' b cs T:=by unfold j5 at h ⊢;rw[e];exact h
theorem bS7{m:f7}{n:X8}(h:af8 m)(hn:inB n.Expect 0 255=true):af8 { m with Ground:={ m.Ground with Notice:=n } }:=by
 have:=D8.1 hn
 obtain⟨g1,g2,g3,g4,g5,g6,⟨k1,k2,k3⟩,g8⟩:=h
 exact⟨g1,g2,g3,g4,g5,g6,⟨k1,⟨show i64 n.Expect by unfold i64;omega,trivial⟩,k3⟩,g8⟩
def au0(m:f7)(d:ByteArray)(k:Nat):f7:={ m with Ground:={ m.Ground with Files:=((m.Ground.Files.take k).map fun f=>Y3 f d)++m.Ground.Files.drop k } }
theorem bl9(m:f7)(d:ByteArray):au0 m d 0=m:=rfl
theorem bz8{m:f7}(h:m.Ground.Files.length=8):au0 m d 8=bP5 m d:=by
 rw[au0,bP5,List.take_of_length_le om,List.drop_of_length_le om,List.append_nil]
theorem aM8{m:f7}(k:Nat):(au0 m d k).Ground.Files.length=m.Ground.Files.length:=by
 show(((m.Ground.Files.take k).map fun f=>Y3 f d)++m.Ground.Files.drop k).length=_
 simp only[List.length_append,List.length_map,List.length_take,List.length_drop];omega
theorem bl7{m:f7}{k:Nat}{x:A8}{r:List A8}(hk:k<m.Ground.Files.length)(h:(au0 m d k).Ground.Files.drop k=x::r):m.Ground.Files.drop k=x::r:=by
 have e:(au0 m d k).Ground.Files.drop k=m.Ground.Files.drop k:=by
  show(((m.Ground.Files.take k).map fun f=>Y3 f d)++m.Ground.Files.drop k).drop k=_
  rw[List.drop_append_of_le_length (by simp;omega),List.drop_of_length_le (by simp;omega),List.nil_append]
 rw[← e,h]
theorem bl8{m:f7}{k:Nat}{x:A8}(hk:k<m.Ground.Files.length)(h:m.Ground.Files.drop k=x::m.Ground.Files.drop (k+1)):ao3.set (au0 m d k) ((ao3.get (au0 m d k)).set k (Y3 x d))=au0 m d (k+1):=by
 have hx:m.Ground.Files[k]=x:=by
  have:=List.drop_eq_getElem_cons hk
  rw[h]at this
  exact(List.cons.inj this).1.symm
 have e:(((m.Ground.Files.take k).map fun f=>Y3 f d)++m.Ground.Files.drop k).set k (Y3 x d)=((m.Ground.Files.take (k+1)).map fun f=>Y3 f d)++m.Ground.Files.drop (k+1):=by
  rw[h,List.set_append_right _ _ (by simp;omega),List.take_succ_eq_append_getElem hk,hx]
  simp[Nat.min_eq_left (Nat.le_of_lt hk)]
 show({ m with Ground:={ m.Ground with Files:=(((m.Ground.Files.take k).map fun f=>Y3 f d)++m.Ground.Files.drop k).set k (Y3 x d) } }:f7)=_
 rw[e];rfl
theorem aU9{f:A8}(s:ByteArray)(h:Y8 f=true):aq3 (Y3 f s)∧∀ t∈(Y3 f s).Parts,t.size≤9223372036854775807:=by
 have h1:=ak6.1 (show J9 (Y3 f s).File (Y3 f s).Size (Y3 f s).Check (Y3 f s).Parts=true from bm0 s h)
 refine⟨⟨by unfold i64;omega,by unfold i64;omega,by unfold i64;omega,trivial⟩,fun t ht=>?_⟩
 have:=h1.2.2.2.2.2 t ht;omega
theorem bD7{P:Program}{a b:Int}(h0:-1000000000≤a - b)(h1:a - b≤1000000000)(ty:TypeId)(w:World):(binOp .sub ty (.int .i64 a) (.int .i64 b)).run P w=.ok (.int .i64 (a - b)) w:=by
 simp[go_sem]
 exact bS0 (a - b) om om
theorem aL1{l:List X1}{c t u:Int}(h:∀ p∈l,bu4 p)(hc:0≤c∧c≤16777215)(h0:0≤t)(h1:t≤1000000)(h2:0≤u)(h3:u≤50):∀ p∈X9 l ⟨c,t - u⟩,bu4 p:=by
 intro p hp
 unfold X9 at hp
 split at hp
 ·rcases List.mem_append.1 hp with hp|hp
  ·exact h p hp
  ·rw[List.mem_singleton.1 hp]
   exact⟨by unfold i64;simp only;omega,by unfold i64;simp only;omega,trivial⟩
 ·exact h p hp
theorem bB7{B:Nat}{vs:List Value}{f:A8}(h:Enc.Rd B w vs f)(hf:Y8 f=true)(hd:d.size≤100000000) :
  Calls Tryz.prog 165 #[.agg vs.toArray,.string d] w (R3 w (Y3 f d)):=by
 obtain⟨a0,c0,rfl,h1,-⟩:=h
 have h2:=ak6.1 (show J9 f.File f.Size f.Check f.Parts=true from hf)
 have hg:=aU9 d hf
 refine(bw5 (f:=f.File) (z:=f.Size) (k:=f.Check) (RdS.slF h1) rfl om (fun t ht=>by have:=h2.2.2.2.2.2 t ht;omega) hd).mono ?_
 rintro _ _ ⟨a1,c1,rfl,o1,y1,rfl⟩
 exact⟨_,fun _=>(0,0),rfl,⟨a1,c1,rfl,⟨B6.of o1 hg.2 (0,0),hg.1⟩⟩,b7.of⟩
theorem bg3{X:Nat→Prop}{B q j:Nat}{m:f7}{x:E0}{w0:World}(h:GB X B q w m)(hi:af3 j m)(hj:j≤1000000)(hd:x.Data.size≤40)(g:b8 w0 w)(hb:w0.heap.size≤B):Calls Tryz.prog 42 #[.pointer (some ⟨q,0,none⟩),.agg #[.int .i64 x.Apid,.int .i64 x.Seq,.string x.Data]] w (bn7 X B q w0 w (B8 m x)):=by
 have HG:=lH h;have HI:=lH hi;clear h hi
 have hlw:=HG.out.lt
 have HB:=lH (j5.new w [.int .i64 x.Apid,.int .i64 x.Seq,.string x.Data] 117 w.heap.size rfl)
 have HG1:=lH (GB.prot (P:=fun k=>k=w.heap.size) HG.out (ii:b8 w (w.alloc (.cells #[.int .i64 x.Apid,.int .i64 x.Seq,.string x.Data] 117))) (fun k hk=>by subst hk;simp))
 have gV:b8 w (w.alloc (.cells #[.int .i64 x.Apid,.int .i64 x.Seq,.string x.Data] 117)):=inferInstance
 have gW:b8 w0 (w.alloc (.cells #[.int .i64 x.Apid,.int .i64 x.Seq,.string x.Data] 117)):=inferInstance
 have HX0:=lH (show ∀ k,X k→((w.alloc (.cells #[.int .i64 x.Apid,.int .i64 x.Seq,.string x.Data] 117))).heap[k]?=w.heap[k]? from fun k hk=>gV.out.block k (HG.out.xs hk).2)
 go_enter Tryz.func42,Tryz.ntmps42
 go_upto_region 1 with(first|((with_reducible refine rl ?_);refine rq ?_;intro x))
 generalize (w.alloc (.cells #[.int .i64 x.Apid,.int .i64 x.Seq,.string x.Data] 117))=W1 at HB HG1 gV gW HX0 ⊢
 have iq:LtN q W1.heap.size:=⟨HG1.out.lt⟩
 have ix:LtN w.heap.size W1.heap.size:=⟨HB.out.lt⟩
 have hqx:q≠w.heap.size:=by omega
 have p0:=HB.out.cellG 0 _ rfl
 have p2:=HB.out.cellG 2 _ rfl
 cases c1:(x.Apid == 1)
 ·cases c2:(x.Apid == 2)
  ·cases c3:(x.Apid == 3)
   ·have HV:=lH (show B8 m x=ad4 m from bT3 (by simpa using c1) (by simpa using c2) (by simpa using c3))
    have HBD:=lH (fun(W:World) (g1:b8 W1 W) (g2:b8 w0 W)=>ap9 (w0:=w0) (HG1.out.to g1) HI.out.inv.bad0 HI.out.inv.bad1 g2 hb)
    go_wp2_with (first|((with_reducible refine rl ?_);(repeat(first|go_big_quiet_step (first|fail)|simp only[c1]|simp only[c2]|simp only[c3]));refine wpQuiet_nil ?_;intro x))
    refine(HBD.out _ ii ii).mono ?_
    rintro _ w9 ⟨⟨u,rfl⟩,hz9,hx9,z9,rfl⟩
    have HX9:=lH (show ∀ k,X k→z9.w.heap[k]?=w.heap[k]? from fun k hk=>((hx9 k (.inl hk)).trans ((ii:b8 W1 _).out.block k (HG1.out.xs (.inl hk)).2)).trans (HX0.out k hk))
    have HZ9:=lH (show GB X B q z9.w (ad4 m)from hz9.less fun k hk=>.inl hk)
    clear hx9 hz9
    go_wp2_with (first|((with_reducible refine rl ?_);refine rq ?_;intro x))
    (first|(refine bodyPost_end (v:=.tuple #[]) (by simp[results,Tryz.results42,go_sem]) rfl ?_)|(refine bodyPost_ret (v:=.tuple #[]) (by simp[results,Tryz.results42,go_sem]) rfl ?_))
    exact⟨⟨_,rfl⟩,(by rw[HV.out];exact HZ9.out.to ii),HX9.out,b7.of⟩
   ·have h3:x.Apid=3:=by simpa using c3
    have HV:=lH (show B8 m x=bP5 m x.Data from bT4 h3)
    clear h3
    obtain⟨fa,fc,fe,hfa⟩:=GB.ownN ao3 HG1.out
    have HFL:=lH (show m.Ground.Files.length=8 from HI.out.inv.filn)
    obtain⟨fb,rfl⟩:=hfa (by show 0<m.Ground.Files.length;rw[HFL.out];decide)
    have fe2:∀ (W:World) [b8 W1 W],W.cell? ⟨q,31,none⟩=some (.slice (some ⟨fb,0,none⟩) 8 fc):=fun W g=>HFL.out▸fe W
    have HC0:=lH (fe2 W1)
    clear fe
    go_wp2_with (first|((with_reducible refine rl ?_);(repeat(first|go_big_quiet_step (first|fail)|simp only[c1]|simp only[c2]|simp only[c3]));refine wpQuiet_nil ?_;intro x))
    clear c1 c2 c3
    go_loopw [100] (fun v wr=>∃ k:Nat,v=.int .i64 k∧k≤8∧Hid (GB (fun k=>X k∨k=w.heap.size) B q wr (au0 m x.Data k))∧Hid (j5 wr w.heap.size [.int .i64 x.Apid,.int .i64 x.Seq,.string x.Data] 117)∧Hid (wr.cell? ⟨q,31,none⟩=some (.slice (some ⟨fb,0,none⟩) 8 fc))∧Hid (∀ j,X j→wr.heap[j]?=w.heap[j]?)∧∃ y:b7 w0,wr=y.w) (fun v _=>(8 - intOf v).toNat)
    case atStart=>exact⟨0,rfl,by omega,by rw[bl9];exact HG1.out.to ii,HB.out.to ii,lH (by first|exact HC0.out|exact j4 HG1.out.lt HC0.out _),lH (fun j hj=>by first|exact HX0.out j hj|exact((ii:b8 W1 _).out.block j (HG1.out.xs (.inl hj)).2).trans (HX0.out j hj)),b7.of⟩
    case round =>
     obtain⟨k,rfl,hk,HGK,HBK,HCK,HXK,y,rfl⟩:=hrel
     by_cases hk8:k<8
     ·have hqy:LtN q y.w.heap.size:=⟨HGK.out.lt⟩
      have hxy:LtN w.heap.size y.w.heap.size:=⟨HBK.out.lt⟩
      have p2:=HBK.out.cellG 2 _ rfl
      have hkf:k<m.Ground.Files.length:=by rw[HFL.out];exact hk8
      obtain⟨vs5,A5,hV5,hvs5,F5⟩:=al3 HGK.out
      have e1:=HCK.out.symm.trans (hV5.cell 31 |>.trans (by rw[hvs5]))
      simp only[List.getElem?_cons_succ,List.getElem?_cons_zero,Option.some.injEq,Value.slice.injEq]at e1
      obtain⟨e2,-,e3⟩:=e1
      have hrd:=F5.q7
      rw[← e2,← e3]at hrd
      clear hV5 hvs5 F5 e2 e3
      obtain⟨eb,eoff,ex,ea0,ec0,heq,ehb,ehd,eq0,eok,eh0,eh1,eh2,eh3⟩:=hrd.atTFileIn (show k<(au0 m x.Data k).Ground.Files.length by rw[aM8];exact hkf)
      cases heq
      have hdr:=bl7 hkf ehd.out
      have hdr2:m.Ground.Files.drop k=ex::m.Ground.Files.drop (k+1):=by
       have h9:=List.drop_eq_getElem_cons hkf
       rw[h9]at hdr
       rw[h9,(List.cons.inj hdr).1]
      have HST:=lH (bl8 (d:=x.Data) hkf hdr2)
      have HOK:=lH (HI.out.inv.files ex (List.mem_of_mem_drop (by rw[hdr2];simp)))
      have HRD:=lH (show Enc.Rd B y.w [.int .i64 ex.File,.int .i64 ex.Size,.int .i64 ex.Check,.slice ea0 ex.Parts.length ec0] ex from⟨ea0,ec0,rfl,eq0,eok⟩)
      have HLK:=lH (show(au0 m x.Data k).Ground.Files.length=8 by rw[aM8];exact HFL.out)
      clear hrd ehd eq0 eok hdr hdr2 hkf
      have fe3:∀ (W:World) [b8 y.w W],W.cell? ⟨q,31,none⟩=some (.slice (some ⟨fb,0,none⟩) 8 fc):=fun W g=>j4 HGK.out.lt HCK.out W
      simp only[Nat.zero_add]at eh0 eh1 eh2 eh3
      go_upto_region 19 with(first|((with_reducible refine rl ?_);refine rq ?_;intro x))
      (try simp only[Act.put])
      have HFB:=lH (j5.new y.w [.int .i64 ex.File,.int .i64 ex.Size,.int .i64 ex.Check,.slice ea0 ex.Parts.length ec0] 179 y.w.heap.size rfl)
      obtain⟨U,hU⟩:∃ U:b7 y.w,(y.w.alloc (.cells #[.int .i64 ex.File,.int .i64 ex.Size,.int .i64 ex.Check,.slice ea0 ex.Parts.length ec0] 179))=U.w:=b7.of
      rw[hU]at HFB ⊢
      clear hU
      obtain⟨nbq,hnb⟩:∃ nbq,y.w.heap.size=nbq:=⟨_,rfl⟩
      rw[hnb]at HFB ⊢
      clear hnb
      have fe4:∀ (W:World) [b8 U.w W],W.cell? ⟨q,31,none⟩=some (.slice (some ⟨fb,0,none⟩) 8 fc):=fun W g=>@fe3 W (ag4 (ii:b8 y.w U.w) g)
      have p4:∀ (W:World) [b8 U.w W],W.cell? ⟨w.heap.size,2,none⟩=some (.string x.Data):=fun W g=>@p2 W (ag4 (ii:b8 y.w U.w) g)
      refine I5 kr (T:=[10]) (Zs:=[]) (H:=[(3,[]),(5,[]),(7,[]),(8,[]),(9,[8])]) (C:=[8]) (Fs:=[(some 105,.v (.pointer (some ⟨q,16,none⟩))),(some 106,.v (.pointer (some ⟨q,16,none⟩))),(some 107,.v (.pointer (some ⟨q,31,none⟩))),(some 108,.v (.slice (some ⟨fb,0,none⟩) 8 fc)),(some 109,.v (.int .i64 k)),(some 110,.v (.agg #[.int .i64 ex.File,.int .i64 ex.Size,.int .i64 ex.Check,.slice ea0 ex.Parts.length ec0])),(some 111,.v (.pointer (some ⟨w.heap.size,2,none⟩))),(some 112,.v (.string x.Data)),(some 113,bV4 U.w.heap.size (Y3 ex x.Data)),(some 114,.v (.pointer (some ⟨fb,0+k*4,none⟩))),(none,.v undef)]) kr (fun val W=>by kernel_rfl) ?ob19 ?lz19 ?pn19 ?tl19
      case ob19 =>
       refine⟨fun x6=>?_,fun x6=>?_,fun x6=>?_,fun x6=>?_,fun x6=>?_,trivial⟩
       ·exact am3 (fe4 x6.w) rfl kr _ Tryz.underlying74 rfl
       ·exact bd2 (o:=0) (cs:=[.int .i64 ex.File,.int .i64 ex.Size,.int .i64 ex.Check,.slice ea0 ex.Parts.length ec0]) (row:=[.int .i64 ex.File,.int .i64 ex.Size,.int .i64 ex.Check,.slice ea0 ex.Parts.length ec0]) (HFB.out.to (ii:b8 U.w x6.w)) rfl kr _ Tryz.underlying179 rfl kr rfl
       ·exact am3 (p4 x6.w) rfl kr _ Tryz.underlying9 rfl
       ·refine aR7 (f:=165) (args:=[.agg #[.int .i64 ex.File,.int .i64 ex.Size,.int .i64 ex.Check,.slice ea0 ex.Parts.length ec0],.string x.Data]) Tryz.func165 kr kr ((bB7 (B:=B) (Enc.keep HRD.out (aC7 (ag4 (ii:b8 y.w U.w) (ii:b8 U.w x6.w)))) HOK.out om).mono ?_)
        rintro _ _ ⟨vs2,χ2,rfl,hO2,y2,rfl⟩
        exact⟨_,rfl,⟨y2,rfl⟩,vs2,χ2,rfl,R4.map hO2 (.mono x6.size_le)⟩
       ·refine aq0 fun v13 q13=>bp9 ?_
        exact bI3 (size:=4) (o:=0) (j:=k) (n:=8) (c:=fc) rfl kr Tryz.underlying74 kr hk8
      case lz19 =>
       exact trivial
      case pn19=>exact fun _ _ _ _ _ _ h=>h
      case tl19 =>
       intro x6
       refine aq0 fun v13 q13=>?_
       obtain⟨vs2,χ2,rfl,hO2⟩:=(show isO U.w.heap.size (Y3 ex x.Data) v13 x6.w from q13)
       clear q13
       obtain⟨ra,rc,rfl,kO⟩:=hO2
       have HKO:=lH kO;clear kO
       refine aF1 rfl ?_
       simp only[ag8,ae9]
       simp only[nrm,if_true]
       go_upto_region 20 with(first|((with_reducible refine rl ?_);refine rq ?_;intro x)|(refine bD9 ao3 rfl _ (.tmp 114) (.tmp 113) rfl (HGK.out.to (ii:b8 y.w U.w)) (ii:b8 U.w x6.w) (by rw[show(ao3.get (au0 m x.Data k)).length=8 from HLK.out];exact fe4 U.w) (by rw[show(ao3.get (au0 m x.Data k)).length=8 from HLK.out];exact hk8) HKO.out.o0 HKO.out.ok rfl rfl om rfl rfl kr (w0:=w0) ii hb ?_;intro z6 hz6 hbq hh6))
       (try simp only[Act.put])
       have HZ6:=lH (show GB (fun k=>X k∨k=w.heap.size) B q z6.w (au0 m x.Data (k+1))by rw[← HST.out];exact hz6)
       have HX6:=lH (show ∀ j,(X j∨j=w.heap.size)→z6.w.heap[j]?=y.w.heap[j]? from fun j hj=>(hh6 j (Nat.lt_of_lt_of_le (HGK.out.xs hj).2 (ag4 (ii:b8 y.w U.w) (ii:b8 U.w x6.w)).out.size) (GB.xneN ao3 HGK.out (by rw[show(ao3.get (au0 m x.Data k)).length=8 from HLK.out];exact HCK.out) hj)).trans ((ag4 (ii:b8 y.w U.w) (ii:b8 U.w x6.w)).out.block j (HGK.out.xs hj).2))
       have HC6:=lH (show z6.w.cell? ⟨q,31,none⟩=some (.slice (some ⟨fb,0,none⟩) 8 fc)from(bk9 (hh6 q (Nat.lt_of_lt_of_le HGK.out.lt (ag4 (ii:b8 y.w U.w) (ii:b8 U.w x6.w)).out.size) hbq) 31).trans (fe4 x6.w))
       clear hz6 hh6
       have hqz:LtN q z6.w.heap.size:=⟨HZ6.out.lt⟩
       go_wp2_with (first|((with_reducible refine rl ?_);refine rq ?_;intro x))
       go_roundw
       case rel=>exact⟨k+1,by go_num,by omega,HZ6.out.to ii,lH ((aw2 HBK.out (HX6.out _ (.inr rfl))).to ii),lH (by first|exact HC6.out|exact j4 HZ6.out.lt HC6.out _),lH (fun j hj=>by first|exact(HX6.out j (.inl hj)).trans (HXK.out j hj)|exact(((ii:b8 z6.w _).out.block j (HZ6.out.xs (.inl hj)).2).trans (HX6.out j (.inl hj))).trans (HXK.out j hj)),b7.of⟩
       case measure=>simp[intOf];omega
     ·obtain rfl:k=8:=by omega
      have HZ7:=lH (show GB X B q y.w (B8 m x)by rw[HV.out,← bz8 HFL.out];exact HGK.out.less fun k hk=>.inl hk)
      go_wp2_with (first|((with_reducible refine rl ?_);refine rq ?_;intro x))
      (first|(refine bodyPost_end (v:=.tuple #[]) (by simp[results,Tryz.results42,go_sem]) rfl ?_)|(refine bodyPost_ret (v:=.tuple #[]) (by simp[results,Tryz.results42,go_sem]) rfl ?_))
      exact⟨⟨_,rfl⟩,HZ7.out.to ii,(fun j hj=>by first|exact HXK.out j hj|exact((ii:b8 y.w _).out.block j (HZ7.out.xs hj).2).trans (HXK.out j hj)),b7.of⟩
  ·have h1:¬ x.Apid=1:=by simpa using c1
   have h2:x.Apid=2:=by simpa using c2
   have HDR:=lH (fun(W:World)=>aX0 (s:=x.Data) (w:=W) om)
   cases hr:aa2 x.Data with
   | none =>
    have HV:=lH (show B8 m x=ad4 m from bN2 h2 hr)
    rw[hr]at HDR
    have HDR:=lH (show ∀ W,Calls Tryz.prog 164 #[.string x.Data] W (b5 W (.tuple #[.agg #[.int .i64 0,.int .i64 0,.int .i64 0,.string ⟨#[]⟩],.bool false]))from HDR.out)
    have HBD:=lH (fun(W:World) (g1:b8 W1 W) (g2:b8 w0 W)=>ap9 (w0:=w0) (HG1.out.to g1) HI.out.inv.bad0 HI.out.inv.bad1 g2 hb)
    go_wp2_with (first|((with_reducible refine rl ?_);(repeat(first|go_big_quiet_step (first|fail)|simp only[c1]|simp only[c2]));refine wpQuiet_nil ?_;intro x))
    refine gm (HDR.out _) ?_
    intro y2
    go_wp2_with (first|((with_reducible refine rl ?_);refine rq ?_;intro x))
    refine(HBD.out _ ii ii).mono ?_
    rintro _ w9 ⟨⟨u,rfl⟩,hz9,hx9,z9,rfl⟩
    have HX9:=lH (show ∀ k,X k→z9.w.heap[k]?=w.heap[k]? from fun k hk=>((hx9 k (.inl hk)).trans ((ii:b8 W1 _).out.block k (HG1.out.xs (.inl hk)).2)).trans (HX0.out k hk))
    have HZ9:=lH (show GB X B q z9.w (ad4 m)from hz9.less fun k hk=>.inl hk)
    clear hx9 hz9
    go_wp2_with (first|((with_reducible refine rl ?_);refine rq ?_;intro x))
    (first|(refine bodyPost_end (v:=.tuple #[]) (by simp[results,Tryz.results42,go_sem]) rfl ?_)|(refine bodyPost_ret (v:=.tuple #[]) (by simp[results,Tryz.results42,go_sem]) rfl ?_))
    exact⟨⟨_,rfl⟩,(by rw[HV.out];exact HZ9.out.to ii),HX9.out,b7.of⟩
   | some r0 =>
    have HV:=lH (show B8 m x=bT9 m r0 from bT6 h2 hr)
    have HRG:=lH (aU4 hr om)
    rw[hr]at HDR
    have HDR:=lH (show ∀ W,Calls Tryz.prog 164 #[.string x.Data] W (b5 W (.tuple #[.agg #[.int .i64 r0.Id,.int .i64 r0.Priority,.int .i64 r0.Time,.string r0.Data],.bool true]))from HDR.out)
    clear hr
    go_wp2_with (first|((with_reducible refine rl ?_);(repeat(first|go_big_quiet_step (first|fail)|simp only[c1]|simp only[c2]));refine wpQuiet_nil ?_;intro x))
    refine gm (HDR.out _) ?_
    intro y2
    go_upto_region 14 with(first|((with_reducible refine rl ?_);refine rq ?_;intro x))
    (try simp only[Act.put])
    have HNB:=lH (j5.new y2.w [.int .i64 r0.Id,.int .i64 r0.Priority,.int .i64 r0.Time,.string r0.Data] 151 y2.w.heap.size rfl)
    have HG2:=lH (GB.prot (P:=fun k=>k=y2.w.heap.size) (HG1.out.to (ii:b8 W1 y2.w)) (ii:b8 y2.w (y2.w.alloc (.cells #[.int .i64 r0.Id,.int .i64 r0.Priority,.int .i64 r0.Time,.string r0.Data] 151))) (fun k hk=>by subst hk;simp))
    have HB2:=lH (HB.out.to (ii:b8 W1 (y2.w.alloc (.cells #[.int .i64 r0.Id,.int .i64 r0.Priority,.int .i64 r0.Time,.string r0.Data] 151))))
    have g2:b8 w0 (y2.w.alloc (.cells #[.int .i64 r0.Id,.int .i64 r0.Priority,.int .i64 r0.Time,.string r0.Data] 151)):=inferInstance
    have HX2:=lH (show ∀ k,X k→(y2.w.alloc (.cells #[.int .i64 r0.Id,.int .i64 r0.Priority,.int .i64 r0.Time,.string r0.Data] 151)).heap[k]?=w.heap[k]? from fun k hk=>((ii:b8 W1 (y2.w.alloc (.cells #[.int .i64 r0.Id,.int .i64 r0.Priority,.int .i64 r0.Time,.string r0.Data] 151))).out.block k (HG1.out.xs (.inl hk)).2).trans (HX0.out k hk))
    obtain⟨nbq,hnb⟩:∃ nbq,y2.w.heap.size=nbq:=⟨_,rfl⟩
    rw[hnb]at HG2 HNB ⊢
    generalize (y2.w.alloc (.cells #[.int .i64 r0.Id,.int .i64 r0.Priority,.int .i64 r0.Time,.string r0.Data] 151))=W2 at HNB HG2 HB2 g2 HX2 ⊢
    clear hnb p0 p2
    have iq2:LtN q W2.heap.size:=⟨HG2.out.lt⟩
    have ix2:LtN w.heap.size W2.heap.size:=⟨HB2.out.lt⟩
    have in2:LtN nbq W2.heap.size:=⟨HNB.out.lt⟩
    obtain⟨pa,pc,pe,pown,-,-⟩:=HG2.out.own aG3
    have HPE:=lH (pe W2)
    have HOW:=lH (show Own N3 151 4 B W2 pa pc m.Ground.Records from pown)
    obtain⟨pn,hpn⟩:∃ pn,m.Ground.Records.length=pn:=⟨_,rfl⟩
    have HPN:=lH hpn
    have hpb:pn≤1000000000:=by have:=HI.out.inv.recs;omega
    have pe2:∀ (W:World) [b8 W2 W],W.cell? ⟨q,30,none⟩=some (.slice pa pn pc):=fun W g=>hpn▸pe W
    have hBw:B≤W2.heap.size:=by have:=HG2.out.le;have:=HG2.out.lt;omega
    clear pe pown hpn
    refine I5 kr (T:=[7,8,9,10]) (Zs:=[(0,[])]) (H:=[(4,[]),(5,[]),(6,[])]) (C:=[6]) (Fs:=[(some 83,.v (.pointer (some ⟨q,16,none⟩))),(some 84,.v (.pointer (some ⟨q,16,none⟩))),(some 85,.v (.pointer (some ⟨q,16,none⟩))),(some 86,.v (.pointer (some ⟨q,30,none⟩))),(some 87,.v (.slice pa pn pc)),(some 88,.v (.agg #[.int .i64 r0.Id,.int .i64 r0.Priority,.int .i64 r0.Time,.string r0.Data])),(some 89,.sl W2.heap.size 1 [.int .i64 r0.Id,.int .i64 r0.Priority,.int .i64 r0.Time,.string r0.Data] 151),(none,.v undef),(none,.v undef),(none,.v undef),(none,.v undef)]) kr (fun val W=>by kernel_rfl) ?ob14 ?lz14 ?pn14 ?tl14
    case ob14 =>
     refine⟨fun x6=>?_,fun x6=>?_,fun x6=>?_,trivial⟩
     ·exact am3 (pe2 x6.w) rfl kr _ Tryz.underlying73 rfl
     ·exact bd2 (o:=0) (cs:=[.int .i64 r0.Id,.int .i64 r0.Priority,.int .i64 r0.Time,.string r0.Data]) (row:=[.int .i64 r0.Id,.int .i64 r0.Priority,.int .i64 r0.Time,.string r0.Data]) (HNB.out.to (ii:b8 W2 x6.w)) rfl kr _ Tryz.underlying151 rfl kr rfl
     ·exact ca4 rfl kr LeN.out
    case lz14 =>
     refine⟨fun W hW=>bp9 ?_,trivial⟩
     intro W9
     kernel_rfl
    case pn14=>exact fun _ _ _ _ _ _ h=>h
    case tl14 =>
     intro x6
     refine aq0 fun v8 q8=>?_
     obtain⟨bs,rfl,hbs,hH⟩:=(show ∃ b,v8=.slice (some ⟨b,0,none⟩) 1 1∧W2.heap.size≤b∧j5 x6.w b [.int .i64 r0.Id,.int .i64 r0.Priority,.int .i64 r0.Time,.string r0.Data] 151 from q8)
     clear q8
     refine cb2 rfl rfl rfl rfl ?_
     simp only[ag8,ae9]
     simp only[nrm,if_true]
     refine ac6 (enc:=N3) (w0:=w0) (z:=.agg #[.int .i64 0,.int .i64 0,.int .i64 0,.string ⟨#[]⟩]) (size:=4) (bytes:=40) (n:=pn) r0 rfl (.tmp 87) (.tmp 89) rfl Tryz.underlying73 kr rfl de de kr kr HPN.out (HOW.out.to (ii:b8 W2 x6.w)) hH rfl (an9 _) hpb (Nat.le_trans hBw (ii:b8 W2 x6.w).out.size) ii hb ?_
     intro sa3 sc3 xw hown1 hgr1 hblk1
     have hp4:=GBp.app (F:=aG3) HG2.out HPE.out (ii:b8 W2 x6.w) hown1 hgr1 hblk1 HRG.out
     have HP4:=lH hp4.1
     have HX4:=lH (show ∀ k,X k→xw.w.heap[k]?=W2.heap[k]? from fun k hk=>(hp4.2 k (.inl (.inl hk))).trans ((ii:b8 W2 x6.w).out.block k (HG2.out.xs (.inl (.inl hk))).2))
     clear hown1 hgr1 hblk1 hp4 hH
     (try simp only[nrm])
     go_wp2_with (first|((with_reducible refine rl ?_);refine rq ?_;intro x)|(refine at5 (bL5 HPN.out) rfl _ _ _ rfl HP4.out kr kr kr (w0:=w0) ii hb ?_;intro z5 hz5 hX5))
     have HZ5:=lH (show GB X B q z5.w (B8 m x)by rw[HV.out];exact hz5.less fun k hk=>.inl (.inl hk))
     have HX5:=lH (show ∀ k,X k→z5.w.heap[k]?=w.heap[k]? from fun k hk=>((hX5 k (.inl (.inl hk))).trans (HX4.out k hk)).trans (HX2.out k hk))
     clear hz5 hX5
     (first|(refine bodyPost_end (v:=.tuple #[]) (by simp[results,Tryz.results42,go_sem]) rfl ?_)|(refine bodyPost_ret (v:=.tuple #[]) (by simp[results,Tryz.results42,go_sem]) rfl ?_))
     exact⟨⟨_,rfl⟩,HZ5.out.to ii,HX5.out,b7.of⟩
 ·have h1:x.Apid=1:=by simpa using c1
  by_cases h5:x.Data.size=5
  ·obtain⟨d2,hd2⟩:∃ d2,x.Data.extract 0 2=d2:=⟨_,rfl⟩
   have ed:=hd2
   have hdz:d2.size≤100000000:=by rw[← hd2];simp only[ByteArray.size_extract];omega
   have j2:(2:Int)≤x.Data.size:=by omega
   have HDN:=lH (fun(W:World)=>aW9 (s:=d2) (w:=W) hdz)
   have d5:((x.Data.size:Int) != 5)=false:=by simp;omega
   cases hn:ac8 (x.Data.extract 0 2)with
   | none =>
    have HV:=lH (show B8 m x=ad4 m from bN1 h1 hn)
    rw[hd2]at hn
    rw[hn]at HDN
    have HDN:=lH (show ∀ W,Calls Tryz.prog 161 #[.string d2] W (b5 W (.tuple #[.agg #[.int .i64 0,.bool false,.bool false],.bool false]))from HDN.out)
    have HBD:=lH (fun(W:World) (g1:b8 W1 W) (g2:b8 w0 W)=>ap9 (w0:=w0) (HG1.out.to g1) HI.out.inv.bad0 HI.out.inv.bad1 g2 hb)
    go_wp2_with (first|((with_reducible refine rl ?_);(repeat(first|go_big_quiet_step (first|fail)|simp only[c1]));refine wpQuiet_nil ?_;intro x))
    refine gm (af5 (a:=2) (k:=3) de de om om) ?_
    intro y1
    go_wp2_with (first|((with_reducible refine rl ?_);(repeat(first|go_big_quiet_step (first|fail)|simp only[d5]|simp only[ed]));refine wpQuiet_nil ?_;intro x))
    refine gm (HDN.out _) ?_
    intro y2
    go_wp2_with (first|((with_reducible refine rl ?_);refine rq ?_;intro x))
    refine(HBD.out _ ii ii).mono ?_
    rintro _ w9 ⟨⟨u,rfl⟩,hz9,hx9,z9,rfl⟩
    have HX9:=lH (show ∀ k,X k→z9.w.heap[k]?=w.heap[k]? from fun k hk=>((hx9 k (.inl hk)).trans ((ii:b8 W1 _).out.block k (HG1.out.xs (.inl hk)).2)).trans (HX0.out k hk))
    have HZ9:=lH (show GB X B q z9.w (ad4 m)from hz9.less fun k hk=>.inl hk)
    clear hx9 hz9
    go_wp2_with (first|((with_reducible refine rl ?_);refine rq ?_;intro x))
    (first|(refine bodyPost_end (v:=.tuple #[]) (by simp[results,Tryz.results42,go_sem]) rfl ?_)|(refine bodyPost_ret (v:=.tuple #[]) (by simp[results,Tryz.results42,go_sem]) rfl ?_))
    exact⟨⟨_,rfl⟩,(by rw[HV.out];exact HZ9.out.to ii),HX9.out,b7.of⟩
   | some n0 =>
    obtain⟨ne,nl,na⟩:=n0
    have hn2:=hn
    rw[hd2]at hn2
    rw[hn2]at HDN
    clear hn2
    have HV:=lH (show B8 m x=bJ4 m ⟨ne,nl,na⟩ (as9 x.Data)from bT5 h1 h5 hn)
    have hne:=bl2 hn
    have HNE:=lH hne
    have hcb:=bx5 x.Data
    obtain⟨cl,hcl⟩:∃ cl,as9 x.Data=cl:=⟨_,rfl⟩
    have HCL:=lH (show R8 x.Data 2 3=cl by rw[← hcl];show(((0:Int)*256+bAt x.Data 2)*256+bAt x.Data 3)*256+bAt x.Data 4=(bAt x.Data 2*256+bAt x.Data 3)*256+bAt x.Data 4;omega)
    rw[hcl]at HV hcb
    clear hcl hn hne
    have HDN:=lH (show ∀ W,Calls Tryz.prog 161 #[.string d2] W (b5 W (.tuple #[.agg #[.int .i64 ne,.bool nl,.bool na],.bool true]))from HDN.out)
    go_wp2_with (first|((with_reducible refine rl ?_);(repeat(first|go_big_quiet_step (first|fail)|simp only[c1]));refine wpQuiet_nil ?_;intro x))
    refine gm (af5 (a:=2) (k:=3) de de om om) ?_
    intro y1
    rw[HCL.out]
    go_wp2_with (first|((with_reducible refine rl ?_);(repeat(first|go_big_quiet_step (first|fail)|simp only[d5]|simp only[ed]));refine wpQuiet_nil ?_;intro x))
    refine gm (HDN.out _) ?_
    intro y2
    go_upto_region 8 with(first|((with_reducible refine rl ?_);refine rq ?_;intro x))
    (try simp only[Act.put])
    have HNB:=lH (j5.new (y1.andThen y2).w [.int .i64 ne,.bool nl,.bool na] 70 (y1.andThen y2).w.heap.size rfl)
    have HG2:=lH (GB.prot (P:=fun k=>k=(y1.andThen y2).w.heap.size) (HG1.out.to (ii:b8 W1 (y1.andThen y2).w)) (ii:b8 (y1.andThen y2).w ((y1.andThen y2).w.alloc (.cells #[.int .i64 ne,.bool nl,.bool na] 70))) (fun k hk=>by subst hk;simp))
    have HB2:=lH (HB.out.to (ii:b8 W1 ((y1.andThen y2).w.alloc (.cells #[.int .i64 ne,.bool nl,.bool na] 70))))
    have g2:b8 w0 ((y1.andThen y2).w.alloc (.cells #[.int .i64 ne,.bool nl,.bool na] 70)):=inferInstance
    have HX2:=lH (show ∀ k,X k→((y1.andThen y2).w.alloc (.cells #[.int .i64 ne,.bool nl,.bool na] 70)).heap[k]?=w.heap[k]? from fun k hk=>((ii:b8 W1 ((y1.andThen y2).w.alloc (.cells #[.int .i64 ne,.bool nl,.bool na] 70))).out.block k (HG1.out.xs (.inl hk)).2).trans (HX0.out k hk))
    obtain⟨nbq,hnb⟩:∃ nbq,(y1.andThen y2).w.heap.size=nbq:=⟨_,rfl⟩
    rw[hnb]at HG2 HNB ⊢
    generalize ((y1.andThen y2).w.alloc (.cells #[.int .i64 ne,.bool nl,.bool na] 70))=W2 at HNB HG2 HB2 g2 HX2 ⊢
    clear hnb p0 p2
    have iq2:LtN q W2.heap.size:=⟨HG2.out.lt⟩
    have ix2:LtN w.heap.size W2.heap.size:=⟨HB2.out.lt⟩
    have in2:LtN nbq W2.heap.size:=⟨HNB.out.lt⟩
    go_upto_region 9 with(first|((with_reducible refine rl ?_);refine rq ?_;intro x)|(refine lA rfl _ _ rfl (nbq) 0 kr [.int .i64 ne,.bool nl,.bool na] HNB Tryz.underlying70 ?_)|(refine al9 (o:=21) (us:=[.int .i64 ne,.bool nl,.bool na]) ({ m with Ground:={ m.Ground with Notice:=⟨ne,nl,na⟩ } }:f7) rfl _ (.tmp 45) (.tmp 43) rfl (HG2.out.to ii) kr kr kr rfl nb (by intros;rename_i h;obtain⟨A1,rfl,p⟩:=h;exact⟨A1,rfl,{ p with ok:=bS7 p.ok HNE.out }⟩) (w0:=w0) ii hb ?_;intro z3 hz3 hX3))
    (try simp only[Act.put])
    obtain⟨m3,hm3⟩:∃ m3:f7,{ m with Ground:={ m.Ground with Notice:=⟨ne,nl,na⟩ } }=m3:=⟨_,rfl⟩
    rw[hm3]at hz3
    have HZ3:=lH hz3
    have HX3:=lH hX3
    have HN3:=lH (aw2 HNB.out (hX3 nbq (.inr rfl)))
    have HB3:=lH (aw2 HB2.out (hX3 _ (.inl (.inr rfl))))
    have HM3:=lH hm3
    clear hz3 hX3
    have iq3:LtN q z3.w.heap.size:=⟨HZ3.out.lt⟩
    have in3:LtN nbq z3.w.heap.size:=⟨HN3.out.lt⟩
    have ix3:LtN w.heap.size z3.w.heap.size:=⟨HB3.out.lt⟩
    have HS3:=lH (show Enc.tot m3.Ground.Sender≤100000000 by rw[← HM3.out];exact HI.out.snd)
    have HSE:=lH (show m3.Ground.Sender=m.Ground.Sender by rw[← HM3.out])
    clear hm3
    obtain⟨vs5,A5,hV5,hvs5,F5⟩:=al3 HZ3.out
    have HV5:=lH hV5
    obtain⟨sd5,hsd⟩:∃ sd5,(vs5.drop 17).take 4=sd5:=⟨_,rfl⟩
    have HRD:=lH hsd
    have HSR:=lH (show Enc.Rd B z3.w sd5 m3.Ground.Sender from by rw[← hsd,hvs5];exact⟨A5.a4,A5.c4,rfl,F5.q4,F5.ok.2.2.2.2.2.2.1.1⟩)
    clear hV5 hvs5 hsd F5
    have HL5:=lH (aS0 HSR.out)
    refine I5 kr (T:=[9]) (Zs:=[]) (H:=[(4,[]),(5,[]),(6,[])]) (C:=[6]) (Fs:=[(some 46,.v (.pointer (some ⟨q,16,none⟩))),(some 47,.v (.pointer (some ⟨q,16,none⟩))),(some 48,.v (.pointer (some ⟨q,16,none⟩))),(some 49,.v (.pointer (some ⟨q,17,none⟩))),(some 50,.v (.agg sd5.toArray)),(some 51,.v (.agg #[.int .i64 ne,.bool nl,.bool na])),(some 52,bV4 z3.w.heap.size (R9 m3.Ground.Sender ⟨ne,nl,na⟩)),(some 53,.v (.pointer (some ⟨q,16,none⟩))),(some 54,.v (.pointer (some ⟨q,17,none⟩))),(none,.v undef)]) kr (fun val W=>by kernel_rfl) ?ob9 ?lz9 ?pn9 ?tl9
    case ob9 =>
     refine⟨fun x6=>?_,fun x6=>?_,fun x6=>?_,trivial⟩
     ·exact bd2 (o:=17) (cs:=vs5) (row:=sd5) (HV5.out.to (ii:b8 z3.w x6.w)) rfl kr _ Tryz.underlying69 rfl (by rw[HL5.out];kernel_rfl) (by rw[HL5.out];exact HRD.out)
     ·exact bd2 (o:=0) (cs:=[.int .i64 ne,.bool nl,.bool na]) (row:=[.int .i64 ne,.bool nl,.bool na]) (HN3.out.to (ii:b8 z3.w x6.w)) rfl kr _ Tryz.underlying70 rfl kr rfl
     ·refine aR7 (f:=162) (args:=[.agg sd5.toArray,.agg #[.int .i64 ne,.bool nl,.bool na]]) Tryz.func162 kr kr ((bj1 (B:=B) (nt:=⟨ne,nl,na⟩) (Enc.keep HSR.out (aC7 (ii:b8 z3.w x6.w))) HNE.out HS3.out).mono ?_)
      rintro _ _ ⟨vs2,χ2,rfl,hO2,y2,rfl⟩
      exact⟨_,rfl,⟨y2,rfl⟩,vs2,χ2,rfl,R4.map hO2 (.mono x6.size_le)⟩
    case lz9 =>
     exact trivial
    case pn9=>exact fun _ _ _ _ _ _ h=>h
    case tl9 =>
     intro x6
     refine aq0 fun v13 q13=>?_
     obtain⟨vs2,χ2,rfl,hO2⟩:=(show isO z3.w.heap.size (R9 m3.Ground.Sender ⟨ne,nl,na⟩) v13 x6.w from q13)
     clear q13
     refine aF1 rfl ?_
     simp only[ag8,ae9]
     simp only[nrm,if_true]
     have HL2:=lH (aS0 (W0.toRd hO2))
     have HPP:=lH (GBq.new (D:=aZ6) HZ3.out (ii:b8 z3.w x6.w) hO2)
     clear hO2
     go_upto_region 10 with(first|((with_reducible refine rl ?_);refine rq ?_;intro x)|(refine bD8 rfl _ (.tmp 54) (.tmp 52) rfl HPP.out kr kr (by rw[HL2.out];kernel_rfl) (w0:=w0) ii hb ?_;intro z4 hz4 hX4))
     (try simp only[Act.put])
     obtain⟨m4,hm4⟩:∃ m4,aZ6.set m3 (R9 m3.Ground.Sender ⟨ne,nl,na⟩)=m4:=⟨_,rfl⟩
     rw[hm4]at hz4
     have HZ4:=lH hz4
     have HX4:=lH (show ∀ k,((X k∨k=w.heap.size)∨k=nbq)→z4.w.heap[k]?=z3.w.heap[k]? from fun k hk=>(hX4 k hk).trans ((ii:b8 z3.w x6.w).out.block k (HZ3.out.xs hk).2))
     have HB4:=lH (aw2 HB3.out (HX4.out _ (.inl (.inr rfl))))
     have iq4:LtN q z4.w.heap.size:=⟨HZ4.out.lt⟩
     have ix4:LtN w.heap.size z4.w.heap.size:=⟨HB4.out.lt⟩
     clear hz4 hX4 HPP
     have HT4:=lH (show m4.Time=m.Time∧m4.Light=m.Light∧m4.Ground.Pairs=m.Ground.Pairs by rw[← hm4,← HM3.out];exact⟨rfl,rfl,rfl⟩)
     have HV4:=lH (show aw3.set m4 (X9 m.Ground.Pairs ⟨cl,m.Time - m.Light⟩)=bJ4 m ⟨ne,nl,na⟩ cl by rw[← hm4,← HM3.out];rfl)
     clear hm4
     have htm0:=HI.out.tim.1;have htm1:=HI.out.tim.2;have hlt0:=HI.out.lig.1;have hlt1:=HI.out.lig.2
     obtain⟨pa,pc,pe,pown,pgood,prd⟩:=HZ4.out.own aw3
     obtain⟨pl,hpl⟩:∃ pl,m.Ground.Pairs=pl:=⟨_,rfl⟩
     have hple:(aw3.get m4)=pl:=by rw[← hpl];exact HT4.out.2.2
     rw[hple]at pe pown pgood prd
     obtain⟨pn,hpn⟩:∃ pn,pl.length=pn:=⟨_,rfl⟩
     rw[hpn]at pe
     have HPN:=lH hpn
     have hpb:pn≤1048576:=by have:=HI.out.inv.pairs;rw[hpl]at this;omega
     have HPR:=lH (show RdS B z4.w pa pc pl from prd)
     have HPG:=lH (show ∀ p∈pl,bu4 p from pgood)
     rw[hpl]at HV4
     have et:=br2 HZ4.out
     rw[HT4.out.1]at et
     obtain⟨vs6,A6,hV6,hvs6,-⟩:=al3 HZ4.out
     have el:∀ (W:World) [b8 z4.w W],W.cell? ⟨q,1,none⟩=some (.int .i64 m.Light):=fun W g=>(hV6.to g).cell 1 |>.trans (by rw[hvs6,← HT4.out.2.1];rfl)
     clear hV6 hvs6 pown pgood prd hpn hple hpl
     have HAG:=lH (aL1 (c:=cl) (t:=m.Time) (u:=m.Light) HPG.out hcb htm0 htm1 hlt0 hlt1)
     have HAP:=lH (fun(W:World) (gg:b8 z4.w W)=>bE7 (c:=pc) (p:=⟨cl,m.Time - m.Light⟩) (w:=W) ((RdS.slF HPR.out).to gg) HPN.out hpb)
     obtain⟨al,hal⟩:∃ al,X9 pl ⟨cl,m.Time - m.Light⟩=al:=⟨_,rfl⟩
     rw[hal]at HV4 HAG HAP
     clear hal
     obtain⟨an,han⟩:∃ an,al.length=an:=⟨_,rfl⟩
     have HAN:=lH han
     clear han
     refine I5 kr (T:=[19]) (Zs:=[]) (H:=[(4,[]),(9,[]),(13,[]),(14,[]),(16,[])]) (C:=[16]) (Fs:=[(some 55,.v (.pointer (some ⟨q,16,none⟩))),(some 56,.v (.pointer (some ⟨q,16,none⟩))),(some 57,.v (.pointer (some ⟨q,16,none⟩))),(some 58,.v (.pointer (some ⟨q,29,none⟩))),(some 59,.v (.slice pa pn pc)),(some 60,.v (.int .i64 (cl))),(some 61,.v (.pointer (some ⟨q,0,none⟩))),(some 62,.v (.pointer (some ⟨q,0,none⟩))),(some 63,.v (.pointer (some ⟨q,0,none⟩))),(some 64,.v (.int .i64 (m.Time))),(some 65,.v (.pointer (some ⟨q,0,none⟩))),(some 66,.v (.pointer (some ⟨q,0,none⟩))),(some 67,.v (.pointer (some ⟨q,1,none⟩))),(some 68,.v (.int .i64 (m.Light))),(some 69,.v (.int .i64 (m.Time - m.Light))),(some 70,.v (.agg #[.int .i64 cl,.int .i64 (m.Time - m.Light)])),(some 71,bX2 M4 206 2 z4.w.heap.size an al),(some 72,.v (.pointer (some ⟨q,16,none⟩))),(some 73,.v (.pointer (some ⟨q,29,none⟩))),(none,.v undef)]) kr (fun val W=>by kernel_rfl) ?ob10p ?lz10p ?pn10p ?tl10p
     case ob10p =>
      refine⟨fun x6=>?_,fun x6=>?_,fun x6=>?_,fun x6=>?_,fun x6=>?_,trivial⟩
      ·exact am3 (pe x6.w) rfl kr _ Tryz.underlying72 rfl
      ·exact am3 (et x6.w) rfl kr _ Tryz.underlying3 rfl
      ·exact am3 (el x6.w) rfl kr _ Tryz.underlying3 rfl
      ·exact ak9 (o:=.sub) (p:=.i64) (s:=m.Time) (q:=.i64) (t:=m.Light) rfl kr (fun ty ty2 w=>bD7 om om ty w)
      ·refine aR7 (f:=163) (args:=[.slice pa pn pc,.agg #[.int .i64 cl,.int .i64 (m.Time - m.Light)]]) Tryz.func163 kr kr ((HAP.out x6.w ii).mono ?_)
       rintro _ _ ⟨a1,c1,rfl,own1,y1,rfl⟩
       exact⟨_,rfl,⟨y1,rfl⟩,a1,c1,by rw[HAN.out],own1.mono (ii:b8 z4.w x6.w).out.size⟩
     case lz10p =>
      exact trivial
     case pn10p=>exact fun _ _ _ _ _ _ h=>h
     case tl10p =>
      intro x6
      refine aq0 fun v13 q13=>?_
      obtain⟨a1,c1,rfl,own1⟩:=(show bY6 M4 206 2 z4.w.heap.size an al v13 x6.w from q13)
      clear q13
      refine aF1 rfl ?_
      simp only[ag8,ae9]
      simp only[nrm,if_true]
      have HPP:=lH (GBp.new (F:=aw3) HZ4.out (ii:b8 z4.w x6.w) (B6.of own1 HAG.out (0,0)))
      clear own1
      go_wp2_with (first|((with_reducible refine rl ?_);refine rq ?_;intro x)|(refine at5 HAN.out rfl _ (.tmp 73) (.tmp 71) rfl HPP.out kr kr kr (w0:=w0) ii hb ?_;intro z5 hz5 hX5))
      have HZ5:=lH (show GB X B q z5.w (B8 m x)by rw[HV.out,← HV4.out];exact hz5.less fun k hk=>.inl (.inl hk))
      have HX5:=lH (show ∀ k,X k→z5.w.heap[k]?=w.heap[k]? from fun k hk=>((((hX5 k (.inl (.inl hk))).trans ((ii:b8 z4.w x6.w).out.block k (HZ4.out.xs (.inl (.inl hk))).2)).trans (HX4.out k (.inl (.inl hk)))).trans ((HX3.out k (.inl (.inl hk))).trans ((ii:b8 W2 W2).out.block k (HG2.out.xs (.inl (.inl hk))).2))).trans (HX2.out k hk))
      clear hz5 hX5
      (first|(refine bodyPost_end (v:=.tuple #[]) (by simp[results,Tryz.results42,go_sem]) rfl ?_)|(refine bodyPost_ret (v:=.tuple #[]) (by simp[results,Tryz.results42,go_sem]) rfl ?_))
      exact⟨⟨_,rfl⟩,HZ5.out.to ii,HX5.out,b7.of⟩
  ·have HV:=lH (show B8 m x=ad4 m from bN3 h1 h5)
   by_cases h6:x.Data.size<5
   ·have HBD:=lH (fun(W:World) (g1:b8 W1 W) (g2:b8 w0 W)=>ap9 (w0:=w0) (HG1.out.to g1) HI.out.inv.bad0 HI.out.inv.bad1 g2 hb)
    go_wp2_with (first|((with_reducible refine rl ?_);(repeat(first|go_big_quiet_step (first|fail)|simp only[c1]));refine wpQuiet_nil ?_;intro x))
    refine gm (bw4 (a:=2) (k:=3) de de om om om) ?_
    intro y1
    go_wp2_with (first|((with_reducible refine rl ?_);refine rq ?_;intro x))
    refine(HBD.out _ ii ii).mono ?_
    rintro _ w9 ⟨⟨u,rfl⟩,hz9,hx9,z9,rfl⟩
    have HX9:=lH (show ∀ k,X k→z9.w.heap[k]?=w.heap[k]? from fun k hk=>((hx9 k (.inl hk)).trans ((ii:b8 W1 _).out.block k (HG1.out.xs (.inl hk)).2)).trans (HX0.out k hk))
    have HZ9:=lH (show GB X B q z9.w (ad4 m)from hz9.less fun k hk=>.inl hk)
    clear hx9 hz9
    go_wp2_with (first|((with_reducible refine rl ?_);refine rq ?_;intro x))
    (first|(refine bodyPost_end (v:=.tuple #[]) (by simp[results,Tryz.results42,go_sem]) rfl ?_)|(refine bodyPost_ret (v:=.tuple #[]) (by simp[results,Tryz.results42,go_sem]) rfl ?_))
    exact⟨⟨_,rfl⟩,(by rw[HV.out];exact HZ9.out.to ii),HX9.out,b7.of⟩
   ·have d5:((x.Data.size:Int) != 5)=true:=by simp;omega
    have HBD:=lH (fun(W:World) (g1:b8 W1 W) (g2:b8 w0 W)=>ap9 (w0:=w0) (HG1.out.to g1) HI.out.inv.bad0 HI.out.inv.bad1 g2 hb)
    go_wp2_with (first|((with_reducible refine rl ?_);(repeat(first|go_big_quiet_step (first|fail)|simp only[c1]));refine wpQuiet_nil ?_;intro x))
    refine gm (af5 (a:=2) (k:=3) de de om om) ?_
    intro y1
    go_wp2_with (first|((with_reducible refine rl ?_);(repeat(first|go_big_quiet_step (first|fail)|simp only[d5]));refine wpQuiet_nil ?_;intro x))
    refine(HBD.out _ ii ii).mono ?_
    rintro _ w9 ⟨⟨u,rfl⟩,hz9,hx9,z9,rfl⟩
    have HX9:=lH (show ∀ k,X k→z9.w.heap[k]?=w.heap[k]? from fun k hk=>((hx9 k (.inl hk)).trans ((ii:b8 W1 _).out.block k (HG1.out.xs (.inl hk)).2)).trans (HX0.out k hk))
    have HZ9:=lH (show GB X B q z9.w (ad4 m)from hz9.less fun k hk=>.inl hk)
    clear hx9 hz9
    go_wp2_with (first|((with_reducible refine rl ?_);refine rq ?_;intro x))
    (first|(refine bodyPost_end (v:=.tuple #[]) (by simp[results,Tryz.results42,go_sem]) rfl ?_)|(refine bodyPost_ret (v:=.tuple #[]) (by simp[results,Tryz.results42,go_sem]) rfl ?_))
    exact⟨⟨_,rfl⟩,(by rw[HV.out];exact HZ9.out.to ii),HX9.out,b7.of⟩
