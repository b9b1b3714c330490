/- Steps of a region that draws its order: a load of one cell, three operations that may come up, stores into a box with data of the call's own. -/
import Derived.Test.YthbepablpaldgaaGreatSM41
import Derived.Test.YthbepablpaldgaaGreatSLnkG
import Derived.Test.YthbepablpaldgaaGreatSM34
import Derived.Test.YthbepablpaldgaaGreatSM47
import Derived.Test.YthbepablpaldgaaGreatSOwnF
import Derived.Deep.CutRange
import Derived.Test.YthbepablpaldgaaGreatSSupL
import Derived.Test.YthbepablpaldgaaGreatSM22
import Derived.Test.YthbepablpaldgaaGreatSM29
import Derived.Deep.CutBlock
namespace Go.Proofs.YthbepablpaldgaaGreat
set_option maxRecDepth 100000
set_option maxHeartbeats 4000000
set_option linter.unusedVariables false
open Go.ChangeShapes Go.WideShapes Go.ChangeAt Go.RowKit
private abbrev uu3:=Tryz.underlying3
private abbrev uu30:=Tryz.underlying30
private abbrev uu65:=Tryz.underlying65
private abbrev uu90:=Tryz.underlying90
section
variable {P:Program} {ops:Array Oper} {op:Oper} {a:Act} {w w0:World} {Q:Exit→Act→World→Prop} {S:World→Prop} {md:Region.Mode} {fuel:Nat} {listed:Array Bool}
theorem yields_cell(hw:Region.wanted op (yielded ops a.tmps)=true)(ty:TypeId)(x:Operand)(ho:op.op=.load ty x)(b o:Nat)(hx:a.eval x=.pointer (some ⟨b,o,none⟩))(v:Value)(hS:∀ w,S w→w.cell? ⟨b,o,none⟩=some v)(d:TypeDesc)(hu:P.underlying ty=some d)(hd:d.isRow=false):YieldsIf P ops S op v a :=
 Or.inl ⟨hw,fun w h=>by
  have hagg:(isAgg ty).run P w=.ok false w:=by
   unfold isAgg
   rw[Sem.run_bind,run_underlying hu w]
   cases d<;>simp_all [TypeDesc.isRow]
  have hr:(Instr.loadAt ty (.pointer (some ⟨b,o,none⟩))).run P w=.ok v w:=by simp[Instr.loadAt,Instr.sureAddr,Sem.run_bind,loadVar,hagg,go_sem,hS w h]
  unfold execOp
  simp only[ho,hx,Sem.run_bind,hr,Result.andThen_ok,Sem.run_pure]⟩
theorem any_meet{y:World}{G:Prop}{l:Array Bool}(main:(∀ V:Later y,wpAnyH P md ops Q S fuel l a V.w)→G)(tail:∀ V:Later y,wpAnyH P md ops Q S fuel l a V.w):G:=main tail
theorem wpAnyH_r3(i j k:Nat)(hr:Region.ready md ops listed=[i,j,k])(h:OneH P md ops Q S fuel listed a w i)(h2:OneH P md ops Q S fuel listed a w j)(h3:OneH P md ops Q S fuel listed a w k):wpAnyH P md ops Q S (fuel+1) listed a w :=
 wpAnyH_ready hr (by simp) (fun q hq=>by
  simp only[List.mem_cons,List.not_mem_nil,or_false]at hq
  rcases hq with rfl|rfl|rfl
  ·exact h
  ·exact h2
  ·exact h3)
end
section
variable {P:Program} {ops:Array Oper} {op:Oper} {act:Act} {w w0:World} {Q:Exit→Act→World→Prop} {S:World→Prop} {md:Region.Mode} {fuel:Nat} {listed:Array Bool} {α β:Type} [E:OBox α] [E2:Flat β] {X:Nat→Prop} {B b:Nat} {x:α} {F:FS α β} {l:List β} {a:Option Addr} {c:Nat} {us:List Value}
theorem any_gbpC{o:Nat}(i:Nat)(ho1:ops[i]?=some op)(hr:Region.ready md ops listed=[i])(hw:Region.wanted op (yielded ops act.tmps)=true)(x':α)(ty:TypeId)(p v:Operand)(ho:op.op=.store ty p v)(h:GBp F X B b w x l a c)(hx:act.eval p=.pointer (some ⟨b,o,none⟩))(hv:(act.eval v).cells.toList=us)(hi:(P.info? ty).map (·.size)=some us.length)(h1:us.all (·.oneCell')=true)(hl:o+us.length≤E.size)
  (hne:F.off<o∨o+us.length≤F.off) (hm:∀ {χ vs w},E.O B χ 0 w vs (F.set x l)→E.O B χ 0 w (splice vs o us) (F.set x' l)) (g:Grows w0 w) (hb:w0.heap.size≤B) (K:∀ z:Later w0,GBp F X B b z.w x' l a c→(∀ k,X k→z.w.heap[k]?=w.heap[k]?)→S z.w∧wpAnyH P md ops Q S fuel (listed.setIfInBounds i true) (act.put op.dst undef) z.w):wpAnyH P md ops Q S (fuel+1) listed act w:=by
 obtain⟨χ,vs,h0,hlv,h2,h3,h4,h5,h6⟩:=h
 have hlen:o+us.length≤vs.length:=by rw[hlv];exact hl
 refine wpAnyH_store1 i ho1 hr hw ty p v ho b o hx h0 (us:=us) (cs2:=splice vs o us) hv hi h1 hlen rfl g (Nat.le_trans hb h5) fun z hz hk=>K z ⟨χ,splice vs o us,hz,?_,?_,h3,h4.mono hk.size,h5,fun k hk'=>⟨(h6 k hk').1,(h6 k hk').2.1,Nat.lt_of_lt_of_le (h6 k hk').2.2 hk.size⟩⟩ (fun k hk'=>hk.block k (h6 k hk').2.2 (fun e=>(h6 k hk').2.1 (by cases e;rfl)))
 ·have:=obox_len (hm h2)
  rw[splice_set hne,List.length_set]at this;exact this
 ·have:=gb_box (hm h2) h3 h5 hk
  rw[splice_set hne]at this;exact this
theorem any_gbS(i:Nat)(ho1:ops[i]?=some op)(hr:Region.ready md ops listed=[i])(hw:Region.wanted op (yielded ops act.tmps)=true)(ty:TypeId)(p v:Operand)(ho:op.op=.store ty p v)(h:GBp F X B b w x l a c)(hx:act.eval p=.pointer (some ⟨b,F.off,none⟩))(hv:act.eval v=.slice a l.length c)(hi:(P.info? ty).map (·.size)=some 1)
  (g:Grows w0 w) (hb:w0.heap.size≤B) (K:∀ z:Later w0,GB X B b z.w (F.set x l)→(∀ k,X k→z.w.heap[k]?=w.heap[k]?)→S z.w∧wpAnyH P md ops Q S fuel (listed.setIfInBounds i true) (act.put op.dst undef) z.w):wpAnyH P md ops Q S (fuel+1) listed act w:=by
 obtain⟨χ,vs,h1,hl,h2,h3,h4,h5,h6⟩:=h
 exact wpAnyH_store1 i ho1 hr hw ty p v ho b F.off hx h1 (us:=[.slice a l.length c]) (cs2:=vs.set F.off (.slice a l.length c)) (by rw[hv];rfl) hi rfl (by have:=F.lt;rw[hl];exact this) rfl g (Nat.le_trans hb h5) fun z hz hk =>
  K z ⟨χ,_,hz,gb_box h2 h3 h5 hk,h3,h4.mono hk.size,h5,fun k hk'=>⟨(h6 k hk').1,(h6 k hk').2.1,Nat.lt_of_lt_of_le (h6 k hk').2.2 hk.size⟩⟩ (fun k hk'=>hk.block k (h6 k hk').2.2 (fun e=>(h6 k hk').2.1 (by cases e;rfl)))
end
def GivesFl(w0 w:World)(B:Nat)(a:Option Addr)(n cc:Nat)(q:TChannel × List TFlight):Ending→World→Prop:=fun e w' =>
 ∃ (a':Option Addr) (c':Nat),e=.returned (.tuple #[.agg #[.int .i64 q.1.Seed,.int .i64 q.1.Burst,.int .i64 q.1.Loss],.slice a' q.2.length c'])∧Own encTFlight 177 2 B w' a' c' q.2∧w.grownBy w' (Value.ownBlock (.slice a n cc))∧(∀ k,blkOf a'=some k→blkOf a=some k∨w.heap.size≤k)∧∃ z:Later w0,w'=z.w
theorem grownBy_row{w W:World}{r:Option Nat}(g:Grows w W):w.grownBy W r:=⟨g.out.os,g.out.tape,g.out.output,g.out.size,fun k hk _=>g.out.block k hk⟩
theorem grownBy_pre{w V u:World}{r:Option Nat}(g:Grows w V)(h:V.grownBy u r):w.grownBy u r :=
 ⟨h.os.trans g.out.os,h.tape.trans g.out.tape,h.output.trans g.out.output,Nat.le_trans g.out.size h.size,fun k hk hn=>(h.block k (Nat.lt_of_lt_of_le hk g.out.size) hn).trans (g.out.block k hk)⟩
theorem grownBy_but{w u v:World}{r:Option Nat}{b:Nat}(h:w.grownBy u r)(k:u.grownBy v (some b))(hb:w.heap.size≤b):w.grownBy v r :=
 ⟨k.os.trans h.os,k.tape.trans h.tape,k.output.trans h.output,Nat.le_trans h.size k.size,fun i hi hn=>(k.block i (Nat.lt_of_lt_of_le hi h.size) (by simp only[ne_eq,Option.some.injEq];omega)).trans (h.block i hi hn)⟩
theorem Held.apart{w V u:World}{b n c T T2 size B:Nat}{cs:List Value}{a:Option Addr}{α:Type}{enc:α→List Value}{l:List α}(h:Held V b cs T)(g:V.grownBy u (Value.ownBlock (.slice a n c)))(ho:Own enc T2 size B w a c l)(hb:w.heap.size≤b):Held u b cs T:=by
 unfold Held at h ⊢
 rw[g.block b (Array.getElem?_eq_some_iff.1 h).1 (fun e=>by
  have:=(ho.lt (n:=n) b (by rw[← e])).2
  omega)]
 exact h
theorem o_isendFlight{B n cc:Nat}{a:Option Addr}{c:TChannel}{l:List TFlight}{s:ByteArray}{t:Int}{w0:World}{w:World}(g0:Grows w0 w)(h0:w0.heap.size≤B)(hB:B≤w.heap.size)(hO:Own encTFlight 177 2 B w a cc l)(hn:l.length=n)(hb:n≤1000000000)(hs:s.size≤200):Calls Tryz.prog 66 #[.agg #[.int .i64 c.Seed,.int .i64 c.Burst,.int .i64 c.Loss],.slice a n cc,.string s,.int .i64 t] w (GivesFl w0 w B a n cc (sendFlight c l (makeBlock s) t)):=by
 have HB:=lH ((Held.new w [.int .i64 c.Seed,.int .i64 c.Burst,.int .i64 c.Loss] 65 w.heap.size rfl).to (ii:Grows _ ((w.alloc (.cells #[.int .i64 c.Seed,.int .i64 c.Burst,.int .i64 c.Loss] 65)).alloc (.cells #[.int .i64 0,.int .i64 0,.int .i64 0] 65))))
 have HR:=lH (Held.new (w.alloc (.cells #[.int .i64 c.Seed,.int .i64 c.Burst,.int .i64 c.Loss] 65)) [.int .i64 0,.int .i64 0,.int .i64 0] 65 (w.heap.size+1) (by simp))
 have gW:Grows w ((w.alloc (.cells #[.int .i64 c.Seed,.int .i64 c.Burst,.int .i64 c.Loss] 65)).alloc (.cells #[.int .i64 0,.int .i64 0,.int .i64 0] 65)):=inferInstance
 have hsz:((w.alloc (.cells #[.int .i64 c.Seed,.int .i64 c.Burst,.int .i64 c.Loss] 65)).alloc (.cells #[.int .i64 0,.int .i64 0,.int .i64 0] 65)).heap.size=w.heap.size+2:=by simp
 have HO:=lH hO;clear hO
 have HN:=lH hn
 obtain⟨q,hq⟩:∃ q,sendBlock c (makeBlock s)=q:=⟨_,rfl⟩
 have hcs:=fun(W:World)=>(c_iSendBlock (c:=c) (s:=(makeBlock s)) (w:=W) (makeBlock_size s hs))
 rw[hq]at hcs
 have HQ:=lH (show sendFlight c l (makeBlock s) t=(q.1,if q.2.size=0 then l else l++[⟨t,q.2⟩])by rw[sendFlight,hq])
 clear hq
 rw[HQ.out]
 go_enter Tryz.func66,Tryz.ntmps66
 go_upto_region 1 with(first|((with_reducible refine rl ?_);refine rq ?_;intro x))
 generalize ((w.alloc (.cells #[.int .i64 c.Seed,.int .i64 c.Burst,.int .i64 c.Loss] 65)).alloc (.cells #[.int .i64 0,.int .i64 0,.int .i64 0] 65))=W2 at HB HR gW hsz ⊢
 have g2:Grows w0 W2:=growsTr g0 gW
 refine wp_region_stabZ kr (T:=[7,8]) (Zs:=[(6,[])]) (H:=[(0,[]),(2,[]),(3,[])]) (C:=[]) (Fs:=[(some 12,.v (.agg #[.int .i64 c.Seed,.int .i64 c.Burst,.int .i64 c.Loss])),(some 13,.v (.string s)),(some 14,.v (.string (makeBlock s))),(some 15,.v (.tuple #[.agg #[.int .i64 q.1.Seed,.int .i64 q.1.Burst,.int .i64 q.1.Loss],.string q.2])),(some 11,.v (.tuple #[.agg #[.int .i64 q.1.Seed,.int .i64 q.1.Burst,.int .i64 q.1.Loss],.string q.2])),(some 16,.v (.agg #[.int .i64 q.1.Seed,.int .i64 q.1.Burst,.int .i64 q.1.Loss])),(some 17,.v (.string q.2)),(none,.v (undef)),(none,.v (undef))]) kr (fun val W=>by kernel_rfl) ?ob1 ?lz1 ?pn1 ?tl1
 case ob1 =>
  refine⟨fun x=>?_,fun x=>?_,fun x=>?_,trivial⟩
  ·exact g_row (o:=0) (HB.out.to (ii:Grows W2 x.w)) rfl kr _ uu65 rfl kr rfl
  ·refine g_call (f:=174) (args:=[.string s]) Tryz.func174 kr kr ((c_iMakeBlock (by omega)).mono ?_)
   rintro _ _ ⟨rfl,y9,rfl⟩
   exact⟨_,rfl,⟨y9,rfl⟩,rfl⟩
  ·refine g_call (f:=173) (args:=[.agg #[.int .i64 c.Seed,.int .i64 c.Burst,.int .i64 c.Loss],.string (makeBlock s)]) Tryz.func173 kr kr ((hcs x.w).mono ?_)
   rintro _ _ ⟨rfl,y9,rfl⟩
   exact⟨_,rfl,⟨y9,rfl⟩,rfl⟩
 case lz1 =>
  refine⟨fun W hW=>chain0 ?_,trivial⟩
  intro W3
  kernel_rfl
 case pn1=>exact fun _ _ _ _ _ _ h=>h
 case tl1 =>
  intro x
  refine tail2 rfl rfl ?_
  simp only[put_nrm]
  simp only[Act.put,List.setIfInBounds_toArray,List.set_cons_succ,List.set_cons_zero]
  go_upto_region 2 with(first|((with_reducible refine rl ?_);refine rq ?_;intro x)|(refine stepStore2 rfl _ (.tmp 4) (.tmp 16) rfl (w.heap.size) 0 rfl (us:=[.int .i64 q.1.Seed,.int .i64 q.1.Burst,.int .i64 q.1.Loss]) (cs2:=[.int .i64 q.1.Seed,.int .i64 q.1.Burst,.int .i64 q.1.Loss]) (HB.out.to ii) rfl kr rfl (by simp) rfl (w0:=w) ii nl ?_;intro z4 hx4 kx4;have HX4:=lH hx4;clear hx4;have KX4:=lH kx4;clear kx4))
  (try simp only[Act.put])
  have HR4:=lH ((HR.out.to (ii:Grows W2 x.w)).but KX4.out (by omega))
  have HOw:=lH (HO.out.to (ii:Grows w z4.w))
  clear HB HR KX4
  by_cases hz:q.2.size=0
  ·have he:q.2.toList.isEmpty=true:=by rw[size_zero hz,ByteArray.toList_eq];rfl
   rw[if_pos hz]
   go_wp2_with (first|((with_reducible refine rl ?_);(repeat(first|go_big_quiet_step (first|fail)|simp only[he]));refine wpQuiet_nil ?_;intro x)|(refine stepLoad rfl _ (.tmp 4) rfl (w.heap.size) 0 kr (row:=[.int .i64 q.1.Seed,.int .i64 q.1.Burst,.int .i64 q.1.Loss]) (HX4.out.to ii) _ uu65 rfl kr kr ?_)|(refine stepStore2 rfl _ (.tmp 8) (.tmp 26) rfl (w.heap.size+1) 0 kr (us:=[.int .i64 q.1.Seed,.int .i64 q.1.Burst,.int .i64 q.1.Loss]) (cs2:=[.int .i64 q.1.Seed,.int .i64 q.1.Burst,.int .i64 q.1.Loss]) (HR4.out.to ii) rfl kr rfl (by simp) rfl (w0:=w) ii (by omega) ?_;intro z9 hx9 kx9;have HX9:=lH hx9;clear hx9;have KX9:=lH kx9;clear kx9))
   refine bodyPost_ret (v:=.tuple #[.agg #[.int .i64 q.1.Seed,.int .i64 q.1.Burst,.int .i64 q.1.Loss],.slice a n cc]) (results_cell2 (P:=Tryz.prog) (u:=.slice a n cc) rfl rfl HX9.out _ uu65 rfl kr rfl) rfl ?_
   exact⟨a,cc,by rw[HN.out],HO.out.to (ii:Grows w z9.w),grownBy_row (ii:Grows w z9.w),fun k hk=>.inl hk,⟨⟨z9.w,(growsTr g0 (ii:Grows w z9.w)).out⟩,rfl⟩⟩
  ·have he:q.2.toList.isEmpty=false:=nonempty_ne hz
   rw[if_neg hz]
   go_upto_region 4 with(first|((with_reducible refine rl ?_);(repeat(first|go_big_quiet_step (first|fail)|simp only[he]));refine wpQuiet_nil ?_;intro x)|(at_builtin;refine wpList_app1F (enc:=encTFlight) (w0:=w0) (z:=.agg #[.int .i64 0,.string ⟨#[]⟩]) (size:=2) (bytes:=24) (n:=n) (⟨t,q.2⟩:TFlight) rfl (.tmp 20) (.tmp 24) rfl Tryz.underlying66 kr rfl (by decide) (by decide) rfl rfl HN.out (HOw.out.to ii) bk rfl (encTFlight_one _) hb (Nat.le_trans hB ((ii:Grows w _).out.size)) ii h0 ?_;intro sa1 sc1 x1 ho1 hg1 hb1;have HX5:=lH ((HX4.out.to (ii:Grows z4.w _)).apart hg1 HO.out (by omega));have HR5:=lH ((HR4.out.to (ii:Grows z4.w _)).apart hg1 HO.out (by omega));have HG1:=lH (grownBy_pre (ii:Grows w _) hg1);have HO1:=lH ho1;have HB1:=lH (show ∀ k,blkOf sa1=some k→blkOf a=some k∨w.heap.size≤k from fun k hk=>hb1.elim (fun e=>.inl (e▸hk)) (fun e=>.inr (by rw[e]at hk;cases hk;exact(ii:Grows w _).out.size)));clear ho1 hg1 hb1))
   (try simp only[Act.put])
   go_wp2_with (first|((with_reducible refine rl ?_);refine rq ?_;intro x)|(refine stepLoad rfl _ (.tmp 4) rfl (w.heap.size) 0 kr (row:=[.int .i64 q.1.Seed,.int .i64 q.1.Burst,.int .i64 q.1.Loss]) (HX5.out.to ii) _ uu65 rfl kr kr ?_)|(refine stepStore2 rfl _ (.tmp 8) (.tmp 26) rfl (w.heap.size+1) 0 kr (us:=[.int .i64 q.1.Seed,.int .i64 q.1.Burst,.int .i64 q.1.Loss]) (cs2:=[.int .i64 q.1.Seed,.int .i64 q.1.Burst,.int .i64 q.1.Loss]) (HR5.out.to ii) rfl kr rfl (by simp) rfl (w0:=w0) ii (by omega) ?_;intro z9 hx9 kx9;have HX9:=lH hx9;clear hx9;have KX9:=lH kx9;clear kx9))
   refine bodyPost_ret (v:=.tuple #[.agg #[.int .i64 q.1.Seed,.int .i64 q.1.Burst,.int .i64 q.1.Loss],.slice sa1 (n+1) sc1]) (results_cell2 (P:=Tryz.prog) (u:=.slice sa1 (n+1) sc1) rfl rfl HX9.out _ uu65 rfl kr rfl) rfl ?_
   have hgr9:=KX9.out.grown1 ii
   exact⟨sa1,sc1,by rw[List.length_append,HN.out];rfl,HO1.out.at HR5.out (by decide) hgr9,grownBy_but HG1.out hgr9 (by omega),HB1.out,Later.of⟩
theorem o_sl09Send{B n cc:Nat}{a:Option Addr}{c:TChannel}{l:List TFlight}{s:ByteArray}{t:Int}{w0:World}{w:World}(g0:Grows w0 w)(h0:w0.heap.size≤B)(hB:B≤w.heap.size)(hO:Own encTFlight 177 2 B w a cc l)(hn:l.length=n)(hb:n≤1000000000)(hs:s.size=0∨5≤s.size∧s.size≤404):Calls Tryz.prog 59 #[.agg #[.int .i64 c.Seed,.int .i64 c.Burst,.int .i64 c.Loss],.slice a n cc,.int .i64 t,.string s] w (GivesFl w0 w B a n cc (sendFlight c l s t)):=by
 have HB:=lH ((Held.new w [.int .i64 c.Seed,.int .i64 c.Burst,.int .i64 c.Loss] 65 w.heap.size rfl).to (ii:Grows _ ((w.alloc (.cells #[.int .i64 c.Seed,.int .i64 c.Burst,.int .i64 c.Loss] 65)).alloc (.cells #[.int .i64 0,.int .i64 0,.int .i64 0] 65))))
 have HR:=lH (Held.new (w.alloc (.cells #[.int .i64 c.Seed,.int .i64 c.Burst,.int .i64 c.Loss] 65)) [.int .i64 0,.int .i64 0,.int .i64 0] 65 (w.heap.size+1) (by simp))
 have gW:Grows w ((w.alloc (.cells #[.int .i64 c.Seed,.int .i64 c.Burst,.int .i64 c.Loss] 65)).alloc (.cells #[.int .i64 0,.int .i64 0,.int .i64 0] 65)):=inferInstance
 have hsz:((w.alloc (.cells #[.int .i64 c.Seed,.int .i64 c.Burst,.int .i64 c.Loss] 65)).alloc (.cells #[.int .i64 0,.int .i64 0,.int .i64 0] 65)).heap.size=w.heap.size+2:=by simp
 have HO:=lH hO;clear hO
 have HN:=lH hn
 obtain⟨q,hq⟩:∃ q,sendBlock c s=q:=⟨_,rfl⟩
 have hcs:=fun(W:World)=>(c_sSendBlock (c:=c) (s:=s) (w:=W) hs)
 rw[hq]at hcs
 have HQ:=lH (show sendFlight c l s t=(q.1,if q.2.size=0 then l else l++[⟨t,q.2⟩])by rw[sendFlight,hq])
 clear hq
 rw[HQ.out]
 go_enter Tryz.func59,Tryz.ntmps59
 go_upto_region 1 with(fail)
 generalize ((w.alloc (.cells #[.int .i64 c.Seed,.int .i64 c.Burst,.int .i64 c.Loss] 65)).alloc (.cells #[.int .i64 0,.int .i64 0,.int .i64 0] 65))=W2 at HB HR gW hsz ⊢
 have g2:Grows w0 W2:=growsTr g0 gW
 go_upto_region 2 with(first|(refine stepLoad rfl _ (.tmp 4) rfl (w.heap.size) 0 kr (row:=[.int .i64 c.Seed,.int .i64 c.Burst,.int .i64 c.Loss]) (HB.out.to ii) _ uu65 rfl kr kr ?_)|(go_at_call 166;refine gm (hcs _) ?_;intro y9)|(refine stepStore2 rfl _ (.tmp 10) (.tmp 16) rfl _ 0 rfl (us:=[.int .i64 q.1.Seed,.int .i64 q.1.Burst,.int .i64 q.1.Loss]) (cs2:=[.int .i64 q.1.Seed,.int .i64 q.1.Burst,.int .i64 q.1.Loss]) (Held.new _ [.int .i64 0,.int .i64 0,.int .i64 0] 65 _ rfl) rfl kr rfl (by simp) rfl (w0:=W2) ii LeN.out ?_;intro z4 hx4 kx4;have HX4:=lH hx4;clear hx4;have KX4:=lH kx4;clear kx4))
 (try simp only[Act.put])
 obtain⟨qb,hqb⟩:∃ qb,y9.w.heap.size=qb:=⟨_,rfl⟩
 rw[hqb]
 have hq2:w.heap.size+2≤qb:=by have:=y9.size_le;omega
 have HX4:=lH (show Held z4.w qb [.int .i64 q.1.Seed,.int .i64 q.1.Burst,.int .i64 q.1.Loss] 65 from hqb▸HX4.out)
 have HR4:=lH (HR.out.to (ii:Grows W2 z4.w))
 have HOw:=lH (HO.out.to (growsTr gW (ii:Grows W2 z4.w)))
 clear hqb HB HR KX4
 by_cases hz:q.2.size=0
 ·have he:q.2.toList.isEmpty=true:=by rw[size_zero hz,ByteArray.toList_eq];rfl
  rw[if_pos hz]
  go_wp2_with (first|(refine stepLoad rfl _ (.tmp 10) rfl (qb) 0 kr (row:=[.int .i64 q.1.Seed,.int .i64 q.1.Burst,.int .i64 q.1.Loss]) (HX4.out.to ii) _ uu65 rfl kr kr ?_)|(refine stepStore2 rfl _ (.tmp 8) (.tmp 26) rfl (w.heap.size+1) 0 kr (us:=[.int .i64 q.1.Seed,.int .i64 q.1.Burst,.int .i64 q.1.Loss]) (cs2:=[.int .i64 q.1.Seed,.int .i64 q.1.Burst,.int .i64 q.1.Loss]) (HR4.out.to ii) rfl kr rfl (by simp) rfl (w0:=w) ii (by omega) ?_;intro z9 hx9 kx9;have HX9:=lH hx9;clear hx9;have KX9:=lH kx9;clear kx9))
  refine bodyPost_ret (v:=.tuple #[.agg #[.int .i64 q.1.Seed,.int .i64 q.1.Burst,.int .i64 q.1.Loss],.slice a n cc]) (results_cell2 (P:=Tryz.prog) (u:=.slice a n cc) rfl rfl HX9.out _ uu65 rfl kr rfl) rfl ?_
  exact⟨a,cc,by rw[HN.out],HO.out.to (ii:Grows w z9.w),grownBy_row (ii:Grows w z9.w),fun k hk=>.inl hk,⟨⟨z9.w,(growsTr g0 (ii:Grows w z9.w)).out⟩,rfl⟩⟩
 ·have he:q.2.toList.isEmpty=false:=nonempty_ne hz
  rw[if_neg hz]
  go_upto_region 4 with(first|(at_builtin;refine wpList_app1F (enc:=encTFlight) (w0:=w0) (z:=.agg #[.int .i64 0,.string ⟨#[]⟩]) (size:=2) (bytes:=24) (n:=n) (⟨t,q.2⟩:TFlight) rfl (.tmp 20) (.tmp 24) rfl Tryz.underlying66 kr rfl (by decide) (by decide) rfl rfl HN.out (HOw.out.to ii) bk rfl (encTFlight_one _) hb (Nat.le_trans hB ((ii:Grows w _).out.size)) ii h0 ?_;intro sa1 sc1 x1 ho1 hg1 hb1;have HX5:=lH ((HX4.out.to (ii:Grows z4.w _)).apart hg1 HO.out (by omega));have HR5:=lH ((HR4.out.to (ii:Grows z4.w _)).apart hg1 HO.out (by omega));have HG1:=lH (grownBy_pre (ii:Grows w _) hg1);have HO1:=lH ho1;have HB1:=lH (show ∀ k,blkOf sa1=some k→blkOf a=some k∨w.heap.size≤k from fun k hk=>hb1.elim (fun e=>.inl (e▸hk)) (fun e=>.inr (by rw[e]at hk;cases hk;exact(ii:Grows w _).out.size)));clear ho1 hg1 hb1))
  (try simp only[Act.put])
  go_wp2_with (first|(refine stepLoad rfl _ (.tmp 10) rfl (qb) 0 kr (row:=[.int .i64 q.1.Seed,.int .i64 q.1.Burst,.int .i64 q.1.Loss]) (HX5.out.to ii) _ uu65 rfl kr kr ?_)|(refine stepStore2 rfl _ (.tmp 8) (.tmp 26) rfl (w.heap.size+1) 0 kr (us:=[.int .i64 q.1.Seed,.int .i64 q.1.Burst,.int .i64 q.1.Loss]) (cs2:=[.int .i64 q.1.Seed,.int .i64 q.1.Burst,.int .i64 q.1.Loss]) (HR5.out.to ii) rfl kr rfl (by simp) rfl (w0:=w0) ii (by omega) ?_;intro z9 hx9 kx9;have HX9:=lH hx9;clear hx9;have KX9:=lH kx9;clear kx9))
  refine bodyPost_ret (v:=.tuple #[.agg #[.int .i64 q.1.Seed,.int .i64 q.1.Burst,.int .i64 q.1.Loss],.slice sa1 (n+1) sc1]) (results_cell2 (P:=Tryz.prog) (u:=.slice sa1 (n+1) sc1) rfl rfl HX9.out _ uu65 rfl kr rfl) rfl ?_
  have hgr9:=KX9.out.grown1 ii
  exact⟨sa1,sc1,by rw[List.length_append,HN.out];rfl,HO1.out.at HR5.out (by decide) hgr9,grownBy_but HG1.out hgr9 (by omega),HB1.out,Later.of⟩
theorem offered_at{m:TMission}{q:List ByteArray × TSender × List ByteArray}(h:offerGo q.1 q.2.1 q.2.2=offerGo m.Ground.Offers m.Ground.Sender m.Offered)(hq:q.1=[]∨∃ d r,q.1=d::r∧(offerCmd q.2.1 d).2=false):offeredM m=upM m q:=by
 obtain⟨of,sD,od⟩:=q
 rw[offeredM,← h]
 rcases hq with rfl|⟨d,r,rfl,hb⟩
 ·rfl
 ·simp only at hb;simp only[offerGo,hb];rfl
theorem mups_len(m:TMission):(m.Ups.length:Int)≤Enc.tot m:=by
 have h:Enc.tot m=totL m.Plan+totL m.Ups+totL m.Downs+Enc.tot m.Ground+Enc.tot m.Space+totL m.Offered+totL m.Took:=rfl
 have:=totL_len m.Ups;have:=totL_nonneg m.Plan;have:=totL_nonneg m.Downs;have:=Enc.tot_nonneg m.Ground;have:=Enc.tot_nonneg m.Space;have:=totL_nonneg m.Offered;have:=totL_nonneg m.Took
 omega
theorem ok_up{m:TMission}{c:TChannel}(h:okDTMission m)(hc:okDTChannel c):okDTMission { m with Up:=c }:=by
 obtain⟨h1,h2,h3,h4,h5,h6⟩:=h
 exact⟨h1,h2,h3,h4,hc,h6⟩
theorem flights_good{c:TChannel}{l:List TFlight}{s:ByteArray}{a b:Int}(hl:∀ p∈l,okDTFlight p)(hc:okDTChannel c)(h0:0≤a)(h1:a≤1000000)(h2:0≤b)(h3:b≤50):∀ p∈(sendFlight c l (makeBlock s) (a+b)).2,okDTFlight p:=by
 intro p hp
 rw[sendFlight]at hp
 simp only at hp
 split at hp
 ·exact hl p hp
 ·rcases List.mem_append.1 hp with hp|hp
  ·exact hl p hp
  ·rw[List.mem_singleton.1 hp]
   have h4:=makeBlock_le s
   have h5:=sendBlock_size c (makeBlock s)
   exact⟨by unfold i64;simp only;omega,by simp only;omega,trivial⟩
theorem o_iSendUp{B:Nat}{vs:List Value}{m:TMission}{w:World}(h:Enc.Rd B w vs m)(ht:Enc.tot m≤100000000)(ht5:Enc.tot m≤20000000) :
  Calls Tryz.prog 13 #[.agg vs.toArray] w (GivesO w (sendUp m)):=by
 have HT5:=lH ht5;clear ht5
 have HL:=lH (len_mission h)
 have HM:=lH h;clear h
 have HT:=lH ht;clear ht
 have HB:=lH ((Held.new w vs 90 w.heap.size rfl).to (ii:Grows _ ((w.alloc (.cells vs.toArray 90)).alloc (.cells zMission.toArray 90))))
 have HR:=lH (Held.new (w.alloc (.cells vs.toArray 90)) zMission 90 (w.heap.size+1) (by simp))
 have gW:Grows w ((w.alloc (.cells vs.toArray 90)).alloc (.cells zMission.toArray 90)):=inferInstance
 have hsz:((w.alloc (.cells vs.toArray 90)).alloc (.cells zMission.toArray 90)).heap.size=w.heap.size+2:=by simp
 go_enter Tryz.func13,Tryz.ntmps13
 go_upto_region 1 with(first|((with_reducible refine rl ?_);refine rq ?_;intro x))
 generalize ((w.alloc (.cells vs.toArray 90)).alloc (.cells zMission.toArray 90))=W2 at HB HR gW hsz ⊢
 have iB:LtN w.heap.size W2.heap.size:=⟨by omega⟩
 have iR:LtN (w.heap.size+1) W2.heap.size:=⟨by omega⟩
 have hW2:w.heap.size≤W2.heap.size:=by omega
 go_wp2_with (first|((with_reducible refine rl ?_);refine rq ?_;intro x)|(refine sL rfl _ (.tmp 1) rfl (w.heap.size) kr HB ii uu90 HL ?_))
 refine(o_cloneMission (x:=m) (Enc.keep HM.out ii) HT.out).mono ?_
 rintro _ _ ⟨cs,χ,rfl,hO,y1,rfl⟩
 have HLC:=lH (len_mission (EncO.toRd hO));have HOC:=lH (one_mission (EncO.toRd hO));have HO:=lH hO;clear hO
 go_upto_region 2 with(first|((with_reducible refine rl ?_);refine rq ?_;intro x)|(refine sW rfl _ _ _ rfl _ rfl (us:=cs) (Held.new _ zMission 90 _ rfl) HLC HOC (w0:=W2) ii LeN.out ?_;intro z1 HX1 KX1))
 (try simp only[Act.put])
 obtain⟨qb,hqb⟩:∃ qb,y1.w.heap.size=qb:=⟨_,rfl⟩
 rw[hqb]
 have HG:=lH (show GB (fun _=>False) W2.heap.size qb z1.w m from hqb▸GB.of HO.out (KX1.out.under ii nl) y1.size_le HX1.out)
 have hqB:W2.heap.size≤qb:=HG.out.le
 have hqlt:LtN qb z1.w.heap.size:=⟨HG.out.lt⟩
 clear hqb HX1 KX1 HO HLC HOC
 go_wp2_with (first|((with_reducible refine rl ?_);refine rq ?_;intro x)|(refine sL rfl _ (.tmp 1) rfl (w.heap.size) kr HB ii uu90 HL ?_))
 refine gm (c_iMissionOk (m:=m) (Enc.keep HM.out ii) HT.out) ?_
 intro y2
 cases hv:missionOk m
 ·obtain⟨vs9,hH9,hl9,h19,-,χ9,hO9⟩:=HG.out.vs
  have HH9:=lH hH9;have HO9:=lH hO9;have H19:=lH h19;have HL9:=lH (show vs9.length=61 from hl9)
  clear hO9 hH9 h19 hl9
  go_wp2_with (first|((with_reducible refine rl ?_);refine rq ?_;intro x)|(refine sL rfl _ (.tmp 3) rfl (qb) kr HH9 ii uu90 HL9 ?_)|(refine sW rfl _ _ _ rfl (w.heap.size+1) rfl (us:=vs9) (HR.out.to ii) HL9 H19 (w0:=w) ii (by omega) ?_;intro z9 HX9 KX9))
  refine bodyPost_ret (v:=.agg vs9.toArray) (results_cell (P:=Tryz.prog) rfl rfl HX9.out _ uu90 rfl (by rw[HL9.out];kernel_rfl)) rfl ?_
  rw[show sendUp m=m by rw[sendUp,if_neg (by rw[hv];decide)]]
  exact⟨vs9,χ9,rfl,obox_fin (obox_to HO9.out ii) KX9.out (show w.heap.size+1<W2.heap.size by omega) hW2,Later.of⟩
 ·have HMV:=lH hv
  have HMP:=lH (mission_parts hv)
  clear hv
  go_upto_block 0 with(first|((with_reducible refine rl ?_);refine rq ?_;intro x))
  go_cut [5,6]from 17 to 61 (fun s5 s6 wx=>GB (fun _=>False) W2.heap.size qb wx (offeredM m)∧∃ y:Later W2,wx=y.w)
  case first =>
   go_wp2_with (first|((with_reducible refine rl ?_);refine rq ?_;intro x))
   go_loopw [] (fun wr=>∃ q:List ByteArray × TSender × List ByteArray,Hid (offerGo q.1 q.2.1 q.2.2=offerGo m.Ground.Offers m.Ground.Sender m.Offered)∧Hid (2*totL q.1+Enc.tot q.2.1+totL q.2.2≤2*Enc.tot m)∧Hid (GB (fun _=>False) W2.heap.size qb wr (upM m q))∧∃ y:Later W2,wr=y.w) (fun wr=>cellLen wr qb 16)
   case atStart=>exact⟨(m.Ground.Offers,m.Ground.Sender,m.Offered),rfl,(by have h1:=offers_le m;have h2:=Enc.tot_nonneg m;show _≤_;simp only;omega),HG.out.to ii,Later.of⟩
   case round =>
    obtain⟨⟨of,sD,od⟩,HQ,HTT,HGR,y,rfl⟩:=hrel
    obtain⟨oa,oc,eo,hown,hgood,-⟩:=HGR.out.own mGOffers
    cases of with
    | nil =>
     have eo2:∀ (W:World) [Grows y.w W],W.cell? ⟨qb,16,none⟩=some (.slice oa 0 oc):=fun W g=>eo W
     clear eo
     go_wp2_with (first|((with_reducible refine rl ?_);refine rq ?_;intro x))
     go_meet
     case rel=>exact⟨by rw[offered_at (q:=([],sD,od)) HQ.out (.inl rfl)];exact HGR.out.to ii,Later.of⟩
    | cons ss rs =>
     obtain⟨fl,hfl⟩:∃ k,rs.length=k:=⟨_,rfl⟩
     have eo1:∀ (W:World) [Grows y.w W],W.cell? ⟨qb,16,none⟩=some (.slice oa (fl+1) oc):=fun W g=>hfl▸eo W
     have HEO:=lH (eo y.w);have HFL:=lH hfl
     have hfb:fl+1≤100000000:=by have h1:=HTT.out;have h2:=totL_len (ss::rs);have h3:=totL_nonneg od;have h4:=Enc.tot_nonneg sD;have h5:=HT5.out;simp only[List.length_cons,hfl]at h1 h2;omega
     obtain⟨ob,oo,s0,rfl,hob,hod,hd0⟩:=(Own.sl hown).str (show 0<(ss::rs).length from Nat.succ_pos _)
     obtain rfl:s0=ss:=by have h9:ss::rs=s0::rs:=hod.out;injection h9 with h9;exact h9.symm
     have eo2:=eo1
     have hdz:s0.size≤9223372036854775807:=hgood s0 (List.mem_cons_self ..)
     obtain⟨vs5,A,hV5,hvs5,F⟩:=gb_cells HGR.out
     have HV:=lH hV5
     have HR17:=lH (show(vs5.drop 17).take 4=[.int .i64 sD.Next,.int .i64 sD.Window,.slice A.a4 sD.Waiting.length A.c4,.int .i64 sD.Done]by rw[hvs5];rfl)
     have F4:=lH F.q4;have OKS:=lH (show okDTSender sD from F.ok.2.2.2.2.2.2.1.1)
     have HTS:=lH (show Enc.tot sD≤50000000 by have h1:=HTT.out;have h2:=totL_nonneg (s0::rs);have h3:=totL_nonneg od;have h4:=HT5.out;simp only at h1;omega)
     clear eo eo1 hV5 hvs5 F hgood hown hod hfl
     go_upto_region 6 with(first|((with_reducible refine rl ?_);refine rq ?_;intro x))
     refine wp_region_stabZ kr (T:=[15,16]) (Zs:=[(13,[10])]) (H:=[(3,[]),(7,[]),(8,[]),(9,[]),(10,[]),(11,[10]),(12,[10]),(13,[10]),(14,[])]) (C:=[10,14]) (Fs:=[(some 24,.v (.pointer (some ⟨qb,16,none⟩))),(some 25,.v (.pointer (some ⟨qb,16,none⟩))),(some 26,.v (.pointer (some ⟨qb,17,none⟩))),(some 27,.v (.agg #[.int .i64 sD.Next,.int .i64 sD.Window,.slice A.a4 sD.Waiting.length A.c4,.int .i64 sD.Done])),(some 28,.v (.pointer (some ⟨qb,16,none⟩))),(some 29,.v (.pointer (some ⟨qb,16,none⟩))),(some 30,.v (.pointer (some ⟨qb,16,none⟩))),(some 31,.v (.slice (some ⟨ob,oo,none⟩) (fl+1) oc)),(some 32,.v (.pointer (some ⟨ob,oo+0*1,none⟩))),(some 33,.v (.string s0)),(some 34,entOB y.w.heap.size (offerCmd sD s0).1 (offerCmd sD s0).2),(some 23,.fn [10] gOne),(some 35,.fn [10] gFst),(some 36,.fn [10] gSnd),(some 5,.box y.w.heap.size [.int .i64 0,.int .i64 0,.slice none 0 0,.int .i64 0] 69),(none,.v undef),(none,.v undef)]) kr (fun val W=>by kernel_rfl) ?ob6 ?lz6 ?pn6 ?tl6
     case ob6 =>
      refine⟨fun x=>?_,fun x=>?_,fun x=>?_,fun x=>?_,fun x=>?_,fun x=>?_,fun x=>?_,fun x=>?_,fun x=>?_,trivial⟩
      ·exact g_row (o:=17) (HV.out.to (ii:Grows y.w x.w)) rfl kr _ Tryz.underlying69 rfl kr HR17.out
      ·exact g_cell (eo2 x.w) rfl kr _ uu30 rfl
      ·exact g_ix (size:=1) (o:=oo) (j:=0) (n:=fl+1) (c:=oc) rfl kr uu30 kr (Nat.succ_pos _)
      ·exact g_cell (hd0 x.w) rfl kr _ Tryz.underlying9 rfl
      ·refine g_call (f:=61) (args:=[.agg #[.int .i64 sD.Next,.int .i64 sD.Window,.slice A.a4 sD.Waiting.length A.c4,.int .i64 sD.Done],.string s0]) Tryz.func61 kr kr ((o_iOfferCommand (B:=W2.heap.size) (s:=sD) ⟨A.a4,A.c4,rfl,F4.out.keep (gKeeps (ii:Grows y.w x.w)),OKS.out⟩ hdz HTS.out).mono ?_)
       rintro _ _ ⟨vs2,χ2,rfl,hO2,y2,rfl⟩
       exact⟨_,rfl,⟨y2,rfl⟩,vs2,χ2,rfl,OBox.map hO2 (.mono x.size_le)⟩
      ·refine chain1 fun v10 q10=>chain0 ?_
       obtain⟨vs2,χ2,rfl,q⟩:=(show isOB y.w.heap.size (offerCmd sD s0).1 (offerCmd sD s0).2 v10 x.w from q10)
       exact g_fn (k:=11) kr kr
      ·refine chain1 fun v10 q10=>chain0 ?_
       obtain⟨vs2,χ2,rfl,q⟩:=(show isOB y.w.heap.size (offerCmd sD s0).1 (offerCmd sD s0).2 v10 x.w from q10)
       exact g_fn (k:=12) kr kr
      ·refine chain1 fun v10 q10=>chain0 ?_
       obtain⟨vs2,χ2,rfl,q⟩:=(show isOB y.w.heap.size (offerCmd sD s0).1 (offerCmd sD s0).2 v10 x.w from q10)
       exact g_fn (k:=13) kr kr
      ·exact g_box rfl kr LeN.out
     case lz6 =>
      refine⟨fun W hW=>?_,trivial⟩
      refine chain1 fun v10 q10=>chain0 ?_
      obtain⟨vs2,χ2,rfl,q⟩:=(show isOB y.w.heap.size (offerCmd sD s0).1 (offerCmd sD s0).2 v10 W from q10)
      intro W3
      kernel_rfl
     case pn6=>exact fun _ _ _ _ _ _ h=>h
     case tl6 =>
      intro x
      refine chain1 fun v10 q10=>chain1 fun v14 q14=>?_
      obtain⟨vs2,χ2,rfl,hO2⟩:=(show isOB y.w.heap.size (offerCmd sD s0).1 (offerCmd sD s0).2 v10 x.w from q10)
      obtain⟨bz,rfl,hbz,hBz⟩:=(show ∃ b,v14=.pointer (some ⟨b,0,none⟩)∧y.w.heap.size≤b∧Held x.w b [.int .i64 0,.int .i64 0,.slice none 0 0,.int .i64 0] 69 from q14)
      clear q10 q14
      refine tail2 rfl rfl ?_
      simp only[put_nrm,put_nrm2,List.map,gOne,gFst,gSnd]
      simp only[Act.put,List.setIfInBounds_toArray,List.set_cons_succ,List.set_cons_zero,if_true,if_false,Nat.reduceEqDiff,Nat.reduceAdd]
      have HL2:=lH (os_len (EncO.toRd hO2));have H12:=lH (os_one (EncO.toRd hO2))
      go_upto_region 7 with(first|((with_reducible refine rl ?_);refine rq ?_;intro x)|(refine sW rfl _ (.tmp 5) (.tmp 35) rfl (bz) rfl (us:=vs2) (hBz) HL2 H12 (w0:=y.w) ii hbz ?_;intro z5 HX5 KX5))
      (try simp only[Act.put])
      have HO5:=lH (show EncO.O y.w.heap.size χ2 0 z5.w vs2 (offerCmd sD s0).1 by obtain⟨a0,c0,rfl,k⟩:=hO2;exact⟨a0,c0,rfl,⟨k.o0.own.at hBz (by decide) (KX5.out.grown1 (ii:Grows y.w x.w)),k.o0.col,k.o0.good⟩,k.ok⟩)
      have hbz5:LtN bz z5.w.heap.size:=HX5.out.ltN
      clear hO2 hBz KX5
      cases hb:(offerCmd sD s0).2
      ·go_wp2_with (first|((with_reducible refine rl ?_);refine rq ?_;intro x))
       go_meet
       case rel=>exact⟨by rw[offered_at (q:=(s0::rs,sD,od)) HQ.out (.inr ⟨s0,rs,rfl,hb⟩)];exact HGR.out.to ii,Later.of⟩
      ·have HQ8:=lH (GBq.new (D:=mSender) HGR.out (ii:Grows y.w z5.w) HO5.out)
       go_upto_region 9 with(first|((with_reducible refine rl ?_);refine rq ?_;intro x)|(refine sL rfl _ (.tmp 5) rfl bz kr HX5 ii Tryz.underlying69 HL2 ?_)|(refine step_gbD rfl _ (.tmp 42) (.tmp 40) rfl HQ8.out rfl rfl (by rw[HL2.out];kernel_rfl) (w0:=W2) ii nl ?_;intro z6 hz6 hX6))
       (try simp only[Act.put])
       clear hd0 eo2 hX6
       have HZ6:=lH (show GB (fun _=>False) W2.heap.size qb z6.w (upM m (s0::rs,(offerCmd sD s0).1,od))from hz6)
       clear hz6
       obtain⟨oa6,oc6,eo6,hown6,hgood6,-⟩:=HZ6.out.own mGOffers
       obtain⟨va,vc,ev6,hownv,-,-⟩:=HZ6.out.own mOffered
       have HEV:=lH (ev6 z6.w)
       obtain⟨vn,hvn⟩:∃ k,od.length=k:=⟨_,rfl⟩
       have HVN:=lH hvn
       have hvb:vn≤1000000000:=by have h1:=HTT.out;have h2:=totL_nonneg (s0::rs);have h3:=totL_len od;have h4:=HT5.out;have h5:=Enc.tot_nonneg sD;simp only at h1;omega
       have ev7:∀ (W:World) [Grows z6.w W],W.cell? ⟨qb,58,none⟩=some (.slice va vn vc):=fun W g=>hvn▸ev6 W
       have eo7:∀ (W:World) [Grows z6.w W],W.cell? ⟨qb,16,none⟩=some (.slice oa6 (fl+1) oc6):=fun W g=>HFL.out▸eo6 W
       obtain⟨ob6,oo6,s6,rfl,hob6,hod6,hd6⟩:=(Own.sl hown6).str (show 0<(s0::rs).length from Nat.succ_pos _)
       obtain rfl:s6=s0:=by have h9:s0::rs=s6::rs:=hod6.out;injection h9 with h9;exact h9.symm
       clear eo6 ev6 hvn hod6 hown6
       refine wp_region_stabZ kr (T:=[9,10,11]) (Zs:=[]) (H:=[(1,[]),(5,[]),(6,[]),(7,[]),(8,[])]) (C:=[8]) (Fs:=[(some 43,.v (.pointer (some ⟨qb,58,none⟩))),(some 44,.v (.slice va vn vc)),(some 45,.v (.pointer (some ⟨qb,16,none⟩))),(some 46,.v (.pointer (some ⟨qb,16,none⟩))),(some 47,.v (.pointer (some ⟨qb,16,none⟩))),(some 48,.v (.slice (some ⟨ob6,oo6,none⟩) (fl+1) oc6)),(some 49,.v (.pointer (some ⟨ob6,oo6+0*1,none⟩))),(some 50,.v (.string s6)),(some 51,.sl z6.w.heap.size 1 [.string s6] 9),(none,.v undef),(none,.v undef),(none,.v undef)]) kr (fun val W=>by kernel_rfl) ?ob9 ?lz9 ?pn9 ?tl9
       case ob9 =>
        refine⟨fun x=>?_,fun x=>?_,fun x=>?_,fun x=>?_,fun x=>?_,trivial⟩
        ·exact g_cell (ev7 x.w) rfl kr _ uu30 rfl
        ·exact g_cell (eo7 x.w) rfl kr _ uu30 rfl
        ·exact g_ix (size:=1) (o:=oo6) (j:=0) (n:=fl+1) (c:=oc6) rfl kr uu30 kr (Nat.succ_pos _)
        ·exact g_cell (hd6 x.w) rfl kr _ Tryz.underlying9 rfl
        ·exact g_sl rfl kr LeN.out
       case lz9 =>
        exact trivial
       case pn9=>exact fun _ _ _ _ _ _ h=>h
       case tl9 =>
        intro x
        refine chain1 fun v8 q8=>?_
        obtain⟨bs,rfl,hbs,hH⟩:=(show ∃ b,v8=.slice (some ⟨b,0,none⟩) 1 1∧z6.w.heap.size≤b∧Held x.w b [.string s6] 9 from q8)
        clear q8
        refine tail3 rfl rfl rfl ?_
        simp only[put_nrm,put_nrm2]
        simp only[nrm,if_true]
        have gx:Grows W2 x.w:=growsTr (ii:Grows W2 z6.w) ii
        refine wpList_app1F (enc:=encStr) (w0:=W2) (z:=.string ⟨#[]⟩) (size:=1) (bytes:=16) (n:=vn) s6 rfl (.tmp 44) (.tmp 51) rfl uu30 kr rfl (by decide) (by decide) kr kr HVN.out (Own.to hownv ii) hH rfl (encStr_one _) hvb gx.out.size gx nl ?_
        intro sa3 sc3 xw hown1 hgr1 hblk1
        have hp9:=(GBp.app (F:=mOffered) HZ6.out HEV.out (ii:Grows z6.w x.w) hown1 hgr1 hblk1 hdz).1
        clear hown1 hgr1 hblk1 gx hH hownv ev7 eo7 hd6
        (try simp only[nrm])
        go_upto_region 10 with(first|((with_reducible refine rl ?_);refine rq ?_;intro x)|(refine step_gbN (app_len HVN.out) rfl _ _ _ rfl hp9 rfl rfl kr ii nl ?_;intro z9 hz9))
        (try simp only[Act.put])
        have HZ9:=lH hz9;clear hz9
        obtain⟨sa5,sc5,ec5,hown5,hgood5,-⟩:=HZ9.out.own mGOffers
        have HEC5:=lH (ec5 z9.w)
        have ec6:∀ (W:World) [Grows z9.w W],W.cell? ⟨qb,16,none⟩=some (.slice sa5 (fl+1) sc5):=fun W g=>HFL.out▸ec5 W
        have hown5:Own encStr 9 1 W2.heap.size z9.w sa5 sc5 (s6::rs):=hown5
        have hlen5:(s6::rs).length=fl+1:=congrArg (·+1) HFL.out
        have HD5:=fun(W:World) (g:Grows z9.w W)=>(show Calls Tryz.prog 62 #[.slice sa5 (fl+1) sc5,.int .i64 0,.int .i64 1] W (fun e w1=>e=.returned (.slice sa5 fl sc5)∧Own encStr 9 1 W2.heap.size w1 sa5 sc5 rs∧W.grownBy w1 (blkOf sa5))from HFL.out▸c_DeleteStr (k:=0) (hown5.to g) (Nat.succ_pos _) (by rw[hlen5];omega))
        clear ec5
        go_wp2_with (first|((with_reducible refine rl ?_);refine rq ?_;intro x)|(go_at_call 62;refine(HD5 _ ii).mono ?_;rintro _ w6 ⟨rfl,hown7,hgr6⟩;obtain⟨z7,rfl⟩:=grown_later (w0:=W2) ii hgr6 (fun k hk=>(hown5.blk k hk).1);have hp7:=(GBp.upd (F:=mGOffers) (n:=0) HZ9.out HEC5.out ii hown7 ((ownBlock_eq _ _ _).symm▸hgr6) (.inl rfl) (fun q hq=>hgood5 q (List.mem_cons_of_mem _ hq))).1;clear hown7 hgr6)|(refine step_gbN HFL.out rfl _ _ _ rfl hp7 rfl rfl kr ii nl ?_;intro z8 hz8))
        (try simp only[Act.put])
        have HZ8:=lH (show GB (fun _=>False) W2.heap.size qb z8.w (upM m (rs,(offerCmd sD s6).1,od++[s6]))from hz8)
        clear hz8
        go_roundw
        case rel=>exact⟨(rs,(offerCmd sD s6).1,od++[s6]),(by have h1:=HQ.out;simp only[offerGo,hb,if_true]at h1;exact h1),(by have h1:=HTT.out;have h2:=offerCmd_tot sD s6;have h3:Enc.tot s6=(s6.size:Int):=rfl;show _≤_;simp only[totL_snoc,totL,h3]at h1 ⊢;omega),HZ8,Later.of⟩
        case measure =>
         obtain⟨p1,p2,p3,-⟩:=HZ8.out.own mGOffers
         have e1:cellLen z8.w qb 16=rs.length:=cellLen_eq (p3 z8.w)
         have e2:cellLen y.w qb 16=rs.length+1:=cellLen_eq HEO.out
         show cellLen z8.w qb 16<cellLen y.w qb 16
         omega
  case rest =>
   obtain⟨HG0,y0,rfl⟩:=hcut
   have HGM:=lH HG0;clear HG0
   obtain⟨vs6,A6,hV6,hvs6,F6⟩:=gb_cells HGM.out
   have HV7:=lH hV6
   have HR4:=lH (show(vs6.drop 4).take 3=[.int .i64 m.Orbit.Period,.int .i64 m.Orbit.Start,.int .i64 m.Orbit.Length]by rw[hvs6];rfl)
   have HR0:=lH (show vs6[0]?=some (.int .i64 m.Time)by rw[hvs6];rfl)
   obtain⟨sD,hsd⟩:∃ sD,(offeredM m).Ground.Sender=sD:=⟨_,rfl⟩
   obtain⟨lk,hlk⟩:∃ lk,(offeredM m).Ground.Notice.Locked=lk:=⟨_,rfl⟩
   have HR17:=lH (show(vs6.drop 17).take 4=[.int .i64 sD.Next,.int .i64 sD.Window,.slice A6.a4 sD.Waiting.length A6.c4,.int .i64 sD.Done]by rw[hvs6,← hsd];rfl)
   have HR22:=lH (show vs6[22]?=some (.bool lk)by rw[hvs6,← hlk];rfl)
   have F4:=lH (show RdS W2.heap.size y0.w A6.a4 A6.c4 sD.Waiting from hsd▸F6.q4)
   have OKS:=lH (show okDTSender sD from hsd▸F6.ok.2.2.2.2.2.2.1.1)
   have HSO:=lH (show senderOk sD=true from hsd▸offered_ok HMV.out)
   have HUT:=lH (show upTexts (offeredM m)=if lk=true then[encCmd 1 0 ⟨#[]⟩]else cmdBlocks sD by rw[upTexts,hlk,hsd])
   have HFT:=lH (upTexts_fit (offered_ok HMV.out))
   have HUL:=lH (show(offeredM m).Ups.length≤100000000+0 by have h1:(offeredM m).Ups.length=m.Ups.length:=rfl;have h2:=mups_len m;have:=HT5.out;omega)
   clear hV6 hvs6 F6 hsd hlk
   have hqy0:LtN qb y0.w.heap.size:=⟨HGM.out.lt⟩
   cases h0:visible m.Orbit.Period m.Orbit.Start m.Orbit.Length m.Time
   ·obtain⟨vs7,hH7,hl7,h17,-,χ7,hO7⟩:=HGM.out.vs
    have HH7:=lH hH7;have HO7:=lH hO7;have H17:=lH h17;have HL7:=lH (show vs7.length=61 from hl7)
    clear hO7 hH7 h17 hl7
    go_wp2_with (first|((with_reducible refine rl ?_);refine rq ?_;intro x)|(refine stepLoad rfl _ (.tmp 62) rfl (qb) 4 kr (row:=[.int .i64 m.Orbit.Period,.int .i64 m.Orbit.Start,.int .i64 m.Orbit.Length]) (HV7.out.to ii) _ Tryz.underlying63 rfl kr HR4.out ?_)|(refine stepLoad1 rfl _ (.tmp 64) rfl (qb) 0 kr (HV7.out.to ii) (.int .i64 m.Time) HR0.out _ uu3 rfl ?_))
    refine gm (c_iVisible) ?_
    intro y3
    rw[h0]
    go_wp2_with (first|((with_reducible refine rl ?_);refine rq ?_;intro x)|(refine sL rfl _ (.tmp 3) rfl (qb) kr HH7 ii uu90 HL7 ?_)|(refine sW rfl _ _ _ rfl (w.heap.size+1) rfl (us:=vs7) (HR.out.to ii) HL7 H17 (w0:=w) ii (by omega) ?_;intro z7 HX7 KX7))
    refine bodyPost_ret (v:=.agg vs7.toArray) (results_cell (P:=Tryz.prog) rfl rfl HX7.out _ uu90 rfl (by rw[HL7.out];kernel_rfl)) rfl ?_
    rw[show sendUp m=offeredM m by rw[sendUp,if_pos HMV.out,if_neg (by rw[h0];decide)]]
    exact⟨vs7,χ7,rfl,obox_fin (obox_to HO7.out ii) KX7.out (show w.heap.size+1<W2.heap.size by omega) hW2,Later.of⟩
   ·go_wp2_with (first|((with_reducible refine rl ?_);refine rq ?_;intro x)|(refine stepLoad rfl _ (.tmp 62) rfl (qb) 4 kr (row:=[.int .i64 m.Orbit.Period,.int .i64 m.Orbit.Start,.int .i64 m.Orbit.Length]) (HV7.out.to ii) _ Tryz.underlying63 rfl kr HR4.out ?_)|(refine stepLoad1 rfl _ (.tmp 64) rfl (qb) 0 kr (HV7.out.to ii) (.int .i64 m.Time) HR0.out _ uu3 rfl ?_))
    refine gm (c_iVisible) ?_
    intro y3
    rw[h0]
    have HSU0:=lH (show sendUp m=sendAll ((upTexts (offeredM m)).take 3) (offeredM m)by rw[sendUp,if_pos HMV.out,if_pos h0])
    clear h0
    go_upto_region 14 with(first|((with_reducible refine rl ?_);refine rq ?_;intro x)|(refine stepLoad rfl _ (.tmp 71) rfl (qb) 17 kr (row:=[.int .i64 sD.Next,.int .i64 sD.Window,.slice A6.a4 sD.Waiting.length A6.c4,.int .i64 sD.Done]) (HV7.out.to ii) _ Tryz.underlying69 rfl kr HR17.out ?_)|(go_at_call 64;refine(c_iCommandBlocks (sD:=sD) (F4.out.keep (gKeeps ii)) OKS.out HSO.out).mono ?_;rintro _ _ ⟨ca,cc,rfl,hoc,yc,rfl⟩))
    have HOC:=lH hoc;clear hoc
    cases lk
    ·have HUT2:=lH (show upTexts (offeredM m)=cmdBlocks sD from HUT.out)
     obtain⟨L,hL⟩:∃ L,cmdBlocks sD=L:=⟨_,rfl⟩
     rw[hL]at HOC HUT2 ⊢
     clear hL HUT
     rw[HUT2.out]at HFT HSU0
     have HFIT:=lH HFT.out
     have HSU:=lH HSU0.out.symm
     clear HFT HSU0 HUT2
     obtain⟨n,hn⟩:∃ n,L.length=n:=⟨_,rfl⟩
     rw[hn]
     go_upto_region 16 with(first|((with_reducible refine rl ?_);refine rq ?_;intro x)|(refine stepLoad1 rfl _ (.tmp 77) rfl (qb) 22 kr (HV7.out.to ii) (_) HR22.out _ Tryz.underlying4 rfl ?_))
     obtain⟨BL,hBL⟩:∃ BL,(y0.andThen y3).w.heap.size=BL:=⟨_,rfl⟩
     have hyB:y0.w.heap.size≤BL:=hBL▸y3.size_le
     rw[hBL]at HOC
     clear hBL
     have HGL:=lH (HGM.out.prot (P:=fun k=>blkOf ca=some k) (w:=((y0.andThen y3).andThen yc).w) ii fun k hk=>by have:=HOC.out.blk k hk;exact⟨by omega,this.2⟩)
     clear HV7 HR4 HR0 HR17 HR22 F4 OKS HSO HGM
     obtain⟨r,hr⟩:∃ r,min 3 L.length=r:=⟨_,rfl⟩
     have hr3:r≤3:=by omega
     have hrn:r≤n:=by omega
     have HRR:=lH (show r≤L.length∧r≤3∧(r=3∨r=L.length)by omega)
     have hcap:n≤cc:=by have:=HOC.out.cap;omega
     have hmin:(if (n:Int)<3 then(n:Int)else 3)=(r:Int):=by split<;>omega
     clear hr
     go_upto_region 17 with(first|((with_reducible refine rl ?_);refine rq ?_;intro x))
     clear hmin
     go_loopw [87] (fun v wr=>∃ (k:Nat) (x:TMission),v=.int .i64 k∧k≤r∧Hid (sendAll ((L.take 3).drop k) x=sendUp m)∧Hid (x.Time=m.Time∧x.Light=m.Light∧x.Ups.length≤100000000+k)∧Hid (GB (fun k=>False∨blkOf ca=some k) W2.heap.size qb wr x)∧Hid (Own encStr 9 1 BL wr ca cc L)∧∃ y:Later W2,wr=y.w) (fun v _=>(r - intOf v).toNat)
     case atStart=>exact⟨0,offeredM m,rfl,Nat.zero_le _,lH HSU.out,lH ⟨rfl,rfl,HUL.out⟩,lH (HGL.out.to ii),lH (HOC.out.to ii),Later.of⟩
     case round =>
      obtain⟨k,x,rfl,hk,HF,HXT,HGR,HOL,y,rfl⟩:=hrel
      by_cases hkr:k<r
      ·obtain⟨ob,oo,s0,hsa,hob,hod,hd0⟩:=(Own.sl HOL.out).str (show k<L.length by have:=HRR.out;omega)
       have HSA:=lH hsa
       clear hsa
       have hs2:s0.size≤200:=HFIT.out s0 (List.mem_of_mem_drop (show s0∈L.drop k by rw[hod.out];simp))
       obtain⟨vs5,A,hV5,hvs5,F⟩:=gb_cells HGR.out
       have HV:=lH hV5
       have HR8:=lH (show(vs5.drop 8).take 3=[.int .i64 x.Up.Seed,.int .i64 x.Up.Burst,.int .i64 x.Up.Loss]by rw[hvs5];rfl)
       have HR0:=lH (show vs5[0]?=some (.int .i64 x.Time)by rw[hvs5];rfl)
       have HR1:=lH (show vs5[1]?=some (.int .i64 x.Light)by rw[hvs5];rfl)
       have HOK:=lH F.ok
       clear hV5 hvs5 F
       obtain⟨ua,uc,ue,hown,hgood,-⟩:=HGR.out.own mUps
       have HUE:=lH (ue y.w)
       have HOW:=lH (show Own encTFlight 177 2 W2.heap.size y.w ua uc x.Ups from hown)
       have HGD:=lH hgood
       clear hown hgood
       obtain⟨un,hun⟩:∃ k,x.Ups.length=k:=⟨_,rfl⟩
       have HUN:=lH hun
       have ue2:∀ (W:World) [Grows y.w W],W.cell? ⟨qb,14,none⟩=some (.slice ua un uc):=fun W g=>hun▸ue W
       have hub:un≤1000000000:=by have:=HXT.out.2.2;omega
       clear ue hun
       have hx0:0≤x.Time∧x.Time≤1000000:=by rw[HXT.out.1];exact⟨HMP.out.1,HMP.out.2.1⟩
       have hx1:0≤x.Light∧x.Light≤50:=by rw[HXT.out.2.1];exact⟨HMP.out.2.2.1,HMP.out.2.2.2.1⟩
       have hxa:=hx0.1;have hxb:=hx0.2;have hxc:=hx1.1;have hxd:=hx1.2
       clear hx0 hx1
       have hqy:LtN qb y.w.heap.size:=⟨HGR.out.lt⟩
       have hcell:∀ (W:World) [Grows y.w W],W.cell? ⟨ob,oo+k,none⟩=some (.string s0):=hd0
       clear hd0
       go_upto_region 20 with(first|((with_reducible refine rl ?_);refine rq ?_;intro x)|(rw[HSA.out])|(refine stepLoad rfl _ (.tmp 92) rfl (qb) 8 kr (row:=[.int .i64 x.Up.Seed,.int .i64 x.Up.Burst,.int .i64 x.Up.Loss]) (HV.out.to ii) _ uu65 rfl kr HR8.out ?_)|(refine stepLoad1 rfl _ (.tmp 97) rfl (qb) 0 kr (HV.out.to ii) (.int .i64 x.Time) HR0.out _ uu3 rfl ?_)|(refine stepLoad1 rfl _ (.tmp 99) rfl (qb) 1 kr (HV.out.to ii) (.int .i64 x.Light) HR1.out _ uu3 rfl ?_)|(go_at_call 66;refine(o_isendFlight (w0:=W2) (B:=W2.heap.size) (c:=x.Up) (l:=x.Ups) (s:=s0) (t:=x.Time+x.Light) ii nl ((ii:Grows W2 _).out.size) (HOW.out.to ii) HUN.out hub hs2).mono ?_;rintro _ w6 ⟨ua2,uc2,rfl,ho2,hg2,hb2,z6,rfl⟩;have hp2:=GBp.updK (F:=mUps) (n:=un) HGR.out HUE.out (ii:Grows y.w _) ho2 hg2 hb2 (flights_good HGD.out HOK.out.2.2.2.2.1 hxa hxb hxc hxd);have HP6:=lH hp2.1;have HK6:=lH (show ∀ k,blkOf ca=some k→z6.w.heap[k]?=y.w.heap[k]? from fun k hk=>(hp2.2 k (.inr hk)).trans ((ii:Grows y.w _).out.block k (HGR.out.xs (.inr hk)).2));clear ho2 hg2 hb2 hp2)|(refine step_gbpC (o:=8) (us:=[.int .i64 (sendFlight x.Up x.Ups (makeBlock s0) (x.Time+x.Light)).1.Seed,.int .i64 (sendFlight x.Up x.Ups (makeBlock s0) (x.Time+x.Light)).1.Burst,.int .i64 (sendFlight x.Up x.Ups (makeBlock s0) (x.Time+x.Light)).1.Loss]) ({ x with Up:=(sendFlight x.Up x.Ups (makeBlock s0) (x.Time+x.Light)).1 }:TMission) rfl _ (.tmp 105) (.tmp 103) rfl HP6.out kr kr kr (by rfl) nb (.inr nb) (by intros;rename_i h;obtain⟨A1,rfl,q⟩:=h;exact⟨A1,rfl,{ q with ok:=ok_up (m:=mUps.set x (sendFlight x.Up x.Ups (makeBlock s0) (x.Time+x.Light)).2) q.ok (sendBlock_ok HOK.out.2.2.2.2.1) }⟩) ii nl ?_;intro z7 hz7 hx7;have HP7:=lH hz7;have HK7:=lH (show ∀ k,blkOf ca=some k→z7.w.heap[k]?=z6.w.heap[k]? from fun k hk=>hx7 k (.inr hk));clear hz7 hx7)|(refine step_gbS rfl _ (.tmp 106) (.tmp 104) rfl HP7.out kr kr kr ii nl ?_;intro z8 hz8 hx8;have HP8:=lH (show GB (fun k=>False∨blkOf ca=some k) W2.heap.size qb z8.w (sendOne x s0)from hz8);have HK8:=lH (show ∀ k,blkOf ca=some k→z8.w.heap[k]?=z7.w.heap[k]? from fun k hk=>hx8 k (.inr hk));clear hz8 hx8))
       (try simp only[Act.put])
       go_wp2_with (first|((with_reducible refine rl ?_);refine rq ?_;intro x))
       go_roundw
       case rel=>exact⟨k+1,sendOne x s0,by go_num,by omega,lH (by have:=HF.out;rw[show(L.take 3).drop k=s0::(L.take 3).drop (k+1)by rw[List.drop_take,List.drop_take,hod.out,show 3 - k=3 - (k+1)+1 by have:=HRR.out;omega,List.take_succ_cons],sendAll]at this;exact this),lH ⟨HXT.out.1,HXT.out.2.1,by have:=(sendOne_tot x s0).2;have:=HXT.out.2.2;omega⟩,(by rw[← HSA.out];exact HP8),(by rw[← HSA.out];exact lH (HOL.out.same fun k hk _ _=>((HK8.out k hk).trans (HK7.out k hk)).trans (HK6.out k hk))),Later.of⟩
       case measure=>simp[intOf];omega
      ·obtain rfl:k=r:=by omega
       obtain⟨vs8,hH8,hl8,h18,-,χ8,hO8⟩:=HGR.out.vs
       have HH8:=lH hH8;have HO8:=lH hO8;have H18:=lH h18;have HL8:=lH (show vs8.length=61 from hl8)
       clear hO8 hH8 h18 hl8
       go_wp2_with (first|((with_reducible refine rl ?_);refine rq ?_;intro x)|(refine sL rfl _ (.tmp 3) rfl (qb) kr HH8 ii uu90 HL8 ?_)|(refine sW rfl _ _ _ rfl (w.heap.size+1) rfl (us:=vs8) (HR.out.to ii) HL8 H18 (w0:=w) ii (by omega) ?_;intro z8 HX8 KX8))
       refine bodyPost_ret (v:=.agg vs8.toArray) (results_cell (P:=Tryz.prog) rfl rfl HX8.out _ uu90 rfl (by rw[HL8.out];kernel_rfl)) rfl ?_
       rw[show sendUp m=x by have:=HF.out;rw[List.drop_of_length_le (by rw[List.length_take];have:=HRR.out;omega)]at this;exact this.symm]
       exact⟨vs8,χ8,rfl,obox_fin (obox_to HO8.out ii) KX8.out (show w.heap.size+1<W2.heap.size by omega) hW2,Later.of⟩
    ·have HUT2:=lH (show upTexts (offeredM m)=[encCmd 1 0 ⟨#[]⟩]from HUT.out)
     obtain⟨e,he⟩:∃ e,encCmd 1 0 ⟨#[]⟩=e:=⟨_,rfl⟩
     have HEC:=fun(W:World)=>(c_iEncodeCommand (kind:=1) (seq:=0) (s:=⟨#[]⟩) (w:=W) (.inr rfl) (by decide) (by decide) (by decide))
     rw[he]at HUT2 HEC
     clear he HUT HOC
     go_upto_region 16 with(first|((with_reducible refine rl ?_);refine rq ?_;intro x)|(refine stepLoad1 rfl _ (.tmp 77) rfl (qb) 22 kr (HV7.out.to ii) (_) HR22.out _ Tryz.underlying4 rfl ?_)|(go_at_call 65;refine gm (HEC _) ?_;intro ye))
     obtain⟨L,hL⟩:∃ L,[e]=L:=⟨_,rfl⟩
     have hn:L.length=1:=by rw[← hL];rfl
     obtain⟨BL,hBL⟩:∃ BL,(((y0.andThen y3).andThen yc).andThen ye).w.heap.size=BL:=⟨_,rfl⟩
     have hyB:y0.w.heap.size≤BL:=hBL▸(ii:Grows y0.w (((y0.andThen y3).andThen yc).andThen ye).w).out.size
     have HOC:=lH (show Own encStr 9 1 BL ((((y0.andThen y3).andThen yc).andThen ye).w.alloc (.cells #[.string e] 9)) (some ⟨BL,0,none⟩) 1 L from hBL▸own_block encStr_len hn (by omega) nl rfl (by rw[← hL];rfl) (Later.here _))
     rw[hBL]
     obtain⟨ca,hca⟩:∃ ca:Option Addr,some ⟨BL,0,none⟩=ca:=⟨_,rfl⟩
     rw[hca]at HOC ⊢
     rw[hL]at HUT2
     rw[HUT2.out]at HFT HSU0
     have HFIT:=lH HFT.out
     have HSU:=lH HSU0.out.symm
     clear HFT HSU0 HUT2 hL hBL hca HEC
     have HGL:=lH (HGM.out.prot (P:=fun k=>blkOf ca=some k) (w:=((((y0.andThen y3).andThen yc).andThen ye).w.alloc (.cells #[.string e] 9))) ii fun k hk=>by have:=HOC.out.blk k hk;exact⟨by omega,this.2⟩)
     clear HV7 HR4 HR0 HR17 HR22 F4 OKS HSO HGM
     have HRR:=lH (show 1≤L.length∧1≤3∧(1=3∨1=L.length)by omega)
     go_upto_region 17 with(first|((with_reducible refine rl ?_);refine rq ?_;intro x))
     go_loopw [87] (fun v wr=>∃ (k:Nat) (x:TMission),v=.int .i64 k∧k≤1∧Hid (sendAll ((L.take 3).drop k) x=sendUp m)∧Hid (x.Time=m.Time∧x.Light=m.Light∧x.Ups.length≤100000000+k)∧Hid (GB (fun k=>False∨blkOf ca=some k) W2.heap.size qb wr x)∧Hid (Own encStr 9 1 BL wr ca 1 L)∧∃ y:Later W2,wr=y.w) (fun v _=>(1 - intOf v).toNat)
     case atStart=>exact⟨0,offeredM m,rfl,Nat.zero_le _,lH HSU.out,lH ⟨rfl,rfl,HUL.out⟩,lH (HGL.out.to ii),lH (HOC.out.to ii),Later.of⟩
     case round =>
      obtain⟨k,x,rfl,hk,HF,HXT,HGR,HOL,y,rfl⟩:=hrel
      by_cases hkr:k<1
      ·obtain⟨ob,oo,s0,hsa,hob,hod,hd0⟩:=(Own.sl HOL.out).str (show k<L.length by have:=HRR.out;omega)
       have HSA:=lH hsa
       clear hsa
       have hs2:s0.size≤200:=HFIT.out s0 (List.mem_of_mem_drop (show s0∈L.drop k by rw[hod.out];simp))
       obtain⟨vs5,A,hV5,hvs5,F⟩:=gb_cells HGR.out
       have HV:=lH hV5
       have HR8:=lH (show(vs5.drop 8).take 3=[.int .i64 x.Up.Seed,.int .i64 x.Up.Burst,.int .i64 x.Up.Loss]by rw[hvs5];rfl)
       have HR0:=lH (show vs5[0]?=some (.int .i64 x.Time)by rw[hvs5];rfl)
       have HR1:=lH (show vs5[1]?=some (.int .i64 x.Light)by rw[hvs5];rfl)
       have HOK:=lH F.ok
       clear hV5 hvs5 F
       obtain⟨ua,uc,ue,hown,hgood,-⟩:=HGR.out.own mUps
       have HUE:=lH (ue y.w)
       have HOW:=lH (show Own encTFlight 177 2 W2.heap.size y.w ua uc x.Ups from hown)
       have HGD:=lH hgood
       clear hown hgood
       obtain⟨un,hun⟩:∃ k,x.Ups.length=k:=⟨_,rfl⟩
       have HUN:=lH hun
       have ue2:∀ (W:World) [Grows y.w W],W.cell? ⟨qb,14,none⟩=some (.slice ua un uc):=fun W g=>hun▸ue W
       have hub:un≤1000000000:=by have:=HXT.out.2.2;omega
       clear ue hun
       have hx0:0≤x.Time∧x.Time≤1000000:=by rw[HXT.out.1];exact⟨HMP.out.1,HMP.out.2.1⟩
       have hx1:0≤x.Light∧x.Light≤50:=by rw[HXT.out.2.1];exact⟨HMP.out.2.2.1,HMP.out.2.2.2.1⟩
       have hxa:=hx0.1;have hxb:=hx0.2;have hxc:=hx1.1;have hxd:=hx1.2
       clear hx0 hx1
       have hqy:LtN qb y.w.heap.size:=⟨HGR.out.lt⟩
       have hcell:∀ (W:World) [Grows y.w W],W.cell? ⟨ob,oo+k,none⟩=some (.string s0):=hd0
       clear hd0
       go_upto_region 20 with(first|((with_reducible refine rl ?_);refine rq ?_;intro x)|(rw[HSA.out])|(refine stepLoad rfl _ (.tmp 92) rfl (qb) 8 kr (row:=[.int .i64 x.Up.Seed,.int .i64 x.Up.Burst,.int .i64 x.Up.Loss]) (HV.out.to ii) _ uu65 rfl kr HR8.out ?_)|(refine stepLoad1 rfl _ (.tmp 97) rfl (qb) 0 kr (HV.out.to ii) (.int .i64 x.Time) HR0.out _ uu3 rfl ?_)|(refine stepLoad1 rfl _ (.tmp 99) rfl (qb) 1 kr (HV.out.to ii) (.int .i64 x.Light) HR1.out _ uu3 rfl ?_)|(go_at_call 66;refine(o_isendFlight (w0:=W2) (B:=W2.heap.size) (c:=x.Up) (l:=x.Ups) (s:=s0) (t:=x.Time+x.Light) ii nl ((ii:Grows W2 _).out.size) (HOW.out.to ii) HUN.out hub hs2).mono ?_;rintro _ w6 ⟨ua2,uc2,rfl,ho2,hg2,hb2,z6,rfl⟩;have hp2:=GBp.updK (F:=mUps) (n:=un) HGR.out HUE.out (ii:Grows y.w _) ho2 hg2 hb2 (flights_good HGD.out HOK.out.2.2.2.2.1 hxa hxb hxc hxd);have HP6:=lH hp2.1;have HK6:=lH (show ∀ k,blkOf ca=some k→z6.w.heap[k]?=y.w.heap[k]? from fun k hk=>(hp2.2 k (.inr hk)).trans ((ii:Grows y.w _).out.block k (HGR.out.xs (.inr hk)).2));clear ho2 hg2 hb2 hp2)|(refine step_gbpC (o:=8) (us:=[.int .i64 (sendFlight x.Up x.Ups (makeBlock s0) (x.Time+x.Light)).1.Seed,.int .i64 (sendFlight x.Up x.Ups (makeBlock s0) (x.Time+x.Light)).1.Burst,.int .i64 (sendFlight x.Up x.Ups (makeBlock s0) (x.Time+x.Light)).1.Loss]) ({ x with Up:=(sendFlight x.Up x.Ups (makeBlock s0) (x.Time+x.Light)).1 }:TMission) rfl _ (.tmp 105) (.tmp 103) rfl HP6.out kr kr kr (by rfl) nb (.inr nb) (by intros;rename_i h;obtain⟨A1,rfl,q⟩:=h;exact⟨A1,rfl,{ q with ok:=ok_up (m:=mUps.set x (sendFlight x.Up x.Ups (makeBlock s0) (x.Time+x.Light)).2) q.ok (sendBlock_ok HOK.out.2.2.2.2.1) }⟩) ii nl ?_;intro z7 hz7 hx7;have HP7:=lH hz7;have HK7:=lH (show ∀ k,blkOf ca=some k→z7.w.heap[k]?=z6.w.heap[k]? from fun k hk=>hx7 k (.inr hk));clear hz7 hx7)|(refine step_gbS rfl _ (.tmp 106) (.tmp 104) rfl HP7.out kr kr kr ii nl ?_;intro z8 hz8 hx8;have HP8:=lH (show GB (fun k=>False∨blkOf ca=some k) W2.heap.size qb z8.w (sendOne x s0)from hz8);have HK8:=lH (show ∀ k,blkOf ca=some k→z8.w.heap[k]?=z7.w.heap[k]? from fun k hk=>hx8 k (.inr hk));clear hz8 hx8))
       (try simp only[Act.put])
       go_wp2_with (first|((with_reducible refine rl ?_);refine rq ?_;intro x))
       go_roundw
       case rel=>exact⟨k+1,sendOne x s0,by go_num,by omega,lH (by have:=HF.out;rw[show(L.take 3).drop k=s0::(L.take 3).drop (k+1)by rw[List.drop_take,List.drop_take,hod.out,show 3 - k=3 - (k+1)+1 by have:=HRR.out;omega,List.take_succ_cons],sendAll]at this;exact this),lH ⟨HXT.out.1,HXT.out.2.1,by have:=(sendOne_tot x s0).2;have:=HXT.out.2.2;omega⟩,(by rw[← HSA.out];exact HP8),(by rw[← HSA.out];exact lH (HOL.out.same fun k hk _ _=>((HK8.out k hk).trans (HK7.out k hk)).trans (HK6.out k hk))),Later.of⟩
       case measure=>simp[intOf];omega
      ·obtain rfl:k=1:=by omega
       obtain⟨vs8,hH8,hl8,h18,-,χ8,hO8⟩:=HGR.out.vs
       have HH8:=lH hH8;have HO8:=lH hO8;have H18:=lH h18;have HL8:=lH (show vs8.length=61 from hl8)
       clear hO8 hH8 h18 hl8
       go_wp2_with (first|((with_reducible refine rl ?_);refine rq ?_;intro x)|(refine sL rfl _ (.tmp 3) rfl (qb) kr HH8 ii uu90 HL8 ?_)|(refine sW rfl _ _ _ rfl (w.heap.size+1) rfl (us:=vs8) (HR.out.to ii) HL8 H18 (w0:=w) ii (by omega) ?_;intro z8 HX8 KX8))
       refine bodyPost_ret (v:=.agg vs8.toArray) (results_cell (P:=Tryz.prog) rfl rfl HX8.out _ uu90 rfl (by rw[HL8.out];kernel_rfl)) rfl ?_
       rw[show sendUp m=x by have:=HF.out;rw[List.drop_of_length_le (by rw[List.length_take];have:=HRR.out;omega)]at this;exact this.symm]
       exact⟨vs8,χ8,rfl,obox_fin (obox_to HO8.out ii) KX8.out (show w.heap.size+1<W2.heap.size by omega) hW2,Later.of⟩
