/- The link of the reference: a block through a channel. No condition but on sizes. -/
import Derived.Test.YthbepablpaldgaaGreatSM29
import Derived.Test.YthbepablpaldgaaGreatSM7
import Derived.Test.YthbepablpaldgaaGreatSStepH
import Derived.Test.YthbepablpaldgaaGreatSOkF
import Derived.Test.YthbepablpaldgaaGreatSM34
import Derived.Test.YthbepablpaldgaaGreatSOne
import Derived.Deep.CutRange
import Derived.Test.YthbepablpaldgaaGreatSLto1
import Derived.Test.YthbepablpaldgaaGreatSMisI
import Derived.Test.YthbepablpaldgaaGreatSMisS
import Derived.Test.YthbepablpaldgaaGreatSM22
namespace Go.Proofs.YthbepablpaldgaaGreat
set_option maxRecDepth 100000
set_option maxHeartbeats 4000000
set_option linter.unusedVariables false
open Go.ChangeShapes Go.WideShapes Go.ChangeAt Go.RowKit
private abbrev uu3:=Tryz.underlying3
private abbrev uu65:=Tryz.underlying65
section
variable {P:Program} {ops:Array Oper} {op:Oper} {a:Act} {w:World} {Q:Exit→Act→World→Prop} {S:World→Prop} {md:Region.Mode} {fuel:Nat} {listed:Array Bool}
theorem wpAnyH_store1(i:Nat)(ho1:ops[i]?=some op)(hr:Region.ready md ops listed=[i])
  (hw:Region.wanted op (yielded ops a.tmps)=true) (ty:TypeId) (x y:Operand) (ho:op.op=.store ty x y) (b o:Nat) (hx:a.eval x=.pointer (some ⟨b,o,none⟩)) {cs us cs2:List Value} {T:TypeId} (H:Held w b cs T)
  (hv:(a.eval y).cells.toList=us) (hi:(P.info? ty).map (·.size)=some us.length) (h1:us.all (·.oneCell')=true) (hl:o+us.length≤cs.length) (hcs:splice cs o us=cs2) {w0:World} (g:Grows w0 w) (hb:w0.heap.size≤b)
  (h:∀ z:Later w0,Held z.w b cs2 T→w.grownBy z.w (some b)→S z.w∧wpAnyH P md ops Q S fuel (listed.setIfInBounds i true) (a.put op.dst undef) z.w):wpAnyH P md ops Q S (fuel+1) listed a w :=
 wpAnyH_r1 i hr (wpOp_step ho1 (fun _ hK=>st_storeH hw ty x y ho b o hx H hv hi h1 hl hcs g hb fun z h2 h3=>hK _ _ (h z h2 h3)))
end
theorem c_sSendBlock{c:TChannel}{s:ByteArray}{w:World}(hs:s.size=0∨5≤s.size∧s.size≤404):Calls Tryz.prog 166 #[.agg #[.int .i64 (c.Seed),.int .i64 c.Burst,.int .i64 c.Loss],.string s] w (Gives w (.tuple #[.agg #[.int .i64 (sendBlock c s).1.Seed,.int .i64 (sendBlock c s).1.Burst,.int .i64 (sendBlock c s).1.Loss],.string (sendBlock c s).2])):=by
 have HB:=lH ((Held.new w [.int .i64 (c.Seed),.int .i64 c.Burst,.int .i64 c.Loss] 65 w.heap.size rfl).to (ii:Grows _ ((w.alloc (.cells #[.int .i64 (c.Seed),.int .i64 c.Burst,.int .i64 c.Loss] 65)).alloc (.cells #[.int .i64 0,.int .i64 0,.int .i64 0] 65))))
 have HR:=lH (Held.new (w.alloc (.cells #[.int .i64 (c.Seed),.int .i64 c.Burst,.int .i64 c.Loss] 65)) [.int .i64 0,.int .i64 0,.int .i64 0] 65 (w.heap.size+1) (by simp))
 have gW:Grows w ((w.alloc (.cells #[.int .i64 (c.Seed),.int .i64 c.Burst,.int .i64 c.Loss] 65)).alloc (.cells #[.int .i64 0,.int .i64 0,.int .i64 0] 65)):=inferInstance
 go_enter Tryz.func166,Tryz.ntmps166
 go_upto_region 1 with(first|((with_reducible refine rl ?_);refine rq ?_;intro x))
 generalize ((w.alloc (.cells #[.int .i64 (c.Seed),.int .i64 c.Burst,.int .i64 c.Loss] 65)).alloc (.cells #[.int .i64 0,.int .i64 0,.int .i64 0] 65))=W2 at HB HR gW ⊢
 cases c0:channelOk c
 ·have HV:=lH (show sendBlock c s=(c,s)by rw[sendBlock,c0];rfl)
  go_wp2_with (first|((with_reducible refine rl ?_);(repeat(first|go_big_quiet_step (first|fail)|simp only[c0]));refine wpQuiet_nil ?_;intro x)|(refine stepLoad rfl _ (.tmp 2) rfl (w.heap.size) 0 kr (row:=[.int .i64 (c.Seed),.int .i64 c.Burst,.int .i64 c.Loss]) (HB.out.to ii) _ uu65 rfl kr kr ?_)|(go_at_call 85;refine gm (k_sChannelOk) ?_;intro y9)|(refine stepLoad rfl _ (.tmp 2) rfl (w.heap.size) 0 kr (row:=[.int .i64 (c.Seed),.int .i64 c.Burst,.int .i64 c.Loss]) (HB.out.to ii) _ uu65 rfl kr kr ?_)|(refine stepStore2 rfl _ (.tmp 4) (.tmp 18) rfl (w.heap.size+1) 0 kr (us:=[.int .i64 (c.Seed),.int .i64 c.Burst,.int .i64 c.Loss]) (cs2:=[.int .i64 (c.Seed),.int .i64 c.Burst,.int .i64 c.Loss]) (HR.out.to ii) rfl kr rfl (by simp) rfl (w0:=w) ii (Nat.le_succ _) ?_;intro z9 hx9 kx9;have HX9:=lH hx9;clear hx9;have KX9:=lH kx9;clear kx9))
  refine bodyPost_ret (v:=.tuple #[.agg #[.int .i64 (c.Seed),.int .i64 c.Burst,.int .i64 c.Loss],.string (s)]) (results_cell2 (P:=Tryz.prog) (u:=.string (s)) rfl rfl HX9.out _ uu65 rfl kr rfl) rfl ⟨by rw[HV.out],Later.of⟩
 have⟨hs0,hs1⟩:=channelOk_seed c0
 have⟨hn0,hn1⟩:=nextR_bd c.Seed
 have⟨hm0,hm1⟩:=nextR_bd (nextR c.Seed)
 rcases hs with hz|⟨hz,hz2⟩
 ·have HV:=lH (show sendBlock c s=(c,s)by rw[sendBlock,if_neg (by simp[hz])])
  go_wp2_with (first|((with_reducible refine rl ?_);(repeat(first|go_big_quiet_step (first|fail)|simp only[c0]));refine wpQuiet_nil ?_;intro x)|(refine stepLoad rfl _ (.tmp 2) rfl (w.heap.size) 0 kr (row:=[.int .i64 (c.Seed),.int .i64 c.Burst,.int .i64 c.Loss]) (HB.out.to ii) _ uu65 rfl kr kr ?_)|(go_at_call 85;refine gm (k_sChannelOk) ?_;intro y9)|(refine stepLoad rfl _ (.tmp 2) rfl (w.heap.size) 0 kr (row:=[.int .i64 (c.Seed),.int .i64 c.Burst,.int .i64 c.Loss]) (HB.out.to ii) _ uu65 rfl kr kr ?_)|(refine stepStore2 rfl _ (.tmp 4) (.tmp 18) rfl (w.heap.size+1) 0 kr (us:=[.int .i64 (c.Seed),.int .i64 c.Burst,.int .i64 c.Loss]) (cs2:=[.int .i64 (c.Seed),.int .i64 c.Burst,.int .i64 c.Loss]) (HR.out.to ii) rfl kr rfl (by simp) rfl (w0:=w) ii (Nat.le_succ _) ?_;intro z9 hx9 kx9;have HX9:=lH hx9;clear hx9;have KX9:=lH kx9;clear kx9))
  refine bodyPost_ret (v:=.tuple #[.agg #[.int .i64 (c.Seed),.int .i64 c.Burst,.int .i64 c.Loss],.string (s)]) (results_cell2 (P:=Tryz.prog) (u:=.string (s)) rfl rfl HX9.out _ uu65 rfl kr rfl) rfl ⟨by rw[HV.out],Later.of⟩
 have hif:(channelOk c && decide (4≤s.size))=true:=by rw[c0];simp;omega
 have hl4:((s.size:Int)<4)=False:=by simp;omega
 go_upto_region 5 with(first|((with_reducible refine rl ?_);(repeat(first|go_big_quiet_step (first|fail)|simp only[c0]|simp only[hl4]));refine wpQuiet_nil ?_;intro x)|(refine stepLoad rfl _ (.tmp 2) rfl (w.heap.size) 0 kr (row:=[.int .i64 (c.Seed),.int .i64 c.Burst,.int .i64 c.Loss]) (HB.out.to ii) _ uu65 rfl kr kr ?_)|(go_at_call 85;refine gm (k_sChannelOk) ?_;intro y9)|(refine stepLoad1 rfl _ (.tmp 21) rfl (w.heap.size) 0 kr (HB.out.to ii) (.int .i64 (c.Seed)) rfl _ uu3 rfl ?_)|(go_at_call 250;refine gm (c_sRandomBelow hs0 hs1 (by decide) (by decide)) ?_;intro y1)|(refine stepStore2 rfl _ (.tmp 27) (.tmp 26) rfl (w.heap.size) 0 kr (us:=[.int .i64 (nextR c.Seed)]) (cs2:=[.int .i64 (nextR c.Seed),.int .i64 c.Burst,.int .i64 c.Loss]) (HB.out.to ii) rfl kr rfl (by simp) rfl (w0:=w) ii nl ?_;intro z1 hx1 kx1;have HX1:=lH hx1;clear hx1;have KX1:=lH kx1;clear kx1))
 (try simp only[Act.put])
 have HR1:=lH ((HR.out.to (ii:Grows W2 _)).but KX1.out (by omega))
 clear HB HR KX1
 cases c1:decide (rndB c.Seed 100<c.Loss)
 ·have HV0:=lH (show sendBlock c s=(if rndB (nextR c.Seed) 100<c.Burst then(⟨(burst (nextR (nextR c.Seed)) (s.extract 4 s.size)).1,c.Burst,c.Loss⟩,s.extract 0 4++(burst (nextR (nextR c.Seed)) (s.extract 4 s.size)).2)else(⟨nextR (nextR c.Seed),c.Burst,c.Loss⟩,s))by rw[sendBlock,if_pos hif,if_neg (of_decide_eq_false c1)])
  go_upto_region 9 with(first|((with_reducible refine rl ?_);(repeat(first|go_big_quiet_step (first|fail)|simp only[c1]));refine wpQuiet_nil ?_;intro x)|(refine stepLoad1 rfl _ (.tmp 29) rfl (w.heap.size) 2 kr (HX1.out.to ii) (.int .i64 (c.Loss)) rfl _ uu3 rfl ?_)|(refine stepLoad1 rfl _ (.tmp 34) rfl (w.heap.size) 0 kr (HX1.out.to ii) (.int .i64 (nextR c.Seed)) rfl _ uu3 rfl ?_)|(go_at_call 250;refine gm (c_sRandomBelow hn0 hn1 (by decide) (by decide)) ?_;intro y2)|(refine stepStore2 rfl _ (.tmp 40) (.tmp 39) rfl (w.heap.size) 0 kr (us:=[.int .i64 (nextR (nextR c.Seed))]) (cs2:=[.int .i64 (nextR (nextR c.Seed)),.int .i64 c.Burst,.int .i64 c.Loss]) (HX1.out.to ii) rfl kr rfl (by simp) rfl (w0:=w) ii nl ?_;intro z2 hx2 kx2;have HX2:=lH hx2;clear hx2;have KX2:=lH kx2;clear kx2))
  (try simp only[Act.put])
  have HR2:=lH ((HR1.out.to (ii:Grows z1.w _)).but KX2.out (by omega))
  clear HX1 HR1 KX2
  cases c2:decide (rndB (nextR c.Seed) 100<c.Burst)
  ·have HV:=lH (show sendBlock c s=(⟨nextR (nextR c.Seed),c.Burst,c.Loss⟩,s)by rw[HV0.out,if_neg (of_decide_eq_false c2)])
   go_wp2_with (first|((with_reducible refine rl ?_);(repeat(first|go_big_quiet_step (first|fail)|simp only[c2]));refine wpQuiet_nil ?_;intro x)|(refine stepLoad1 rfl _ (.tmp 42) rfl (w.heap.size) 1 kr (HX2.out.to ii) (.int .i64 (c.Burst)) rfl _ uu3 rfl ?_)|(refine stepLoad rfl _ (.tmp 2) rfl (w.heap.size) 0 kr (row:=[.int .i64 (nextR (nextR c.Seed)),.int .i64 c.Burst,.int .i64 c.Loss]) (HX2.out.to ii) _ uu65 rfl kr kr ?_)|(refine stepStore2 rfl _ (.tmp 4) (.tmp 60) rfl (w.heap.size+1) 0 kr (us:=[.int .i64 (nextR (nextR c.Seed)),.int .i64 c.Burst,.int .i64 c.Loss]) (cs2:=[.int .i64 (nextR (nextR c.Seed)),.int .i64 c.Burst,.int .i64 c.Loss]) (HR2.out.to ii) rfl kr rfl (by simp) rfl (w0:=w) ii (Nat.le_succ _) ?_;intro z9 hx9 kx9;have HX9:=lH hx9;clear hx9;have KX9:=lH kx9;clear kx9))
   refine bodyPost_ret (v:=.tuple #[.agg #[.int .i64 (nextR (nextR c.Seed)),.int .i64 c.Burst,.int .i64 c.Loss],.string (s)]) (results_cell2 (P:=Tryz.prog) (u:=.string (s)) rfl rfl HX9.out _ uu65 rfl kr rfl) rfl ⟨by rw[HV.out],Later.of⟩
  ·have HV:=lH (show sendBlock c s=(⟨(burst (nextR (nextR c.Seed)) (s.extract 4 s.size)).1,c.Burst,c.Loss⟩,s.extract 0 4++(burst (nextR (nextR c.Seed)) (s.extract 4 s.size)).2)by rw[HV0.out,if_pos (of_decide_eq_true c2)])
   have he4:(s.extract 4 s.size).size=s.size - 4:=by simp
   have h04:(s.extract 0 4).size=4:=by simp;omega
   have hbz:=burst_size (nextR (nextR c.Seed)) (s.extract 4 s.size)
   have hcb:=fun(W:World)=>(c_sBurstText (w:=W) hm0 hm1 (show 1≤(s.extract 4 s.size).size by omega) (show(s.extract 4 s.size).size≤400 by omega))
   obtain⟨sd3,hsd⟩:∃ x,(burst (nextR (nextR c.Seed)) (s.extract 4 s.size)).1=x:=⟨_,rfl⟩
   obtain⟨tx3,htx⟩:∃ x,(burst (nextR (nextR c.Seed)) (s.extract 4 s.size)).2=x:=⟨_,rfl⟩
   rw[hsd,htx]at HV
   rw[htx,he4]at hbz
   simp only[hsd,htx]at hcb
   clear hsd htx
   have c46:=HX2.out.cellG 0 _ rfl
   go_upto_region 11 with(first|((with_reducible refine rl ?_);(repeat(first|go_big_quiet_step (first|(go_at_call 251;exact Gives.quiet (hcb _)))|simp only[c2]));refine wpQuiet_nil ?_;intro x)|(refine stepLoad1 rfl _ (.tmp 42) rfl (w.heap.size) 1 kr (HX2.out.to ii) (.int .i64 (c.Burst)) rfl _ uu3 rfl ?_))
   clear c46
   go_upto_region 12 with(first|((with_reducible refine rl ?_);refine rq ?_;intro x)|(refine stepStore2 rfl _ (.tmp 54) (.tmp 53) rfl (w.heap.size) 0 kr (us:=[.int .i64 (sd3)]) (cs2:=[.int .i64 (sd3),.int .i64 c.Burst,.int .i64 c.Loss]) (HX2.out.to ii) rfl kr rfl (by simp) rfl (w0:=w) ii nl ?_;intro z3 hx3 kx3;have HX3:=lH hx3;clear hx3;have KX3:=lH kx3;clear kx3))
   (try simp only[Act.put])
   have HR3:=lH ((HR2.out.to (ii:Grows z2.w _)).but KX3.out (by omega))
   clear HX2 HR2 KX3
   have h4I:((4:Int)≤s.size)=True:=by simp;omega
   have h4J:(9223372036854775807<4+(s.size - 4))=False:=by simp;omega
   refine wp_abs (fun _ _ _ _ _ h=>h) fun KK hPK hKK=>?_
   refine wp_region_held_drew (S:=fun W=>Grows w W∧Held W w.heap.size [.int .i64 (sd3),.int .i64 c.Burst,.int .i64 c.Loss] 65) kr ⟨ii,HX3.out.to ii⟩ (fun hH=>?_)
   refine wpAnyH_take (i:=0) (v:=_) rfl kr kr kr (fun _ _ _ h=>hPK.out _ _ _ _ _ h) (yieldsIf_load_mid (by rfl) _ _ rfl (w.heap.size) 0 kr [.int .i64 (sd3),.int .i64 c.Burst,.int .i64 c.Loss] _ (fun W hW=>hW.2.range (n:=3) rfl) uu65 rfl kr) (by assumption) ?_
   (try simp only[List.getElem_toArray,List.getElem_cons_succ,List.getElem_cons_zero]);(try simp only[nrm])
   refine wpAnyH_take (i:=1) (v:=?vq1) rfl kr kr kr (fun _ _ _ h=>hPK.out _ _ _ _ _ h) (Or.inl ⟨by rfl,?yq1⟩) (by assumption) ?rq1
   case yq1=>intro w hSw;clear hSw;go_simp;(try simp only[h4I,h4J,if_true,if_false]);(try with_reducible rfl)
   (try simp only[List.getElem_toArray,List.getElem_cons_succ,List.getElem_cons_zero]);(try simp only[nrm])
   refine wpAnyH_take (i:=2) (v:=?vq2) rfl kr kr kr (fun _ _ _ h=>hPK.out _ _ _ _ _ h) (Or.inl ⟨by rfl,?yq2⟩) (by assumption) ?rq2
   case yq2=>intro w hSw;clear hSw;go_simp;(try simp only[h4I,h4J,if_true,if_false]);(try with_reducible rfl)
   (try simp only[List.getElem_toArray,List.getElem_cons_succ,List.getElem_cons_zero]);(try simp only[nrm])
   refine wpAnyH_take (i:=3) (v:=?vq3) rfl kr kr kr (fun _ _ _ h=>hPK.out _ _ _ _ _ h) (Or.inl ⟨by rfl,?yq3⟩) (by assumption) ?rq3
   case yq3=>intro w hSw;clear hSw;go_simp;(try simp only[h4I,h4J,if_true,if_false]);(try with_reducible rfl)
   (try simp only[List.getElem_toArray,List.getElem_cons_succ,List.getElem_cons_zero]);(try simp only[nrm])
   refine wpAnyH_take (i:=4) (v:=?vq4) rfl kr kr kr (fun _ _ _ h=>hPK.out _ _ _ _ _ h) (Or.inl ⟨by rfl,?yq4⟩) (by assumption) ?rq4
   case yq4=>intro w hSw;clear hSw;go_simp;(try simp only[h4I,h4J,if_true,if_false]);(try with_reducible rfl)
   (try simp only[List.getElem_toArray,List.getElem_cons_succ,List.getElem_cons_zero]);(try simp only[nrm])
   refine wpAnyH_store1 5 rfl kr kr _ _ _ rfl (w.heap.size+1) 0 kr (HR3.out.to ii) (us:=[.int .i64 (sd3),.int .i64 c.Burst,.int .i64 c.Loss]) (cs2:=[.int .i64 (sd3),.int .i64 c.Burst,.int .i64 c.Loss]) kr kr rfl (by simp) rfl (w0:=w) ii (by omega) ?_
   intro z9 hz9 hg9
   have HX9:=lH hz9
   refine⟨⟨ii,(HX3.out.to ii).at hg9 (by omega)⟩,?_⟩
   (try simp only[List.getElem_toArray,List.getElem_cons_succ,List.getElem_cons_zero]);(try simp only[nrm])
   refine wpAnyH_take (i:=6) (v:=?vq6) rfl kr kr kr (fun _ _ _ h=>hPK.out _ _ _ _ _ h) (Or.inl ⟨by rfl,?yq6⟩) ⟨ii,(HX3.out.to ii).at hg9 (by omega)⟩ ?rq6
   case yq6=>intro w hSw;clear hSw;go_simp;(try with_reducible rfl)
   (try simp only[List.getElem_toArray,List.getElem_cons_succ,List.getElem_cons_zero]);(try simp only[nrm])
   refine wpAnyH_done kr ?_ _
   refine hKK.out _ _ _ ?_
   clear hKK hPK hH hz9 hg9
   go_wp2_with (first|((with_reducible refine rl ?_);refine rq ?_;intro x))
   refine bodyPost_ret (v:=.tuple #[.agg #[.int .i64 (sd3),.int .i64 c.Burst,.int .i64 c.Loss],.string (s.extract 0 4++tx3)]) (results_cell2 (P:=Tryz.prog) (u:=.string (s.extract 0 4++tx3)) rfl rfl HX9.out _ uu65 rfl kr rfl) rfl ⟨by rw[HV.out],Later.of⟩
 ·have HV:=lH (show sendBlock c s=(⟨nextR c.Seed,c.Burst,c.Loss⟩,⟨#[]⟩)by rw[sendBlock,if_pos hif,if_pos (of_decide_eq_true c1)])
  go_wp2_with (first|((with_reducible refine rl ?_);(repeat(first|go_big_quiet_step (first|fail)|simp only[c1]));refine wpQuiet_nil ?_;intro x)|(refine stepLoad1 rfl _ (.tmp 29) rfl (w.heap.size) 2 kr (HX1.out.to ii) (.int .i64 (c.Loss)) rfl _ uu3 rfl ?_)|(refine stepLoad rfl _ (.tmp 2) rfl (w.heap.size) 0 kr (row:=[.int .i64 (nextR c.Seed),.int .i64 c.Burst,.int .i64 c.Loss]) (HX1.out.to ii) _ uu65 rfl kr kr ?_)|(refine stepStore2 rfl _ (.tmp 4) (.tmp 32) rfl (w.heap.size+1) 0 kr (us:=[.int .i64 (nextR c.Seed),.int .i64 c.Burst,.int .i64 c.Loss]) (cs2:=[.int .i64 (nextR c.Seed),.int .i64 c.Burst,.int .i64 c.Loss]) (HR1.out.to ii) rfl kr rfl (by simp) rfl (w0:=w) ii (Nat.le_succ _) ?_;intro z9 hx9 kx9;have HX9:=lH hx9;clear hx9;have KX9:=lH kx9;clear kx9))
  refine bodyPost_ret (v:=.tuple #[.agg #[.int .i64 (nextR c.Seed),.int .i64 c.Burst,.int .i64 c.Loss],.string (⟨#[]⟩)]) (results_cell2 (P:=Tryz.prog) (u:=.string (⟨#[]⟩)) rfl rfl HX9.out _ uu65 rfl kr rfl) rfl ⟨by rw[HV.out],Later.of⟩
instance(priority:=950) LeN.setL (a:Nat){W:World}(x:Later W)(p:Addr)(v:Value)[h:LeN a x.w.heap.size]:LeN a (x.set p v).w.heap.size:=⟨by show a≤(x.w.setCell p v).heap.size;simpa using h.out⟩
def GivesON{α β:Type}[N:Nest α β][F:Flat β](w:World)(l:List α):Ending→World→Prop:=fun e w'=>∃ (a:Option Addr) (c:Nat) (χ:Nat→Col) (rows:List (NRow α)),e=.returned (.slice a l.length c)∧rows.map (·.x)=l∧OwnN w.heap.size χ 0 w' a c rows∧∃ y:Later w,w'=y.w
structure RowsN{α β:Type}[N:Nest α β][F:Flat β](B:Nat)(χ:Nat→Col)(w:World)(D:Array Value)(rows:List (NRow α)):Prop where
 cell:∀ i r,rows[i]?=some r→∀ (j:Nat) (u:Value),(encN r)[j]?=some u→D[i*N.size+j]?=some u
 each:∀ i r,rows[i]?=some r→N.good r.x∧OwnC B χ (0,i+1) w r.a r.c (N.inner r.x)
section
variable {α β:Type} [N:Nest α β] [F:Flat β] {B n:Nat} {χ χ2:Nat→Col} {w W1 W2 w2:World} {D:Array Value} {rows:List (NRow α)} {x:α} {ra:Option Addr} {rc:Nat}
theorem RowsN.nil:RowsN B χ w D ([]:List (NRow α)):=⟨fun i r h=>by simp at h,fun i r h=>by simp at h⟩
theorem RowsN.put{k:Nat}{vs:List Value}(h:RowsN B χ w D rows)(hk:rows.length=k)(hkn:k<n)(hD:D.size=n*N.size)(g:Grows w W1)(hB:B≤W1.heap.size){i0:Col}(hi:OwnC W1.heap.size χ2 i0 W2 ra rc (N.inner x))(g2:Grows W1 W2)(hgd:N.good x)(g3:Keeps B W2 w2)(hv:encN (⟨x,ra,rc⟩:NRow α)=vs) :
  RowsN B (paint W1.heap.size χ χ2 (fun _=>(0,k+1))) w2 (putAt D (k*N.size) 0 vs) (rows++[⟨x,ra,rc⟩]):=by
 subst hk;subst hv
 have hle:rows.length*N.size+N.size≤n*N.size:=by rw[← Nat.succ_mul];exact Nat.mul_le_mul_right _ hkn
 refine⟨fun i r hr j u hu=>?_,fun i r hr=>?_⟩
 ·by_cases hi2:i<rows.length
  ·rw[List.getElem?_append_left hi2]at hr
   have hj:j<N.size:=by rw[← encN_len r];exact(List.getElem?_eq_some_iff.1 hu).1
   have:(i+1)*N.size≤rows.length*N.size:=Nat.mul_le_mul_right _ hi2
   rw[Nat.succ_mul]at this
   rw[putAt_low _ _ _ _ _ (by omega)];exact h.cell i r hr j u hu
  ·have hlt:=(List.getElem?_eq_some_iff.1 hr).1
   simp at hlt
   obtain rfl:i=rows.length:=by omega
   rw[List.getElem?_append_right nl]at hr
   simp at hr
   subst hr
   exact putAt_new _ D _ 0 (by rw[encN_len];omega) j u hu
 ·by_cases hi2:i<rows.length
  ·rw[List.getElem?_append_left hi2]at hr
   obtain⟨h1,h2⟩:=h.each i r hr
   exact⟨h1,(((h2.old g.out.size).to ⟨g.out.trans (g2.out.mono g.out.size)⟩).keep g3)⟩
  ·have hlt:=(List.getElem?_eq_some_iff.1 hr).1
   simp at hlt
   obtain rfl:i=rows.length:=by omega
   rw[List.getElem?_append_right nl]at hr
   simp at hr
   subst hr
   exact⟨hgd,((hi.new (B:=W1.heap.size) nl).mono hB).keep g3⟩
theorem RowsN.list(h:RowsN B χ w D rows)(hl:rows.length=n)(hD:D.size=n*N.size):D.toList=rows.flatMap encN:=by
 have hfl:(rows.flatMap (encN (α:=α))).length=n*N.size:=by rw[flatMap_length encN_len,hl]
 refine List.ext_getElem? fun j=>?_
 by_cases hj:j<n*N.size
 ·have hs:0<N.size:=by
   rcases Nat.eq_zero_or_pos N.size with h0|h0
   ·rw[h0]at hj;omega
   ·exact h0
  have hq:j / N.size<rows.length:=by rw[hl];exact Nat.div_lt_of_lt_mul (by rw[Nat.mul_comm];exact hj)
  have hx:=List.getElem?_eq_getElem hq
  have hm:j % N.size<(encN rows[j / N.size]).length:=by rw[encN_len];exact Nat.mod_lt _ hs
  have hu:=List.getElem?_eq_getElem hm
  have h3:=h.cell _ _ hx _ _ hu
  have h4:=flatMap_at encN_len rows _ _ _ _ hx hu
  have hj':j / N.size*N.size+j % N.size=j:=by rw[Nat.mul_comm];exact Nat.div_add_mod _ _
  rw[hj']at h3 h4
  rw[h4,Array.getElem?_toList,h3]
 ·rw[List.getElem?_eq_none (by rw[Array.length_toList];omega),List.getElem?_eq_none (by omega)]
theorem RowsN.done{W:World}(x:Later (W.alloc (.cells D N.ty)))(h:RowsN B χ x.w D rows)(hl:rows.length=n)(hm:n≤1048576)(hD:D.size=n*N.size)(hB:W.heap.size+1≤B):OwnN W.heap.size (paint (W.heap.size+1) (fun _=>(0,0)) χ id) 0 x.w (some ⟨W.heap.size,0,none⟩) n rows :=
 ⟨own_block encN_len hl (by omega) nl hD (h.list hl hD) x,fun k hk=>by cases hk;rw[paint,if_pos (Nat.lt_succ_self _)],fun i r hr=>⟨(h.each i r hr).1,OwnC.mono (B:=W.heap.size+1) (OwnC.recol (OwnC.mono (h.each i r hr).2 hB) (fun k h1 _ h3=>by rw[paint,if_neg (Nat.not_lt.2 h1),h3];rfl)) (Nat.le_succ _)⟩⟩
end
theorem o_ltoPacker{B:Nat}{vs:List Value}{x:TPacker}{w:World}(h:Enc.Rd B w vs x)(ht:Enc.tot x≤1048576) :
  Calls Tryz.prog 105 #[.agg vs.toArray] w (GivesO w x):=by
 obtain⟨a0,c0,rfl,q0,hok⟩:=h
 have HT:=lH (show totL x.Starts≤1048576∧True from by
  have ht2:(x.Rest.size:Int)+totL x.Starts≤1048576:=ht
  have n0:=totL_nonneg x.Starts
  refine⟨?_,trivial⟩<;>omega)
 clear ht
 have HOK:=lH hok;clear hok
 go_enter Tryz.func105,Tryz.ntmps105
 go_wp2_with (fail)
 refine(o_ltoIntS (q0.keep ii) (HT.out.1)).mono ?_
 rintro _ _ ⟨na0,nc0,rfl,nq0,y0,rfl⟩
 have Q0:=lH nq0;clear nq0
 go_wp2_with (fail)
 refine bodyPost_ret (v:=.agg #[.int .i64 x.Channel,.int .i64 x.Count,.string x.Rest,.slice na0 x.Starts.length nc0]) ?_ rfl ⟨[.int .i64 x.Channel,.int .i64 x.Count,.string x.Rest,.slice na0 x.Starts.length nc0],pick [(y0.w.heap.size,0,(fun _=>(0,0)))],rfl,⟨na0,nc0,rfl,⟨(((Q0.out.re (χ:=pick [(y0.w.heap.size,0,(fun _=>(0,0)))]) (d:=0) (fun b h1 h2=>pick_here h2)).mono (B':=w.heap.size+3) LeN.out).keep ii).mono (by omega),HOK.out⟩⟩,Later.of⟩
 simp[results,Tryz.results105,go_sem]
theorem o_ltoSender{B:Nat}{vs:List Value}{x:TSender}{w:World}(h:Enc.Rd B w vs x)(ht:Enc.tot x≤1048576) :
  Calls Tryz.prog 96 #[.agg vs.toArray] w (GivesO w x):=by
 obtain⟨a0,c0,rfl,q0,hok⟩:=h
 have HT:=lH (show totL x.Waiting≤1048576∧True from by
  have ht2:totL x.Waiting≤1048576:=ht
  have n0:=totL_nonneg x.Waiting
  refine⟨?_,trivial⟩<;>omega)
 clear ht
 have HOK:=lH hok;clear hok
 go_enter Tryz.func96,Tryz.ntmps96
 go_wp2_with (fail)
 refine(o_ltoSentS (q0.keep ii) (HT.out.1)).mono ?_
 rintro _ _ ⟨na0,nc0,rfl,nq0,y0,rfl⟩
 have Q0:=lH nq0;clear nq0
 go_wp2_with (fail)
 refine bodyPost_ret (v:=.agg #[.int .i64 x.Next,.int .i64 x.Window,.slice na0 x.Waiting.length nc0,.int .i64 x.Done]) ?_ rfl ⟨[.int .i64 x.Next,.int .i64 x.Window,.slice na0 x.Waiting.length nc0,.int .i64 x.Done],pick [(y0.w.heap.size,0,(fun _=>(0,0)))],rfl,⟨na0,nc0,rfl,⟨(((Q0.out.re (χ:=pick [(y0.w.heap.size,0,(fun _=>(0,0)))]) (d:=0) (fun b h1 h2=>pick_here h2)).mono (B':=w.heap.size+3) LeN.out).keep ii).mono (by omega),HOK.out⟩⟩,Later.of⟩
 simp[results,Tryz.results96,go_sem]
theorem o_ltoRecorder{B:Nat}{vs:List Value}{x:TRecorder}{w:World}(h:Enc.Rd B w vs x)(ht:Enc.tot x≤1048576) :
  Calls Tryz.prog 205 #[.agg vs.toArray] w (GivesO w x):=by
 obtain⟨a0,c0,a1,c1,rfl,q0,q1,hok⟩:=h
 have HT:=lH (show totL x.Records≤1048576∧totL x.Dropped≤1048576∧True from by
  have ht2:totL x.Records+totL x.Dropped≤1048576:=ht
  have n0:=totL_nonneg x.Records
  have n1:=totL_nonneg x.Dropped
  refine⟨?_,?_,trivial⟩<;>omega)
 clear ht
 have HOK:=lH hok;clear hok
 go_enter Tryz.func205,Tryz.ntmps205
 go_wp2_with (fail)
 refine(o_ltoRecordS (q0.keep ii) (HT.out.1)).mono ?_
 rintro _ _ ⟨na0,nc0,rfl,nq0,y0,rfl⟩
 have Q0:=lH nq0;clear nq0
 go_wp2_with (fail)
 refine(o_ltoIntS (q1.keep ii) (HT.out.2.1)).mono ?_
 rintro _ _ ⟨na1,nc1,rfl,nq1,y1,rfl⟩
 have Q1:=lH nq1;clear nq1
 go_wp2_with (fail)
 refine bodyPost_ret (v:=.agg #[.int .i64 x.Room,.slice na0 x.Records.length nc0,.slice na1 x.Dropped.length nc1]) ?_ rfl ⟨[.int .i64 x.Room,.slice na0 x.Records.length nc0,.slice na1 x.Dropped.length nc1],pick [(y0.w.heap.size,0,(fun _=>(0,0))),(y1.w.heap.size,1,(fun _=>(0,0)))],rfl,⟨na0,nc0,na1,nc1,rfl,⟨(((Q0.out.re (χ:=pick [(y0.w.heap.size,0,(fun _=>(0,0))),(y1.w.heap.size,1,(fun _=>(0,0)))]) (d:=0) (fun b h1 h2=>pick_here h2)).mono (B':=w.heap.size+3) LeN.out).keep ii).mono (by omega),(((Q1.out.re (χ:=pick [(y0.w.heap.size,0,(fun _=>(0,0))),(y1.w.heap.size,1,(fun _=>(0,0)))]) (d:=1) (fun b h1 h2=>(pick_skip (Nat.le_trans (LeN.out (a:=y0.w.heap.size)) h1)).trans (pick_here h2))).mono (B':=w.heap.size+3) LeN.out).keep ii).mono (by omega),HOK.out⟩⟩,Later.of⟩
 simp[results,Tryz.results205,go_sem]
theorem o_ltoFileIn{B:Nat}{vs:List Value}{x:TFileIn}{w:World}(h:Enc.Rd B w vs x)(ht:Enc.tot x≤1048576) :
  Calls Tryz.prog 200 #[.agg vs.toArray] w (GivesO w x):=by
 obtain⟨a0,c0,rfl,q0,hok⟩:=h
 have HT:=lH (show totL x.Parts≤1048576∧True from by
  have ht2:totL x.Parts≤1048576:=ht
  have n0:=totL_nonneg x.Parts
  refine⟨?_,trivial⟩<;>omega)
 clear ht
 have HOK:=lH hok;clear hok
 go_enter Tryz.func200,Tryz.ntmps200
 go_wp2_with (fail)
 refine(o_ltoStringS (q0.keep ii) (HT.out.1)).mono ?_
 rintro _ _ ⟨na0,nc0,rfl,nq0,y0,rfl⟩
 have Q0:=lH nq0;clear nq0
 go_wp2_with (fail)
 refine bodyPost_ret (v:=.agg #[.int .i64 x.File,.int .i64 x.Size,.int .i64 x.Check,.slice na0 x.Parts.length nc0]) ?_ rfl ⟨[.int .i64 x.File,.int .i64 x.Size,.int .i64 x.Check,.slice na0 x.Parts.length nc0],pick [(y0.w.heap.size,0,(fun _=>(0,0)))],rfl,⟨na0,nc0,rfl,⟨(((Q0.out.re (χ:=pick [(y0.w.heap.size,0,(fun _=>(0,0)))]) (d:=0) (fun b h1 h2=>pick_here h2)).mono (B':=w.heap.size+3) LeN.out).keep ii).mono (by omega),HOK.out⟩⟩,Later.of⟩
 simp[results,Tryz.results200,go_sem]
theorem o_ltoFileOut{B:Nat}{vs:List Value}{x:TFileOut}{w:World}(h:Enc.Rd B w vs x)(ht:Enc.tot x≤1048576) :
  Calls Tryz.prog 206 #[.agg vs.toArray] w (GivesO w x):=by
 obtain⟨a0,c0,rfl,q0,hok⟩:=h
 have HT:=lH (show totL x.Queue≤1048576∧True from by
  have ht2:(x.Data.size:Int)+totL x.Queue≤1048576:=ht
  have n0:=totL_nonneg x.Queue
  refine⟨?_,trivial⟩<;>omega)
 clear ht
 have HOK:=lH hok;clear hok
 go_enter Tryz.func206,Tryz.ntmps206
 go_wp2_with (fail)
 refine(o_ltoIntS (q0.keep ii) (HT.out.1)).mono ?_
 rintro _ _ ⟨na0,nc0,rfl,nq0,y0,rfl⟩
 have Q0:=lH nq0;clear nq0
 go_wp2_with (fail)
 refine bodyPost_ret (v:=.agg #[.int .i64 x.File,.string x.Data,.slice na0 x.Queue.length nc0,.bool x.Done]) ?_ rfl ⟨[.int .i64 x.File,.string x.Data,.slice na0 x.Queue.length nc0,.bool x.Done],pick [(y0.w.heap.size,0,(fun _=>(0,0)))],rfl,⟨na0,nc0,rfl,⟨(((Q0.out.re (χ:=pick [(y0.w.heap.size,0,(fun _=>(0,0)))]) (d:=0) (fun b h1 h2=>pick_here h2)).mono (B':=w.heap.size+3) LeN.out).keep ii).mono (by omega),HOK.out⟩⟩,Later.of⟩
 simp[results,Tryz.results206,go_sem]
theorem o_ltoFileInS{B:Nat}{a:Option Addr}{c:Nat}{l:List TFileIn}{w:World}(hs:RdS B w a c l)(ht:totL l≤1048576) :
  Calls Tryz.prog 101 #[.slice a l.length c] w (GivesON w l):=by
 have hln:=totL_len l
 have HT:=lH (tm ht)
 obtain⟨n,hn⟩:∃ n,l.length=n:=⟨_,rfl⟩
 have HN:=lH hn
 have hm:n≤1048576:=by omega
 rw[hn];clear ht hln hn
 obtain⟨C,hC,hmk⟩:=run_mk (P:=Tryz.prog) Tryz.underlying74 (e:=154) (z:=.agg #[.int .i64 0,.int .i64 0,.int .i64 0,.slice none 0 0]) (size:=4) (bytes:=48) kr n (by omega) (by omega)
 have hCz:C.size=n*4:=by rw[hC,size_madeCells]
 clear hC
 go_enter Tryz.func101,Tryz.ntmps101
 go_wp2_with (fail)
 clear hmk
 go_loopw [4] (fun v wr=>∃ k:Nat,v=.int .i64 k∧k≤n∧∃ (D:Array Value) (χ:Nat→Col) (rows:List (NRow TFileIn)) (x:Later (w.alloc (.cells D 154))),D.size=n*4∧Hid (RowsN (w.heap.size+1) χ x.w D rows)∧Hid (rows.map (fun q=>q.x)=l.take k)∧wr=x.w) (fun v _=>(n - intOf v).toNat)
 case atStart=>exact⟨0,rfl,by omega,C,fun _=>(0,0),[],Later.here _,hCz,RowsN.nil,rfl,rfl⟩
 case round =>
  obtain⟨k,rfl,hk,D,χ,rows,x,hDz,hf,hX,rfl⟩:=hrel
  by_cases h:k<n
  ·have hlk:k<l.length:=by have:=HN.out;omega
   obtain⟨eb,eoff,ex,ea0,ec0,rfl,ehb,ehd,eq0,eok,eh0,eh1,eh2,eh3⟩:=hs.atTFileIn (show k<l.length by omega)
   obtain⟨o0,g0⟩:=getD_lt hDz (show k*4<n*4 by omega)
   obtain⟨o1,g1⟩:=getD_lt hDz (show k*4+1<n*4 by omega)
   obtain⟨o2,g2⟩:=getD_lt hDz (show k*4+2<n*4 by omega)
   obtain⟨o3,g3⟩:=getD_lt hDz (show k*4+3<n*4 by omega)
   have hte:=HT.out ex (List.mem_of_mem_drop (by rw[ehd.out];exact List.mem_cons_self ..))
   have HEOK:=lH eok;clear eok
   go_wp2_with (fail)
   refine(o_ltoFileIn (x:=ex) ⟨ea0,ec0,rfl,eq0.keep ii,HEOK.out⟩ hte).mono ?_
   rintro _ _ ⟨_,χ2,rfl,⟨fa0,fc0,rfl,no⟩,y,rfl⟩
   have NO:=lH no;clear no
   have HLN:=lH (show rows.length=k from by have:=congrArg List.length hX.out;simp at this;omega)
   have HXN:=lH (show(rows.map (fun q=>q.x))++[ex]=l.take (k+1)from by rw[hX.out,List.take_add_one];congr 1;have:=congrArg (fun m=>m[0]?) ehd.out;simp at this;rw[this];rfl);clear hX
   clear hte
   go_wp2_with (fail)
   go_roundw
   case rel =>
    obtain⟨x2,hx2⟩:=Later.set4_at (x.andThen y) (k*4) (k*4+1) (k*4+2) (k*4+3) (.int .i64 ex.File) (.int .i64 ex.Size) (.int .i64 ex.Check) (.slice fa0 ex.Parts.length fc0)
    rw[hx2]
    have hP:=hf.out.put (n:=n) (w2:=x2.w) (ra:=fa0) (rc:=fc0) (x:=ex) (vs:=[.int .i64 ex.File,.int .i64 ex.Size,.int .i64 ex.Check,.slice fa0 ex.Parts.length fc0]) HLN.out h hDz (Grows.same x.w) LeN.out NO.out.o0 ii HEOK.out (by rw[← hx2];infer_instance) rfl
    exact⟨k+1,by go_num,by omega,_,_,_,x2,by simpa using hDz,hP,by rw[List.map_append];exact HXN.out,rfl⟩
   case measure=>simp[intOf];omega
  ·go_wp2_with (fail)
   go_ret
   obtain rfl:k=n:=by omega
   have hXL:=hX.out
   rw[List.take_of_length_le (by have:=HN.out;omega)]at hXL
   exact⟨_,k,_,rows,by rw[HN.out];rfl,hXL,RowsN.done x hf.out ((show(rows.map (fun q=>q.x)).length=rows.length by simp).symm.trans ((congrArg List.length hXL).trans HN.out)) hm hDz nl,⟨x.w,Grows.out⟩,rfl⟩
theorem o_ltoFileOutS{B:Nat}{a:Option Addr}{c:Nat}{l:List TFileOut}{w:World}(hs:RdS B w a c l)(ht:totL l≤1048576) :
  Calls Tryz.prog 106 #[.slice a l.length c] w (GivesON w l):=by
 have hln:=totL_len l
 have HT:=lH (tm ht)
 obtain⟨n,hn⟩:∃ n,l.length=n:=⟨_,rfl⟩
 have HN:=lH hn
 have hm:n≤1048576:=by omega
 rw[hn];clear ht hln hn
 obtain⟨C,hC,hmk⟩:=run_mk (P:=Tryz.prog) Tryz.underlying86 (e:=105) (z:=.agg #[.int .i64 0,.string ByteArray.empty,.slice none 0 0,.bool false]) (size:=4) (bytes:=56) kr n (by omega) (by omega)
 have hCz:C.size=n*4:=by rw[hC,size_madeCells]
 clear hC
 go_enter Tryz.func106,Tryz.ntmps106
 go_wp2_with (fail)
 clear hmk
 go_loopw [4] (fun v wr=>∃ k:Nat,v=.int .i64 k∧k≤n∧∃ (D:Array Value) (χ:Nat→Col) (rows:List (NRow TFileOut)) (x:Later (w.alloc (.cells D 105))),D.size=n*4∧Hid (RowsN (w.heap.size+1) χ x.w D rows)∧Hid (rows.map (fun q=>q.x)=l.take k)∧wr=x.w) (fun v _=>(n - intOf v).toNat)
 case atStart=>exact⟨0,rfl,by omega,C,fun _=>(0,0),[],Later.here _,hCz,RowsN.nil,rfl,rfl⟩
 case round =>
  obtain⟨k,rfl,hk,D,χ,rows,x,hDz,hf,hX,rfl⟩:=hrel
  by_cases h:k<n
  ·have hlk:k<l.length:=by have:=HN.out;omega
   obtain⟨eb,eoff,ex,ea0,ec0,rfl,ehb,ehd,eq0,eok,eh0,eh1,eh2,eh3⟩:=hs.atTFileOut (show k<l.length by omega)
   obtain⟨o0,g0⟩:=getD_lt hDz (show k*4<n*4 by omega)
   obtain⟨o1,g1⟩:=getD_lt hDz (show k*4+1<n*4 by omega)
   obtain⟨o2,g2⟩:=getD_lt hDz (show k*4+2<n*4 by omega)
   obtain⟨o3,g3⟩:=getD_lt hDz (show k*4+3<n*4 by omega)
   have hte:=HT.out ex (List.mem_of_mem_drop (by rw[ehd.out];exact List.mem_cons_self ..))
   have HEOK:=lH eok;clear eok
   go_wp2_with (fail)
   refine(o_ltoFileOut (x:=ex) ⟨ea0,ec0,rfl,eq0.keep ii,HEOK.out⟩ hte).mono ?_
   rintro _ _ ⟨_,χ2,rfl,⟨fa0,fc0,rfl,no⟩,y,rfl⟩
   have NO:=lH no;clear no
   have HLN:=lH (show rows.length=k from by have:=congrArg List.length hX.out;simp at this;omega)
   have HXN:=lH (show(rows.map (fun q=>q.x))++[ex]=l.take (k+1)from by rw[hX.out,List.take_add_one];congr 1;have:=congrArg (fun m=>m[0]?) ehd.out;simp at this;rw[this];rfl);clear hX
   clear hte
   go_wp2_with (fail)
   go_roundw
   case rel =>
    obtain⟨x2,hx2⟩:=Later.set4_at (x.andThen y) (k*4) (k*4+1) (k*4+2) (k*4+3) (.int .i64 ex.File) (.string ex.Data) (.slice fa0 ex.Queue.length fc0) (.bool ex.Done)
    rw[hx2]
    have hP:=hf.out.put (n:=n) (w2:=x2.w) (ra:=fa0) (rc:=fc0) (x:=ex) (vs:=[.int .i64 ex.File,.string ex.Data,.slice fa0 ex.Queue.length fc0,.bool ex.Done]) HLN.out h hDz (Grows.same x.w) LeN.out NO.out.o0 ii HEOK.out (by rw[← hx2];infer_instance) rfl
    exact⟨k+1,by go_num,by omega,_,_,_,x2,by simpa using hDz,hP,by rw[List.map_append];exact HXN.out,rfl⟩
   case measure=>simp[intOf];omega
  ·go_wp2_with (fail)
   go_ret
   obtain rfl:k=n:=by omega
   have hXL:=hX.out
   rw[List.take_of_length_le (by have:=HN.out;omega)]at hXL
   exact⟨_,k,_,rows,by rw[HN.out];rfl,hXL,RowsN.done x hf.out ((show(rows.map (fun q=>q.x)).length=rows.length by simp).symm.trans ((congrArg List.length hXL).trans HN.out)) hm hDz nl,⟨x.w,Grows.out⟩,rfl⟩
theorem bt_zero{r o:Int}(h:driftOk r o=true):boardTime r o 0=o:=by
 rw[boardTime,h];simp[inB]
