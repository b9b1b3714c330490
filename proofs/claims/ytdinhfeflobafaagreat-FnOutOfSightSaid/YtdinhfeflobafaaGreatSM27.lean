/- slices.Delete of one element: the slice is written in place. No condition but on lengths. The contract of MissionOk, the code's. No condition but on sizes. The contract of MissionOk, the reference's. -/
import Derived.Test.YtdinhfeflobafaaGreatSM5
import Derived.Test.YtdinhfeflobafaaGreatSOwnF
import Derived.Lib.SliceRun
import Derived.Deep.RegionLaw
import Derived.Test.YtdinhfeflobafaaGreatSM19
import Derived.Test.YtdinhfeflobafaaGreatSOkGi
import Derived.Test.YtdinhfeflobafaaGreatSOkAs
import Derived.Test.YtdinhfeflobafaaGreatSOkGs
import Derived.Test.YtdinhfeflobafaaGreatSCmdO
import Derived.Test.YtdinhfeflobafaaGreatSM12
import Derived.Test.YtdinhfeflobafaaGreatSRecO
import Derived.Test.YtdinhfeflobafaaGreatSStab3
import Derived.Test.YtdinhfeflobafaaGreatSStepH
import Derived.Test.YtdinhfeflobafaaGreatSWholeD
namespace Go.Proofs.YtdinhfeflobafaaGreat
set_option linter.unusedVariables false
open Go.ChangeShapes Go.WideShapes Go.ChangeAt Go.RowKit
theorem splice_eq:∀ (us cs:List Value) (o:Nat),o+us.length≤cs.length→splice cs o us=cs.take o++us++cs.drop (o+us.length)
 | [],cs,o,_=>by simp[splice]
 | v::r,cs,o,h=>by
  simp only[List.length_cons]at h
  rw[splice,splice_eq r (cs.set o v) (o+1) (by simp;omega)]
  have h1:(cs.set o v).take (o+1)=cs.take o++[v]:=by
   rw[List.take_add_one,List.take_set_of_le (Nat.le_refl _),List.getElem?_set_self (by omega)];rfl
  rw[h1,List.drop_set_of_lt (by omega),List.length_cons,show o+1+r.length=o+(r.length+1)by omega]
  simp
theorem splice_len{us cs:List Value}{o:Nat}(h:o+us.length≤cs.length):(splice cs o us).length=cs.length:=by
 rw[splice_eq us cs o h];simp;omega
theorem zeroCells_one{z:Array Value}:(Builtin.zeroCells z 1).toList=z.toList:=by
 apply List.ext_getElem
 ·simp[Builtin.zeroCells]
 ·intro i h1 h2
  have:i<z.size:=by simpa using h2
  simp[Builtin.zeroCells,Nat.mod_eq_of_lt this,this]
theorem run_clear1{P:Program}(w:World)(t e ty:TypeId)(z:Value)(us:List Value)(ht:P.underlying t=some (.slice e))(hv:∀ w,(zeroValue e).run P w=.ok z w)(hz:z.cells.toList=us)(h1:us.all (·.oneCell')=true)(b o c:Nat)(hl:w.there b o us.length) :
  (Builtin.clear_ #[t] ty #[.slice (some ⟨b,o,none⟩) 1 c]).run P w=.ok (.tuple #[]) (w.setCells b o us):=by
 have hst:=run_storeCells_cells (P:=P) b o us 0 w (fun j hj=>by simpa using(hl j hj).1) (fun j hj=>by simpa using(hl j hj).2) (fun u hu=>List.all_eq_true.1 h1 u hu)
 simp only[Nat.add_zero]at hst
 simp[Builtin.clear_,run_underlying ht,hv,zeroCells_one,hz,hst]
section
variable {α:Type} {enc:α→List Value} {T size B:Nat} {w w':World} {c:Nat} {l:List α}
theorem flatMap_take{n:Nat}(h:∀ x:α,(enc x).length=size):∀ (l:List α) (n:Nat),(l.flatMap enc).take (n*size)=(l.take n).flatMap enc
 | [],n=>by simp
 | x::r,0=>by simp
 | x::r,n+1=>by
  rw[List.flatMap_cons,List.take_succ_cons,List.flatMap_cons,← flatMap_take (n:=n) h r n,List.take_append,h x,List.take_of_length_le (by rw[h x,Nat.add_mul];omega),show(n+1)*size - size=n*size by rw[Nat.add_mul];omega]
theorem flatMap_drop(h:∀ x:α,(enc x).length=size):∀ (l:List α) (n:Nat),(l.flatMap enc).drop (n*size)=(l.drop n).flatMap enc
 | [],n=>by simp
 | x::r,0=>by simp
 | x::r,n+1=>by
  rw[List.flatMap_cons,List.drop_succ_cons,← flatMap_drop h r n,List.drop_append,h x,List.drop_of_length_le (by rw[h x,Nat.add_mul];omega),show(n+1)*size - size=n*size by rw[Nat.add_mul];omega,List.nil_append]
theorem Own.del{g k:Nat}{us:List Value}(h:Own enc T size B w (some ⟨g,0,none⟩) c l)(hk:k<l.length)(hu:us.length=size)(hsz:0<size) :
  ∃ cs:List Value,Held w g cs T∧(l.drop (k+1)).flatMap enc=(cs.drop ((k+1)*size)).take ((l.length - (k+1))*size)∧l.length*size≤cs.length∧l.length≤c∧c≤9223372036854775807 ∧
   ∀ w',Held w' g (splice (splice cs (k*size) ((l.drop (k+1)).flatMap enc)) ((l.length - 1)*size) us) T→Own enc T size B w' (some ⟨g,0,none⟩) c (l.eraseIdx k):=by
 obtain⟨hs,hlen,⟨hv,hn0⟩|⟨g',cap,cur,hv,hB,hheap,hle,hmax,hcs,ht⟩⟩:=h
 ·omega
 ·simp only[Value.slice.injEq,Option.some.injEq,Addr.mk.injEq]at hv
  obtain⟨⟨rfl,-,-⟩,-,rfl⟩:=hv
  have hL:cur.toList.length=c*size:=by rw[Array.length_toList];exact hcs
  have hfl:=flatMap_length hs l
  have htake:cur.toList.take (l.length*size)=l.flatMap enc:=by
   exact ht
  have hcl:l.length*size≤c*size:=Nat.mul_le_mul_right _ hle
  have hk1:(k+1)*size≤l.length*size:=Nat.mul_le_mul_right _ hk
  have e1:(k+1)*size=k*size+size:=by rw[Nat.add_mul];omega
  have e2:(l.length - (k+1))*size=l.length*size - (k+1)*size:=Nat.sub_mul _ _ _
  have e3:(l.length - 1)*size=l.length*size - size:=by rw[Nat.sub_mul];omega
  have hdl:((l.drop (k+1)).flatMap enc).length=(l.length - (k+1))*size:=by rw[flatMap_length hs,List.length_drop]
  have hd:(l.drop (k+1)).flatMap enc=(cur.toList.drop ((k+1)*size)).take ((l.length - (k+1))*size):=by
   rw[← flatMap_drop hs,← htake,List.drop_take,e2]
  refine⟨cur.toList,by unfold Held;simpa using hheap,hd,by rw[hL];exact hcl,hle,by unfold maxLen at hmax;omega,fun w' hH=>⟨hs,by rw[flatMap_length hs],.inr ⟨g,c,_,?_,hB,hH,?_,hmax,?_,?_⟩⟩⟩
  ·rfl
  ·rw[List.length_eraseIdx,if_pos hk];omega
  ·have l1:(splice cur.toList (k*size) ((l.drop (k+1)).flatMap enc)).length=c*size:=by rw[splice_len (by rw[hdl,hL];omega),hL]
   show(splice _ _ _).toArray.size=_
   rw[List.size_toArray,splice_len (by rw[l1,hu];omega),l1]
  ·have l1:(splice cur.toList (k*size) ((l.drop (k+1)).flatMap enc)).length=c*size:=by rw[splice_len (by rw[hdl,hL];omega),hL]
   have hEl:((l.eraseIdx k).flatMap enc).length=(l.length - 1)*size:=by rw[flatMap_length hs,List.length_eraseIdx,if_pos hk]
   rw[List.length_eraseIdx,if_pos hk,splice_eq us _ _ (by rw[l1,hu];omega),splice_eq _ _ _ (by rw[hdl,hL];omega),hdl]
   have hE:(l.eraseIdx k).flatMap enc=(l.flatMap enc).take (k*size)++(l.drop (k+1)).flatMap enc:=by
    rw[List.eraseIdx_eq_take_drop_succ,List.flatMap_append,flatMap_take (n:=k) hs]
   have hT:cur.toList.take (k*size)=(l.flatMap enc).take (k*size):=by rw[← htake,List.take_take,Nat.min_eq_left (by omega)]
   rw[hE,← hT]
   have hA:(cur.toList.take (k*size)++(l.drop (k+1)).flatMap enc).length=(l.length - 1)*size:=by rw[List.length_append,hdl,List.length_take,hL];omega
   show List.take _ (List.take _ _++us++_)=_
   rw[List.append_assoc,List.take_append_of_le_length (by rw[List.length_take,List.length_append,hA];simp),List.take_take,Nat.min_self,List.take_append_of_le_length (by rw[hA];exact Nat.le_refl _),List.take_of_length_le (by rw[hA];exact Nat.le_refl _)]
end
set_option maxRecDepth 100000 in
set_option maxHeartbeats 2000000 in
theorem c_DeleteStr{B k:Nat}{a:Option Addr}{c:Nat}{l:List ByteArray}{w:World}(h:Own encStr 9 1 B w a c l)(hk:k<l.length)(hm:l.length≤100000000) :
  Calls Tryz.prog 73 #[.slice a l.length c,.int .i64 k,.int .i64 ((k:Int)+1)] w (fun e w'=>e=.returned (.slice a (l.length - 1) c)∧Own encStr 9 1 B w' a c (l.eraseIdx k)∧w.grownBy w' (blkOf a)):=by
 obtain⟨g,rfl⟩:∃ g,a=some ⟨g,0,none⟩:=by
  obtain⟨-,-,⟨hv,hn0⟩|⟨g,cap,cur,hv,-⟩⟩:=h
  ·omega
  ·simp only[Value.slice.injEq]at hv;exact⟨g,hv.1⟩
 obtain⟨i0,hi0,hz1⟩:=Option.map_eq_some_iff.1 (show(Tryz.prog.info? 9).map (·.size)=some 1 by kernel_rfl)
 obtain⟨cs,hH,hd,hcs,hle,hc,hO⟩:=h.del (us:=[.string ⟨#[]⟩]) hk rfl (by decide)
 obtain⟨n,hn⟩:∃ n,l.length=n:=⟨_,rfl⟩
 obtain⟨news,hnews⟩:∃ news,(l.drop (k+1)).flatMap encStr=news:=⟨_,rfl⟩
 rw[hnews,hn]at hd hO
 rw[hn]at hcs hle hk hm ⊢
 have hnl:news.length=(n - (k+1))*1:=by rw[← hnews,flatMap_length (size:=1) (fun _=>rfl),List.length_drop,hn]
 obtain⟨A,hA,hsrc⟩:∃ A:Addr,(if c=k+1 then some (⟨g,0,none⟩:Addr)else some ⟨g,(k+1)*1,none⟩)=some A∧Hid (∀ t u,news[t]?=some u→w.drew.cell? (A.add t)=some u):=by
  by_cases e:c=k+1
  ·refine⟨⟨g,0,none⟩,by rw[if_pos e],fun t u hu=>?_⟩
   have:news.length=0:=by rw[hnl,show n - (k+1)=0 by omega,Nat.zero_mul]
   rw[List.length_eq_zero_iff.1 this]at hu
   simp at hu
  ·refine⟨⟨g,(k+1)*1,none⟩,by rw[if_neg e],fun t u hu=>?_⟩
   have ht:t<(n - (k+1))*1:=by rw[← hnl];exact(List.getElem?_eq_some_iff.1 hu).1
   rw[hd,List.getElem?_take_of_lt ht,List.getElem?_drop]at hu
   have e2:(⟨g,(k+1)*1,none⟩:Addr).add t=⟨g,(k+1)*1+t,none⟩:=by
    unfold Addr.add;split
    ·rename_i h0;rw[h0];simp
    ·simp
   rw[e2]
   exact(hH.cell _).trans hu
 have s1:Hid (news.length=(n - (k+1))*1):=hnl
 have s2:Hid (∀ u∈news,u.oneCell'=true):=by
  intro u hu
  rw[← hnews]at hu
  obtain⟨x,_,hx⟩:=List.mem_flatMap.1 hu
  exact Flat.one x u hx
 have s3:Hid (∀ t,t<news.length→(w.drew.cell? ⟨g,0+k*1+t,none⟩).isSome=true∧w.drew.frozen? ⟨g,0+k*1+t,none⟩=false):=by
  intro t ht
  rw[hnl]at ht
  have:=(hH.there (o:=0+k*1) (n:=(n - (k+1))*1) (by omega)) t ht
  exact this
 obtain⟨W1,hW1⟩:∃ W1,W1=w.drew.setCells g (0+k*1) news:=⟨_,rfl⟩
 have hH1:Held W1 g (splice cs (k*1) news) 9:=by rw[hW1,Nat.zero_add];exact Held.setCells news (k*1) hH
 have hL1:(splice cs (k*1) news).length=cs.length:=splice_len (by rw[hnl];omega)
 have hcl:∀ ty q,(Builtin.clear_ #[30] ty #[.slice (some ⟨g,(n - 1)*1,none⟩) 1 q]).run Tryz.prog W1=.ok (.tuple #[]) (W1.setCells g ((n - 1)*1) [.string ⟨#[]⟩]) :=
  fun ty q=>run_clear1 W1 _ _ ty (.string ⟨#[]⟩) [.string ⟨#[]⟩] Tryz.underlying30 (fun w=>by kernel_rfl) rfl rfl g _ q (by have:=hH1.there (o:=(n - 1)*1) (n:=1) (by rw[hL1];omega);exact this)
 have X:Hid (Held (W1.setCells g ((n - 1)*1) [.string ⟨#[]⟩]) g (splice (splice cs (k*1) news) ((n - 1)*1) [.string ⟨#[]⟩]) 9):=Held.setCells _ _ hH1
 have HO:=lH hO
 have hW:Hid (W1=w.drew.setCells g (0+k*1) news):=hW1
 have HWg:=lH (show w.grownBy (W1.setCells g ((n - 1)*1) [.string ⟨#[]⟩]) (some g)from by
  have hb:Below g w (W1.setCells g ((n - 1)*1) [.string ⟨#[]⟩]):=below_setCells (Nat.le_refl g) _ _ (hW1▸below_setCells (Nat.le_refl g) _ _ (Below.refl g w).drew)
  have hu:But g w (W1.setCells g ((n - 1)*1) [.string ⟨#[]⟩]):=But.setCells _ _ (hW1▸But.setCells _ _ ⟨Nat.le_refl _,fun _ _ _=>rfl⟩)
  exact⟨hb.os,hb.tape,hb.output,hb.size,fun q h1 h2=>hu.block q (fun e=>h2 (by rw[e])) h1⟩)
 have hj0:(0:Int)≤(k:Int)+1:=by omega
 have hj1:(k:Int)+1≤(n:Int):=by omega
 have hic:k≤c:=by omega
 have hjc:k+1≤c:=by omega
 have hlc:k+(n - (k+1))=n - 1:=by omega
 have hl1:n - 1≤c:=by omega
 clear hW1 hH1 hL1 hH hcs hnl hnews hd hO h
 simp only[Nat.mul_one]at hA hcl X HWg HO
 go_enter Tryz.func73,Tryz.ntmps73
 go_wp2_with fail
 go_region_law (refine step_append_room rfl (.tmp 22) (.tmp 25) 30 rfl 9 i0 1 Tryz.underlying30 hi0 hz1 g 0 k c (by simp[Act.eval,Act.put]) A (n - (k+1)) (c - (k+1)) news (by simp[Act.eval,Act.put]) s1.out hsrc.out s2.out (by omega) s3.out ?_;rw[← hW.out])
 have hne:¬ c=n - 1:=by omega
 have h1n:n - (n - 1)=1:=by omega
 go_wp2_with (first|((with_reducible refine wp_region_later (by kernel_rfl) (by kernel_rfl) ?_);(repeat(first|go_big_quiet_step (first|fail)|simp only[hne]|simp only[h1n]));refine wpQuiet_nil ?_;rintro _ ⟨x,rfl⟩))
 go_ret
 exact⟨rfl,HO.out _ X.out,HWg.out⟩
set_option maxRecDepth 100000 in
set_option maxHeartbeats 8000000 in
theorem c_iMissionOk{B:Nat}{vs:List Value}{m:TMission}{w:World}(h:Enc.Rd B w vs m)(ht:Enc.tot m≤100000000) :
  Calls Tryz.prog 44 #[.agg vs.toArray] w (Gives w (.bool (missionOk m))):=by
 obtain⟨A,hvs,F⟩:=h
 have M:=lH (mission_small ht)
 have FH:=lH F
 clear F ht
 obtain⟨n0,hn0⟩:∃ n,m.Plan.length=n:=⟨_,rfl⟩
 obtain⟨n20,hn20⟩:∃ n,m.Offered.length=n:=⟨_,rfl⟩
 obtain⟨n21,hn21⟩:∃ n,m.Took.length=n:=⟨_,rfl⟩
 rw[hn0,hn20,hn21]at hvs
 have hm0:n0≤100000000:=hn0▸M.out.m0
 have hm20:n20≤100000000:=hn20▸M.out.m20
 have hm21:n21≤100000000:=hn21▸M.out.m21
 have HN0:=lH hn0;have HN20:=lH hn20;have HN21:=lH hn21
 clear hn0 hn20 hn21
 have HB:=lH (Held.new w vs 90 w.heap.size rfl)
 have e0:=HB.out.cellG 0 (.int .i64 m.Time) (by rw[hvs];rfl)
 have e1:=HB.out.cellG 1 (.int .i64 m.Light) (by rw[hvs];rfl)
 have e7:=HB.out.cellG 7 (.slice A.a0 n0 A.c0) (by rw[hvs];rfl)
 have e14:=HB.out.cellG 14 (.slice A.a1 m.Ups.length A.c1) (by rw[hvs];rfl)
 have e15:=HB.out.cellG 15 (.slice A.a2 m.Downs.length A.c2) (by rw[hvs];rfl)
 have e58:=HB.out.cellG 58 (.slice A.a20 n20 A.c20) (by rw[hvs];rfl)
 have e59:=HB.out.cellG 59 (.slice A.a21 n21 A.c21) (by rw[hvs];rfl)
 have e60:=HB.out.cellG 60 (.int .i64 m.Bad) (by rw[hvs];rfl)
 have HVS:=lH hvs;clear hvs
 go_enter Tryz.func44,Tryz.ntmps44
 go_wp2_with (first|((with_reducible refine wp_region_later (by kernel_rfl) (by kernel_rfl) ?_);(repeat(first|go_big_quiet_step (first|fail)));refine wpQuiet_nil ?_;rintro _ ⟨x,rfl⟩))
 refine(c_ibetween).mono ?_
 rintro _ _ ⟨rfl,y1,rfl⟩
 cases g1:inB m.Time 0 1000000
 ·have HF:=lH (show missionOk m=false from missionOk_no1 g1)
  clear g1
  go_wp2_with (first|((with_reducible refine wp_region_later (by kernel_rfl) (by kernel_rfl) ?_);(repeat(first|go_big_quiet_step (first|fail)));refine wpQuiet_nil ?_;rintro _ ⟨x,rfl⟩))
  go_ret
  exact Gives.mk (by rw[HF.out];rfl)
 have T1:=lH g1;clear g1
 go_wp2_with (first|((with_reducible refine wp_region_later (by kernel_rfl) (by kernel_rfl) ?_);(repeat(first|go_big_quiet_step (first|fail)));refine wpQuiet_nil ?_;rintro _ ⟨x,rfl⟩))
 refine(c_ibetween).mono ?_
 rintro _ _ ⟨rfl,y2,rfl⟩
 cases g2:inB m.Light 0 50
 ·have HF:=lH (show missionOk m=false from missionOk_no2 g2)
  clear g2
  go_wp2_with (first|((with_reducible refine wp_region_later (by kernel_rfl) (by kernel_rfl) ?_);(repeat(first|go_big_quiet_step (first|fail)));refine wpQuiet_nil ?_;rintro _ ⟨x,rfl⟩))
  go_ret
  exact Gives.mk (by rw[HF.out];rfl)
 have T2:=lH g2;clear g2
 go_wp2_with (first|((with_reducible refine wp_region_later (by kernel_rfl) (by kernel_rfl) ?_);(repeat(first|go_big_quiet_step (first|fail)));refine wpQuiet_nil ?_;rintro _ ⟨x,rfl⟩))
 refine(c_ibetween).mono ?_
 rintro _ _ ⟨rfl,y3,rfl⟩
 cases g3:inB m.Bad 0 1000000
 ·have HF:=lH (show missionOk m=false from missionOk_no3 g3)
  clear g3
  go_wp2_with (first|((with_reducible refine wp_region_later (by kernel_rfl) (by kernel_rfl) ?_);(repeat(first|go_big_quiet_step (first|fail)));refine wpQuiet_nil ?_;rintro _ ⟨x,rfl⟩))
  go_ret
  exact Gives.mk (by rw[HF.out];rfl)
 have T3:=lH g3;clear g3
 go_wp2_with (first|((with_reducible refine wp_region_later (by kernel_rfl) (by kernel_rfl) ?_);(repeat(first|go_big_quiet_step (first|fail)));refine wpQuiet_nil ?_;rintro _ ⟨x,rfl⟩)|(refine stepLoadW (by first|kernel_rfl|go_simp) _ _ rfl w.heap.size 2 rfl (row:=[.int .i64 m.Drift.Rate,.int .i64 m.Drift.Offset]) (HB.out.to inferInstance) _ Tryz.underlying62 rfl (by kernel_rfl) (by rw[HVS.out];kernel_rfl) ?_)|(refine step_loadw (by first|kernel_rfl|go_simp) _ _ rfl w.heap.size 2 rfl (row:=[.int .i64 m.Drift.Rate,.int .i64 m.Drift.Offset]) (HB.out.to inferInstance) _ Tryz.underlying62 rfl (by kernel_rfl) (by rw[HVS.out];kernel_rfl) ?_)|(refine step_loadp _ _ rfl w.heap.size 2 rfl (row:=[.int .i64 m.Drift.Rate,.int .i64 m.Drift.Offset]) (HB.out.to inferInstance) _ Tryz.underlying62 rfl (by kernel_rfl) (by rw[HVS.out];kernel_rfl) ?_))
 refine(k_iDriftOk (x:=m.Drift)).mono ?_
 rintro _ _ ⟨rfl,y4,rfl⟩
 cases g4:driftOkT m.Drift
 ·have HF:=lH (show missionOk m=false from missionOk_no4 g4)
  clear g4
  go_wp2_with (first|((with_reducible refine wp_region_later (by kernel_rfl) (by kernel_rfl) ?_);(repeat(first|go_big_quiet_step (first|fail)));refine wpQuiet_nil ?_;rintro _ ⟨x,rfl⟩))
  go_ret
  exact Gives.mk (by rw[HF.out];rfl)
 have T4:=lH g4;clear g4
 go_wp2_with (first|((with_reducible refine wp_region_later (by kernel_rfl) (by kernel_rfl) ?_);(repeat(first|go_big_quiet_step (first|fail)));refine wpQuiet_nil ?_;rintro _ ⟨x,rfl⟩)|(refine stepLoadW (by first|kernel_rfl|go_simp) _ _ rfl w.heap.size 4 rfl (row:=[.int .i64 m.Orbit.Period,.int .i64 m.Orbit.Start,.int .i64 m.Orbit.Length]) (HB.out.to inferInstance) _ Tryz.underlying63 rfl (by kernel_rfl) (by rw[HVS.out];kernel_rfl) ?_)|(refine step_loadw (by first|kernel_rfl|go_simp) _ _ rfl w.heap.size 4 rfl (row:=[.int .i64 m.Orbit.Period,.int .i64 m.Orbit.Start,.int .i64 m.Orbit.Length]) (HB.out.to inferInstance) _ Tryz.underlying63 rfl (by kernel_rfl) (by rw[HVS.out];kernel_rfl) ?_)|(refine step_loadp _ _ rfl w.heap.size 4 rfl (row:=[.int .i64 m.Orbit.Period,.int .i64 m.Orbit.Start,.int .i64 m.Orbit.Length]) (HB.out.to inferInstance) _ Tryz.underlying63 rfl (by kernel_rfl) (by rw[HVS.out];kernel_rfl) ?_))
 refine(k_iOrbitOk (x:=m.Orbit)).mono ?_
 rintro _ _ ⟨rfl,y5,rfl⟩
 cases g5:orbitOkT m.Orbit
 ·have HF:=lH (show missionOk m=false from missionOk_no5 g5)
  clear g5
  go_wp2_with (first|((with_reducible refine wp_region_later (by kernel_rfl) (by kernel_rfl) ?_);(repeat(first|go_big_quiet_step (first|fail)));refine wpQuiet_nil ?_;rintro _ ⟨x,rfl⟩))
  go_ret
  exact Gives.mk (by rw[HF.out];rfl)
 have T5:=lH g5;clear g5
 go_wp2_with (first|((with_reducible refine wp_region_later (by kernel_rfl) (by kernel_rfl) ?_);(repeat(first|go_big_quiet_step (first|fail)));refine wpQuiet_nil ?_;rintro _ ⟨x,rfl⟩)|(refine stepLoadW (by first|kernel_rfl|go_simp) _ _ rfl w.heap.size 8 rfl (row:=[.int .i64 m.Up.Seed,.int .i64 m.Up.Burst,.int .i64 m.Up.Loss]) (HB.out.to inferInstance) _ Tryz.underlying65 rfl (by kernel_rfl) (by rw[HVS.out];kernel_rfl) ?_)|(refine step_loadw (by first|kernel_rfl|go_simp) _ _ rfl w.heap.size 8 rfl (row:=[.int .i64 m.Up.Seed,.int .i64 m.Up.Burst,.int .i64 m.Up.Loss]) (HB.out.to inferInstance) _ Tryz.underlying65 rfl (by kernel_rfl) (by rw[HVS.out];kernel_rfl) ?_)|(refine step_loadp _ _ rfl w.heap.size 8 rfl (row:=[.int .i64 m.Up.Seed,.int .i64 m.Up.Burst,.int .i64 m.Up.Loss]) (HB.out.to inferInstance) _ Tryz.underlying65 rfl (by kernel_rfl) (by rw[HVS.out];kernel_rfl) ?_))
 refine(k_iChannelOk (x:=m.Up)).mono ?_
 rintro _ _ ⟨rfl,y6,rfl⟩
 cases g6:channelOk m.Up
 ·have HF:=lH (show missionOk m=false from missionOk_no6 g6)
  clear g6
  go_wp2_with (first|((with_reducible refine wp_region_later (by kernel_rfl) (by kernel_rfl) ?_);(repeat(first|go_big_quiet_step (first|fail)));refine wpQuiet_nil ?_;rintro _ ⟨x,rfl⟩))
  go_ret
  exact Gives.mk (by rw[HF.out];rfl)
 have T6:=lH g6;clear g6
 go_wp2_with (first|((with_reducible refine wp_region_later (by kernel_rfl) (by kernel_rfl) ?_);(repeat(first|go_big_quiet_step (first|fail)));refine wpQuiet_nil ?_;rintro _ ⟨x,rfl⟩)|(refine stepLoadW (by first|kernel_rfl|go_simp) _ _ rfl w.heap.size 11 rfl (row:=[.int .i64 m.Down.Seed,.int .i64 m.Down.Burst,.int .i64 m.Down.Loss]) (HB.out.to inferInstance) _ Tryz.underlying65 rfl (by kernel_rfl) (by rw[HVS.out];kernel_rfl) ?_)|(refine step_loadw (by first|kernel_rfl|go_simp) _ _ rfl w.heap.size 11 rfl (row:=[.int .i64 m.Down.Seed,.int .i64 m.Down.Burst,.int .i64 m.Down.Loss]) (HB.out.to inferInstance) _ Tryz.underlying65 rfl (by kernel_rfl) (by rw[HVS.out];kernel_rfl) ?_)|(refine step_loadp _ _ rfl w.heap.size 11 rfl (row:=[.int .i64 m.Down.Seed,.int .i64 m.Down.Burst,.int .i64 m.Down.Loss]) (HB.out.to inferInstance) _ Tryz.underlying65 rfl (by kernel_rfl) (by rw[HVS.out];kernel_rfl) ?_))
 refine(k_iChannelOk (x:=m.Down)).mono ?_
 rintro _ _ ⟨rfl,y7,rfl⟩
 cases g7:channelOk m.Down
 ·have HF:=lH (show missionOk m=false from missionOk_no7 g7)
  clear g7
  go_wp2_with (first|((with_reducible refine wp_region_later (by kernel_rfl) (by kernel_rfl) ?_);(repeat(first|go_big_quiet_step (first|fail)));refine wpQuiet_nil ?_;rintro _ ⟨x,rfl⟩))
  go_ret
  exact Gives.mk (by rw[HF.out];rfl)
 have T7:=lH g7;clear g7
 by_cases h8:n0≤1500
 rotate_left
 ·have k8:decide (1500<(n0:Int))=true:=by simp;omega
  have k8b:decide ((n0:Int)≤1500)=false:=by simp;omega
  have HF:=lH (show missionOk m=false from missionOk_no8 (by rw[HN0.out];exact k8b))
  clear h8
  go_wp2_with (first|((with_reducible refine wp_region_later (by kernel_rfl) (by kernel_rfl) ?_);(repeat(first|go_big_quiet_step (first|fail)|simp only[k8]|simp only[k8b]));refine wpQuiet_nil ?_;rintro _ ⟨x,rfl⟩))
  go_ret
  exact Gives.mk (by rw[HF.out];rfl)
 have k8:decide (1500<(n0:Int))=false:=by simp;omega
 have k8b:decide ((n0:Int)≤1500)=true:=by simp;omega
 have T8:=lH (show decide ((m.Plan.length:Int)≤1500)=true by rw[HN0.out];exact k8b)
 clear h8
 go_wp2_with (first|((with_reducible refine wp_region_later (by kernel_rfl) (by kernel_rfl) ?_);(repeat(first|go_big_quiet_step (first|fail)|simp only[k8]|simp only[k8b]));refine wpQuiet_nil ?_;rintro _ ⟨x,rfl⟩))
 refine(k_iflightsOkN (l:=m.Ups) FH.out.q1 rfl M.out.m1).mono ?_
 rintro _ _ ⟨rfl,y9,rfl⟩
 cases g9:flightsOk m.Ups
 ·have HF:=lH (show missionOk m=false from missionOk_no9 g9)
  clear g9
  go_wp2_with (first|((with_reducible refine wp_region_later (by kernel_rfl) (by kernel_rfl) ?_);(repeat(first|go_big_quiet_step (first|fail)));refine wpQuiet_nil ?_;rintro _ ⟨x,rfl⟩))
  go_ret
  exact Gives.mk (by rw[HF.out];rfl)
 have T9:=lH g9;clear g9
 go_wp2_with (first|((with_reducible refine wp_region_later (by kernel_rfl) (by kernel_rfl) ?_);(repeat(first|go_big_quiet_step (first|fail)|simp only[k8]|simp only[k8b]));refine wpQuiet_nil ?_;rintro _ ⟨x,rfl⟩))
 refine(k_iflightsOkN (l:=m.Downs) FH.out.q2 rfl M.out.m2).mono ?_
 rintro _ _ ⟨rfl,y10,rfl⟩
 cases g10:flightsOk m.Downs
 ·have HF:=lH (show missionOk m=false from missionOk_no10 g10)
  clear g10
  go_wp2_with (first|((with_reducible refine wp_region_later (by kernel_rfl) (by kernel_rfl) ?_);(repeat(first|go_big_quiet_step (first|fail)));refine wpQuiet_nil ?_;rintro _ ⟨x,rfl⟩))
  go_ret
  exact Gives.mk (by rw[HF.out];rfl)
 have T10:=lH g10;clear g10
 go_wp2_with (first|((with_reducible refine wp_region_later (by kernel_rfl) (by kernel_rfl) ?_);(repeat(first|go_big_quiet_step (first|fail)|simp only[k8]|simp only[k8b]));refine wpQuiet_nil ?_;rintro _ ⟨x,rfl⟩)|(refine stepLoadW (by first|kernel_rfl|go_simp) _ _ rfl w.heap.size 16 rfl (row:=(cGround m.Ground A.a3 A.c3 A.a4 A.c4 A.a5 A.c5 A.a6 A.c6 A.a7 A.c7 A.a8 A.c8)) (HB.out.to inferInstance) _ Tryz.underlying76 rfl (by kernel_rfl) (by rw[HVS.out];kernel_rfl) ?_)|(refine step_loadw (by first|kernel_rfl|go_simp) _ _ rfl w.heap.size 16 rfl (row:=(cGround m.Ground A.a3 A.c3 A.a4 A.c4 A.a5 A.c5 A.a6 A.c6 A.a7 A.c7 A.a8 A.c8)) (HB.out.to inferInstance) _ Tryz.underlying76 rfl (by kernel_rfl) (by rw[HVS.out];kernel_rfl) ?_)|(refine step_loadp _ _ rfl w.heap.size 16 rfl (row:=(cGround m.Ground A.a3 A.c3 A.a4 A.c4 A.a5 A.c5 A.a6 A.c6 A.a7 A.c7 A.a8 A.c8)) (HB.out.to inferInstance) _ Tryz.underlying76 rfl (by kernel_rfl) (by rw[HVS.out];kernel_rfl) ?_))
 refine(k_igroundOk (bd:=m.Ground) FH.out.q3 FH.out.q4 FH.out.q5 FH.out.q6 FH.out.q7 FH.out.q8 FH.out.ok.2.2.2.2.2.2.1 rfl rfl rfl rfl rfl rfl M.out.m3 M.out.m4 M.out.m5 M.out.m6 M.out.m7 M.out.m8 M.out.hxf).mono ?_
 rintro _ _ ⟨rfl,y11,rfl⟩
 cases g11:groundOk m.Ground
 ·have HF:=lH (show missionOk m=false from missionOk_no11 g11)
  clear g11
  go_wp2_with (first|((with_reducible refine wp_region_later (by kernel_rfl) (by kernel_rfl) ?_);(repeat(first|go_big_quiet_step (first|fail)));refine wpQuiet_nil ?_;rintro _ ⟨x,rfl⟩))
  go_ret
  exact Gives.mk (by rw[HF.out];rfl)
 have T11:=lH g11;clear g11
 go_wp2_with (first|((with_reducible refine wp_region_later (by kernel_rfl) (by kernel_rfl) ?_);(repeat(first|go_big_quiet_step (first|fail)|simp only[k8]|simp only[k8b]));refine wpQuiet_nil ?_;rintro _ ⟨x,rfl⟩)|(refine stepLoadW (by first|kernel_rfl|go_simp) _ _ rfl w.heap.size 33 rfl (row:=(cSpace m.Space A.a9 A.c9 A.a10 A.c10 A.a11 A.c11 A.a12 A.c12 A.a13 A.c13 A.a14 A.c14 A.a15 A.c15 A.a16 A.c16 A.a17 A.c17 A.a18 A.c18 A.a19 A.c19)) (HB.out.to inferInstance) _ Tryz.underlying88 rfl (by kernel_rfl) (by rw[HVS.out];kernel_rfl) ?_)|(refine step_loadw (by first|kernel_rfl|go_simp) _ _ rfl w.heap.size 33 rfl (row:=(cSpace m.Space A.a9 A.c9 A.a10 A.c10 A.a11 A.c11 A.a12 A.c12 A.a13 A.c13 A.a14 A.c14 A.a15 A.c15 A.a16 A.c16 A.a17 A.c17 A.a18 A.c18 A.a19 A.c19)) (HB.out.to inferInstance) _ Tryz.underlying88 rfl (by kernel_rfl) (by rw[HVS.out];kernel_rfl) ?_)|(refine step_loadp _ _ rfl w.heap.size 33 rfl (row:=(cSpace m.Space A.a9 A.c9 A.a10 A.c10 A.a11 A.c11 A.a12 A.c12 A.a13 A.c13 A.a14 A.c14 A.a15 A.c15 A.a16 A.c16 A.a17 A.c17 A.a18 A.c18 A.a19 A.c19)) (HB.out.to inferInstance) _ Tryz.underlying88 rfl (by kernel_rfl) (by rw[HVS.out];kernel_rfl) ?_))
 refine(k_ispaceOk (bd:=m.Space) FH.out.q9 FH.out.q10 FH.out.q11 FH.out.q12 FH.out.q13 FH.out.q14 FH.out.q15 FH.out.q16 FH.out.q17 FH.out.q18 FH.out.q19 FH.out.ok.2.2.2.2.2.2.2.1 rfl rfl rfl rfl rfl rfl rfl rfl rfl rfl rfl M.out.m9 M.out.m10 M.out.m11 M.out.m12 M.out.m13 M.out.m14 M.out.m15 M.out.m16 M.out.m17 M.out.m18 M.out.m19 M.out.hzr M.out.hxo M.out.hxs).mono ?_
 rintro _ _ ⟨rfl,y12,rfl⟩
 cases g12:spaceOk m.Space
 ·have HF:=lH (show missionOk m=false from missionOk_no12 g12)
  clear g12
  go_wp2_with (first|((with_reducible refine wp_region_later (by kernel_rfl) (by kernel_rfl) ?_);(repeat(first|go_big_quiet_step (first|fail)));refine wpQuiet_nil ?_;rintro _ ⟨x,rfl⟩))
  go_ret
  exact Gives.mk (by rw[HF.out];rfl)
 have T12:=lH g12;clear g12
 by_cases h13:n20≤5000
 rotate_left
 ·have k13:decide (5000<(n20:Int))=true:=by simp;omega
  have k13b:decide ((n20:Int)≤5000)=false:=by simp;omega
  have HF:=lH (show missionOk m=false from missionOk_no13 (by rw[HN20.out];exact k13b))
  clear h13
  go_wp2_with (first|((with_reducible refine wp_region_later (by kernel_rfl) (by kernel_rfl) ?_);(repeat(first|go_big_quiet_step (first|fail)|simp only[k8]|simp only[k8b]|simp only[k13]|simp only[k13b]));refine wpQuiet_nil ?_;rintro _ ⟨x,rfl⟩))
  go_ret
  exact Gives.mk (by rw[HF.out];rfl)
 have k13:decide (5000<(n20:Int))=false:=by simp;omega
 have k13b:decide ((n20:Int)≤5000)=true:=by simp;omega
 have T13:=lH (show decide ((m.Offered.length:Int)≤5000)=true by rw[HN20.out];exact k13b)
 clear h13
 by_cases h14:n21≤5000
 rotate_left
 ·have k14:decide (5000<(n21:Int))=true:=by simp;omega
  have k14b:decide ((n21:Int)≤5000)=false:=by simp;omega
  have HF:=lH (show missionOk m=false from missionOk_no14 (by rw[HN21.out];exact k14b))
  clear h14
  go_wp2_with (first|((with_reducible refine wp_region_later (by kernel_rfl) (by kernel_rfl) ?_);(repeat(first|go_big_quiet_step (first|fail)|simp only[k8]|simp only[k8b]|simp only[k13]|simp only[k13b]|simp only[k14]|simp only[k14b]));refine wpQuiet_nil ?_;rintro _ ⟨x,rfl⟩))
  go_ret
  exact Gives.mk (by rw[HF.out];rfl)
 have k14:decide (5000<(n21:Int))=false:=by simp;omega
 have k14b:decide ((n21:Int)≤5000)=true:=by simp;omega
 have T14:=lH (show decide ((m.Took.length:Int)≤5000)=true by rw[HN21.out];exact k14b)
 clear h14
 go_wp2_with (first|((with_reducible refine wp_region_later (by kernel_rfl) (by kernel_rfl) ?_);(repeat(first|go_big_quiet_step (first|fail)|simp only[k8]|simp only[k8b]|simp only[k13]|simp only[k13b]|simp only[k14]|simp only[k14b]));refine wpQuiet_nil ?_;rintro _ ⟨x,rfl⟩))
 go_ret
 exact Gives.mk (by rw[missionOk_yes T1.out T2.out T3.out T4.out T5.out T6.out T7.out T8.out T9.out T10.out T11.out T12.out T13.out T14.out];rfl)
set_option maxRecDepth 100000 in
set_option maxHeartbeats 8000000 in
theorem c_sMissionOk{B:Nat}{vs:List Value}{m:TMission}{w:World}(h:Enc.Rd B w vs m)(ht:Enc.tot m≤100000000) :
  Calls Tryz.prog 31 #[.agg vs.toArray] w (Gives w (.bool (missionOk m))):=by
 obtain⟨A,hvs,F⟩:=h
 have M:=lH (mission_small ht)
 have FH:=lH F
 clear F ht
 obtain⟨n0,hn0⟩:∃ n,m.Plan.length=n:=⟨_,rfl⟩
 obtain⟨n20,hn20⟩:∃ n,m.Offered.length=n:=⟨_,rfl⟩
 obtain⟨n21,hn21⟩:∃ n,m.Took.length=n:=⟨_,rfl⟩
 rw[hn0,hn20,hn21]at hvs
 have hm0:n0≤100000000:=hn0▸M.out.m0
 have hm20:n20≤100000000:=hn20▸M.out.m20
 have hm21:n21≤100000000:=hn21▸M.out.m21
 have HN0:=lH hn0;have HN20:=lH hn20;have HN21:=lH hn21
 clear hn0 hn20 hn21
 have HB:=lH (Held.new w vs 90 w.heap.size rfl)
 have e0:=HB.out.cellG 0 (.int .i64 m.Time) (by rw[hvs];rfl)
 have e1:=HB.out.cellG 1 (.int .i64 m.Light) (by rw[hvs];rfl)
 have e7:=HB.out.cellG 7 (.slice A.a0 n0 A.c0) (by rw[hvs];rfl)
 have e14:=HB.out.cellG 14 (.slice A.a1 m.Ups.length A.c1) (by rw[hvs];rfl)
 have e15:=HB.out.cellG 15 (.slice A.a2 m.Downs.length A.c2) (by rw[hvs];rfl)
 have e58:=HB.out.cellG 58 (.slice A.a20 n20 A.c20) (by rw[hvs];rfl)
 have e59:=HB.out.cellG 59 (.slice A.a21 n21 A.c21) (by rw[hvs];rfl)
 have e60:=HB.out.cellG 60 (.int .i64 m.Bad) (by rw[hvs];rfl)
 have HVS:=lH hvs;clear hvs
 go_enter Tryz.func31,Tryz.ntmps31
 dsimp only[List.append]
 go_wp2_with (first|((with_reducible refine wp_region_later (by kernel_rfl) (by kernel_rfl) ?_);(repeat(first|go_big_quiet_step (first|fail)));refine wpQuiet_nil ?_;rintro _ ⟨x,rfl⟩))
 refine(c_sl01In).mono ?_
 rintro _ _ ⟨rfl,y1,rfl⟩
 cases g1:inB m.Time 0 1000000
 ·have HF:=lH (show missionOk m=false from missionOk_no1 g1)
  clear g1
  go_wp2_with (first|((with_reducible refine wp_region_later (by kernel_rfl) (by kernel_rfl) ?_);(repeat(first|go_big_quiet_step (first|fail)));refine wpQuiet_nil ?_;rintro _ ⟨x,rfl⟩))
  go_ret
  exact Gives.mk (by rw[HF.out];rfl)
 have T1:=lH g1;clear g1
 go_wp2_with (first|((with_reducible refine wp_region_later (by kernel_rfl) (by kernel_rfl) ?_);(repeat(first|go_big_quiet_step (first|fail)));refine wpQuiet_nil ?_;rintro _ ⟨x,rfl⟩))
 refine(c_sl01In).mono ?_
 rintro _ _ ⟨rfl,y2,rfl⟩
 cases g2:inB m.Light 0 50
 ·have HF:=lH (show missionOk m=false from missionOk_no2 g2)
  clear g2
  go_wp2_with (first|((with_reducible refine wp_region_later (by kernel_rfl) (by kernel_rfl) ?_);(repeat(first|go_big_quiet_step (first|fail)));refine wpQuiet_nil ?_;rintro _ ⟨x,rfl⟩))
  go_ret
  exact Gives.mk (by rw[HF.out];rfl)
 have T2:=lH g2;clear g2
 go_wp2_with (first|((with_reducible refine wp_region_later (by kernel_rfl) (by kernel_rfl) ?_);(repeat(first|go_big_quiet_step (first|fail)));refine wpQuiet_nil ?_;rintro _ ⟨x,rfl⟩))
 refine(c_sl01In).mono ?_
 rintro _ _ ⟨rfl,y3,rfl⟩
 cases g3:inB m.Bad 0 1000000
 ·have HF:=lH (show missionOk m=false from missionOk_no3 g3)
  clear g3
  go_wp2_with (first|((with_reducible refine wp_region_later (by kernel_rfl) (by kernel_rfl) ?_);(repeat(first|go_big_quiet_step (first|fail)));refine wpQuiet_nil ?_;rintro _ ⟨x,rfl⟩))
  go_ret
  exact Gives.mk (by rw[HF.out];rfl)
 have T3:=lH g3;clear g3
 go_wp2_with (first|((with_reducible refine wp_region_later (by kernel_rfl) (by kernel_rfl) ?_);(repeat(first|go_big_quiet_step (first|fail)));refine wpQuiet_nil ?_;rintro _ ⟨x,rfl⟩)|(refine stepLoadW (by first|kernel_rfl|go_simp) _ _ rfl w.heap.size 2 rfl (row:=[.int .i64 m.Drift.Rate,.int .i64 m.Drift.Offset]) (HB.out.to inferInstance) _ Tryz.underlying62 rfl (by kernel_rfl) (by rw[HVS.out];kernel_rfl) ?_)|(refine step_loadw (by first|kernel_rfl|go_simp) _ _ rfl w.heap.size 2 rfl (row:=[.int .i64 m.Drift.Rate,.int .i64 m.Drift.Offset]) (HB.out.to inferInstance) _ Tryz.underlying62 rfl (by kernel_rfl) (by rw[HVS.out];kernel_rfl) ?_)|(refine step_loadp _ _ rfl w.heap.size 2 rfl (row:=[.int .i64 m.Drift.Rate,.int .i64 m.Drift.Offset]) (HB.out.to inferInstance) _ Tryz.underlying62 rfl (by kernel_rfl) (by rw[HVS.out];kernel_rfl) ?_))
 refine(k_sDriftOk (x:=m.Drift)).mono ?_
 rintro _ _ ⟨rfl,y4,rfl⟩
 cases g4:driftOkT m.Drift
 ·have HF:=lH (show missionOk m=false from missionOk_no4 g4)
  clear g4
  go_wp2_with (first|((with_reducible refine wp_region_later (by kernel_rfl) (by kernel_rfl) ?_);(repeat(first|go_big_quiet_step (first|fail)));refine wpQuiet_nil ?_;rintro _ ⟨x,rfl⟩))
  go_ret
  exact Gives.mk (by rw[HF.out];rfl)
 have T4:=lH g4;clear g4
 go_wp2_with (first|((with_reducible refine wp_region_later (by kernel_rfl) (by kernel_rfl) ?_);(repeat(first|go_big_quiet_step (first|fail)));refine wpQuiet_nil ?_;rintro _ ⟨x,rfl⟩)|(refine stepLoadW (by first|kernel_rfl|go_simp) _ _ rfl w.heap.size 4 rfl (row:=[.int .i64 m.Orbit.Period,.int .i64 m.Orbit.Start,.int .i64 m.Orbit.Length]) (HB.out.to inferInstance) _ Tryz.underlying63 rfl (by kernel_rfl) (by rw[HVS.out];kernel_rfl) ?_)|(refine step_loadw (by first|kernel_rfl|go_simp) _ _ rfl w.heap.size 4 rfl (row:=[.int .i64 m.Orbit.Period,.int .i64 m.Orbit.Start,.int .i64 m.Orbit.Length]) (HB.out.to inferInstance) _ Tryz.underlying63 rfl (by kernel_rfl) (by rw[HVS.out];kernel_rfl) ?_)|(refine step_loadp _ _ rfl w.heap.size 4 rfl (row:=[.int .i64 m.Orbit.Period,.int .i64 m.Orbit.Start,.int .i64 m.Orbit.Length]) (HB.out.to inferInstance) _ Tryz.underlying63 rfl (by kernel_rfl) (by rw[HVS.out];kernel_rfl) ?_))
 refine(k_sOrbitOk (x:=m.Orbit)).mono ?_
 rintro _ _ ⟨rfl,y5,rfl⟩
 cases g5:orbitOkT m.Orbit
 ·have HF:=lH (show missionOk m=false from missionOk_no5 g5)
  clear g5
  go_wp2_with (first|((with_reducible refine wp_region_later (by kernel_rfl) (by kernel_rfl) ?_);(repeat(first|go_big_quiet_step (first|fail)));refine wpQuiet_nil ?_;rintro _ ⟨x,rfl⟩))
  go_ret
  exact Gives.mk (by rw[HF.out];rfl)
 have T5:=lH g5;clear g5
 go_wp2_with (first|((with_reducible refine wp_region_later (by kernel_rfl) (by kernel_rfl) ?_);(repeat(first|go_big_quiet_step (first|fail)));refine wpQuiet_nil ?_;rintro _ ⟨x,rfl⟩)|(refine stepLoadW (by first|kernel_rfl|go_simp) _ _ rfl w.heap.size 8 rfl (row:=[.int .i64 m.Up.Seed,.int .i64 m.Up.Burst,.int .i64 m.Up.Loss]) (HB.out.to inferInstance) _ Tryz.underlying65 rfl (by kernel_rfl) (by rw[HVS.out];kernel_rfl) ?_)|(refine step_loadw (by first|kernel_rfl|go_simp) _ _ rfl w.heap.size 8 rfl (row:=[.int .i64 m.Up.Seed,.int .i64 m.Up.Burst,.int .i64 m.Up.Loss]) (HB.out.to inferInstance) _ Tryz.underlying65 rfl (by kernel_rfl) (by rw[HVS.out];kernel_rfl) ?_)|(refine step_loadp _ _ rfl w.heap.size 8 rfl (row:=[.int .i64 m.Up.Seed,.int .i64 m.Up.Burst,.int .i64 m.Up.Loss]) (HB.out.to inferInstance) _ Tryz.underlying65 rfl (by kernel_rfl) (by rw[HVS.out];kernel_rfl) ?_))
 refine(k_sChannelOk (x:=m.Up)).mono ?_
 rintro _ _ ⟨rfl,y6,rfl⟩
 cases g6:channelOk m.Up
 ·have HF:=lH (show missionOk m=false from missionOk_no6 g6)
  clear g6
  go_wp2_with (first|((with_reducible refine wp_region_later (by kernel_rfl) (by kernel_rfl) ?_);(repeat(first|go_big_quiet_step (first|fail)));refine wpQuiet_nil ?_;rintro _ ⟨x,rfl⟩))
  go_ret
  exact Gives.mk (by rw[HF.out];rfl)
 have T6:=lH g6;clear g6
 go_wp2_with (first|((with_reducible refine wp_region_later (by kernel_rfl) (by kernel_rfl) ?_);(repeat(first|go_big_quiet_step (first|fail)));refine wpQuiet_nil ?_;rintro _ ⟨x,rfl⟩)|(refine stepLoadW (by first|kernel_rfl|go_simp) _ _ rfl w.heap.size 11 rfl (row:=[.int .i64 m.Down.Seed,.int .i64 m.Down.Burst,.int .i64 m.Down.Loss]) (HB.out.to inferInstance) _ Tryz.underlying65 rfl (by kernel_rfl) (by rw[HVS.out];kernel_rfl) ?_)|(refine step_loadw (by first|kernel_rfl|go_simp) _ _ rfl w.heap.size 11 rfl (row:=[.int .i64 m.Down.Seed,.int .i64 m.Down.Burst,.int .i64 m.Down.Loss]) (HB.out.to inferInstance) _ Tryz.underlying65 rfl (by kernel_rfl) (by rw[HVS.out];kernel_rfl) ?_)|(refine step_loadp _ _ rfl w.heap.size 11 rfl (row:=[.int .i64 m.Down.Seed,.int .i64 m.Down.Burst,.int .i64 m.Down.Loss]) (HB.out.to inferInstance) _ Tryz.underlying65 rfl (by kernel_rfl) (by rw[HVS.out];kernel_rfl) ?_))
 refine(k_sChannelOk (x:=m.Down)).mono ?_
 rintro _ _ ⟨rfl,y7,rfl⟩
 cases g7:channelOk m.Down
 ·have HF:=lH (show missionOk m=false from missionOk_no7 g7)
  clear g7
  go_wp2_with (first|((with_reducible refine wp_region_later (by kernel_rfl) (by kernel_rfl) ?_);(repeat(first|go_big_quiet_step (first|fail)));refine wpQuiet_nil ?_;rintro _ ⟨x,rfl⟩))
  go_ret
  exact Gives.mk (by rw[HF.out];rfl)
 have T7:=lH g7;clear g7
 by_cases h8:n0≤1500
 rotate_left
 ·have k8:decide (1500<(n0:Int))=true:=by simp;omega
  have k8b:decide ((n0:Int)≤1500)=false:=by simp;omega
  have HF:=lH (show missionOk m=false from missionOk_no8 (by rw[HN0.out];exact k8b))
  clear h8
  go_wp2_with (first|((with_reducible refine wp_region_later (by kernel_rfl) (by kernel_rfl) ?_);(repeat(first|go_big_quiet_step (first|fail)|simp only[k8]|simp only[k8b]));refine wpQuiet_nil ?_;rintro _ ⟨x,rfl⟩))
  go_ret
  exact Gives.mk (by rw[HF.out];rfl)
 have k8:decide (1500<(n0:Int))=false:=by simp;omega
 have k8b:decide ((n0:Int)≤1500)=true:=by simp;omega
 have T8:=lH (show decide ((m.Plan.length:Int)≤1500)=true by rw[HN0.out];exact k8b)
 clear h8
 go_wp2_with (first|((with_reducible refine wp_region_later (by kernel_rfl) (by kernel_rfl) ?_);(repeat(first|go_big_quiet_step (first|fail)|simp only[k8]|simp only[k8b]));refine wpQuiet_nil ?_;rintro _ ⟨x,rfl⟩))
 refine(k_sflightsOkN (l:=m.Ups) FH.out.q1 rfl M.out.m1).mono ?_
 rintro _ _ ⟨rfl,y9,rfl⟩
 cases g9:flightsOk m.Ups
 ·have HF:=lH (show missionOk m=false from missionOk_no9 g9)
  clear g9
  go_wp2_with (first|((with_reducible refine wp_region_later (by kernel_rfl) (by kernel_rfl) ?_);(repeat(first|go_big_quiet_step (first|fail)));refine wpQuiet_nil ?_;rintro _ ⟨x,rfl⟩))
  go_ret
  exact Gives.mk (by rw[HF.out];rfl)
 have T9:=lH g9;clear g9
 go_wp2_with (first|((with_reducible refine wp_region_later (by kernel_rfl) (by kernel_rfl) ?_);(repeat(first|go_big_quiet_step (first|fail)|simp only[k8]|simp only[k8b]));refine wpQuiet_nil ?_;rintro _ ⟨x,rfl⟩))
 refine(k_sflightsOkN (l:=m.Downs) FH.out.q2 rfl M.out.m2).mono ?_
 rintro _ _ ⟨rfl,y10,rfl⟩
 cases g10:flightsOk m.Downs
 ·have HF:=lH (show missionOk m=false from missionOk_no10 g10)
  clear g10
  go_wp2_with (first|((with_reducible refine wp_region_later (by kernel_rfl) (by kernel_rfl) ?_);(repeat(first|go_big_quiet_step (first|fail)));refine wpQuiet_nil ?_;rintro _ ⟨x,rfl⟩))
  go_ret
  exact Gives.mk (by rw[HF.out];rfl)
 have T10:=lH g10;clear g10
 go_wp2_with (first|((with_reducible refine wp_region_later (by kernel_rfl) (by kernel_rfl) ?_);(repeat(first|go_big_quiet_step (first|fail)|simp only[k8]|simp only[k8b]));refine wpQuiet_nil ?_;rintro _ ⟨x,rfl⟩)|(refine stepLoadW (by first|kernel_rfl|go_simp) _ _ rfl w.heap.size 16 rfl (row:=(cGround m.Ground A.a3 A.c3 A.a4 A.c4 A.a5 A.c5 A.a6 A.c6 A.a7 A.c7 A.a8 A.c8)) (HB.out.to inferInstance) _ Tryz.underlying76 rfl (by kernel_rfl) (by rw[HVS.out];kernel_rfl) ?_)|(refine step_loadw (by first|kernel_rfl|go_simp) _ _ rfl w.heap.size 16 rfl (row:=(cGround m.Ground A.a3 A.c3 A.a4 A.c4 A.a5 A.c5 A.a6 A.c6 A.a7 A.c7 A.a8 A.c8)) (HB.out.to inferInstance) _ Tryz.underlying76 rfl (by kernel_rfl) (by rw[HVS.out];kernel_rfl) ?_)|(refine step_loadp _ _ rfl w.heap.size 16 rfl (row:=(cGround m.Ground A.a3 A.c3 A.a4 A.c4 A.a5 A.c5 A.a6 A.c6 A.a7 A.c7 A.a8 A.c8)) (HB.out.to inferInstance) _ Tryz.underlying76 rfl (by kernel_rfl) (by rw[HVS.out];kernel_rfl) ?_))
 refine(k_sgroundOk (bd:=m.Ground) FH.out.q3 FH.out.q4 FH.out.q5 FH.out.q6 FH.out.q7 FH.out.q8 FH.out.ok.2.2.2.2.2.2.1 rfl rfl rfl rfl rfl rfl M.out.m3 M.out.m4 M.out.m5 M.out.m6 M.out.m7 M.out.m8 M.out.hxf).mono ?_
 rintro _ _ ⟨rfl,y11,rfl⟩
 cases g11:groundOk m.Ground
 ·have HF:=lH (show missionOk m=false from missionOk_no11 g11)
  clear g11
  go_wp2_with (first|((with_reducible refine wp_region_later (by kernel_rfl) (by kernel_rfl) ?_);(repeat(first|go_big_quiet_step (first|fail)));refine wpQuiet_nil ?_;rintro _ ⟨x,rfl⟩))
  go_ret
  exact Gives.mk (by rw[HF.out];rfl)
 have T11:=lH g11;clear g11
 go_wp2_with (first|((with_reducible refine wp_region_later (by kernel_rfl) (by kernel_rfl) ?_);(repeat(first|go_big_quiet_step (first|fail)|simp only[k8]|simp only[k8b]));refine wpQuiet_nil ?_;rintro _ ⟨x,rfl⟩)|(refine stepLoadW (by first|kernel_rfl|go_simp) _ _ rfl w.heap.size 33 rfl (row:=(cSpace m.Space A.a9 A.c9 A.a10 A.c10 A.a11 A.c11 A.a12 A.c12 A.a13 A.c13 A.a14 A.c14 A.a15 A.c15 A.a16 A.c16 A.a17 A.c17 A.a18 A.c18 A.a19 A.c19)) (HB.out.to inferInstance) _ Tryz.underlying88 rfl (by kernel_rfl) (by rw[HVS.out];kernel_rfl) ?_)|(refine step_loadw (by first|kernel_rfl|go_simp) _ _ rfl w.heap.size 33 rfl (row:=(cSpace m.Space A.a9 A.c9 A.a10 A.c10 A.a11 A.c11 A.a12 A.c12 A.a13 A.c13 A.a14 A.c14 A.a15 A.c15 A.a16 A.c16 A.a17 A.c17 A.a18 A.c18 A.a19 A.c19)) (HB.out.to inferInstance) _ Tryz.underlying88 rfl (by kernel_rfl) (by rw[HVS.out];kernel_rfl) ?_)|(refine step_loadp _ _ rfl w.heap.size 33 rfl (row:=(cSpace m.Space A.a9 A.c9 A.a10 A.c10 A.a11 A.c11 A.a12 A.c12 A.a13 A.c13 A.a14 A.c14 A.a15 A.c15 A.a16 A.c16 A.a17 A.c17 A.a18 A.c18 A.a19 A.c19)) (HB.out.to inferInstance) _ Tryz.underlying88 rfl (by kernel_rfl) (by rw[HVS.out];kernel_rfl) ?_))
 refine(k_sspaceOk (bd:=m.Space) FH.out.q9 FH.out.q10 FH.out.q11 FH.out.q12 FH.out.q13 FH.out.q14 FH.out.q15 FH.out.q16 FH.out.q17 FH.out.q18 FH.out.q19 FH.out.ok.2.2.2.2.2.2.2.1 rfl rfl rfl rfl rfl rfl rfl rfl rfl rfl rfl M.out.m9 M.out.m10 M.out.m11 M.out.m12 M.out.m13 M.out.m14 M.out.m15 M.out.m16 M.out.m17 M.out.m18 M.out.m19 M.out.hzr M.out.hxo M.out.hxs).mono ?_
 rintro _ _ ⟨rfl,y12,rfl⟩
 cases g12:spaceOk m.Space
 ·have HF:=lH (show missionOk m=false from missionOk_no12 g12)
  clear g12
  go_wp2_with (first|((with_reducible refine wp_region_later (by kernel_rfl) (by kernel_rfl) ?_);(repeat(first|go_big_quiet_step (first|fail)));refine wpQuiet_nil ?_;rintro _ ⟨x,rfl⟩))
  go_ret
  exact Gives.mk (by rw[HF.out];rfl)
 have T12:=lH g12;clear g12
 by_cases h13:n20≤5000
 rotate_left
 ·have k13:decide (5000<(n20:Int))=true:=by simp;omega
  have k13b:decide ((n20:Int)≤5000)=false:=by simp;omega
  have HF:=lH (show missionOk m=false from missionOk_no13 (by rw[HN20.out];exact k13b))
  clear h13
  go_wp2_with (first|((with_reducible refine wp_region_later (by kernel_rfl) (by kernel_rfl) ?_);(repeat(first|go_big_quiet_step (first|fail)|simp only[k8]|simp only[k8b]|simp only[k13]|simp only[k13b]));refine wpQuiet_nil ?_;rintro _ ⟨x,rfl⟩))
  go_ret
  exact Gives.mk (by rw[HF.out];rfl)
 have k13:decide (5000<(n20:Int))=false:=by simp;omega
 have k13b:decide ((n20:Int)≤5000)=true:=by simp;omega
 have T13:=lH (show decide ((m.Offered.length:Int)≤5000)=true by rw[HN20.out];exact k13b)
 clear h13
 by_cases h14:n21≤5000
 rotate_left
 ·have k14:decide (5000<(n21:Int))=true:=by simp;omega
  have k14b:decide ((n21:Int)≤5000)=false:=by simp;omega
  have HF:=lH (show missionOk m=false from missionOk_no14 (by rw[HN21.out];exact k14b))
  clear h14
  go_wp2_with (first|((with_reducible refine wp_region_later (by kernel_rfl) (by kernel_rfl) ?_);(repeat(first|go_big_quiet_step (first|fail)|simp only[k8]|simp only[k8b]|simp only[k13]|simp only[k13b]|simp only[k14]|simp only[k14b]));refine wpQuiet_nil ?_;rintro _ ⟨x,rfl⟩))
  go_ret
  exact Gives.mk (by rw[HF.out];rfl)
 have k14:decide (5000<(n21:Int))=false:=by simp;omega
 have k14b:decide ((n21:Int)≤5000)=true:=by simp;omega
 have T14:=lH (show decide ((m.Took.length:Int)≤5000)=true by rw[HN21.out];exact k14b)
 clear h14
 go_wp2_with (first|((with_reducible refine wp_region_later (by kernel_rfl) (by kernel_rfl) ?_);(repeat(first|go_big_quiet_step (first|fail)|simp only[k8]|simp only[k8b]|simp only[k13]|simp only[k13b]|simp only[k14]|simp only[k14b]));refine wpQuiet_nil ?_;rintro _ ⟨x,rfl⟩))
 go_ret
 exact Gives.mk (by rw[missionOk_yes T1.out T2.out T3.out T4.out T5.out T6.out T7.out T8.out T9.out T10.out T11.out T12.out T13.out T14.out];rfl)
noncomputable def ledgerOk(m:TMission):Bool:=missionOk m && (commandsOnce m && (ordersOnce m && (recordsOnce m && (filesTrue m && timesTrue m))))
theorem c_sNewUnpacker{k:Int}{w:World}:Calls Tryz.prog 293 #[.int .i64 k] w (Gives w (.agg #[.int .i64 k,.int .i64 (-1),.bool false,.string ⟨#[]⟩,.int .i64 0])):=by
 go_enter Tryz.func293,Tryz.ntmps293
 go_wp2_with (first|((with_reducible refine wp_region_later (by kernel_rfl) (by kernel_rfl) ?_);(repeat(first|go_big_quiet_step (first|fail)));refine wpQuiet_nil ?_;rintro _ ⟨x,rfl⟩))
 refine bodyPost_ret (v:=.agg #[.int .i64 k,.int .i64 (-1),.bool false,.string ⟨#[]⟩,.int .i64 0]) ?_ rfl ⟨rfl,Later.of⟩
 simp[results,Tryz.results293,go_sem]
theorem c_sNewFileInK{k:Int}{w:World}:Calls Tryz.prog 294 #[.int .i64 k] w fun e w'=>∃ a,e=.returned (.agg #[.int .i64 k,.int .i64 (-1),.int .i64 (-1),.slice a 25 25])∧Own encStr 9 1 w.heap.size w' a 25 (List.replicate 25 ⟨#[]⟩)∧∃ x:Later w,w'=x.w:=by
 have hmk:∀ w:World,(Instr.makeSlice 30 (.int .i64 25) (.int .i64 25)).run Tryz.prog w=.ok (.slice (some ⟨w.heap.size,0,none⟩) 25 25) (w.alloc (.cells (Array.replicate 25 (.string ⟨#[]⟩)) 9)):=fun w=>by kernel_rfl
 go_enter Tryz.func294,Tryz.ntmps294
 go_wp2_with (first|((with_reducible refine wp_region_later (by kernel_rfl) (by kernel_rfl) ?_);(repeat(first|go_big_quiet_step (first|fail)));refine wpQuiet_nil ?_;rintro _ ⟨x,rfl⟩))
 refine bodyPost_ret (v:=.agg #[.int .i64 k,.int .i64 (-1),.int .i64 (-1),.slice (some ⟨w.heap.size+1,0,none⟩) 25 25]) ?_ rfl ⟨some ⟨w.heap.size+1,0,none⟩,rfl,?_,?_⟩
 ·simp[results,Tryz.results294,go_sem]
 ·have:=own_block (enc:=encStr) (T:=9) (size:=1) (n:=25) (B:=w.heap.size) (W:=w.alloc (.cells #[.int .i64 k,.int .i64 (-1),.int .i64 (-1),.slice (some ⟨w.heap.size+1,0,none⟩) 25 25] 172)) (D:=Array.replicate 25 (.string ⟨#[]⟩)) (l:=List.replicate 25 ⟨#[]⟩) encStr_len (by simp) (by omega) (by simp) (by simp) (by kernel_rfl) (Later.here _)
  simp only[World.size_alloc]at this
  exact this
 ·exact Later.of
theorem c_sNewSender5{w:World}:Calls Tryz.prog 292 #[.int .i64 5] w (Gives w (.tuple #[.agg #[.int .i64 0,.int .i64 5,.slice none 0 0,.int .i64 0],.bool true])):=by
 go_enter Tryz.func292,Tryz.ntmps292
 go_wp2_with (first|((with_reducible refine wp_region_later (by kernel_rfl) (by kernel_rfl) ?_);(repeat(first|go_big_quiet_step (first|fail)));refine wpQuiet_nil ?_;rintro _ ⟨x,rfl⟩))
 refine(k_sSenderOk (B:=0) (a:=none) (c:=0) (sd:=⟨0,5,[],0⟩) RdS.nil (by simp) (by simp[okDTSender,i64])).mono ?_
 rintro _ _ ⟨rfl,y,rfl⟩
 have hk:senderOk ⟨0,5,[],0⟩=true:=by decide
 go_wp2_with (first|((with_reducible refine wp_region_later (by kernel_rfl) (by kernel_rfl) ?_);(repeat(first|go_big_quiet_step (first|fail)|simp only[hk]));refine wpQuiet_nil ?_;rintro _ ⟨x,rfl⟩))
 refine bodyPost_ret (v:=.tuple #[.agg #[.int .i64 0,.int .i64 5,.slice none 0 0,.int .i64 0],.bool true]) ?_ rfl ⟨rfl,Later.of⟩
 simp[results,Tryz.results292,go_sem]
def newBoard(room:Int)(L:List TLimit):TBoard:=⟨0,List.replicate 8 0,false,L,[],[],⟨room,[],[]⟩,0,0,[]⟩
abbrev nbC(clock room:Int)(pa la:Option Addr)(n lc:Nat):List Value:=[.int .i64 clock,.slice pa 8 8,.bool false,.slice la n lc,.slice none 0 0,.slice none 0 0,.int .i64 room,.slice none 0 0,.slice none 0 0,.int .i64 0,.int .i64 0,.slice none 0 0]
abbrev nbZ:List Value:=[.int .i64 0,.slice none 0 0,.bool false,.slice none 0 0,.slice none 0 0,.slice none 0 0,.int .i64 0,.slice none 0 0,.slice none 0 0,.int .i64 0,.int .i64 0,.slice none 0 0]
def nbOf(room:Int)(n:Nat):List Value→Value
 | [.slice pa _ _,.slice la _ lc]=>.agg (nbC 0 room pa la n lc).toArray
 | _=>undef
def GivesNB(w:World)(room:Int)(L:List TLimit):Ending→World→Prop:=fun e w' =>
 ∃ (pa la:Option Addr) (lc:Nat),e=.returned (.tuple #[.agg (if boardOk (newBoard room L)then nbC 0 room pa la L.length lc else nbZ).toArray,.bool (boardOk (newBoard room L))])∧Own encInt 3 1 w.heap.size w' pa 8 (List.replicate 8 0)∧Own encTLimit 288 3 w.heap.size w' la lc L∧∃ x:Later w,w'=x.w
theorem rd_limits{B:Nat}{w:World}{a:Option Addr}{c:Nat}{L:List TLimit}(h:Own encTLimit 288 3 B w a c L)(hL:∀ x∈L,okDTLimit x):RdS B w a c L:=h.rdS rfl (fun x hx=>⟨rfl,hL x hx⟩)
theorem rd_ints{B:Nat}{w:World}{a:Option Addr}{c:Nat}{L:List Int}(h:Own encInt 3 1 B w a c L)(hL:∀ x∈L,i64 x):RdS B w a c L:=h.rdS rfl (fun x hx=>⟨rfl,hL x hx⟩)
set_option maxRecDepth 100000 in
set_option maxHeartbeats 4000000 in
theorem c_sNewBoard{room:Int}{a:Option Addr}{n c:Nat}{L:List TLimit}{w:World}(hs:Sl encTLimit w a L)(hnil:a=none→c=0)(hn:L.length=n)(hm:n≤1048576)(hL:∀ x∈L,okDTLimit x)(hr:i64 room) :
  Calls Tryz.prog 291 #[.int .i64 room,.slice a n c] w (GivesNB w room L):=by
 have HLo:=lH hL;have HRo:=lH hr;have HN:=lH hnil;clear hL hr
 have HPo:=lH (show ∀ x∈List.replicate 8 (0:Int),i64 x from fun x hx=>by rw[List.eq_of_mem_replicate hx];unfold i64;omega)
 have HOK:=lH (show okDTBoard (newBoard room L)from⟨by unfold i64 newBoard;simp,⟨HRo.out,trivial⟩,by unfold i64 newBoard;simp,by unfold i64 newBoard;simp,trivial⟩)
 have HR:=lH (Held.new w nbZ 84 w.heap.size rfl)
 go_enter Tryz.func291,Tryz.ntmps291
 go_wp2_with (first|((with_reducible refine wp_region_later (by kernel_rfl) (by kernel_rfl) ?_);(repeat(first|go_big_quiet_step (first|fail)));refine wpQuiet_nil ?_;rintro _ ⟨x,rfl⟩))
 refine wp_region_stabW (by kernel_rfl) (T:=[8]) (H:=[(0,[]),(1,[]),(3,[1]),(6,[0,1,3]),(7,[])]) (C:=[0,1,3,7]) (Fs:=[(some 7,.sl w.heap.size 8 (List.replicate 8 (.int .i64 0)) 3),(some 8,.sl w.heap.size 0 [] 288),(some 9,.v (.slice a n c)),(some 10,.of (fun v w'=>∃ a1 c1,v=.slice a1 n c1∧Own encTLimit 288 3 w.heap.size w' a1 c1 L) (fun _ _ _ g ⟨a1,c1,e,h⟩=>⟨a1,c1,e,h.to ⟨g⟩⟩)),(some 11,.v (.int .i64 room)),(some 12,.v (.agg #[.int .i64 room,.slice none 0 0,.slice none 0 0])),(some 13,.fn [0,3] (nbOf room n)),(some 6,.box (w.heap.size+1) nbZ 84),(none,.v undef)]) (by kernel_rfl) (fun val W=>by kernel_rfl) ?ob ?tail
 case ob =>
  refine⟨fun x=>?_,fun x=>?_,fun x=>?_,fun x=>?_,fun x=>?_,trivial⟩
  ·exact g_sl rfl (by kernel_rfl) LeN.out
  ·exact g_sl rfl (by kernel_rfl) LeN.out
  ·rintro _ ⟨b,rfl,h1,h2⟩
   exact g_appE (bytes:=24) (z:=.agg #[.int .i64 0,.int .i64 0,.int .i64 0]) (by kernel_rfl) Tryz.underlying78 (by kernel_rfl) rfl (by decide) (by decide) hn encTLimit_len (by apply Sl.to<;>first|assumption|infer_instance) hnil encTLimit_one (by omega) h2 h1 LeN.out
    (fun a' c' y ho=>⟨⟨y,rfl⟩,a',c',rfl,ho⟩)
  ·rintro _ ⟨b,rfl,h1,h2⟩ _ - _ ⟨a1,c1,rfl,h3⟩
   exact g_fn rfl (by kernel_rfl)
  ·exact g_box rfl (by kernel_rfl) (by have:=x.size_le;simpa using this)
 case tail =>
  rintro x _ ⟨b,rfl,hb,HP0⟩ _ ⟨b8,rfl,-,-⟩ _ ⟨a1,c1,rfl,HL0⟩ _ ⟨b2,rfl,hb2,HB0⟩
  have HR0:=HR.out.to (inferInstance:Grows _ x.w)
  have HP1:=lH (Own.ofBlk (l:=List.replicate 8 (0:Int)) (B:=w.heap.size) encInt_len rfl (by simp) hb (by rfl) (by kernel_rfl) HP0)
  have HL1:=lH HL0;have HB1:=lH HB0;clear HL0 HB0 HP0
  apply tail1
  ·rfl
  simp only[put_nrm,put_nrm2]
  (try simp only[nrm])
  simp only[List.map,if_true,if_false,Nat.reduceEqDiff,reduceIte]
  go_wp2_with (first|((with_reducible refine wp_region_later (by kernel_rfl) (by kernel_rfl) ?_);(repeat(first|go_big_quiet_step (first|fail)));refine wpQuiet_nil ?_;rintro _ ⟨x,rfl⟩)|(refine stepStore2 rfl _ _ _ rfl b2 0 rfl (us:=(nbC 0 room (some ⟨b,0,none⟩) a1 n c1)) (cs2:=(nbC 0 room (some ⟨b,0,none⟩) a1 n c1)) HB1.out rfl (by kernel_rfl) (by kernel_rfl) (by simp) (by kernel_rfl) (w0:=w.alloc (.cells nbZ.toArray 84)) inferInstance (by simpa using hb2) ?_;intro y0 HB HBt;(have HB:=lH HB);have hgr:=HBt.grown1 inferInstance;(have HP:=lH (HP1.out.at HB1.out (by decide) hgr));(have HL:=lH (HL1.out.at HB1.out (by decide) hgr));(have HR1:=lH (HR0.at hgr (by omega)));clear HP1 HL1 HBt hgr)|(refine stepLoad rfl _ _ rfl b2 0 rfl (HB.out.to (inferInstance:Grows _ y0.w)) (row:=nbC 0 room (some ⟨b,0,none⟩) a1 n c1) _ Tryz.underlying84 rfl (by kernel_rfl) rfl ?_))
  refine(k_sBoardOk (B:=w.heap.size) (bd:=newBoard room L) (w0:=y0.w) (g:=Keeps.same _ _) (rd_ints HP.out HPo.out) (rd_limits HL.out HLo.out) RdS.nil RdS.nil RdS.nil RdS.nil RdS.nil HOK.out rfl hn rfl rfl rfl rfl rfl (by show 8≤100000000;omega) (by omega) (Nat.zero_le _) (Nat.zero_le _) (Nat.zero_le _) (Nat.zero_le _) (Nat.zero_le _)).mono ?_
  rintro _ _ ⟨rfl,y,rfl⟩
  cases q:boardOk (newBoard room L)
  ·go_wp2_with (first|((with_reducible refine wp_region_later (by kernel_rfl) (by kernel_rfl) ?_);(repeat(first|go_big_quiet_step (first|fail)|simp only[q]));refine wpQuiet_nil ?_;rintro _ ⟨x,rfl⟩)|(refine stepStore2 rfl _ _ _ rfl w.heap.size 0 rfl (us:=nbZ) (cs2:=nbZ) (HR1.out.to (inferInstance:Grows _ y.w)) rfl (by kernel_rfl) (by kernel_rfl) (by simp) (by kernel_rfl) (w0:=w) inferInstance (by simp) ?_;intro z HZ HBut))
   have hgr:=HBut.grown1 inferInstance
   refine bodyPost_ret (v:=.tuple #[.agg nbZ.toArray,.bool false]) (results_cell2 (P:=Tryz.prog) rfl rfl HZ _ Tryz.underlying84 rfl (by kernel_rfl) rfl) rfl ⟨some ⟨b,0,none⟩,a1,c1,by rw[q];rfl,?_,?_,Later.of⟩
   ·exact(HP.out.to (inferInstance:Grows _ y.w)).at (HR1.out.to (inferInstance:Grows _ y.w)) (by decide) hgr
   ·exact(HL.out.to (inferInstance:Grows _ y.w)).at (HR1.out.to (inferInstance:Grows _ y.w)) (by decide) hgr
  ·go_wp2_with (first|((with_reducible refine wp_region_later (by kernel_rfl) (by kernel_rfl) ?_);(repeat(first|go_big_quiet_step (first|fail)|simp only[q]));refine wpQuiet_nil ?_;rintro _ ⟨x,rfl⟩)|(first|(refine stepLoad rfl _ _ rfl b2 0 rfl (HB.out.to (inferInstance:Grows _ y.w)) (row:=nbC 0 room (some ⟨b,0,none⟩) a1 n c1) _ Tryz.underlying84 rfl (by kernel_rfl) rfl ?_)|(refine stepStore2 rfl _ _ _ rfl w.heap.size 0 rfl (us:=(nbC 0 room (some ⟨b,0,none⟩) a1 n c1)) (cs2:=(nbC 0 room (some ⟨b,0,none⟩) a1 n c1)) (HR1.out.to (inferInstance:Grows _ y.w)) rfl (by kernel_rfl) (by kernel_rfl) (by simp) (by kernel_rfl) (w0:=w) inferInstance (by simp) ?_;intro z HZ HBut)))
   have hgr:=HBut.grown1 inferInstance
   refine bodyPost_ret (v:=.tuple #[.agg (nbC 0 room (some ⟨b,0,none⟩) a1 n c1).toArray,.bool true]) (results_cell2 (P:=Tryz.prog) rfl rfl HZ _ Tryz.underlying84 rfl (by kernel_rfl) rfl) rfl ⟨some ⟨b,0,none⟩,a1,c1,by rw[q,hn];rfl,?_,?_,Later.of⟩
   ·exact(HP.out.to (inferInstance:Grows _ y.w)).at (HR1.out.to (inferInstance:Grows _ y.w)) (by decide) hgr
   ·exact(HL.out.to (inferInstance:Grows _ y.w)).at (HR1.out.to (inferInstance:Grows _ y.w)) (by decide) hgr
theorem c_sl01BelowB{w:World}{p:Nat}{a:Option Addr}{n c:Nat}{l:List Int}{i:Nat}{m:Int}(hc:IsCur w p a n c l i)(h1:256<m)(h2:m≤65536) :
  Calls Tryz.prog 80 #[.pointer (some ⟨p,0,none⟩),.int .i64 m] w (Draws w p a n c l (fun x=>0≤x∧x<m)):=by
 go_enter Tryz.func80,Tryz.ntmps80
 go_wp2_with (first|((with_reducible refine wp_region_later (by kernel_rfl) (by kernel_rfl) ?_);(repeat(first|go_big_quiet_step (first|fail)));refine wpQuiet_nil ?_;rintro _ ⟨x,rfl⟩))
 refine(c_sl01Byte hc).mono ?_
 rintro _ w1 ⟨x,rfl,hx,hg1,i1,hc1⟩
 go_wp2_with (first|((with_reducible refine wp_region_later (by kernel_rfl) (by kernel_rfl) ?_);(repeat(first|go_big_quiet_step (first|fail)));refine wpQuiet_nil ?_;rintro _ ⟨x,rfl⟩))
 refine(c_sl01Byte hc1).mono ?_
 rintro _ w2 ⟨y,rfl,hy,hg2,i2,hc2⟩
 go_wp2_with (first|((with_reducible refine wp_region_later (by kernel_rfl) (by kernel_rfl) ?_);(repeat(first|go_big_quiet_step (first|fail)));refine wpQuiet_nil ?_;rintro _ ⟨x,rfl⟩))
 refine(c_sl01Byte hc2).mono ?_
 rintro _ w3 ⟨z,rfl,hz,hg3,i3,hc3⟩
 go_wp2_with (first|((with_reducible refine wp_region_later (by kernel_rfl) (by kernel_rfl) ?_);(repeat(first|go_big_quiet_step (first|fail)));refine wpQuiet_nil ?_;rintro _ ⟨x,rfl⟩))
 refine(c_sl01Byte hc3).mono ?_
 rintro _ w4 ⟨u,rfl,hu,hg4,i4,hc4⟩
 unfold isByte at hx hy hz hu
 have hG:=lH (grownBy_trans (grownBy_trans (grownBy_trans hg1 hg2) hg3) hg4)
 have hC:=lH hc4
 clear hg1 hg2 hg3 hg4 hc hc1 hc2 hc3 hc4
 have hm:=Int.emod_lt_of_pos (x*16777216+y*65536+z*256+u) (show 0<m by omega)
 have hm':=Int.emod_nonneg (x*16777216+y*65536+z*256+u) (show m≠0 by omega)
 go_wp2_with (first|((with_reducible refine wp_region_later (by kernel_rfl) (by kernel_rfl) ?_);(repeat(first|go_big_quiet_step (first|fail)));refine wpQuiet_nil ?_;rintro _ ⟨x,rfl⟩))
 go_ret
 exact⟨_,rfl,⟨hm',hm⟩,hG.out,i4,hC.out⟩
set_option maxRecDepth 100000 in
set_option maxHeartbeats 2000000 in
theorem c_sl02Channel{w:World}{p:Nat}{a:Option Addr}{n c:Nat}{l:List Int}{i:Nat}(hc:IsCur w p a n c l i) :
  Calls Tryz.prog 202 #[.pointer (some ⟨p,0,none⟩)] w fun e w'=>∃ s b l':Int,e=.returned (.agg #[.int .i64 s,.int .i64 b,.int .i64 l'])∧(0≤s∧s≤65535)∧(0≤b∧b≤100)∧(0≤l'∧l'≤100)∧w.grownBy w' (some p)∧∃ i',IsCur w' p a n c l i':=by
 have HC:=lH hc;clear hc
 have hp:=HC.out.lt.out
 have Z:=held_new w (.cells #[.int .i64 0,.int .i64 0,.int .i64 0] 65)
 go_enter Tryz.func202,Tryz.ntmps202
 go_wp2_with (first|((with_reducible refine wp_region_later (by kernel_rfl) (by kernel_rfl) ?_);(repeat(first|go_big_quiet_step (first|fail)));refine wpQuiet_nil ?_;rintro _ ⟨x,rfl⟩))
 refine(c_sl01BelowB (HC.out.alloc _) (by omega) (by omega)).mono ?_
 rintro _ w1 ⟨x,rfl,hx,hg1,i1,hc1⟩
 have H1:=held_grown hg1 Z (by omega)
 have G1:=grownBy_trans (grownBy_new (grownBy_refl w (some p)) _) hg1
 have HG:=lH G1;clear hg1 G1 Z
 go_wp2_with (first|((with_reducible refine wp_region_later (by kernel_rfl) (by kernel_rfl) ?_);(repeat(first|go_big_quiet_step (first|fail)));refine wpQuiet_nil ?_;rintro _ ⟨x,rfl⟩))
 refine(c_sl01BelowB hc1 (by omega) (by omega)).mono ?_
 rintro _ w2 ⟨y,rfl,hy,hg2,i2,hc2⟩
 have H2:=held_grown hg2 H1 (by omega)
 have HG2:=lH (grownBy_trans HG.out hg2);clear hg2 hc1 H1 HG
 have hp2:=hc2.lt.out
 go_wp2_with (first|((with_reducible refine wp_region_later (by kernel_rfl) (by kernel_rfl) ?_);(repeat(first|go_big_quiet_step (first|fail)));refine wpQuiet_nil ?_;rintro _ ⟨x,rfl⟩))
 refine(c_sl01PickInt (xs:=[0,x,y,65535]) (hc2.alloc _) (Sl.litB (by simp) encInt_len rfl) rfl (by simp) (by simp) ?_).mono ?_
 ·intro b off h;cases h;omega
 rintro _ w3 ⟨s,rfl,hs,hg3,i3,hc3⟩
 have H3:=held_grown hg3 (held_past H2 _) (by omega)
 have HG3:=lH (grownBy_trans (grownBy_new HG2.out _) hg3);clear hg3 hc2 H2 HG2
 have hp3:=hc3.lt.out
 have hs':0≤s∧s≤65535:=by simp only[List.mem_cons,List.not_mem_nil,or_false]at hs;omega
 clear hs hx hy
 go_wp2_with (first|((with_reducible refine wp_region_later (by kernel_rfl) (by kernel_rfl) ?_);(repeat(first|go_big_quiet_step (first|fail)));refine wpQuiet_nil ?_;rintro _ ⟨x,rfl⟩))
 refine(c_sl01PickInt (xs:=[0,30,100]) (hc3.alloc _) (Sl.litB (by simp) encInt_len rfl) rfl (by decide) (by decide) ?_).mono ?_
 ·intro b off h;cases h;omega
 rintro _ w4 ⟨b,rfl,hb,hg4,i4,hc4⟩
 have H4:=held_grown hg4 (held_past H3 _) (by omega)
 have HG4:=lH (grownBy_trans (grownBy_new HG3.out _) hg4);clear hg4 hc3 H3 HG3
 have hp4:=hc4.lt.out
 have hb':0≤b∧b≤100:=by simp only[List.mem_cons,List.not_mem_nil,or_false]at hb;omega
 clear hb
 go_wp2_with (first|((with_reducible refine wp_region_later (by kernel_rfl) (by kernel_rfl) ?_);(repeat(first|go_big_quiet_step (first|fail)));refine wpQuiet_nil ?_;rintro _ ⟨x,rfl⟩))
 refine(c_sl01PickInt (xs:=[0,0,20,100]) (hc4.alloc _) (Sl.litB (by simp) encInt_len rfl) rfl (by decide) (by decide) ?_).mono ?_
 ·intro b off h;cases h;omega
 rintro _ w5 ⟨l',rfl,hl,hg5,i5,hc5⟩
 have H5:=held_grown hg5 (held_past H4 _) (by omega)
 have HG5:=lH (grownBy_trans (grownBy_new HG4.out _) hg5);clear hg5 hc4 H4 HG4
 have hl':0≤l'∧l'≤100:=by simp only[List.mem_cons,List.not_mem_nil,or_false]at hl;omega
 clear hl
 have HC5:=lH hc5;clear hc5
 have f0:=held_cell H5 0
 have f1:=held_cell H5 1
 have f2:=held_cell H5 2
 have k0:=held_frozen H5 0
 have k1:=held_frozen H5 1
 have k2:=held_frozen H5 2
 simp only[List.getElem?_toArray,List.getElem?_cons_zero,List.getElem?_cons_succ]at f0 f1 f2
 clear H5
 go_wp2_with (first|((with_reducible refine wp_region_later (by kernel_rfl) (by kernel_rfl) ?_);(repeat(first|go_big_quiet_step (first|fail)));refine wpQuiet_nil ?_;rintro _ ⟨x,rfl⟩))
 refine bodyPost_ret (v:=.agg #[.int .i64 s,.int .i64 b,.int .i64 l']) ?_ rfl ⟨s,b,l',rfl,hs',hb',hl',?_,i5,((HC5.out.put hp _ _).put hp _ _).put hp _ _⟩
 ·simp[results,Tryz.results202,go_sem,f0,f1,f2]
 ·exact grownBy_put (grownBy_put (grownBy_put HG5.out (Nat.le_refl _) _ _) (Nat.le_refl _) _ _) (Nat.le_refl _) _ _
def drawnLims(L:List TLimit):Prop:=∀ x∈L,(0≤x.Param∧x.Param≤2)∧(0≤x.Low∧x.Low≤5)∧(4≤x.High∧x.High≤65535)
set_option maxRecDepth 100000 in
set_option maxHeartbeats 2000000 in
theorem c_sl05Limits{w:World}{p:Nat}{a:Option Addr}{n c:Nat}{l:List Int}{i:Nat}(hc:IsCur w p a n c l i) :
  Calls Tryz.prog 203 #[.pointer (some ⟨p,0,none⟩)] w fun e w'=>∃ (L:List TLimit) (sa:Option Addr) (q sc:Nat),e=.returned (.slice sa q sc)∧L.length=q∧q≤2∧drawnLims L∧Own encTLimit 288 3 w.heap.size w' sa sc L∧w.grownBy w' (some p)∧∃ i',IsCur w' p a n c l i':=by
 have HC:=lH hc;clear hc
 have hp:=HC.out.lt.out
 go_enter Tryz.func203,Tryz.ntmps203
 go_wp2_with (first|((with_reducible refine wp_region_later (by kernel_rfl) (by kernel_rfl) ?_);(repeat(first|go_big_quiet_step (first|fail)));refine wpQuiet_nil ?_;rintro _ ⟨x,rfl⟩))
 refine(c_sl01Below (HC.out.alloc _) (by omega) (by omega)).mono ?_
 rintro _ w1 ⟨k0,rfl,hk0,hg1,i1,hc1⟩
 have O1:=(Own.empty0 (T:=288) (W:=w) encTLimit_len (Nat.le_refl _)).kept hg1 (fun k hk=>by cases hk;exact .inl hp)
 have G1:=grownBy_trans (grownBy_new (grownBy_refl w (some p)) _) hg1
 clear hg1
 obtain⟨k0,rfl⟩:=Int.eq_ofNat_of_zero_le hk0.1
 go_wp2_with (first|((with_reducible refine wp_region_later (by kernel_rfl) (by kernel_rfl) ?_);(repeat(first|go_big_quiet_step (first|fail)));refine wpQuiet_nil ?_;rintro _ ⟨x,rfl⟩))
 go_loopw [3,4] (fun vs vk wr=>∃ (L:List TLimit) (sa:Option Addr) (sc k q:Nat),vs=.slice sa q sc∧L.length=q∧vk=.int .i64 k∧q+k≤2∧Hid (Own encTLimit 288 3 w.heap.size wr sa sc L)∧Hid (w.grownBy wr (some p))∧(∃ i',Hid (IsCur wr p a n c l i'))∧Hid (drawnLims L)) (fun _ v _=>(intOf v).toNat)
 case atStart=>exact⟨[],_,_,k0,0,rfl,rfl,rfl,by omega,O1,G1,⟨i1,hc1⟩,fun x h=>by cases h⟩
 case round =>
  obtain⟨L,sa,sc,k,q,rfl,hL,rfl,hqk,hO,hG,⟨i2,hC⟩,hD⟩:=hrel
  cases k with
  | zero =>
   go_wp2_with (first|((with_reducible refine wp_region_later (by kernel_rfl) (by kernel_rfl) ?_);(repeat(first|go_big_quiet_step (first|fail)));refine wpQuiet_nil ?_;rintro _ ⟨x,rfl⟩))
   go_ret
   exact⟨L,sa,q,sc,rfl,hL,by omega,hD.out,hO.out,hG.out,i2,hC.out⟩
  | succ k =>
   have KEEP:∀ {W W':World} {sa:Option Addr} {sc:Nat},Own encTLimit 288 3 w.heap.size W sa sc L→W.grownBy W' (some p)→Own encTLimit 288 3 w.heap.size W' sa sc L:=fun h hg=>h.kept hg (fun k hk=>by cases hk;exact .inl hp)
   go_wp2_with (first|((with_reducible refine wp_region_later (by kernel_rfl) (by kernel_rfl) ?_);(repeat(first|go_big_quiet_step (first|fail)));refine wpQuiet_nil ?_;rintro _ ⟨x,rfl⟩))
   refine(c_sl01Below hC.out (by omega) (by omega)).mono ?_
   rintro _ w2 ⟨r,rfl,hr,hg2,i3,hc2⟩
   have O2:=lH (KEEP hO.out hg2);have G2:=lH (grownBy_trans hG.out hg2);clear hO hG hC hg2
   have hp2:=hc2.lt.out
   go_wp2_with (first|((with_reducible refine wp_region_later (by kernel_rfl) (by kernel_rfl) ?_);(repeat(first|go_big_quiet_step (first|fail)));refine wpQuiet_nil ?_;rintro _ ⟨x,rfl⟩))
   refine(c_sl01PickInt (xs:=[0,5]) (hc2.alloc _) (Sl.litB (by simp) encInt_len rfl) rfl (by decide) (by decide) ?_).mono ?_
   ·intro b off h;cases h;omega
   rintro _ w3 ⟨x,rfl,hx,hg3,i4,hc3⟩
   have O3:=lH (KEEP (Own.alloc O2.out _) hg3);have G3:=lH (grownBy_trans (grownBy_new G2.out _) hg3);clear O2 G2 hc2 hg3
   have hp3:=hc3.lt.out
   have hx':0≤x∧x≤5:=by simp only[List.mem_cons,List.not_mem_nil,or_false]at hx;omega
   clear hx
   go_wp2_with (first|((with_reducible refine wp_region_later (by kernel_rfl) (by kernel_rfl) ?_);(repeat(first|go_big_quiet_step (first|fail)));refine wpQuiet_nil ?_;rintro _ ⟨x,rfl⟩))
   refine(c_sl01PickInt (xs:=[300,65535,4]) (hc3.alloc _) (Sl.litB (by simp) encInt_len rfl) rfl (by decide) (by decide) ?_).mono ?_
   ·intro b off h;cases h;omega
   rintro _ w4 ⟨d,rfl,hd,hg4,i5,hc4⟩
   have O4:=KEEP (Own.alloc O3.out _) hg4;have G4:=lH (grownBy_trans (grownBy_new G3.out _) hg4);have HC5:=lH hc4;clear O3 G3 hc3 hg4 hc4
   have hd':4≤d∧d≤65535:=by simp only[List.mem_cons,List.not_mem_nil,or_false]at hd;omega
   clear hd
   have hsz:=G4.out.size
   clear KEEP
   have hp5:=HC5.out.lt.out
   have HD:=lH (show drawnLims (L++[⟨r,x,d⟩])from fun y hy=>by
    rcases List.mem_append.1 hy with hy|hy
    ·exact hD.out y hy
    ·simp only[List.mem_singleton]at hy;subst hy;exact⟨⟨hr.1,by show r≤2;omega⟩,hx',hd'⟩)
   go_wp2_with (first|((with_reducible refine wp_region_later (by kernel_rfl) (by kernel_rfl) ?_);(repeat(first|go_big_quiet_step (first|fail)));refine wpQuiet_nil ?_;rintro _ ⟨x,rfl⟩)|(at_builtin;refine wpList_app1B (enc:=encTLimit) (B:=w.heap.size) (z:=.agg #[.int .i64 0,.int .i64 0,.int .i64 0]) (size:=3) (bytes:=24) (⟨r,x,d⟩:TLimit) rfl (.tmp 12) (.tmp 22) rfl Tryz.underlying78 (by kernel_rfl) rfl (by decide) (by decide) rfl rfl hL O4 rfl (by intro u hu;simp[encTLimit]at hu;rcases hu with rfl|rfl|rfl<;>rfl) (by omega) hsz ?_;intro sa1 sc1 w6 O6 g6))
   have hlt:=O4.lt (n:=q)
   go_roundw
   case rel =>
    refine⟨L++[(⟨r,x,d⟩:TLimit)],sa1,sc1,k,q+1,rfl,by simp[hL],rfl,by omega,O6,?_,⟨i5,HC5.out.kept g6.size (fun j hj=>g6.block j (by omega) (fun e=>by have:=(hlt j e.symm).1;omega))⟩,HD⟩
    have G:=G4.out
    exact⟨g6.os.trans G.os,g6.tape.trans G.tape,g6.output.trans G.output,Nat.le_trans G.size g6.size,fun j hj hr=>(g6.block j (by omega) (fun e=>by have:=(hlt j e.symm).1;omega)).trans (G.block j hj hr)⟩
   case measure=>simp[intOf]
def DrawsO(w:World)(p:Nat)(a:Option Addr)(n c:Nat)(l:List Int):Ending→World→Prop:=fun e w' =>
 ∃ k t x y:Int,e=.returned (.agg #[.int .i64 k,.int .i64 t,.int .i64 x,.int .i64 y])∧w.grownBy w' (some p)∧∃ i',IsCur w' p a n c l i'
set_option maxRecDepth 100000 in
set_option maxHeartbeats 2000000 in
theorem c_sl05Order{w:World}{p:Nat}{a:Option Addr}{n c:Nat}{l:List Int}{i:Nat}{now:Int}(hc:IsCur w p a n c l i)(h0:0≤now)(h1:now≤1048576) :
  Calls Tryz.prog 81 #[.pointer (some ⟨p,0,none⟩),.int .i64 now] w (DrawsO w p a n c l):=by
 have HC:=lH hc;clear hc
 have hp:=HC.out.lt.out
 have Z:=held_new w (.cells #[.int .i64 0,.int .i64 0,.int .i64 0,.int .i64 0] 104)
 go_enter Tryz.func81,Tryz.ntmps81
 go_wp2_with (first|((with_reducible refine wp_region_later (by kernel_rfl) (by kernel_rfl) ?_);(repeat(first|go_big_quiet_step (first|fail)));refine wpQuiet_nil ?_;rintro _ ⟨x,rfl⟩))
 refine(c_sl01PickInt (xs:=[0,0,1,1,1,2,3,4]) ((HC.out.alloc _).alloc _) (Sl.litB (by simp) encInt_len rfl) rfl (by decide) (by decide) ?_).mono ?_
 ·intro b off h;cases h;omega
 rintro _ w1 ⟨k,rfl,hk,hg1,i1,hc1⟩
 have H1:=held_grown hg1 (held_past Z _) (by omega)
 have G1:=lH (grownBy_trans (grownBy_new (grownBy_new (grownBy_refl w (some p)) _) _) hg1);clear hg1 Z
 go_wp2_with (first|((with_reducible refine wp_region_later (by kernel_rfl) (by kernel_rfl) ?_);(repeat(first|go_big_quiet_step (first|fail)));refine wpQuiet_nil ?_;rintro _ ⟨x,rfl⟩))
 refine(c_sl01Below hc1 (by omega) (by omega)).mono ?_
 rintro _ w2 ⟨t,rfl,ht,hg2,i2,hc2⟩
 have H2:=held_grown hg2 H1 (by omega)
 have G2:=lH (grownBy_trans G1.out hg2);clear hg2 hc1 H1 G1
 have hp2:=hc2.lt.out
 have hsz:=G2.out.size
 have X2:=held_new w2 (.cells #[.int .i64 k,.int .i64 (now+t),.int .i64 0,.int .i64 0] 104)
 have Y2:=held_past H2 (.cells #[.int .i64 k,.int .i64 (now+t),.int .i64 0,.int .i64 0] 104)
 have G3:=lH (grownBy_new G2.out (.cells #[.int .i64 k,.int .i64 (now+t),.int .i64 0,.int .i64 0] 104))
 have HC3:=lH (hc2.alloc (.cells #[.int .i64 k,.int .i64 (now+t),.int .i64 0,.int .i64 0] 104))
 have hlt:w.heap.size<w2.heap.size:=(Array.getElem?_eq_some_iff.1 H2).1
 have hfar:NeN w.heap.size w2.heap.size:=⟨by omega⟩
 have hfar':NeN w2.heap.size w.heap.size:=⟨by omega⟩
 have hfp:w.heap.size≠p:=by omega
 have hfq:w2.heap.size≠p:=by omega
 clear hc2 G2 H2
 have hk5:k=0∨k=1∨k=2∨k=3∨k=4:=by simp only[List.mem_cons,List.not_mem_nil,or_false]at hk;omega
 clear hk
 rcases hk5 with rfl|rfl|rfl|rfl|rfl
 ·have X3:=X2;have Y3:=Y2;clear X2 Y2
  go_wp2_with (first|((with_reducible refine wp_region_later (by kernel_rfl) (by kernel_rfl) ?_);(repeat(first|go_big_quiet_step (first|fail)));refine wpQuiet_nil ?_;rintro _ ⟨x,rfl⟩))
  refine(c_sl01Below HC3.out (by omega) (by omega)).mono ?_
  rintro _ w4 ⟨x,rfl,-,hg4,i4,hc4⟩
  have X4:=held_grown hg4 X3 hfq;have Y4:=held_grown hg4 Y3 hfp
  have G4:=lH (grownBy_trans G3.out hg4);have HC4:=lH hc4;clear hg4 hc4 X3 Y3 G3 HC3
  have f0:=held_cell X4 0;have f1:=held_cell X4 1;have f2:=held_cell X4 2;have f3:=held_cell X4 3
  have k0:=held_frozen X4 0;have k1:=held_frozen X4 1;have k2:=held_frozen X4 2;have k3:=held_frozen X4 3
  have j0:=held_frozen Y4 0;have j1:=held_frozen Y4 1;have j2:=held_frozen Y4 2;have j3:=held_frozen Y4 3
  have e0:=held_cell Y4 0;have e1:=held_cell Y4 1;have e2:=held_cell Y4 2;have e3:=held_cell Y4 3
  simp only[List.getElem?_toArray,List.getElem?_cons_zero,List.getElem?_cons_succ]at f0 f1 f2 f3 e0 e1 e2 e3
  go_wp2_with (first|((with_reducible refine wp_region_later (by kernel_rfl) (by kernel_rfl) ?_);(repeat(first|go_big_quiet_step (first|fail)));refine wpQuiet_nil ?_;rintro _ ⟨x,rfl⟩))
  have X5:(w4.setCell ⟨w2.heap.size,2,none⟩ (.int .i64 x)).heap[w2.heap.size]?=some (.cells #[.int .i64 0,.int .i64 (now+t),.int .i64 x,.int .i64 0] 104):=by
   simp[World.setCell,Array.getElem?_modify,X4]
  have Y5:(w4.setCell ⟨w2.heap.size,2,none⟩ (.int .i64 x)).heap[w.heap.size]?=some (.cells #[.int .i64 0,.int .i64 0,.int .i64 0,.int .i64 0] 104):=by
   rw[Below.heap_setCell _ _ _ _ (by simp only[ne_eq];omega)];exact Y4
  have G5:=lH (grownBy_put G4.out hsz 2 (.int .i64 x));have HC5:=lH (HC4.out.put hp2 2 (.int .i64 x));clear f0 f1 f2 f3 e0 e1 e2 e3 k0 k1 k2 k3 j0 j1 j2 j3 X4 Y4 G4 HC4
  have hp5:=HC5.out.lt.out
  refine(c_sl01PickInt (xs:=[0,5,300,65535]) (HC5.out.alloc _) (Sl.litB (by simp) encInt_len rfl) rfl (by decide) (by decide) ?_).mono ?_
  ·intro b off h;cases h;simp at hp5;omega
  rintro _ w6 ⟨y,rfl,-,hg6,i6,hc6⟩
  have X6:=held_grown hg6 (held_past X5 _) hfq;have Y6:=held_grown hg6 (held_past Y5 _) hfp
  have G6:=lH (grownBy_trans (grownBy_new G5.out _) hg6);have HC6:=lH hc6;clear hg6 hc6 X5 Y5 G5 HC5
  have f0:=held_cell X6 0;have f1:=held_cell X6 1;have f2:=held_cell X6 2;have f3:=held_cell X6 3
  have k0:=held_frozen X6 0;have k1:=held_frozen X6 1;have k2:=held_frozen X6 2;have k3:=held_frozen X6 3
  have j0:=held_frozen Y6 0;have j1:=held_frozen Y6 1;have j2:=held_frozen Y6 2;have j3:=held_frozen Y6 3
  have e0:=held_cell Y6 0;have e1:=held_cell Y6 1;have e2:=held_cell Y6 2;have e3:=held_cell Y6 3
  simp only[List.getElem?_toArray,List.getElem?_cons_zero,List.getElem?_cons_succ]at f0 f1 f2 f3 e0 e1 e2 e3
  go_wp2_with (first|((with_reducible refine wp_region_later (by kernel_rfl) (by kernel_rfl) ?_);(repeat(first|go_big_quiet_step (first|fail)));refine wpQuiet_nil ?_;rintro _ ⟨x,rfl⟩))
  refine bodyPost_ret (v:=.agg #[.int .i64 0,.int .i64 (now+t),.int .i64 x,.int .i64 y]) ?_ rfl ⟨0,now+t,x,y,rfl,?_,i6,(((((HC6.out.put hp2 _ _).put hp _ _).put hp _ _).put hp _ _).put hp _ _)⟩
  ·simp[results,Tryz.results81,go_sem,e0,e1,e2,e3]
  ·exact(grownBy_put (grownBy_put (grownBy_put (grownBy_put (grownBy_put G6.out hsz _ _) (Nat.le_refl _) _ _) (Nat.le_refl _) _ _) (Nat.le_refl _) _ _) (Nat.le_refl _) _ _)
 ·have X3:=X2;have Y3:=Y2;clear X2 Y2
  go_wp2_with (first|((with_reducible refine wp_region_later (by kernel_rfl) (by kernel_rfl) ?_);(repeat(first|go_big_quiet_step (first|fail)));refine wpQuiet_nil ?_;rintro _ ⟨x,rfl⟩))
  refine(c_sl01Below HC3.out (by omega) (by omega)).mono ?_
  rintro _ w4 ⟨x,rfl,-,hg4,i4,hc4⟩
  have X4:=held_grown hg4 X3 hfq;have Y4:=held_grown hg4 Y3 hfp
  have G4:=lH (grownBy_trans G3.out hg4);have HC4:=lH hc4;clear hg4 hc4 X3 Y3 G3 HC3
  have f0:=held_cell X4 0;have f1:=held_cell X4 1;have f2:=held_cell X4 2;have f3:=held_cell X4 3
  have k0:=held_frozen X4 0;have k1:=held_frozen X4 1;have k2:=held_frozen X4 2;have k3:=held_frozen X4 3
  have j0:=held_frozen Y4 0;have j1:=held_frozen Y4 1;have j2:=held_frozen Y4 2;have j3:=held_frozen Y4 3
  have e0:=held_cell Y4 0;have e1:=held_cell Y4 1;have e2:=held_cell Y4 2;have e3:=held_cell Y4 3
  simp only[List.getElem?_toArray,List.getElem?_cons_zero,List.getElem?_cons_succ]at f0 f1 f2 f3 e0 e1 e2 e3
  go_wp2_with (first|((with_reducible refine wp_region_later (by kernel_rfl) (by kernel_rfl) ?_);(repeat(first|go_big_quiet_step (first|fail)));refine wpQuiet_nil ?_;rintro _ ⟨x,rfl⟩))
  refine bodyPost_ret (v:=.agg #[.int .i64 1,.int .i64 (now+t),.int .i64 x,.int .i64 0]) ?_ rfl ⟨1,now+t,x,0,rfl,?_,i4,(((((HC4.out.put hp2 _ _).put hp _ _).put hp _ _).put hp _ _).put hp _ _)⟩
  ·simp[results,Tryz.results81,go_sem,e0,e1,e2,e3]
  ·exact(grownBy_put (grownBy_put (grownBy_put (grownBy_put (grownBy_put G4.out hsz _ _) (Nat.le_refl _) _ _) (Nat.le_refl _) _ _) (Nat.le_refl _) _ _) (Nat.le_refl _) _ _)
 ·have X3:=X2;have Y3:=Y2;clear X2 Y2
  have hp3:=HC3.out.lt.out
  go_wp2_with (first|((with_reducible refine wp_region_later (by kernel_rfl) (by kernel_rfl) ?_);(repeat(first|go_big_quiet_step (first|fail)));refine wpQuiet_nil ?_;rintro _ ⟨x,rfl⟩))
  refine(c_sl01PickInt (xs:=[0,0,1]) (HC3.out.alloc _) (Sl.litB (by simp) encInt_len rfl) rfl (by decide) (by decide) ?_).mono ?_
  ·intro b off h;cases h;omega
  rintro _ w4 ⟨x,rfl,-,hg4,i4,hc4⟩
  have X4:=held_grown hg4 (held_past X3 _) hfq;have Y4:=held_grown hg4 (held_past Y3 _) hfp
  have G4:=lH (grownBy_trans (grownBy_new G3.out _) hg4);have HC4:=lH hc4;clear hg4 hc4 X3 Y3 G3 HC3
  have f0:=held_cell X4 0;have f1:=held_cell X4 1;have f2:=held_cell X4 2;have f3:=held_cell X4 3
  have k0:=held_frozen X4 0;have k1:=held_frozen X4 1;have k2:=held_frozen X4 2;have k3:=held_frozen X4 3
  have j0:=held_frozen Y4 0;have j1:=held_frozen Y4 1;have j2:=held_frozen Y4 2;have j3:=held_frozen Y4 3
  have e0:=held_cell Y4 0;have e1:=held_cell Y4 1;have e2:=held_cell Y4 2;have e3:=held_cell Y4 3
  simp only[List.getElem?_toArray,List.getElem?_cons_zero,List.getElem?_cons_succ]at f0 f1 f2 f3 e0 e1 e2 e3
  go_wp2_with (first|((with_reducible refine wp_region_later (by kernel_rfl) (by kernel_rfl) ?_);(repeat(first|go_big_quiet_step (first|fail)));refine wpQuiet_nil ?_;rintro _ ⟨x,rfl⟩))
  refine bodyPost_ret (v:=.agg #[.int .i64 2,.int .i64 (now+t),.int .i64 x,.int .i64 0]) ?_ rfl ⟨2,now+t,x,0,rfl,?_,i4,(((((HC4.out.put hp2 _ _).put hp _ _).put hp _ _).put hp _ _).put hp _ _)⟩
  ·simp[results,Tryz.results81,go_sem,e0,e1,e2,e3]
  ·exact(grownBy_put (grownBy_put (grownBy_put (grownBy_put (grownBy_put G4.out hsz _ _) (Nat.le_refl _) _ _) (Nat.le_refl _) _ _) (Nat.le_refl _) _ _) (Nat.le_refl _) _ _)
 ·have X3:=X2;have Y3:=Y2;clear X2 Y2
  go_wp2_with (first|((with_reducible refine wp_region_later (by kernel_rfl) (by kernel_rfl) ?_);(repeat(first|go_big_quiet_step (first|fail)));refine wpQuiet_nil ?_;rintro _ ⟨x,rfl⟩))
  refine(c_sl01Below HC3.out (by omega) (by omega)).mono ?_
  rintro _ w4 ⟨x,rfl,-,hg4,i4,hc4⟩
  have X4:=held_grown hg4 X3 hfq;have Y4:=held_grown hg4 Y3 hfp
  have G4:=lH (grownBy_trans G3.out hg4);have HC4:=lH hc4;clear hg4 hc4 X3 Y3 G3 HC3
  have f0:=held_cell X4 0;have f1:=held_cell X4 1;have f2:=held_cell X4 2;have f3:=held_cell X4 3
  have k0:=held_frozen X4 0;have k1:=held_frozen X4 1;have k2:=held_frozen X4 2;have k3:=held_frozen X4 3
  have j0:=held_frozen Y4 0;have j1:=held_frozen Y4 1;have j2:=held_frozen Y4 2;have j3:=held_frozen Y4 3
  have e0:=held_cell Y4 0;have e1:=held_cell Y4 1;have e2:=held_cell Y4 2;have e3:=held_cell Y4 3
  simp only[List.getElem?_toArray,List.getElem?_cons_zero,List.getElem?_cons_succ]at f0 f1 f2 f3 e0 e1 e2 e3
  go_wp2_with (first|((with_reducible refine wp_region_later (by kernel_rfl) (by kernel_rfl) ?_);(repeat(first|go_big_quiet_step (first|fail)));refine wpQuiet_nil ?_;rintro _ ⟨x,rfl⟩))
  refine bodyPost_ret (v:=.agg #[.int .i64 3,.int .i64 (now+t),.int .i64 x,.int .i64 0]) ?_ rfl ⟨3,now+t,x,0,rfl,?_,i4,(((((HC4.out.put hp2 _ _).put hp _ _).put hp _ _).put hp _ _).put hp _ _)⟩
  ·simp[results,Tryz.results81,go_sem,e0,e1,e2,e3]
  ·exact(grownBy_put (grownBy_put (grownBy_put (grownBy_put (grownBy_put G4.out hsz _ _) (Nat.le_refl _) _ _) (Nat.le_refl _) _ _) (Nat.le_refl _) _ _) (Nat.le_refl _) _ _)
 ·have X3:=X2;have Y3:=Y2;clear X2 Y2
  go_wp2_with (first|((with_reducible refine wp_region_later (by kernel_rfl) (by kernel_rfl) ?_);(repeat(first|go_big_quiet_step (first|fail)));refine wpQuiet_nil ?_;rintro _ ⟨x,rfl⟩))
  refine(c_sl01Below HC3.out (by omega) (by omega)).mono ?_
  rintro _ w4 ⟨x,rfl,-,hg4,i4,hc4⟩
  have X4:=held_grown hg4 X3 hfq;have Y4:=held_grown hg4 Y3 hfp
  have G4:=lH (grownBy_trans G3.out hg4);have HC4:=lH hc4;clear hg4 hc4 X3 Y3 G3 HC3
  have f0:=held_cell X4 0;have f1:=held_cell X4 1;have f2:=held_cell X4 2;have f3:=held_cell X4 3
  have k0:=held_frozen X4 0;have k1:=held_frozen X4 1;have k2:=held_frozen X4 2;have k3:=held_frozen X4 3
  have j0:=held_frozen Y4 0;have j1:=held_frozen Y4 1;have j2:=held_frozen Y4 2;have j3:=held_frozen Y4 3
  have e0:=held_cell Y4 0;have e1:=held_cell Y4 1;have e2:=held_cell Y4 2;have e3:=held_cell Y4 3
  simp only[List.getElem?_toArray,List.getElem?_cons_zero,List.getElem?_cons_succ]at f0 f1 f2 f3 e0 e1 e2 e3
  go_wp2_with (first|((with_reducible refine wp_region_later (by kernel_rfl) (by kernel_rfl) ?_);(repeat(first|go_big_quiet_step (first|fail)));refine wpQuiet_nil ?_;rintro _ ⟨x,rfl⟩))
  refine bodyPost_ret (v:=.agg #[.int .i64 4,.int .i64 (now+t),.int .i64 x,.int .i64 0]) ?_ rfl ⟨4,now+t,x,0,rfl,?_,i4,(((((HC4.out.put hp2 _ _).put hp _ _).put hp _ _).put hp _ _).put hp _ _)⟩
  ·simp[results,Tryz.results81,go_sem,e0,e1,e2,e3]
  ·exact(grownBy_put (grownBy_put (grownBy_put (grownBy_put (grownBy_put G4.out hsz _ _) (Nat.le_refl _) _ _) (Nat.le_refl _) _ _) (Nat.le_refl _) _ _) (Nat.le_refl _) _ _)
def fileIn0(k:Nat):TFileIn:=⟨k,-1,-1,List.replicate 25 ⟨#[]⟩⟩
def fileOut0(k:Nat)(s:ByteArray):TFileOut:=⟨k,s,[],true⟩
def insOf:Nat→List ByteArray→List TFileIn
 | _,[]=>[]
 | k,_::r=>fileIn0 k::insOf (k+1) r
def outsOf:Nat→List ByteArray→List TFileOut
 | _,[]=>[]
 | k,s::r=>fileOut0 k s::outsOf (k+1) r
theorem insOf_len:∀ (l:List ByteArray) (k:Nat),(insOf k l).length=l.length
 | [],_=>rfl
 | _::r,k=>by simp[insOf,insOf_len r (k+1)]
theorem outsOf_len:∀ (l:List ByteArray) (k:Nat),(outsOf k l).length=l.length
 | [],_=>rfl
 | _::r,k=>by simp[outsOf,outsOf_len r (k+1)]
theorem insOf_snoc(y:ByteArray):∀ (l:List ByteArray) (k:Nat),insOf k (l++[y])=insOf k l++[fileIn0 (k+l.length)]
 | [],k=>by simp[insOf]
 | _::r,k=>by rw[List.cons_append,insOf,insOf_snoc y r (k+1),insOf,List.cons_append,List.length_cons,show k+1+r.length=k+(r.length+1)by omega]
theorem outsOf_snoc(y:ByteArray):∀ (l:List ByteArray) (k:Nat),outsOf k (l++[y])=outsOf k l++[fileOut0 (k+l.length) y]
 | [],k=>by simp[outsOf]
 | _::r,k=>by rw[List.cons_append,outsOf,outsOf_snoc y r (k+1),outsOf,List.cons_append,List.length_cons,show k+1+r.length=k+(r.length+1)by omega]
def newM(light:Int)(d:TDrift)(o:TOrbit)(pl:List Slot)(up down:TChannel)(room:Int)(L:List TLimit)(fs:List ByteArray):TMission :=
 ⟨0,light,d,o,pl,up,down,[],[],⟨[],⟨0,5,[],0⟩,⟨0,false,false⟩,⟨0,-1,false,⟨#[]⟩,0⟩,[],[],insOf 0 fs,List.replicate 8 false⟩,
  ⟨⟨0,false,false,0⟩,{ newBoard room L with Clock:=boardTime d.Rate d.Offset 0 },⟨0,0,⟨#[]⟩,[]⟩,0,fs,outsOf 0 fs,0,[]⟩,[],[],0⟩
def zeroM:TMission:=⟨0,0,⟨0,0⟩,⟨0,0,0⟩,[],⟨0,0,0⟩,⟨0,0,0⟩,[],[],⟨[],⟨0,0,[],0⟩,⟨0,false,false⟩,⟨0,0,false,⟨#[]⟩,0⟩,[],[],[],[]⟩,
  ⟨⟨0,false,false,0⟩,⟨0,[],false,[],[],[],⟨0,[],[]⟩,0,0,[]⟩,⟨0,0,⟨#[]⟩,[]⟩,0,[],[],0,[]⟩,[],[],0⟩
def newOk(light:Int)(d:TDrift)(o:TOrbit)(pl:List Slot)(up down:TChannel)(room:Int)(L:List TLimit)(fs:List ByteArray):Bool :=
 boardOk (newBoard room L) && (decide (fs.length=8) && missionOk (newM light d o pl up down room L fs))
def newMission(light:Int)(d:TDrift)(o:TOrbit)(pl:List Slot)(up down:TChannel)(room:Int)(L:List TLimit)(fs:List ByteArray):TMission :=
 if newOk light d o pl up down room L fs=true then newM light d o pl up down room L fs else zeroM
theorem esz:(⟨#[]⟩:ByteArray).size=0:=rfl
theorem newB_ok{room:Int}{L:List TLimit}(hr:inB room 0 4000=true)(hL:L.length≤8)(h:L.all limitOk=true):boardOk (newBoard room L)=true:=by
 have h1:=inB_iff.1 hr
 have hL':((L.length:Int)≤8):=by omega
 simp[boardOk,newBoard,h,recorderOk,used,ascGo,ordersOk,ordersFrom,allB,inB,hL',h1.1,h1.2,List.replicate]
theorem fileIn0_ok{k:Nat}(h:k≤7):fileInOkT (fileIn0 k)=true:=by
 have h1:((k:Int)≤7):=by omega
 simp[fileInOkT,fileInOk,fileIn0,inB,shortAll,List.replicate,h1,esz]
theorem insOf_ok:∀ (l:List ByteArray) (k:Nat),k+l.length≤8→filesFrom k (insOf k l)=true
 | [],_,_=>rfl
 | _::r,k,h=>by
  have h':k+(r.length+1)≤8:=h
  rw[insOf,filesFrom,fileIn0_ok (by omega),insOf_ok r (k+1) (by omega)]
  simp[fileIn0]
theorem fileOut0_ok{k:Nat}{s:ByteArray}(h:k≤7)(hs:s.size≤600):outOk s k (fileOut0 k s)=true:=by
 have h1:((k:Int)≤7):=by omega
 have h2:((s.size:Int)≤600):=by omega
 simp[outOk,fileOutOkT,fileOutOk,fileOut0,inB,allB,h1,h2]
theorem outsOf_ok(fs:List ByteArray):∀ (l pre:List ByteArray),fs=pre++l→fs.length≤8→(∀ s∈fs,s.size≤600)→outsFrom fs pre.length (outsOf pre.length l)=true
 | [],_,_,_,_=>rfl
 | s::r,pre,h,hl,hs=>by
  have hlen:pre.length+(r.length+1)≤8:=by rw[h]at hl;simpa using hl
  have hg:fs.getD pre.length ByteArray.empty=s:=by rw[h];simp[List.getD_eq_getElem?_getD]
  have ih:=outsOf_ok fs r (pre++[s]) (by rw[h];simp) hl hs
  rw[List.length_append,List.length_singleton]at ih
  rw[outsOf,outsFrom,hg,ih,fileOut0_ok (by omega) (hs s (by rw[h];simp))]
  rfl
theorem bt_zero{r o:Int}(h:driftOk r o=true):boardTime r o 0=o:=by
 rw[boardTime,h];simp[inB]
theorem newM_ok{light:Int}{d:TDrift}{o:TOrbit}{pl:List Slot}{up down:TChannel}{room:Int}{L:List TLimit}{fs:List ByteArray}(h1:inB light 0 50=true)(h2:driftOkT d=true)(h3:orbitOkT o=true)(h4:channelOk up=true)(h5:channelOk down=true)
  (h6:pl.length≤1500) (h7:boardOk (newBoard room L)=true) (h8:fs.length=8) (h9:∀ s∈fs,s.size≤600):missionOk (newM light d o pl up down room L fs)=true:=by
 have hd:driftOk d.Rate d.Offset=true:=h2
 have hb:=bt_zero hd
 have ho:inB d.Offset 0 1000=true:=by rw[driftOk,Bool.and_eq_true]at hd;exact hd.2
 have ho':=inB_iff.1 ho
 have hbd:boardOk { newBoard room L with Clock:=boardTime d.Rate d.Offset 0 }=true:=by
  rw[hb]
  have hc:inB d.Offset 0 1000000=true:=inB_iff.2 ⟨ho'.1,by omega⟩
  have h7':=h7
  rw[boardOk,Bool.and_eq_true]at h7' ⊢
  exact⟨hc,h7'.2⟩
 have hi:=insOf_ok fs 0 (by omega)
 have hou:=outsOf_ok fs fs [] rfl (by omega) h9
 simp only[List.length_nil]at hou
 have h6':((pl.length:Int)≤1500):=by omega
 have hil:=insOf_len fs 0
 have hol:=outsOf_len fs 0
 have hg:groundOk (newM light d o pl up down room L fs).Ground=true:=by
  simp[groundOk,newM,senderOk,sentGo,unpackerOk,pairsOk,pairsFrom,recordsOk,inB,hil,h8,hi,esz]
 have hs:spaceOk (newM light d o pl up down room L fs).Space=true:=by
  have h10:(newM light d o pl up down room L fs).Space.Board={ newBoard room L with Clock:=boardTime d.Rate d.Offset 0 }:=rfl
  rw[spaceOk,h10,hbd]
  simp[newM,receiverOk,packerOk,ascGo,recordsOk,inB,newBoard,hol,h8,hou,esz]
 have h1':=inB_iff.1 h1
 rw[missionOk,hg,hs]
 simp[newM,h1'.1,h1'.2,h2,h3,h4,h5,h6',flightsOk,inB]
theorem newM_files(fs:List ByteArray)(told:List Bool)(ht:∀ k,told.getD k false=false):∀ (l:List ByteArray) (k:Nat),filesGo fs told k (insOf k l)=true
 | [],_=>rfl
 | _::r,k=>by
  rw[insOf,filesGo,newM_files fs told ht r (k+1)]
  have h1:xIs (fileIn0 k)=false:=by simp[xIs,textIs,fileIn0]
  rw[fileGood,h1,ht]
  rfl
theorem newM_ledger{light:Int}{d:TDrift}{o:TOrbit}{pl:List Slot}{up down:TChannel}{room:Int}{L:List TLimit}{fs:List ByteArray}(h:missionOk (newM light d o pl up down room L fs)=true):ledgerOk (newM light d o pl up down room L fs)=true:=by
 have h1:commandsOnce (newM light d o pl up down room L fs)=true:=by simp[commandsOnce,newM,eqAll]
 have h2:ordersOnce (newM light d o pl up down room L fs)=true:=by simp[ordersOnce,ordNums,newM,newBoard,once,countsOne]
 have h3:recordsOnce (newM light d o pl up down room L fs)=true:=by simp[recordsOnce,recIds,newM,newBoard,once,countsOne,ascGo]
 have h4:filesTrue (newM light d o pl up down room L fs)=true:=newM_files fs (List.replicate 8 false) (fun k=>by
  rw[List.getD_eq_getElem?_getD,List.getElem?_replicate];split<;>rfl) fs 0
 have h5:timesTrue (newM light d o pl up down room L fs)=true:=by simp[timesTrue,newM]
 rw[ledgerOk,h,h1,h2,h3,h4,h5];rfl
theorem plan2_len{p s l:Int}:(planAll p s l [⟨2,5,60,4⟩,⟨9,0,40,5⟩]).length≤9:=by
 have hr:requestsOk [⟨2,5,60,4⟩,⟨9,0,40,5⟩]=true:=by decide
 cases ok:orbitOk p s l
 ·have:planAll p s l [⟨2,5,60,4⟩,⟨9,0,40,5⟩]=[]:=by rw[planAll,ok];rfl
  rw[this];exact Nat.zero_le _
 have h1:=plan_sum (p:=p) (s:=s) (l:=l) hr
 have h2:=plan_le ok hr ⟨2,5,60,4⟩ (by simp)
 have h3:=plan_le ok hr ⟨9,0,40,5⟩ (by simp)
 simp only at h2 h3
 rw[← h1]
 simp only[slotSum]
 omega
theorem totL_slots:∀ pl:List Slot,totL pl=pl.length
 | []=>rfl
 | x::r=>by
  have h:Enc.tot x=0:=rfl
  simp only[totL,totL_slots r,h,List.length_cons];omega
theorem totL_lims:∀ l:List TLimit,totL l=l.length
 | []=>rfl
 | x::r=>by
  have h:Enc.tot x=0:=rfl
  simp only[totL,totL_lims r,h,List.length_cons];omega
theorem totL_ins:∀ (l:List ByteArray) (k:Nat),totL (insOf k l)=26*l.length
 | [],_=>rfl
 | _::r,k=>by
  have h:Enc.tot (fileIn0 k)=25:=rfl
  simp only[insOf,totL,totL_ins r,h,List.length_cons];omega
theorem totL_outs:∀ (l:List ByteArray) (k:Nat),totL (outsOf k l)=totL l
 | [],_=>rfl
 | s::r,k=>by
  have h:Enc.tot (fileOut0 k s)=s.size+0:=rfl
  have h2:Enc.tot s=(s.size:Int):=rfl
  simp only[outsOf,totL,totL_outs r,h,h2];omega
theorem newM_tot{light:Int}{d:TDrift}{o:TOrbit}{pl:List Slot}{up down:TChannel}{room:Int}{L:List TLimit}{fs:List ByteArray}:Enc.tot (newM light d o pl up down room L fs)=pl.length+26*fs.length+16+L.length+2*totL fs:=by
 have h1:Enc.tot (newM light d o pl up down room L fs)=totL pl+0+0+(0+0+0+0+0+totL (insOf 0 fs)+8)+((8+totL L+0+0+0+0)+0+totL fs+totL (outsOf 0 fs)+0)+0+0:=rfl
 rw[h1,totL_slots,totL_ins,totL_outs,totL_lims];omega
theorem totL_small:∀ {l:List ByteArray} {b:Nat},(∀ s∈l,s.size≤b)→totL l≤l.length*(b+1)
 | [],_,_=>by simp[totL]
 | s::r,b,h=>by
  have h1:=h s (by simp)
  have h2:=totL_small (l:=r) (b:=b) (fun t ht=>h t (by simp[ht]))
  have h3:Enc.tot s=(s.size:Int):=rfl
  have h4:((r.length+1:Nat):Int)*((b:Int)+1)=r.length*(b+1)+(b+1):=by rw[Int.natCast_add,Int.add_mul];simp
  simp only[totL,List.length_cons,h3]
  rw[h4];omega
theorem plan_okD{p s l:Int}{Q:List Request}(hQ:∀ r∈Q,i64 r.Id∧i64 r.Ready∧i64 r.Deadline):∀ x∈planAll p s l Q,okDSlot x:=fun x hx=>by
 obtain⟨-,r,hr,h1,h2⟩:=plan_mem x hx
 have h3:=inB_iff.1 h2
 obtain⟨k1,k2,k3⟩:=hQ r hr
 refine⟨?_,h1▸k1,trivial⟩
 unfold i64 at *;omega
theorem bt_i64(r o t:Int):i64 (boardTime r o t):=by
 unfold boardTime
 split
 ·rename_i h
  rw[Bool.and_eq_true,driftOk,Bool.and_eq_true]at h
  obtain⟨⟨h1,h2⟩,h3⟩:=h
  have h1:=inB_iff.1 h1;have h2:=inB_iff.1 h2;have h3:=inB_iff.1 h3
  have:=bd_mul h3.1 h3.2 h1.1 h1.2
  unfold i64;omega
 ·unfold i64;omega
theorem newM_okD{light:Int}{d:TDrift}{o:TOrbit}{pl:List Slot}{up down:TChannel}{room:Int}{L:List TLimit}{fs:List ByteArray}(h1:i64 light)(h2:okDTDrift d)(h3:okDTOrbit o)(h4:okDTChannel up)(h5:okDTChannel down)(h6:i64 room):okDTMission (newM light d o pl up down room L fs):=by
 have z:i64 0:=by unfold i64;omega
 have z5:i64 5:=by unfold i64;omega
 have z1:i64 (-1):=by unfold i64;omega
 exact⟨z,h1,h2,h3,h4,h5,⟨⟨z,z5,z,trivial⟩,⟨z,trivial⟩,⟨z,z1,Nat.zero_le _,z,trivial⟩,trivial⟩,⟨⟨z,z,trivial⟩,⟨bt_i64 _ _ _,⟨h6,trivial⟩,z,z,trivial⟩,⟨z,z,Nat.zero_le _,trivial⟩,z,z,trivial⟩,z,trivial⟩
def mkTWaiting(k0:Int)(i:Nat):TWaiting:=(⟨k0+i*5,k0+i*5+1,k0+i*5+1+1,k0+i*5+1+1+1,k0+i*5+1+1+1+1⟩:TWaiting)
def mkTLimit(k0:Int)(i:Nat):TLimit:=(⟨k0+i*3,k0+i*3+1,k0+i*3+1+1⟩:TLimit)
def mkTDone(k0:Int)(i:Nat):TDone:=(⟨k0+i*3,k0+i*3+1,k0+i*3+1+1⟩:TDone)
def mkTFlight(k0:Int)(i:Nat):TFlight:=⟨k0+i*2,markTx (k0+i*2+1)⟩
def mkTSent(k0:Int)(i:Nat):TSent:=⟨k0+i*2,markTx (k0+i*2+1)⟩
def mkTRecord(k0:Int)(i:Nat):TRecord:=⟨k0+i*4,k0+i*4+1,k0+i*4+1+1,markTx (k0+i*4+1+1+1)⟩
end Go.Proofs.YtdinhfeflobafaaGreat
