/- slices. No condition but on sizes. -/
import Derived.Test.YthbepablpaldgaaGreatSM4
import Derived.Test.YthbepablpaldgaaGreatSOwnF
import Derived.Lib.SliceRun
import Derived.Deep.RegionLaw
import Derived.Test.YthbepablpaldgaaGreatSM20
import Derived.Test.YthbepablpaldgaaGreatSOkAi
import Derived.Test.YthbepablpaldgaaGreatSOkGi
import Derived.Test.YthbepablpaldgaaGreatSStab3
import Derived.Test.YthbepablpaldgaaGreatSStr
import Derived.Test.YthbepablpaldgaaGreatSOkBs
import Derived.Test.YthbepablpaldgaaGreatSM16
import Derived.Test.YthbepablpaldgaaGreatSStepH
import Derived.Test.YthbepablpaldgaaGreatSOkGs
namespace Go.Proofs.YthbepablpaldgaaGreat
set_option maxRecDepth 100000
set_option maxHeartbeats 8000000
set_option linter.unusedVariables false
open Go.ChangeShapes Go.WideShapes Go.ChangeAt Go.RowKit
private abbrev u62:=Tryz.underlying62
private abbrev u63:=Tryz.underlying63
private abbrev u65:=Tryz.underlying65
private abbrev u76:=Tryz.underlying76
private abbrev u88:=Tryz.underlying88
theorem splice_eq:∀ (us cs:List Value) (o:Nat),o+us.length≤cs.length→splice cs o us=cs.take o++us++cs.drop (o+us.length)
 | [],cs,o,_=>by simp[splice]
 | v::r,cs,o,h=>by
  simp only[List.length_cons]at h
  rw[splice,splice_eq r (cs.set o v) (o+1) (by simp;omega)]
  have h1:(cs.set o v).take (o+1)=cs.take o++[v]:=by
   rw[List.take_add_one,List.take_set_of_le nl,List.getElem?_set_self (by omega)];rfl
  rw[h1,List.drop_set_of_lt (by omega),List.length_cons,show o+1+r.length=o+(r.length+1)by omega]
  simp
theorem splice_len{us cs:List Value}{o:Nat}(h:o+us.length≤cs.length):(splice cs o us).length=cs.length:=by
 rw[splice_eq us cs o h];simp;omega
theorem zeroCells_one{z:Array Value}:(Builtin.zeroCells z 1).toList=z.toList:=by
 apply List.ext_getElem
 ·simp[Builtin.zeroCells]
 ·intro i h1 h2
  have:i<z.size:=by simpa using h2
  simp[Builtin.zeroCells,Nat.mod_eq_of_lt this,this]
theorem run_clear1{P:Program}(w:World)(t e ty:TypeId)(z:Value)(us:List Value)(ht:P.underlying t=some (.slice e))(hv:∀ w,(zeroValue e).run P w=.ok z w)(hz:z.cells.toList=us)(h1:us.all (·.oneCell')=true)(b o c:Nat)(hl:w.there b o us.length) :
  (Builtin.clear_ #[t] ty #[.slice (some ⟨b,o,none⟩) 1 c]).run P w=.ok (.tuple #[]) (w.setCells b o us):=by
 have hst:=run_storeCells_cells (P:=P) b o us 0 w (fun j hj=>by simpa using(hl j hj).1) (fun j hj=>by simpa using(hl j hj).2) (fun u hu=>List.all_eq_true.1 h1 u hu)
 simp only[Nat.add_zero]at hst
 simp[Builtin.clear_,run_underlying ht,hv,zeroCells_one,hz,hst]
section
variable {α:Type} {enc:α→List Value} {T size B:Nat} {w w':World} {c:Nat} {l:List α}
theorem flatMap_take{n:Nat}(h:∀ x:α,(enc x).length=size):∀ (l:List α) (n:Nat),(l.flatMap enc).take (n*size)=(l.take n).flatMap enc
 | [],n=>by simp
 | x::r,0=>by simp
 | x::r,n+1=>by
  rw[List.flatMap_cons,List.take_succ_cons,List.flatMap_cons,← flatMap_take (n:=n) h r n,List.take_append,h x,List.take_of_length_le (by rw[h x,Nat.add_mul];omega),show(n+1)*size - size=n*size by rw[Nat.add_mul];omega]
theorem flatMap_drop(h:∀ x:α,(enc x).length=size):∀ (l:List α) (n:Nat),(l.flatMap enc).drop (n*size)=(l.drop n).flatMap enc
 | [],n=>by simp
 | x::r,0=>by simp
 | x::r,n+1=>by
  rw[List.flatMap_cons,List.drop_succ_cons,← flatMap_drop h r n,List.drop_append,h x,List.drop_of_length_le (by rw[h x,Nat.add_mul];omega),show(n+1)*size - size=n*size by rw[Nat.add_mul];omega,List.nil_append]
theorem Own.del{g k:Nat}{us:List Value}(h:Own enc T size B w (some ⟨g,0,none⟩) c l)(hk:k<l.length)(hu:us.length=size)(hsz:0<size) :
  ∃ cs:List Value,Held w g cs T∧(l.drop (k+1)).flatMap enc=(cs.drop ((k+1)*size)).take ((l.length - (k+1))*size)∧l.length*size≤cs.length∧l.length≤c∧c≤9223372036854775807 ∧
   ∀ w',Held w' g (splice (splice cs (k*size) ((l.drop (k+1)).flatMap enc)) ((l.length - 1)*size) us) T→Own enc T size B w' (some ⟨g,0,none⟩) c (l.eraseIdx k):=by
 obtain⟨hs,hlen,⟨hv,hn0⟩|⟨g',cap,cur,hv,hB,hheap,hle,hmax,hcs,ht⟩⟩:=h
 ·omega
 ·simp only[Value.slice.injEq,Option.some.injEq,Addr.mk.injEq]at hv
  obtain⟨⟨rfl,-,-⟩,-,rfl⟩:=hv
  have hL:cur.toList.length=c*size:=by rw[Array.length_toList];exact hcs
  have hfl:=flatMap_length hs l
  have htake:cur.toList.take (l.length*size)=l.flatMap enc:=by
   exact ht
  have hcl:l.length*size≤c*size:=Nat.mul_le_mul_right _ hle
  have hk1:(k+1)*size≤l.length*size:=Nat.mul_le_mul_right _ hk
  have e1:(k+1)*size=k*size+size:=by rw[Nat.add_mul];omega
  have e2:(l.length - (k+1))*size=l.length*size - (k+1)*size:=Nat.sub_mul _ _ _
  have e3:(l.length - 1)*size=l.length*size - size:=by rw[Nat.sub_mul];omega
  have hdl:((l.drop (k+1)).flatMap enc).length=(l.length - (k+1))*size:=by rw[flatMap_length hs,List.length_drop]
  have hd:(l.drop (k+1)).flatMap enc=(cur.toList.drop ((k+1)*size)).take ((l.length - (k+1))*size):=by
   rw[← flatMap_drop hs,← htake,List.drop_take,e2]
  refine⟨cur.toList,by unfold Held;simpa using hheap,hd,by rw[hL];exact hcl,hle,by unfold maxLen at hmax;omega,fun w' hH=>⟨hs,by rw[flatMap_length hs],.inr ⟨g,c,_,?_,hB,hH,?_,hmax,?_,?_⟩⟩⟩
  ·rfl
  ·rw[List.length_eraseIdx,if_pos hk];omega
  ·have l1:(splice cur.toList (k*size) ((l.drop (k+1)).flatMap enc)).length=c*size:=by rw[splice_len (by rw[hdl,hL];omega),hL]
   show(splice _ _ _).toArray.size=_
   rw[List.size_toArray,splice_len (by rw[l1,hu];omega),l1]
  ·have l1:(splice cur.toList (k*size) ((l.drop (k+1)).flatMap enc)).length=c*size:=by rw[splice_len (by rw[hdl,hL];omega),hL]
   have hEl:((l.eraseIdx k).flatMap enc).length=(l.length - 1)*size:=by rw[flatMap_length hs,List.length_eraseIdx,if_pos hk]
   rw[List.length_eraseIdx,if_pos hk,splice_eq us _ _ (by rw[l1,hu];omega),splice_eq _ _ _ (by rw[hdl,hL];omega),hdl]
   have hE:(l.eraseIdx k).flatMap enc=(l.flatMap enc).take (k*size)++(l.drop (k+1)).flatMap enc:=by
    rw[List.eraseIdx_eq_take_drop_succ,List.flatMap_append,flatMap_take (n:=k) hs]
   have hT:cur.toList.take (k*size)=(l.flatMap enc).take (k*size):=by rw[← htake,List.take_take,Nat.min_eq_left (by omega)]
   rw[hE,← hT]
   have hA:(cur.toList.take (k*size)++(l.drop (k+1)).flatMap enc).length=(l.length - 1)*size:=by rw[List.length_append,hdl,List.length_take,hL];omega
   show List.take _ (List.take _ _++us++_)=_
   rw[List.append_assoc,List.take_append_of_le_length (by rw[List.length_take,List.length_append,hA];simp),List.take_take,Nat.min_self,List.take_append_of_le_length (by rw[hA];exact Nat.le_refl _),List.take_of_length_le (by rw[hA];exact Nat.le_refl _)]
end
theorem c_DeleteRecord{B k:Nat}{a:Option Addr}{c:Nat}{l:List TRecord}{w:World}(h:Own encTRecord 197 4 B w a c l)(hk:k<l.length)(hm:l.length≤100000000) :
  Calls Tryz.prog 282 #[.slice a l.length c,.int .i64 k,.int .i64 ((k:Int)+1)] w (fun e w'=>e=.returned (.slice a (l.length - 1) c)∧Own encTRecord 197 4 B w' a c (l.eraseIdx k)∧w.grownBy w' (blkOf a)):=by
 obtain⟨g,rfl⟩:∃ g,a=some ⟨g,0,none⟩:=by
  obtain⟨-,-,⟨hv,hn0⟩|⟨g,cap,cur,hv,-⟩⟩:=h
  ·omega
  ·simp only[Value.slice.injEq]at hv;exact⟨g,hv.1⟩
 obtain⟨i0,hi0,hz1⟩:=Option.map_eq_some_iff.1 (show(Tryz.prog.info? 197).map (·.size)=some 4 by kernel_rfl)
 obtain⟨cs,hH,hd,hcs,hle,hc,hO⟩:=h.del (us:=[.int .i64 0,.int .i64 0,.int .i64 0,.string ⟨#[]⟩]) hk rfl (by decide)
 obtain⟨n,hn⟩:∃ n,l.length=n:=⟨_,rfl⟩
 obtain⟨news,hnews⟩:∃ news,(l.drop (k+1)).flatMap encTRecord=news:=⟨_,rfl⟩
 rw[hnews,hn]at hd hO
 rw[hn]at hcs hle hk hm ⊢
 have hnl:news.length=(n - (k+1))*4:=by rw[← hnews,flatMap_length (size:=4) (fun _=>rfl),List.length_drop,hn]
 obtain⟨A,hA,hsrc⟩:∃ A:Addr,(if c=k+1 then some (⟨g,0,none⟩:Addr)else some ⟨g,(k+1)*4,none⟩)=some A∧Hid (∀ t u,news[t]?=some u→w.drew.cell? (A.add t)=some u):=by
  by_cases e:c=k+1
  ·refine⟨⟨g,0,none⟩,by rw[if_pos e],fun t u hu=>?_⟩
   have:news.length=0:=by rw[hnl,show n - (k+1)=0 by omega,Nat.zero_mul]
   rw[List.length_eq_zero_iff.1 this]at hu
   simp at hu
  ·refine⟨⟨g,(k+1)*4,none⟩,by rw[if_neg e],fun t u hu=>?_⟩
   have ht:t<(n - (k+1))*4:=by rw[← hnl];exact(List.getElem?_eq_some_iff.1 hu).1
   rw[hd,List.getElem?_take_of_lt ht,List.getElem?_drop]at hu
   have e2:(⟨g,(k+1)*4,none⟩:Addr).add t=⟨g,(k+1)*4+t,none⟩:=by
    unfold Addr.add;split
    ·rename_i h0;rw[h0];simp
    ·simp
   rw[e2]
   exact(hH.cell _).trans hu
 have s1:Hid (news.length=(n - (k+1))*4):=hnl
 have s2:Hid (∀ u∈news,u.oneCell'=true):=by
  intro u hu
  rw[← hnews]at hu
  obtain⟨x,_,hx⟩:=List.mem_flatMap.1 hu
  exact Flat.one x u hx
 have s3:Hid (∀ t,t<news.length→(w.drew.cell? ⟨g,0+k*4+t,none⟩).isSome=true∧w.drew.frozen? ⟨g,0+k*4+t,none⟩=false):=by
  intro t ht
  rw[hnl]at ht
  have:=(hH.there (o:=0+k*4) (n:=(n - (k+1))*4) (by omega)) t ht
  exact this
 obtain⟨W1,hW1⟩:∃ W1,W1=w.drew.setCells g (0+k*4) news:=⟨_,rfl⟩
 have hH1:Held W1 g (splice cs (k*4) news) 197:=by rw[hW1,Nat.zero_add];exact Held.setCells news (k*4) hH
 have hL1:(splice cs (k*4) news).length=cs.length:=splice_len (by rw[hnl];omega)
 have hcl:∀ ty q,(Builtin.clear_ #[73] ty #[.slice (some ⟨g,(n - 1)*4,none⟩) 1 q]).run Tryz.prog W1=.ok (.tuple #[]) (W1.setCells g ((n - 1)*4) [.int .i64 0,.int .i64 0,.int .i64 0,.string ⟨#[]⟩]) :=
  fun ty q=>run_clear1 W1 _ _ ty (.agg #[.int .i64 0,.int .i64 0,.int .i64 0,.string ⟨#[]⟩]) [.int .i64 0,.int .i64 0,.int .i64 0,.string ⟨#[]⟩] Tryz.underlying73 (fun w=>by kernel_rfl) rfl rfl g _ q (by have:=hH1.there (o:=(n - 1)*4) (n:=4) (by rw[hL1];omega);exact this)
 have X:Hid (Held (W1.setCells g ((n - 1)*4) [.int .i64 0,.int .i64 0,.int .i64 0,.string ⟨#[]⟩]) g (splice (splice cs (k*4) news) ((n - 1)*4) [.int .i64 0,.int .i64 0,.int .i64 0,.string ⟨#[]⟩]) 197):=Held.setCells _ _ hH1
 have HO:=lH hO
 have hW:Hid (W1=w.drew.setCells g (0+k*4) news):=hW1
 have HWg:=lH (show w.grownBy (W1.setCells g ((n - 1)*4) [.int .i64 0,.int .i64 0,.int .i64 0,.string ⟨#[]⟩]) (some g)from by
  have hb:Below g w (W1.setCells g ((n - 1)*4) [.int .i64 0,.int .i64 0,.int .i64 0,.string ⟨#[]⟩]):=below_setCells (Nat.le_refl g) _ _ (hW1▸below_setCells (Nat.le_refl g) _ _ (Below.refl g w).drew)
  have hu:But g w (W1.setCells g ((n - 1)*4) [.int .i64 0,.int .i64 0,.int .i64 0,.string ⟨#[]⟩]):=But.setCells _ _ (hW1▸But.setCells _ _ ⟨Nat.le_refl _,fun _ _ _=>rfl⟩)
  exact⟨hb.os,hb.tape,hb.output,hb.size,fun q h1 h2=>hu.block q (fun e=>h2 (by rw[e])) h1⟩)
 have hj0:(0:Int)≤(k:Int)+1:=by omega
 have hj1:(k:Int)+1≤(n:Int):=by omega
 have hic:k≤c:=by omega
 have hjc:k+1≤c:=by omega
 have hlc:k+(n - (k+1))=n - 1:=by omega
 have hl1:n - 1≤c:=by omega
 clear hW1 hH1 hL1 hH hcs hnl hnews hd hO h
 go_enter Tryz.func282,Tryz.ntmps282
 go_wp2_with fail
 go_region_law (refine step_append_room rfl (.tmp 22) (.tmp 25) 73 rfl 197 i0 4 Tryz.underlying73 hi0 hz1 g 0 k c (by simp[Act.eval,Act.put]) A (n - (k+1)) (c - (k+1)) news (by simp[Act.eval,Act.put]) s1.out hsrc.out s2.out (by omega) s3.out ?_;rw[← hW.out])
 have hne:¬ c=n - 1:=by omega
 have h1n:n - (n - 1)=1:=by omega
 go_wp2_with (first|((with_reducible refine rl ?_);(repeat(first|go_big_quiet_step (first|fail)|simp only[hne]|simp only[h1n]));refine wpQuiet_nil ?_;intro x))
 go_ret
 exact⟨rfl,HO.out _ X.out,HWg.out⟩
theorem c_DeleteWaiting{B k:Nat}{a:Option Addr}{c:Nat}{l:List TWaiting}{w:World}(h:Own encTWaiting 169 5 B w a c l)(hk:k<l.length)(hm:l.length≤100000000) :
  Calls Tryz.prog 129 #[.slice a l.length c,.int .i64 k,.int .i64 ((k:Int)+1)] w (fun e w'=>e=.returned (.slice a (l.length - 1) c)∧Own encTWaiting 169 5 B w' a c (l.eraseIdx k)∧w.grownBy w' (blkOf a)):=by
 obtain⟨g,rfl⟩:∃ g,a=some ⟨g,0,none⟩:=by
  obtain⟨-,-,⟨hv,hn0⟩|⟨g,cap,cur,hv,-⟩⟩:=h
  ·omega
  ·simp only[Value.slice.injEq]at hv;exact⟨g,hv.1⟩
 obtain⟨i0,hi0,hz1⟩:=Option.map_eq_some_iff.1 (show(Tryz.prog.info? 169).map (·.size)=some 5 by kernel_rfl)
 obtain⟨cs,hH,hd,hcs,hle,hc,hO⟩:=h.del (us:=[.int .i64 0,.int .i64 0,.int .i64 0,.int .i64 0,.int .i64 0]) hk rfl (by decide)
 obtain⟨n,hn⟩:∃ n,l.length=n:=⟨_,rfl⟩
 obtain⟨news,hnews⟩:∃ news,(l.drop (k+1)).flatMap encTWaiting=news:=⟨_,rfl⟩
 rw[hnews,hn]at hd hO
 rw[hn]at hcs hle hk hm ⊢
 have hnl:news.length=(n - (k+1))*5:=by rw[← hnews,flatMap_length (size:=5) (fun _=>rfl),List.length_drop,hn]
 obtain⟨A,hA,hsrc⟩:∃ A:Addr,(if c=k+1 then some (⟨g,0,none⟩:Addr)else some ⟨g,(k+1)*5,none⟩)=some A∧Hid (∀ t u,news[t]?=some u→w.drew.cell? (A.add t)=some u):=by
  by_cases e:c=k+1
  ·refine⟨⟨g,0,none⟩,by rw[if_pos e],fun t u hu=>?_⟩
   have:news.length=0:=by rw[hnl,show n - (k+1)=0 by omega,Nat.zero_mul]
   rw[List.length_eq_zero_iff.1 this]at hu
   simp at hu
  ·refine⟨⟨g,(k+1)*5,none⟩,by rw[if_neg e],fun t u hu=>?_⟩
   have ht:t<(n - (k+1))*5:=by rw[← hnl];exact(List.getElem?_eq_some_iff.1 hu).1
   rw[hd,List.getElem?_take_of_lt ht,List.getElem?_drop]at hu
   have e2:(⟨g,(k+1)*5,none⟩:Addr).add t=⟨g,(k+1)*5+t,none⟩:=by
    unfold Addr.add;split
    ·rename_i h0;rw[h0];simp
    ·simp
   rw[e2]
   exact(hH.cell _).trans hu
 have s1:Hid (news.length=(n - (k+1))*5):=hnl
 have s2:Hid (∀ u∈news,u.oneCell'=true):=by
  intro u hu
  rw[← hnews]at hu
  obtain⟨x,_,hx⟩:=List.mem_flatMap.1 hu
  exact Flat.one x u hx
 have s3:Hid (∀ t,t<news.length→(w.drew.cell? ⟨g,0+k*5+t,none⟩).isSome=true∧w.drew.frozen? ⟨g,0+k*5+t,none⟩=false):=by
  intro t ht
  rw[hnl]at ht
  have:=(hH.there (o:=0+k*5) (n:=(n - (k+1))*5) (by omega)) t ht
  exact this
 obtain⟨W1,hW1⟩:∃ W1,W1=w.drew.setCells g (0+k*5) news:=⟨_,rfl⟩
 have hH1:Held W1 g (splice cs (k*5) news) 169:=by rw[hW1,Nat.zero_add];exact Held.setCells news (k*5) hH
 have hL1:(splice cs (k*5) news).length=cs.length:=splice_len (by rw[hnl];omega)
 have hcl:∀ ty q,(Builtin.clear_ #[79] ty #[.slice (some ⟨g,(n - 1)*5,none⟩) 1 q]).run Tryz.prog W1=.ok (.tuple #[]) (W1.setCells g ((n - 1)*5) [.int .i64 0,.int .i64 0,.int .i64 0,.int .i64 0,.int .i64 0]) :=
  fun ty q=>run_clear1 W1 _ _ ty (.agg #[.int .i64 0,.int .i64 0,.int .i64 0,.int .i64 0,.int .i64 0]) [.int .i64 0,.int .i64 0,.int .i64 0,.int .i64 0,.int .i64 0] Tryz.underlying79 (fun w=>by kernel_rfl) rfl rfl g _ q (by have:=hH1.there (o:=(n - 1)*5) (n:=5) (by rw[hL1];omega);exact this)
 have X:Hid (Held (W1.setCells g ((n - 1)*5) [.int .i64 0,.int .i64 0,.int .i64 0,.int .i64 0,.int .i64 0]) g (splice (splice cs (k*5) news) ((n - 1)*5) [.int .i64 0,.int .i64 0,.int .i64 0,.int .i64 0,.int .i64 0]) 169):=Held.setCells _ _ hH1
 have HO:=lH hO
 have hW:Hid (W1=w.drew.setCells g (0+k*5) news):=hW1
 have HWg:=lH (show w.grownBy (W1.setCells g ((n - 1)*5) [.int .i64 0,.int .i64 0,.int .i64 0,.int .i64 0,.int .i64 0]) (some g)from by
  have hb:Below g w (W1.setCells g ((n - 1)*5) [.int .i64 0,.int .i64 0,.int .i64 0,.int .i64 0,.int .i64 0]):=below_setCells (Nat.le_refl g) _ _ (hW1▸below_setCells (Nat.le_refl g) _ _ (Below.refl g w).drew)
  have hu:But g w (W1.setCells g ((n - 1)*5) [.int .i64 0,.int .i64 0,.int .i64 0,.int .i64 0,.int .i64 0]):=But.setCells _ _ (hW1▸But.setCells _ _ ⟨Nat.le_refl _,fun _ _ _=>rfl⟩)
  exact⟨hb.os,hb.tape,hb.output,hb.size,fun q h1 h2=>hu.block q (fun e=>h2 (by rw[e])) h1⟩)
 have hj0:(0:Int)≤(k:Int)+1:=by omega
 have hj1:(k:Int)+1≤(n:Int):=by omega
 have hic:k≤c:=by omega
 have hjc:k+1≤c:=by omega
 have hlc:k+(n - (k+1))=n - 1:=by omega
 have hl1:n - 1≤c:=by omega
 clear hW1 hH1 hL1 hH hcs hnl hnews hd hO h
 go_enter Tryz.func129,Tryz.ntmps129
 go_wp2_with fail
 go_region_law (refine step_append_room rfl (.tmp 22) (.tmp 25) 79 rfl 169 i0 5 Tryz.underlying79 hi0 hz1 g 0 k c (by simp[Act.eval,Act.put]) A (n - (k+1)) (c - (k+1)) news (by simp[Act.eval,Act.put]) s1.out hsrc.out s2.out (by omega) s3.out ?_;rw[← hW.out])
 have hne:¬ c=n - 1:=by omega
 have h1n:n - (n - 1)=1:=by omega
 go_wp2_with (first|((with_reducible refine rl ?_);(repeat(first|go_big_quiet_step (first|fail)|simp only[hne]|simp only[h1n]));refine wpQuiet_nil ?_;intro x))
 go_ret
 exact⟨rfl,HO.out _ X.out,HWg.out⟩
theorem c_iMissionOk{B:Nat}{vs:List Value}{m:TMission}{w:World}(h:Enc.Rd B w vs m)(ht:Enc.tot m≤100000000) :
  Calls Tryz.prog 33 #[.agg vs.toArray] w (Gives w (.bool (missionOk m))):=by
 obtain⟨A,hvs,F⟩:=h
 have M:=lH (mission_small ht)
 have FH:=lH F
 clear F ht
 obtain⟨n0,hn0⟩:∃ n,m.Plan.length=n:=⟨_,rfl⟩
 obtain⟨n20,hn20⟩:∃ n,m.Offered.length=n:=⟨_,rfl⟩
 obtain⟨n21,hn21⟩:∃ n,m.Took.length=n:=⟨_,rfl⟩
 rw[hn0,hn20,hn21]at hvs
 have hm0:n0≤100000000:=hn0▸M.out.m0
 have hm20:n20≤100000000:=hn20▸M.out.m20
 have hm21:n21≤100000000:=hn21▸M.out.m21
 have HN0:=lH hn0;have HN20:=lH hn20;have HN21:=lH hn21
 clear hn0 hn20 hn21
 have HB:=lH (Held.new w vs 90 w.heap.size rfl)
 have e0:=HB.out.cellG 0 (.int .i64 m.Time) (by rw[hvs];rfl)
 have e1:=HB.out.cellG 1 (.int .i64 m.Light) (by rw[hvs];rfl)
 have e7:=HB.out.cellG 7 (.slice A.a0 n0 A.c0) (by rw[hvs];rfl)
 have e14:=HB.out.cellG 14 (.slice A.a1 m.Ups.length A.c1) (by rw[hvs];rfl)
 have e15:=HB.out.cellG 15 (.slice A.a2 m.Downs.length A.c2) (by rw[hvs];rfl)
 have e58:=HB.out.cellG 58 (.slice A.a20 n20 A.c20) (by rw[hvs];rfl)
 have e59:=HB.out.cellG 59 (.slice A.a21 n21 A.c21) (by rw[hvs];rfl)
 have e60:=HB.out.cellG 60 (.int .i64 m.Bad) (by rw[hvs];rfl)
 have HVS:=lH hvs;clear hvs
 go_enter Tryz.func33,Tryz.ntmps33
 go_wp2_with (fail)
 refine gm (c_ibetween) ?_
 intro y1
 cases g1:inB m.Time 0 1000000
 ·have HF:=lH (show missionOk m=false from missionOk_no1 g1)
  clear g1
  go_wp2_with (fail)
  go_ret
  exact Gives.mk (by rw[HF.out];rfl)
 have T1:=lH g1;clear g1
 go_wp2_with (fail)
 refine gm (c_ibetween) ?_
 intro y2
 cases g2:inB m.Light 0 50
 ·have HF:=lH (show missionOk m=false from missionOk_no2 g2)
  clear g2
  go_wp2_with (fail)
  go_ret
  exact Gives.mk (by rw[HF.out];rfl)
 have T2:=lH g2;clear g2
 go_wp2_with (fail)
 refine gm (c_ibetween) ?_
 intro y3
 cases g3:inB m.Bad 0 1000000
 ·have HF:=lH (show missionOk m=false from missionOk_no3 g3)
  clear g3
  go_wp2_with (fail)
  go_ret
  exact Gives.mk (by rw[HF.out];rfl)
 have T3:=lH g3;clear g3
 go_wp2_with (first|(refine stepLoadW kg _ _ rfl w.heap.size 2 rfl (row:=[.int .i64 m.Drift.Rate,.int .i64 m.Drift.Offset]) (HB.out.to ii) _ u62 rfl kr (by rw[HVS.out];kernel_rfl) ?_)|(refine step_loadw kg _ _ rfl w.heap.size 2 rfl (row:=[.int .i64 m.Drift.Rate,.int .i64 m.Drift.Offset]) (HB.out.to ii) _ u62 rfl kr (by rw[HVS.out];kernel_rfl) ?_)|(refine step_loadp _ _ rfl w.heap.size 2 rfl (row:=[.int .i64 m.Drift.Rate,.int .i64 m.Drift.Offset]) (HB.out.to ii) _ u62 rfl kr (by rw[HVS.out];kernel_rfl) ?_))
 refine gm (k_iDriftOk (x:=m.Drift)) ?_
 intro y4
 cases g4:driftOkT m.Drift
 ·have HF:=lH (show missionOk m=false from missionOk_no4 g4)
  clear g4
  go_wp2_with (fail)
  go_ret
  exact Gives.mk (by rw[HF.out];rfl)
 have T4:=lH g4;clear g4
 go_wp2_with (first|(refine stepLoadW kg _ _ rfl w.heap.size 4 rfl (row:=[.int .i64 m.Orbit.Period,.int .i64 m.Orbit.Start,.int .i64 m.Orbit.Length]) (HB.out.to ii) _ u63 rfl kr (by rw[HVS.out];kernel_rfl) ?_)|(refine step_loadw kg _ _ rfl w.heap.size 4 rfl (row:=[.int .i64 m.Orbit.Period,.int .i64 m.Orbit.Start,.int .i64 m.Orbit.Length]) (HB.out.to ii) _ u63 rfl kr (by rw[HVS.out];kernel_rfl) ?_)|(refine step_loadp _ _ rfl w.heap.size 4 rfl (row:=[.int .i64 m.Orbit.Period,.int .i64 m.Orbit.Start,.int .i64 m.Orbit.Length]) (HB.out.to ii) _ u63 rfl kr (by rw[HVS.out];kernel_rfl) ?_))
 refine gm (k_iOrbitOk (x:=m.Orbit)) ?_
 intro y5
 cases g5:orbitOkT m.Orbit
 ·have HF:=lH (show missionOk m=false from missionOk_no5 g5)
  clear g5
  go_wp2_with (fail)
  go_ret
  exact Gives.mk (by rw[HF.out];rfl)
 have T5:=lH g5;clear g5
 go_wp2_with (first|(refine stepLoadW kg _ _ rfl w.heap.size 8 rfl (row:=[.int .i64 m.Up.Seed,.int .i64 m.Up.Burst,.int .i64 m.Up.Loss]) (HB.out.to ii) _ u65 rfl kr (by rw[HVS.out];kernel_rfl) ?_)|(refine step_loadw kg _ _ rfl w.heap.size 8 rfl (row:=[.int .i64 m.Up.Seed,.int .i64 m.Up.Burst,.int .i64 m.Up.Loss]) (HB.out.to ii) _ u65 rfl kr (by rw[HVS.out];kernel_rfl) ?_)|(refine step_loadp _ _ rfl w.heap.size 8 rfl (row:=[.int .i64 m.Up.Seed,.int .i64 m.Up.Burst,.int .i64 m.Up.Loss]) (HB.out.to ii) _ u65 rfl kr (by rw[HVS.out];kernel_rfl) ?_))
 refine gm (k_iChannelOk (x:=m.Up)) ?_
 intro y6
 cases g6:channelOk m.Up
 ·have HF:=lH (show missionOk m=false from missionOk_no6 g6)
  clear g6
  go_wp2_with (fail)
  go_ret
  exact Gives.mk (by rw[HF.out];rfl)
 have T6:=lH g6;clear g6
 go_wp2_with (first|(refine stepLoadW kg _ _ rfl w.heap.size 11 rfl (row:=[.int .i64 m.Down.Seed,.int .i64 m.Down.Burst,.int .i64 m.Down.Loss]) (HB.out.to ii) _ u65 rfl kr (by rw[HVS.out];kernel_rfl) ?_)|(refine step_loadw kg _ _ rfl w.heap.size 11 rfl (row:=[.int .i64 m.Down.Seed,.int .i64 m.Down.Burst,.int .i64 m.Down.Loss]) (HB.out.to ii) _ u65 rfl kr (by rw[HVS.out];kernel_rfl) ?_)|(refine step_loadp _ _ rfl w.heap.size 11 rfl (row:=[.int .i64 m.Down.Seed,.int .i64 m.Down.Burst,.int .i64 m.Down.Loss]) (HB.out.to ii) _ u65 rfl kr (by rw[HVS.out];kernel_rfl) ?_))
 refine gm (k_iChannelOk (x:=m.Down)) ?_
 intro y7
 cases g7:channelOk m.Down
 ·have HF:=lH (show missionOk m=false from missionOk_no7 g7)
  clear g7
  go_wp2_with (fail)
  go_ret
  exact Gives.mk (by rw[HF.out];rfl)
 have T7:=lH g7;clear g7
 by_cases h8:n0≤1500
 rotate_left
 ·have k8:decide (1500<(n0:Int))=true:=by simp;omega
  have k8b:decide ((n0:Int)≤1500)=false:=by simp;omega
  have HF:=lH (show missionOk m=false from missionOk_no8 (by rw[HN0.out];exact k8b))
  clear h8
  go_wp2_with (fail)
  go_ret
  exact Gives.mk (by rw[HF.out];rfl)
 have k8:decide (1500<(n0:Int))=false:=by simp;omega
 have k8b:decide ((n0:Int)≤1500)=true:=by simp;omega
 have T8:=lH (show decide ((m.Plan.length:Int)≤1500)=true by rw[HN0.out];exact k8b)
 clear h8
 go_wp2_with (fail)
 refine gm (k_iflightsOkN (l:=m.Ups) FH.out.q1 rfl M.out.m1) ?_
 intro y9
 cases g9:flightsOk m.Ups
 ·have HF:=lH (show missionOk m=false from missionOk_no9 g9)
  clear g9
  go_wp2_with (fail)
  go_ret
  exact Gives.mk (by rw[HF.out];rfl)
 have T9:=lH g9;clear g9
 go_wp2_with (fail)
 refine gm (k_iflightsOkN (l:=m.Downs) FH.out.q2 rfl M.out.m2) ?_
 intro y10
 cases g10:flightsOk m.Downs
 ·have HF:=lH (show missionOk m=false from missionOk_no10 g10)
  clear g10
  go_wp2_with (fail)
  go_ret
  exact Gives.mk (by rw[HF.out];rfl)
 have T10:=lH g10;clear g10
 go_wp2_with (first|(refine stepLoadW kg _ _ rfl w.heap.size 16 rfl (row:=(cGround m.Ground A.a3 A.c3 A.a4 A.c4 A.a5 A.c5 A.a6 A.c6 A.a7 A.c7 A.a8 A.c8)) (HB.out.to ii) _ u76 rfl kr (by rw[HVS.out];kernel_rfl) ?_)|(refine step_loadw kg _ _ rfl w.heap.size 16 rfl (row:=(cGround m.Ground A.a3 A.c3 A.a4 A.c4 A.a5 A.c5 A.a6 A.c6 A.a7 A.c7 A.a8 A.c8)) (HB.out.to ii) _ u76 rfl kr (by rw[HVS.out];kernel_rfl) ?_)|(refine step_loadp _ _ rfl w.heap.size 16 rfl (row:=(cGround m.Ground A.a3 A.c3 A.a4 A.c4 A.a5 A.c5 A.a6 A.c6 A.a7 A.c7 A.a8 A.c8)) (HB.out.to ii) _ u76 rfl kr (by rw[HVS.out];kernel_rfl) ?_))
 refine gm (k_igroundOk (bd:=m.Ground) FH.out.q3 FH.out.q4 FH.out.q5 FH.out.q6 FH.out.q7 FH.out.q8 FH.out.ok.2.2.2.2.2.2.1 rfl rfl rfl rfl rfl rfl M.out.m3 M.out.m4 M.out.m5 M.out.m6 M.out.m7 M.out.m8 M.out.hxf) ?_
 intro y11
 cases g11:groundOk m.Ground
 ·have HF:=lH (show missionOk m=false from missionOk_no11 g11)
  clear g11
  go_wp2_with (fail)
  go_ret
  exact Gives.mk (by rw[HF.out];rfl)
 have T11:=lH g11;clear g11
 go_wp2_with (first|(refine stepLoadW kg _ _ rfl w.heap.size 33 rfl (row:=(cSpace m.Space A.a9 A.c9 A.a10 A.c10 A.a11 A.c11 A.a12 A.c12 A.a13 A.c13 A.a14 A.c14 A.a15 A.c15 A.a16 A.c16 A.a17 A.c17 A.a18 A.c18 A.a19 A.c19)) (HB.out.to ii) _ u88 rfl kr (by rw[HVS.out];kernel_rfl) ?_)|(refine step_loadw kg _ _ rfl w.heap.size 33 rfl (row:=(cSpace m.Space A.a9 A.c9 A.a10 A.c10 A.a11 A.c11 A.a12 A.c12 A.a13 A.c13 A.a14 A.c14 A.a15 A.c15 A.a16 A.c16 A.a17 A.c17 A.a18 A.c18 A.a19 A.c19)) (HB.out.to ii) _ u88 rfl kr (by rw[HVS.out];kernel_rfl) ?_)|(refine step_loadp _ _ rfl w.heap.size 33 rfl (row:=(cSpace m.Space A.a9 A.c9 A.a10 A.c10 A.a11 A.c11 A.a12 A.c12 A.a13 A.c13 A.a14 A.c14 A.a15 A.c15 A.a16 A.c16 A.a17 A.c17 A.a18 A.c18 A.a19 A.c19)) (HB.out.to ii) _ u88 rfl kr (by rw[HVS.out];kernel_rfl) ?_))
 refine gm (k_ispaceOk (bd:=m.Space) FH.out.q9 FH.out.q10 FH.out.q11 FH.out.q12 FH.out.q13 FH.out.q14 FH.out.q15 FH.out.q16 FH.out.q17 FH.out.q18 FH.out.q19 FH.out.ok.2.2.2.2.2.2.2.1 rfl rfl rfl rfl rfl rfl rfl rfl rfl rfl rfl M.out.m9 M.out.m10 M.out.m11 M.out.m12 M.out.m13 M.out.m14 M.out.m15 M.out.m16 M.out.m17 M.out.m18 M.out.m19 M.out.hzr M.out.hxo M.out.hxs) ?_
 intro y12
 cases g12:spaceOk m.Space
 ·have HF:=lH (show missionOk m=false from missionOk_no12 g12)
  clear g12
  go_wp2_with (fail)
  go_ret
  exact Gives.mk (by rw[HF.out];rfl)
 have T12:=lH g12;clear g12
 by_cases h13:n20≤5000
 rotate_left
 ·have k13:decide (5000<(n20:Int))=true:=by simp;omega
  have k13b:decide ((n20:Int)≤5000)=false:=by simp;omega
  have HF:=lH (show missionOk m=false from missionOk_no13 (by rw[HN20.out];exact k13b))
  clear h13
  go_wp2_with (fail)
  go_ret
  exact Gives.mk (by rw[HF.out];rfl)
 have k13:decide (5000<(n20:Int))=false:=by simp;omega
 have k13b:decide ((n20:Int)≤5000)=true:=by simp;omega
 have T13:=lH (show decide ((m.Offered.length:Int)≤5000)=true by rw[HN20.out];exact k13b)
 clear h13
 by_cases h14:n21≤5000
 rotate_left
 ·have k14:decide (5000<(n21:Int))=true:=by simp;omega
  have k14b:decide ((n21:Int)≤5000)=false:=by simp;omega
  have HF:=lH (show missionOk m=false from missionOk_no14 (by rw[HN21.out];exact k14b))
  clear h14
  go_wp2_with (fail)
  go_ret
  exact Gives.mk (by rw[HF.out];rfl)
 have k14:decide (5000<(n21:Int))=false:=by simp;omega
 have k14b:decide ((n21:Int)≤5000)=true:=by simp;omega
 have T14:=lH (show decide ((m.Took.length:Int)≤5000)=true by rw[HN21.out];exact k14b)
 clear h14
 go_wp2_with (fail)
 go_ret
 exact Gives.mk (by rw[missionOk_yes T1.out T2.out T3.out T4.out T5.out T6.out T7.out T8.out T9.out T10.out T11.out T12.out T13.out T14.out];rfl)
theorem k_sspaceOk{B n0 n1 n2 n3 n4 n5 n6 n7 n8 n9 n10:Nat}{a0 a1 a2 a3 a4 a5 a6 a7 a8 a9 a10:Option Addr}{c0 c1 c2 c3 c4 c5 c6 c7 c8 c9 c10:Nat}{bd:TSpace}{w0 w:World}(hq0:RdS B w0 a0 c0 bd.Board.Params)(hq1:RdS B w0 a1 c1 bd.Board.Limits)(hq2:RdS B w0 a2 c2 bd.Board.Orders)(hq3:RdS B w0 a3 c3 bd.Board.Done)(hq4:RdS B w0 a4 c4 bd.Board.Recorder.Records)(hq5:RdS B w0 a5 c5 bd.Board.Recorder.Dropped)(hq6:RdS B w0 a6 c6 bd.Board.Asked)(hq7:RdS B w0 a7 c7 bd.Packer.Starts)(hq8:RdS B w0 a8 c8 bd.Files)(hq9:RdS B w0 a9 c9 bd.Outs)(hq10:RdS B w0 a10 c10 bd.Sent)[g:Keeps B w0 w](ok:okDTSpace bd)(hn0:bd.Board.Params.length=n0)(hn1:bd.Board.Limits.length=n1)(hn2:bd.Board.Orders.length=n2)(hn3:bd.Board.Done.length=n3)(hn4:bd.Board.Recorder.Records.length=n4)(hn5:bd.Board.Recorder.Dropped.length=n5)(hn6:bd.Board.Asked.length=n6)(hn7:bd.Packer.Starts.length=n7)(hn8:bd.Files.length=n8)(hn9:bd.Outs.length=n9)(hn10:bd.Sent.length=n10)(hm0:n0≤100000000)(hm1:n1≤100000000)(hm2:n2≤100000000)(hm3:n3≤100000000)(hm4:n4≤100000000)(hm5:n5≤100000000)(hm6:n6≤100000000)(hm7:n7≤100000000)(hm8:n8≤100000000)(hm9:n9≤100000000)(hm10:n10≤100000000)(hzr:bd.Packer.Rest.size≤100000000)(hxo:∀ y∈bd.Outs,y.Queue.length≤100000000∧y.Data.size≤100000000)(hxs:∀ s∈bd.Files,s.size≤100000000) :
  Calls Tryz.prog 88 #[.agg #[.int .i64 bd.Receiver.Expect,.bool bd.Receiver.Locked,.bool bd.Receiver.Again,.int .i64 bd.Receiver.Taken,.int .i64 bd.Board.Clock,.slice a0 n0 c0,.bool bd.Board.Safe,.slice a1 n1 c1,.slice a2 n2 c2,.slice a3 n3 c3,.int .i64 bd.Board.Recorder.Room,.slice a4 n4 c4,.slice a5 n5 c5,.int .i64 bd.Board.Made,.int .i64 bd.Board.Taken,.slice a6 n6 c6,.int .i64 bd.Packer.Channel,.int .i64 bd.Packer.Count,.string bd.Packer.Rest,.slice a7 n7 c7,.int .i64 bd.Seq,.slice a8 n8 c8,.slice a9 n9 c9,.int .i64 bd.Begun,.slice a10 n10 c10]] w (Gives w (.bool (spaceOk bd))):=by
 have hs0:=hq0.to g
 have hs1:=hq1.to g
 have hs2:=hq2.to g
 have hs3:=hq3.to g
 have hs4:=hq4.to g
 have hs5:=hq5.to g
 have hs6:=hq6.to g
 have hs7:=hq7.to g
 have hs8:=hq8.to g
 have hs9:=hq9.to g
 have hs10:=hq10.to g
 have HN0:=lH hn0
 have HN1:=lH hn1
 have HN2:=lH hn2
 have HN3:=lH hn3
 have HN4:=lH hn4
 have HN5:=lH hn5
 have HN6:=lH hn6
 have HN7:=lH hn7
 have HN8:=lH hn8
 have HN9:=lH hn9
 have HN10:=lH hn10
 clear hq0 hn0 hq1 hn1 hq2 hn2 hq3 hn3 hq4 hn4 hq5 hn5 hq6 hn6 hq7 hn7 hq8 hn8 hq9 hn9 hq10 hn10
 cases g1:receiverOk bd.Receiver
 ·have HF:=lH (show spaceOk bd=false from spaceOk_no1 g1)
  go_enter Tryz.func88,Tryz.ntmps88
  go_wp2_with (first|(go_at_call 82;refine gm (c_sl01In) ?_;intro x)|(go_at_call 189;refine gm (k_sReceiverOk) ?_;intro x))
  go_ret
  exact Gives.mk (by rw[HF.out];rfl)
 have T1:=lH g1
 have oks:=ok.2.1
 have hd0:=HN0.out
 have hd1:=HN1.out
 have hd2:=HN2.out
 have hd3:=HN3.out
 have hd4:=HN4.out
 have hd5:=HN5.out
 have hd6:=HN6.out
 cases g2:boardOk bd.Board
 ·have HF:=lH (show spaceOk bd=false from spaceOk_no2 g2)
  go_enter Tryz.func88,Tryz.ntmps88
  go_wp2_with (first|(go_at_call 82;refine gm (c_sl01In) ?_;intro x)|(go_at_call 189;refine gm (k_sReceiverOk) ?_;intro x)|(go_at_call 90;refine gm (k_sBoardOk) ?_;intro x))
  go_ret
  exact Gives.mk (by rw[HF.out];rfl)
 have T2:=lH g2
 have hd7:=HN7.out
 cases g3:packerOk bd.Packer
 ·have HF:=lH (show spaceOk bd=false from spaceOk_no3 g3)
  go_enter Tryz.func88,Tryz.ntmps88
  go_wp2_with (first|(go_at_call 82;refine gm (c_sl01In) ?_;intro x)|(go_at_call 189;refine gm (k_sReceiverOk) ?_;intro x)|(go_at_call 90;refine gm (k_sBoardOk) ?_;intro x)|(go_at_call 190;refine gm (k_sPackerOkN) ?_;intro x))
  go_ret
  exact Gives.mk (by rw[HF.out];rfl)
 have T3:=lH g3
 cases g4:(bd.Packer.Channel == 0)
 ·have HF:=lH (show spaceOk bd=false from spaceOk_no4 g4)
  have g4b:(bd.Packer.Channel != 0)=true:=by rw[bne,g4];rfl
  go_enter Tryz.func88,Tryz.ntmps88
  go_wp2_with (first|(go_at_call 82;refine gm (c_sl01In) ?_;intro x)|(go_at_call 189;refine gm (k_sReceiverOk) ?_;intro x)|(go_at_call 90;refine gm (k_sBoardOk) ?_;intro x)|(go_at_call 190;refine gm (k_sPackerOkN) ?_;intro x))
  go_ret
  exact Gives.mk (by rw[HF.out];rfl)
 have T4:=lH g4
 have g4b:(bd.Packer.Channel != 0)=false:=by rw[bne,g4];rfl
 cases g5:inB bd.Seq 0 65535
 ·have HF:=lH (show spaceOk bd=false from spaceOk_no5 g5)
  go_enter Tryz.func88,Tryz.ntmps88
  go_wp2_with (first|(go_at_call 82;refine gm (c_sl01In) ?_;intro x)|(go_at_call 189;refine gm (k_sReceiverOk) ?_;intro x)|(go_at_call 90;refine gm (k_sBoardOk) ?_;intro x)|(go_at_call 190;refine gm (k_sPackerOkN) ?_;intro x))
  go_ret
  exact Gives.mk (by rw[HF.out];rfl)
 have T5:=lH g5
 by_cases h8:n8=8
 rotate_left
 ·have k8:((n8:Int) != 8)=true:=by simp;omega
  have k8b:((n8:Int) == 8)=false:=by simp;omega
  have HF:=lH (show spaceOk bd=false from spaceOk_no8 (by rw[HN8.out];exact k8b))
  clear h8
  go_enter Tryz.func88,Tryz.ntmps88
  go_wp2_with (first|(go_at_call 82;refine gm (c_sl01In) ?_;intro x)|(go_at_call 189;refine gm (k_sReceiverOk) ?_;intro x)|(go_at_call 90;refine gm (k_sBoardOk) ?_;intro x)|(go_at_call 190;refine gm (k_sPackerOkN) ?_;intro x))
  go_ret
  exact Gives.mk (by rw[HF.out];rfl)
 subst h8
 have T8:=lH (show((bd.Files.length:Int) == 8)=true by rw[HN8.out];rfl)
 by_cases h9:n9=8
 rotate_left
 ·have k9:((n9:Int) != 8)=true:=by simp;omega
  have k9b:((n9:Int) == 8)=false:=by simp;omega
  have HF:=lH (show spaceOk bd=false from spaceOk_no9 (by rw[HN9.out];exact k9b))
  clear h9
  go_enter Tryz.func88,Tryz.ntmps88
  go_wp2_with (first|(go_at_call 82;refine gm (c_sl01In) ?_;intro x)|(go_at_call 189;refine gm (k_sReceiverOk) ?_;intro x)|(go_at_call 90;refine gm (k_sBoardOk) ?_;intro x)|(go_at_call 190;refine gm (k_sPackerOkN) ?_;intro x))
  go_ret
  exact Gives.mk (by rw[HF.out];rfl)
 subst h9
 have T9:=lH (show((bd.Outs.length:Int) == 8)=true by rw[HN9.out];rfl)
 cases g6:inB bd.Begun 0 (n6:Int)
 ·have HF:=lH (show spaceOk bd=false from spaceOk_no6 (by rw[HN6.out];exact g6))
  go_enter Tryz.func88,Tryz.ntmps88
  go_wp2_with (first|(go_at_call 82;refine gm (c_sl01In) ?_;intro x)|(go_at_call 189;refine gm (k_sReceiverOk) ?_;intro x)|(go_at_call 90;refine gm (k_sBoardOk) ?_;intro x)|(go_at_call 190;refine gm (k_sPackerOkN) ?_;intro x))
  go_ret
  exact Gives.mk (by rw[HF.out];rfl)
 have T6:=lH (show inB bd.Begun 0 bd.Board.Asked.length=true by rw[HN6.out];exact g6)
 have hd10:=HN10.out
 cases g7:recordsOk bd.Sent
 ·have HF:=lH (show spaceOk bd=false from spaceOk_no7 g7)
  go_enter Tryz.func88,Tryz.ntmps88
  go_wp2_with (first|(go_at_call 82;refine gm (c_sl01In) ?_;intro x)|(go_at_call 189;refine gm (k_sReceiverOk) ?_;intro x)|(go_at_call 90;refine gm (k_sBoardOk) ?_;intro x)|(go_at_call 190;refine gm (k_sPackerOkN) ?_;intro x)|(go_at_call 187;refine gm (k_srecordsOkN) ?_;intro x))
  go_ret
  exact Gives.mk (by rw[HF.out];rfl)
 have T7:=lH g7
 go_enter Tryz.func88,Tryz.ntmps88
 go_wp2_with (first|(go_at_call 82;refine gm (c_sl01In) ?_;intro x)|(go_at_call 189;refine gm (k_sReceiverOk) ?_;intro x)|(go_at_call 90;refine gm (k_sBoardOk) ?_;intro x)|(go_at_call 190;refine gm (k_sPackerOkN) ?_;intro x)|(go_at_call 187;refine gm (k_srecordsOkN) ?_;intro x))
 clear g1 g2 g3 g4 g4b g5 g6 g7 oks hd0 hd1 hd2 hd3 hd4 hd5 hd6 hd7 hd10
 go_loopw [3] (fun v wr=>∃ k:Nat,v=.int .i64 k∧k≤8∧Hid (outsFrom bd.Files k (bd.Outs.drop k)=outsFrom bd.Files 0 bd.Outs)∧∃ X:Later (w.alloc (.cells #[.int .i64 bd.Receiver.Expect,.bool bd.Receiver.Locked,.bool bd.Receiver.Again,.int .i64 bd.Receiver.Taken,.int .i64 bd.Board.Clock,.slice a0 n0 c0,.bool bd.Board.Safe,.slice a1 n1 c1,.slice a2 n2 c2,.slice a3 n3 c3,.int .i64 bd.Board.Recorder.Room,.slice a4 n4 c4,.slice a5 n5 c5,.int .i64 bd.Board.Made,.int .i64 bd.Board.Taken,.slice a6 n6 c6,.int .i64 bd.Packer.Channel,.int .i64 bd.Packer.Count,.string bd.Packer.Rest,.slice a7 n7 c7,.int .i64 bd.Seq,.slice a8 8 c8,.slice a9 8 c9,.int .i64 bd.Begun,.slice a10 n10 c10] 88)),wr=X.w) (fun v _=>(8 - intOf v).toNat)
 case atStart=>exact⟨0,rfl,by omega,rfl,Later.of⟩
 case round =>
  obtain⟨k,rfl,hk,HV,X,rfl⟩:=hrel
  by_cases h:k<8
  ·have hkl:k<bd.Outs.length:=by have:=HN9.out;omega
   obtain⟨eb,eoff,es,ea0,ec0,he,ehb,ehd,eq0,eok,eh0,eh1,eh2,eh3⟩:=hs9.atTFileOut hkl
   cases he
   have EOK:=lH eok;clear eok
   obtain⟨fb,foff,fs,hf8,fhb,fhd,fok,fh0⟩:=hs8.atStr (show k<bd.Files.length by have:=HN8.out;omega)
   obtain rfl:=hf8
   have hfs:bd.Files.getD k ByteArray.empty=fs:=by
    have:=congrArg (fun m=>m[0]?) fhd.out
    simp only[List.getElem?_drop,Nat.add_zero,List.getElem?_cons_zero]at this
    simp[List.getD,this]
   have hx3:=hxs fs (memDrop fhd.out)
   have hx1:=(hxo es (memDrop ehd.out)).1
   have hx2:=(hxo es (memDrop ehd.out)).2
   obtain⟨pn,hpn⟩:∃ pn,es.Queue.length=pn:=⟨_,rfl⟩
   rw[hpn]at hx1 eh2
   have HFS:=lH hfs;clear hfs
   clear hkl
   cases d1:decide (600<(fs.size:Int))
   rotate_left
   ·have HF:=lH (show spaceOk bd=false from spaceOk_no10 (by have:=HV.out;rw[ehd.out,outsFrom,HFS.out]at this;rw[← this,outOk,d1]<;>rfl))
    go_wp2_with (first|((with_reducible refine rl ?_);(repeat(first|go_big_quiet_step (first|fail)|simp only[d1]));refine wpQuiet_nil ?_;intro x))
    go_ret
    exact Gives.mk (by rw[HF.out];rfl)
   cases d2:fileOutOkT es
   ·have HF:=lH (show spaceOk bd=false from spaceOk_no10 (by have:=HV.out;rw[ehd.out,outsFrom,HFS.out]at this;rw[← this,outOk,d1,d2]<;>rfl))
    go_wp2_with (first|((with_reducible refine rl ?_);(repeat(first|go_big_quiet_step (first|(go_at_call 93;exact Gives.quiet (k_sFileOutOk)))|simp only[d1]|simp only[d2]));refine wpQuiet_nil ?_;intro x)|(go_at_call 93;refine gm (k_sFileOutOk) ?_;intro x))
    go_ret
    exact Gives.mk (by rw[HF.out];rfl)
   cases d3:(es.File == (k:Int))
   ·have HF:=lH (show spaceOk bd=false from spaceOk_no10 (by have:=HV.out;rw[ehd.out,outsFrom,HFS.out]at this;rw[← this,outOk,d1,d2,d3]<;>rfl))
    have d3b:(es.File != (k:Int))=true:=by rw[bne,d3];rfl
    go_wp2_with (first|((with_reducible refine rl ?_);(repeat(first|go_big_quiet_step (first|(go_at_call 93;exact Gives.quiet (k_sFileOutOk)))|simp only[d1]|simp only[d2]|simp only[d3]|simp only[d3b]));refine wpQuiet_nil ?_;intro x)|(go_at_call 93;refine gm (k_sFileOutOk) ?_;intro x))
    go_ret
    exact Gives.mk (by rw[HF.out];rfl)
   have d3b:(es.File != (k:Int))=false:=by rw[bne,d3];rfl
   cases d4:(es.Data.toList == fs.toList)
   ·have HF:=lH (show spaceOk bd=false from spaceOk_no10 (by have:=HV.out;rw[ehd.out,outsFrom,HFS.out]at this;rw[← this,outOk,d1,d2,d3,d4]<;>rfl))
    have d4b:(es.Data.toList != fs.toList)=true:=by rw[bne,d4];rfl
    go_wp2_with (first|((with_reducible refine rl ?_);(repeat(first|go_big_quiet_step (first|(go_at_call 93;exact Gives.quiet (k_sFileOutOk)))|simp only[d1]|simp only[d2]|simp only[d3]|simp only[d3b]|simp only[d4]|simp only[d4b]));refine wpQuiet_nil ?_;intro x)|(go_at_call 93;refine gm (k_sFileOutOk) ?_;intro x))
    go_ret
    exact Gives.mk (by rw[HF.out];rfl)
   have d4b:(es.Data.toList != fs.toList)=false:=by rw[bne,d4];rfl
   have HF:=lH (show outsFrom bd.Files (k+1) (bd.Outs.drop (k+1))=outsFrom bd.Files 0 bd.Outs by have:=HV.out;rw[ehd.out,outsFrom,HFS.out]at this;rw[← this,outOk,d1,d2,d3,d4]<;>rfl)
   go_wp2_with (first|((with_reducible refine rl ?_);(repeat(first|go_big_quiet_step (first|(go_at_call 93;exact Gives.quiet (k_sFileOutOk)))|simp only[d1]|simp only[d2]|simp only[d3]|simp only[d4]|simp only[d3b]|simp only[d4b]));refine wpQuiet_nil ?_;intro x)|(go_at_call 93;refine gm (k_sFileOutOk) ?_;intro x))
   go_roundw
   case rel=>exact⟨k+1,by go_num,by omega,HF,Later.of⟩
   case measure=>simp[intOf];omega
  ·have T10:=lH (show outsFrom bd.Files 0 bd.Outs=true by have:=HV.out;rw[List.drop_of_length_le (by have:=HN9.out;omega)]at this;rw[← this];rfl)
   clear HV
   go_wp2_with (first|(go_at_call 82;refine gm (c_sl01In) ?_;intro x))
   go_ret
   exact Gives.mk (by rw[spaceOk_yes T1.out T2.out T3.out T4.out T5.out T6.out T7.out T8.out T9.out T10.out];rfl)
theorem c_sMissionOk{B:Nat}{vs:List Value}{m:TMission}{w:World}(h:Enc.Rd B w vs m)(ht:Enc.tot m≤100000000) :
  Calls Tryz.prog 20 #[.agg vs.toArray] w (Gives w (.bool (missionOk m))):=by
 obtain⟨A,hvs,F⟩:=h
 have M:=lH (mission_small ht)
 have FH:=lH F
 clear F ht
 obtain⟨n0,hn0⟩:∃ n,m.Plan.length=n:=⟨_,rfl⟩
 obtain⟨n20,hn20⟩:∃ n,m.Offered.length=n:=⟨_,rfl⟩
 obtain⟨n21,hn21⟩:∃ n,m.Took.length=n:=⟨_,rfl⟩
 rw[hn0,hn20,hn21]at hvs
 have hm0:n0≤100000000:=hn0▸M.out.m0
 have hm20:n20≤100000000:=hn20▸M.out.m20
 have hm21:n21≤100000000:=hn21▸M.out.m21
 have HN0:=lH hn0;have HN20:=lH hn20;have HN21:=lH hn21
 clear hn0 hn20 hn21
 have HB:=lH (Held.new w vs 90 w.heap.size rfl)
 have e0:=HB.out.cellG 0 (.int .i64 m.Time) (by rw[hvs];rfl)
 have e1:=HB.out.cellG 1 (.int .i64 m.Light) (by rw[hvs];rfl)
 have e7:=HB.out.cellG 7 (.slice A.a0 n0 A.c0) (by rw[hvs];rfl)
 have e14:=HB.out.cellG 14 (.slice A.a1 m.Ups.length A.c1) (by rw[hvs];rfl)
 have e15:=HB.out.cellG 15 (.slice A.a2 m.Downs.length A.c2) (by rw[hvs];rfl)
 have e58:=HB.out.cellG 58 (.slice A.a20 n20 A.c20) (by rw[hvs];rfl)
 have e59:=HB.out.cellG 59 (.slice A.a21 n21 A.c21) (by rw[hvs];rfl)
 have e60:=HB.out.cellG 60 (.int .i64 m.Bad) (by rw[hvs];rfl)
 have HVS:=lH hvs;clear hvs
 go_enter Tryz.func20,Tryz.ntmps20
 dsimp only[List.append]
 go_wp2_with (fail)
 refine gm (c_sl01In) ?_
 intro y1
 cases g1:inB m.Time 0 1000000
 ·have HF:=lH (show missionOk m=false from missionOk_no1 g1)
  clear g1
  go_wp2_with (fail)
  go_ret
  exact Gives.mk (by rw[HF.out];rfl)
 have T1:=lH g1;clear g1
 go_wp2_with (fail)
 refine gm (c_sl01In) ?_
 intro y2
 cases g2:inB m.Light 0 50
 ·have HF:=lH (show missionOk m=false from missionOk_no2 g2)
  clear g2
  go_wp2_with (fail)
  go_ret
  exact Gives.mk (by rw[HF.out];rfl)
 have T2:=lH g2;clear g2
 go_wp2_with (fail)
 refine gm (c_sl01In) ?_
 intro y3
 cases g3:inB m.Bad 0 1000000
 ·have HF:=lH (show missionOk m=false from missionOk_no3 g3)
  clear g3
  go_wp2_with (fail)
  go_ret
  exact Gives.mk (by rw[HF.out];rfl)
 have T3:=lH g3;clear g3
 go_wp2_with (first|(refine stepLoadW kg _ _ rfl w.heap.size 2 rfl (row:=[.int .i64 m.Drift.Rate,.int .i64 m.Drift.Offset]) (HB.out.to ii) _ u62 rfl kr (by rw[HVS.out];kernel_rfl) ?_)|(refine step_loadw kg _ _ rfl w.heap.size 2 rfl (row:=[.int .i64 m.Drift.Rate,.int .i64 m.Drift.Offset]) (HB.out.to ii) _ u62 rfl kr (by rw[HVS.out];kernel_rfl) ?_)|(refine step_loadp _ _ rfl w.heap.size 2 rfl (row:=[.int .i64 m.Drift.Rate,.int .i64 m.Drift.Offset]) (HB.out.to ii) _ u62 rfl kr (by rw[HVS.out];kernel_rfl) ?_))
 refine gm (k_sDriftOk (x:=m.Drift)) ?_
 intro y4
 cases g4:driftOkT m.Drift
 ·have HF:=lH (show missionOk m=false from missionOk_no4 g4)
  clear g4
  go_wp2_with (fail)
  go_ret
  exact Gives.mk (by rw[HF.out];rfl)
 have T4:=lH g4;clear g4
 go_wp2_with (first|(refine stepLoadW kg _ _ rfl w.heap.size 4 rfl (row:=[.int .i64 m.Orbit.Period,.int .i64 m.Orbit.Start,.int .i64 m.Orbit.Length]) (HB.out.to ii) _ u63 rfl kr (by rw[HVS.out];kernel_rfl) ?_)|(refine step_loadw kg _ _ rfl w.heap.size 4 rfl (row:=[.int .i64 m.Orbit.Period,.int .i64 m.Orbit.Start,.int .i64 m.Orbit.Length]) (HB.out.to ii) _ u63 rfl kr (by rw[HVS.out];kernel_rfl) ?_)|(refine step_loadp _ _ rfl w.heap.size 4 rfl (row:=[.int .i64 m.Orbit.Period,.int .i64 m.Orbit.Start,.int .i64 m.Orbit.Length]) (HB.out.to ii) _ u63 rfl kr (by rw[HVS.out];kernel_rfl) ?_))
 refine gm (k_sOrbitOk (x:=m.Orbit)) ?_
 intro y5
 cases g5:orbitOkT m.Orbit
 ·have HF:=lH (show missionOk m=false from missionOk_no5 g5)
  clear g5
  go_wp2_with (fail)
  go_ret
  exact Gives.mk (by rw[HF.out];rfl)
 have T5:=lH g5;clear g5
 go_wp2_with (first|(refine stepLoadW kg _ _ rfl w.heap.size 8 rfl (row:=[.int .i64 m.Up.Seed,.int .i64 m.Up.Burst,.int .i64 m.Up.Loss]) (HB.out.to ii) _ u65 rfl kr (by rw[HVS.out];kernel_rfl) ?_)|(refine step_loadw kg _ _ rfl w.heap.size 8 rfl (row:=[.int .i64 m.Up.Seed,.int .i64 m.Up.Burst,.int .i64 m.Up.Loss]) (HB.out.to ii) _ u65 rfl kr (by rw[HVS.out];kernel_rfl) ?_)|(refine step_loadp _ _ rfl w.heap.size 8 rfl (row:=[.int .i64 m.Up.Seed,.int .i64 m.Up.Burst,.int .i64 m.Up.Loss]) (HB.out.to ii) _ u65 rfl kr (by rw[HVS.out];kernel_rfl) ?_))
 refine gm (k_sChannelOk (x:=m.Up)) ?_
 intro y6
 cases g6:channelOk m.Up
 ·have HF:=lH (show missionOk m=false from missionOk_no6 g6)
  clear g6
  go_wp2_with (fail)
  go_ret
  exact Gives.mk (by rw[HF.out];rfl)
 have T6:=lH g6;clear g6
 go_wp2_with (first|(refine stepLoadW kg _ _ rfl w.heap.size 11 rfl (row:=[.int .i64 m.Down.Seed,.int .i64 m.Down.Burst,.int .i64 m.Down.Loss]) (HB.out.to ii) _ u65 rfl kr (by rw[HVS.out];kernel_rfl) ?_)|(refine step_loadw kg _ _ rfl w.heap.size 11 rfl (row:=[.int .i64 m.Down.Seed,.int .i64 m.Down.Burst,.int .i64 m.Down.Loss]) (HB.out.to ii) _ u65 rfl kr (by rw[HVS.out];kernel_rfl) ?_)|(refine step_loadp _ _ rfl w.heap.size 11 rfl (row:=[.int .i64 m.Down.Seed,.int .i64 m.Down.Burst,.int .i64 m.Down.Loss]) (HB.out.to ii) _ u65 rfl kr (by rw[HVS.out];kernel_rfl) ?_))
 refine gm (k_sChannelOk (x:=m.Down)) ?_
 intro y7
 cases g7:channelOk m.Down
 ·have HF:=lH (show missionOk m=false from missionOk_no7 g7)
  clear g7
  go_wp2_with (fail)
  go_ret
  exact Gives.mk (by rw[HF.out];rfl)
 have T7:=lH g7;clear g7
 by_cases h8:n0≤1500
 rotate_left
 ·have k8:decide (1500<(n0:Int))=true:=by simp;omega
  have k8b:decide ((n0:Int)≤1500)=false:=by simp;omega
  have HF:=lH (show missionOk m=false from missionOk_no8 (by rw[HN0.out];exact k8b))
  clear h8
  go_wp2_with (fail)
  go_ret
  exact Gives.mk (by rw[HF.out];rfl)
 have k8:decide (1500<(n0:Int))=false:=by simp;omega
 have k8b:decide ((n0:Int)≤1500)=true:=by simp;omega
 have T8:=lH (show decide ((m.Plan.length:Int)≤1500)=true by rw[HN0.out];exact k8b)
 clear h8
 go_wp2_with (fail)
 refine gm (k_sflightsOkN (l:=m.Ups) FH.out.q1 rfl M.out.m1) ?_
 intro y9
 cases g9:flightsOk m.Ups
 ·have HF:=lH (show missionOk m=false from missionOk_no9 g9)
  clear g9
  go_wp2_with (fail)
  go_ret
  exact Gives.mk (by rw[HF.out];rfl)
 have T9:=lH g9;clear g9
 go_wp2_with (fail)
 refine gm (k_sflightsOkN (l:=m.Downs) FH.out.q2 rfl M.out.m2) ?_
 intro y10
 cases g10:flightsOk m.Downs
 ·have HF:=lH (show missionOk m=false from missionOk_no10 g10)
  clear g10
  go_wp2_with (fail)
  go_ret
  exact Gives.mk (by rw[HF.out];rfl)
 have T10:=lH g10;clear g10
 go_wp2_with (first|(refine stepLoadW kg _ _ rfl w.heap.size 16 rfl (row:=(cGround m.Ground A.a3 A.c3 A.a4 A.c4 A.a5 A.c5 A.a6 A.c6 A.a7 A.c7 A.a8 A.c8)) (HB.out.to ii) _ u76 rfl kr (by rw[HVS.out];kernel_rfl) ?_)|(refine step_loadw kg _ _ rfl w.heap.size 16 rfl (row:=(cGround m.Ground A.a3 A.c3 A.a4 A.c4 A.a5 A.c5 A.a6 A.c6 A.a7 A.c7 A.a8 A.c8)) (HB.out.to ii) _ u76 rfl kr (by rw[HVS.out];kernel_rfl) ?_)|(refine step_loadp _ _ rfl w.heap.size 16 rfl (row:=(cGround m.Ground A.a3 A.c3 A.a4 A.c4 A.a5 A.c5 A.a6 A.c6 A.a7 A.c7 A.a8 A.c8)) (HB.out.to ii) _ u76 rfl kr (by rw[HVS.out];kernel_rfl) ?_))
 refine gm (k_sgroundOk (bd:=m.Ground) FH.out.q3 FH.out.q4 FH.out.q5 FH.out.q6 FH.out.q7 FH.out.q8 FH.out.ok.2.2.2.2.2.2.1 rfl rfl rfl rfl rfl rfl M.out.m3 M.out.m4 M.out.m5 M.out.m6 M.out.m7 M.out.m8 M.out.hxf) ?_
 intro y11
 cases g11:groundOk m.Ground
 ·have HF:=lH (show missionOk m=false from missionOk_no11 g11)
  clear g11
  go_wp2_with (fail)
  go_ret
  exact Gives.mk (by rw[HF.out];rfl)
 have T11:=lH g11;clear g11
 go_wp2_with (first|(refine stepLoadW kg _ _ rfl w.heap.size 33 rfl (row:=(cSpace m.Space A.a9 A.c9 A.a10 A.c10 A.a11 A.c11 A.a12 A.c12 A.a13 A.c13 A.a14 A.c14 A.a15 A.c15 A.a16 A.c16 A.a17 A.c17 A.a18 A.c18 A.a19 A.c19)) (HB.out.to ii) _ u88 rfl kr (by rw[HVS.out];kernel_rfl) ?_)|(refine step_loadw kg _ _ rfl w.heap.size 33 rfl (row:=(cSpace m.Space A.a9 A.c9 A.a10 A.c10 A.a11 A.c11 A.a12 A.c12 A.a13 A.c13 A.a14 A.c14 A.a15 A.c15 A.a16 A.c16 A.a17 A.c17 A.a18 A.c18 A.a19 A.c19)) (HB.out.to ii) _ u88 rfl kr (by rw[HVS.out];kernel_rfl) ?_)|(refine step_loadp _ _ rfl w.heap.size 33 rfl (row:=(cSpace m.Space A.a9 A.c9 A.a10 A.c10 A.a11 A.c11 A.a12 A.c12 A.a13 A.c13 A.a14 A.c14 A.a15 A.c15 A.a16 A.c16 A.a17 A.c17 A.a18 A.c18 A.a19 A.c19)) (HB.out.to ii) _ u88 rfl kr (by rw[HVS.out];kernel_rfl) ?_))
 refine gm (k_sspaceOk (bd:=m.Space) FH.out.q9 FH.out.q10 FH.out.q11 FH.out.q12 FH.out.q13 FH.out.q14 FH.out.q15 FH.out.q16 FH.out.q17 FH.out.q18 FH.out.q19 FH.out.ok.2.2.2.2.2.2.2.1 rfl rfl rfl rfl rfl rfl rfl rfl rfl rfl rfl M.out.m9 M.out.m10 M.out.m11 M.out.m12 M.out.m13 M.out.m14 M.out.m15 M.out.m16 M.out.m17 M.out.m18 M.out.m19 M.out.hzr M.out.hxo M.out.hxs) ?_
 intro y12
 cases g12:spaceOk m.Space
 ·have HF:=lH (show missionOk m=false from missionOk_no12 g12)
  clear g12
  go_wp2_with (fail)
  go_ret
  exact Gives.mk (by rw[HF.out];rfl)
 have T12:=lH g12;clear g12
 by_cases h13:n20≤5000
 rotate_left
 ·have k13:decide (5000<(n20:Int))=true:=by simp;omega
  have k13b:decide ((n20:Int)≤5000)=false:=by simp;omega
  have HF:=lH (show missionOk m=false from missionOk_no13 (by rw[HN20.out];exact k13b))
  clear h13
  go_wp2_with (fail)
  go_ret
  exact Gives.mk (by rw[HF.out];rfl)
 have k13:decide (5000<(n20:Int))=false:=by simp;omega
 have k13b:decide ((n20:Int)≤5000)=true:=by simp;omega
 have T13:=lH (show decide ((m.Offered.length:Int)≤5000)=true by rw[HN20.out];exact k13b)
 clear h13
 by_cases h14:n21≤5000
 rotate_left
 ·have k14:decide (5000<(n21:Int))=true:=by simp;omega
  have k14b:decide ((n21:Int)≤5000)=false:=by simp;omega
  have HF:=lH (show missionOk m=false from missionOk_no14 (by rw[HN21.out];exact k14b))
  clear h14
  go_wp2_with (fail)
  go_ret
  exact Gives.mk (by rw[HF.out];rfl)
 have k14:decide (5000<(n21:Int))=false:=by simp;omega
 have k14b:decide ((n21:Int)≤5000)=true:=by simp;omega
 have T14:=lH (show decide ((m.Took.length:Int)≤5000)=true by rw[HN21.out];exact k14b)
 clear h14
 go_wp2_with (fail)
 go_ret
 exact Gives.mk (by rw[missionOk_yes T1.out T2.out T3.out T4.out T5.out T6.out T7.out T8.out T9.out T10.out T11.out T12.out T13.out T14.out];rfl)
theorem fset5{α:Type}{enc:α→List Value}(hsz:∀ x:α,(enc x).length=5){y:α}{v0 v1 v2 v3 v4:Value}(hy:enc y=[v0,v1,v2,v3,v4]):∀ (l:List α) (j:Nat),j<l.length→(((((l.flatMap enc).set (j*5) v0).set (j*5+1) v1).set (j*5+2) v2).set (j*5+3) v3).set (j*5+4) v4=(l.set j y).flatMap enc
 | [],j,h=>by simp at h
 | x::l,0,_=>by
  have hx:=hsz x
  match he:enc x,hx with
  | [u0,u1,u2,u3,u4],_=>simp[List.flatMap_cons,he,hy]
 | x::l,j+1,h=>by
  have ih:=fset5 hsz hy l j (by simpa using h)
  rw[List.flatMap_cons,List.set_cons_succ,List.flatMap_cons,← ih]
  have hx:=hsz x
  match he:enc x,hx with
  | [u0,u1,u2,u3,u4],_ =>
   rw[show(j+1)*5=j*5+5 from by omega];simp
theorem Own.put5{α:Type}{enc:α→List Value}{T B g:Nat}{w:World}{c:Nat}{l:List α}(h:Own enc T 5 B w (some ⟨g,0,none⟩) c l){j:Nat}(hj:j<l.length){y:α}{v0 v1 v2 v3 v4:Value}(hy:enc y=[v0,v1,v2,v3,v4]) :
  Own enc T 5 B ((((((w).setCell ⟨g,j*5,none⟩ v0).setCell ⟨g,j*5+1,none⟩ v1).setCell ⟨g,j*5+2,none⟩ v2).setCell ⟨g,j*5+3,none⟩ v3).setCell ⟨g,j*5+4,none⟩ v4) (some ⟨g,0,none⟩) c (l.set j y)∧w.grownBy ((((((w).setCell ⟨g,j*5,none⟩ v0).setCell ⟨g,j*5+1,none⟩ v1).setCell ⟨g,j*5+2,none⟩ v2).setCell ⟨g,j*5+3,none⟩ v3).setCell ⟨g,j*5+4,none⟩ v4) (some g):=by
 have s0:=(h.2).stored (j*5) v0
 have s1:=(s0.1).stored (j*5+1) v1
 have s2:=(s1.1).stored (j*5+2) v2
 have s3:=(s2.1).stored (j*5+3) v3
 have s4:=(s3.1).stored (j*5+4) v4
 refine⟨⟨h.1,?_⟩,(grownBy_trans (grownBy_trans (grownBy_trans (grownBy_trans s0.2 s1.2) s2.2) s3.2) s4.2)⟩
 rw[← fset5 h.1 hy l j hj,List.length_set]
 exact s4.1
theorem Sl.tFlight{w:World}{a:Option Addr}{l:List TFlight}(h:Sl encTFlight w a l){k:Nat}(hk:k<l.length) :
  ∃ b off s,a=some ⟨b,off,none⟩∧LtN b w.heap.size∧Hid (l.drop k=s::l.drop (k+1))∧(∀ (W:World) [Grows w W],W.cell? ⟨b,off+k*2,none⟩=some (.int .i64 s.At))∧(∀ (W:World) [Grows w W],W.cell? ⟨b,off+k*2+1,none⟩=some (.string s.Data)):=by
 obtain⟨s,hs,hd⟩:=drop_at hk
 obtain⟨b,off,ha,hb,hc⟩:=h k s hs
 exact⟨b,off,s,ha,⟨hb⟩,hd,cell_grown hb (hc 0 _ rfl),cell_grown hb (hc 1 _ rfl)⟩
theorem Sl.tRecord{w:World}{a:Option Addr}{l:List TRecord}(h:Sl encTRecord w a l){k:Nat}(hk:k<l.length) :
  ∃ b off s,a=some ⟨b,off,none⟩∧LtN b w.heap.size∧Hid (l.drop k=s::l.drop (k+1))∧(∀ (W:World) [Grows w W],W.cell? ⟨b,off+k*4,none⟩=some (.int .i64 s.Id))∧(∀ (W:World) [Grows w W],W.cell? ⟨b,off+k*4+1,none⟩=some (.int .i64 s.Priority))∧(∀ (W:World) [Grows w W],W.cell? ⟨b,off+k*4+2,none⟩=some (.int .i64 s.Time))∧(∀ (W:World) [Grows w W],W.cell? ⟨b,off+k*4+3,none⟩=some (.string s.Data)):=by
 obtain⟨s,hs,hd⟩:=drop_at hk
 obtain⟨b,off,ha,hb,hc⟩:=h k s hs
 exact⟨b,off,s,ha,⟨hb⟩,hd,cell_grown hb (hc 0 _ rfl),cell_grown hb (hc 1 _ rfl),cell_grown hb (hc 2 _ rfl),cell_grown hb (hc 3 _ rfl)⟩
theorem Sl.tWaiting{w:World}{a:Option Addr}{l:List TWaiting}(h:Sl encTWaiting w a l){k:Nat}(hk:k<l.length) :
  ∃ b off s,a=some ⟨b,off,none⟩∧LtN b w.heap.size∧Hid (l.drop k=s::l.drop (k+1))∧(∀ (W:World) [Grows w W],W.cell? ⟨b,off+k*5,none⟩=some (.int .i64 s.Number))∧(∀ (W:World) [Grows w W],W.cell? ⟨b,off+k*5+1,none⟩=some (.int .i64 s.Order.Kind))∧(∀ (W:World) [Grows w W],W.cell? ⟨b,off+k*5+2,none⟩=some (.int .i64 s.Order.At))∧(∀ (W:World) [Grows w W],W.cell? ⟨b,off+k*5+3,none⟩=some (.int .i64 s.Order.A))∧(∀ (W:World) [Grows w W],W.cell? ⟨b,off+k*5+4,none⟩=some (.int .i64 s.Order.B)):=by
 obtain⟨s,hs,hd⟩:=drop_at hk
 obtain⟨b,off,ha,hb,hc⟩:=h k s hs
 exact⟨b,off,s,ha,⟨hb⟩,hd,cell_grown hb (hc 0 _ rfl),cell_grown hb (hc 1 _ rfl),cell_grown hb (hc 2 _ rfl),cell_grown hb (hc 3 _ rfl),cell_grown hb (hc 4 _ rfl)⟩
def mkTWaiting(k0:Int)(i:Nat):TWaiting:=(⟨k0+i*5,k0+i*5+1,k0+i*5+1+1,k0+i*5+1+1+1,k0+i*5+1+1+1+1⟩:TWaiting)
theorem c_lmarkTWaitingS{a:Option Addr}{n c B:Nat}{k0:Int}{l:List TWaiting}{w:World}(hown0:Own encTWaiting 169 5 B w a c l)(hn:l.length=n)(hm:n≤100000000)(h1:0≤k0)(h2:k0≤1000000000000) :
  Calls Tryz.prog 240 #[.slice a n c,.int .i64 k0] w (Marks encTWaiting 169 5 B w a n c ((List.range n).map (mkTWaiting k0)) (k0+n*5)):=by
 go_enter Tryz.func240,Tryz.ntmps240
 go_wp2_with fail
 go_loopw [1,5] (fun u v wr=>∃ j:Nat,v=.int .i64 j∧u=.int .i64 (k0+j*5)∧j≤n∧w.grownBy wr (Value.ownBlock (.slice a n c))∧Own encTWaiting 169 5 B wr a c (mixed (mkTWaiting k0) l j)) (fun _ v _=>(n - intOf v).toNat)
 case atStart=>exact⟨0,rfl,by simp,by omega,grownBy_refl _ _,by rw[mixed_zero];exact hown0⟩
 case round =>
  obtain⟨j,rfl,rfl,hj,hgr,hown⟩:=hrel
  by_cases h:j<n
  ·obtain⟨g,rfl,hB,hlt⟩:=hown.open (n:=n) (by rw[mixed_length (by omega)];omega)
   obtain⟨o0,g0⟩:=hown.cells (j:=j*5) (by rw[mixed_length (by omega)];omega);obtain⟨o1,g1⟩:=hown.cells (j:=j*5+1) (by rw[mixed_length (by omega)];omega);obtain⟨o2,g2⟩:=hown.cells (j:=j*5+2) (by rw[mixed_length (by omega)];omega);obtain⟨o3,g3⟩:=hown.cells (j:=j*5+3) (by rw[mixed_length (by omega)];omega);obtain⟨o4,g4⟩:=hown.cells (j:=j*5+4) (by rw[mixed_length (by omega)];omega);
   have f0:=hown.free (j*5);have f1:=hown.free (j*5+1);have f2:=hown.free (j*5+2);have f3:=hown.free (j*5+3);have f4:=hown.free (j*5+4);
   have HG:=lH hgr;clear hgr
   go_wp2_with fail
   go_roundw
   case rel =>
    have hp:=hown.put5 (j:=j) (y:=mkTWaiting k0 j) (by rw[mixed_length (by omega)];omega) rfl
    exact⟨j+1,by go_num,by go_num,by omega,grownBy_trans HG.out hp.2,by rw[← mixed_set (by omega)];exact hp.1⟩
   case measure=>simp[intOf];omega
  ·go_wp2_with fail
   go_ret
   obtain rfl:j=n:=by omega
   refine⟨rfl,hgr,?_⟩
   rw[← hn,mixed_all]at hown
   rw[← hn];exact hown
theorem c_lheldTWaitingS{a:Option Addr}{n c:Nat}{k0:Int}{w:World}(hs:Sl encTWaiting w a ((List.range n).map (mkTWaiting k0)))(hm:n≤100000000)(h1:0≤k0)(h2:k0≤1000000000000) :
  Calls Tryz.prog 246 #[.slice a n c,.int .i64 k0] w (Gives w (.int .i64 (k0+n*5))):=by
 go_enter Tryz.func246,Tryz.ntmps246
 go_wp2_with fail
 go_loopw [1,5] (fun u v wr=>∃ j:Nat,v=.int .i64 j∧u=.int .i64 (k0+j*5)∧j≤n∧∃ x:Later w,wr=x.w) (fun _ v _=>(n - intOf v).toNat)
 case atStart=>exact⟨0,rfl,by simp,by omega,Later.of⟩
 case round =>
  obtain⟨j,rfl,rfl,hj,x0,rfl⟩:=hrel
  by_cases h:j<n
  ·obtain⟨b,off,s,rfl,hb,hd,e0,e1,e2,e3,e4⟩:=hs.tWaiting (k:=j) (by simpa using h)
   obtain rfl:s=mkTWaiting k0 j:=by
    have:=congrArg (fun m=>m[0]?) hd.out
    simpa[h]using this.symm
   simp only[mkTWaiting]at e0 e1 e2 e3 e4
   clear hd
   go_wp2_with fail
   go_roundw
   case rel=>exact⟨j+1,by go_num,by go_num,by omega,Later.of⟩
   case measure=>simp[intOf];omega
  ·go_wp2_with fail
   go_ret
   obtain rfl:j=n:=by omega
   exact Gives.mk rfl
theorem Sl.tLimit{w:World}{a:Option Addr}{l:List TLimit}(h:Sl encTLimit w a l){k:Nat}(hk:k<l.length) :
  ∃ b off s,a=some ⟨b,off,none⟩∧LtN b w.heap.size∧Hid (l.drop k=s::l.drop (k+1))∧(∀ (W:World) [Grows w W],W.cell? ⟨b,off+k*3,none⟩=some (.int .i64 s.Param))∧(∀ (W:World) [Grows w W],W.cell? ⟨b,off+k*3+1,none⟩=some (.int .i64 s.Low))∧(∀ (W:World) [Grows w W],W.cell? ⟨b,off+k*3+2,none⟩=some (.int .i64 s.High)):=by
 obtain⟨s,hs,hd⟩:=drop_at hk
 obtain⟨b,off,ha,hb,hc⟩:=h k s hs
 exact⟨b,off,s,ha,⟨hb⟩,hd,cell_grown hb (hc 0 _ rfl),cell_grown hb (hc 1 _ rfl),cell_grown hb (hc 2 _ rfl)⟩
def mkTLimit(k0:Int)(i:Nat):TLimit:=(⟨k0+i*3,k0+i*3+1,k0+i*3+1+1⟩:TLimit)
theorem c_lmarkTLimitS{a:Option Addr}{n c B:Nat}{k0:Int}{l:List TLimit}{w:World}(hown0:Own encTLimit 250 3 B w a c l)(hn:l.length=n)(hm:n≤100000000)(h1:0≤k0)(h2:k0≤1000000000000) :
  Calls Tryz.prog 239 #[.slice a n c,.int .i64 k0] w (Marks encTLimit 250 3 B w a n c ((List.range n).map (mkTLimit k0)) (k0+n*3)):=by
 go_enter Tryz.func239,Tryz.ntmps239
 go_wp2_with fail
 go_loopw [1,5] (fun u v wr=>∃ j:Nat,v=.int .i64 j∧u=.int .i64 (k0+j*3)∧j≤n∧w.grownBy wr (Value.ownBlock (.slice a n c))∧Own encTLimit 250 3 B wr a c (mixed (mkTLimit k0) l j)) (fun _ v _=>(n - intOf v).toNat)
 case atStart=>exact⟨0,rfl,by simp,by omega,grownBy_refl _ _,by rw[mixed_zero];exact hown0⟩
 case round =>
  obtain⟨j,rfl,rfl,hj,hgr,hown⟩:=hrel
  by_cases h:j<n
  ·obtain⟨g,rfl,hB,hlt⟩:=hown.open (n:=n) (by rw[mixed_length (by omega)];omega)
   obtain⟨o0,g0⟩:=hown.cells (j:=j*3) (by rw[mixed_length (by omega)];omega);obtain⟨o1,g1⟩:=hown.cells (j:=j*3+1) (by rw[mixed_length (by omega)];omega);obtain⟨o2,g2⟩:=hown.cells (j:=j*3+2) (by rw[mixed_length (by omega)];omega);
   have f0:=hown.free (j*3);have f1:=hown.free (j*3+1);have f2:=hown.free (j*3+2);
   have HG:=lH hgr;clear hgr
   go_wp2_with fail
   go_roundw
   case rel =>
    have hp:=hown.put3 (j:=j) (y:=mkTLimit k0 j) (by rw[mixed_length (by omega)];omega) rfl
    exact⟨j+1,by go_num,by go_num,by omega,grownBy_trans HG.out hp.2,by rw[← mixed_set (by omega)];exact hp.1⟩
   case measure=>simp[intOf];omega
  ·go_wp2_with fail
   go_ret
   obtain rfl:j=n:=by omega
   refine⟨rfl,hgr,?_⟩
   rw[← hn,mixed_all]at hown
   rw[← hn];exact hown
theorem c_lheldTLimitS{a:Option Addr}{n c:Nat}{k0:Int}{w:World}(hs:Sl encTLimit w a ((List.range n).map (mkTLimit k0)))(hm:n≤100000000)(h1:0≤k0)(h2:k0≤1000000000000) :
  Calls Tryz.prog 245 #[.slice a n c,.int .i64 k0] w (Gives w (.int .i64 (k0+n*3))):=by
 go_enter Tryz.func245,Tryz.ntmps245
 go_wp2_with fail
 go_loopw [1,5] (fun u v wr=>∃ j:Nat,v=.int .i64 j∧u=.int .i64 (k0+j*3)∧j≤n∧∃ x:Later w,wr=x.w) (fun _ v _=>(n - intOf v).toNat)
 case atStart=>exact⟨0,rfl,by simp,by omega,Later.of⟩
 case round =>
  obtain⟨j,rfl,rfl,hj,x0,rfl⟩:=hrel
  by_cases h:j<n
  ·obtain⟨b,off,s,rfl,hb,hd,e0,e1,e2⟩:=hs.tLimit (k:=j) (by simpa using h)
   obtain rfl:s=mkTLimit k0 j:=by
    have:=congrArg (fun m=>m[0]?) hd.out
    simpa[h]using this.symm
   simp only[mkTLimit]at e0 e1 e2
   clear hd
   go_wp2_with fail
   go_roundw
   case rel=>exact⟨j+1,by go_num,by go_num,by omega,Later.of⟩
   case measure=>simp[intOf];omega
  ·go_wp2_with fail
   go_ret
   obtain rfl:j=n:=by omega
   exact Gives.mk rfl
theorem Sl.tDone{w:World}{a:Option Addr}{l:List TDone}(h:Sl encTDone w a l){k:Nat}(hk:k<l.length) :
  ∃ b off s,a=some ⟨b,off,none⟩∧LtN b w.heap.size∧Hid (l.drop k=s::l.drop (k+1))∧(∀ (W:World) [Grows w W],W.cell? ⟨b,off+k*3,none⟩=some (.int .i64 s.Number))∧(∀ (W:World) [Grows w W],W.cell? ⟨b,off+k*3+1,none⟩=some (.int .i64 s.Time))∧(∀ (W:World) [Grows w W],W.cell? ⟨b,off+k*3+2,none⟩=some (.int .i64 s.Result)):=by
 obtain⟨s,hs,hd⟩:=drop_at hk
 obtain⟨b,off,ha,hb,hc⟩:=h k s hs
 exact⟨b,off,s,ha,⟨hb⟩,hd,cell_grown hb (hc 0 _ rfl),cell_grown hb (hc 1 _ rfl),cell_grown hb (hc 2 _ rfl)⟩
def mkTDone(k0:Int)(i:Nat):TDone:=(⟨k0+i*3,k0+i*3+1,k0+i*3+1+1⟩:TDone)
theorem c_lmarkTDoneS{a:Option Addr}{n c B:Nat}{k0:Int}{l:List TDone}{w:World}(hown0:Own encTDone 252 3 B w a c l)(hn:l.length=n)(hm:n≤100000000)(h1:0≤k0)(h2:k0≤1000000000000) :
  Calls Tryz.prog 241 #[.slice a n c,.int .i64 k0] w (Marks encTDone 252 3 B w a n c ((List.range n).map (mkTDone k0)) (k0+n*3)):=by
 go_enter Tryz.func241,Tryz.ntmps241
 go_wp2_with fail
 go_loopw [1,5] (fun u v wr=>∃ j:Nat,v=.int .i64 j∧u=.int .i64 (k0+j*3)∧j≤n∧w.grownBy wr (Value.ownBlock (.slice a n c))∧Own encTDone 252 3 B wr a c (mixed (mkTDone k0) l j)) (fun _ v _=>(n - intOf v).toNat)
 case atStart=>exact⟨0,rfl,by simp,by omega,grownBy_refl _ _,by rw[mixed_zero];exact hown0⟩
 case round =>
  obtain⟨j,rfl,rfl,hj,hgr,hown⟩:=hrel
  by_cases h:j<n
  ·obtain⟨g,rfl,hB,hlt⟩:=hown.open (n:=n) (by rw[mixed_length (by omega)];omega)
   obtain⟨o0,g0⟩:=hown.cells (j:=j*3) (by rw[mixed_length (by omega)];omega);obtain⟨o1,g1⟩:=hown.cells (j:=j*3+1) (by rw[mixed_length (by omega)];omega);obtain⟨o2,g2⟩:=hown.cells (j:=j*3+2) (by rw[mixed_length (by omega)];omega);
   have f0:=hown.free (j*3);have f1:=hown.free (j*3+1);have f2:=hown.free (j*3+2);
   have HG:=lH hgr;clear hgr
   go_wp2_with fail
   go_roundw
   case rel =>
    have hp:=hown.put3 (j:=j) (y:=mkTDone k0 j) (by rw[mixed_length (by omega)];omega) rfl
    exact⟨j+1,by go_num,by go_num,by omega,grownBy_trans HG.out hp.2,by rw[← mixed_set (by omega)];exact hp.1⟩
   case measure=>simp[intOf];omega
  ·go_wp2_with fail
   go_ret
   obtain rfl:j=n:=by omega
   refine⟨rfl,hgr,?_⟩
   rw[← hn,mixed_all]at hown
   rw[← hn];exact hown
theorem c_lheldTDoneS{a:Option Addr}{n c:Nat}{k0:Int}{w:World}(hs:Sl encTDone w a ((List.range n).map (mkTDone k0)))(hm:n≤100000000)(h1:0≤k0)(h2:k0≤1000000000000) :
  Calls Tryz.prog 247 #[.slice a n c,.int .i64 k0] w (Gives w (.int .i64 (k0+n*3))):=by
 go_enter Tryz.func247,Tryz.ntmps247
 go_wp2_with fail
 go_loopw [1,5] (fun u v wr=>∃ j:Nat,v=.int .i64 j∧u=.int .i64 (k0+j*3)∧j≤n∧∃ x:Later w,wr=x.w) (fun _ v _=>(n - intOf v).toNat)
 case atStart=>exact⟨0,rfl,by simp,by omega,Later.of⟩
 case round =>
  obtain⟨j,rfl,rfl,hj,x0,rfl⟩:=hrel
  by_cases h:j<n
  ·obtain⟨b,off,s,rfl,hb,hd,e0,e1,e2⟩:=hs.tDone (k:=j) (by simpa using h)
   obtain rfl:s=mkTDone k0 j:=by
    have:=congrArg (fun m=>m[0]?) hd.out
    simpa[h]using this.symm
   simp only[mkTDone]at e0 e1 e2
   clear hd
   go_wp2_with fail
   go_roundw
   case rel=>exact⟨j+1,by go_num,by go_num,by omega,Later.of⟩
   case measure=>simp[intOf];omega
  ·go_wp2_with fail
   go_ret
   obtain rfl:j=n:=by omega
   exact Gives.mk rfl
theorem Sl.tSent{w:World}{a:Option Addr}{l:List TSent}(h:Sl encTSent w a l){k:Nat}(hk:k<l.length) :
  ∃ b off s,a=some ⟨b,off,none⟩∧LtN b w.heap.size∧Hid (l.drop k=s::l.drop (k+1))∧(∀ (W:World) [Grows w W],W.cell? ⟨b,off+k*2,none⟩=some (.int .i64 s.Seq))∧(∀ (W:World) [Grows w W],W.cell? ⟨b,off+k*2+1,none⟩=some (.string s.Data)):=by
 obtain⟨s,hs,hd⟩:=drop_at hk
 obtain⟨b,off,ha,hb,hc⟩:=h k s hs
 exact⟨b,off,s,ha,⟨hb⟩,hd,cell_grown hb (hc 0 _ rfl),cell_grown hb (hc 1 _ rfl)⟩
def mkTFlight(k0:Int)(i:Nat):TFlight:=⟨k0+i*2,markTx (k0+i*2+1)⟩
theorem c_lmarkTFlightS{a:Option Addr}{n c B:Nat}{k0:Int}{l:List TFlight}{w:World}(hown0:Own encTFlight 177 2 B w a c l)(hn:l.length=n)(hm:n≤100000000)(h1:0≤k0)(h2:k0≤1000000000000) :
  Calls Tryz.prog 46 #[.slice a n c,.int .i64 k0] w (Marks encTFlight 177 2 B w a n c ((List.range n).map (mkTFlight k0)) (k0+n*2)):=by
 go_enter Tryz.func46,Tryz.ntmps46
 go_wp2_with fail
 go_loopw [1,5] (fun u v wr=>∃ j:Nat,v=.int .i64 j∧u=.int .i64 (k0+j*2)∧j≤n∧w.grownBy wr (Value.ownBlock (.slice a n c))∧Own encTFlight 177 2 B wr a c (mixed (mkTFlight k0) l j)) (fun _ v _=>(n - intOf v).toNat)
 case atStart=>exact⟨0,rfl,by simp,by omega,grownBy_refl _ _,by rw[mixed_zero];exact hown0⟩
 case round =>
  obtain⟨j,rfl,rfl,hj,hgr,hown⟩:=hrel
  by_cases h:j<n
  ·obtain⟨g,rfl,hB,hlt⟩:=hown.open (n:=n) (by rw[mixed_length (by omega)];omega)
   obtain⟨o0,g0⟩:=hown.cells (j:=j*2) (by rw[mixed_length (by omega)];omega);
   have f0:=hown.free (j*2);
   have HG:=lH hgr;clear hgr
   have HO:=lH hown;clear hown
   have s0:=(HO.out.2).stored (j*2) (.int .i64 (k0+j*2))
   have HS:=lH s0.1;have HT:=lH s0.2;clear s0
   go_wp2_with fail
   refine gm (c_lmarkText (by omega)) ?_
   intro y
   have t:=own_later HS.out y
   have hlen:(mixed (mkTFlight k0) l j).length=n:=by rw[mixed_length (by omega)];exact hn
   have hc:=t.cellAt (n:=_) (j*2+1) (by rw[hlen];omega)
   have fL:=t.frozenAt (j*2+1)
   obtain⟨oL,gL⟩:∃ v,y.w.cell? ⟨g,j*2+1,none⟩=some v:=⟨_,hc.trans (List.getElem?_eq_getElem (by simp only[List.length_set];rw[flatMap_length HO.out.1,hlen];omega))⟩
   have HQ:=lH (t.stored (j*2+1) (.string (markTx (k0+j*2+1))))
   clear t hc g0 f0
   go_wp2_with fail
   go_roundw
   case rel =>
    refine⟨j+1,by go_num,by go_num,by omega,grownBy_trans HG.out (grownBy_trans (grownBy_trans HT.out (grownBy_laterR y _)) HQ.out.2),?_⟩
    rw[← mixed_set (by omega)]
    refine⟨HO.out.1,?_⟩
    rw[← fset2 HO.out.1 (y:=mkTFlight k0 j) rfl _ j (by rw[hlen];omega),List.length_set]
    exact HQ.out.1
   case measure=>simp[intOf];omega
  ·go_wp2_with fail
   go_ret
   obtain rfl:j=n:=by omega
   refine⟨rfl,hgr,?_⟩
   rw[← hn,mixed_all]at hown
   rw[← hn];exact hown
theorem c_lheldTFlightS{a:Option Addr}{n c:Nat}{k0:Int}{w:World}(hs:Sl encTFlight w a ((List.range n).map (mkTFlight k0)))(hm:n≤100000000)(h1:0≤k0)(h2:k0≤1000000000000) :
  Calls Tryz.prog 51 #[.slice a n c,.int .i64 k0] w (Gives w (.int .i64 (k0+n*2))):=by
 go_enter Tryz.func51,Tryz.ntmps51
 go_wp2_with fail
 go_loopw [1,5] (fun u v wr=>∃ j:Nat,v=.int .i64 j∧u=.int .i64 (k0+j*2)∧j≤n∧∃ x:Later w,wr=x.w) (fun _ v _=>(n - intOf v).toNat)
 case atStart=>exact⟨0,rfl,by simp,by omega,Later.of⟩
 case round =>
  obtain⟨j,rfl,rfl,hj,x0,rfl⟩:=hrel
  by_cases h:j<n
  ·obtain⟨b,off,s,rfl,hb,hd,e0,e1⟩:=hs.tFlight (k:=j) (by simpa using h)
   obtain rfl:s=mkTFlight k0 j:=by
    have:=congrArg (fun m=>m[0]?) hd.out
    simpa[h]using this.symm
   simp only[mkTFlight]at e0 e1
   clear hd
   have hx:((markTx (k0+j*2+1)).toList != (markTx (k0+j*2+1)).toList)=false:=by simp
   go_wp2_with (first|((with_reducible refine rl ?_);(repeat(first|go_big_quiet_step (first|(go_at_call 146;exact Gives.quiet (c_lmarkText (by omega))))|simp only[hx]));refine wpQuiet_nil ?_;intro x)|(go_at_call 146;refine gm (c_lmarkText (by omega)) ?_;intro x))
   go_roundw
   case rel=>exact⟨j+1,by go_num,by go_num,by omega,Later.of⟩
   case measure=>simp[intOf];omega
  ·go_wp2_with fail
   go_ret
   obtain rfl:j=n:=by omega
   exact Gives.mk rfl
def mkTSent(k0:Int)(i:Nat):TSent:=⟨k0+i*2,markTx (k0+i*2+1)⟩
theorem c_lmarkTSentS{a:Option Addr}{n c B:Nat}{k0:Int}{l:List TSent}{w:World}(hown0:Own encTSent 224 2 B w a c l)(hn:l.length=n)(hm:n≤100000000)(h1:0≤k0)(h2:k0≤1000000000000) :
  Calls Tryz.prog 237 #[.slice a n c,.int .i64 k0] w (Marks encTSent 224 2 B w a n c ((List.range n).map (mkTSent k0)) (k0+n*2)):=by
 go_enter Tryz.func237,Tryz.ntmps237
 go_wp2_with fail
 go_loopw [1,5] (fun u v wr=>∃ j:Nat,v=.int .i64 j∧u=.int .i64 (k0+j*2)∧j≤n∧w.grownBy wr (Value.ownBlock (.slice a n c))∧Own encTSent 224 2 B wr a c (mixed (mkTSent k0) l j)) (fun _ v _=>(n - intOf v).toNat)
 case atStart=>exact⟨0,rfl,by simp,by omega,grownBy_refl _ _,by rw[mixed_zero];exact hown0⟩
 case round =>
  obtain⟨j,rfl,rfl,hj,hgr,hown⟩:=hrel
  by_cases h:j<n
  ·obtain⟨g,rfl,hB,hlt⟩:=hown.open (n:=n) (by rw[mixed_length (by omega)];omega)
   obtain⟨o0,g0⟩:=hown.cells (j:=j*2) (by rw[mixed_length (by omega)];omega);
   have f0:=hown.free (j*2);
   have HG:=lH hgr;clear hgr
   have HO:=lH hown;clear hown
   have s0:=(HO.out.2).stored (j*2) (.int .i64 (k0+j*2))
   have HS:=lH s0.1;have HT:=lH s0.2;clear s0
   go_wp2_with fail
   refine gm (c_lmarkText (by omega)) ?_
   intro y
   have t:=own_later HS.out y
   have hlen:(mixed (mkTSent k0) l j).length=n:=by rw[mixed_length (by omega)];exact hn
   have hc:=t.cellAt (n:=_) (j*2+1) (by rw[hlen];omega)
   have fL:=t.frozenAt (j*2+1)
   obtain⟨oL,gL⟩:∃ v,y.w.cell? ⟨g,j*2+1,none⟩=some v:=⟨_,hc.trans (List.getElem?_eq_getElem (by simp only[List.length_set];rw[flatMap_length HO.out.1,hlen];omega))⟩
   have HQ:=lH (t.stored (j*2+1) (.string (markTx (k0+j*2+1))))
   clear t hc g0 f0
   go_wp2_with fail
   go_roundw
   case rel =>
    refine⟨j+1,by go_num,by go_num,by omega,grownBy_trans HG.out (grownBy_trans (grownBy_trans HT.out (grownBy_laterR y _)) HQ.out.2),?_⟩
    rw[← mixed_set (by omega)]
    refine⟨HO.out.1,?_⟩
    rw[← fset2 HO.out.1 (y:=mkTSent k0 j) rfl _ j (by rw[hlen];omega),List.length_set]
    exact HQ.out.1
   case measure=>simp[intOf];omega
  ·go_wp2_with fail
   go_ret
   obtain rfl:j=n:=by omega
   refine⟨rfl,hgr,?_⟩
   rw[← hn,mixed_all]at hown
   rw[← hn];exact hown
theorem c_lheldTSentS{a:Option Addr}{n c:Nat}{k0:Int}{w:World}(hs:Sl encTSent w a ((List.range n).map (mkTSent k0)))(hm:n≤100000000)(h1:0≤k0)(h2:k0≤1000000000000) :
  Calls Tryz.prog 243 #[.slice a n c,.int .i64 k0] w (Gives w (.int .i64 (k0+n*2))):=by
 go_enter Tryz.func243,Tryz.ntmps243
 go_wp2_with fail
 go_loopw [1,5] (fun u v wr=>∃ j:Nat,v=.int .i64 j∧u=.int .i64 (k0+j*2)∧j≤n∧∃ x:Later w,wr=x.w) (fun _ v _=>(n - intOf v).toNat)
 case atStart=>exact⟨0,rfl,by simp,by omega,Later.of⟩
 case round =>
  obtain⟨j,rfl,rfl,hj,x0,rfl⟩:=hrel
  by_cases h:j<n
  ·obtain⟨b,off,s,rfl,hb,hd,e0,e1⟩:=hs.tSent (k:=j) (by simpa using h)
   obtain rfl:s=mkTSent k0 j:=by
    have:=congrArg (fun m=>m[0]?) hd.out
    simpa[h]using this.symm
   simp only[mkTSent]at e0 e1
   clear hd
   have hx:((markTx (k0+j*2+1)).toList != (markTx (k0+j*2+1)).toList)=false:=by simp
   go_wp2_with (first|((with_reducible refine rl ?_);(repeat(first|go_big_quiet_step (first|(go_at_call 146;exact Gives.quiet (c_lmarkText (by omega))))|simp only[hx]));refine wpQuiet_nil ?_;intro x)|(go_at_call 146;refine gm (c_lmarkText (by omega)) ?_;intro x))
   go_roundw
   case rel=>exact⟨j+1,by go_num,by go_num,by omega,Later.of⟩
   case measure=>simp[intOf];omega
  ·go_wp2_with fail
   go_ret
   obtain rfl:j=n:=by omega
   exact Gives.mk rfl
def mkTRecord(k0:Int)(i:Nat):TRecord:=⟨k0+i*4,k0+i*4+1,k0+i*4+1+1,markTx (k0+i*4+1+1+1)⟩
theorem c_lmarkTRecordS{a:Option Addr}{n c B:Nat}{k0:Int}{l:List TRecord}{w:World}(hown0:Own encTRecord 197 4 B w a c l)(hn:l.length=n)(hm:n≤100000000)(h1:0≤k0)(h2:k0≤1000000000000) :
  Calls Tryz.prog 149 #[.slice a n c,.int .i64 k0] w (Marks encTRecord 197 4 B w a n c ((List.range n).map (mkTRecord k0)) (k0+n*4)):=by
 go_enter Tryz.func149,Tryz.ntmps149
 go_wp2_with fail
 go_loopw [1,5] (fun u v wr=>∃ j:Nat,v=.int .i64 j∧u=.int .i64 (k0+j*4)∧j≤n∧w.grownBy wr (Value.ownBlock (.slice a n c))∧Own encTRecord 197 4 B wr a c (mixed (mkTRecord k0) l j)) (fun _ v _=>(n - intOf v).toNat)
 case atStart=>exact⟨0,rfl,by simp,by omega,grownBy_refl _ _,by rw[mixed_zero];exact hown0⟩
 case round =>
  obtain⟨j,rfl,rfl,hj,hgr,hown⟩:=hrel
  by_cases h:j<n
  ·obtain⟨g,rfl,hB,hlt⟩:=hown.open (n:=n) (by rw[mixed_length (by omega)];omega)
   obtain⟨o0,g0⟩:=hown.cells (j:=j*4) (by rw[mixed_length (by omega)];omega);obtain⟨o1,g1⟩:=hown.cells (j:=j*4+1) (by rw[mixed_length (by omega)];omega);obtain⟨o2,g2⟩:=hown.cells (j:=j*4+2) (by rw[mixed_length (by omega)];omega);
   have f0:=hown.free (j*4);have f1:=hown.free (j*4+1);have f2:=hown.free (j*4+2);
   have HG:=lH hgr;clear hgr
   have HO:=lH hown;clear hown
   have s0:=(HO.out.2).stored (j*4) (.int .i64 (k0+j*4))
   have s1:=(s0.1).stored (j*4+1) (.int .i64 (k0+j*4+1))
   have s2:=(s1.1).stored (j*4+2) (.int .i64 (k0+j*4+1+1))
   have HS:=lH s2.1;have HT:=lH (grownBy_trans (grownBy_trans s0.2 s1.2) s2.2);clear s0 s1 s2
   go_wp2_with fail
   refine gm (c_lmarkText (by omega)) ?_
   intro y
   have t:=own_later HS.out y
   have hlen:(mixed (mkTRecord k0) l j).length=n:=by rw[mixed_length (by omega)];exact hn
   have hc:=t.cellAt (n:=_) (j*4+3) (by rw[hlen];omega)
   have fL:=t.frozenAt (j*4+3)
   obtain⟨oL,gL⟩:∃ v,y.w.cell? ⟨g,j*4+3,none⟩=some v:=⟨_,hc.trans (List.getElem?_eq_getElem (by simp only[List.length_set];rw[flatMap_length HO.out.1,hlen];omega))⟩
   have HQ:=lH (t.stored (j*4+3) (.string (markTx (k0+j*4+1+1+1))))
   clear t hc g0 f0 g1 f1 g2 f2
   go_wp2_with fail
   go_roundw
   case rel =>
    refine⟨j+1,by go_num,by go_num,by omega,grownBy_trans HG.out (grownBy_trans (grownBy_trans HT.out (grownBy_laterR y _)) HQ.out.2),?_⟩
    rw[← mixed_set (by omega)]
    refine⟨HO.out.1,?_⟩
    rw[← fset4 HO.out.1 (y:=mkTRecord k0 j) rfl _ j (by rw[hlen];omega),List.length_set]
    exact HQ.out.1
   case measure=>simp[intOf];omega
  ·go_wp2_with fail
   go_ret
   obtain rfl:j=n:=by omega
   refine⟨rfl,hgr,?_⟩
   rw[← hn,mixed_all]at hown
   rw[← hn];exact hown
theorem c_lheldTRecordS{a:Option Addr}{n c:Nat}{k0:Int}{w:World}(hs:Sl encTRecord w a ((List.range n).map (mkTRecord k0)))(hm:n≤100000000)(h1:0≤k0)(h2:k0≤1000000000000) :
  Calls Tryz.prog 157 #[.slice a n c,.int .i64 k0] w (Gives w (.int .i64 (k0+n*4))):=by
 go_enter Tryz.func157,Tryz.ntmps157
 go_wp2_with fail
 go_loopw [1,5] (fun u v wr=>∃ j:Nat,v=.int .i64 j∧u=.int .i64 (k0+j*4)∧j≤n∧∃ x:Later w,wr=x.w) (fun _ v _=>(n - intOf v).toNat)
 case atStart=>exact⟨0,rfl,by simp,by omega,Later.of⟩
 case round =>
  obtain⟨j,rfl,rfl,hj,x0,rfl⟩:=hrel
  by_cases h:j<n
  ·obtain⟨b,off,s,rfl,hb,hd,e0,e1,e2,e3⟩:=hs.tRecord (k:=j) (by simpa using h)
   obtain rfl:s=mkTRecord k0 j:=by
    have:=congrArg (fun m=>m[0]?) hd.out
    simpa[h]using this.symm
   simp only[mkTRecord]at e0 e1 e2 e3
   clear hd
   have hx:((markTx (k0+j*4+1+1+1)).toList != (markTx (k0+j*4+1+1+1)).toList)=false:=by simp
   go_wp2_with (first|((with_reducible refine rl ?_);(repeat(first|go_big_quiet_step (first|(go_at_call 146;exact Gives.quiet (c_lmarkText (by omega))))|simp only[hx]));refine wpQuiet_nil ?_;intro x)|(go_at_call 146;refine gm (c_lmarkText (by omega)) ?_;intro x))
   go_roundw
   case rel=>exact⟨j+1,by go_num,by go_num,by omega,Later.of⟩
   case measure=>simp[intOf];omega
  ·go_wp2_with fail
   go_ret
   obtain rfl:j=n:=by omega
   exact Gives.mk rfl
