/- slices. No condition but on sizes. -/
import Derived.Test.YthbepablpaldgaaGreatSM7
import Derived.Test.YthbepablpaldgaaGreatSOwnF
import Derived.Lib.SliceRun
import Derived.Deep.RegionLaw
import Derived.Test.YthbepablpaldgaaGreatSLnk0
import Derived.Deep.CutRange
import Derived.Test.YthbepablpaldgaaGreatSM0
import Derived.Test.YthbepablpaldgaaGreatSStab3
import Derived.Test.YthbepablpaldgaaGreatSStr
import Derived.Test.YthbepablpaldgaaGreatSOkBi
import Derived.Test.YthbepablpaldgaaGreatSOkBs
import Derived.Test.YthbepablpaldgaaGreatSOkS
import Derived.Test.YthbepablpaldgaaGreatSStepH
import Derived.Test.YthbepablpaldgaaGreatSM22
namespace Go.Proofs.YthbepablpaldgaaGreat
set_option maxRecDepth 100000
set_option maxHeartbeats 4000000
set_option linter.unusedVariables false
open Go.ChangeShapes Go.WideShapes Go.ChangeAt Go.RowKit
private abbrev uu287:=Tryz.underlying287
private abbrev uu5:=Tryz.underlying5
private abbrev uu9:=Tryz.underlying9
theorem splice_eq:∀ (us cs:List Value) (o:Nat),o+us.length≤cs.length→splice cs o us=cs.take o++us++cs.drop (o+us.length)
 | [],cs,o,_=>by simp[splice]
 | v::r,cs,o,h=>by
  simp only[List.length_cons]at h
  rw[splice,splice_eq r (cs.set o v) (o+1) (by simp;omega)]
  have h1:(cs.set o v).take (o+1)=cs.take o++[v]:=by
   rw[List.take_add_one,List.take_set_of_le nl,List.getElem?_set_self (by omega)];rfl
  rw[h1,List.drop_set_of_lt (by omega),List.length_cons,show o+1+r.length=o+(r.length+1)by omega]
  simp
theorem splice_len{us cs:List Value}{o:Nat}(h:o+us.length≤cs.length):(splice cs o us).length=cs.length:=by
 rw[splice_eq us cs o h];simp;omega
theorem zeroCells_one{z:Array Value}:(Builtin.zeroCells z 1).toList=z.toList:=by
 apply List.ext_getElem
 ·simp[Builtin.zeroCells]
 ·intro i h1 h2
  have:i<z.size:=by simpa using h2
  simp[Builtin.zeroCells,Nat.mod_eq_of_lt this,this]
theorem run_clear1{P:Program}(w:World)(t e ty:TypeId)(z:Value)(us:List Value)(ht:P.underlying t=some (.slice e))(hv:∀ w,(zeroValue e).run P w=.ok z w)(hz:z.cells.toList=us)(h1:us.all (·.oneCell')=true)(b o c:Nat)(hl:w.there b o us.length) :
  (Builtin.clear_ #[t] ty #[.slice (some ⟨b,o,none⟩) 1 c]).run P w=.ok (.tuple #[]) (w.setCells b o us):=by
 have hst:=run_storeCells_cells (P:=P) b o us 0 w (fun j hj=>by simpa using(hl j hj).1) (fun j hj=>by simpa using(hl j hj).2) (fun u hu=>List.all_eq_true.1 h1 u hu)
 simp only[Nat.add_zero]at hst
 simp[Builtin.clear_,run_underlying ht,hv,zeroCells_one,hz,hst]
section
variable {α:Type} {enc:α→List Value} {T size B:Nat} {w w':World} {c:Nat} {l:List α}
theorem flatMap_take{n:Nat}(h:∀ x:α,(enc x).length=size):∀ (l:List α) (n:Nat),(l.flatMap enc).take (n*size)=(l.take n).flatMap enc
 | [],n=>by simp
 | x::r,0=>by simp
 | x::r,n+1=>by
  rw[List.flatMap_cons,List.take_succ_cons,List.flatMap_cons,← flatMap_take (n:=n) h r n,List.take_append,h x,List.take_of_length_le (by rw[h x,Nat.add_mul];omega),show(n+1)*size - size=n*size by rw[Nat.add_mul];omega]
theorem flatMap_drop(h:∀ x:α,(enc x).length=size):∀ (l:List α) (n:Nat),(l.flatMap enc).drop (n*size)=(l.drop n).flatMap enc
 | [],n=>by simp
 | x::r,0=>by simp
 | x::r,n+1=>by
  rw[List.flatMap_cons,List.drop_succ_cons,← flatMap_drop h r n,List.drop_append,h x,List.drop_of_length_le (by rw[h x,Nat.add_mul];omega),show(n+1)*size - size=n*size by rw[Nat.add_mul];omega,List.nil_append]
theorem Own.del{g k:Nat}{us:List Value}(h:Own enc T size B w (some ⟨g,0,none⟩) c l)(hk:k<l.length)(hu:us.length=size)(hsz:0<size) :
  ∃ cs:List Value,Held w g cs T∧(l.drop (k+1)).flatMap enc=(cs.drop ((k+1)*size)).take ((l.length - (k+1))*size)∧l.length*size≤cs.length∧l.length≤c∧c≤9223372036854775807 ∧
   ∀ w',Held w' g (splice (splice cs (k*size) ((l.drop (k+1)).flatMap enc)) ((l.length - 1)*size) us) T→Own enc T size B w' (some ⟨g,0,none⟩) c (l.eraseIdx k):=by
 obtain⟨hs,hlen,⟨hv,hn0⟩|⟨g',cap,cur,hv,hB,hheap,hle,hmax,hcs,ht⟩⟩:=h
 ·omega
 ·simp only[Value.slice.injEq,Option.some.injEq,Addr.mk.injEq]at hv
  obtain⟨⟨rfl,-,-⟩,-,rfl⟩:=hv
  have hL:cur.toList.length=c*size:=by rw[Array.length_toList];exact hcs
  have hfl:=flatMap_length hs l
  have htake:cur.toList.take (l.length*size)=l.flatMap enc:=by
   exact ht
  have hcl:l.length*size≤c*size:=Nat.mul_le_mul_right _ hle
  have hk1:(k+1)*size≤l.length*size:=Nat.mul_le_mul_right _ hk
  have e1:(k+1)*size=k*size+size:=by rw[Nat.add_mul];omega
  have e2:(l.length - (k+1))*size=l.length*size - (k+1)*size:=Nat.sub_mul _ _ _
  have e3:(l.length - 1)*size=l.length*size - size:=by rw[Nat.sub_mul];omega
  have hdl:((l.drop (k+1)).flatMap enc).length=(l.length - (k+1))*size:=by rw[flatMap_length hs,List.length_drop]
  have hd:(l.drop (k+1)).flatMap enc=(cur.toList.drop ((k+1)*size)).take ((l.length - (k+1))*size):=by
   rw[← flatMap_drop hs,← htake,List.drop_take,e2]
  refine⟨cur.toList,by unfold Held;simpa using hheap,hd,by rw[hL];exact hcl,hle,by unfold maxLen at hmax;omega,fun w' hH=>⟨hs,by rw[flatMap_length hs],.inr ⟨g,c,_,?_,hB,hH,?_,hmax,?_,?_⟩⟩⟩
  ·rfl
  ·rw[List.length_eraseIdx,if_pos hk];omega
  ·have l1:(splice cur.toList (k*size) ((l.drop (k+1)).flatMap enc)).length=c*size:=by rw[splice_len (by rw[hdl,hL];omega),hL]
   show(splice _ _ _).toArray.size=_
   rw[List.size_toArray,splice_len (by rw[l1,hu];omega),l1]
  ·have l1:(splice cur.toList (k*size) ((l.drop (k+1)).flatMap enc)).length=c*size:=by rw[splice_len (by rw[hdl,hL];omega),hL]
   have hEl:((l.eraseIdx k).flatMap enc).length=(l.length - 1)*size:=by rw[flatMap_length hs,List.length_eraseIdx,if_pos hk]
   rw[List.length_eraseIdx,if_pos hk,splice_eq us _ _ (by rw[l1,hu];omega),splice_eq _ _ _ (by rw[hdl,hL];omega),hdl]
   have hE:(l.eraseIdx k).flatMap enc=(l.flatMap enc).take (k*size)++(l.drop (k+1)).flatMap enc:=by
    rw[List.eraseIdx_eq_take_drop_succ,List.flatMap_append,flatMap_take (n:=k) hs]
   have hT:cur.toList.take (k*size)=(l.flatMap enc).take (k*size):=by rw[← htake,List.take_take,Nat.min_eq_left (by omega)]
   rw[hE,← hT]
   have hA:(cur.toList.take (k*size)++(l.drop (k+1)).flatMap enc).length=(l.length - 1)*size:=by rw[List.length_append,hdl,List.length_take,hL];omega
   show List.take _ (List.take _ _++us++_)=_
   rw[List.append_assoc,List.take_append_of_le_length (by rw[List.length_take,List.length_append,hA];simp),List.take_take,Nat.min_self,List.take_append_of_le_length (by rw[hA];exact Nat.le_refl _),List.take_of_length_le (by rw[hA];exact Nat.le_refl _)]
end
theorem c_DeleteStr{B k:Nat}{a:Option Addr}{c:Nat}{l:List ByteArray}{w:World}(h:Own encStr 9 1 B w a c l)(hk:k<l.length)(hm:l.length≤100000000) :
  Calls Tryz.prog 62 #[.slice a l.length c,.int .i64 k,.int .i64 ((k:Int)+1)] w (fun e w'=>e=.returned (.slice a (l.length - 1) c)∧Own encStr 9 1 B w' a c (l.eraseIdx k)∧w.grownBy w' (blkOf a)):=by
 obtain⟨g,rfl⟩:∃ g,a=some ⟨g,0,none⟩:=by
  obtain⟨-,-,⟨hv,hn0⟩|⟨g,cap,cur,hv,-⟩⟩:=h
  ·omega
  ·simp only[Value.slice.injEq]at hv;exact⟨g,hv.1⟩
 obtain⟨i0,hi0,hz1⟩:=Option.map_eq_some_iff.1 (show(Tryz.prog.info? 9).map (·.size)=some 1 by kernel_rfl)
 obtain⟨cs,hH,hd,hcs,hle,hc,hO⟩:=h.del (us:=[.string ⟨#[]⟩]) hk rfl (by decide)
 obtain⟨n,hn⟩:∃ n,l.length=n:=⟨_,rfl⟩
 obtain⟨news,hnews⟩:∃ news,(l.drop (k+1)).flatMap encStr=news:=⟨_,rfl⟩
 rw[hnews,hn]at hd hO
 rw[hn]at hcs hle hk hm ⊢
 have hnl:news.length=(n - (k+1))*1:=by rw[← hnews,flatMap_length (size:=1) (fun _=>rfl),List.length_drop,hn]
 obtain⟨A,hA,hsrc⟩:∃ A:Addr,(if c=k+1 then some (⟨g,0,none⟩:Addr)else some ⟨g,(k+1)*1,none⟩)=some A∧Hid (∀ t u,news[t]?=some u→w.drew.cell? (A.add t)=some u):=by
  by_cases e:c=k+1
  ·refine⟨⟨g,0,none⟩,by rw[if_pos e],fun t u hu=>?_⟩
   have:news.length=0:=by rw[hnl,show n - (k+1)=0 by omega,Nat.zero_mul]
   rw[List.length_eq_zero_iff.1 this]at hu
   simp at hu
  ·refine⟨⟨g,(k+1)*1,none⟩,by rw[if_neg e],fun t u hu=>?_⟩
   have ht:t<(n - (k+1))*1:=by rw[← hnl];exact(List.getElem?_eq_some_iff.1 hu).1
   rw[hd,List.getElem?_take_of_lt ht,List.getElem?_drop]at hu
   have e2:(⟨g,(k+1)*1,none⟩:Addr).add t=⟨g,(k+1)*1+t,none⟩:=by
    unfold Addr.add;split
    ·rename_i h0;rw[h0];simp
    ·simp
   rw[e2]
   exact(hH.cell _).trans hu
 have s1:Hid (news.length=(n - (k+1))*1):=hnl
 have s2:Hid (∀ u∈news,u.oneCell'=true):=by
  intro u hu
  rw[← hnews]at hu
  obtain⟨x,_,hx⟩:=List.mem_flatMap.1 hu
  exact Flat.one x u hx
 have s3:Hid (∀ t,t<news.length→(w.drew.cell? ⟨g,0+k*1+t,none⟩).isSome=true∧w.drew.frozen? ⟨g,0+k*1+t,none⟩=false):=by
  intro t ht
  rw[hnl]at ht
  have:=(hH.there (o:=0+k*1) (n:=(n - (k+1))*1) (by omega)) t ht
  exact this
 obtain⟨W1,hW1⟩:∃ W1,W1=w.drew.setCells g (0+k*1) news:=⟨_,rfl⟩
 have hH1:Held W1 g (splice cs (k*1) news) 9:=by rw[hW1,Nat.zero_add];exact Held.setCells news (k*1) hH
 have hL1:(splice cs (k*1) news).length=cs.length:=splice_len (by rw[hnl];omega)
 have hcl:∀ ty q,(Builtin.clear_ #[30] ty #[.slice (some ⟨g,(n - 1)*1,none⟩) 1 q]).run Tryz.prog W1=.ok (.tuple #[]) (W1.setCells g ((n - 1)*1) [.string ⟨#[]⟩]) :=
  fun ty q=>run_clear1 W1 _ _ ty (.string ⟨#[]⟩) [.string ⟨#[]⟩] Tryz.underlying30 (fun w=>by kernel_rfl) rfl rfl g _ q (by have:=hH1.there (o:=(n - 1)*1) (n:=1) (by rw[hL1];omega);exact this)
 have X:Hid (Held (W1.setCells g ((n - 1)*1) [.string ⟨#[]⟩]) g (splice (splice cs (k*1) news) ((n - 1)*1) [.string ⟨#[]⟩]) 9):=Held.setCells _ _ hH1
 have HO:=lH hO
 have hW:Hid (W1=w.drew.setCells g (0+k*1) news):=hW1
 have HWg:=lH (show w.grownBy (W1.setCells g ((n - 1)*1) [.string ⟨#[]⟩]) (some g)from by
  have hb:Below g w (W1.setCells g ((n - 1)*1) [.string ⟨#[]⟩]):=below_setCells (Nat.le_refl g) _ _ (hW1▸below_setCells (Nat.le_refl g) _ _ (Below.refl g w).drew)
  have hu:But g w (W1.setCells g ((n - 1)*1) [.string ⟨#[]⟩]):=But.setCells _ _ (hW1▸But.setCells _ _ ⟨Nat.le_refl _,fun _ _ _=>rfl⟩)
  exact⟨hb.os,hb.tape,hb.output,hb.size,fun q h1 h2=>hu.block q (fun e=>h2 (by rw[e])) h1⟩)
 have hj0:(0:Int)≤(k:Int)+1:=by omega
 have hj1:(k:Int)+1≤(n:Int):=by omega
 have hic:k≤c:=by omega
 have hjc:k+1≤c:=by omega
 have hlc:k+(n - (k+1))=n - 1:=by omega
 have hl1:n - 1≤c:=by omega
 clear hW1 hH1 hL1 hH hcs hnl hnews hd hO h
 simp only[Nat.mul_one]at hA hcl X HWg HO
 go_enter Tryz.func62,Tryz.ntmps62
 go_wp2_with fail
 go_region_law (refine step_append_room rfl (.tmp 22) (.tmp 25) 30 rfl 9 i0 1 Tryz.underlying30 hi0 hz1 g 0 k c (by simp[Act.eval,Act.put]) A (n - (k+1)) (c - (k+1)) news (by simp[Act.eval,Act.put]) s1.out hsrc.out s2.out (by omega) s3.out ?_;rw[← hW.out])
 have hne:¬ c=n - 1:=by omega
 have h1n:n - (n - 1)=1:=by omega
 go_wp2_with (first|((with_reducible refine rl ?_);(repeat(first|go_big_quiet_step (first|fail)|simp only[hne]|simp only[h1n]));refine wpQuiet_nil ?_;intro x))
 go_ret
 exact⟨rfl,HO.out _ X.out,HWg.out⟩
theorem c_OnesCount64{x:Int}{w:World}(h0:0≤x)(h1:x≤255):Calls Tryz.prog 286 #[.int .u64 x] w (Gives w (.int .i64 (ones x))):=by
 obtain⟨k,rfl⟩:∃ k:Fin 256,x=(k.1:Int):=⟨⟨x.toNat,by omega⟩,by simp;omega⟩
 go_enter Tryz.func286,Tryz.ntmps286
 go_wp2_with (fail)
 go_ret
 refine Gives.mk (congrArg (Value.int .i64) ?_)
 clear h0 h1
 revert k
 decide +kernel
theorem c_OnesCount{x:Int}{w:World}(h0:0≤x)(h1:x≤255):Calls Tryz.prog 284 #[.int .u64 x] w (Gives w (.int .i64 (ones x))):=by
 go_enter Tryz.func284,Tryz.ntmps284
 go_wp2_with (first|(go_at_call 286;refine gm (c_OnesCount64 (by omega) (by omega)) ?_;intro x))
 go_ret
 exact Gives.mk rfl
theorem c_iEncodeNibble{n:Int}{w:World}(h0:0≤n)(h1:n≤15):Calls Tryz.prog 277 #[.int .i64 n] w (Gives w (.int .i64 (nib n))):=by
 have h:n=0∨n=1∨n=2∨n=3∨n=4∨n=5∨n=6∨n=7∨n=8∨n=9∨n=10∨n=11∨n=12∨n=13∨n=14∨n=15:=by omega
 clear h0 h1
 rcases h with rfl|rfl|rfl|rfl|rfl|rfl|rfl|rfl|rfl|rfl|rfl|rfl|rfl|rfl|rfl|rfl
 all_goals
  go_enter Tryz.func277,Tryz.ntmps277
  go_wp2_with (first|(go_at_call 284;refine gm (c_OnesCount (of_decide_eq_true kr) (of_decide_eq_true kr)) ?_;intro x))
  go_ret
  exact Gives.mk kr
theorem c_iEncodeBlock{s:ByteArray}{w:World}(hm:s.size≤200):Calls Tryz.prog 258 #[.string s] w (Gives w (.string (strOfNums (encB (byteList s))))):=by
 have hlen:=byteList_len s
 have hmk:=run_mk0 (P:=Tryz.prog) (t:=287) (e:=5) uu287 kr (l:=0) (c:=2*s.size) (a:=0) (b:=2*(s.size:Int)) (by omega) (by omega) rfl (by omega)
 go_enter Tryz.func258,Tryz.ntmps258
 go_wp2_with (first|((with_reducible refine rl ?_);refine rq ?_;intro x))
 go_loopw [3,4] (fun u v wr=>∃ (k q:Nat) (L:List Int) (sa:Option Addr) (sc:Nat),u=.slice sa q sc∧v=.int .i64 k∧k≤s.size∧Hid (q=2*k)∧L.length=q∧Hid (L=encB ((byteList s).take k))∧Hid (q=0→sa=some ⟨w.heap.size,0,none⟩)∧Hid (Own encByte 5 1 w.heap.size wr sa sc L)∧∃ x:Later w,wr=x.w) (fun _ v _=>(s.size - intOf v).toNat)
 case atStart=>exact⟨0,0,[],_,_,rfl,rfl,by omega,rfl,rfl,rfl,fun _=>rfl,lH (Own.room (W:=w) (T:=5) (c:=2*s.size) (by omega) (Later.here _)),Later.of⟩
 case round =>
  obtain⟨k,q,L,sa,sc,rfl,rfl,hk,hq,hL,HL,h00,hO,y0,rfl⟩:=hrel
  by_cases h:k<s.size
  ·obtain⟨hb1,hd⟩:=byteList_at h
   obtain⟨b,hb⟩:∃ b:Int,((s[k]'h).toNat:Int)=b:=⟨_,rfl⟩
   have hb0:0≤b:=by omega
   rw[hb]at hb1 hd
   have hn1:=nib_bd (n:=b / 16) (by omega) (by omega)
   have hn2:=nib_bd (n:=b % 16) (by omega) (by omega)
   have Hb:=lH hb
   have hqb:q≤400:=by have:=hq.out;omega
   go_upto_region 7 with(first|((with_reducible refine rl ?_);refine rq ?_;intro x))
   refine wp_region_stabZ kr (T:=[16,17]) (Zs:=[]) (H:=[(3,[]),(4,[]),(5,[]),(6,[]),(7,[]),(10,[]),(11,[]),(12,[]),(13,[]),(14,[]),(15,[])]) (C:=[15]) (Fs:=[(some 18,.v (.slice sa q sc)),(some 19,.v (.string s)),(some 20,.v (.int .i64 (k))),(some 21,.v (.int .u8 (b))),(some 22,.v (.int .u8 (b / 16))),(some 23,.v (.int .i64 (b / 16))),(some 24,.v (.int .i64 (nib (b / 16)))),(some 25,.v (.int .u8 (nib (b / 16)))),(some 26,.v (.string s)),(some 27,.v (.int .i64 (k))),(some 28,.v (.int .u8 (b))),(some 29,.v (.int .u8 (b % 16))),(some 30,.v (.int .i64 (b % 16))),(some 31,.v (.int .i64 (nib (b % 16)))),(some 32,.v (.int .u8 (nib (b % 16)))),(some 33,.sl y0.w.heap.size 2 [.int .u8 (nib (b / 16)),.int .u8 (nib (b % 16))] 5),(none,.v (undef)),(none,.v (undef))]) kr (fun val W=>by kernel_rfl) ?ob7 ?lz7 ?pn7 ?tl7
   case ob7 =>
    refine⟨fun x=>?_,fun x=>?_,fun x=>?_,fun x=>?_,fun x=>?_,fun x=>?_,fun x=>?_,fun x=>?_,fun x=>?_,fun x=>?_,fun x=>?_,trivial⟩
    ·exact g_six rfl kr uu9 h hb
    ·exact g_bin (o:=.shr) (p:=.u8) (s:=b) (q:=.u64) (t:=4) rfl kr (fun ty ty2 w=>by simp[go_sem])
    ·exact g_cvt (t:=5) (d:=3) (p:=.u8) (q:=.i64) (s:=(b / 16)) rfl kr kr Tryz.underlying3 (i64_wr (by omega) (by omega))
    ·refine g_call (f:=277) (args:=[.int .i64 (b / 16)]) Tryz.func277 kr kr ((c_iEncodeNibble (by omega) (by omega)).mono ?_)
     rintro _ _ ⟨rfl,y9,rfl⟩
     exact⟨_,rfl,⟨y9,rfl⟩,rfl⟩
    ·exact g_cvt (t:=3) (d:=5) (p:=.i64) (q:=.u8) (s:=(nib (b / 16))) rfl kr kr uu5 (u8_wr hn1.1 hn1.2)
    ·exact g_six rfl kr uu9 h hb
    ·exact g_bin (o:=.and) (p:=.u8) (s:=b) (q:=.u8) (t:=15) rfl kr (fun ty ty2 w=>by simp[go_sem,u8_and15 hb0 hb1])
    ·exact g_cvt (t:=5) (d:=3) (p:=.u8) (q:=.i64) (s:=(b % 16)) rfl kr kr Tryz.underlying3 (i64_wr (by omega) (by omega))
    ·refine g_call (f:=277) (args:=[.int .i64 (b % 16)]) Tryz.func277 kr kr ((c_iEncodeNibble (by omega) (by omega)).mono ?_)
     rintro _ _ ⟨rfl,y9,rfl⟩
     exact⟨_,rfl,⟨y9,rfl⟩,rfl⟩
    ·exact g_cvt (t:=3) (d:=5) (p:=.i64) (q:=.u8) (s:=(nib (b % 16))) rfl kr kr uu5 (u8_wr hn2.1 hn2.2)
    ·exact g_sl rfl kr LeN.out
   case lz7 =>
    exact trivial
   case pn7=>exact fun _ _ _ _ _ _ h=>h
   case tl7 =>
    intro x
    refine chain1 fun v8 q8=>?_
    obtain⟨bs,rfl,hbs,hH⟩:=(show ∃ g,v8=.slice (some ⟨g,0,none⟩) 2 2∧y0.w.heap.size≤g∧Held x.w g [.int .u8 (nib (b / 16)),.int .u8 (nib (b % 16))] 5 from q8)
    clear q8
    refine tail2 rfl rfl ?_
    simp only[put_nrm]
    simp only[Act.put,List.setIfInBounds_toArray,List.set_cons_succ,List.set_cons_zero]
    refine wpList_appS (t:=287) (enc:=encByte) (w0:=w) (z:=.int .u8 0) (size:=1) (bytes:=1) (n:=q) (m:=2) (l:=L) (r:=[nib (b / 16),nib (b % 16)]) rfl (.tmp 18) (.tmp 33) rfl uu287 kr rfl (by decide) (by decide) rfl rfl (by simp) hL rfl (hO.out.to ii) (Held.sl8 hH) (by intro y u hu;simp[encByte]at hu;subst hu;rfl) (by omega) ?_
    intro sa1 sc1 y1 hO1 hg1
    have HO1:=lH hO1;clear hO1 hg1 hH
    (try simp only[Act.put,List.setIfInBounds_toArray])
    have hlt:=HO1.out.lt (n:=q+2)
    go_wp2_with (first|((with_reducible refine rl ?_);refine rq ?_;intro x))
    go_roundw
    case rel=>exact⟨k+1,q+2,L++[nib (b / 16),nib (b % 16)],sa1,sc1,rfl,by go_num,by omega,(by have:=hq.out;show _=_;omega),by simp[hL],lH (by rw[HL.out];exact encB_app hd),lH fun e=>by omega,HO1,Later.of⟩
    case measure=>simp[intOf];omega
  ·obtain rfl:k=s.size:=by omega
   have hcv:∀ (W':World) [Grows y0.w W'],(convert 287 9 (.slice sa q sc)).run Tryz.prog W'=.ok (.string (strOfNums L)) W':=by
    by_cases hq0:q=0
    ·intro W' _
     rw[h00.out hq0]
     exact run_convert_bytes_arg W' 287 5 uu287 uu5 w.heap.size 0 q sc L hL (fun i hi=>by omega) 9 uu9
    ·exact conv_str (P:=Tryz.prog) (c:=sc) uu287 uu5 uu9 hO.out.sl hL (by omega)
   have hcv1:=hcv y0.w
   clear hcv
   go_wp2_with (first|((with_reducible refine rl ?_);refine rq ?_;intro x))
   go_ret
   exact Gives.mk (by rw[HL.out,List.take_of_length_le (by rw[hlen];exact Nat.le_refl _)];rfl)
theorem c_iSpreadBits{s:ByteArray}{w:World}(hm:s.size≤400):Calls Tryz.prog 257 #[.string s] w (Gives w (.string (strOfNums (spread (byteList s))))):=by
 have hlen:=byteList_len s
 obtain⟨n,hn⟩:∃ n,s.size=n:=⟨_,rfl⟩
 have hln:(byteList s).length=n:=by omega
 have hmk:=run_mk0 (P:=Tryz.prog) (t:=287) (e:=5) uu287 kr (l:=n) (c:=n) (a:=n) (b:=n) nl (by omega) rfl rfl
 go_enter Tryz.func257,Tryz.ntmps257
 go_wp2_with (first|((with_reducible refine rl ?_);(repeat(first|go_big_quiet_step (first|fail)|simp only[hn]));refine wpQuiet_nil ?_;intro x))
 go_loopw [5] (fun v wr=>∃ (m:Nat) (D:List Int),v=.int .i64 m∧m≤n∧D.length=n∧Hid ((prows (byteList s) m (n - m)).foldl (up1 orU) D=spread (byteList s))∧Hid (Row8 wr w.heap.size D)∧∃ x:Later w,wr=x.w) (fun v _=>(n - intOf v).toNat)
 case atStart=>exact⟨0,List.replicate n 0,rfl,by omega,by simp,lH (by have:=spread_rows (byteList s);rw[hln]at this;exact this),lH (Row8.made rfl),Later.of⟩
 case round =>
  obtain⟨m,D,rfl,hm,hDn,HF,HD,x0,rfl⟩:=hrel
  by_cases hmn:m<n
  ·go_wp2_with (first|((with_reducible refine rl ?_);refine rq ?_;intro x))
   go_loopw [6] (fun v wr=>∃ (k:Nat) (D:List Int),v=.int .i64 k∧k≤8∧D.length=n∧Hid ((prows (byteList s) (m+1) (n - (m+1))).foldl (up1 orU) ((prow (byteList s) m k (8 - k)).foldl (up1 orU) D)=spread (byteList s))∧Hid (Row8 wr w.heap.size D)∧∃ y:Later w,wr=y.w) (fun v _=>(8 - intOf v).toNat)
   case atStart=>exact⟨0,D,rfl,by omega,hDn,lH (by have:=HF.out;rw[prows_step _ hmn,List.foldl_append]at this;exact this),HD.out.to ii,Later.of⟩
   case round =>
    obtain⟨k,D,rfl,hk,hDn,HF,HD,y,rfl⟩:=hrel
    by_cases hk8:k<8
    ·have hln:(byteList s).length=n:=by rw[hlen];exact hn
     obtain⟨q,hq9⟩:∃ x:Nat,k*n=x:=⟨_,rfl⟩
     have HQ:=lH hq9
     have hq7:q≤7*n:=hq9▸Nat.mul_le_mul_right n (by omega)
     have HOV:=lH (show(k:Int)*n=(q:Int)by rw[← hq9];exact(Int.natCast_mul k n).symm)
     clear hq9
     obtain⟨p,hp9⟩:∃ x:Nat,q+m=x:=⟨_,rfl⟩
     have HP:=lH hp9
     obtain⟨j,hj9⟩:∃ x:Nat,p / 8=x:=⟨_,rfl⟩
     have HJ:=lH hj9
     obtain⟨r,hr9⟩:∃ x:Nat,p % 8=x:=⟨_,rfl⟩
     have HR:=lH hr9
     have hjn:j<n:=by omega
     have hr8:r<8:=by omega
     have hpb:p≤4000:=by omega
     have HPE:=lH (show wrap64 (wrap64 (q:Int)+m)=(p:Int)by rw[w64 (n:=(q:Int)) (by omega) (by omega),w64 (n:=(q:Int)+m) (by omega) (by omega)];omega)
     clear hp9 hj9 hr9
     obtain⟨d,hd9⟩:∃ x:Int,D.getD j 0=x:=⟨_,rfl⟩
     have Hd:=lH hd9
     have hcell:∀ (W:World) [Grows y.w W],W.cell? ⟨w.heap.size,0+j*1,none⟩=some (.int .u8 d):=fun W g=>by rw[Nat.zero_add,Nat.mul_one,← Hd.out];exact((HD.out.to g).at (by omega)).1
     clear hd9
     have hms:m<s.size:=by omega
     obtain⟨hb1,hdr⟩:=byteList_at hms
     obtain⟨b,hb⟩:∃ b:Int,((s[m]'hms).toNat:Int)=b:=⟨_,rfl⟩
     have hb0:0≤b:=by omega
     rw[hb]at hb1 hdr
     have Hb:=lH (show(byteList s).getD m 0=b by have:=congrArg (fun l=>l[0]?) hdr;simp only[List.getElem?_drop,Nat.add_zero,List.getElem?_cons_zero]at this;rw[List.getD,this];rfl)
     clear hdr
     have⟨hs0,hs1⟩:=shr_bd hb0 hb1 k
     obtain⟨bs,hbs9⟩:∃ x:Int,b / 2 ^ k=x:=⟨_,rfl⟩
     have HS:=lH hbs9
     rw[hbs9]at hs0 hs1
     clear hbs9
     obtain⟨b1,hb19⟩:∃ x:Int,bs % 2=x:=⟨_,rfl⟩
     have HS1:=lH hb19
     clear hb19
     obtain⟨v,hv9⟩:∃ x:Int,IntKind.u8.wrap (b1*2 ^ r)=x:=⟨_,rfl⟩
     have HV:=lH hv9
     clear hv9
     obtain⟨ov,hov9⟩:∃ x:Int,orU d v=x:=⟨_,rfl⟩
     have HO:=lH hov9
     clear hov9
     go_upto_region 10 with(first|((with_reducible refine rl ?_);refine rq ?_;intro x)|(rw[HOV.out]))
     rw[HPE.out]
     refine wp_region_stabZ kr (T:=[16]) (Zs:=[]) (H:=[(2,[]),(3,[]),(4,[]),(7,[]),(9,[]),(10,[]),(12,[]),(13,[]),(14,[]),(15,[])]) (C:=[]) (Fs:=[(some 26,.v (.slice (some ⟨w.heap.size,0,none⟩) n n)),(some 27,.v (.int .i64 ((p:Int)))),(some 28,.v (.int .i64 ((j:Int)))),(some 29,.v (.pointer (some ⟨w.heap.size,0+j*1,none⟩))),(some 30,.v (.int .u8 (d))),(some 31,.v (.string s)),(some 32,.v (.int .i64 (m))),(some 33,.v (.int .u8 (b))),(some 34,.v (.int .i64 (k))),(some 35,.v (.int .u8 (bs))),(some 36,.v (.int .u8 (b1))),(some 37,.v (.int .i64 ((p:Int)))),(some 38,.v (.int .i64 ((r:Int)))),(some 39,.v (.int .u8 (v))),(some 40,.v (.int .u8 (ov))),(some 41,.v (.pointer (some ⟨w.heap.size,0+j*1,none⟩))),(none,.v (undef))]) kr (fun val W=>by kernel_rfl) ?ob10 ?lz10 ?pn10 ?tl10
     case ob10 =>
      refine⟨fun x=>?_,fun x=>?_,fun x=>?_,fun x=>?_,fun x=>?_,fun x=>?_,fun x=>?_,fun x=>?_,fun x=>?_,fun x=>?_,trivial⟩
      ·exact g_bin (o:=.quo) (p:=.i64) (s:=(p:Int)) (q:=.i64) (t:=8) rfl kr (fun ty ty2 w=>by exact HJ.out▸run_quo8 rfl hpb ty ty2 w)
      ·exact g_ix (size:=1) (o:=0) (j:=j) (n:=n) (c:=n) rfl kr uu287 kr hjn
      ·exact g_cell (hcell x.w) rfl kr _ uu5 rfl
      ·exact g_six rfl kr uu9 hms hb
      ·exact g_bin (o:=.shr) (p:=.u8) (s:=b) (q:=.i64) (t:=k) rfl kr (fun ty ty2 w=>by exact HS.out▸run_shrK hk8 ty ty2 w)
      ·exact g_bin (o:=.and) (p:=.u8) (s:=bs) (q:=.u8) (t:=1) rfl kr (fun ty ty2 w=>by exact HS1.out▸run_and1 hs0 hs1 ty ty2 w)
      ·exact g_bin (o:=.rem) (p:=.i64) (s:=(p:Int)) (q:=.i64) (t:=8) rfl kr (fun ty ty2 w=>by exact HR.out▸run_rem8 rfl hpb ty ty2 w)
      ·exact g_bin (o:=.shl) (p:=.u8) (s:=b1) (q:=.i64) (t:=(r:Int)) rfl kr (fun ty ty2 w=>by exact HV.out▸run_shlK hr8 ty ty2 w)
      ·exact g_bin (o:=.or) (p:=.u8) (s:=d) (q:=.u8) (t:=v) rfl kr (fun ty ty2 w=>by exact HO.out▸run_or ty ty2 w)
      ·exact g_ix (size:=1) (o:=0) (j:=j) (n:=n) (c:=n) rfl kr uu287 kr hjn
     case lz10 =>
      exact trivial
     case pn10=>exact fun _ _ _ _ _ _ h=>h
     case tl10 =>
      intro x
      refine tail1 rfl ?_
      simp only[put_nrm]
      simp only[Act.put,List.setIfInBounds_toArray,List.set_cons_succ,List.set_cons_zero]
      refine step_row8 rfl _ (.tmp 41) (.tmp 40) rfl w.heap.size (0+j*1) rfl (L2:=up1 orU D (spr1 (byteList s) m k)) (HD.out.to (ii:Grows y.w x.w)) rfl kr (by omega) (by rw[up1,spr1,Nat.zero_add,Nat.mul_one,hln,HQ.out,HP.out,HJ.out,HR.out,Hd.out,Hb.out,HS.out,HS1.out,HV.out,HO.out]) (w0:=w) ii nl ?_
      intro z hz
      have HZ:=lH hz;clear hz hcell
      (try simp only[Act.put,List.setIfInBounds_toArray])
      go_wp2_with (first|((with_reducible refine rl ?_);refine rq ?_;intro x))
      go_roundw
      case rel=>exact⟨k+1,up1 orU D (spr1 (byteList s) m k),by go_num,by omega,by rw[up1_len];exact hDn,lH (by have:=HF.out;rw[prow_step _ _ hk8,List.foldl_cons]at this;exact this),HZ,Later.of⟩
      case measure=>simp[intOf];omega
    ·obtain rfl:k=8:=by omega
     go_wp2_with (first|((with_reducible refine rl ?_);refine rq ?_;intro x))
     go_roundw
     case rel=>exact⟨m+1,D,by go_num,by omega,hDn,lH (by have:=HF.out; exact this),HD,Later.of⟩
     case measure=>simp[intOf];omega
  ·obtain rfl:n=m:=by omega
   have hcv:=HD.out.str (P:=Tryz.prog) (c:=n) hDn uu287 uu5 uu9
   have hcv1:=hcv x0.w
   clear hcv
   have HF2:=lH (show D=spread (byteList s)by have:=HF.out;rw[Nat.sub_self]at this;exact this)
   go_wp2_with (first|((with_reducible refine rl ?_);refine rq ?_;intro x))
   go_ret
   exact Gives.mk (by rw[HF2.out];rfl)
theorem c_iScramble{s:ByteArray}{w:World}(hm:s.size≤400):Calls Tryz.prog 256 #[.string s] w (Gives w (.string (strOfNums (scr 255 (byteList s))))):=by
 have hlen:=byteList_len s
 obtain⟨n,hn⟩:∃ n,s.size=n:=⟨_,rfl⟩
 have hln:(byteList s).length=n:=by omega
 have hto:=fun w:World=>run_bytes_of_string (P:=Tryz.prog) w 9 287 5 s uu9 uu287 uu5
 go_enter Tryz.func256,Tryz.ntmps256
 go_upto_region 4 with(fail)
 generalize grownCap w n 0 5=gc
 clear hto
 (try rw[hn])
 go_loopw [4,10] (fun u v wr=>∃ (k:Nat) (x:Int) (D:List Int),v=.int .i64 k∧u=.int .i64 x∧0≤x∧x≤255∧k≤n∧D.length=n∧Hid (D.take k++scr x (D.drop k)=scr 255 (byteList s))∧Hid (Row8 wr w.heap.size D)∧∃ y:Later w,wr=y.w) (fun _ v _=>(n - intOf v).toNat)
 case atStart=>exact⟨0,255,byteList s,rfl,rfl,by omega,by omega,by omega,hln,rfl,lH Row8.conv,Later.of⟩
 case round =>
  obtain⟨k,x,D,rfl,rfl,hx0,hx1,hk,hDn,HF,HD,y,rfl⟩:=hrel
  by_cases hkn:k<n
  ·obtain⟨d,hd9⟩:∃ d,D.getD k 0=d:=⟨_,rfl⟩
   have Hd:=lH hd9
   have hcell:∀ (W:World) [Grows y.w W],W.cell? ⟨w.heap.size,k,none⟩=some (.int .u8 d):=fun W g=>by rw[← Hd.out];exact((HD.out.to g).at (by omega)).1
   clear hd9
   have HX:=lH (lfsr_i hx0 hx1)
   have⟨hl0,hl1⟩:=lfsr_bd hx0
   go_wp2_with (first|(refine step_row8 rfl _ (.tmp 20) (.tmp 19) rfl w.heap.size k rfl (L2:=D.set k (xorU (D.getD k 0) x)) (HD.out.to ii) (v:=xorU d x) kr kr (by omega) (by rw[Hd.out]) (w0:=w) ii nl ?_;intro z hz;have HZ:=lH hz;clear hz hcell))
   go_roundw
   case rel=>exact⟨k+1,lfsr x,D.set k (xorU (D.getD k 0) x),by go_num,by rw[← HX.out],hl0,hl1,by omega,by simp[hDn],lH (scr_step HF.out (by omega)),HZ,Later.of⟩
   case measure=>simp[intOf];omega
  ·obtain rfl:n=k:=by omega
   have hcv:=HD.out.str (P:=Tryz.prog) (c:=gc) hDn uu287 uu5 uu9
   have hcv1:=hcv y.w
   clear hcv
   have HF2:=lH (show D=scr 255 (byteList s)by have:=HF.out;rw[List.take_of_length_le (by omega),List.drop_of_length_le (by omega)]at this;simpa[scr]using this)
   go_wp2_with (fail)
   go_ret
   exact Gives.mk (by rw[HF2.out];rfl)
theorem c_iMakeBlock{s:ByteArray}{w:World}(hm:s.size≤100000000):Calls Tryz.prog 174 #[.string s] w (Gives w (.string (makeBlock s))):=by
 by_cases h0:s.size=0
 ·obtain rfl:s=⟨#[]⟩:=size_zero h0
  go_enter Tryz.func174,Tryz.ntmps174
  go_wp2_with (fail)
  go_ret
  exact Gives.mk rfl
 have he:=nonempty_ne h0
 cases c1:decide (200<(s.size:Int))
 ·have hs2:s.size≤200:=by have:=of_decide_eq_false c1;omega
  have HV:=lH (show makeBlock s=blockOf s by rw[makeBlock,if_neg (by omega)])
  have hz2:(strOfNums (encB (byteList s))).size=2*s.size:=by rw[strOfNums_size,encB_len,byteList_len]
  have hs3:(strOfNums (encB (byteList s))).size≤400:=by omega
  have HB:=lH (blockOf_eq s)
  have hz4:(strOfNums (spread (byteList (strOfNums (encB (byteList s)))))).size=(strOfNums (encB (byteList s))).size:=by rw[strOfNums_size,spread_len,byteList_len]
  have hs4:(strOfNums (spread (byteList (strOfNums (encB (byteList s)))))).size≤400:=by omega
  have hz5:(strOfNums (scr 255 (byteList (strOfNums (spread (byteList (strOfNums (encB (byteList s))))))))).size≤400:=by rw[strOfNums_size,scr_len,byteList_len];omega
  go_enter Tryz.func174,Tryz.ntmps174
  go_wp2_with (first|(go_at_call 258;refine gm (c_iEncodeBlock hs2) ?_;intro y9)|(go_at_call 257;refine gm (c_iSpreadBits hs3) ?_;intro y9)|(go_at_call 256;refine gm (c_iScramble hs4) ?_;intro y9))
  go_ret
  exact Gives.mk (by rw[HV.out,HB.out];rfl)
 ·have HV:=lH (show makeBlock s=⟨#[]⟩by rw[makeBlock,if_pos (.inr (by have:=of_decide_eq_true c1;omega))])
  go_enter Tryz.func174,Tryz.ntmps174
  go_wp2_with (fail)
  go_ret
  exact Gives.mk (by rw[HV.out];rfl)
theorem c_iNextRandom{z0:Int}{w:World}(h0:0≤z0)(h1:z0≤65535):Calls Tryz.prog 276 #[.int .i64 z0] w (Gives w (.int .i64 (nextR z0))):=by
 go_enter Tryz.func276,Tryz.ntmps276
 go_wp2_with (fail)
 go_ret
 exact Gives.mk rfl
theorem c_iRandomBelow{z0 n:Int}{w:World}(h0:0≤z0)(h1:z0≤65535)(h2:1≤n)(h3:n≤4096):Calls Tryz.prog 254 #[.int .i64 z0,.int .i64 n] w (Gives w (.tuple #[.int .i64 (nextR z0),.int .i64 (rndB z0 n)])):=by
 have⟨hr0,hr1⟩:=nextR_bd z0
 go_enter Tryz.func254,Tryz.ntmps254
 go_wp2_with (first|((with_reducible refine rl ?_);refine rq ?_;intro x)|(go_at_call 276;refine gm (c_iNextRandom h0 h1) ?_;intro y9))
 refine bodyPost_ret (v:=.tuple #[.int .i64 (nextR z0),.int .i64 (nextR z0 / 16 % n)]) ?_ rfl ⟨rfl,Later.of⟩
 simp[results,Tryz.results254,go_sem]
theorem c_iBurstText{z0:Int}{s:ByteArray}{w:World}(h0:0≤z0)(h1:z0≤65535)(h2:1≤s.size)(h3:s.size≤400):Calls Tryz.prog 255 #[.int .i64 z0,.string s] w (Gives w (.tuple #[.int .i64 (burst z0 s).1,.string (burst z0 s).2])):=by
 have hlen:=byteList_len s
 obtain⟨n,hn⟩:∃ n,s.size=n:=⟨_,rfl⟩
 have hln:(byteList s).length=n:=by omega
 have⟨r0,r1⟩:=nextR_bd z0
 have⟨r2,r3⟩:=nextR_bd (nextR z0)
 rw[hn]at h2 h3
 have HN:=lH hn
 obtain⟨f,m,hf1,hm1,HF0,HM0,HBU⟩:=burst_is h0 h1 hn h2 h3
 rw[HBU.out]
 have hto:=fun w:World=>run_bytes_of_string (P:=Tryz.prog) w 9 287 5 s uu9 uu287 uu5
 have c1:decide (z0<0)=false:=by simp;omega
 have c2:decide (65535<z0)=false:=by simp;omega
 have c3:((n:Int) == 0)=false:=by simp;omega
 have c4:decide (400<(n:Int))=false:=by simp;omega
 go_enter Tryz.func255,Tryz.ntmps255
 go_upto_region 5 with(first|((with_reducible refine rl ?_);(repeat(first|go_big_quiet_step (first|fail)|simp only[c1]|simp only[c2]|simp only[c3]|simp only[c4]));refine wpQuiet_nil ?_;intro x)|(go_at_call 254;refine gm (c_iRandomBelow h0 h1 (by omega) (by omega)) ?_;intro y1))
 rw[HF0.out]
 go_upto_region 6 with(first|((with_reducible refine rl ?_);refine rq ?_;intro x)|(go_at_call 254;refine gm (c_iRandomBelow r0 r1 (by omega) (by omega)) ?_;intro y2))
 rw[HM0.out]
 refine codeLater (w:=w) ?_
 intro y0
 go_upto_region 7 with(first|((with_reducible refine rl ?_);refine rq ?_;intro x))
 obtain⟨g,hg⟩:∃ g,y0.w.heap.size=g:=⟨_,rfl⟩
 have hwg:w.heap.size≤g:=hg▸y0.size_le
 have HRW:=lH (show Row8 _ g (byteList s)from hg▸Row8.conv (w:=y0.w) (s:=s) (c:=grownCap y0.w n 0 5) (T:=5))
 generalize grownCap y0.w n 0 5=gc at HRW ⊢
 rw[hg]
 clear hto
 obtain⟨FI,hFI⟩:∃ FI,(flips f (m+1)).foldl (up1 xorU) (byteList s)=FI:=⟨_,rfl⟩
 rw[hFI]
 have HFI:=lH hFI
 clear hFI
 go_wp2_with (first|((with_reducible refine rl ?_);refine rq ?_;intro x))
 go_loopw [12] (fun v wr=>∃ (p:Nat) (D:List Int),v=.int .i64 p∧f≤p∧p≤f+m+1∧D.length=n∧Hid ((flips p (f+m+1 - p)).foldl (up1 xorU) D=FI)∧Hid (Row8 wr g D)∧∃ y:Later w,wr=y.w) (fun v _=>((f+m+1:Nat) - intOf v).toNat)
 case atStart=>exact⟨f,byteList s,rfl,Nat.le_refl _,by omega,hln,lH (by have:=HFI.out;rw[show f+m+1 - f=m+1 by omega];exact this),HRW,Later.of⟩
 case round =>
  obtain⟨p,D,rfl,hp0,hp1,hDn,HF,HD,y,rfl⟩:=hrel
  by_cases hpl:p≤f+m
  ·obtain⟨j,hj9⟩:∃ x:Nat,p / 8=x:=⟨_,rfl⟩
   have HJ:=lH hj9
   obtain⟨r,hr9⟩:∃ x:Nat,p % 8=x:=⟨_,rfl⟩
   have HR:=lH hr9
   have hjn:j<n:=by omega
   have hr8:r<8:=by omega
   have hpb:p≤4000:=by omega
   clear hj9 hr9
   obtain⟨d,hd9⟩:∃ x:Int,D.getD j 0=x:=⟨_,rfl⟩
   have Hd:=lH hd9
   have hcell:∀ (W:World) [Grows y.w W],W.cell? ⟨g,0+j*1,none⟩=some (.int .u8 d):=fun W g=>by rw[Nat.zero_add,Nat.mul_one,← Hd.out];exact((HD.out.to g).at (by omega)).1
   clear hd9
   obtain⟨v,hv9⟩:∃ x:Int,IntKind.u8.wrap (1*2 ^ r)=x:=⟨_,rfl⟩
   have HV:=lH hv9
   clear hv9
   obtain⟨ov,hov9⟩:∃ x:Int,xorU d v=x:=⟨_,rfl⟩
   have HO:=lH hov9
   clear hov9
   go_upto_region 10 with(first|((with_reducible refine rl ?_);refine rq ?_;intro x))
   refine wp_region_stabZ kr (T:=[10]) (Zs:=[]) (H:=[(2,[]),(3,[]),(4,[]),(6,[]),(7,[]),(8,[]),(9,[])]) (C:=[]) (Fs:=[(some 55,.v (.slice (some ⟨g,0,none⟩) n gc)),(some 56,.v (.int .i64 ((p:Int)))),(some 57,.v (.int .i64 ((j:Int)))),(some 58,.v (.pointer (some ⟨g,0+j*1,none⟩))),(some 59,.v (.int .u8 (d))),(some 60,.v (.int .i64 ((p:Int)))),(some 61,.v (.int .i64 ((r:Int)))),(some 62,.v (.int .u8 (v))),(some 63,.v (.int .u8 (ov))),(some 64,.v (.pointer (some ⟨g,0+j*1,none⟩))),(none,.v (undef))]) kr (fun val W=>by kernel_rfl) ?ob10 ?lz10 ?pn10 ?tl10
   case ob10 =>
    refine⟨fun x=>?_,fun x=>?_,fun x=>?_,fun x=>?_,fun x=>?_,fun x=>?_,fun x=>?_,trivial⟩
    ·exact g_bin (o:=.quo) (p:=.i64) (s:=(p:Int)) (q:=.i64) (t:=8) rfl kr (fun ty ty2 w=>by exact HJ.out▸run_quo8 rfl hpb ty ty2 w)
    ·exact g_ix (size:=1) (o:=0) (j:=j) (n:=n) (c:=gc) rfl kr uu287 kr hjn
    ·exact g_cell (hcell x.w) rfl kr _ uu5 rfl
    ·exact g_bin (o:=.rem) (p:=.i64) (s:=(p:Int)) (q:=.i64) (t:=8) rfl kr (fun ty ty2 w=>by exact HR.out▸run_rem8 rfl hpb ty ty2 w)
    ·exact g_bin (o:=.shl) (p:=.u8) (s:=1) (q:=.i64) (t:=(r:Int)) rfl kr (fun ty ty2 w=>by exact HV.out▸run_shlK hr8 ty ty2 w)
    ·exact g_bin (o:=.xor) (p:=.u8) (s:=d) (q:=.u8) (t:=v) rfl kr (fun ty ty2 w=>by exact HO.out▸run_xor ty ty2 w)
    ·exact g_ix (size:=1) (o:=0) (j:=j) (n:=n) (c:=gc) rfl kr uu287 kr hjn
   case lz10 =>
    exact trivial
   case pn10=>exact fun _ _ _ _ _ _ h=>h
   case tl10 =>
    intro x
    refine tail1 rfl ?_
    simp only[put_nrm]
    simp only[Act.put,List.setIfInBounds_toArray,List.set_cons_succ,List.set_cons_zero]
    refine step_row8 rfl _ (.tmp 64) (.tmp 63) rfl g (0+j*1) rfl (L2:=up1 xorU D (p / 8,IntKind.u8.wrap (1*2 ^ (p % 8)))) (HD.out.to (ii:Grows y.w x.w)) rfl kr (by omega) (by rw[up1,Nat.zero_add,Nat.mul_one,HJ.out,HR.out,Hd.out,HV.out,HO.out]) (w0:=w) ii hwg ?_
    intro z hz
    have HZ:=lH hz;clear hz hcell
    (try simp only[Act.put,List.setIfInBounds_toArray])
    go_wp2_with (first|((with_reducible refine rl ?_);refine rq ?_;intro x))
    go_roundw
    case rel=>exact⟨p+1,up1 xorU D (p / 8,IntKind.u8.wrap (1*2 ^ (p % 8))),by go_num,by omega,by omega,by rw[up1_len];exact hDn,lH (by have:=HF.out;rw[show f+m+1 - p=f+m+1 - (p+1)+1 by omega,flips,List.foldl_cons]at this;exact this),HZ,Later.of⟩
    case measure=>simp[intOf];omega
  ·obtain rfl:p=f+m+1:=by omega
   have hcv:=HD.out.str (P:=Tryz.prog) (c:=gc) hDn uu287 uu5 uu9
   have HF2:=lH (show D=FI by have:=HF.out;rw[Nat.sub_self]at this;exact this)
   go_wp2_with (first|((with_reducible refine rl ?_);(repeat(first|go_big_quiet_step (first|fail)|simp only[hcv]));refine wpQuiet_nil ?_;intro x))
   refine bodyPost_ret (v:=.tuple #[.int .i64 (nextR (nextR z0)),.string (strOfNums D)]) ?_ rfl ⟨by rw[HF2.out,← HFI.out],Later.of⟩
   simp[results,Tryz.results255,go_sem]
theorem c_sCountOnes{z0:Int}{w:World}(h0:0≤z0)(h1:z0≤255):Calls Tryz.prog 275 #[.int .i64 z0] w (Gives w (.int .i64 (ones z0))):=by
 have c0:inB z0 0 4294967295=true:=inB_iff.2 (by omega)
 go_enter Tryz.func275,Tryz.ntmps275
 go_wp2_with (first|(go_at_call 82;refine gm (c_sl01In) ?_;intro x))
 go_loopw [0,3] (fun u v wr=>∃ (m n:Int),u=.int .i64 m∧v=.int .i64 n∧0≤m∧m≤255∧0≤n∧n+ones m=ones z0∧∃ y:Later w,wr=y.w) (fun u _ _=>(intOf u).toNat)
 case atStart=>exact⟨z0,0,rfl,rfl,h0,h1,by omega,by omega,Later.of⟩
 case round =>
  obtain⟨m,n,rfl,rfl,hm0,hm1,hn,he,y,rfl⟩:=hrel
  have hh:=ones_half hm0 hm1
  have HA:=lH (i64_and1 hm0 hm1)
  have hb:ones m≤8∧0≤ones m:=by unfold ones;omega
  have hx:ones z0≤8:=by unfold ones;omega
  have hn8:n≤8:=by omega
  have HE:=lH he
  have HH:=lH hh
  clear he hh
  by_cases h:0<m
  ·go_wp2_with (fail)
   go_roundw
   case rel=>exact⟨m / 2,n+m % 2,by go_num,by rw[HA.out,w64 (n:=n+m % 2) (by omega) (by omega)],by omega,by omega,by omega,by have:=HE.out;have:=HH.out;omega,Later.of⟩
   case measure=>simp[intOf];omega
  ·obtain rfl:m=0:=by omega
   have h8:ones 0=0:=rfl
   go_wp2_with (fail)
   go_ret
   exact Gives.mk (congrArg (Value.int .i64) (show n=ones z0 by have:=HE.out;omega))
theorem c_sEncodeNibble{n:Int}{w:World}(h0:0≤n)(h1:n≤15):Calls Tryz.prog 252 #[.int .i64 n] w (Gives w (.int .i64 (nib n))):=by
 have h:n=0∨n=1∨n=2∨n=3∨n=4∨n=5∨n=6∨n=7∨n=8∨n=9∨n=10∨n=11∨n=12∨n=13∨n=14∨n=15:=by omega
 clear h0 h1
 rcases h with rfl|rfl|rfl|rfl|rfl|rfl|rfl|rfl|rfl|rfl|rfl|rfl|rfl|rfl|rfl|rfl
 all_goals
  go_enter Tryz.func252,Tryz.ntmps252
  go_wp2_with (first|(go_at_call 82;refine gm (c_sl01In) ?_;intro x)|(go_at_call 275;refine gm (c_sCountOnes (of_decide_eq_true kr) (of_decide_eq_true kr)) ?_;intro x))
  go_ret
  exact Gives.mk kr
theorem c_sEncodeBlock{s:ByteArray}{w:World}(hm:s.size≤200):Calls Tryz.prog 169 #[.string s] w (Gives w (.string (strOfNums (encB (byteList s))))):=by
 have hlen:=byteList_len s
 go_enter Tryz.func169,Tryz.ntmps169
 go_wp2_with (first|((with_reducible refine rl ?_);refine rq ?_;intro x))
 go_loopw [3,4] (fun u v wr=>∃ (k q:Nat) (L:List Int) (sa:Option Addr) (sc:Nat),u=.slice sa q sc∧v=.int .i64 k∧k≤s.size∧Hid (q=2*k)∧L.length=q∧Hid (L=encB ((byteList s).take k))∧Hid (q=0→sa=some ⟨w.heap.size,0,none⟩)∧Hid (Own encByte 5 1 w.heap.size wr sa sc L)∧∃ x:Later w,wr=x.w) (fun _ v _=>(s.size - intOf v).toNat)
 case atStart=>exact⟨0,0,[],_,_,rfl,rfl,by omega,rfl,rfl,rfl,fun _=>rfl,Own.empty0 encByte_len nl,Later.of⟩
 case round =>
  obtain⟨k,q,L,sa,sc,rfl,rfl,hk,hq,hL,HL,h00,hO,y0,rfl⟩:=hrel
  by_cases h:k<s.size
  ·obtain⟨hb1,hd⟩:=byteList_at h
   obtain⟨b,hb⟩:∃ b:Int,((s[k]'h).toNat:Int)=b:=⟨_,rfl⟩
   have hb0:0≤b:=by omega
   rw[hb]at hb1 hd
   have hn1:=nib_bd (n:=b / 16) (by omega) (by omega)
   have hn2:=nib_bd (n:=b % 16) (by omega) (by omega)
   have Hb:=lH hb
   have hqb:q≤400:=by have:=hq.out;omega
   go_upto_region 7 with(first|((with_reducible refine rl ?_);refine rq ?_;intro x))
   refine wp_region_stabZ kr (T:=[16,17]) (Zs:=[]) (H:=[(3,[]),(4,[]),(5,[]),(6,[]),(7,[]),(10,[]),(11,[]),(12,[]),(13,[]),(14,[]),(15,[])]) (C:=[15]) (Fs:=[(some 15,.v (.slice sa q sc)),(some 16,.v (.string s)),(some 17,.v (.int .i64 (k))),(some 18,.v (.int .u8 (b))),(some 19,.v (.int .u8 (b / 16))),(some 20,.v (.int .i64 (b / 16))),(some 21,.v (.int .i64 (nib (b / 16)))),(some 22,.v (.int .u8 (nib (b / 16)))),(some 23,.v (.string s)),(some 24,.v (.int .i64 (k))),(some 25,.v (.int .u8 (b))),(some 26,.v (.int .u8 (b % 16))),(some 27,.v (.int .i64 (b % 16))),(some 28,.v (.int .i64 (nib (b % 16)))),(some 29,.v (.int .u8 (nib (b % 16)))),(some 30,.sl y0.w.heap.size 2 [.int .u8 (nib (b / 16)),.int .u8 (nib (b % 16))] 5),(none,.v (undef)),(none,.v (undef))]) kr (fun val W=>by kernel_rfl) ?ob7 ?lz7 ?pn7 ?tl7
   case ob7 =>
    refine⟨fun x=>?_,fun x=>?_,fun x=>?_,fun x=>?_,fun x=>?_,fun x=>?_,fun x=>?_,fun x=>?_,fun x=>?_,fun x=>?_,fun x=>?_,trivial⟩
    ·exact g_six rfl kr uu9 h hb
    ·exact g_bin (o:=.shr) (p:=.u8) (s:=b) (q:=.u64) (t:=4) rfl kr (fun ty ty2 w=>by simp[go_sem])
    ·exact g_cvt (t:=5) (d:=3) (p:=.u8) (q:=.i64) (s:=(b / 16)) rfl kr kr Tryz.underlying3 (i64_wr (by omega) (by omega))
    ·refine g_call (f:=252) (args:=[.int .i64 (b / 16)]) Tryz.func252 kr kr ((c_sEncodeNibble (by omega) (by omega)).mono ?_)
     rintro _ _ ⟨rfl,y9,rfl⟩
     exact⟨_,rfl,⟨y9,rfl⟩,rfl⟩
    ·exact g_cvt (t:=3) (d:=5) (p:=.i64) (q:=.u8) (s:=(nib (b / 16))) rfl kr kr uu5 (u8_wr hn1.1 hn1.2)
    ·exact g_six rfl kr uu9 h hb
    ·exact g_bin (o:=.and) (p:=.u8) (s:=b) (q:=.u8) (t:=15) rfl kr (fun ty ty2 w=>by simp[go_sem,u8_and15 hb0 hb1])
    ·exact g_cvt (t:=5) (d:=3) (p:=.u8) (q:=.i64) (s:=(b % 16)) rfl kr kr Tryz.underlying3 (i64_wr (by omega) (by omega))
    ·refine g_call (f:=252) (args:=[.int .i64 (b % 16)]) Tryz.func252 kr kr ((c_sEncodeNibble (by omega) (by omega)).mono ?_)
     rintro _ _ ⟨rfl,y9,rfl⟩
     exact⟨_,rfl,⟨y9,rfl⟩,rfl⟩
    ·exact g_cvt (t:=3) (d:=5) (p:=.i64) (q:=.u8) (s:=(nib (b % 16))) rfl kr kr uu5 (u8_wr hn2.1 hn2.2)
    ·exact g_sl rfl kr LeN.out
   case lz7 =>
    exact trivial
   case pn7=>exact fun _ _ _ _ _ _ h=>h
   case tl7 =>
    intro x
    refine chain1 fun v8 q8=>?_
    obtain⟨bs,rfl,hbs,hH⟩:=(show ∃ g,v8=.slice (some ⟨g,0,none⟩) 2 2∧y0.w.heap.size≤g∧Held x.w g [.int .u8 (nib (b / 16)),.int .u8 (nib (b % 16))] 5 from q8)
    clear q8
    refine tail2 rfl rfl ?_
    simp only[put_nrm]
    simp only[Act.put,List.setIfInBounds_toArray,List.set_cons_succ,List.set_cons_zero]
    refine wpList_appS (t:=287) (enc:=encByte) (w0:=w) (z:=.int .u8 0) (size:=1) (bytes:=1) (n:=q) (m:=2) (l:=L) (r:=[nib (b / 16),nib (b % 16)]) rfl (.tmp 15) (.tmp 30) rfl uu287 kr rfl (by decide) (by decide) rfl rfl (by simp) hL rfl (hO.out.to ii) (Held.sl8 hH) (by intro y u hu;simp[encByte]at hu;subst hu;rfl) (by omega) ?_
    intro sa1 sc1 y1 hO1 hg1
    have HO1:=lH hO1;clear hO1 hg1 hH
    (try simp only[Act.put,List.setIfInBounds_toArray])
    have hlt:=HO1.out.lt (n:=q+2)
    go_wp2_with (first|((with_reducible refine rl ?_);refine rq ?_;intro x))
    go_roundw
    case rel=>exact⟨k+1,q+2,L++[nib (b / 16),nib (b % 16)],sa1,sc1,rfl,by go_num,by omega,(by have:=hq.out;show _=_;omega),by simp[hL],lH (by rw[HL.out];exact encB_app hd),lH fun e=>by omega,HO1,Later.of⟩
    case measure=>simp[intOf];omega
  ·obtain rfl:k=s.size:=by omega
   have hcv:∀ (W':World) [Grows y0.w W'],(convert 287 9 (.slice sa q sc)).run Tryz.prog W'=.ok (.string (strOfNums L)) W':=by
    by_cases hq0:q=0
    ·intro W' _
     rw[h00.out hq0]
     exact run_convert_bytes_arg W' 287 5 uu287 uu5 w.heap.size 0 q sc L hL (fun i hi=>by omega) 9 uu9
    ·exact conv_str (P:=Tryz.prog) (c:=sc) uu287 uu5 uu9 hO.out.sl hL (by omega)
   have hcv1:=hcv y0.w
   clear hcv
   go_wp2_with (first|((with_reducible refine rl ?_);refine rq ?_;intro x))
   go_ret
   exact Gives.mk (by rw[HL.out,List.take_of_length_le (by rw[hlen];exact Nat.le_refl _)];rfl)
theorem c_sSpreadBits{s:ByteArray}{w:World}(hm:s.size≤400):Calls Tryz.prog 168 #[.string s] w (Gives w (.string (strOfNums (spread (byteList s))))):=by
 have hlen:=byteList_len s
 obtain⟨n,hn⟩:∃ n,s.size=n:=⟨_,rfl⟩
 have hln:(byteList s).length=n:=by omega
 have hmk:=run_mk0 (P:=Tryz.prog) (t:=287) (e:=5) uu287 kr (l:=n) (c:=n) (a:=n) (b:=n) nl (by omega) rfl rfl
 go_enter Tryz.func168,Tryz.ntmps168
 go_wp2_with (first|((with_reducible refine rl ?_);(repeat(first|go_big_quiet_step (first|fail)|simp only[hn]));refine wpQuiet_nil ?_;intro x))
 go_loopw [5] (fun v wr=>∃ (k:Nat) (D:List Int),v=.int .i64 k∧k≤8∧D.length=n∧Hid ((pcols (byteList s) k (8 - k)).foldl (up1 orU) D=spread (byteList s))∧Hid (Row8 wr w.heap.size D)∧∃ x:Later w,wr=x.w) (fun v _=>(8 - intOf v).toNat)
 case atStart=>exact⟨0,List.replicate n 0,rfl,by omega,by simp,lH (by have:=spread_cols (byteList s);rw[hln]at this;exact this),lH (Row8.made rfl),Later.of⟩
 case round =>
  obtain⟨k,D,rfl,hk,hDn,HF,HD,x0,rfl⟩:=hrel
  by_cases hk8:k<8
  ·have HK:=lH (show decide ((k:Int)<8)=true by simp;omega)
   go_wp2_with (first|((with_reducible refine rl ?_);refine rq ?_;intro x))
   (try rw[HK.out])
   go_loopw [6] (fun v wr=>∃ (m:Nat) (D:List Int),v=.int .i64 m∧m≤n∧D.length=n∧Hid ((pcols (byteList s) (k+1) (8 - (k+1))).foldl (up1 orU) ((pcol (byteList s) k m (n - m)).foldl (up1 orU) D)=spread (byteList s))∧Hid (Row8 wr w.heap.size D)∧∃ y:Later w,wr=y.w) (fun v _=>(n - intOf v).toNat)
   case atStart=>exact⟨0,D,rfl,by omega,hDn,lH (by have:=HF.out;rw[pcols_step _ hk8,hln,List.foldl_append]at this;exact this),HD.out.to ii,Later.of⟩
   case round =>
    obtain⟨m,D,rfl,hm,hDn,HF,HD,y,rfl⟩:=hrel
    by_cases hmn:m<n
    ·have hln:(byteList s).length=n:=by rw[hlen];exact hn
     obtain⟨q,hq9⟩:∃ x:Nat,k*n=x:=⟨_,rfl⟩
     have HQ:=lH hq9
     have hq7:q≤7*n:=hq9▸Nat.mul_le_mul_right n (by omega)
     have HOV:=lH (show(k:Int)*n=(q:Int)by rw[← hq9];exact(Int.natCast_mul k n).symm)
     clear hq9
     obtain⟨p,hp9⟩:∃ x:Nat,q+m=x:=⟨_,rfl⟩
     have HP:=lH hp9
     obtain⟨j,hj9⟩:∃ x:Nat,p / 8=x:=⟨_,rfl⟩
     have HJ:=lH hj9
     obtain⟨r,hr9⟩:∃ x:Nat,p % 8=x:=⟨_,rfl⟩
     have HR:=lH hr9
     have hjn:j<n:=by omega
     have hr8:r<8:=by omega
     have hpb:p≤4000:=by omega
     have HPE:=lH (show wrap64 (wrap64 (q:Int)+m)=(p:Int)by rw[w64 (n:=(q:Int)) (by omega) (by omega),w64 (n:=(q:Int)+m) (by omega) (by omega)];omega)
     clear hp9 hj9 hr9
     obtain⟨d,hd9⟩:∃ x:Int,D.getD j 0=x:=⟨_,rfl⟩
     have Hd:=lH hd9
     have hcell:∀ (W:World) [Grows y.w W],W.cell? ⟨w.heap.size,0+j*1,none⟩=some (.int .u8 d):=fun W g=>by rw[Nat.zero_add,Nat.mul_one,← Hd.out];exact((HD.out.to g).at (by omega)).1
     clear hd9
     have hms:m<s.size:=by omega
     obtain⟨hb1,hdr⟩:=byteList_at hms
     obtain⟨b,hb⟩:∃ b:Int,((s[m]'hms).toNat:Int)=b:=⟨_,rfl⟩
     have hb0:0≤b:=by omega
     rw[hb]at hb1 hdr
     have Hb:=lH (show(byteList s).getD m 0=b by have:=congrArg (fun l=>l[0]?) hdr;simp only[List.getElem?_drop,Nat.add_zero,List.getElem?_cons_zero]at this;rw[List.getD,this];rfl)
     clear hdr
     have⟨hs0,hs1⟩:=shr_bd hb0 hb1 k
     obtain⟨bs,hbs9⟩:∃ x:Int,b / 2 ^ k=x:=⟨_,rfl⟩
     have HS:=lH hbs9
     rw[hbs9]at hs0 hs1
     clear hbs9
     obtain⟨b1,hb19⟩:∃ x:Int,bs % 2=x:=⟨_,rfl⟩
     have HS1:=lH hb19
     clear hb19
     obtain⟨v,hv9⟩:∃ x:Int,IntKind.u8.wrap (b1*2 ^ r)=x:=⟨_,rfl⟩
     have HV:=lH hv9
     clear hv9
     obtain⟨ov,hov9⟩:∃ x:Int,orU d v=x:=⟨_,rfl⟩
     have HO:=lH hov9
     clear hov9
     go_upto_region 10 with(first|((with_reducible refine rl ?_);refine rq ?_;intro x)|(rw[HOV.out]))
     rw[HPE.out]
     refine wp_region_stabZ kr (T:=[19]) (Zs:=[]) (H:=[(2,[]),(5,[]),(6,[]),(7,[]),(10,[]),(12,[]),(13,[]),(15,[]),(16,[]),(17,[]),(18,[])]) (C:=[]) (Fs:=[(some 26,.v (.slice (some ⟨w.heap.size,0,none⟩) n n)),(some 27,.v (.int .i64 ((p:Int)))),(some 28,.v (.int .i64 ((j:Int)))),(some 29,.v (.slice (some ⟨w.heap.size,0,none⟩) n n)),(some 30,.v (.int .i64 ((p:Int)))),(some 31,.v (.int .i64 ((j:Int)))),(some 32,.v (.pointer (some ⟨w.heap.size,0+j*1,none⟩))),(some 33,.v (.int .u8 (d))),(some 34,.v (.string s)),(some 35,.v (.int .i64 (m))),(some 36,.v (.int .u8 (b))),(some 37,.v (.int .i64 (k))),(some 38,.v (.int .u8 (bs))),(some 39,.v (.int .u8 (b1))),(some 40,.v (.int .i64 ((p:Int)))),(some 41,.v (.int .i64 ((r:Int)))),(some 42,.v (.int .u8 (v))),(some 43,.v (.int .u8 (ov))),(some 44,.v (.pointer (some ⟨w.heap.size,0+j*1,none⟩))),(none,.v (undef))]) kr (fun val W=>by kernel_rfl) ?ob10 ?lz10 ?pn10 ?tl10
     case ob10 =>
      refine⟨fun x=>?_,fun x=>?_,fun x=>?_,fun x=>?_,fun x=>?_,fun x=>?_,fun x=>?_,fun x=>?_,fun x=>?_,fun x=>?_,fun x=>?_,trivial⟩
      ·exact g_bin (o:=.quo) (p:=.i64) (s:=(p:Int)) (q:=.i64) (t:=8) rfl kr (fun ty ty2 w=>by exact HJ.out▸run_quo8 rfl hpb ty ty2 w)
      ·exact g_bin (o:=.quo) (p:=.i64) (s:=(p:Int)) (q:=.i64) (t:=8) rfl kr (fun ty ty2 w=>by exact HJ.out▸run_quo8 rfl hpb ty ty2 w)
      ·exact g_ix (size:=1) (o:=0) (j:=j) (n:=n) (c:=n) rfl kr uu287 kr hjn
      ·exact g_cell (hcell x.w) rfl kr _ uu5 rfl
      ·exact g_six rfl kr uu9 hms hb
      ·exact g_bin (o:=.shr) (p:=.u8) (s:=b) (q:=.i64) (t:=k) rfl kr (fun ty ty2 w=>by exact HS.out▸run_shrK hk8 ty ty2 w)
      ·exact g_bin (o:=.and) (p:=.u8) (s:=bs) (q:=.u8) (t:=1) rfl kr (fun ty ty2 w=>by exact HS1.out▸run_and1 hs0 hs1 ty ty2 w)
      ·exact g_bin (o:=.rem) (p:=.i64) (s:=(p:Int)) (q:=.i64) (t:=8) rfl kr (fun ty ty2 w=>by exact HR.out▸run_rem8 rfl hpb ty ty2 w)
      ·exact g_bin (o:=.shl) (p:=.u8) (s:=b1) (q:=.i64) (t:=(r:Int)) rfl kr (fun ty ty2 w=>by exact HV.out▸run_shlK hr8 ty ty2 w)
      ·exact g_bin (o:=.or) (p:=.u8) (s:=d) (q:=.u8) (t:=v) rfl kr (fun ty ty2 w=>by exact HO.out▸run_or ty ty2 w)
      ·exact g_ix (size:=1) (o:=0) (j:=j) (n:=n) (c:=n) rfl kr uu287 kr hjn
     case lz10 =>
      exact trivial
     case pn10=>exact fun _ _ _ _ _ _ h=>h
     case tl10 =>
      intro x
      refine tail1 rfl ?_
      simp only[put_nrm]
      simp only[Act.put,List.setIfInBounds_toArray,List.set_cons_succ,List.set_cons_zero]
      refine step_row8 rfl _ (.tmp 44) (.tmp 43) rfl w.heap.size (0+j*1) rfl (L2:=up1 orU D (spr1 (byteList s) m k)) (HD.out.to (ii:Grows y.w x.w)) rfl kr (by omega) (by rw[up1,spr1,Nat.zero_add,Nat.mul_one,hln,HQ.out,HP.out,HJ.out,HR.out,Hd.out,Hb.out,HS.out,HS1.out,HV.out,HO.out]) (w0:=w) ii nl ?_
      intro z hz
      have HZ:=lH hz;clear hz hcell
      (try simp only[Act.put,List.setIfInBounds_toArray])
      go_wp2_with (first|((with_reducible refine rl ?_);refine rq ?_;intro x))
      go_roundw
      case rel=>exact⟨m+1,up1 orU D (spr1 (byteList s) m k),by go_num,by omega,by rw[up1_len];exact hDn,lH (by have:=HF.out;rw[pcol_step _ _ hmn,List.foldl_cons]at this;exact this),HZ,Later.of⟩
      case measure=>simp[intOf];omega
    ·obtain rfl:n=m:=by omega
     go_wp2_with (first|((with_reducible refine rl ?_);refine rq ?_;intro x))
     go_roundw
     case rel=>exact⟨k+1,D,by go_num,by omega,hDn,lH (by have:=HF.out;rw[Nat.sub_self]at this;exact this),HD,Later.of⟩
     case measure=>simp[intOf];omega
  ·obtain rfl:k=8:=by omega
   have hcv:=HD.out.str (P:=Tryz.prog) (c:=n) hDn uu287 uu5 uu9
   have hcv1:=hcv x0.w
   clear hcv
   have HF2:=lH (show D=spread (byteList s)by have:=HF.out;rw[Nat.sub_self]at this;exact this)
   go_wp2_with (first|((with_reducible refine rl ?_);refine rq ?_;intro x))
   go_ret
   exact Gives.mk (by rw[HF2.out];rfl)
theorem c_sScramble{s:ByteArray}{w:World}(hm:s.size≤400):Calls Tryz.prog 167 #[.string s] w (Gives w (.string (strOfNums (scr 255 (byteList s))))):=by
 have hlen:=byteList_len s
 obtain⟨n,hn⟩:∃ n,s.size=n:=⟨_,rfl⟩
 have hln:(byteList s).length=n:=by omega
 go_enter Tryz.func167,Tryz.ntmps167
 go_wp2_with (fail)
 go_loopw [3,4,5] (fun a u v wr=>∃ (k:Nat) (x:Int) (L:List Int) (sa:Option Addr) (sc:Nat),a=.slice sa k sc∧v=.int .i64 k∧u=.int .i64 x∧0≤x∧x≤255∧k≤n∧L.length=k∧Hid (L++scr x ((byteList s).drop k)=scr 255 (byteList s))∧Hid (k=0→sa=some ⟨w.heap.size,0,none⟩)∧Hid (Own encByte 5 1 w.heap.size wr sa sc L)∧∃ y:Later w,wr=y.w) (fun _ _ v _=>(n - intOf v).toNat)
 case atStart=>exact⟨0,255,[],_,_,rfl,rfl,rfl,by omega,by omega,by omega,rfl,rfl,fun _=>rfl,Own.empty0 encByte_len nl,Later.of⟩
 case round =>
  obtain⟨k,x,L,sa,sc,rfl,rfl,rfl,hx0,hx1,hk,hL,HF,h00,hO,y,rfl⟩:=hrel
  by_cases hkn:k<n
  ·have hks:k<s.size:=by omega
   obtain⟨hb1,hdr⟩:=byteList_at hks
   obtain⟨b,hb⟩:∃ b:Int,((s[k]'hks).toNat:Int)=b:=⟨_,rfl⟩
   have hb0:0≤b:=by omega
   rw[hb]at hb1 hdr
   have HB:=lH hdr
   clear hdr
   have HX:=lH (lfsr_s hx0 hx1)
   have⟨hl0,hl1⟩:=lfsr_bd hx0
   have hw8:IntKind.u8.wrap x=x:=u8_wr hx0 hx1
   go_upto_region 6 with(fail)
   (try simp only[hb])
   go_wp2_with (first|((at_builtin;refine wpList_app1X (enc:=encByte) (w0:=w) (B:=w.heap.size) (z:=.int .u8 0) (size:=1) (bytes:=1) (xorU b x) rfl (.tmp 13) (.tmp 20) rfl uu287 kr rfl (by decide) (by decide) rfl rfl hL (Own.to hO.out ii) bk rfl (encByte_one _) (by omega) LeN.out ii LeN.out ?_;intro sa1 sc1 x1 hown1 hgr1);have HO6:=lH hown1;clear hown1 hgr1))
   go_roundw
   case rel=>exact⟨k+1,lfsr x,L++[xorU b x],sa1,sc1,rfl,by go_num,by rw[← HX.out],hl0,hl1,by omega,by simp[hL],lH (scr_app HF.out HB.out),lH (fun e=>by omega),HO6,Later.of⟩
   case measure=>simp[intOf];omega
  ·obtain rfl:n=k:=by omega
   have hq:L.length=n:=hL
   have hcv:∀ (W':World) [Grows y.w W'],(convert 287 9 (.slice sa n sc)).run Tryz.prog W'=.ok (.string (strOfNums L)) W':=by
    by_cases hq0:n=0
    ·intro W' _
     rw[h00.out hq0]
     exact run_convert_bytes_arg W' 287 5 uu287 uu5 w.heap.size 0 n sc L hL (fun i hi=>by omega) 9 uu9
    ·exact conv_str (P:=Tryz.prog) (c:=sc) uu287 uu5 uu9 hO.out.sl hL (by omega)
   have hcv1:=hcv y.w
   clear hcv
   have HF2:=lH (show L=scr 255 (byteList s)by have:=HF.out;rw[List.drop_of_length_le (by omega)]at this;simpa[scr]using this)
   go_wp2_with (fail)
   go_ret
   exact Gives.mk (by rw[HF2.out];rfl)
theorem c_sMakeBlock{s:ByteArray}{w:World}(hm:s.size≤100000000):Calls Tryz.prog 60 #[.string s] w (Gives w (.string (makeBlock s))):=by
 by_cases h0:s.size=0
 ·obtain rfl:s=⟨#[]⟩:=size_zero h0
  go_enter Tryz.func60,Tryz.ntmps60
  go_wp2_with (fail)
  go_ret
  exact Gives.mk rfl
 have he:=nonempty_ne h0
 cases c1:decide (200<(s.size:Int))
 ·have hs2:s.size≤200:=by have:=of_decide_eq_false c1;omega
  have HV:=lH (show makeBlock s=blockOf s by rw[makeBlock,if_neg (by omega)])
  have hz2:(strOfNums (encB (byteList s))).size=2*s.size:=by rw[strOfNums_size,encB_len,byteList_len]
  have hs3:(strOfNums (encB (byteList s))).size≤400:=by omega
  have HB:=lH (blockOf_eq s)
  have hz4:(strOfNums (spread (byteList (strOfNums (encB (byteList s)))))).size=(strOfNums (encB (byteList s))).size:=by rw[strOfNums_size,spread_len,byteList_len]
  have hs4:(strOfNums (spread (byteList (strOfNums (encB (byteList s)))))).size≤400:=by omega
  have hz5:(strOfNums (scr 255 (byteList (strOfNums (spread (byteList (strOfNums (encB (byteList s))))))))).size≤400:=by rw[strOfNums_size,scr_len,byteList_len];omega
  go_enter Tryz.func60,Tryz.ntmps60
  go_wp2_with (first|(go_at_call 169;refine gm (c_sEncodeBlock hs2) ?_;intro y9)|(go_at_call 168;refine gm (c_sSpreadBits hs3) ?_;intro y9)|(go_at_call 167;refine gm (c_sScramble hs4) ?_;intro y9))
  go_ret
  exact Gives.mk (by rw[HV.out,HB.out];rfl)
 ·have HV:=lH (show makeBlock s=⟨#[]⟩by rw[makeBlock,if_pos (.inr (by have:=of_decide_eq_true c1;omega))])
  go_enter Tryz.func60,Tryz.ntmps60
  go_wp2_with (fail)
  go_ret
  exact Gives.mk (by rw[HV.out];rfl)
theorem c_sNextRandom{z0:Int}{w:World}(h0:0≤z0)(h1:z0≤65535):Calls Tryz.prog 274 #[.int .i64 z0] w (Gives w (.int .i64 (nextR z0))):=by
 have c0:inB z0 0 65535=true:=inB_iff.2 ⟨h0,h1⟩
 go_enter Tryz.func274,Tryz.ntmps274
 go_wp2_with (first|(go_at_call 82;refine gm (c_sl01In) ?_;intro x))
 go_ret
 exact Gives.mk rfl
theorem c_sRandomBelow{z0 n:Int}{w:World}(h0:0≤z0)(h1:z0≤65535)(h2:1≤n)(h3:n≤4096):Calls Tryz.prog 250 #[.int .i64 z0,.int .i64 n] w (Gives w (.tuple #[.int .i64 (nextR z0),.int .i64 (rndB z0 n)])):=by
 have c0:inB z0 0 65535=true:=inB_iff.2 ⟨h0,h1⟩
 have c1:inB n 1 4096=true:=inB_iff.2 ⟨h2,h3⟩
 have⟨hr0,hr1⟩:=nextR_bd z0
 go_enter Tryz.func250,Tryz.ntmps250
 go_wp2_with (first|((with_reducible refine rl ?_);(repeat(first|go_big_quiet_step (first|(go_at_call 82;exact Gives.quiet (c_sl01In)))|simp only[c0]|simp only[c1]));refine wpQuiet_nil ?_;intro x)|(go_at_call 82;refine gm (c_sl01In) ?_;intro x)|(go_at_call 274;refine gm (c_sNextRandom h0 h1) ?_;intro y9))
 refine bodyPost_ret (v:=.tuple #[.int .i64 (nextR z0),.int .i64 (nextR z0 / 16 % n)]) ?_ rfl ⟨rfl,Later.of⟩
 simp[results,Tryz.results250,go_sem]
theorem c_sBurstText{z0:Int}{s:ByteArray}{w:World}(h0:0≤z0)(h1:z0≤65535)(h2:1≤s.size)(h3:s.size≤400):Calls Tryz.prog 251 #[.int .i64 z0,.string s] w (Gives w (.tuple #[.int .i64 (burst z0 s).1,.string (burst z0 s).2])):=by
 have hlen:=byteList_len s
 obtain⟨n,hn⟩:∃ n,s.size=n:=⟨_,rfl⟩
 have hln:(byteList s).length=n:=by omega
 have⟨r0,r1⟩:=nextR_bd z0
 have⟨r2,r3⟩:=nextR_bd (nextR z0)
 rw[hn]at h2 h3
 have HN:=lH hn
 obtain⟨f,m,hf1,hm1,HF0,HM0,HBU⟩:=burst_is h0 h1 hn h2 h3
 rw[HBU.out]
 have hto:=fun w:World=>run_bytes_of_string (P:=Tryz.prog) w 9 287 5 s uu9 uu287 uu5
 have c1:inB z0 0 65535=true:=inB_iff.2 ⟨h0,h1⟩
 have c2:inB n 1 400=true:=inB_iff.2 (by omega)
 go_enter Tryz.func251,Tryz.ntmps251
 go_upto_region 5 with(first|((with_reducible refine rl ?_);(repeat(first|go_big_quiet_step (first|(go_at_call 82;exact Gives.quiet (c_sl01In)))|simp only[c1]|simp only[c2]));refine wpQuiet_nil ?_;intro x)|(go_at_call 82;refine gm (c_sl01In) ?_;intro x)|(go_at_call 250;refine gm (c_sRandomBelow h0 h1 (by omega) (by omega)) ?_;intro y1))
 rw[HF0.out]
 go_upto_region 6 with(first|((with_reducible refine rl ?_);refine rq ?_;intro x)|(go_at_call 250;refine gm (c_sRandomBelow r0 r1 (by omega) (by omega)) ?_;intro y2))
 rw[HM0.out]
 refine codeLater (w:=w) ?_
 intro y0
 go_upto_region 7 with(first|((with_reducible refine rl ?_);refine rq ?_;intro x))
 obtain⟨g,hg⟩:∃ g,y0.w.heap.size=g:=⟨_,rfl⟩
 have hwg:w.heap.size≤g:=hg▸y0.size_le
 have HRW:=lH (show Row8 _ g (byteList s)from hg▸Row8.conv (w:=y0.w) (s:=s) (c:=grownCap y0.w n 0 5) (T:=5))
 generalize grownCap y0.w n 0 5=gc at HRW ⊢
 rw[hg]
 clear hto
 obtain⟨FI,hFI⟩:∃ FI,(flips f (m+1)).foldl (up1 xorU) (byteList s)=FI:=⟨_,rfl⟩
 rw[hFI]
 have HFI:=lH hFI
 clear hFI
 go_wp2_with (first|((with_reducible refine rl ?_);refine rq ?_;intro x))
 go_loopw [12] (fun v wr=>∃ (p:Nat) (D:List Int),v=.int .i64 p∧f≤p∧p≤f+m+1∧D.length=n∧Hid ((flips p (f+m+1 - p)).foldl (up1 xorU) D=FI)∧Hid (Row8 wr g D)∧∃ y:Later w,wr=y.w) (fun v _=>((f+m+1:Nat) - intOf v).toNat)
 case atStart=>exact⟨f,byteList s,rfl,Nat.le_refl _,by omega,hln,lH (by have:=HFI.out;rw[show f+m+1 - f=m+1 by omega];exact this),HRW,Later.of⟩
 case round =>
  obtain⟨p,D,rfl,hp0,hp1,hDn,HF,HD,y,rfl⟩:=hrel
  by_cases hpl:p≤f+m
  ·obtain⟨j,hj9⟩:∃ x:Nat,p / 8=x:=⟨_,rfl⟩
   have HJ:=lH hj9
   obtain⟨r,hr9⟩:∃ x:Nat,p % 8=x:=⟨_,rfl⟩
   have HR:=lH hr9
   have hjn:j<n:=by omega
   have hr8:r<8:=by omega
   have hpb:p≤4000:=by omega
   clear hj9 hr9
   obtain⟨d,hd9⟩:∃ x:Int,D.getD j 0=x:=⟨_,rfl⟩
   have Hd:=lH hd9
   have hcell:∀ (W:World) [Grows y.w W],W.cell? ⟨g,0+j*1,none⟩=some (.int .u8 d):=fun W g=>by rw[Nat.zero_add,Nat.mul_one,← Hd.out];exact((HD.out.to g).at (by omega)).1
   clear hd9
   obtain⟨v,hv9⟩:∃ x:Int,IntKind.u8.wrap (1*2 ^ r)=x:=⟨_,rfl⟩
   have HV:=lH hv9
   clear hv9
   obtain⟨ov,hov9⟩:∃ x:Int,xorU d v=x:=⟨_,rfl⟩
   have HO:=lH hov9
   clear hov9
   go_upto_region 10 with(first|((with_reducible refine rl ?_);refine rq ?_;intro x))
   refine wp_region_stabZ kr (T:=[13]) (Zs:=[]) (H:=[(2,[]),(5,[]),(6,[]),(7,[]),(9,[]),(10,[]),(11,[]),(12,[])]) (C:=[]) (Fs:=[(some 49,.v (.slice (some ⟨g,0,none⟩) n gc)),(some 50,.v (.int .i64 ((p:Int)))),(some 51,.v (.int .i64 ((j:Int)))),(some 52,.v (.slice (some ⟨g,0,none⟩) n gc)),(some 53,.v (.int .i64 ((p:Int)))),(some 54,.v (.int .i64 ((j:Int)))),(some 55,.v (.pointer (some ⟨g,0+j*1,none⟩))),(some 56,.v (.int .u8 (d))),(some 57,.v (.int .i64 ((p:Int)))),(some 58,.v (.int .i64 ((r:Int)))),(some 59,.v (.int .u8 (v))),(some 60,.v (.int .u8 (ov))),(some 61,.v (.pointer (some ⟨g,0+j*1,none⟩))),(none,.v (undef))]) kr (fun val W=>by kernel_rfl) ?ob10 ?lz10 ?pn10 ?tl10
   case ob10 =>
    refine⟨fun x=>?_,fun x=>?_,fun x=>?_,fun x=>?_,fun x=>?_,fun x=>?_,fun x=>?_,fun x=>?_,trivial⟩
    ·exact g_bin (o:=.quo) (p:=.i64) (s:=(p:Int)) (q:=.i64) (t:=8) rfl kr (fun ty ty2 w=>by exact HJ.out▸run_quo8 rfl hpb ty ty2 w)
    ·exact g_bin (o:=.quo) (p:=.i64) (s:=(p:Int)) (q:=.i64) (t:=8) rfl kr (fun ty ty2 w=>by exact HJ.out▸run_quo8 rfl hpb ty ty2 w)
    ·exact g_ix (size:=1) (o:=0) (j:=j) (n:=n) (c:=gc) rfl kr uu287 kr hjn
    ·exact g_cell (hcell x.w) rfl kr _ uu5 rfl
    ·exact g_bin (o:=.rem) (p:=.i64) (s:=(p:Int)) (q:=.i64) (t:=8) rfl kr (fun ty ty2 w=>by exact HR.out▸run_rem8 rfl hpb ty ty2 w)
    ·exact g_bin (o:=.shl) (p:=.u8) (s:=1) (q:=.i64) (t:=(r:Int)) rfl kr (fun ty ty2 w=>by exact HV.out▸run_shlK hr8 ty ty2 w)
    ·exact g_bin (o:=.xor) (p:=.u8) (s:=d) (q:=.u8) (t:=v) rfl kr (fun ty ty2 w=>by exact HO.out▸run_xor ty ty2 w)
    ·exact g_ix (size:=1) (o:=0) (j:=j) (n:=n) (c:=gc) rfl kr uu287 kr hjn
   case lz10 =>
    exact trivial
   case pn10=>exact fun _ _ _ _ _ _ h=>h
   case tl10 =>
    intro x
    refine tail1 rfl ?_
    simp only[put_nrm]
    simp only[Act.put,List.setIfInBounds_toArray,List.set_cons_succ,List.set_cons_zero]
    refine step_row8 rfl _ (.tmp 61) (.tmp 60) rfl g (0+j*1) rfl (L2:=up1 xorU D (p / 8,IntKind.u8.wrap (1*2 ^ (p % 8)))) (HD.out.to (ii:Grows y.w x.w)) rfl kr (by omega) (by rw[up1,Nat.zero_add,Nat.mul_one,HJ.out,HR.out,Hd.out,HV.out,HO.out]) (w0:=w) ii hwg ?_
    intro z hz
    have HZ:=lH hz;clear hz hcell
    (try simp only[Act.put,List.setIfInBounds_toArray])
    go_wp2_with (first|((with_reducible refine rl ?_);refine rq ?_;intro x))
    go_roundw
    case rel=>exact⟨p+1,up1 xorU D (p / 8,IntKind.u8.wrap (1*2 ^ (p % 8))),by go_num,by omega,by omega,by rw[up1_len];exact hDn,lH (by have:=HF.out;rw[show f+m+1 - p=f+m+1 - (p+1)+1 by omega,flips,List.foldl_cons]at this;exact this),HZ,Later.of⟩
    case measure=>simp[intOf];omega
  ·obtain rfl:p=f+m+1:=by omega
   have hcv:=HD.out.str (P:=Tryz.prog) (c:=gc) hDn uu287 uu5 uu9
   have HF2:=lH (show D=FI by have:=HF.out;rw[Nat.sub_self]at this;exact this)
   go_wp2_with (first|((with_reducible refine rl ?_);(repeat(first|go_big_quiet_step (first|fail)|simp only[hcv]));refine wpQuiet_nil ?_;intro x))
   refine bodyPost_ret (v:=.tuple #[.int .i64 (nextR (nextR z0)),.string (strOfNums D)]) ?_ rfl ⟨by rw[HF2.out,← HFI.out],Later.of⟩
   simp[results,Tryz.results251,go_sem]
