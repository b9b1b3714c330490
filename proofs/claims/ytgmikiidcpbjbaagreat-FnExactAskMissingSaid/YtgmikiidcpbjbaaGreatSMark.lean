/- Marks: what the laws write into slices, and find again. No condition but on lengths. -/
import Derived.Test.YtgmikiidcpbjbaaGreatSM0
namespace Go.Proofs.YtgmikiidcpbjbaaGreat
set_option linter.unusedVariables false
open Go.ChangeShapes Go.WideShapes Go.ChangeAt Go.RowKit
theorem fset1{α:Type}{enc:α→List Value}(hsz:∀ x:α,(enc x).length=1){y:α}{v0:Value}(hy:enc y=[v0]):∀ (l:List α) (j:Nat),j<l.length→(l.flatMap enc).set (j) v0=(l.set j y).flatMap enc
 | [],j,h=>by simp at h
 | x::l,0,_=>by
  have hx:=hsz x
  match he:enc x,hx with
  | [u0],_=>simp[List.flatMap_cons,he,hy]
 | x::l,j+1,h=>by
  have ih:=fset1 hsz hy l j (by simpa using h)
  rw[List.flatMap_cons,List.set_cons_succ,List.flatMap_cons,← ih]
  have hx:=hsz x
  match he:enc x,hx with
  | [u0],_ =>
   simp
theorem fset2{α:Type}{enc:α→List Value}(hsz:∀ x:α,(enc x).length=2){y:α}{v0 v1:Value}(hy:enc y=[v0,v1]):∀ (l:List α) (j:Nat),j<l.length→((l.flatMap enc).set (j*2) v0).set (j*2+1) v1=(l.set j y).flatMap enc
 | [],j,h=>by simp at h
 | x::l,0,_=>by
  have hx:=hsz x
  match he:enc x,hx with
  | [u0,u1],_=>simp[List.flatMap_cons,he,hy]
 | x::l,j+1,h=>by
  have ih:=fset2 hsz hy l j (by simpa using h)
  rw[List.flatMap_cons,List.set_cons_succ,List.flatMap_cons,← ih]
  have hx:=hsz x
  match he:enc x,hx with
  | [u0,u1],_ =>
   rw[show(j+1)*2=j*2+2 from by omega];simp
theorem fset3{α:Type}{enc:α→List Value}(hsz:∀ x:α,(enc x).length=3){y:α}{v0 v1 v2:Value}(hy:enc y=[v0,v1,v2]):∀ (l:List α) (j:Nat),j<l.length→(((l.flatMap enc).set (j*3) v0).set (j*3+1) v1).set (j*3+2) v2=(l.set j y).flatMap enc
 | [],j,h=>by simp at h
 | x::l,0,_=>by
  have hx:=hsz x
  match he:enc x,hx with
  | [u0,u1,u2],_=>simp[List.flatMap_cons,he,hy]
 | x::l,j+1,h=>by
  have ih:=fset3 hsz hy l j (by simpa using h)
  rw[List.flatMap_cons,List.set_cons_succ,List.flatMap_cons,← ih]
  have hx:=hsz x
  match he:enc x,hx with
  | [u0,u1,u2],_ =>
   rw[show(j+1)*3=j*3+3 from by omega];simp
theorem fset4{α:Type}{enc:α→List Value}(hsz:∀ x:α,(enc x).length=4){y:α}{v0 v1 v2 v3:Value}(hy:enc y=[v0,v1,v2,v3]):∀ (l:List α) (j:Nat),j<l.length→((((l.flatMap enc).set (j*4) v0).set (j*4+1) v1).set (j*4+2) v2).set (j*4+3) v3=(l.set j y).flatMap enc
 | [],j,h=>by simp at h
 | x::l,0,_=>by
  have hx:=hsz x
  match he:enc x,hx with
  | [u0,u1,u2,u3],_=>simp[List.flatMap_cons,he,hy]
 | x::l,j+1,h=>by
  have ih:=fset4 hsz hy l j (by simpa using h)
  rw[List.flatMap_cons,List.set_cons_succ,List.flatMap_cons,← ih]
  have hx:=hsz x
  match he:enc x,hx with
  | [u0,u1,u2,u3],_ =>
   rw[show(j+1)*4=j*4+4 from by omega];simp
def mixed{α:Type}(mk:Nat→α)(l:List α)(j:Nat):List α:=(List.range j).map mk++l.drop j
theorem mixed_length{α:Type}{mk:Nat→α}{l:List α}{j:Nat}(hj:j≤l.length):(mixed mk l j).length=l.length:=by simp[mixed];omega
theorem mixed_set{α:Type}{mk:Nat→α}{l:List α}{j:Nat}(hj:j<l.length):(mixed mk l j).set j (mk j)=mixed mk l (j+1):=by
 have e:∀ y:α,(l.drop j).set 0 y=y::l.drop (j+1):=fun y=>by rw[List.drop_eq_getElem_cons hj];rfl
 unfold mixed
 rw[List.set_append_right _ _ (by simp),List.range_succ,List.map_append]
 simp[e]
theorem mixed_zero{α:Type}{mk:Nat→α}{l:List α}:mixed mk l 0=l:=by simp[mixed]
theorem mixed_all{α:Type}{mk:Nat→α}{l:List α}:mixed mk l l.length=(List.range l.length).map mk:=by simp[mixed]
theorem Own.open{α:Type}{enc:α→List Value}{T size B n:Nat}{w:World}{a:Option Addr}{c:Nat}{l:List α}(h:Own enc T size B w a c l)(hn:0<l.length) :
  ∃ g,a=some ⟨g,0,none⟩∧B≤g∧g<w.heap.size:=by
 obtain⟨hsz,hlen,h1|⟨g,cap,cur,hv,hg,hh,-⟩⟩:=h
 ·omega
 ·simp only[Value.slice.injEq]at hv
  exact⟨g,hv.1,hg,(Array.getElem?_eq_some_iff.1 hh).1⟩
theorem Own.cells{α:Type}{enc:α→List Value}{T size B g:Nat}{w:World}{c:Nat}{l:List α}(h:Own enc T size B w (some ⟨g,0,none⟩) c l){j:Nat}(hj:j<l.length*size):∃ v,w.cell? ⟨g,j,none⟩=some v:=by
 have h1:=h.2.cellAt (n:=l.length) j hj
 exact⟨_,h1.trans (List.getElem?_eq_getElem (by rw[flatMap_length h.1];exact hj))⟩
theorem Own.free{α:Type}{enc:α→List Value}{T size B g:Nat}{w:World}{c:Nat}{l:List α}(h:Own enc T size B w (some ⟨g,0,none⟩) c l)(j:Nat):w.frozen? ⟨g,j,none⟩=false:=h.2.frozenAt j
def Marks{α:Type}(enc:α→List Value)(T size B:Nat)(w:World)(a:Option Addr)(n c:Nat)(l':List α)(k:Int):Ending→World→Prop:=fun e w' =>
 e=.returned (.int .i64 k)∧w.grownBy w' (Value.ownBlock (.slice a n c))∧Own enc T size B w' a c l'
theorem Own.put1{α:Type}{enc:α→List Value}{T B g:Nat}{w:World}{c:Nat}{l:List α}(h:Own enc T 1 B w (some ⟨g,0,none⟩) c l){j:Nat}(hj:j<l.length){y:α}{v0:Value}(hy:enc y=[v0]) :
  Own enc T 1 B ((w).setCell ⟨g,j,none⟩ v0) (some ⟨g,0,none⟩) c (l.set j y)∧w.grownBy ((w).setCell ⟨g,j,none⟩ v0) (some g):=by
 have s0:=(h.2).stored (j) v0
 refine⟨⟨h.1,?_⟩,s0.2⟩
 rw[← fset1 h.1 hy l j hj,List.length_set]
 exact s0.1
theorem Own.put2{α:Type}{enc:α→List Value}{T B g:Nat}{w:World}{c:Nat}{l:List α}(h:Own enc T 2 B w (some ⟨g,0,none⟩) c l){j:Nat}(hj:j<l.length){y:α}{v0 v1:Value}(hy:enc y=[v0,v1]) :
  Own enc T 2 B (((w).setCell ⟨g,j*2,none⟩ v0).setCell ⟨g,j*2+1,none⟩ v1) (some ⟨g,0,none⟩) c (l.set j y)∧w.grownBy (((w).setCell ⟨g,j*2,none⟩ v0).setCell ⟨g,j*2+1,none⟩ v1) (some g):=by
 have s0:=(h.2).stored (j*2) v0
 have s1:=(s0.1).stored (j*2+1) v1
 refine⟨⟨h.1,?_⟩,(grownBy_trans s0.2 s1.2)⟩
 rw[← fset2 h.1 hy l j hj,List.length_set]
 exact s1.1
theorem Own.put3{α:Type}{enc:α→List Value}{T B g:Nat}{w:World}{c:Nat}{l:List α}(h:Own enc T 3 B w (some ⟨g,0,none⟩) c l){j:Nat}(hj:j<l.length){y:α}{v0 v1 v2:Value}(hy:enc y=[v0,v1,v2]) :
  Own enc T 3 B ((((w).setCell ⟨g,j*3,none⟩ v0).setCell ⟨g,j*3+1,none⟩ v1).setCell ⟨g,j*3+2,none⟩ v2) (some ⟨g,0,none⟩) c (l.set j y)∧w.grownBy ((((w).setCell ⟨g,j*3,none⟩ v0).setCell ⟨g,j*3+1,none⟩ v1).setCell ⟨g,j*3+2,none⟩ v2) (some g):=by
 have s0:=(h.2).stored (j*3) v0
 have s1:=(s0.1).stored (j*3+1) v1
 have s2:=(s1.1).stored (j*3+2) v2
 refine⟨⟨h.1,?_⟩,(grownBy_trans (grownBy_trans s0.2 s1.2) s2.2)⟩
 rw[← fset3 h.1 hy l j hj,List.length_set]
 exact s2.1
theorem Own.put4{α:Type}{enc:α→List Value}{T B g:Nat}{w:World}{c:Nat}{l:List α}(h:Own enc T 4 B w (some ⟨g,0,none⟩) c l){j:Nat}(hj:j<l.length){y:α}{v0 v1 v2 v3:Value}(hy:enc y=[v0,v1,v2,v3]) :
  Own enc T 4 B (((((w).setCell ⟨g,j*4,none⟩ v0).setCell ⟨g,j*4+1,none⟩ v1).setCell ⟨g,j*4+2,none⟩ v2).setCell ⟨g,j*4+3,none⟩ v3) (some ⟨g,0,none⟩) c (l.set j y)∧w.grownBy (((((w).setCell ⟨g,j*4,none⟩ v0).setCell ⟨g,j*4+1,none⟩ v1).setCell ⟨g,j*4+2,none⟩ v2).setCell ⟨g,j*4+3,none⟩ v3) (some g):=by
 have s0:=(h.2).stored (j*4) v0
 have s1:=(s0.1).stored (j*4+1) v1
 have s2:=(s1.1).stored (j*4+2) v2
 have s3:=(s2.1).stored (j*4+3) v3
 refine⟨⟨h.1,?_⟩,(grownBy_trans (grownBy_trans (grownBy_trans s0.2 s1.2) s2.2) s3.2)⟩
 rw[← fset4 h.1 hy l j hj,List.length_set]
 exact s3.1
def Among(a:Option Addr)(B U:Nat):Prop:=∀ k,Value.ownBlock (.slice a 0 0)=some k→B≤k∧k<U
theorem Own.keep{α:Type}{enc:α→List Value}{T size B B1 U1 B2 U2 n2 c2:Nat}{V w1:World}{a a2:Option Addr}{c:Nat}{l:List α}(h:Own enc T size B V a c l)(hg:V.grownBy w1 (Value.ownBlock (.slice a2 n2 c2)))
  (i1:Among a B1 U1) (i2:Among a2 B2 U2) (hd:LeN U1 B2∨LeN U2 B1):Own enc T size B w1 a c l:=by
 refine⟨h.1,h.2.kept hg ?_⟩
 cases a with
 | none=>exact .inl rfl
 | some a =>
  right
  cases a2 with
  | none=>simp[Value.ownBlock]
  | some b =>
   have h1:=i1 _ rfl
   have h2:=i2 _ rfl
   intro he
   simp only[Value.ownBlock,Option.some.injEq]at he
   rcases hd with hd|hd
   ·have:=hd.out;omega
   ·have:=hd.out;omega
def mkSlot(k0:Int)(i:Nat):Slot:=(⟨k0+i*2,k0+i*2+1⟩:Slot)
theorem c_lmarkSlotS{a:Option Addr}{n c B:Nat}{k0:Int}{l:List Slot}{w:World}(hown0:Own encSlot 250 2 B w a c l)(hn:l.length=n)(hm:n≤100000000)(h1:0≤k0)(h2:k0≤1000000000000) :
  Calls Tryz.prog 86 #[.slice a n c,.int .i64 k0] w (Marks encSlot 250 2 B w a n c ((List.range n).map (mkSlot k0)) (k0+n*2)):=by
 go_enter Tryz.func86,Tryz.ntmps86
 go_wp2_with (first|((with_reducible refine wp_region_later (by kernel_rfl) (by kernel_rfl) ?_);(repeat(first|go_big_quiet_step (first|fail)));refine wpQuiet_nil ?_;rintro _ ⟨x,rfl⟩))
 go_loopw [1,5] (fun u v wr=>∃ j:Nat,v=.int .i64 j∧u=.int .i64 (k0+j*2)∧j≤n∧w.grownBy wr (Value.ownBlock (.slice a n c))∧Own encSlot 250 2 B wr a c (mixed (mkSlot k0) l j)) (fun _ v _=>(n - intOf v).toNat)
 case atStart=>exact⟨0,rfl,by simp,by omega,grownBy_refl _ _,by rw[mixed_zero];exact hown0⟩
 case round =>
  obtain⟨j,rfl,rfl,hj,hgr,hown⟩:=hrel
  by_cases h:j<n
  ·obtain⟨g,rfl,hB,hlt⟩:=hown.open (n:=n) (by rw[mixed_length (by omega)];omega)
   obtain⟨o0,g0⟩:=hown.cells (j:=j*2) (by rw[mixed_length (by omega)];omega);obtain⟨o1,g1⟩:=hown.cells (j:=j*2+1) (by rw[mixed_length (by omega)];omega);
   have f0:=hown.free (j*2);have f1:=hown.free (j*2+1);
   have HG:=lH hgr;clear hgr
   go_wp2_with (first|((with_reducible refine wp_region_later (by kernel_rfl) (by kernel_rfl) ?_);(repeat(first|go_big_quiet_step (first|fail)));refine wpQuiet_nil ?_;rintro _ ⟨x,rfl⟩))
   go_roundw
   case rel =>
    have hp:=hown.put2 (j:=j) (y:=mkSlot k0 j) (by rw[mixed_length (by omega)];omega) rfl
    exact⟨j+1,by go_num,by go_num,by omega,grownBy_trans HG.out hp.2,by rw[← mixed_set (by omega)];exact hp.1⟩
   case measure=>simp[intOf];omega
  ·go_wp2_with (first|((with_reducible refine wp_region_later (by kernel_rfl) (by kernel_rfl) ?_);(repeat(first|go_big_quiet_step (first|fail)));refine wpQuiet_nil ?_;rintro _ ⟨x,rfl⟩))
   go_ret
   obtain rfl:j=n:=by omega
   refine⟨rfl,hgr,?_⟩
   rw[← hn,mixed_all]at hown
   rw[← hn];exact hown
theorem c_lheldSlotS{a:Option Addr}{n c:Nat}{k0:Int}{w:World}(hs:Sl encSlot w a ((List.range n).map (mkSlot k0)))(hm:n≤100000000)(h1:0≤k0)(h2:k0≤1000000000000) :
  Calls Tryz.prog 91 #[.slice a n c,.int .i64 k0] w (Gives w (.int .i64 (k0+n*2))):=by
 go_enter Tryz.func91,Tryz.ntmps91
 go_wp2_with (first|((with_reducible refine wp_region_later (by kernel_rfl) (by kernel_rfl) ?_);(repeat(first|go_big_quiet_step (first|fail)));refine wpQuiet_nil ?_;rintro _ ⟨x,rfl⟩))
 go_loopw [1,5] (fun u v wr=>∃ j:Nat,v=.int .i64 j∧u=.int .i64 (k0+j*2)∧j≤n∧∃ x:Later w,wr=x.w) (fun _ v _=>(n - intOf v).toNat)
 case atStart=>exact⟨0,rfl,by simp,by omega,Later.of⟩
 case round =>
  obtain⟨j,rfl,rfl,hj,x0,rfl⟩:=hrel
  by_cases h:j<n
  ·obtain⟨b,off,s,rfl,hb,hd,e0,e1⟩:=hs.slot (k:=j) (by simpa using h)
   obtain rfl:s=mkSlot k0 j:=by
    have:=congrArg (fun m=>m[0]?) hd.out
    simpa[h]using this.symm
   simp only[mkSlot]at e0 e1
   clear hd
   go_wp2_with (first|((with_reducible refine wp_region_later (by kernel_rfl) (by kernel_rfl) ?_);(repeat(first|go_big_quiet_step (first|fail)));refine wpQuiet_nil ?_;rintro _ ⟨x,rfl⟩))
   go_roundw
   case rel=>exact⟨j+1,by go_num,by go_num,by omega,Later.of⟩
   case measure=>simp[intOf];omega
  ·go_wp2_with (first|((with_reducible refine wp_region_later (by kernel_rfl) (by kernel_rfl) ?_);(repeat(first|go_big_quiet_step (first|fail)));refine wpQuiet_nil ?_;rintro _ ⟨x,rfl⟩))
   go_ret
   obtain rfl:j=n:=by omega
   exact Gives.mk rfl
def mkPair(k0:Int)(i:Nat):Pair:=(⟨k0+i*2,k0+i*2+1⟩:Pair)
theorem c_lmarkPairS{a:Option Addr}{n c B:Nat}{k0:Int}{l:List Pair}{w:World}(hown0:Own encPair 112 2 B w a c l)(hn:l.length=n)(hm:n≤100000000)(h1:0≤k0)(h2:k0≤1000000000000) :
  Calls Tryz.prog 249 #[.slice a n c,.int .i64 k0] w (Marks encPair 112 2 B w a n c ((List.range n).map (mkPair k0)) (k0+n*2)):=by
 go_enter Tryz.func249,Tryz.ntmps249
 go_wp2_with (first|((with_reducible refine wp_region_later (by kernel_rfl) (by kernel_rfl) ?_);(repeat(first|go_big_quiet_step (first|fail)));refine wpQuiet_nil ?_;rintro _ ⟨x,rfl⟩))
 go_loopw [1,5] (fun u v wr=>∃ j:Nat,v=.int .i64 j∧u=.int .i64 (k0+j*2)∧j≤n∧w.grownBy wr (Value.ownBlock (.slice a n c))∧Own encPair 112 2 B wr a c (mixed (mkPair k0) l j)) (fun _ v _=>(n - intOf v).toNat)
 case atStart=>exact⟨0,rfl,by simp,by omega,grownBy_refl _ _,by rw[mixed_zero];exact hown0⟩
 case round =>
  obtain⟨j,rfl,rfl,hj,hgr,hown⟩:=hrel
  by_cases h:j<n
  ·obtain⟨g,rfl,hB,hlt⟩:=hown.open (n:=n) (by rw[mixed_length (by omega)];omega)
   obtain⟨o0,g0⟩:=hown.cells (j:=j*2) (by rw[mixed_length (by omega)];omega);obtain⟨o1,g1⟩:=hown.cells (j:=j*2+1) (by rw[mixed_length (by omega)];omega);
   have f0:=hown.free (j*2);have f1:=hown.free (j*2+1);
   have HG:=lH hgr;clear hgr
   go_wp2_with (first|((with_reducible refine wp_region_later (by kernel_rfl) (by kernel_rfl) ?_);(repeat(first|go_big_quiet_step (first|fail)));refine wpQuiet_nil ?_;rintro _ ⟨x,rfl⟩))
   go_roundw
   case rel =>
    have hp:=hown.put2 (j:=j) (y:=mkPair k0 j) (by rw[mixed_length (by omega)];omega) rfl
    exact⟨j+1,by go_num,by go_num,by omega,grownBy_trans HG.out hp.2,by rw[← mixed_set (by omega)];exact hp.1⟩
   case measure=>simp[intOf];omega
  ·go_wp2_with (first|((with_reducible refine wp_region_later (by kernel_rfl) (by kernel_rfl) ?_);(repeat(first|go_big_quiet_step (first|fail)));refine wpQuiet_nil ?_;rintro _ ⟨x,rfl⟩))
   go_ret
   obtain rfl:j=n:=by omega
   refine⟨rfl,hgr,?_⟩
   rw[← hn,mixed_all]at hown
   rw[← hn];exact hown
theorem c_lheldPairS{a:Option Addr}{n c:Nat}{k0:Int}{w:World}(hs:Sl encPair w a ((List.range n).map (mkPair k0)))(hm:n≤100000000)(h1:0≤k0)(h2:k0≤1000000000000) :
  Calls Tryz.prog 257 #[.slice a n c,.int .i64 k0] w (Gives w (.int .i64 (k0+n*2))):=by
 go_enter Tryz.func257,Tryz.ntmps257
 go_wp2_with (first|((with_reducible refine wp_region_later (by kernel_rfl) (by kernel_rfl) ?_);(repeat(first|go_big_quiet_step (first|fail)));refine wpQuiet_nil ?_;rintro _ ⟨x,rfl⟩))
 go_loopw [1,5] (fun u v wr=>∃ j:Nat,v=.int .i64 j∧u=.int .i64 (k0+j*2)∧j≤n∧∃ x:Later w,wr=x.w) (fun _ v _=>(n - intOf v).toNat)
 case atStart=>exact⟨0,rfl,by simp,by omega,Later.of⟩
 case round =>
  obtain⟨j,rfl,rfl,hj,x0,rfl⟩:=hrel
  by_cases h:j<n
  ·obtain⟨b,off,s,rfl,hb,hd,e0,e1⟩:=hs.pair (k:=j) (by simpa using h)
   obtain rfl:s=mkPair k0 j:=by
    have:=congrArg (fun m=>m[0]?) hd.out
    simpa[h]using this.symm
   simp only[mkPair]at e0 e1
   clear hd
   go_wp2_with (first|((with_reducible refine wp_region_later (by kernel_rfl) (by kernel_rfl) ?_);(repeat(first|go_big_quiet_step (first|fail)));refine wpQuiet_nil ?_;rintro _ ⟨x,rfl⟩))
   go_roundw
   case rel=>exact⟨j+1,by go_num,by go_num,by omega,Later.of⟩
   case measure=>simp[intOf];omega
  ·go_wp2_with (first|((with_reducible refine wp_region_later (by kernel_rfl) (by kernel_rfl) ?_);(repeat(first|go_big_quiet_step (first|fail)));refine wpQuiet_nil ?_;rintro _ ⟨x,rfl⟩))
   go_ret
   obtain rfl:j=n:=by omega
   exact Gives.mk rfl
def mkInt(k0:Int)(i:Nat):Int:=(k0+i)
theorem c_lmarkIntS{a:Option Addr}{n c B:Nat}{k0:Int}{l:List Int}{w:World}(hown0:Own encInt 3 1 B w a c l)(hn:l.length=n)(hm:n≤100000000)(h1:0≤k0)(h2:k0≤1000000000000) :
  Calls Tryz.prog 385 #[.slice a n c,.int .i64 k0] w (Marks encInt 3 1 B w a n c ((List.range n).map (mkInt k0)) (k0+n*1)):=by
 go_enter Tryz.func385,Tryz.ntmps385
 go_wp2_with (first|((with_reducible refine wp_region_later (by kernel_rfl) (by kernel_rfl) ?_);(repeat(first|go_big_quiet_step (first|fail)));refine wpQuiet_nil ?_;rintro _ ⟨x,rfl⟩))
 go_loopw [1,5] (fun u v wr=>∃ j:Nat,v=.int .i64 j∧u=.int .i64 (k0+j*1)∧j≤n∧w.grownBy wr (Value.ownBlock (.slice a n c))∧Own encInt 3 1 B wr a c (mixed (mkInt k0) l j)) (fun _ v _=>(n - intOf v).toNat)
 case atStart=>exact⟨0,rfl,by simp,by omega,grownBy_refl _ _,by rw[mixed_zero];exact hown0⟩
 case round =>
  obtain⟨j,rfl,rfl,hj,hgr,hown⟩:=hrel
  by_cases h:j<n
  ·obtain⟨g,rfl,hB,hlt⟩:=hown.open (n:=n) (by rw[mixed_length (by omega)];omega)
   obtain⟨o0,g0⟩:=hown.cells (j:=j) (by rw[mixed_length (by omega)];omega);
   have f0:=hown.free (j);
   have HG:=lH hgr;clear hgr
   go_wp2_with (first|((with_reducible refine wp_region_later (by kernel_rfl) (by kernel_rfl) ?_);(repeat(first|go_big_quiet_step (first|fail)));refine wpQuiet_nil ?_;rintro _ ⟨x,rfl⟩))
   go_roundw
   case rel =>
    have hp:=hown.put1 (j:=j) (y:=mkInt k0 j) (by rw[mixed_length (by omega)];omega) rfl
    exact⟨j+1,by go_num,by go_num,by omega,grownBy_trans HG.out hp.2,by rw[← mixed_set (by omega)];exact hp.1⟩
   case measure=>simp[intOf];omega
  ·go_wp2_with (first|((with_reducible refine wp_region_later (by kernel_rfl) (by kernel_rfl) ?_);(repeat(first|go_big_quiet_step (first|fail)));refine wpQuiet_nil ?_;rintro _ ⟨x,rfl⟩))
   go_ret
   obtain rfl:j=n:=by omega
   refine⟨rfl,hgr,?_⟩
   rw[← hn,mixed_all]at hown
   rw[← hn];exact hown
theorem c_lheldIntS{a:Option Addr}{n c:Nat}{k0:Int}{w:World}(hs:Sl encInt w a ((List.range n).map (mkInt k0)))(hm:n≤100000000)(h1:0≤k0)(h2:k0≤1000000000000) :
  Calls Tryz.prog 391 #[.slice a n c,.int .i64 k0] w (Gives w (.int .i64 (k0+n*1))):=by
 go_enter Tryz.func391,Tryz.ntmps391
 go_wp2_with (first|((with_reducible refine wp_region_later (by kernel_rfl) (by kernel_rfl) ?_);(repeat(first|go_big_quiet_step (first|fail)));refine wpQuiet_nil ?_;rintro _ ⟨x,rfl⟩))
 go_loopw [1,5] (fun u v wr=>∃ j:Nat,v=.int .i64 j∧u=.int .i64 (k0+j*1)∧j≤n∧∃ x:Later w,wr=x.w) (fun _ v _=>(n - intOf v).toNat)
 case atStart=>exact⟨0,rfl,by simp,by omega,Later.of⟩
 case round =>
  obtain⟨j,rfl,rfl,hj,x0,rfl⟩:=hrel
  by_cases h:j<n
  ·obtain⟨b,off,s,rfl,hb,hd,e0⟩:=hs.int (k:=j) (by simpa using h)
   obtain rfl:s=mkInt k0 j:=by
    have:=congrArg (fun m=>m[0]?) hd.out
    simpa[h]using this.symm
   simp only[mkInt]at e0
   clear hd
   go_wp2_with (first|((with_reducible refine wp_region_later (by kernel_rfl) (by kernel_rfl) ?_);(repeat(first|go_big_quiet_step (first|fail)));refine wpQuiet_nil ?_;rintro _ ⟨x,rfl⟩))
   go_roundw
   case rel=>exact⟨j+1,by go_num,by go_num,by omega,Later.of⟩
   case measure=>simp[intOf];omega
  ·go_wp2_with (first|((with_reducible refine wp_region_later (by kernel_rfl) (by kernel_rfl) ?_);(repeat(first|go_big_quiet_step (first|fail)));refine wpQuiet_nil ?_;rintro _ ⟨x,rfl⟩))
   go_ret
   obtain rfl:j=n:=by omega
   exact Gives.mk rfl
end Go.Proofs.YtgmikiidcpbjbaaGreat
