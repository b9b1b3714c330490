/- The contracts of marks in slices of flat elements. No condition but on sizes. -/
import Derived.Test.YthbepablpaldgaaGreatSOwnF
import Derived.Test.YthbepablpaldgaaGreatSMarkT
namespace Go.Proofs.YthbepablpaldgaaGreat
set_option linter.unusedVariables false
open Go.ChangeShapes Go.WideShapes Go.ChangeAt Go.RowKit
theorem fset5{α:Type}{enc:α→List Value}(hsz:∀ x:α,(enc x).length=5){y:α}{v0 v1 v2 v3 v4:Value}(hy:enc y=[v0,v1,v2,v3,v4]):∀ (l:List α) (j:Nat),j<l.length→(((((l.flatMap enc).set (j*5) v0).set (j*5+1) v1).set (j*5+2) v2).set (j*5+3) v3).set (j*5+4) v4=(l.set j y).flatMap enc
 | [],j,h=>by simp at h
 | x::l,0,_=>by
  have hx:=hsz x
  match he:enc x,hx with
  | [u0,u1,u2,u3,u4],_=>simp[List.flatMap_cons,he,hy]
 | x::l,j+1,h=>by
  have ih:=fset5 hsz hy l j (by simpa using h)
  rw[List.flatMap_cons,List.set_cons_succ,List.flatMap_cons,← ih]
  have hx:=hsz x
  match he:enc x,hx with
  | [u0,u1,u2,u3,u4],_ =>
   rw[show(j+1)*5=j*5+5 from by omega];simp
theorem Own.put5{α:Type}{enc:α→List Value}{T B g:Nat}{w:World}{c:Nat}{l:List α}(h:Own enc T 5 B w (some ⟨g,0,none⟩) c l){j:Nat}(hj:j<l.length){y:α}{v0 v1 v2 v3 v4:Value}(hy:enc y=[v0,v1,v2,v3,v4]) :
  Own enc T 5 B ((((((w).setCell ⟨g,j*5,none⟩ v0).setCell ⟨g,j*5+1,none⟩ v1).setCell ⟨g,j*5+2,none⟩ v2).setCell ⟨g,j*5+3,none⟩ v3).setCell ⟨g,j*5+4,none⟩ v4) (some ⟨g,0,none⟩) c (l.set j y)∧w.grownBy ((((((w).setCell ⟨g,j*5,none⟩ v0).setCell ⟨g,j*5+1,none⟩ v1).setCell ⟨g,j*5+2,none⟩ v2).setCell ⟨g,j*5+3,none⟩ v3).setCell ⟨g,j*5+4,none⟩ v4) (some g):=by
 have s0:=(h.2).stored (j*5) v0
 have s1:=(s0.1).stored (j*5+1) v1
 have s2:=(s1.1).stored (j*5+2) v2
 have s3:=(s2.1).stored (j*5+3) v3
 have s4:=(s3.1).stored (j*5+4) v4
 refine⟨⟨h.1,?_⟩,(grownBy_trans (grownBy_trans (grownBy_trans (grownBy_trans s0.2 s1.2) s2.2) s3.2) s4.2)⟩
 rw[← fset5 h.1 hy l j hj,List.length_set]
 exact s4.1
theorem Sl.tFlight{w:World}{a:Option Addr}{l:List TFlight}(h:Sl encTFlight w a l){k:Nat}(hk:k<l.length) :
  ∃ b off s,a=some ⟨b,off,none⟩∧LtN b w.heap.size∧Hid (l.drop k=s::l.drop (k+1))∧(∀ (W:World) [Grows w W],W.cell? ⟨b,off+k*2,none⟩=some (.int .i64 s.At))∧(∀ (W:World) [Grows w W],W.cell? ⟨b,off+k*2+1,none⟩=some (.string s.Data)):=by
 obtain⟨s,hs,hd⟩:=drop_at hk
 obtain⟨b,off,ha,hb,hc⟩:=h k s hs
 exact⟨b,off,s,ha,⟨hb⟩,hd,cell_grown hb (hc 0 _ rfl),cell_grown hb (hc 1 _ rfl)⟩
theorem Sl.tRecord{w:World}{a:Option Addr}{l:List TRecord}(h:Sl encTRecord w a l){k:Nat}(hk:k<l.length) :
  ∃ b off s,a=some ⟨b,off,none⟩∧LtN b w.heap.size∧Hid (l.drop k=s::l.drop (k+1))∧(∀ (W:World) [Grows w W],W.cell? ⟨b,off+k*4,none⟩=some (.int .i64 s.Id))∧(∀ (W:World) [Grows w W],W.cell? ⟨b,off+k*4+1,none⟩=some (.int .i64 s.Priority))∧(∀ (W:World) [Grows w W],W.cell? ⟨b,off+k*4+2,none⟩=some (.int .i64 s.Time))∧(∀ (W:World) [Grows w W],W.cell? ⟨b,off+k*4+3,none⟩=some (.string s.Data)):=by
 obtain⟨s,hs,hd⟩:=drop_at hk
 obtain⟨b,off,ha,hb,hc⟩:=h k s hs
 exact⟨b,off,s,ha,⟨hb⟩,hd,cell_grown hb (hc 0 _ rfl),cell_grown hb (hc 1 _ rfl),cell_grown hb (hc 2 _ rfl),cell_grown hb (hc 3 _ rfl)⟩
theorem Sl.tWaiting{w:World}{a:Option Addr}{l:List TWaiting}(h:Sl encTWaiting w a l){k:Nat}(hk:k<l.length) :
  ∃ b off s,a=some ⟨b,off,none⟩∧LtN b w.heap.size∧Hid (l.drop k=s::l.drop (k+1))∧(∀ (W:World) [Grows w W],W.cell? ⟨b,off+k*5,none⟩=some (.int .i64 s.Number))∧(∀ (W:World) [Grows w W],W.cell? ⟨b,off+k*5+1,none⟩=some (.int .i64 s.Order.Kind))∧(∀ (W:World) [Grows w W],W.cell? ⟨b,off+k*5+2,none⟩=some (.int .i64 s.Order.At))∧(∀ (W:World) [Grows w W],W.cell? ⟨b,off+k*5+3,none⟩=some (.int .i64 s.Order.A))∧(∀ (W:World) [Grows w W],W.cell? ⟨b,off+k*5+4,none⟩=some (.int .i64 s.Order.B)):=by
 obtain⟨s,hs,hd⟩:=drop_at hk
 obtain⟨b,off,ha,hb,hc⟩:=h k s hs
 exact⟨b,off,s,ha,⟨hb⟩,hd,cell_grown hb (hc 0 _ rfl),cell_grown hb (hc 1 _ rfl),cell_grown hb (hc 2 _ rfl),cell_grown hb (hc 3 _ rfl),cell_grown hb (hc 4 _ rfl)⟩
def mkTWaiting(k0:Int)(i:Nat):TWaiting:=(⟨k0+i*5,k0+i*5+1,k0+i*5+1+1,k0+i*5+1+1+1,k0+i*5+1+1+1+1⟩:TWaiting)
theorem c_lmarkTWaitingS{a:Option Addr}{n c B:Nat}{k0:Int}{l:List TWaiting}{w:World}(hown0:Own encTWaiting 169 5 B w a c l)(hn:l.length=n)(hm:n≤100000000)(h1:0≤k0)(h2:k0≤1000000000000) :
  Calls Tryz.prog 240 #[.slice a n c,.int .i64 k0] w (Marks encTWaiting 169 5 B w a n c ((List.range n).map (mkTWaiting k0)) (k0+n*5)):=by
 go_enter Tryz.func240,Tryz.ntmps240
 go_wp2_with fail
 go_loopw [1,5] (fun u v wr=>∃ j:Nat,v=.int .i64 j∧u=.int .i64 (k0+j*5)∧j≤n∧w.grownBy wr (Value.ownBlock (.slice a n c))∧Own encTWaiting 169 5 B wr a c (mixed (mkTWaiting k0) l j)) (fun _ v _=>(n - intOf v).toNat)
 case atStart=>exact⟨0,rfl,by simp,by omega,grownBy_refl _ _,by rw[mixed_zero];exact hown0⟩
 case round =>
  obtain⟨j,rfl,rfl,hj,hgr,hown⟩:=hrel
  by_cases h:j<n
  ·obtain⟨g,rfl,hB,hlt⟩:=hown.open (n:=n) (by rw[mixed_length (by omega)];omega)
   obtain⟨o0,g0⟩:=hown.cells (j:=j*5) (by rw[mixed_length (by omega)];omega);obtain⟨o1,g1⟩:=hown.cells (j:=j*5+1) (by rw[mixed_length (by omega)];omega);obtain⟨o2,g2⟩:=hown.cells (j:=j*5+2) (by rw[mixed_length (by omega)];omega);obtain⟨o3,g3⟩:=hown.cells (j:=j*5+3) (by rw[mixed_length (by omega)];omega);obtain⟨o4,g4⟩:=hown.cells (j:=j*5+4) (by rw[mixed_length (by omega)];omega);
   have f0:=hown.free (j*5);have f1:=hown.free (j*5+1);have f2:=hown.free (j*5+2);have f3:=hown.free (j*5+3);have f4:=hown.free (j*5+4);
   have HG:=lH hgr;clear hgr
   go_wp2_with fail
   go_roundw
   case rel =>
    have hp:=hown.put5 (j:=j) (y:=mkTWaiting k0 j) (by rw[mixed_length (by omega)];omega) rfl
    exact⟨j+1,by go_num,by go_num,by omega,grownBy_trans HG.out hp.2,by rw[← mixed_set (by omega)];exact hp.1⟩
   case measure=>simp[intOf];omega
  ·go_wp2_with fail
   go_ret
   obtain rfl:j=n:=by omega
   refine⟨rfl,hgr,?_⟩
   rw[← hn,mixed_all]at hown
   rw[← hn];exact hown
theorem c_lheldTWaitingS{a:Option Addr}{n c:Nat}{k0:Int}{w:World}(hs:Sl encTWaiting w a ((List.range n).map (mkTWaiting k0)))(hm:n≤100000000)(h1:0≤k0)(h2:k0≤1000000000000) :
  Calls Tryz.prog 246 #[.slice a n c,.int .i64 k0] w (Gives w (.int .i64 (k0+n*5))):=by
 go_enter Tryz.func246,Tryz.ntmps246
 go_wp2_with fail
 go_loopw [1,5] (fun u v wr=>∃ j:Nat,v=.int .i64 j∧u=.int .i64 (k0+j*5)∧j≤n∧∃ x:Later w,wr=x.w) (fun _ v _=>(n - intOf v).toNat)
 case atStart=>exact⟨0,rfl,by simp,by omega,Later.of⟩
 case round =>
  obtain⟨j,rfl,rfl,hj,x0,rfl⟩:=hrel
  by_cases h:j<n
  ·obtain⟨b,off,s,rfl,hb,hd,e0,e1,e2,e3,e4⟩:=hs.tWaiting (k:=j) (by simpa using h)
   obtain rfl:s=mkTWaiting k0 j:=by
    have:=congrArg (fun m=>m[0]?) hd.out
    simpa[h]using this.symm
   simp only[mkTWaiting]at e0 e1 e2 e3 e4
   clear hd
   go_wp2_with fail
   go_roundw
   case rel=>exact⟨j+1,by go_num,by go_num,by omega,Later.of⟩
   case measure=>simp[intOf];omega
  ·go_wp2_with fail
   go_ret
   obtain rfl:j=n:=by omega
   exact Gives.mk rfl
theorem Sl.tLimit{w:World}{a:Option Addr}{l:List TLimit}(h:Sl encTLimit w a l){k:Nat}(hk:k<l.length) :
  ∃ b off s,a=some ⟨b,off,none⟩∧LtN b w.heap.size∧Hid (l.drop k=s::l.drop (k+1))∧(∀ (W:World) [Grows w W],W.cell? ⟨b,off+k*3,none⟩=some (.int .i64 s.Param))∧(∀ (W:World) [Grows w W],W.cell? ⟨b,off+k*3+1,none⟩=some (.int .i64 s.Low))∧(∀ (W:World) [Grows w W],W.cell? ⟨b,off+k*3+2,none⟩=some (.int .i64 s.High)):=by
 obtain⟨s,hs,hd⟩:=drop_at hk
 obtain⟨b,off,ha,hb,hc⟩:=h k s hs
 exact⟨b,off,s,ha,⟨hb⟩,hd,cell_grown hb (hc 0 _ rfl),cell_grown hb (hc 1 _ rfl),cell_grown hb (hc 2 _ rfl)⟩
def mkTLimit(k0:Int)(i:Nat):TLimit:=(⟨k0+i*3,k0+i*3+1,k0+i*3+1+1⟩:TLimit)
theorem c_lmarkTLimitS{a:Option Addr}{n c B:Nat}{k0:Int}{l:List TLimit}{w:World}(hown0:Own encTLimit 250 3 B w a c l)(hn:l.length=n)(hm:n≤100000000)(h1:0≤k0)(h2:k0≤1000000000000) :
  Calls Tryz.prog 239 #[.slice a n c,.int .i64 k0] w (Marks encTLimit 250 3 B w a n c ((List.range n).map (mkTLimit k0)) (k0+n*3)):=by
 go_enter Tryz.func239,Tryz.ntmps239
 go_wp2_with fail
 go_loopw [1,5] (fun u v wr=>∃ j:Nat,v=.int .i64 j∧u=.int .i64 (k0+j*3)∧j≤n∧w.grownBy wr (Value.ownBlock (.slice a n c))∧Own encTLimit 250 3 B wr a c (mixed (mkTLimit k0) l j)) (fun _ v _=>(n - intOf v).toNat)
 case atStart=>exact⟨0,rfl,by simp,by omega,grownBy_refl _ _,by rw[mixed_zero];exact hown0⟩
 case round =>
  obtain⟨j,rfl,rfl,hj,hgr,hown⟩:=hrel
  by_cases h:j<n
  ·obtain⟨g,rfl,hB,hlt⟩:=hown.open (n:=n) (by rw[mixed_length (by omega)];omega)
   obtain⟨o0,g0⟩:=hown.cells (j:=j*3) (by rw[mixed_length (by omega)];omega);obtain⟨o1,g1⟩:=hown.cells (j:=j*3+1) (by rw[mixed_length (by omega)];omega);obtain⟨o2,g2⟩:=hown.cells (j:=j*3+2) (by rw[mixed_length (by omega)];omega);
   have f0:=hown.free (j*3);have f1:=hown.free (j*3+1);have f2:=hown.free (j*3+2);
   have HG:=lH hgr;clear hgr
   go_wp2_with fail
   go_roundw
   case rel =>
    have hp:=hown.put3 (j:=j) (y:=mkTLimit k0 j) (by rw[mixed_length (by omega)];omega) rfl
    exact⟨j+1,by go_num,by go_num,by omega,grownBy_trans HG.out hp.2,by rw[← mixed_set (by omega)];exact hp.1⟩
   case measure=>simp[intOf];omega
  ·go_wp2_with fail
   go_ret
   obtain rfl:j=n:=by omega
   refine⟨rfl,hgr,?_⟩
   rw[← hn,mixed_all]at hown
   rw[← hn];exact hown
theorem c_lheldTLimitS{a:Option Addr}{n c:Nat}{k0:Int}{w:World}(hs:Sl encTLimit w a ((List.range n).map (mkTLimit k0)))(hm:n≤100000000)(h1:0≤k0)(h2:k0≤1000000000000) :
  Calls Tryz.prog 245 #[.slice a n c,.int .i64 k0] w (Gives w (.int .i64 (k0+n*3))):=by
 go_enter Tryz.func245,Tryz.ntmps245
 go_wp2_with fail
 go_loopw [1,5] (fun u v wr=>∃ j:Nat,v=.int .i64 j∧u=.int .i64 (k0+j*3)∧j≤n∧∃ x:Later w,wr=x.w) (fun _ v _=>(n - intOf v).toNat)
 case atStart=>exact⟨0,rfl,by simp,by omega,Later.of⟩
 case round =>
  obtain⟨j,rfl,rfl,hj,x0,rfl⟩:=hrel
  by_cases h:j<n
  ·obtain⟨b,off,s,rfl,hb,hd,e0,e1,e2⟩:=hs.tLimit (k:=j) (by simpa using h)
   obtain rfl:s=mkTLimit k0 j:=by
    have:=congrArg (fun m=>m[0]?) hd.out
    simpa[h]using this.symm
   simp only[mkTLimit]at e0 e1 e2
   clear hd
   go_wp2_with fail
   go_roundw
   case rel=>exact⟨j+1,by go_num,by go_num,by omega,Later.of⟩
   case measure=>simp[intOf];omega
  ·go_wp2_with fail
   go_ret
   obtain rfl:j=n:=by omega
   exact Gives.mk rfl
theorem Sl.tDone{w:World}{a:Option Addr}{l:List TDone}(h:Sl encTDone w a l){k:Nat}(hk:k<l.length) :
  ∃ b off s,a=some ⟨b,off,none⟩∧LtN b w.heap.size∧Hid (l.drop k=s::l.drop (k+1))∧(∀ (W:World) [Grows w W],W.cell? ⟨b,off+k*3,none⟩=some (.int .i64 s.Number))∧(∀ (W:World) [Grows w W],W.cell? ⟨b,off+k*3+1,none⟩=some (.int .i64 s.Time))∧(∀ (W:World) [Grows w W],W.cell? ⟨b,off+k*3+2,none⟩=some (.int .i64 s.Result)):=by
 obtain⟨s,hs,hd⟩:=drop_at hk
 obtain⟨b,off,ha,hb,hc⟩:=h k s hs
 exact⟨b,off,s,ha,⟨hb⟩,hd,cell_grown hb (hc 0 _ rfl),cell_grown hb (hc 1 _ rfl),cell_grown hb (hc 2 _ rfl)⟩
def mkTDone(k0:Int)(i:Nat):TDone:=(⟨k0+i*3,k0+i*3+1,k0+i*3+1+1⟩:TDone)
theorem c_lmarkTDoneS{a:Option Addr}{n c B:Nat}{k0:Int}{l:List TDone}{w:World}(hown0:Own encTDone 252 3 B w a c l)(hn:l.length=n)(hm:n≤100000000)(h1:0≤k0)(h2:k0≤1000000000000) :
  Calls Tryz.prog 241 #[.slice a n c,.int .i64 k0] w (Marks encTDone 252 3 B w a n c ((List.range n).map (mkTDone k0)) (k0+n*3)):=by
 go_enter Tryz.func241,Tryz.ntmps241
 go_wp2_with fail
 go_loopw [1,5] (fun u v wr=>∃ j:Nat,v=.int .i64 j∧u=.int .i64 (k0+j*3)∧j≤n∧w.grownBy wr (Value.ownBlock (.slice a n c))∧Own encTDone 252 3 B wr a c (mixed (mkTDone k0) l j)) (fun _ v _=>(n - intOf v).toNat)
 case atStart=>exact⟨0,rfl,by simp,by omega,grownBy_refl _ _,by rw[mixed_zero];exact hown0⟩
 case round =>
  obtain⟨j,rfl,rfl,hj,hgr,hown⟩:=hrel
  by_cases h:j<n
  ·obtain⟨g,rfl,hB,hlt⟩:=hown.open (n:=n) (by rw[mixed_length (by omega)];omega)
   obtain⟨o0,g0⟩:=hown.cells (j:=j*3) (by rw[mixed_length (by omega)];omega);obtain⟨o1,g1⟩:=hown.cells (j:=j*3+1) (by rw[mixed_length (by omega)];omega);obtain⟨o2,g2⟩:=hown.cells (j:=j*3+2) (by rw[mixed_length (by omega)];omega);
   have f0:=hown.free (j*3);have f1:=hown.free (j*3+1);have f2:=hown.free (j*3+2);
   have HG:=lH hgr;clear hgr
   go_wp2_with fail
   go_roundw
   case rel =>
    have hp:=hown.put3 (j:=j) (y:=mkTDone k0 j) (by rw[mixed_length (by omega)];omega) rfl
    exact⟨j+1,by go_num,by go_num,by omega,grownBy_trans HG.out hp.2,by rw[← mixed_set (by omega)];exact hp.1⟩
   case measure=>simp[intOf];omega
  ·go_wp2_with fail
   go_ret
   obtain rfl:j=n:=by omega
   refine⟨rfl,hgr,?_⟩
   rw[← hn,mixed_all]at hown
   rw[← hn];exact hown
theorem c_lheldTDoneS{a:Option Addr}{n c:Nat}{k0:Int}{w:World}(hs:Sl encTDone w a ((List.range n).map (mkTDone k0)))(hm:n≤100000000)(h1:0≤k0)(h2:k0≤1000000000000) :
  Calls Tryz.prog 247 #[.slice a n c,.int .i64 k0] w (Gives w (.int .i64 (k0+n*3))):=by
 go_enter Tryz.func247,Tryz.ntmps247
 go_wp2_with fail
 go_loopw [1,5] (fun u v wr=>∃ j:Nat,v=.int .i64 j∧u=.int .i64 (k0+j*3)∧j≤n∧∃ x:Later w,wr=x.w) (fun _ v _=>(n - intOf v).toNat)
 case atStart=>exact⟨0,rfl,by simp,by omega,Later.of⟩
 case round =>
  obtain⟨j,rfl,rfl,hj,x0,rfl⟩:=hrel
  by_cases h:j<n
  ·obtain⟨b,off,s,rfl,hb,hd,e0,e1,e2⟩:=hs.tDone (k:=j) (by simpa using h)
   obtain rfl:s=mkTDone k0 j:=by
    have:=congrArg (fun m=>m[0]?) hd.out
    simpa[h]using this.symm
   simp only[mkTDone]at e0 e1 e2
   clear hd
   go_wp2_with fail
   go_roundw
   case rel=>exact⟨j+1,by go_num,by go_num,by omega,Later.of⟩
   case measure=>simp[intOf];omega
  ·go_wp2_with fail
   go_ret
   obtain rfl:j=n:=by omega
   exact Gives.mk rfl
theorem Sl.tSent{w:World}{a:Option Addr}{l:List TSent}(h:Sl encTSent w a l){k:Nat}(hk:k<l.length) :
  ∃ b off s,a=some ⟨b,off,none⟩∧LtN b w.heap.size∧Hid (l.drop k=s::l.drop (k+1))∧(∀ (W:World) [Grows w W],W.cell? ⟨b,off+k*2,none⟩=some (.int .i64 s.Seq))∧(∀ (W:World) [Grows w W],W.cell? ⟨b,off+k*2+1,none⟩=some (.string s.Data)):=by
 obtain⟨s,hs,hd⟩:=drop_at hk
 obtain⟨b,off,ha,hb,hc⟩:=h k s hs
 exact⟨b,off,s,ha,⟨hb⟩,hd,cell_grown hb (hc 0 _ rfl),cell_grown hb (hc 1 _ rfl)⟩
def mkTFlight(k0:Int)(i:Nat):TFlight:=⟨k0+i*2,markTx (k0+i*2+1)⟩
theorem c_lmarkTFlightS{a:Option Addr}{n c B:Nat}{k0:Int}{l:List TFlight}{w:World}(hown0:Own encTFlight 177 2 B w a c l)(hn:l.length=n)(hm:n≤100000000)(h1:0≤k0)(h2:k0≤1000000000000) :
  Calls Tryz.prog 46 #[.slice a n c,.int .i64 k0] w (Marks encTFlight 177 2 B w a n c ((List.range n).map (mkTFlight k0)) (k0+n*2)):=by
 go_enter Tryz.func46,Tryz.ntmps46
 go_wp2_with fail
 go_loopw [1,5] (fun u v wr=>∃ j:Nat,v=.int .i64 j∧u=.int .i64 (k0+j*2)∧j≤n∧w.grownBy wr (Value.ownBlock (.slice a n c))∧Own encTFlight 177 2 B wr a c (mixed (mkTFlight k0) l j)) (fun _ v _=>(n - intOf v).toNat)
 case atStart=>exact⟨0,rfl,by simp,by omega,grownBy_refl _ _,by rw[mixed_zero];exact hown0⟩
 case round =>
  obtain⟨j,rfl,rfl,hj,hgr,hown⟩:=hrel
  by_cases h:j<n
  ·obtain⟨g,rfl,hB,hlt⟩:=hown.open (n:=n) (by rw[mixed_length (by omega)];omega)
   obtain⟨o0,g0⟩:=hown.cells (j:=j*2) (by rw[mixed_length (by omega)];omega);
   have f0:=hown.free (j*2);
   have HG:=lH hgr;clear hgr
   have HO:=lH hown;clear hown
   have s0:=(HO.out.2).stored (j*2) (.int .i64 (k0+j*2))
   have HS:=lH s0.1;have HT:=lH s0.2;clear s0
   go_wp2_with fail
   refine gm (c_lmarkText (by omega)) ?_
   intro y
   have t:=own_later HS.out y
   have hlen:(mixed (mkTFlight k0) l j).length=n:=by rw[mixed_length (by omega)];exact hn
   have hc:=t.cellAt (n:=_) (j*2+1) (by rw[hlen];omega)
   have fL:=t.frozenAt (j*2+1)
   obtain⟨oL,gL⟩:∃ v,y.w.cell? ⟨g,j*2+1,none⟩=some v:=⟨_,hc.trans (List.getElem?_eq_getElem (by simp only[List.length_set];rw[flatMap_length HO.out.1,hlen];omega))⟩
   have HQ:=lH (t.stored (j*2+1) (.string (markTx (k0+j*2+1))))
   clear t hc g0 f0
   go_wp2_with fail
   go_roundw
   case rel =>
    refine⟨j+1,by go_num,by go_num,by omega,grownBy_trans HG.out (grownBy_trans (grownBy_trans HT.out (grownBy_laterR y _)) HQ.out.2),?_⟩
    rw[← mixed_set (by omega)]
    refine⟨HO.out.1,?_⟩
    rw[← fset2 HO.out.1 (y:=mkTFlight k0 j) rfl _ j (by rw[hlen];omega),List.length_set]
    exact HQ.out.1
   case measure=>simp[intOf];omega
  ·go_wp2_with fail
   go_ret
   obtain rfl:j=n:=by omega
   refine⟨rfl,hgr,?_⟩
   rw[← hn,mixed_all]at hown
   rw[← hn];exact hown
theorem c_lheldTFlightS{a:Option Addr}{n c:Nat}{k0:Int}{w:World}(hs:Sl encTFlight w a ((List.range n).map (mkTFlight k0)))(hm:n≤100000000)(h1:0≤k0)(h2:k0≤1000000000000) :
  Calls Tryz.prog 51 #[.slice a n c,.int .i64 k0] w (Gives w (.int .i64 (k0+n*2))):=by
 go_enter Tryz.func51,Tryz.ntmps51
 go_wp2_with fail
 go_loopw [1,5] (fun u v wr=>∃ j:Nat,v=.int .i64 j∧u=.int .i64 (k0+j*2)∧j≤n∧∃ x:Later w,wr=x.w) (fun _ v _=>(n - intOf v).toNat)
 case atStart=>exact⟨0,rfl,by simp,by omega,Later.of⟩
 case round =>
  obtain⟨j,rfl,rfl,hj,x0,rfl⟩:=hrel
  by_cases h:j<n
  ·obtain⟨b,off,s,rfl,hb,hd,e0,e1⟩:=hs.tFlight (k:=j) (by simpa using h)
   obtain rfl:s=mkTFlight k0 j:=by
    have:=congrArg (fun m=>m[0]?) hd.out
    simpa[h]using this.symm
   simp only[mkTFlight]at e0 e1
   clear hd
   have hx:((markTx (k0+j*2+1)).toList != (markTx (k0+j*2+1)).toList)=false:=by simp
   go_wp2_with (first|((with_reducible refine rl ?_);(repeat(first|go_big_quiet_step (first|(go_at_call 146;exact Gives.quiet (c_lmarkText (by omega))))|simp only[hx]));refine wpQuiet_nil ?_;intro x)|(go_at_call 146;refine gm (c_lmarkText (by omega)) ?_;intro x))
   go_roundw
   case rel=>exact⟨j+1,by go_num,by go_num,by omega,Later.of⟩
   case measure=>simp[intOf];omega
  ·go_wp2_with fail
   go_ret
   obtain rfl:j=n:=by omega
   exact Gives.mk rfl
def mkTSent(k0:Int)(i:Nat):TSent:=⟨k0+i*2,markTx (k0+i*2+1)⟩
theorem c_lmarkTSentS{a:Option Addr}{n c B:Nat}{k0:Int}{l:List TSent}{w:World}(hown0:Own encTSent 224 2 B w a c l)(hn:l.length=n)(hm:n≤100000000)(h1:0≤k0)(h2:k0≤1000000000000) :
  Calls Tryz.prog 237 #[.slice a n c,.int .i64 k0] w (Marks encTSent 224 2 B w a n c ((List.range n).map (mkTSent k0)) (k0+n*2)):=by
 go_enter Tryz.func237,Tryz.ntmps237
 go_wp2_with fail
 go_loopw [1,5] (fun u v wr=>∃ j:Nat,v=.int .i64 j∧u=.int .i64 (k0+j*2)∧j≤n∧w.grownBy wr (Value.ownBlock (.slice a n c))∧Own encTSent 224 2 B wr a c (mixed (mkTSent k0) l j)) (fun _ v _=>(n - intOf v).toNat)
 case atStart=>exact⟨0,rfl,by simp,by omega,grownBy_refl _ _,by rw[mixed_zero];exact hown0⟩
 case round =>
  obtain⟨j,rfl,rfl,hj,hgr,hown⟩:=hrel
  by_cases h:j<n
  ·obtain⟨g,rfl,hB,hlt⟩:=hown.open (n:=n) (by rw[mixed_length (by omega)];omega)
   obtain⟨o0,g0⟩:=hown.cells (j:=j*2) (by rw[mixed_length (by omega)];omega);
   have f0:=hown.free (j*2);
   have HG:=lH hgr;clear hgr
   have HO:=lH hown;clear hown
   have s0:=(HO.out.2).stored (j*2) (.int .i64 (k0+j*2))
   have HS:=lH s0.1;have HT:=lH s0.2;clear s0
   go_wp2_with fail
   refine gm (c_lmarkText (by omega)) ?_
   intro y
   have t:=own_later HS.out y
   have hlen:(mixed (mkTSent k0) l j).length=n:=by rw[mixed_length (by omega)];exact hn
   have hc:=t.cellAt (n:=_) (j*2+1) (by rw[hlen];omega)
   have fL:=t.frozenAt (j*2+1)
   obtain⟨oL,gL⟩:∃ v,y.w.cell? ⟨g,j*2+1,none⟩=some v:=⟨_,hc.trans (List.getElem?_eq_getElem (by simp only[List.length_set];rw[flatMap_length HO.out.1,hlen];omega))⟩
   have HQ:=lH (t.stored (j*2+1) (.string (markTx (k0+j*2+1))))
   clear t hc g0 f0
   go_wp2_with fail
   go_roundw
   case rel =>
    refine⟨j+1,by go_num,by go_num,by omega,grownBy_trans HG.out (grownBy_trans (grownBy_trans HT.out (grownBy_laterR y _)) HQ.out.2),?_⟩
    rw[← mixed_set (by omega)]
    refine⟨HO.out.1,?_⟩
    rw[← fset2 HO.out.1 (y:=mkTSent k0 j) rfl _ j (by rw[hlen];omega),List.length_set]
    exact HQ.out.1
   case measure=>simp[intOf];omega
  ·go_wp2_with fail
   go_ret
   obtain rfl:j=n:=by omega
   refine⟨rfl,hgr,?_⟩
   rw[← hn,mixed_all]at hown
   rw[← hn];exact hown
theorem c_lheldTSentS{a:Option Addr}{n c:Nat}{k0:Int}{w:World}(hs:Sl encTSent w a ((List.range n).map (mkTSent k0)))(hm:n≤100000000)(h1:0≤k0)(h2:k0≤1000000000000) :
  Calls Tryz.prog 243 #[.slice a n c,.int .i64 k0] w (Gives w (.int .i64 (k0+n*2))):=by
 go_enter Tryz.func243,Tryz.ntmps243
 go_wp2_with fail
 go_loopw [1,5] (fun u v wr=>∃ j:Nat,v=.int .i64 j∧u=.int .i64 (k0+j*2)∧j≤n∧∃ x:Later w,wr=x.w) (fun _ v _=>(n - intOf v).toNat)
 case atStart=>exact⟨0,rfl,by simp,by omega,Later.of⟩
 case round =>
  obtain⟨j,rfl,rfl,hj,x0,rfl⟩:=hrel
  by_cases h:j<n
  ·obtain⟨b,off,s,rfl,hb,hd,e0,e1⟩:=hs.tSent (k:=j) (by simpa using h)
   obtain rfl:s=mkTSent k0 j:=by
    have:=congrArg (fun m=>m[0]?) hd.out
    simpa[h]using this.symm
   simp only[mkTSent]at e0 e1
   clear hd
   have hx:((markTx (k0+j*2+1)).toList != (markTx (k0+j*2+1)).toList)=false:=by simp
   go_wp2_with (first|((with_reducible refine rl ?_);(repeat(first|go_big_quiet_step (first|(go_at_call 146;exact Gives.quiet (c_lmarkText (by omega))))|simp only[hx]));refine wpQuiet_nil ?_;intro x)|(go_at_call 146;refine gm (c_lmarkText (by omega)) ?_;intro x))
   go_roundw
   case rel=>exact⟨j+1,by go_num,by go_num,by omega,Later.of⟩
   case measure=>simp[intOf];omega
  ·go_wp2_with fail
   go_ret
   obtain rfl:j=n:=by omega
   exact Gives.mk rfl
def mkTRecord(k0:Int)(i:Nat):TRecord:=⟨k0+i*4,k0+i*4+1,k0+i*4+1+1,markTx (k0+i*4+1+1+1)⟩
theorem c_lmarkTRecordS{a:Option Addr}{n c B:Nat}{k0:Int}{l:List TRecord}{w:World}(hown0:Own encTRecord 197 4 B w a c l)(hn:l.length=n)(hm:n≤100000000)(h1:0≤k0)(h2:k0≤1000000000000) :
  Calls Tryz.prog 149 #[.slice a n c,.int .i64 k0] w (Marks encTRecord 197 4 B w a n c ((List.range n).map (mkTRecord k0)) (k0+n*4)):=by
 go_enter Tryz.func149,Tryz.ntmps149
 go_wp2_with fail
 go_loopw [1,5] (fun u v wr=>∃ j:Nat,v=.int .i64 j∧u=.int .i64 (k0+j*4)∧j≤n∧w.grownBy wr (Value.ownBlock (.slice a n c))∧Own encTRecord 197 4 B wr a c (mixed (mkTRecord k0) l j)) (fun _ v _=>(n - intOf v).toNat)
 case atStart=>exact⟨0,rfl,by simp,by omega,grownBy_refl _ _,by rw[mixed_zero];exact hown0⟩
 case round =>
  obtain⟨j,rfl,rfl,hj,hgr,hown⟩:=hrel
  by_cases h:j<n
  ·obtain⟨g,rfl,hB,hlt⟩:=hown.open (n:=n) (by rw[mixed_length (by omega)];omega)
   obtain⟨o0,g0⟩:=hown.cells (j:=j*4) (by rw[mixed_length (by omega)];omega);obtain⟨o1,g1⟩:=hown.cells (j:=j*4+1) (by rw[mixed_length (by omega)];omega);obtain⟨o2,g2⟩:=hown.cells (j:=j*4+2) (by rw[mixed_length (by omega)];omega);
   have f0:=hown.free (j*4);have f1:=hown.free (j*4+1);have f2:=hown.free (j*4+2);
   have HG:=lH hgr;clear hgr
   have HO:=lH hown;clear hown
   have s0:=(HO.out.2).stored (j*4) (.int .i64 (k0+j*4))
   have s1:=(s0.1).stored (j*4+1) (.int .i64 (k0+j*4+1))
   have s2:=(s1.1).stored (j*4+2) (.int .i64 (k0+j*4+1+1))
   have HS:=lH s2.1;have HT:=lH (grownBy_trans (grownBy_trans s0.2 s1.2) s2.2);clear s0 s1 s2
   go_wp2_with fail
   refine gm (c_lmarkText (by omega)) ?_
   intro y
   have t:=own_later HS.out y
   have hlen:(mixed (mkTRecord k0) l j).length=n:=by rw[mixed_length (by omega)];exact hn
   have hc:=t.cellAt (n:=_) (j*4+3) (by rw[hlen];omega)
   have fL:=t.frozenAt (j*4+3)
   obtain⟨oL,gL⟩:∃ v,y.w.cell? ⟨g,j*4+3,none⟩=some v:=⟨_,hc.trans (List.getElem?_eq_getElem (by simp only[List.length_set];rw[flatMap_length HO.out.1,hlen];omega))⟩
   have HQ:=lH (t.stored (j*4+3) (.string (markTx (k0+j*4+1+1+1))))
   clear t hc g0 f0 g1 f1 g2 f2
   go_wp2_with fail
   go_roundw
   case rel =>
    refine⟨j+1,by go_num,by go_num,by omega,grownBy_trans HG.out (grownBy_trans (grownBy_trans HT.out (grownBy_laterR y _)) HQ.out.2),?_⟩
    rw[← mixed_set (by omega)]
    refine⟨HO.out.1,?_⟩
    rw[← fset4 HO.out.1 (y:=mkTRecord k0 j) rfl _ j (by rw[hlen];omega),List.length_set]
    exact HQ.out.1
   case measure=>simp[intOf];omega
  ·go_wp2_with fail
   go_ret
   obtain rfl:j=n:=by omega
   refine⟨rfl,hgr,?_⟩
   rw[← hn,mixed_all]at hown
   rw[← hn];exact hown
theorem c_lheldTRecordS{a:Option Addr}{n c:Nat}{k0:Int}{w:World}(hs:Sl encTRecord w a ((List.range n).map (mkTRecord k0)))(hm:n≤100000000)(h1:0≤k0)(h2:k0≤1000000000000) :
  Calls Tryz.prog 157 #[.slice a n c,.int .i64 k0] w (Gives w (.int .i64 (k0+n*4))):=by
 go_enter Tryz.func157,Tryz.ntmps157
 go_wp2_with fail
 go_loopw [1,5] (fun u v wr=>∃ j:Nat,v=.int .i64 j∧u=.int .i64 (k0+j*4)∧j≤n∧∃ x:Later w,wr=x.w) (fun _ v _=>(n - intOf v).toNat)
 case atStart=>exact⟨0,rfl,by simp,by omega,Later.of⟩
 case round =>
  obtain⟨j,rfl,rfl,hj,x0,rfl⟩:=hrel
  by_cases h:j<n
  ·obtain⟨b,off,s,rfl,hb,hd,e0,e1,e2,e3⟩:=hs.tRecord (k:=j) (by simpa using h)
   obtain rfl:s=mkTRecord k0 j:=by
    have:=congrArg (fun m=>m[0]?) hd.out
    simpa[h]using this.symm
   simp only[mkTRecord]at e0 e1 e2 e3
   clear hd
   have hx:((markTx (k0+j*4+1+1+1)).toList != (markTx (k0+j*4+1+1+1)).toList)=false:=by simp
   go_wp2_with (first|((with_reducible refine rl ?_);(repeat(first|go_big_quiet_step (first|(go_at_call 146;exact Gives.quiet (c_lmarkText (by omega))))|simp only[hx]));refine wpQuiet_nil ?_;intro x)|(go_at_call 146;refine gm (c_lmarkText (by omega)) ?_;intro x))
   go_roundw
   case rel=>exact⟨j+1,by go_num,by go_num,by omega,Later.of⟩
   case measure=>simp[intOf];omega
  ·go_wp2_with fail
   go_ret
   obtain rfl:j=n:=by omega
   exact Gives.mk rfl
