/- The contracts of marks in slices of flat elements. No condition but on sizes. -/
import Derived.Test.YtdijmbipcgalfaaGreatHOwnF
import Derived.Test.YtdijmbipcgalfaaGreatHMarkT
namespace Go.Proofs.YtdijmbipcgalfaaGreat
set_option linter.unusedVariables false
open Go.ChangeShapes Go.WideShapes Go.ChangeAt Go.RowKit
variable {k0:Int}{B c n:Nat}{a:Option Addr}{w:World}
theorem bX6{α:Type}{enc:α→List Value}(hsz:∀ x:α,(enc x).length=5){y:α}{v0 v1 v2 v3 v4:Value}(hy:enc y=[v0,v1,v2,v3,v4]):∀ (l:List α) (j:Nat),j<l.length→(((((l.flatMap enc).set (j*5) v0).set (j*5+1) v1).set (j*5+2) v2).set (j*5+3) v3).set (j*5+4) v4=(l.set j y).flatMap enc
 | [],j,h=>by simp at h
 | x::l,0,_=>by
  have hx:=hsz x
  match he:enc x,hx with
  | [u0,u1,u2,u3,u4],_=>simp[List.flatMap_cons,he,hy]
 | x::l,j+1,h=>by
  have ih:=bX6 hsz hy l j (by simpa using h)
  rw[List.flatMap_cons,List.set_cons_succ,List.flatMap_cons,← ih]
  have hx:=hsz x
  match he:enc x,hx with
  | [u0,u1,u2,u3,u4],_ =>
   rw[show(j+1)*5=j*5+5 from by omega];simp
theorem Own.put5{α:Type}{enc:α→List Value}{T B g:Nat}{w:World}{c:Nat}{l:List α}(h:Own enc T 5 B w (some ⟨g,0,none⟩) c l){j:Nat}(hj:j<l.length){y:α}{v0 v1 v2 v3 v4:Value}(hy:enc y=[v0,v1,v2,v3,v4]) :
  Own enc T 5 B ((((((w).setCell ⟨g,j*5,none⟩ v0).setCell ⟨g,j*5+1,none⟩ v1).setCell ⟨g,j*5+2,none⟩ v2).setCell ⟨g,j*5+3,none⟩ v3).setCell ⟨g,j*5+4,none⟩ v4) (some ⟨g,0,none⟩) c (l.set j y)∧w.grownBy ((((((w).setCell ⟨g,j*5,none⟩ v0).setCell ⟨g,j*5+1,none⟩ v1).setCell ⟨g,j*5+2,none⟩ v2).setCell ⟨g,j*5+3,none⟩ v3).setCell ⟨g,j*5+4,none⟩ v4) (some g):=by
 have s0:=(h.2).stored (j*5) v0
 have s1:=(s0.1).stored (j*5+1) v1
 have s2:=(s1.1).stored (j*5+2) v2
 have s3:=(s2.1).stored (j*5+3) v3
 have s4:=(s3.1).stored (j*5+4) v4
 refine⟨⟨h.1,?_⟩,(A9 (A9 (A9 (A9 s0.2 s1.2) s2.2) s3.2) s4.2)⟩
 rw[← bX6 h.1 hy l j hj,List.length_set]
 exact s4.1
theorem Sl.tFlight{w:World}{a:Option Addr}{l:List k5}(h:Sl D6 w a l){k:Nat}(hk:k<l.length) :
  ∃ b off s,a=some ⟨b,off,none⟩∧LtN b w.heap.size∧Hid (l.drop k=s::l.drop (k+1))∧(∀ (W:World) [b8 w W],W.cell? ⟨b,off+k*2,none⟩=some (I s.At))∧(∀ (W:World) [b8 w W],W.cell? ⟨b,off+k*2+1,none⟩=some (.string s.Data)):=by
 obtain⟨s,hs,hd⟩:=ag2 hk
 obtain⟨b,off,ha,hb,hc⟩:=h k s hs
 exact⟨b,off,s,ha,⟨hb⟩,hd,j4 hb (hc 0 _ rfl),j4 hb (hc 1 _ rfl)⟩
theorem Sl.tRecord{w:World}{a:Option Addr}{l:List s8}(h:Sl N3 w a l){k:Nat}(hk:k<l.length) :
  ∃ b off s,a=some ⟨b,off,none⟩∧LtN b w.heap.size∧Hid (l.drop k=s::l.drop (k+1))∧(∀ (W:World) [b8 w W],W.cell? ⟨b,off+k*4,none⟩=some (I s.Id))∧(∀ (W:World) [b8 w W],W.cell? ⟨b,off+k*4+1,none⟩=some (I s.Priority))∧(∀ (W:World) [b8 w W],W.cell? ⟨b,off+k*4+2,none⟩=some (I s.Time))∧(∀ (W:World) [b8 w W],W.cell? ⟨b,off+k*4+3,none⟩=some (.string s.Data)):=by
 obtain⟨s,hs,hd⟩:=ag2 hk
 obtain⟨b,off,ha,hb,hc⟩:=h k s hs
 exact⟨b,off,s,ha,⟨hb⟩,hd,j4 hb (hc 0 _ rfl),j4 hb (hc 1 _ rfl),j4 hb (hc 2 _ rfl),j4 hb (hc 3 _ rfl)⟩
theorem Sl.tWaiting{w:World}{a:Option Addr}{l:List D4}(h:Sl V4 w a l){k:Nat}(hk:k<l.length) :
  ∃ b off s,a=some ⟨b,off,none⟩∧LtN b w.heap.size∧Hid (l.drop k=s::l.drop (k+1))∧(∀ (W:World) [b8 w W],W.cell? ⟨b,off+k*5,none⟩=some (I s.Number))∧(∀ (W:World) [b8 w W],W.cell? ⟨b,off+k*5+1,none⟩=some (I s.Order.Kind))∧(∀ (W:World) [b8 w W],W.cell? ⟨b,off+k*5+2,none⟩=some (I s.Order.At))∧(∀ (W:World) [b8 w W],W.cell? ⟨b,off+k*5+3,none⟩=some (I s.Order.A))∧(∀ (W:World) [b8 w W],W.cell? ⟨b,off+k*5+4,none⟩=some (I s.Order.B)):=by
 obtain⟨s,hs,hd⟩:=ag2 hk
 obtain⟨b,off,ha,hb,hc⟩:=h k s hs
 exact⟨b,off,s,ha,⟨hb⟩,hd,j4 hb (hc 0 _ rfl),j4 hb (hc 1 _ rfl),j4 hb (hc 2 _ rfl),j4 hb (hc 3 _ rfl),j4 hb (hc 4 _ rfl)⟩
def ad1(k0:Int)(i:Nat):D4:=(⟨k0+i*5,k0+i*5+1,k0+i*5+1+1,k0+i*5+1+1+1,k0+i*5+1+1+1+1⟩:D4)
theorem aR2{l:List D4}(hown0:Own V4 318 5 B w a c l)(hn:l.length=n)(hm:n≤100000000)(h1:0≤k0)(h2:k0≤1000000000000) :
  Calls Tryz.prog 286 #[.slice a n c,I k0] w (ah6 V4 318 5 B w a n c ((List.range n).map (ad1 k0)) (k0+n*5)):=by
 go_enter Tryz.func286,Tryz.ntmps286
 go_wp2_with fail
 go_loopw [1,5] (fun u v wr=>∃ j:Nat,v=I j∧u=I (k0+j*5)∧j≤n∧w.grownBy wr (Value.ownBlock (.slice a n c))∧Own V4 318 5 B wr a c (ah8 (ad1 k0) l j)) (fun _ v _=>(n - intOf v).toNat)
 case atStart=>exact⟨0,rfl,by simp,by omega,V0 _ _,by rw[Z2];exact hown0⟩
 case round =>
  obtain⟨j,rfl,rfl,hj,hgr,hown⟩:=hrel
  by_cases h:j<n
  ·obtain⟨g,rfl,hB,hlt⟩:=hown.open (n:=n) (by rw[k7 om];omega)
   obtain⟨o0,g0⟩:=hown.cells (j:=j*5) (by rw[k7 om];omega);obtain⟨o1,g1⟩:=hown.cells (j:=j*5+1) (by rw[k7 om];omega);obtain⟨o2,g2⟩:=hown.cells (j:=j*5+2) (by rw[k7 om];omega);obtain⟨o3,g3⟩:=hown.cells (j:=j*5+3) (by rw[k7 om];omega);obtain⟨o4,g4⟩:=hown.cells (j:=j*5+4) (by rw[k7 om];omega);
   have f0:=hown.free (j*5);have f1:=hown.free (j*5+1);have f2:=hown.free (j*5+2);have f3:=hown.free (j*5+3);have f4:=hown.free (j*5+4);
   have HG:=lH hgr;clear hgr
   go_wp2_with fail
   go_roundw
   case rel =>
    have hp:=hown.put5 (j:=j) (y:=ad1 k0 j) (by rw[k7 om];omega) rfl
    exact⟨j+1,by go_num,by go_num,by omega,A9 HG.out hp.2,by rw[← ae5 om];exact hp.1⟩
   case measure=>simp[intOf];omega
  ·go_wp2_with fail
   go_ret
   obtain rfl:j=n:=by omega
   refine⟨rfl,hgr,?_⟩
   rw[← hn,ae4]at hown
   rw[← hn];exact hown
theorem aR1(hs:Sl V4 w a ((List.range n).map (ad1 k0)))(hm:n≤100000000)(h1:0≤k0)(h2:k0≤1000000000000) :
  Calls Tryz.prog 292 #[.slice a n c,I k0] w (b5 w (I (k0+n*5))):=by
 go_enter Tryz.func292,Tryz.ntmps292
 go_wp2_with fail
 go_loopw [1,5] (fun u v wr=>∃ j:Nat,v=I j∧u=I (k0+j*5)∧j≤n∧∃ x:b7 w,wr=x.w) (fun _ v _=>(n - intOf v).toNat)
 case atStart=>exact⟨0,rfl,by simp,by omega,b7.of⟩
 case round =>
  obtain⟨j,rfl,rfl,hj,x0,rfl⟩:=hrel
  by_cases h:j<n
  ·obtain⟨b,off,s,rfl,hb,hd,e0,e1,e2,e3,e4⟩:=hs.tWaiting (k:=j) (by simpa using h)
   obtain rfl:s=ad1 k0 j:=by
    have:=congrArg (fun m=>m[0]?) hd.out
    simpa[h]using this.symm
   simp only[ad1]at e0 e1 e2 e3 e4
   clear hd
   go_wp2_with fail
   go_roundw
   case rel=>exact⟨j+1,by go_num,by go_num,by omega,b7.of⟩
   case measure=>simp[intOf];omega
  ·go_wp2_with fail
   go_ret
   obtain rfl:j=n:=by omega
   exact b5.mk rfl
theorem Sl.tLimit{w:World}{a:Option Addr}{l:List V8}(h:Sl aa3 w a l){k:Nat}(hk:k<l.length) :
  ∃ b off s,a=some ⟨b,off,none⟩∧LtN b w.heap.size∧Hid (l.drop k=s::l.drop (k+1))∧(∀ (W:World) [b8 w W],W.cell? ⟨b,off+k*3,none⟩=some (I s.Param))∧(∀ (W:World) [b8 w W],W.cell? ⟨b,off+k*3+1,none⟩=some (I s.Low))∧(∀ (W:World) [b8 w W],W.cell? ⟨b,off+k*3+2,none⟩=some (I s.High)):=by
 obtain⟨s,hs,hd⟩:=ag2 hk
 obtain⟨b,off,ha,hb,hc⟩:=h k s hs
 exact⟨b,off,s,ha,⟨hb⟩,hd,j4 hb (hc 0 _ rfl),j4 hb (hc 1 _ rfl),j4 hb (hc 2 _ rfl)⟩
def al5(k0:Int)(i:Nat):V8:=(⟨k0+i*3,k0+i*3+1,k0+i*3+1+1⟩:V8)
theorem bb5{l:List V8}(hown0:Own aa3 313 3 B w a c l)(hn:l.length=n)(hm:n≤100000000)(h1:0≤k0)(h2:k0≤1000000000000) :
  Calls Tryz.prog 285 #[.slice a n c,I k0] w (ah6 aa3 313 3 B w a n c ((List.range n).map (al5 k0)) (k0+n*3)):=by
 go_enter Tryz.func285,Tryz.ntmps285
 go_wp2_with fail
 go_loopw [1,5] (fun u v wr=>∃ j:Nat,v=I j∧u=I (k0+j*3)∧j≤n∧w.grownBy wr (Value.ownBlock (.slice a n c))∧Own aa3 313 3 B wr a c (ah8 (al5 k0) l j)) (fun _ v _=>(n - intOf v).toNat)
 case atStart=>exact⟨0,rfl,by simp,by omega,V0 _ _,by rw[Z2];exact hown0⟩
 case round =>
  obtain⟨j,rfl,rfl,hj,hgr,hown⟩:=hrel
  by_cases h:j<n
  ·obtain⟨g,rfl,hB,hlt⟩:=hown.open (n:=n) (by rw[k7 om];omega)
   obtain⟨o0,g0⟩:=hown.cells (j:=j*3) (by rw[k7 om];omega);obtain⟨o1,g1⟩:=hown.cells (j:=j*3+1) (by rw[k7 om];omega);obtain⟨o2,g2⟩:=hown.cells (j:=j*3+2) (by rw[k7 om];omega);
   have f0:=hown.free (j*3);have f1:=hown.free (j*3+1);have f2:=hown.free (j*3+2);
   have HG:=lH hgr;clear hgr
   go_wp2_with fail
   go_roundw
   case rel =>
    have hp:=hown.put3 (j:=j) (y:=al5 k0 j) (by rw[k7 om];omega) rfl
    exact⟨j+1,by go_num,by go_num,by omega,A9 HG.out hp.2,by rw[← ae5 om];exact hp.1⟩
   case measure=>simp[intOf];omega
  ·go_wp2_with fail
   go_ret
   obtain rfl:j=n:=by omega
   refine⟨rfl,hgr,?_⟩
   rw[← hn,ae4]at hown
   rw[← hn];exact hown
theorem bb3(hs:Sl aa3 w a ((List.range n).map (al5 k0)))(hm:n≤100000000)(h1:0≤k0)(h2:k0≤1000000000000) :
  Calls Tryz.prog 291 #[.slice a n c,I k0] w (b5 w (I (k0+n*3))):=by
 go_enter Tryz.func291,Tryz.ntmps291
 go_wp2_with fail
 go_loopw [1,5] (fun u v wr=>∃ j:Nat,v=I j∧u=I (k0+j*3)∧j≤n∧∃ x:b7 w,wr=x.w) (fun _ v _=>(n - intOf v).toNat)
 case atStart=>exact⟨0,rfl,by simp,by omega,b7.of⟩
 case round =>
  obtain⟨j,rfl,rfl,hj,x0,rfl⟩:=hrel
  by_cases h:j<n
  ·obtain⟨b,off,s,rfl,hb,hd,e0,e1,e2⟩:=hs.tLimit (k:=j) (by simpa using h)
   obtain rfl:s=al5 k0 j:=by
    have:=congrArg (fun m=>m[0]?) hd.out
    simpa[h]using this.symm
   simp only[al5]at e0 e1 e2
   clear hd
   go_wp2_with fail
   go_roundw
   case rel=>exact⟨j+1,by go_num,by go_num,by omega,b7.of⟩
   case measure=>simp[intOf];omega
  ·go_wp2_with fail
   go_ret
   obtain rfl:j=n:=by omega
   exact b5.mk rfl
theorem Sl.tDone{w:World}{a:Option Addr}{l:List ad2}(h:Sl ah0 w a l){k:Nat}(hk:k<l.length) :
  ∃ b off s,a=some ⟨b,off,none⟩∧LtN b w.heap.size∧Hid (l.drop k=s::l.drop (k+1))∧(∀ (W:World) [b8 w W],W.cell? ⟨b,off+k*3,none⟩=some (I s.Number))∧(∀ (W:World) [b8 w W],W.cell? ⟨b,off+k*3+1,none⟩=some (I s.Time))∧(∀ (W:World) [b8 w W],W.cell? ⟨b,off+k*3+2,none⟩=some (I s.Result)):=by
 obtain⟨s,hs,hd⟩:=ag2 hk
 obtain⟨b,off,ha,hb,hc⟩:=h k s hs
 exact⟨b,off,s,ha,⟨hb⟩,hd,j4 hb (hc 0 _ rfl),j4 hb (hc 1 _ rfl),j4 hb (hc 2 _ rfl)⟩
def ar1(k0:Int)(i:Nat):ad2:=(⟨k0+i*3,k0+i*3+1,k0+i*3+1+1⟩:ad2)
theorem bg6{l:List ad2}(hown0:Own ah0 321 3 B w a c l)(hn:l.length=n)(hm:n≤100000000)(h1:0≤k0)(h2:k0≤1000000000000) :
  Calls Tryz.prog 287 #[.slice a n c,I k0] w (ah6 ah0 321 3 B w a n c ((List.range n).map (ar1 k0)) (k0+n*3)):=by
 go_enter Tryz.func287,Tryz.ntmps287
 go_wp2_with fail
 go_loopw [1,5] (fun u v wr=>∃ j:Nat,v=I j∧u=I (k0+j*3)∧j≤n∧w.grownBy wr (Value.ownBlock (.slice a n c))∧Own ah0 321 3 B wr a c (ah8 (ar1 k0) l j)) (fun _ v _=>(n - intOf v).toNat)
 case atStart=>exact⟨0,rfl,by simp,by omega,V0 _ _,by rw[Z2];exact hown0⟩
 case round =>
  obtain⟨j,rfl,rfl,hj,hgr,hown⟩:=hrel
  by_cases h:j<n
  ·obtain⟨g,rfl,hB,hlt⟩:=hown.open (n:=n) (by rw[k7 om];omega)
   obtain⟨o0,g0⟩:=hown.cells (j:=j*3) (by rw[k7 om];omega);obtain⟨o1,g1⟩:=hown.cells (j:=j*3+1) (by rw[k7 om];omega);obtain⟨o2,g2⟩:=hown.cells (j:=j*3+2) (by rw[k7 om];omega);
   have f0:=hown.free (j*3);have f1:=hown.free (j*3+1);have f2:=hown.free (j*3+2);
   have HG:=lH hgr;clear hgr
   go_wp2_with fail
   go_roundw
   case rel =>
    have hp:=hown.put3 (j:=j) (y:=ar1 k0 j) (by rw[k7 om];omega) rfl
    exact⟨j+1,by go_num,by go_num,by omega,A9 HG.out hp.2,by rw[← ae5 om];exact hp.1⟩
   case measure=>simp[intOf];omega
  ·go_wp2_with fail
   go_ret
   obtain rfl:j=n:=by omega
   refine⟨rfl,hgr,?_⟩
   rw[← hn,ae4]at hown
   rw[← hn];exact hown
theorem bg4(hs:Sl ah0 w a ((List.range n).map (ar1 k0)))(hm:n≤100000000)(h1:0≤k0)(h2:k0≤1000000000000) :
  Calls Tryz.prog 293 #[.slice a n c,I k0] w (b5 w (I (k0+n*3))):=by
 go_enter Tryz.func293,Tryz.ntmps293
 go_wp2_with fail
 go_loopw [1,5] (fun u v wr=>∃ j:Nat,v=I j∧u=I (k0+j*3)∧j≤n∧∃ x:b7 w,wr=x.w) (fun _ v _=>(n - intOf v).toNat)
 case atStart=>exact⟨0,rfl,by simp,by omega,b7.of⟩
 case round =>
  obtain⟨j,rfl,rfl,hj,x0,rfl⟩:=hrel
  by_cases h:j<n
  ·obtain⟨b,off,s,rfl,hb,hd,e0,e1,e2⟩:=hs.tDone (k:=j) (by simpa using h)
   obtain rfl:s=ar1 k0 j:=by
    have:=congrArg (fun m=>m[0]?) hd.out
    simpa[h]using this.symm
   simp only[ar1]at e0 e1 e2
   clear hd
   go_wp2_with fail
   go_roundw
   case rel=>exact⟨j+1,by go_num,by go_num,by omega,b7.of⟩
   case measure=>simp[intOf];omega
  ·go_wp2_with fail
   go_ret
   obtain rfl:j=n:=by omega
   exact b5.mk rfl
theorem Sl.tSent{w:World}{a:Option Addr}{l:List V9}(h:Sl R6 w a l){k:Nat}(hk:k<l.length) :
  ∃ b off s,a=some ⟨b,off,none⟩∧LtN b w.heap.size∧Hid (l.drop k=s::l.drop (k+1))∧(∀ (W:World) [b8 w W],W.cell? ⟨b,off+k*2,none⟩=some (I s.Seq))∧(∀ (W:World) [b8 w W],W.cell? ⟨b,off+k*2+1,none⟩=some (.string s.Data)):=by
 obtain⟨s,hs,hd⟩:=ag2 hk
 obtain⟨b,off,ha,hb,hc⟩:=h k s hs
 exact⟨b,off,s,ha,⟨hb⟩,hd,j4 hb (hc 0 _ rfl),j4 hb (hc 1 _ rfl)⟩
def ae6(k0:Int)(i:Nat):k5:=⟨k0+i*2,N1 (k0+i*2+1)⟩
theorem aX4{l:List k5}(hown0:Own D6 129 2 B w a c l)(hn:l.length=n)(hm:n≤100000000)(h1:0≤k0)(h2:k0≤1000000000000) :
  Calls Tryz.prog 52 #[.slice a n c,I k0] w (ah6 D6 129 2 B w a n c ((List.range n).map (ae6 k0)) (k0+n*2)):=by
 go_enter Tryz.func52,Tryz.ntmps52
 go_wp2_with fail
 go_loopw [1,5] (fun u v wr=>∃ j:Nat,v=I j∧u=I (k0+j*2)∧j≤n∧w.grownBy wr (Value.ownBlock (.slice a n c))∧Own D6 129 2 B wr a c (ah8 (ae6 k0) l j)) (fun _ v _=>(n - intOf v).toNat)
 case atStart=>exact⟨0,rfl,by simp,by omega,V0 _ _,by rw[Z2];exact hown0⟩
 case round =>
  obtain⟨j,rfl,rfl,hj,hgr,hown⟩:=hrel
  by_cases h:j<n
  ·obtain⟨g,rfl,hB,hlt⟩:=hown.open (n:=n) (by rw[k7 om];omega)
   obtain⟨o0,g0⟩:=hown.cells (j:=j*2) (by rw[k7 om];omega);
   have f0:=hown.free (j*2);
   have HG:=lH hgr;clear hgr
   have HO:=lH hown;clear hown
   have s0:=(HO.out.2).stored (j*2) (I (k0+j*2))
   have HS:=lH s0.1;have HT:=lH s0.2;clear s0
   go_wp2_with fail
   refine gm (L5 om) ?_
   intro y
   have t:=aG8 HS.out y
   have hlen:(ah8 (ae6 k0) l j).length=n:=by rw[k7 om];exact hn
   have hc:=t.cellAt (n:=_) (j*2+1) (by rw[hlen];omega)
   have fL:=t.frozenAt (j*2+1)
   obtain⟨oL,gL⟩:∃ v,y.w.cell? ⟨g,j*2+1,none⟩=some v:=⟨_,hc.trans (List.getElem?_eq_getElem (by simp only[List.length_set];rw[N4 HO.out.1,hlen];omega))⟩
   have HQ:=lH (t.stored (j*2+1) (.string (N1 (k0+j*2+1))))
   clear t hc g0 f0
   go_wp2_with fail
   go_roundw
   case rel =>
    refine⟨j+1,by go_num,by go_num,by omega,A9 HG.out (A9 (A9 HT.out (ao2 y _)) HQ.out.2),?_⟩
    rw[← ae5 om]
    refine⟨HO.out.1,?_⟩
    rw[← bL9 HO.out.1 (y:=ae6 k0 j) rfl _ j (by rw[hlen];omega),List.length_set]
    exact HQ.out.1
   case measure=>simp[intOf];omega
  ·go_wp2_with fail
   go_ret
   obtain rfl:j=n:=by omega
   refine⟨rfl,hgr,?_⟩
   rw[← hn,ae4]at hown
   rw[← hn];exact hown
theorem aX2(hs:Sl D6 w a ((List.range n).map (ae6 k0)))(hm:n≤100000000)(h1:0≤k0)(h2:k0≤1000000000000) :
  Calls Tryz.prog 57 #[.slice a n c,I k0] w (b5 w (I (k0+n*2))):=by
 go_enter Tryz.func57,Tryz.ntmps57
 go_wp2_with fail
 go_loopw [1,5] (fun u v wr=>∃ j:Nat,v=I j∧u=I (k0+j*2)∧j≤n∧∃ x:b7 w,wr=x.w) (fun _ v _=>(n - intOf v).toNat)
 case atStart=>exact⟨0,rfl,by simp,by omega,b7.of⟩
 case round =>
  obtain⟨j,rfl,rfl,hj,x0,rfl⟩:=hrel
  by_cases h:j<n
  ·obtain⟨b,off,s,rfl,hb,hd,e0,e1⟩:=hs.tFlight (k:=j) (by simpa using h)
   obtain rfl:s=ae6 k0 j:=by
    have:=congrArg (fun m=>m[0]?) hd.out
    simpa[h]using this.symm
   simp only[ae6]at e0 e1
   clear hd
   have hx:((N1 (k0+j*2+1)).toList != (N1 (k0+j*2+1)).toList)=false:=by simp
   go_wp2_with (first|((with_reducible refine rl ?_);(repeat(first|go_big_quiet_step (first|(go_at_call 179;exact b5.quiet (L5 om)))|simp only[hx]));refine wpQuiet_nil ?_;intro x)|(go_at_call 179;refine gm (L5 om) ?_;intro x))
   go_roundw
   case rel=>exact⟨j+1,by go_num,by go_num,by omega,b7.of⟩
   case measure=>simp[intOf];omega
  ·go_wp2_with fail
   go_ret
   obtain rfl:j=n:=by omega
   exact b5.mk rfl
def ao5(k0:Int)(i:Nat):V9:=⟨k0+i*2,N1 (k0+i*2+1)⟩
theorem bg7{l:List V9}(hown0:Own R6 294 2 B w a c l)(hn:l.length=n)(hm:n≤100000000)(h1:0≤k0)(h2:k0≤1000000000000) :
  Calls Tryz.prog 283 #[.slice a n c,I k0] w (ah6 R6 294 2 B w a n c ((List.range n).map (ao5 k0)) (k0+n*2)):=by
 go_enter Tryz.func283,Tryz.ntmps283
 go_wp2_with fail
 go_loopw [1,5] (fun u v wr=>∃ j:Nat,v=I j∧u=I (k0+j*2)∧j≤n∧w.grownBy wr (Value.ownBlock (.slice a n c))∧Own R6 294 2 B wr a c (ah8 (ao5 k0) l j)) (fun _ v _=>(n - intOf v).toNat)
 case atStart=>exact⟨0,rfl,by simp,by omega,V0 _ _,by rw[Z2];exact hown0⟩
 case round =>
  obtain⟨j,rfl,rfl,hj,hgr,hown⟩:=hrel
  by_cases h:j<n
  ·obtain⟨g,rfl,hB,hlt⟩:=hown.open (n:=n) (by rw[k7 om];omega)
   obtain⟨o0,g0⟩:=hown.cells (j:=j*2) (by rw[k7 om];omega);
   have f0:=hown.free (j*2);
   have HG:=lH hgr;clear hgr
   have HO:=lH hown;clear hown
   have s0:=(HO.out.2).stored (j*2) (I (k0+j*2))
   have HS:=lH s0.1;have HT:=lH s0.2;clear s0
   go_wp2_with fail
   refine gm (L5 om) ?_
   intro y
   have t:=aG8 HS.out y
   have hlen:(ah8 (ao5 k0) l j).length=n:=by rw[k7 om];exact hn
   have hc:=t.cellAt (n:=_) (j*2+1) (by rw[hlen];omega)
   have fL:=t.frozenAt (j*2+1)
   obtain⟨oL,gL⟩:∃ v,y.w.cell? ⟨g,j*2+1,none⟩=some v:=⟨_,hc.trans (List.getElem?_eq_getElem (by simp only[List.length_set];rw[N4 HO.out.1,hlen];omega))⟩
   have HQ:=lH (t.stored (j*2+1) (.string (N1 (k0+j*2+1))))
   clear t hc g0 f0
   go_wp2_with fail
   go_roundw
   case rel =>
    refine⟨j+1,by go_num,by go_num,by omega,A9 HG.out (A9 (A9 HT.out (ao2 y _)) HQ.out.2),?_⟩
    rw[← ae5 om]
    refine⟨HO.out.1,?_⟩
    rw[← bL9 HO.out.1 (y:=ao5 k0 j) rfl _ j (by rw[hlen];omega),List.length_set]
    exact HQ.out.1
   case measure=>simp[intOf];omega
  ·go_wp2_with fail
   go_ret
   obtain rfl:j=n:=by omega
   refine⟨rfl,hgr,?_⟩
   rw[← hn,ae4]at hown
   rw[← hn];exact hown
theorem bg5(hs:Sl R6 w a ((List.range n).map (ao5 k0)))(hm:n≤100000000)(h1:0≤k0)(h2:k0≤1000000000000) :
  Calls Tryz.prog 289 #[.slice a n c,I k0] w (b5 w (I (k0+n*2))):=by
 go_enter Tryz.func289,Tryz.ntmps289
 go_wp2_with fail
 go_loopw [1,5] (fun u v wr=>∃ j:Nat,v=I j∧u=I (k0+j*2)∧j≤n∧∃ x:b7 w,wr=x.w) (fun _ v _=>(n - intOf v).toNat)
 case atStart=>exact⟨0,rfl,by simp,by omega,b7.of⟩
 case round =>
  obtain⟨j,rfl,rfl,hj,x0,rfl⟩:=hrel
  by_cases h:j<n
  ·obtain⟨b,off,s,rfl,hb,hd,e0,e1⟩:=hs.tSent (k:=j) (by simpa using h)
   obtain rfl:s=ao5 k0 j:=by
    have:=congrArg (fun m=>m[0]?) hd.out
    simpa[h]using this.symm
   simp only[ao5]at e0 e1
   clear hd
   have hx:((N1 (k0+j*2+1)).toList != (N1 (k0+j*2+1)).toList)=false:=by simp
   go_wp2_with (first|((with_reducible refine rl ?_);(repeat(first|go_big_quiet_step (first|(go_at_call 179;exact b5.quiet (L5 om)))|simp only[hx]));refine wpQuiet_nil ?_;intro x)|(go_at_call 179;refine gm (L5 om) ?_;intro x))
   go_roundw
   case rel=>exact⟨j+1,by go_num,by go_num,by omega,b7.of⟩
   case measure=>simp[intOf];omega
  ·go_wp2_with fail
   go_ret
   obtain rfl:j=n:=by omega
   exact b5.mk rfl
def ae7(k0:Int)(i:Nat):s8:=⟨k0+i*4,k0+i*4+1,k0+i*4+1+1,N1 (k0+i*4+1+1+1)⟩
theorem aX5{l:List s8}(hown0:Own N3 151 4 B w a c l)(hn:l.length=n)(hm:n≤100000000)(h1:0≤k0)(h2:k0≤1000000000000) :
  Calls Tryz.prog 182 #[.slice a n c,I k0] w (ah6 N3 151 4 B w a n c ((List.range n).map (ae7 k0)) (k0+n*4)):=by
 go_enter Tryz.func182,Tryz.ntmps182
 go_wp2_with fail
 go_loopw [1,5] (fun u v wr=>∃ j:Nat,v=I j∧u=I (k0+j*4)∧j≤n∧w.grownBy wr (Value.ownBlock (.slice a n c))∧Own N3 151 4 B wr a c (ah8 (ae7 k0) l j)) (fun _ v _=>(n - intOf v).toNat)
 case atStart=>exact⟨0,rfl,by simp,by omega,V0 _ _,by rw[Z2];exact hown0⟩
 case round =>
  obtain⟨j,rfl,rfl,hj,hgr,hown⟩:=hrel
  by_cases h:j<n
  ·obtain⟨g,rfl,hB,hlt⟩:=hown.open (n:=n) (by rw[k7 om];omega)
   obtain⟨o0,g0⟩:=hown.cells (j:=j*4) (by rw[k7 om];omega);obtain⟨o1,g1⟩:=hown.cells (j:=j*4+1) (by rw[k7 om];omega);obtain⟨o2,g2⟩:=hown.cells (j:=j*4+2) (by rw[k7 om];omega);
   have f0:=hown.free (j*4);have f1:=hown.free (j*4+1);have f2:=hown.free (j*4+2);
   have HG:=lH hgr;clear hgr
   have HO:=lH hown;clear hown
   have s0:=(HO.out.2).stored (j*4) (I (k0+j*4))
   have s1:=(s0.1).stored (j*4+1) (I (k0+j*4+1))
   have s2:=(s1.1).stored (j*4+2) (I (k0+j*4+1+1))
   have HS:=lH s2.1;have HT:=lH (A9 (A9 s0.2 s1.2) s2.2);clear s0 s1 s2
   go_wp2_with fail
   refine gm (L5 om) ?_
   intro y
   have t:=aG8 HS.out y
   have hlen:(ah8 (ae7 k0) l j).length=n:=by rw[k7 om];exact hn
   have hc:=t.cellAt (n:=_) (j*4+3) (by rw[hlen];omega)
   have fL:=t.frozenAt (j*4+3)
   obtain⟨oL,gL⟩:∃ v,y.w.cell? ⟨g,j*4+3,none⟩=some v:=⟨_,hc.trans (List.getElem?_eq_getElem (by simp only[List.length_set];rw[N4 HO.out.1,hlen];omega))⟩
   have HQ:=lH (t.stored (j*4+3) (.string (N1 (k0+j*4+1+1+1))))
   clear t hc g0 f0 g1 f1 g2 f2
   go_wp2_with fail
   go_roundw
   case rel =>
    refine⟨j+1,by go_num,by go_num,by omega,A9 HG.out (A9 (A9 HT.out (ao2 y _)) HQ.out.2),?_⟩
    rw[← ae5 om]
    refine⟨HO.out.1,?_⟩
    rw[← bM0 HO.out.1 (y:=ae7 k0 j) rfl _ j (by rw[hlen];omega),List.length_set]
    exact HQ.out.1
   case measure=>simp[intOf];omega
  ·go_wp2_with fail
   go_ret
   obtain rfl:j=n:=by omega
   refine⟨rfl,hgr,?_⟩
   rw[← hn,ae4]at hown
   rw[← hn];exact hown
theorem aX3(hs:Sl N3 w a ((List.range n).map (ae7 k0)))(hm:n≤100000000)(h1:0≤k0)(h2:k0≤1000000000000) :
  Calls Tryz.prog 190 #[.slice a n c,I k0] w (b5 w (I (k0+n*4))):=by
 go_enter Tryz.func190,Tryz.ntmps190
 go_wp2_with fail
 go_loopw [1,5] (fun u v wr=>∃ j:Nat,v=I j∧u=I (k0+j*4)∧j≤n∧∃ x:b7 w,wr=x.w) (fun _ v _=>(n - intOf v).toNat)
 case atStart=>exact⟨0,rfl,by simp,by omega,b7.of⟩
 case round =>
  obtain⟨j,rfl,rfl,hj,x0,rfl⟩:=hrel
  by_cases h:j<n
  ·obtain⟨b,off,s,rfl,hb,hd,e0,e1,e2,e3⟩:=hs.tRecord (k:=j) (by simpa using h)
   obtain rfl:s=ae7 k0 j:=by
    have:=congrArg (fun m=>m[0]?) hd.out
    simpa[h]using this.symm
   simp only[ae7]at e0 e1 e2 e3
   clear hd
   have hx:((N1 (k0+j*4+1+1+1)).toList != (N1 (k0+j*4+1+1+1)).toList)=false:=by simp
   go_wp2_with (first|((with_reducible refine rl ?_);(repeat(first|go_big_quiet_step (first|(go_at_call 179;exact b5.quiet (L5 om)))|simp only[hx]));refine wpQuiet_nil ?_;intro x)|(go_at_call 179;refine gm (L5 om) ?_;intro x))
   go_roundw
   case rel=>exact⟨j+1,by go_num,by go_num,by omega,b7.of⟩
   case measure=>simp[intOf];omega
  ·go_wp2_with fail
   go_ret
   obtain rfl:j=n:=by omega
   exact b5.mk rfl
