/- The contracts of marks in slices of files, and of what is held. No condition but on lengths and numbers. -/
import Derived.Test.YtbaffippdifbpaaGreatWM31
namespace Go.Proofs.YtbaffippdifbpaaGreat
set_option linter.unusedVariables false
open Go.ChangeShapes Go.WideShapes Go.ChangeAt Go.RowKit
def GivesMkN{α β:Type}[N:Nest α β][F:Flat β](f:α→Int→α)(g:α→Int→Int)(B:Nat)(χ:Nat→Col)(o:Nat)(w:World)(a:Option Addr)(c:Nat)(l:List α)(k:Int):Ending→World→Prop:=fun e w' =>
 ∃ rows:List (NRow α),e=.returned (.int .i64 (mnN g l k))∧rows.map (·.x)=mkN f g l k∧OwnN B χ o w' a c rows∧Fr B χ (fun i=>i.1=o) w w'
theorem flatMap_same{γ:Type}{f:γ→List Value}{y:γ}:∀ (l:List γ) (j:Nat) (x:γ),l[j]?=some x→f y=f x→(l.set j y).flatMap f=l.flatMap f
 | [],_,_,h,_=>by simp at h
 | z::l,0,x,h,e=>by
  simp only[List.getElem?_cons_zero,Option.some.injEq]at h
  subst h
  simp only[List.set_cons_zero,List.flatMap_cons,e]
 | z::l,j+1,x,h,e=>by
  simp only[List.set_cons_succ,List.flatMap_cons]
  rw[flatMap_same l j x (by simpa using h) e]
theorem OwnN.within{α β:Type}[N:Nest α β][F:Flat β]{B o g c j:Nat}{χ:Nat→Col}{w w4:World}{rows:List (NRow α)}{r:NRow α}{x:α}(h:OwnN B χ o w (some ⟨g,0,none⟩) c rows)(hr:rows[j]?=some r)(henc:N.cells x r.a r.c=N.cells r.x r.a r.c)(hgd:N.good x)(hi:OwnC B χ (o,j+1) w4 r.a r.c (N.inner x))(F4:Fr B χ (·=(o,j+1)) w w4):OwnN B χ o w4 (some ⟨g,0,none⟩) c (rows.set j ⟨x,r.a,r.c⟩):=by
 refine h.row hr ⟨h.own.1,?_⟩ (Fr.refl _ _ _ _) hgd hi F4
 rw[List.length_set,flatMap_same (f:=encN) (y:=(⟨x,r.a,r.c⟩:NRow α)) rows j r hr (show encN (⟨x,r.a,r.c⟩:NRow α)=encN r from henc)]
 exact h.own.2
theorem mkN_get{α:Type}(f:α→Int→α)(g:α→Int→Int):∀ (l:List α) (k:Int) (j:Nat),(mkN f g l k)[j]?=(l[j]?).map (fun x=>f x (mnN g (l.take j) k))
 | [],_,_=>by simp[mkN]
 | x::r,k,0=>by simp[mkN,mnN]
 | x::r,k,j+1=>by simp[mkN,mnN,mkN_get f g r (g x k) j]
theorem mnN_take{α:Type}(g:α→Int→Int)(l:List α)(k:Int){j:Nat}{x:α}(h:l[j]?=some x):mnN g (l.take (j+1)) k=g x (mnN g (l.take j) k):=by
 rw[List.take_add_one,h]
 exact mnN_snoc g x _ k
theorem totL_take{α:Type}[Enc α](l:List α)(j:Nat):totL (l.take j)≤totL l:=by
 have h:=totL_app (l.take j) (l.drop j)
 rw[List.take_append_drop]at h
 have:=totL_nonneg (l.drop j)
 omega
set_option maxHeartbeats 2000000 in
theorem o_lmarkFileInS{B o:Nat}{χ:Nat→Col}{a:Option Addr}{c:Nat}{k0:Int}{rows0:List (NRow TFileIn)}{w:World}(h0:OwnN B χ o w a c rows0)(ht:totL (rows0.map (·.x))≤100000000)(h1:0≤k0)(h2:k0≤500000000000) :
  Calls Tryz.prog 174 #[.slice a rows0.length c,.int .i64 k0] w (GivesMkN mk1FileIn mn1FileIn B χ o w a c (rows0.map (·.x)) k0):=by
 obtain⟨n,hn⟩:∃ n,rows0.length=n:=⟨_,rfl⟩
 have hln:=totL_len (rows0.map (·.x))
 have hm:n≤100000000:=by simp at hln;omega
 have HN:=lH hn
 have HT:=lH ht
 have HK:=lH (show ∀ (p:List TFileIn),totL p≤100000000→k0≤mnN mn1FileIn p k0∧mnN mn1FileIn p k0≤600000000000 from fun p hp=>by have:=mnN_le mn1FileIn mn1FileIn_le p k0;omega)
 clear ht hln
 rw[hn];clear hn
 go_enter Tryz.func174,Tryz.ntmps174
 go_wp2_with fail
 go_loopw [1,5] (fun u v wr=>∃ (j:Nat) (p p0 q:List (NRow TFileIn)) (kj:Int),v=.int .i64 j∧u=.int .i64 kj∧j≤n∧Hid (rows0=p0++q)∧Hid (p.length=j∧p0.length=j)∧Hid (p.map (fun r=>r.x)=mkN mk1FileIn mn1FileIn (p0.map (fun r=>r.x)) k0)∧Hid (kj=mnN mn1FileIn (p0.map (fun r=>r.x)) k0)∧Hid (OwnN B χ o wr a c (p++q))∧Hid (Fr B χ (fun i=>i.1=o) w wr)) (fun _ v _=>(n - intOf v).toNat)
 case atStart=>exact⟨0,[],[],rows0,k0,rfl,rfl,by omega,rfl,⟨rfl,rfl⟩,rfl,rfl,h0,Fr.refl _ _ _ _⟩
 case round =>
  obtain⟨j,p,p0,q,kj,rfl,rfl,hj,hR,hL,hP,hK,hO,hF⟩:=hrel
  by_cases h:j<n
  ·obtain⟨r,q',rfl⟩:∃ r q',q=r::q':=by
    cases q with
    | nil=>have h8:=congrArg List.length hR.out;have h9:=HN.out;have h7:=hL.out.2;simp at h8;omega
    | cons r q'=>exact⟨r,q',rfl⟩
   have hr:=get_mid p q' r j hL.out.1
   have hE:=hO.out.each j r hr
   obtain⟨g,rfl,hg1,hg2⟩:=hO.out.own.open (n:=0) (by simp;omega)
   have hlen:(p++r::q').length=n:=by
    have h8:=congrArg List.length hR.out;have h9:=HN.out;have h7:=hL.out;simp at h8 ⊢;omega
   obtain⟨o0,g0⟩:=hO.out.own.cells (j:=j*4) (show j*4<(p++r::q').length*4 by rw[hlen];omega)
   obtain⟨o1,g1⟩:=hO.out.own.cells (j:=j*4+1) (show j*4+1<(p++r::q').length*4 by rw[hlen];omega)
   obtain⟨o2,g2⟩:=hO.out.own.cells (j:=j*4+2) (show j*4+2<(p++r::q').length*4 by rw[hlen];omega)
   have f0:=hO.out.own.free (j*4);have f1:=hO.out.own.free (j*4+1);have f2:=hO.out.own.free (j*4+2)
   have hkb:=HK.out (p0.map (fun r=>r.x)) (by have:=HT.out;rw[hR.out,List.map_append,totL_app]at this;have:=totL_nonneg ((r::q').map (fun r=>r.x));omega)
   rw[← hK.out]at hkb
   have hpt:r.x.Parts.length≤100000000:=by
    have h8:=HT.out;rw[hR.out,List.map_append,totL_app]at h8
    have h9:=totL_nonneg (p0.map (fun r=>r.x))
    have h7:=totL_mem (l:=(r::q').map (fun r=>r.x)) (x:=r.x) (by simp)
    have h6:=totL_len r.x.Parts
    have h5:Enc.tot r.x=totL r.x.Parts:=rfl
    omega
   have P3:=hO.out.own.put3of4 hr (y:=⟨mk1FileIn r.x kj,r.a,r.c⟩) (v0:=.int .i64 kj) (v1:=.int .i64 (kj+1)) (v2:=.int .i64 (kj+1+1)) rfl (by show[_,_,_,Value.slice r.a (mkL r.x.Parts (kj+1+1+1)).length r.c]=_;rw[mkL_length];rfl)
   have H3:=lH P3.1;have F3:=lH (hO.out.wrote P3.2.1);have C3:=P3.2.2;clear P3
   have HI:=lH (hE.2.fr F3.out (by simp));have HGd:=lH hE.1;clear hE
   have HR:=lH hr;clear hr
   go_wp2_with fail
   refine(o_lmarkStringS HI.out hpt (by omega) (by omega)).mono ?_
   rintro _ w4 ⟨rfl,hi,F4⟩
   have HI4:=lH hi;have HF4:=lH F4;clear hi F4
   go_wp2_with fail
   go_roundw
   case rel =>
    refine⟨j+1,p++[⟨mk1FileIn r.x kj,r.a,r.c⟩],p0++[r],q',mn1FileIn r.x kj,by go_num,rfl,by omega,?_,⟨by simp[hL.out.1],by simp[hL.out.2]⟩,?_,?_,?_,?_⟩
    ·show rows0=_
     rw[hR.out];simp
    ·show List.map _ _=_
     rw[List.map_append,List.map_append]
     show _++[mk1FileIn r.x kj]=mkN _ _ (_++[r.x]) _
     rw[mkN_snoc,hP.out,← hK.out]
    ·show mn1FileIn r.x kj=mnN _ (List.map _ (p0++[r])) _
     rw[List.map_append]
     show _=mnN _ (_++[r.x]) _
     rw[mnN_snoc,← hK.out]
    ·have:=hO.out.row HR.out H3.out F3.out (by show okDTFileIn _;refine⟨?_,?_,?_,trivial⟩<;>(unfold i64 mk1FileIn;dsimp only;omega)) HI4.out HF4.out
     rw[set_mid p q' r _ j hL.out.1]at this
     exact this
    ·exact(hF.out.trans (F3.out.wide (fun i e=>by rw[e]))).trans (HF4.out.wide (fun i e=>by rw[e]))
   case measure=>simp[intOf];omega
  ·have hjn:j=n:=by omega
   have hq:q=[]:=by
    have h8:=congrArg List.length hR.out;have h9:=HN.out;have h7:=hL.out.2;simp at h8
    exact List.length_eq_zero_iff.1 (by omega)
   have HQ:=lH hq;clear hq hjn
   go_wp2_with fail
   go_ret
   have hR2:=hR.out;have hO2:=hO.out
   rw[HQ.out,List.append_nil]at hR2 hO2
   exact⟨p,by rw[hK.out,hR2];rfl,by rw[hP.out,hR2],hO2,hF.out⟩
set_option maxHeartbeats 2000000 in
theorem o_lmarkFileOutS{B o:Nat}{χ:Nat→Col}{a:Option Addr}{c:Nat}{k0:Int}{rows0:List (NRow TFileOut)}{w:World}(h0:OwnN B χ o w a c rows0)(ht:totL (rows0.map (·.x))≤100000000)(h1:0≤k0)(h2:k0≤500000000000) :
  Calls Tryz.prog 178 #[.slice a rows0.length c,.int .i64 k0] w (GivesMkN mk1FileOut mn1FileOut B χ o w a c (rows0.map (·.x)) k0):=by
 obtain⟨n,hn⟩:∃ n,rows0.length=n:=⟨_,rfl⟩
 have hln:=totL_len (rows0.map (·.x))
 have hm:n≤100000000:=by simp at hln;omega
 have HN:=lH hn
 have HT:=lH ht
 have HK:=lH (show ∀ (p:List TFileOut),totL p≤100000000→k0≤mnN mn1FileOut p k0∧mnN mn1FileOut p k0≤600000000000 from fun p hp=>by have:=mnN_le mn1FileOut mn1FileOut_le p k0;omega)
 clear ht hln
 rw[hn];clear hn
 go_enter Tryz.func178,Tryz.ntmps178
 go_wp2_with fail
 go_loopw [1,5] (fun u v wr=>∃ (j:Nat) (p p0 q:List (NRow TFileOut)) (kj:Int),v=.int .i64 j∧u=.int .i64 kj∧j≤n∧Hid (rows0=p0++q)∧Hid (p.length=j∧p0.length=j)∧Hid (p.map (fun r=>r.x)=mkN mk1FileOut mn1FileOut (p0.map (fun r=>r.x)) k0)∧Hid (kj=mnN mn1FileOut (p0.map (fun r=>r.x)) k0)∧Hid (OwnN B χ o wr a c (p++q))∧Hid (Fr B χ (fun i=>i.1=o) w wr)) (fun _ v _=>(n - intOf v).toNat)
 case atStart=>exact⟨0,[],[],rows0,k0,rfl,rfl,by omega,rfl,⟨rfl,rfl⟩,rfl,rfl,h0,Fr.refl _ _ _ _⟩
 case round =>
  obtain⟨j,p,p0,q,kj,rfl,rfl,hj,hR,hL,hP,hK,hO,hF⟩:=hrel
  by_cases h:j<n
  ·obtain⟨r,q',rfl⟩:∃ r q',q=r::q':=by
    cases q with
    | nil=>have h8:=congrArg List.length hR.out;have h9:=HN.out;have h7:=hL.out.2;simp at h8;omega
    | cons r q'=>exact⟨r,q',rfl⟩
   have hr:=get_mid p q' r j hL.out.1
   obtain⟨g,rfl,hg1,hg2⟩:=hO.out.own.open (n:=0) (by simp;omega)
   have hlen:(p++r::q').length=n:=by
    have h8:=congrArg List.length hR.out;have h9:=HN.out;have h7:=hL.out;simp at h8 ⊢;omega
   have hkb:=HK.out (p0.map (fun r=>r.x)) (by have:=HT.out;rw[hR.out,List.map_append,totL_app]at this;have:=totL_nonneg ((r::q').map (fun r=>r.x));omega)
   rw[← hK.out]at hkb
   have hpt:r.x.Queue.length≤100000000:=by
    have h8:=HT.out;rw[hR.out,List.map_append,totL_app]at h8
    have h9:=totL_nonneg (p0.map (fun r=>r.x))
    have h7:=totL_mem (l:=(r::q').map (fun r=>r.x)) (x:=r.x) (by simp)
    have h6:=totL_len r.x.Queue
    have h5:Enc.tot r.x=(r.x.Data.size:Int)+totL r.x.Queue:=rfl
    omega
   obtain⟨o0,g0⟩:=hO.out.own.cells (j:=j*4) (show j*4<(p++r::q').length*4 by rw[hlen];omega)
   have f0:=hO.out.own.free (j*4)
   have hgd:=(hO.out.each j r hr).1
   have HGd:=lH hgd;clear hgd
   have S1:=lH (hO.out.setCell (i:=0) (v:=.int .i64 kj) (x:={ r.x with File:=kj }) hr (by decide) rfl rfl (by show okDTFileOut _;exact⟨by unfold i64;dsimp only;omega,HGd.out.2⟩))
   have HR:=lH hr;clear hr
   go_wp2_with fail
   refine(c_lmarkText (by omega)).mono ?_
   rintro _ _ ⟨rfl,y,rfl⟩
   have S1c:OwnN B χ o (wr.setCell ⟨g,j*4,none⟩ (.int .i64 kj)) (some ⟨g,0,none⟩) c (p++(⟨{ r.x with File:=kj },r.a,r.c⟩:NRow TFileOut)::q'):=by have:=S1.out.1;rw[set_mid p q' r _ j hL.out.1,List.append_assoc]at this;exact this
   have F1:Fr B χ (fun i=>i.1=o) wr y.w:=((hO.out.wrote S1.out.2).wide (fun i e=>by rw[e])).trans (Fr.grows _ _ _ _ _)
   have T1:=lH (S1c.to (inferInstance:Grows _ y.w));have HF1:=lH F1;clear S1 S1c F1
   have hlen1:(p++(⟨{ r.x with File:=kj },r.a,r.c⟩:NRow TFileOut)::q').length=n:=by rw[← hlen];simp
   obtain⟨o1,g1⟩:=T1.out.own.cells (j:=j*4+1) (show j*4+1<_*4 by rw[hlen1];omega)
   have f1:=T1.out.own.free (j*4+1)
   have S2:=T1.out.setCell (i:=1) (v:=.string (markTx (kj+1))) (x:={ r.x with File:=kj,Data:=markTx (kj+1) }) (get_mid p q' _ j hL.out.1) (by decide) rfl rfl (by show okDTFileOut _;exact⟨by unfold i64;dsimp only;omega,markTx_size (by omega) (by omega),trivial⟩)
   have T2:=lH (show OwnN B χ o (y.w.setCell ⟨g,j*4+1,none⟩ (.string (markTx (kj+1)))) (some ⟨g,0,none⟩) c (p++(⟨{ r.x with File:=kj,Data:=markTx (kj+1) },r.a,r.c⟩:NRow TFileOut)::q')by have:=S2.1;rw[set_mid p q' _ _ j hL.out.1,List.append_assoc]at this;exact this)
   have HF2:=lH (show Fr B χ (fun i=>i.1=o) wr (y.w.setCell ⟨g,j*4+1,none⟩ (.string (markTx (kj+1))))from HF1.out.trans ((T1.out.wrote S2.2).wide (fun i e=>by rw[e])));clear S2
   obtain⟨b1,off1,r1,hb1,hb2,hd,e0,e1,e2,e3⟩:=T2.out.own.sl.nFileOut (k:=j) (by have h8:=hlen1;simp at h8 ⊢;omega)
   cases hb1
   have hr1:r1=⟨{ r.x with File:=kj,Data:=markTx (kj+1) },r.a,r.c⟩:=by
    have h8:=congrArg (fun m=>m[0]?) hd.out
    simp only[List.getElem?_drop,Nat.add_zero,get_mid p q' _ j hL.out.1,List.getElem?_cons_zero,Option.some.injEq]at h8
    exact h8.symm
   subst hr1
   simp only[Nat.zero_add]at e0 e1 e2 e3
   have E2:(y.set ⟨g,j*4+1,none⟩ (.string (markTx (kj+1)))).w.cell? ⟨g,j*4+2,none⟩=some (.slice r.a r.x.Queue.length r.c):=e2 (y.w.setCell ⟨g,j*4+1,none⟩ (.string (markTx (kj+1))))
   have HI:=lH (show OwnC B χ (o,j+1) (y.w.setCell ⟨g,j*4+1,none⟩ (.string (markTx (kj+1)))) r.a r.c r.x.Queue from(T2.out.each j _ (get_mid p q' _ j hL.out.1)).2)
   clear e0 e1 e2 e3 hd hb2
   go_wp2_with fail
   refine(o_lmarkIntS HI.out hpt (by omega) (by omega)).mono ?_
   intro e w4 hq
   obtain⟨he,hi,F4⟩:=hq
   obtain⟨K,hK2⟩:∃ K:Int,K=kj+1+1+(r.x.Queue.length:Int)*((1:Nat):Int):=⟨_,rfl⟩
   obtain rfl:e=.returned (.int .i64 K):=he.trans (by rw[hK2];rfl)
   have hKb:0≤K∧K≤900000000000:=by omega
   have HK2:=lH hK2;have HI4:=lH hi;have HF4:=lH F4
   clear he hK2 hi F4 E2 g1 f1
   have T3:=lH (show OwnN B χ o w4 (some ⟨g,0,none⟩) c (p++(⟨{ r.x with File:=kj,Data:=markTx (kj+1),Queue:=mkL r.x.Queue (kj+1+1) },r.a,r.c⟩:NRow TFileOut)::q')by
    have:=T2.out.within (x:={ r.x with File:=kj,Data:=markTx (kj+1),Queue:=mkL r.x.Queue (kj+1+1) }) (get_mid p q' _ j hL.out.1) (by show[_,_,Value.slice r.a (mkL r.x.Queue (kj+1+1)).length r.c,_]=_;rw[mkL_length];rfl) (by show okDTFileOut _;exact⟨by unfold i64;dsimp only;omega,markTx_size (by omega) (by omega),trivial⟩) HI4.out HF4.out
    rw[set_mid p q' _ _ j hL.out.1,List.append_assoc]at this;exact this)
   have hlen3:(p++(⟨{ r.x with File:=kj,Data:=markTx (kj+1),Queue:=mkL r.x.Queue (kj+1+1) },r.a,r.c⟩:NRow TFileOut)::q').length=n:=by rw[← hlen];simp
   obtain⟨o3,g3⟩:=T3.out.own.cells (j:=j*4+3) (show j*4+3<_*4 by rw[hlen3];omega)
   have f3:=T3.out.own.free (j*4+3)
   have S4:=T3.out.setCell (i:=3) (v:=.bool (decide (K % 3=0))) (x:={ r.x with File:=kj,Data:=markTx (kj+1),Queue:=mkL r.x.Queue (kj+1+1),Done:=decide (K % 3=0) }) (get_mid p q' _ j hL.out.1) (by decide) rfl rfl (by show okDTFileOut _;exact⟨by unfold i64;dsimp only;omega,markTx_size (by omega) (by omega),trivial⟩)
   have T4:=lH (show OwnN B χ o (w4.setCell ⟨g,j*4+3,none⟩ (.bool (decide (K % 3=0)))) (some ⟨g,0,none⟩) c (p++(⟨{ r.x with File:=kj,Data:=markTx (kj+1),Queue:=mkL r.x.Queue (kj+1+1),Done:=decide (K % 3=0) },r.a,r.c⟩:NRow TFileOut)::q')by have:=S4.1;rw[set_mid p q' _ _ j hL.out.1,List.append_assoc]at this;exact this)
   have HF5:=lH (show Fr B χ (fun i=>i.1=o) w4 (w4.setCell ⟨g,j*4+3,none⟩ (.bool (decide (K % 3=0))))from(T3.out.wrote S4.2).wide (fun i e=>by rw[e]))
   clear S4 hlen3 hlen1
   have ht:Int.tmod K 3=K % 3:=Int.tmod_eq_emod_of_nonneg (by omega)
   go_wp2_with fail
   go_roundw
   case rel =>
    have eK:=HK2.out
    refine⟨j+1,p++[⟨mk1FileOut r.x kj,r.a,r.c⟩],p0++[r],q',K+1,by go_num,rfl,by omega,?_,⟨by simp[hL.out.1],by simp[hL.out.2]⟩,?_,?_,?_,?_⟩
    ·show rows0=_
     rw[hR.out];simp
    ·show List.map _ _=_
     rw[List.map_append,List.map_append]
     show _++[mk1FileOut r.x kj]=mkN _ _ (_++[r.x]) _
     rw[mkN_snoc,hP.out,← hK.out]
    ·show K+1=mnN _ (List.map _ (p0++[r])) _
     rw[List.map_append]
     show _=mnN _ (_++[r.x]) _
     rw[mnN_snoc,← hK.out,eK];rfl
    ·have:=T4.out
     rw[eK]at this ⊢
     rw[List.append_assoc]
     exact this
    ·exact(hF.out.trans HF2.out).trans ((HF4.out.wide (fun i e=>by rw[e])).trans HF5.out)
   case measure=>simp[intOf];omega
  ·have hjn:j=n:=by omega
   have hq:q=[]:=by
    have h8:=congrArg List.length hR.out;have h9:=HN.out;have h7:=hL.out.2;simp at h8
    exact List.length_eq_zero_iff.1 (by omega)
   have HQ:=lH hq;clear hq hjn
   go_wp2_with fail
   go_ret
   have hR2:=hR.out;have hO2:=hO.out
   rw[HQ.out,List.append_nil]at hR2 hO2
   exact⟨p,by rw[hK.out,hR2];rfl,by rw[hP.out,hR2],hO2,hF.out⟩
set_option maxHeartbeats 2000000 in
theorem o_lheldFileInS{B:Nat}{a:Option Addr}{c:Nat}{k0:Int}{l:List TFileIn}{w:World}(hs:RdS B w a c (mkN mk1FileIn mn1FileIn l k0))(ht:totL l≤100000000)(h1:0≤k0)(h2:k0≤500000000000) :
  Calls Tryz.prog 182 #[.slice a l.length c,.int .i64 k0] w (Gives w (.int .i64 (mnN mn1FileIn l k0))):=by
 obtain⟨n,hn⟩:∃ n,l.length=n:=⟨_,rfl⟩
 have hln:=totL_len l
 have hm:n≤100000000:=by omega
 have HN:=lH hn
 have HT:=lH ht
 have HK:=lH (show ∀ (p:List TFileIn),totL p≤100000000→k0≤mnN mn1FileIn p k0∧mnN mn1FileIn p k0≤600000000000 from fun p hp=>by have:=mnN_le mn1FileIn mn1FileIn_le p k0;omega)
 have HS:=lH hs
 clear ht hln hs
 rw[hn];clear hn
 go_enter Tryz.func182,Tryz.ntmps182
 go_wp2_with fail
 go_loopw [1,5] (fun u v wr=>∃ (j:Nat) (kj:Int),v=.int .i64 j∧u=.int .i64 kj∧j≤n∧Hid (kj=mnN mn1FileIn (l.take j) k0)∧∃ x:Later w,wr=x.w) (fun _ v _=>(n - intOf v).toNat)
 case atStart=>exact⟨0,k0,rfl,rfl,by omega,rfl,Later.of⟩
 case round =>
  obtain⟨j,kj,rfl,rfl,hj,hK,x0,rfl⟩:=hrel
  by_cases h:j<n
  ·have hlj:j<l.length:=by rw[HN.out];exact h
   obtain⟨eb,eoff,ex,ea0,ec0,rfl,ehb,ehd,eq0,eok,eh0,eh1,eh2,eh3⟩:=HS.out.atTFileIn (k:=j) (by rw[mkN_length];exact hlj)
   have hy:=List.getElem?_eq_getElem hlj
   obtain⟨y,hY⟩:∃ y,y=l[j]:=⟨_,rfl⟩
   rw[← hY]at hy
   have hex:ex=mk1FileIn y kj:=by
    have h8:=congrArg (fun m=>m[0]?) ehd.out
    simp only[List.getElem?_drop,Nat.add_zero,mkN_get,hy,Option.map_some,List.getElem?_cons_zero,Option.some.injEq]at h8
    rw[hK.out];exact h8.symm
   subst hex
   have hkb:=HK.out (l.take j) (by have:=totL_take l j;have:=HT.out;omega)
   rw[← hK.out]at hkb
   have hpt:y.Parts.length≤100000000:=by
    have h7:=totL_mem (List.mem_of_getElem? hy);have h8:=HT.out;have h6:=totL_len y.Parts;have h5:Enc.tot y=totL y.Parts:=rfl;omega
   have HY:=lH hy
   have EQ:=lH (show RdS B w ea0 ec0 (mkL y.Parts (kj+1+1+1))from eq0)
   simp only[mk1FileIn,mkL_length]at eh0 eh1 eh2 eh3
   clear hY hy ehd eok eq0
   go_wp2_with fail
   refine(o_lheldStringS (EQ.out.keep inferInstance) hpt (by omega) (by omega)).mono ?_
   intro e w4 hq
   obtain⟨he,y4,hw4⟩:=hq
   obtain⟨K,hK2⟩:∃ K:Int,K=mn1FileIn y kj:=⟨_,rfl⟩
   obtain rfl:e=.returned (.int .i64 K):=he.trans (by rw[hK2];rfl)
   have hKb:0≤K∧K≤900000000000:=by unfold mn1FileIn at hK2;omega
   have HK2:=lH hK2;clear he hK2
   subst hw4
   go_wp2_with fail
   go_roundw
   case rel=>exact⟨j+1,K,by go_num,rfl,by omega,(show K=_ by rw[mnN_take _ _ _ HY.out,← hK.out];exact HK2.out),Later.of⟩
   case measure=>simp[intOf];omega
  ·go_wp2_with fail
   go_ret
   have e:=hK.out
   rw[List.take_of_length_le (by have:=HN.out;omega)]at e
   exact Gives.mk (by rw[e];rfl)
set_option maxHeartbeats 2000000 in
theorem o_lheldFileOutS{B:Nat}{a:Option Addr}{c:Nat}{k0:Int}{l:List TFileOut}{w:World}(hs:RdS B w a c (mkN mk1FileOut mn1FileOut l k0))(ht:totL l≤100000000)(h1:0≤k0)(h2:k0≤500000000000) :
  Calls Tryz.prog 186 #[.slice a l.length c,.int .i64 k0] w (Gives w (.int .i64 (mnN mn1FileOut l k0))):=by
 obtain⟨n,hn⟩:∃ n,l.length=n:=⟨_,rfl⟩
 have hln:=totL_len l
 have hm:n≤100000000:=by omega
 have HN:=lH hn
 have HT:=lH ht
 have HK:=lH (show ∀ (p:List TFileOut),totL p≤100000000→k0≤mnN mn1FileOut p k0∧mnN mn1FileOut p k0≤600000000000 from fun p hp=>by have:=mnN_le mn1FileOut mn1FileOut_le p k0;omega)
 have HS:=lH hs
 clear ht hln hs
 rw[hn];clear hn
 go_enter Tryz.func186,Tryz.ntmps186
 go_wp2_with fail
 go_loopw [1,5] (fun u v wr=>∃ (j:Nat) (kj:Int),v=.int .i64 j∧u=.int .i64 kj∧j≤n∧Hid (kj=mnN mn1FileOut (l.take j) k0)∧∃ x:Later w,wr=x.w) (fun _ v _=>(n - intOf v).toNat)
 case atStart=>exact⟨0,k0,rfl,rfl,by omega,rfl,Later.of⟩
 case round =>
  obtain⟨j,kj,rfl,rfl,hj,hK,x0,rfl⟩:=hrel
  by_cases h:j<n
  ·have hlj:j<l.length:=by rw[HN.out];exact h
   obtain⟨eb,eoff,ex,ea0,ec0,rfl,ehb,ehd,eq0,eok,eh0,eh1,eh2,eh3⟩:=HS.out.atTFileOut (k:=j) (by rw[mkN_length];exact hlj)
   have hy:=List.getElem?_eq_getElem hlj
   obtain⟨y,hY⟩:∃ y,y=l[j]:=⟨_,rfl⟩
   rw[← hY]at hy
   have hex:ex=mk1FileOut y kj:=by
    have h8:=congrArg (fun m=>m[0]?) ehd.out
    simp only[List.getElem?_drop,Nat.add_zero,mkN_get,hy,Option.map_some,List.getElem?_cons_zero,Option.some.injEq]at h8
    rw[hK.out];exact h8.symm
   subst hex
   have hkb:=HK.out (l.take j) (by have:=totL_take l j;have:=HT.out;omega)
   rw[← hK.out]at hkb
   have hpt:y.Queue.length≤100000000:=by
    have h7:=totL_mem (List.mem_of_getElem? hy);have h8:=HT.out;have h6:=totL_len y.Queue;have h5:Enc.tot y=(y.Data.size:Int)+totL y.Queue:=rfl;omega
   have HY:=lH hy
   have EQ:=lH (show RdS B w ea0 ec0 (mkL y.Queue (kj+1+1))from eq0)
   obtain⟨K,hK2⟩:∃ K:Int,K=kj+1+1+(y.Queue.length:Int)*((1:Nat):Int):=⟨_,rfl⟩
   have hKb:0≤K∧K≤900000000000:=by omega
   have E3:∀ (W:World) [Grows w W],W.cell? ⟨eb,eoff+j*4+3,none⟩=some (.bool (decide (K % 3=0))):=by rw[hK2];exact eh3
   have HK2:=lH hK2;clear hK2 eh3
   simp only[mk1FileOut,mkL_length]at eh0 eh1 eh2
   clear hY hy ehd eok eq0
   have ht:Int.tmod K 3=K % 3:=Int.tmod_eq_emod_of_nonneg (by omega)
   have hx:((markTx (kj+1)).toList != (markTx (kj+1)).toList)=false:=by simp
   by_cases h3:K % 3=0
   ·have hD:decide (K % 3=0)=true:=by simpa using h3
    rw[hD]at E3;clear hD
    go_wp2_with (first|((with_reducible refine wp_region_later (by kernel_rfl) (by kernel_rfl) ?_);(repeat(first|go_big_quiet_step (first|(go_at_call 79;exact Gives.quiet (c_lmarkText (by omega))))|simp only[hx]|simp only[ht]|simp only[h3]));refine wpQuiet_nil ?_;rintro _ ⟨x,rfl⟩)|(go_at_call 79;refine(c_lmarkText (by omega)).mono ?_;rintro _ _ ⟨rfl,x,rfl⟩))
    refine(o_lheldIntS (EQ.out.keep inferInstance) hpt (by omega) (by omega)).mono ?_
    intro e w4 hq
    obtain⟨he,y4,hw4⟩:=hq
    obtain rfl:e=.returned (.int .i64 K):=he.trans (by rw[HK2.out];rfl)
    clear he
    subst hw4
    go_wp2_with fail
    go_roundw
    case rel=>exact⟨j+1,K+1,by go_num,rfl,by omega,(show K+1=_ by rw[mnN_take _ _ _ HY.out,← hK.out,HK2.out];rfl),Later.of⟩
    case measure=>simp[intOf];omega
   ·have hD:decide (K % 3=0)=false:=by simpa using h3
    rw[hD]at E3;clear hD
    go_wp2_with (first|((with_reducible refine wp_region_later (by kernel_rfl) (by kernel_rfl) ?_);(repeat(first|go_big_quiet_step (first|(go_at_call 79;exact Gives.quiet (c_lmarkText (by omega))))|simp only[hx]|simp only[ht]|simp only[h3]));refine wpQuiet_nil ?_;rintro _ ⟨x,rfl⟩)|(go_at_call 79;refine(c_lmarkText (by omega)).mono ?_;rintro _ _ ⟨rfl,x,rfl⟩))
    refine(o_lheldIntS (EQ.out.keep inferInstance) hpt (by omega) (by omega)).mono ?_
    intro e w4 hq
    obtain⟨he,y4,hw4⟩:=hq
    obtain rfl:e=.returned (.int .i64 K):=he.trans (by rw[HK2.out];rfl)
    clear he
    subst hw4
    go_wp2_with fail
    go_roundw
    case rel=>exact⟨j+1,K+1,by go_num,rfl,by omega,(show K+1=_ by rw[mnN_take _ _ _ HY.out,← hK.out,HK2.out];rfl),Later.of⟩
    case measure=>simp[intOf];omega
  ·go_wp2_with fail
   go_ret
   have e:=hK.out
   rw[List.take_of_length_le (by have:=HN.out;omega)]at e
   exact Gives.mk (by rw[e];rfl)
end Go.Proofs.YtbaffippdifbpaaGreat
