/- HearDown of the program. No condition but on sizes. -/
import Derived.Test.YtdijmbipcgalfaaGreatHPktI
import Derived.Test.YtdijmbipcgalfaaGreatHDwnI3
import Derived.Test.YtdijmbipcgalfaaGreatHM37
import Derived.Test.YtdijmbipcgalfaaGreatHM43
import Derived.Test.YtdijmbipcgalfaaGreatHM47
import Derived.Test.YtdijmbipcgalfaaGreatHMisI
import Derived.Test.YtdijmbipcgalfaaGreatHCopyMI
import Derived.Test.YtdijmbipcgalfaaGreatHM41
import Derived.Test.YtdijmbipcgalfaaGreatHMk6
import Derived.Test.YtdijmbipcgalfaaGreatHGBn
import Derived.Deep.CutRange
namespace Go.Proofs.YtdijmbipcgalfaaGreat
set_option maxRecDepth 100000
set_option maxHeartbeats 4000000
set_option linter.unusedVariables false
open Go.ChangeShapes Go.WideShapes Go.ChangeAt Go.RowKit
variable {d:ByteArray}{B:Nat}{w:World}
private abbrev as5:=Tryz.underlying90
theorem aF8{x:f7}(h:U7 (aB6 (ad3 d))=none):R5 x d=ad4 x:=by rw[R5,h]
theorem bl5{x:f7}{f:aa1}(h:U7 (aB6 (ad3 d))=some f):R5 x d=(I2 x.Ground.Unpacker f).2.foldl B8 (aS4 x (I2 x.Ground.Unpacker f).1):=by rw[R5,h]
theorem aR4(h:(ad3 d).isSome=false):U7 (aB6 (ad3 d))=none:=by
 cases hr:ad3 d with
 | none=>rfl
 | some l=>rw[hr]at h;cases h
theorem bl1{s:ByteArray}{f:aa1}(h:U7 s=some f):B7 f=true:=by
 unfold U7 at h
 split at h
 ·cases h
 ·split at h
  ·rename_i hc;cases h;exact hc.2
  ·cases h
theorem bS8{m:f7}{u:f9}(h:af8 m)(hu:j6 u=true):af8 (aS4 m u):=by
 have h1:=Z0.1 hu
 obtain⟨g1,g2,g3,g4,g5,g6,⟨k1,k2,k3⟩,g8⟩:=h
 exact⟨g1,g2,g3,g4,g5,g6,⟨k1,k2,⟨show i64 u.Channel by unfold i64;omega,show i64 u.Next by unfold i64;omega,show u.Rest.size≤_ by omega,show i64 u.Lost by unfold i64;omega,trivial⟩,trivial⟩,g8⟩
theorem af3.down{k:Nat}{x:f7}(d:ByteArray)(h:af3 k x):af3 (k+67) (R5 x d):=by
 unfold R5
 split
 ·exact h.bad.more om
 ·rename_i f hf
  have h1:=(ao9 (f:=f) h.inv.unp).1
  have h2:∀ (l:List E0) {k:Nat} {x:f7},af3 k x→af3 (k+l.length) (l.foldl B8 x):=by
   intro l
   induction l with
   | nil=>intro k x h;exact h
   | cons p r ih=>intro k x h;have:=ih (h.pkt p);rw[List.foldl_cons,List.length_cons];exact this.more om
  exact(h2 _ (h.unp1 (aA1 h.inv.unp))).more om
theorem aV3{vs:List Value}{m:f7}(h:Enc.Rd B w vs m)(ht:Enc.tot m≤100000000) :
  Calls Tryz.prog 8 #[.agg vs.toArray] w (R3 w (S7 m)):=by
 have HL:=lH (ab9 h)
 have HM:=lH h;clear h
 have HT:=lH ht;clear ht
 have HB:=lH ((j5.new w vs 90 w.heap.size rfl).to (ii:b8 _ ((w.alloc (.cells vs.toArray 90)).alloc (.cells A3.toArray 90))))
 have HR:=lH (j5.new (w.alloc (.cells vs.toArray 90)) A3 90 (w.heap.size+1) si)
 have gW:b8 w ((w.alloc (.cells vs.toArray 90)).alloc (.cells A3.toArray 90)):=inferInstance
 have hsz:((w.alloc (.cells vs.toArray 90)).alloc (.cells A3.toArray 90)).heap.size=w.heap.size+2:=by simp
 go_enter Tryz.func8,Tryz.ntmps8
 go_upto_region 1 with(fail)
 generalize ((w.alloc (.cells vs.toArray 90)).alloc (.cells A3.toArray 90))=W2 at HB HR gW hsz ⊢
 have iB:LtN w.heap.size W2.heap.size:=⟨by omega⟩
 have iR:LtN (w.heap.size+1) W2.heap.size:=⟨by omega⟩
 have hW2:w.heap.size≤W2.heap.size:=by omega
 go_wp2_with (first|(refine sL rfl _ (.tmp 1) rfl (w.heap.size) kr HB ii as5 HL ?_))
 refine(bd9 (x:=m) (Enc.keep HM.out ii) HT.out).mono ?_
 rintro _ _ ⟨cs,χ,rfl,hO,y1,rfl⟩
 have HLC:=lH (ab9 (W0.toRd hO));have HOC:=lH (an1 (W0.toRd hO));have HO:=lH hO;clear hO
 go_upto_region 2 with(first|(refine sW rfl _ _ _ rfl _ rfl (us:=cs) (j5.new _ A3 90 _ rfl) HLC HOC (w0:=W2) ii LeN.out ?_;intro z1 HX1 KX1))
 (try simp only[Act.put])
 obtain⟨qb,hqb⟩:∃ qb,y1.w.heap.size=qb:=⟨_,rfl⟩
 rw[hqb]
 have HG:=lH (show GB (fun _=>False) W2.heap.size qb z1.w m from hqb▸GB.of HO.out (KX1.out.under ii nl) y1.size_le HX1.out)
 have hqB:W2.heap.size≤qb:=HG.out.le
 have hqlt:LtN qb z1.w.heap.size:=⟨HG.out.lt⟩
 clear hqb HX1 KX1 HO HLC HOC
 go_wp2_with (first|(refine sL rfl _ (.tmp 1) rfl (w.heap.size) kr HB ii as5 HL ?_))
 refine gm (bo3 (m:=m) (Enc.keep HM.out ii) HT.out) ?_
 intro y2
 cases hv:j7 m
 ·obtain⟨vs9,hH9,hl9,h19,-,χ9,hO9⟩:=HG.out.vs
  have HH9:=lH hH9;have HO9:=lH hO9;have H19:=lH h19;have HL9:=lH (show vs9.length=61 from hl9)
  clear hO9 hH9 h19 hl9
  go_wp2_with (first|(refine sL rfl _ (.tmp 3) rfl (qb) kr HH9 ii as5 HL9 ?_)|(refine sW rfl _ _ _ rfl (w.heap.size+1) rfl (us:=vs9) (HR.out.to ii) HL9 H19 (w0:=w) ii om ?_;intro z9 HX9 KX9))
  refine bodyPost_ret (v:=.agg vs9.toArray) (A7 (P:=Tryz.prog) rfl rfl HX9.out _ as5 rfl (by rw[HL9.out];kernel_rfl)) rfl ?_
  rw[show S7 m=m by rw[S7,if_neg (by rw[hv];decide)]]
  exact⟨vs9,χ9,rfl,ac2 (ah9 HO9.out ii) KX9.out (show w.heap.size+1<W2.heap.size by omega) hW2,b7.of⟩
 ·have HUS:=lH (ay9 hv)
  have HBX:=lH (bz6 hv HT.out)
  have HHU:=lH (show S7 m=((ag9 m.Time m.Downs).map k5.Data).foldl R5 (Y7 m)by rw[S7,if_pos hv])
  clear hv
  have hul:m.Downs.length≤100000000:=by have:=HUS.out.2.1;omega
  obtain⟨ua,uc,ue,-,hgood,hrd⟩:=HG.out.own aR8
  have HGD:=lH (show ∀ p∈m.Downs,aj6 p from hgood)
  clear hgood
  have HRD:=lH (show RdS W2.heap.size z1.w ua uc m.Downs from hrd)
  have ue2:∀ (W:World) [b8 z1.w W],W.cell? ⟨qb,15,none⟩=some (.slice ua m.Downs.length uc):=fun W g=>ue W
  have et:=br2 HG.out
  clear ue hrd
  go_upto_region 5 with(first|(go_at_call 37;refine(aX1 (l:=m.Downs) (t:=m.Time) (HRD.out.keep (aC7 ii)) hul).mono ?_;rintro _ _ ⟨da,la,dc,lc,rfl,od,ol,hne,y3,rfl⟩))
  obtain⟨F,hF⟩:∃ F,ag9 m.Time m.Downs=F:=⟨_,rfl⟩
  have HFM:=lH (show ∀ f∈F,f∈m.Downs from fun f hf=>(List.mem_filter.1 (show f∈ag9 m.Time m.Downs by rw[hF];exact hf)).1)
  obtain⟨LA,hLA⟩:∃ LA,W5 m.Time m.Downs=LA:=⟨_,rfl⟩
  have HLM:=lH (show ∀ f∈LA,f∈m.Downs from fun f hf=>(List.mem_filter.1 (show f∈W5 m.Time m.Downs by rw[hLA];exact hf)).1)
  have HLA:=lH hLA
  rw[hF]at HHU
  rw[hF]at od
  rw[hLA]at ol
  have HNL:=lH (show F.length≤1000 by rw[← hF];exact Nat.le_trans (List.length_filter_le _ _) HUS.out.2.1)
  rw[hF,hLA]
  clear hF hLA
  obtain⟨n,hn⟩:∃ n,F.length=n:=⟨_,rfl⟩
  have HN:=lH hn
  rw[hn]at HNL
  rw[hn]
  obtain⟨ln,hln⟩:∃ n,LA.length=n:=⟨_,rfl⟩
  have HLN:=lH hln
  rw[hln]
  clear hn hln
  obtain⟨BL,hBL⟩:∃ BL,(z1.andThen y2).w.heap.size=BL:=⟨_,rfl⟩
  have OD:=lH (show Own D6 129 2 BL ((z1.andThen y2).andThen y3).w da dc F from hBL▸(List.map_id F▸od))
  have HP5:=lH (GBp.newX (F:=aR8) (P:=fun j=>E9 da=some j) (u:=(z1.andThen y2).w) (w:=((z1.andThen y2).andThen y3).w) (HG.out.to ii) ii ol (fun p hp=>HGD.out p (HLM.out p hp)) (fun j hj=>⟨(od.blk j hj).1,(od.blk j hj).2,hne j hj⟩))
  clear od ol hne hBL
  go_upto_region 6 with(first|(refine at5 HLN.out rfl _ _ _ rfl HP5.out kr kr kr (w0:=W2) ii nl ?_;intro z5 hz5 hX5))
  (try simp only[Act.put])
  have HGL:=lH (show GB (fun k=>False∨E9 da=some k) W2.heap.size qb z5.w (Y7 m)from(show aR8.set m LA=Y7 m by rw[← HLA.out];rfl)▸hz5)
  have OD5:=lH (show Own D6 129 2 BL z5.w da dc F from OD.out.same fun k hk _ _=>hX5 k (.inr hk))
  have HGF:=lH (show ∀ f∈F,aj6 f from fun f hf=>HGD.out f (HFM.out f hf))
  have HSZ:=lH (show ∀ d∈F.map k5.Data,d.size≤404 from fun d hd=>by obtain⟨f,hf,rfl⟩:=List.mem_map.1 hd;exact(HUS.out.2.2.1 f (HFM.out f hf)).2)
  have HF0:=lH HHU.out.symm
  have hn3:n≤1000:=HNL.out
  clear HRD HP5 OD hz5 hX5 HLA HGD HFM HLM HUS HHU HLN hul ue2 et
  go_wp2_with (fail)
  go_loopw [33] (fun v wr=>∃ (k:Nat) (x:f7),v=.int .i64 k∧k≤n∧Hid (((F.map k5.Data).drop k).foldl R5 x=S7 m)∧Hid (af3 (67*k) x)∧Hid (GB (fun k=>False∨E9 da=some k) W2.heap.size qb wr x)∧Hid (Own D6 129 2 BL wr da dc F)∧∃ y:b7 W2,wr=y.w) (fun v _=>(n - intOf v).toNat)
  case atStart=>exact⟨0,Y7 m,rfl,Nat.zero_le _,HF0,HBX,HGL.out.to ii,OD5.out.to ii,b7.of⟩
  case round =>
   obtain⟨k,x,rfl,hk,HF,HI,HGR,HOL,y,rfl⟩:=hrel
   by_cases hkn:k<n
   ·have hkm:k<(F.map k5.Data).length:=by rw[List.length_map,HN.out];exact hkn
    obtain⟨eb,eoff,f0,rfl,hob,hod,eok,eh0,eh1⟩:=(B6.of (show Own D6 129 2 BL y.w da dc F from HOL.out) HGF.out (0,0)).rd.atTFlight (show k<F.length by rw[HN.out];exact hkn)
    clear eok
    obtain⟨fa,s0⟩:=f0
    have HDR:=lH (show(F.map k5.Data).drop k=s0::(F.map k5.Data).drop (k+1)by rw[← List.map_drop,hod.out,List.map_cons,List.map_drop])
    clear hod
    simp only at eh0 eh1
    have hs0:s0.size≤404:=HSZ.out s0 (List.mem_of_mem_drop (show s0∈(F.map k5.Data).drop k by rw[HDR.out];simp))
    obtain⟨tx,htx⟩:∃ tx,aB6 (ad3 s0)=tx:=⟨_,rfl⟩
    have htz:tx.size≤400:=htx▸bf4 s0
    have HTX:=lH htx
    have hqy:LtN qb y.w.heap.size:=⟨HGR.out.lt⟩
    have HF2:=lH (show((F.map k5.Data).drop (k+1)).foldl R5 (R5 x s0)=S7 m by have:=HF.out;rw[HDR.out,List.foldl_cons]at this;exact this)
    have HI2:=lH (show af3 (67*(k+1)) (R5 x s0)from(HI.out.down s0).more om)
    obtain⟨vs5,A5,hV5,hvs5,F5⟩:=al3 HGR.out
    have HV:=lH hV5
    obtain⟨up,hup⟩:∃ up,x.Ground.Unpacker=up:=⟨_,rfl⟩
    have HUP:=lH hup
    have HR24:=lH (show(vs5.drop 24).take 5=[.int .i64 up.Channel,.int .i64 up.Next,.bool up.Synced,.string up.Rest,.int .i64 up.Lost]by rw[hvs5,← hup];rfl)
    have HUO:=lH (show j6 up=true from hup▸HI.out.inv.unp)
    clear hV5 hvs5 F5 hup
    go_wp2_with (fail)
    refine gm (bw2 hs0) ?_
    intro y4
    rw[htx]
    cases c1:(ad3 s0).isSome
    ·clear htx
     have HSB:=lH (show R5 x s0=ad4 x from aF8 (aR4 c1))
     go_wp2_with (fail)
     refine(ap9 (w0:=W2) (HGR.out.to ii) HI.out.inv.bad0 HI.out.inv.bad1 ii nl).mono ?_
     rintro _ w9 ⟨⟨u,rfl⟩,hz9,hx9,z9,rfl⟩
     have HO9:=lH (show Own D6 129 2 BL z9.w (some ⟨eb,eoff,none⟩) dc F from HOL.out.same fun k hk _ _=>(hx9 k (.inr hk)).trans ((ii:b8 y.w _).out.block k (HGR.out.xs (.inr hk)).2))
     have HZ9:=lH hz9
     clear hx9 hz9
     go_wp2_with (fail)
     go_roundw
     case rel=>exact⟨k+1,R5 x s0,by go_num,by omega,HF2,HI2,(by rw[HSB.out];exact HZ9.out.to ii),(HO9.out.to ii),b7.of⟩
     case measure=>simp[intOf];omega
    ·go_upto_region 12 with(fail)
     (try simp only[Act.put])
     have HFB:=lH (j5.new y4.w [.int .i64 0,.int .i64 0,.int .i64 0,.string ⟨#[]⟩] 107 y4.w.heap.size rfl)
     go_wp2_with (fail)
     refine gm (bb0 (s:=tx) om) ?_
     intro y6
     cases hd:U7 tx with
     | none =>
      rw[bI2]
      have HSB:=lH (show R5 x s0=ad4 x from aF8 (htx.symm▸hd))
      go_wp2_with (first|(refine sB rfl _ _ (.tmp 47) rfl (y4.w.heap.size) 0 kr [.int .i64 0,.int .i64 0,.int .i64 0,.string ⟨#[]⟩] HFB y.w si ?_;intro z7 HX7 KX7))
      refine(ap9 (w0:=W2) (HGR.out.to ii) HI.out.inv.bad0 HI.out.inv.bad1 ii nl).mono ?_
      rintro _ w9 ⟨⟨u,rfl⟩,hz9,hx9,z9,rfl⟩
      have HO9:=lH (show Own D6 129 2 BL z9.w (some ⟨eb,eoff,none⟩) dc F from HOL.out.same fun k hk _ _=>(hx9 k (.inr hk)).trans ((ii:b8 y.w _).out.block k (HGR.out.xs (.inr hk)).2))
      have HZ9:=lH hz9
      clear hx9 hz9
      go_wp2_with (fail)
      go_roundw
      case rel=>exact⟨k+1,R5 x s0,by go_num,by omega,HF2,HI2,(by rw[HSB.out];exact HZ9.out.to ii),(HO9.out.to ii),b7.of⟩
      case measure=>simp[intOf];omega
     | some f =>
      have HD:=lH (show U7 (aB6 (ad3 s0))=some f from htx.symm▸hd)
      have HFO:=lH (bl1 hd)
      have hfz:f.Data.size≤100000000:=by have:=(aq9 HFO.out).2.2.2;omega
      have huz:up.Rest.size≤100000000:=by have:=(Z0.1 HUO.out).2.2.2.2;omega
      rw[bI2]
      have HPP:=lH (fun(W:World)=>bo4 (u:=up) (f:=f) (w:=W) huz hfz)
      have HPO:=lH (show j6 (I2 up f).1=true from aA1 HUO.out)
      have HPK:=lH (ao9 (f:=f) HUO.out)
      have HDY:=lH (show R5 x s0=(I2 up f).2.foldl B8 (aS4 x (I2 up f).1)by rw[bl5 HD.out,HUP.out])
      clear hd htx HUO
      obtain⟨pr,hpr⟩:∃ pr,I2 up f=pr:=⟨_,rfl⟩
      rw[hpr]at HPP HPO HPK HDY
      clear hpr
      obtain⟨u2,ps⟩:=pr
      simp only at HPO HPK HDY
      obtain⟨np,hnp⟩:∃ np,ps.length=np:=⟨_,rfl⟩
      have HNP:=lH hnp
      have hnp67:np≤67:=hnp▸HPK.out.1
      clear hnp
      go_wp2_with (first|(refine sB rfl _ _ (.tmp 47) rfl (y4.w.heap.size) 0 kr [.int .i64 f.Channel,.int .i64 f.Count,.int .i64 f.First,.string f.Data] HFB y.w si ?_;intro z7 HX7 KX7)|(refine al8 rfl _ (.tmp 54) rfl (qb) 24 kr (row:=[.int .i64 up.Channel,.int .i64 up.Next,.bool up.Synced,.string up.Rest,.int .i64 up.Lost]) (HV.out.to ii) _ Tryz.underlying71 rfl kr HR24.out ?_)|(refine lA rfl _ (.tmp 10) rfl (y4.w.heap.size) 0 kr [.int .i64 f.Channel,.int .i64 f.Count,.int .i64 f.First,.string f.Data] HX7 Tryz.underlying107 ?_))
      refine(HPP.out _).mono ?_
      rintro _ w8 ⟨pa,pc,rfl,pown,y8,rfl⟩
      simp only at pown
      simp only[HNP.out]
      have hprt:=GB.prot (P:=fun k=>E9 pa=some k) (HGR.out.to (ii:b8 y.w _)) ⟨y8.h⟩ (fun k hk=>pown.blk k hk)
      have HGP:=lH hprt
      have HPW:=lH (pown.mono (Nat.zero_le _))
      clear hprt pown
      go_upto_region 17 with(first|(refine al9 (o:=24) (us:=[.int .i64 u2.Channel,.int .i64 u2.Next,.bool u2.Synced,.string u2.Rest,.int .i64 u2.Lost]) (aS4 x u2) rfl _ (.tmp 62) (.tmp 60) rfl (HGP.out.to ii) kr kr kr rfl nb (by intros;rename_i h;obtain⟨A1,rfl,p⟩:=h;exact⟨A1,rfl,{ p with ok:=bS8 p.ok HPO.out }⟩) (w0:=W2) ii nl ?_;intro z9 hz9 hX9))
      (try simp only[Act.put])
      have HZ9:=lH hz9
      have HO9:=lH (show Own D6 129 2 BL z9.w (some ⟨eb,eoff,none⟩) dc F from HOL.out.same fun k hk _ _=>(hX9 k (.inl (.inr hk))).trans ((ii:b8 y.w _).out.block k (HGR.out.xs (.inr hk)).2))
      have HP9:=lH (show Own M6 117 3 0 z9.w pa pc ps from HPW.out.same fun k hk _ _=>(hX9 k (.inr hk)).trans ((ii:b8 y8.w _).out.block k (HGP.out.xs (.inr hk)).2))
      clear hz9 hX9 HGP HPW HV HR24
      go_wp2_with (fail)
      go_loopw [65] (fun v wr=>∃ (i:Nat) (x7:f7),v=.int .i64 i∧i≤np∧Hid ((ps.drop i).foldl B8 x7=R5 x s0)∧Hid (af3 (67*k+i) x7)∧Hid (GB (fun k=>(False∨E9 (some ⟨eb,eoff,none⟩)=some k)∨E9 pa=some k) W2.heap.size qb wr x7)∧Hid (Own D6 129 2 BL wr (some ⟨eb,eoff,none⟩) dc F)∧Hid (Own M6 117 3 0 wr pa pc ps)∧∃ y:b7 W2,wr=y.w) (fun v _=>(np - intOf v).toNat)
      case atStart=>exact⟨0,aS4 x u2,rfl,Nat.zero_le _,lH HDY.out.symm,lH (HI.out.unp1 HPO.out),HZ9.out.to ii,HO9.out.to ii,HP9.out.to ii,b7.of⟩
      case round =>
       obtain⟨i,x7,rfl,hi,HFK,HIK,HGK,HOK,HPK2,y7,rfl⟩:=hrel
       by_cases hin:i<np
       ·obtain⟨pb,po,pk,rfl,hpb,hpd,pe0,pe1,pe2⟩:=(Own.sl HPK2.out).tPacket (show i<ps.length by rw[HNP.out];exact hin)
        have hps:pk.Data.size≤40:=(HPK.out.2 pk (List.mem_of_mem_drop (by rw[hpd.out];simp))).1
        have HFN:=lH (show(ps.drop (i+1)).foldl B8 (B8 x7 pk)=R5 x s0 by have:=HFK.out;rw[hpd.out,List.foldl_cons]at this;exact this)
        have HIN:=lH (HIK.out.pkt pk)
        have hq7:LtN qb y7.w.heap.size:=⟨HGK.out.lt⟩
        clear hpd
        go_wp2_with (fail)
        refine(bg3 (X:=(fun k=>(False∨E9 (some ⟨eb,eoff,none⟩)=some k)∨E9 (some ⟨pb,po,none⟩)=some k)) (w0:=W2) (HGK.out.to ii) HIK.out om hps ii nl).mono ?_
        rintro _ w9 ⟨⟨u,rfl⟩,hz9,hx9,z8,rfl⟩
        have HO8:=lH (show Own D6 129 2 BL z8.w (some ⟨eb,eoff,none⟩) dc F from HOK.out.same fun k hk _ _=>(hx9 k (.inl (.inr hk))).trans ((ii:b8 y7.w _).out.block k (HGK.out.xs (.inl (.inr hk))).2))
        have HP8:=lH (show Own M6 117 3 0 z8.w (some ⟨pb,po,none⟩) pc ps from HPK2.out.same fun k hk _ _=>(hx9 k (.inr hk)).trans ((ii:b8 y7.w _).out.block k (HGK.out.xs (.inr hk)).2))
        have HZ8:=lH hz9
        clear hz9 hx9
        go_wp2_with (fail)
        go_roundw
        case rel=>exact⟨i+1,B8 x7 pk,by go_num,by omega,HFN,HIN,HZ8.out.to ii,HO8.out.to ii,HP8.out.to ii,b7.of⟩
        case measure=>simp[intOf];omega
       ·obtain rfl:i=np:=by omega
        have HE7:=lH (show x7=R5 x s0 by have:=HFK.out;rw[List.drop_of_length_le (by rw[HNP.out];exact Nat.le_refl _)]at this;exact this)
        have HG7:=lH (show GB (fun k=>False∨E9 (some ⟨eb,eoff,none⟩)=some k) W2.heap.size qb y7.w (R5 x s0)by rw[← HE7.out];exact HGK.out.less fun k hk=>.inl hk)
        go_wp2_with (fail)
        go_roundw
        case rel=>exact⟨k+1,R5 x s0,by go_num,by omega,HF2,HI2,HG7.out.to ii,(HOK.out.to ii),b7.of⟩
        case measure=>simp[intOf];omega
   ·obtain rfl:k=n:=by omega
    obtain⟨vs8,hH8,hl8,h18,-,χ8,hO8⟩:=HGR.out.vs
    have HH8:=lH hH8;have HO8:=lH hO8;have H18:=lH h18;have HL8:=lH (show vs8.length=61 from hl8)
    clear hO8 hH8 h18 hl8
    go_wp2_with (first|(refine sL rfl _ (.tmp 3) rfl (qb) kr HH8 ii as5 HL8 ?_)|(refine sW rfl _ _ _ rfl (w.heap.size+1) rfl (us:=vs8) (HR.out.to ii) HL8 H18 (w0:=w) ii om ?_;intro z8 HX8 KX8))
    refine bodyPost_ret (v:=.agg vs8.toArray) (A7 (P:=Tryz.prog) rfl rfl HX8.out _ as5 rfl (by rw[HL8.out];kernel_rfl)) rfl ?_
    rw[show S7 m=x by have:=HF.out;rw[List.drop_of_length_le (by rw[List.length_map,HN.out];exact Nat.le_refl _)]at this;exact this.symm]
    exact⟨vs8,χ8,rfl,ac2 (ah9 HO8.out ii) KX8.out (show w.heap.size+1<W2.heap.size by omega) hW2,b7.of⟩
theorem cb3{P:Program}{ops:Array Oper}{Q:Exit→Act→World→Prop}{i:Nat}{R:World→World→Prop}{Fs:ai2 R}{val:Nat→Value}{a:Act}{j k l n:Nat}{o o' o2 o3 o4:Oper}(ho:ops[i]?=some o)(ho':ops[j]?=some o')(h2:ops[k]?=some o2)(h3:ops[l]?=some o3)(h4:ops[n]?=some o4)(h:wpList P ops Q [o,o',o2,o3,o4] (aH4 Fs 0 val a) w):ak8 Fs w (fun val=>wpOps P ops Q [i,j,k,l,n] (aH4 Fs 0 val a) w) [] val:=by
 simpa only[ak8,wpOps,wpList,ho,ho',h2,h3,h4]using h
theorem bC4{vs:List Value}{f:A8}(h:Enc.Rd B w vs f)(hf:Y8 f=true)(hd:d.size≤100000000) :
  Calls Tryz.prog 119 #[.agg vs.toArray,.string d] w (R3 w (Y3 f d)):=by
 obtain⟨a0,c0,rfl,h1,-⟩:=h
 have h2:=ak6.1 (show J9 f.File f.Size f.Check f.Parts=true from hf)
 have hg:=aU9 d hf
 refine(bx2 (f:=f.File) (z:=f.Size) (k:=f.Check) (RdS.slF h1) h1.nilcap rfl om (fun t ht=>by have:=h2.2.2.2.2.2 t ht;omega) hd).mono ?_
 rintro _ _ ⟨a1,c1,rfl,o1,y1,rfl⟩
 exact⟨_,fun _=>(0,0),rfl,⟨a1,c1,rfl,⟨B6.of o1 hg.2 (0,0),hg.1⟩⟩,b7.of⟩
theorem bp7{X:Nat→Prop}{q j:Nat}{m:f7}{x:E0}{w0:World}(h:GB X B q w m)(hi:af3 j m)(hj:j≤1000000)(hd:x.Data.size≤40)(g:b8 w0 w)(hb:w0.heap.size≤B):Calls Tryz.prog 26 #[.pointer (some ⟨q,0,none⟩),.agg #[.int .i64 x.Apid,.int .i64 x.Seq,.string x.Data]] w (bn7 X B q w0 w (B8 m x)):=by
 have HG:=lH h;have HI:=lH hi;clear h hi
 have hlw:=HG.out.lt
 have HB:=lH (j5.new w [.int .i64 x.Apid,.int .i64 x.Seq,.string x.Data] 117 w.heap.size rfl)
 have HG1:=lH (GB.prot (P:=fun k=>k=w.heap.size) HG.out (ii:b8 w (w.alloc (.cells #[.int .i64 x.Apid,.int .i64 x.Seq,.string x.Data] 117))) (fun k hk=>by subst hk;simp))
 have gV:b8 w (w.alloc (.cells #[.int .i64 x.Apid,.int .i64 x.Seq,.string x.Data] 117)):=inferInstance
 have gW:b8 w0 (w.alloc (.cells #[.int .i64 x.Apid,.int .i64 x.Seq,.string x.Data] 117)):=inferInstance
 have HX0:=lH (show ∀ k,X k→((w.alloc (.cells #[.int .i64 x.Apid,.int .i64 x.Seq,.string x.Data] 117))).heap[k]?=w.heap[k]? from fun k hk=>gV.out.block k (HG.out.xs hk).2)
 go_enter Tryz.func26,Tryz.ntmps26
 go_upto_region 1 with(first|((with_reducible refine rl ?_);refine rq ?_;intro x))
 generalize (w.alloc (.cells #[.int .i64 x.Apid,.int .i64 x.Seq,.string x.Data] 117))=W1 at HB HG1 gV gW HX0 ⊢
 have iq:LtN q W1.heap.size:=⟨HG1.out.lt⟩
 have ix:LtN w.heap.size W1.heap.size:=⟨HB.out.lt⟩
 have hqx:q≠w.heap.size:=by omega
 have p0:=HB.out.cellG 0 _ rfl
 have p2:=HB.out.cellG 2 _ rfl
 cases c1:(x.Apid == 1)
 ·cases c2:(x.Apid == 2)
  ·cases c3:(x.Apid == 3)
   ·have HV:=lH (show B8 m x=ad4 m from bT3 (by simpa using c1) (by simpa using c2) (by simpa using c3))
    have HBD:=lH (fun(W:World) (g1:b8 W1 W) (g2:b8 w0 W)=>at2 (w0:=w0) (HG1.out.to g1) HI.out.inv.bad0 HI.out.inv.bad1 g2 hb)
    go_wp2_with (first|((with_reducible refine rl ?_);(repeat(first|go_big_quiet_step (first|fail)|simp only[c1]|simp only[c2]|simp only[c3]));refine wpQuiet_nil ?_;intro x))
    refine(HBD.out _ ii ii).mono ?_
    rintro _ w9 ⟨⟨u,rfl⟩,hz9,hx9,z9,rfl⟩
    have HX9:=lH (show ∀ k,X k→z9.w.heap[k]?=w.heap[k]? from fun k hk=>((hx9 k (.inl hk)).trans ((ii:b8 W1 _).out.block k (HG1.out.xs (.inl hk)).2)).trans (HX0.out k hk))
    have HZ9:=lH (show GB X B q z9.w (ad4 m)from hz9.less fun k hk=>.inl hk)
    clear hx9 hz9
    go_wp2_with (first|((with_reducible refine rl ?_);refine rq ?_;intro x))
    (first|(refine bodyPost_end (v:=.tuple #[]) (by simp[results,Tryz.results26,go_sem]) rfl ?_)|(refine bodyPost_ret (v:=.tuple #[]) (by simp[results,Tryz.results26,go_sem]) rfl ?_))
    exact⟨⟨_,rfl⟩,(by rw[HV.out];exact HZ9.out.to ii),HX9.out,b7.of⟩
   ·have h3:x.Apid=3:=by simpa using c3
    have HV:=lH (show B8 m x=bP5 m x.Data from bT4 h3)
    clear h3
    obtain⟨fa,fc,fe,hfa⟩:=GB.ownN ao3 HG1.out
    have HFL:=lH (show m.Ground.Files.length=8 from HI.out.inv.filn)
    obtain⟨fb,rfl⟩:=hfa (by show 0<m.Ground.Files.length;rw[HFL.out];decide)
    have fe2:∀ (W:World) [b8 W1 W],W.cell? ⟨q,31,none⟩=some (.slice (some ⟨fb,0,none⟩) 8 fc):=fun W g=>HFL.out▸fe W
    have HC0:=lH (fe2 W1)
    clear fe
    clear fe2
    go_wp2_with (first|((with_reducible refine rl ?_);(repeat(first|go_big_quiet_step (first|fail)|simp only[c1]|simp only[c2]|simp only[c3]));refine wpQuiet_nil ?_;intro x))
    clear c1 c2 c3
    go_loopw [10] (fun v wr=>∃ k:Nat,v=.int .i64 k∧k≤8∧Hid (GB (fun k=>X k∨k=w.heap.size) B q wr (au0 m x.Data k))∧Hid (j5 wr w.heap.size [.int .i64 x.Apid,.int .i64 x.Seq,.string x.Data] 117)∧Hid (wr.cell? ⟨q,31,none⟩=some (.slice (some ⟨fb,0,none⟩) 8 fc))∧Hid (∀ j,X j→wr.heap[j]?=w.heap[j]?)∧∃ y:b7 w0,wr=y.w) (fun v _=>(8 - intOf v).toNat)
    case atStart=>exact⟨0,rfl,by omega,by rw[bl9];exact HG1.out.to ii,HB.out.to ii,lH (by first|exact HC0.out|exact j4 HG1.out.lt HC0.out _),lH (fun j hj=>by first|exact HX0.out j hj|exact((ii:b8 W1 _).out.block j (HG1.out.xs (.inl hj)).2).trans (HX0.out j hj)),b7.of⟩
    case round =>
     obtain⟨k,rfl,hk,HGK,HBK,HCK,HXK,y,rfl⟩:=hrel
     by_cases hk8:k<8
     ·have hqy:LtN q y.w.heap.size:=⟨HGK.out.lt⟩
      have hxy:LtN w.heap.size y.w.heap.size:=⟨HBK.out.lt⟩
      have p2:=HBK.out.cellG 2 _ rfl
      have hkf:k<m.Ground.Files.length:=by rw[HFL.out];exact hk8
      obtain⟨vs5,A5,hV5,hvs5,F5⟩:=al3 HGK.out
      have e1:=HCK.out.symm.trans (hV5.cell 31 |>.trans (by rw[hvs5]))
      simp only[List.getElem?_cons_succ,List.getElem?_cons_zero,Option.some.injEq,Value.slice.injEq]at e1
      obtain⟨e2,-,e3⟩:=e1
      have hrd:=F5.q7
      rw[← e2,← e3]at hrd
      clear hV5 hvs5 F5 e2 e3
      obtain⟨eb,eoff,ex,ea0,ec0,heq,ehb,ehd,eq0,eok,eh0,eh1,eh2,eh3⟩:=hrd.atTFileIn (show k<(au0 m x.Data k).Ground.Files.length by rw[aM8];exact hkf)
      cases heq
      have hdr:=bl7 hkf ehd.out
      have hdr2:m.Ground.Files.drop k=ex::m.Ground.Files.drop (k+1):=by
       have h9:=List.drop_eq_getElem_cons hkf
       rw[h9]at hdr
       rw[h9,(List.cons.inj hdr).1]
      have HST:=lH (bl8 (d:=x.Data) hkf hdr2)
      have HOK:=lH (HI.out.inv.files ex (List.mem_of_mem_drop (by rw[hdr2];simp)))
      have HRD:=lH (show Enc.Rd B y.w [.int .i64 ex.File,.int .i64 ex.Size,.int .i64 ex.Check,.slice ea0 ex.Parts.length ec0] ex from⟨ea0,ec0,rfl,eq0,eok⟩)
      have HLK:=lH (show(au0 m x.Data k).Ground.Files.length=8 by rw[aM8];exact HFL.out)
      clear hrd ehd eq0 eok hdr hdr2 hkf
      have fe3:∀ (W:World) [b8 y.w W],W.cell? ⟨q,31,none⟩=some (.slice (some ⟨fb,0,none⟩) 8 fc):=fun W g=>j4 HGK.out.lt HCK.out W
      have HROW:=lH (fun(W:World) (g:b8 y.w W)=>show W.rangeAt fb (0+k*4) [.int .i64 ex.File,.int .i64 ex.Size,.int .i64 ex.Check,.slice ea0 ex.Parts.length ec0]from fun j v hj=>by
       match j,hj with
       | 0,hj=>simp only[List.getElem?_cons_zero,Option.some.injEq]at hj;rw[← hj];exact eh0 W
       | 1,hj=>simp only[List.getElem?_cons_succ,List.getElem?_cons_zero,Option.some.injEq]at hj;rw[← hj];exact eh1 W
       | 2,hj=>simp only[List.getElem?_cons_succ,List.getElem?_cons_zero,Option.some.injEq]at hj;rw[← hj];exact eh2 W
       | 3,hj=>simp only[List.getElem?_cons_succ,List.getElem?_cons_zero,Option.some.injEq]at hj;rw[← hj];exact eh3 W
       | j+4,hj=>simp at hj)
      go_upto_region 18 with(first|((with_reducible refine rl ?_);refine rq ?_;intro x))
      have fe4:∀ (W:World) [b8 y.w W],W.cell? ⟨q,31,none⟩=some (.slice (some ⟨fb,0,none⟩) 8 fc):=fun W g=>@fe3 W g
      have p4:∀ (W:World) [b8 y.w W],W.cell? ⟨w.heap.size,2,none⟩=some (.string x.Data):=fun W g=>@p2 W g
      refine I5 kr (T:=[18]) (Zs:=[]) (H:=[(4,[]),(10,[]),(12,[]),(13,[]),(15,[]),(16,[]),(17,[16])]) (C:=[16]) (Fs:=[(some 97,.v (.pointer (some ⟨q,0,none⟩))),(some 98,.v (.pointer (some ⟨q,0,none⟩))),(some 99,.v (.pointer (some ⟨q,16,none⟩))),(some 100,.v (.pointer (some ⟨q,31,none⟩))),(some 101,.v (.slice (some ⟨fb,0,none⟩) 8 fc)),(some 102,.v (.int .i64 k)),(some 103,.v (.pointer (some ⟨q,0,none⟩))),(some 104,.v (.pointer (some ⟨q,0,none⟩))),(some 105,.v (.pointer (some ⟨q,16,none⟩))),(some 106,.v (.pointer (some ⟨q,31,none⟩))),(some 107,.v (.slice (some ⟨fb,0,none⟩) 8 fc)),(some 108,.v (.int .i64 k)),(some 109,.v (.pointer (some ⟨fb,0+k*4,none⟩))),(some 110,.v (.agg #[.int .i64 ex.File,.int .i64 ex.Size,.int .i64 ex.Check,.slice ea0 ex.Parts.length ec0])),(some 111,.v (.pointer (some ⟨w.heap.size,2,none⟩))),(some 112,.v (.string x.Data)),(some 113,bV4 y.w.heap.size (Y3 ex x.Data)),(some 114,.v (.pointer (some ⟨fb,0+k*4,none⟩))),(none,.v undef)]) kr (fun val W=>by kernel_rfl) ?ob18 ?lz18 ?pn18 ?tl18
      case ob18 =>
       refine⟨fun x6=>?_,fun x6=>?_,fun x6=>?_,fun x6=>?_,fun x6=>?_,fun x6=>?_,fun x6=>?_,trivial⟩
       ·exact am3 (fe4 x6.w) rfl kr _ Tryz.underlying74 rfl
       ·exact am3 (fe4 x6.w) rfl kr _ Tryz.underlying74 rfl
       ·exact bI3 (size:=4) (o:=0) (j:=k) (n:=8) (c:=fc) rfl kr Tryz.underlying74 kr hk8
       ·exact bY2 (HROW.out x6.w (ii:b8 y.w x6.w)) rfl kr _ Tryz.underlying179 rfl kr
       ·exact am3 (p4 x6.w) rfl kr _ Tryz.underlying9 rfl
       ·refine aR7 (f:=119) (args:=[.agg #[.int .i64 ex.File,.int .i64 ex.Size,.int .i64 ex.Check,.slice ea0 ex.Parts.length ec0],.string x.Data]) Tryz.func119 kr kr ((bC4 (B:=B) (Enc.keep HRD.out (aC7 (ii:b8 y.w x6.w))) HOK.out om).mono ?_)
        rintro _ _ ⟨vs2,χ2,rfl,hO2,y2,rfl⟩
        exact⟨_,rfl,⟨y2,rfl⟩,vs2,χ2,rfl,R4.map hO2 (.mono x6.size_le)⟩
       ·refine aq0 fun v13 q13=>bp9 ?_
        exact bI3 (size:=4) (o:=0) (j:=k) (n:=8) (c:=fc) rfl kr Tryz.underlying74 kr hk8
      case lz18 =>
       exact trivial
      case pn18=>exact fun _ _ _ _ _ _ h=>h
      case tl18 =>
       intro x6
       refine aq0 fun v13 q13=>?_
       obtain⟨vs2,χ2,rfl,hO2⟩:=(show isO y.w.heap.size (Y3 ex x.Data) v13 x6.w from q13)
       clear q13
       obtain⟨ra,rc,rfl,kO⟩:=hO2
       have HKO:=lH kO;clear kO
       refine aF1 rfl ?_
       simp only[ag8,ae9]
       simp only[nrm,if_true]
       go_upto_region 17 with(first|((with_reducible refine rl ?_);refine rq ?_;intro x)|(refine bD9 ao3 rfl _ (.tmp 114) (.tmp 113) rfl (HGK.out.to (ii:b8 y.w y.w)) (ii:b8 y.w x6.w) (by rw[show(ao3.get (au0 m x.Data k)).length=8 from HLK.out];exact fe4 y.w) (by rw[show(ao3.get (au0 m x.Data k)).length=8 from HLK.out];exact hk8) HKO.out.o0 HKO.out.ok rfl rfl om rfl rfl kr (w0:=w0) ii hb ?_;intro z6 hz6 hbq hh6))
       (try simp only[Act.put])
       have HZ6:=lH (show GB (fun k=>X k∨k=w.heap.size) B q z6.w (au0 m x.Data (k+1))by rw[← HST.out];exact hz6)
       have HX6:=lH (show ∀ j,(X j∨j=w.heap.size)→z6.w.heap[j]?=y.w.heap[j]? from fun j hj=>(hh6 j (Nat.lt_of_lt_of_le (HGK.out.xs hj).2 (ii:b8 y.w x6.w).out.size) (GB.xneN ao3 HGK.out (by rw[show(ao3.get (au0 m x.Data k)).length=8 from HLK.out];exact HCK.out) hj)).trans ((ii:b8 y.w x6.w).out.block j (HGK.out.xs hj).2))
       have HC6:=lH (show z6.w.cell? ⟨q,31,none⟩=some (.slice (some ⟨fb,0,none⟩) 8 fc)from(bk9 (hh6 q (Nat.lt_of_lt_of_le HGK.out.lt (ii:b8 y.w x6.w).out.size) hbq) 31).trans (fe4 x6.w))
       clear hz6 hh6
       have hqz:LtN q z6.w.heap.size:=⟨HZ6.out.lt⟩
       go_wp2_with (first|((with_reducible refine rl ?_);refine rq ?_;intro x))
       go_roundw
       case rel=>exact⟨k+1,by go_num,by omega,HZ6.out.to ii,lH ((aw2 HBK.out (HX6.out _ (.inr rfl))).to ii),lH (by first|exact HC6.out|exact j4 HZ6.out.lt HC6.out _),lH (fun j hj=>by first|exact(HX6.out j (.inl hj)).trans (HXK.out j hj)|exact(((ii:b8 z6.w _).out.block j (HZ6.out.xs (.inl hj)).2).trans (HX6.out j (.inl hj))).trans (HXK.out j hj)),b7.of⟩
       case measure=>simp[intOf];omega
     ·obtain rfl:k=8:=by omega
      have HZ7:=lH (show GB X B q y.w (B8 m x)by rw[HV.out,← bz8 HFL.out];exact HGK.out.less fun k hk=>.inl hk)
      go_wp2_with (first|((with_reducible refine rl ?_);refine rq ?_;intro x))
      (first|(refine bodyPost_end (v:=.tuple #[]) (by simp[results,Tryz.results26,go_sem]) rfl ?_)|(refine bodyPost_ret (v:=.tuple #[]) (by simp[results,Tryz.results26,go_sem]) rfl ?_))
      exact⟨⟨_,rfl⟩,HZ7.out.to ii,(fun j hj=>by first|exact HXK.out j hj|exact((ii:b8 y.w _).out.block j (HZ7.out.xs hj).2).trans (HXK.out j hj)),b7.of⟩
  ·have h1:¬ x.Apid=1:=by simpa using c1
   have h2:x.Apid=2:=by simpa using c2
   have HDR:=lH (fun(W:World)=>aX8 (s:=x.Data) (w:=W) om)
   cases hr:aa2 x.Data with
   | none =>
    have HV:=lH (show B8 m x=ad4 m from bN2 h2 hr)
    rw[hr]at HDR
    have HDR:=lH (show ∀ W,Calls Tryz.prog 118 #[.string x.Data] W (b5 W (.tuple #[.agg #[.int .i64 0,.int .i64 0,.int .i64 0,.string ⟨#[]⟩],.bool false]))from HDR.out)
    have HBD:=lH (fun(W:World) (g1:b8 W1 W) (g2:b8 w0 W)=>at2 (w0:=w0) (HG1.out.to g1) HI.out.inv.bad0 HI.out.inv.bad1 g2 hb)
    go_wp2_with (first|((with_reducible refine rl ?_);(repeat(first|go_big_quiet_step (first|fail)|simp only[c1]|simp only[c2]));refine wpQuiet_nil ?_;intro x))
    refine gm (HDR.out _) ?_
    intro y2
    go_wp2_with (first|((with_reducible refine rl ?_);refine rq ?_;intro x))
    refine(HBD.out _ ii ii).mono ?_
    rintro _ w9 ⟨⟨u,rfl⟩,hz9,hx9,z9,rfl⟩
    have HX9:=lH (show ∀ k,X k→z9.w.heap[k]?=w.heap[k]? from fun k hk=>((hx9 k (.inl hk)).trans ((ii:b8 W1 _).out.block k (HG1.out.xs (.inl hk)).2)).trans (HX0.out k hk))
    have HZ9:=lH (show GB X B q z9.w (ad4 m)from hz9.less fun k hk=>.inl hk)
    clear hx9 hz9
    go_wp2_with (first|((with_reducible refine rl ?_);refine rq ?_;intro x))
    (first|(refine bodyPost_end (v:=.tuple #[]) (by simp[results,Tryz.results26,go_sem]) rfl ?_)|(refine bodyPost_ret (v:=.tuple #[]) (by simp[results,Tryz.results26,go_sem]) rfl ?_))
    exact⟨⟨_,rfl⟩,(by rw[HV.out];exact HZ9.out.to ii),HX9.out,b7.of⟩
   | some r0 =>
    have HV:=lH (show B8 m x=bT9 m r0 from bT6 h2 hr)
    have HRG:=lH (aU4 hr om)
    rw[hr]at HDR
    have HDR:=lH (show ∀ W,Calls Tryz.prog 118 #[.string x.Data] W (b5 W (.tuple #[.agg #[.int .i64 r0.Id,.int .i64 r0.Priority,.int .i64 r0.Time,.string r0.Data],.bool true]))from HDR.out)
    clear hr
    go_wp2_with (first|((with_reducible refine rl ?_);(repeat(first|go_big_quiet_step (first|fail)|simp only[c1]|simp only[c2]));refine wpQuiet_nil ?_;intro x))
    refine gm (HDR.out _) ?_
    intro y2
    go_upto_region 13 with(first|((with_reducible refine rl ?_);refine rq ?_;intro x))
    (try simp only[Act.put])
    have HNB:=lH (j5.new y2.w [.int .i64 r0.Id,.int .i64 r0.Priority,.int .i64 r0.Time,.string r0.Data] 151 y2.w.heap.size rfl)
    have HG2:=lH (GB.prot (P:=fun k=>k=y2.w.heap.size) (HG1.out.to (ii:b8 W1 y2.w)) (ii:b8 y2.w (y2.w.alloc (.cells #[.int .i64 r0.Id,.int .i64 r0.Priority,.int .i64 r0.Time,.string r0.Data] 151))) (fun k hk=>by subst hk;simp))
    have HB2:=lH (HB.out.to (ii:b8 W1 (y2.w.alloc (.cells #[.int .i64 r0.Id,.int .i64 r0.Priority,.int .i64 r0.Time,.string r0.Data] 151))))
    have g2:b8 w0 (y2.w.alloc (.cells #[.int .i64 r0.Id,.int .i64 r0.Priority,.int .i64 r0.Time,.string r0.Data] 151)):=inferInstance
    have HX2:=lH (show ∀ k,X k→(y2.w.alloc (.cells #[.int .i64 r0.Id,.int .i64 r0.Priority,.int .i64 r0.Time,.string r0.Data] 151)).heap[k]?=w.heap[k]? from fun k hk=>((ii:b8 W1 (y2.w.alloc (.cells #[.int .i64 r0.Id,.int .i64 r0.Priority,.int .i64 r0.Time,.string r0.Data] 151))).out.block k (HG1.out.xs (.inl hk)).2).trans (HX0.out k hk))
    obtain⟨nbq,hnb⟩:∃ nbq,y2.w.heap.size=nbq:=⟨_,rfl⟩
    rw[hnb]at HG2 HNB ⊢
    generalize (y2.w.alloc (.cells #[.int .i64 r0.Id,.int .i64 r0.Priority,.int .i64 r0.Time,.string r0.Data] 151))=W2 at HNB HG2 HB2 g2 HX2 ⊢
    clear hnb p0 p2
    have iq2:LtN q W2.heap.size:=⟨HG2.out.lt⟩
    have ix2:LtN w.heap.size W2.heap.size:=⟨HB2.out.lt⟩
    have in2:LtN nbq W2.heap.size:=⟨HNB.out.lt⟩
    obtain⟨pa,pc,pe,pown,-,-⟩:=HG2.out.own aG3
    have HPE:=lH (pe W2)
    have HOW:=lH (show Own N3 151 4 B W2 pa pc m.Ground.Records from pown)
    obtain⟨pn,hpn⟩:∃ pn,m.Ground.Records.length=pn:=⟨_,rfl⟩
    have HPN:=lH hpn
    have hpb:pn≤1000000000:=by have:=HI.out.inv.recs;omega
    have pe2:∀ (W:World) [b8 W2 W],W.cell? ⟨q,30,none⟩=some (.slice pa pn pc):=fun W g=>hpn▸pe W
    have hBw:B≤W2.heap.size:=by have:=HG2.out.le;have:=HG2.out.lt;omega
    clear pe pown hpn
    refine I5 kr (T:=[8,9,10,11,12]) (Zs:=[(0,[])]) (H:=[(5,[]),(6,[]),(7,[])]) (C:=[7]) (Fs:=[(some 79,.v (.pointer (some ⟨q,0,none⟩))),(some 80,.v (.pointer (some ⟨q,0,none⟩))),(some 81,.v (.pointer (some ⟨q,0,none⟩))),(some 82,.v (.pointer (some ⟨q,16,none⟩))),(some 83,.v (.pointer (some ⟨q,30,none⟩))),(some 84,.v (.slice pa pn pc)),(some 85,.v (.agg #[.int .i64 r0.Id,.int .i64 r0.Priority,.int .i64 r0.Time,.string r0.Data])),(some 86,.sl W2.heap.size 1 [.int .i64 r0.Id,.int .i64 r0.Priority,.int .i64 r0.Time,.string r0.Data] 151),(none,.v undef),(none,.v undef),(none,.v undef),(none,.v undef),(none,.v undef)]) kr (fun val W=>by kernel_rfl) ?ob13 ?lz13 ?pn13 ?tl13
    case ob13 =>
     refine⟨fun x6=>?_,fun x6=>?_,fun x6=>?_,trivial⟩
     ·exact am3 (pe2 x6.w) rfl kr _ Tryz.underlying73 rfl
     ·exact bd2 (o:=0) (cs:=[.int .i64 r0.Id,.int .i64 r0.Priority,.int .i64 r0.Time,.string r0.Data]) (row:=[.int .i64 r0.Id,.int .i64 r0.Priority,.int .i64 r0.Time,.string r0.Data]) (HNB.out.to (ii:b8 W2 x6.w)) rfl kr _ Tryz.underlying151 rfl kr rfl
     ·exact ca4 rfl kr LeN.out
    case lz13 =>
     refine⟨fun W hW=>bp9 ?_,trivial⟩
     intro W9
     kernel_rfl
    case pn13=>exact fun _ _ _ _ _ _ h=>h
    case tl13 =>
     intro x6
     refine aq0 fun v8 q8=>?_
     obtain⟨bs,rfl,hbs,hH⟩:=(show ∃ b,v8=.slice (some ⟨b,0,none⟩) 1 1∧W2.heap.size≤b∧j5 x6.w b [.int .i64 r0.Id,.int .i64 r0.Priority,.int .i64 r0.Time,.string r0.Data] 151 from q8)
     clear q8
     refine cb3 rfl rfl rfl rfl rfl ?_
     simp only[ag8,ae9]
     simp only[nrm,if_true]
     refine ac6 (enc:=N3) (w0:=w0) (z:=.agg #[.int .i64 0,.int .i64 0,.int .i64 0,.string ⟨#[]⟩]) (size:=4) (bytes:=40) (n:=pn) r0 rfl (.tmp 84) (.tmp 86) rfl Tryz.underlying73 kr rfl de de kr kr HPN.out (HOW.out.to (ii:b8 W2 x6.w)) hH rfl (an9 _) hpb (Nat.le_trans hBw (ii:b8 W2 x6.w).out.size) ii hb ?_
     intro sa3 sc3 xw hown1 hgr1 hblk1
     have hp4:=GBp.app (F:=aG3) HG2.out HPE.out (ii:b8 W2 x6.w) hown1 hgr1 hblk1 HRG.out
     have HP4:=lH hp4.1
     have HX4:=lH (show ∀ k,X k→xw.w.heap[k]?=W2.heap[k]? from fun k hk=>(hp4.2 k (.inl (.inl hk))).trans ((ii:b8 W2 x6.w).out.block k (HG2.out.xs (.inl (.inl hk))).2))
     clear hown1 hgr1 hblk1 hp4 hH
     (try simp only[nrm])
     go_wp2_with (first|((with_reducible refine rl ?_);refine rq ?_;intro x)|(refine at5 (bL5 HPN.out) rfl _ _ _ rfl HP4.out kr kr kr (w0:=w0) ii hb ?_;intro z5 hz5 hX5))
     have HZ5:=lH (show GB X B q z5.w (B8 m x)by rw[HV.out];exact hz5.less fun k hk=>.inl (.inl hk))
     have HX5:=lH (show ∀ k,X k→z5.w.heap[k]?=w.heap[k]? from fun k hk=>((hX5 k (.inl (.inl hk))).trans (HX4.out k hk)).trans (HX2.out k hk))
     clear hz5 hX5
     (first|(refine bodyPost_end (v:=.tuple #[]) (by simp[results,Tryz.results26,go_sem]) rfl ?_)|(refine bodyPost_ret (v:=.tuple #[]) (by simp[results,Tryz.results26,go_sem]) rfl ?_))
     exact⟨⟨_,rfl⟩,HZ5.out.to ii,HX5.out,b7.of⟩
 ·have h1:x.Apid=1:=by simpa using c1
  by_cases h5:x.Data.size=5
  ·obtain⟨d2,hd2⟩:∃ d2,x.Data.extract 0 2=d2:=⟨_,rfl⟩
   have ed:=hd2
   have hdz:d2.size≤100000000:=by rw[← hd2];simp only[ByteArray.size_extract];omega
   have j2:(2:Int)≤x.Data.size:=by omega
   have HDN:=lH (fun(W:World)=>aX6 (s:=d2) (w:=W) hdz)
   have d5:((x.Data.size:Int) == 5)=true:=by simp;omega
   cases hn:ac8 (x.Data.extract 0 2)with
   | none =>
    have HV:=lH (show B8 m x=ad4 m from bN1 h1 hn)
    rw[hd2]at hn
    rw[hn]at HDN
    have HDN:=lH (show ∀ W,Calls Tryz.prog 114 #[.string d2] W (b5 W (.tuple #[.agg #[.int .i64 0,.bool false,.bool false],.bool false]))from HDN.out)
    have HBD:=lH (fun(W:World) (g1:b8 W1 W) (g2:b8 w0 W)=>at2 (w0:=w0) (HG1.out.to g1) HI.out.inv.bad0 HI.out.inv.bad1 g2 hb)
    go_wp2_with (first|((with_reducible refine rl ?_);(repeat(first|go_big_quiet_step (first|fail)|simp only[c1]|simp only[d5]|simp only[ed]));refine wpQuiet_nil ?_;intro x))
    refine gm (HDN.out _) ?_
    intro y2
    go_wp2_with (first|((with_reducible refine rl ?_);refine rq ?_;intro x))
    refine(HBD.out _ ii ii).mono ?_
    rintro _ w9 ⟨⟨u,rfl⟩,hz9,hx9,z9,rfl⟩
    have HX9:=lH (show ∀ k,X k→z9.w.heap[k]?=w.heap[k]? from fun k hk=>((hx9 k (.inl hk)).trans ((ii:b8 W1 _).out.block k (HG1.out.xs (.inl hk)).2)).trans (HX0.out k hk))
    have HZ9:=lH (show GB X B q z9.w (ad4 m)from hz9.less fun k hk=>.inl hk)
    clear hx9 hz9
    go_wp2_with (first|((with_reducible refine rl ?_);refine rq ?_;intro x))
    (first|(refine bodyPost_end (v:=.tuple #[]) (by simp[results,Tryz.results26,go_sem]) rfl ?_)|(refine bodyPost_ret (v:=.tuple #[]) (by simp[results,Tryz.results26,go_sem]) rfl ?_))
    exact⟨⟨_,rfl⟩,(by rw[HV.out];exact HZ9.out.to ii),HX9.out,b7.of⟩
   | some n0 =>
    obtain⟨ne,nl,na⟩:=n0
    have hn2:=hn
    rw[hd2]at hn2
    rw[hn2]at HDN
    clear hn2
    have HV:=lH (show B8 m x=bJ4 m ⟨ne,nl,na⟩ (as9 x.Data)from bT5 h1 h5 hn)
    have hne:=bl2 hn
    have HNE:=lH hne
    have hcb:=bx5 x.Data
    obtain⟨cl,hcl⟩:∃ cl,as9 x.Data=cl:=⟨_,rfl⟩
    have HCL:=lH (show R8 x.Data 2 3=cl by rw[← hcl];show(((0:Int)*256+bAt x.Data 2)*256+bAt x.Data 3)*256+bAt x.Data 4=(bAt x.Data 2*256+bAt x.Data 3)*256+bAt x.Data 4;omega)
    rw[hcl]at HV hcb
    clear hcl hn hne
    have HDN:=lH (show ∀ W,Calls Tryz.prog 114 #[.string d2] W (b5 W (.tuple #[.agg #[.int .i64 ne,.bool nl,.bool na],.bool true]))from HDN.out)
    go_wp2_with (first|((with_reducible refine rl ?_);(repeat(first|go_big_quiet_step (first|fail)|simp only[c1]|simp only[d5]|simp only[ed]));refine wpQuiet_nil ?_;intro x))
    refine gm (HDN.out _) ?_
    intro y2
    go_upto_region 6 with(first|((with_reducible refine rl ?_);refine rq ?_;intro x))
    (try simp only[Act.put])
    have HNB:=lH (j5.new y2.w [.int .i64 ne,.bool nl,.bool na] 70 y2.w.heap.size rfl)
    have HG2:=lH (GB.prot (P:=fun k=>k=y2.w.heap.size) (HG1.out.to (ii:b8 W1 y2.w)) (ii:b8 y2.w (y2.w.alloc (.cells #[.int .i64 ne,.bool nl,.bool na] 70))) (fun k hk=>by subst hk;simp))
    have HB2:=lH (HB.out.to (ii:b8 W1 (y2.w.alloc (.cells #[.int .i64 ne,.bool nl,.bool na] 70))))
    have g2:b8 w0 (y2.w.alloc (.cells #[.int .i64 ne,.bool nl,.bool na] 70)):=inferInstance
    have HX2:=lH (show ∀ k,X k→(y2.w.alloc (.cells #[.int .i64 ne,.bool nl,.bool na] 70)).heap[k]?=w.heap[k]? from fun k hk=>((ii:b8 W1 (y2.w.alloc (.cells #[.int .i64 ne,.bool nl,.bool na] 70))).out.block k (HG1.out.xs (.inl hk)).2).trans (HX0.out k hk))
    obtain⟨nbq,hnb⟩:∃ nbq,y2.w.heap.size=nbq:=⟨_,rfl⟩
    rw[hnb]at HG2 HNB ⊢
    generalize (y2.w.alloc (.cells #[.int .i64 ne,.bool nl,.bool na] 70))=W2 at HNB HG2 HB2 g2 HX2 ⊢
    clear hnb p0 p2
    have iq2:LtN q W2.heap.size:=⟨HG2.out.lt⟩
    have ix2:LtN w.heap.size W2.heap.size:=⟨HB2.out.lt⟩
    have in2:LtN nbq W2.heap.size:=⟨HNB.out.lt⟩
    go_upto_region 7 with(first|((with_reducible refine rl ?_);refine rq ?_;intro x)|(refine lA rfl _ _ rfl (nbq) 0 kr [.int .i64 ne,.bool nl,.bool na] HNB Tryz.underlying70 ?_)|(refine al9 (o:=21) (us:=[.int .i64 ne,.bool nl,.bool na]) ({ m with Ground:={ m.Ground with Notice:=⟨ne,nl,na⟩ } }:f7) rfl _ (.tmp 31) (.tmp 28) rfl (HG2.out.to ii) kr kr kr rfl nb (by intros;rename_i h;obtain⟨A1,rfl,p⟩:=h;exact⟨A1,rfl,{ p with ok:=bS7 p.ok HNE.out }⟩) (w0:=w0) ii hb ?_;intro z3 hz3 hX3))
    (try simp only[Act.put])
    obtain⟨m3,hm3⟩:∃ m3:f7,{ m with Ground:={ m.Ground with Notice:=⟨ne,nl,na⟩ } }=m3:=⟨_,rfl⟩
    rw[hm3]at hz3
    have HZ3:=lH hz3
    have HX3:=lH hX3
    have HN3:=lH (aw2 HNB.out (hX3 nbq (.inr rfl)))
    have HB3:=lH (aw2 HB2.out (hX3 _ (.inl (.inr rfl))))
    have HM3:=lH hm3
    clear hz3 hX3
    have iq3:LtN q z3.w.heap.size:=⟨HZ3.out.lt⟩
    have in3:LtN nbq z3.w.heap.size:=⟨HN3.out.lt⟩
    have ix3:LtN w.heap.size z3.w.heap.size:=⟨HB3.out.lt⟩
    have HS3:=lH (show Enc.tot m3.Ground.Sender≤100000000 by rw[← HM3.out];exact HI.out.snd)
    have HSE:=lH (show m3.Ground.Sender=m.Ground.Sender by rw[← HM3.out])
    clear hm3
    obtain⟨vs5,A5,hV5,hvs5,F5⟩:=al3 HZ3.out
    have HV5:=lH hV5
    obtain⟨sd5,hsd⟩:∃ sd5,(vs5.drop 17).take 4=sd5:=⟨_,rfl⟩
    have HRD:=lH hsd
    have HSR:=lH (show Enc.Rd B z3.w sd5 m3.Ground.Sender from by rw[← hsd,hvs5];exact⟨A5.a4,A5.c4,rfl,F5.q4,F5.ok.2.2.2.2.2.2.1.1⟩)
    clear hV5 hvs5 hsd F5
    have HL5:=lH (aS0 HSR.out)
    refine I5 kr (T:=[11]) (Zs:=[]) (H:=[(5,[]),(6,[]),(7,[])]) (C:=[7]) (Fs:=[(some 32,.v (.pointer (some ⟨q,0,none⟩))),(some 33,.v (.pointer (some ⟨q,0,none⟩))),(some 34,.v (.pointer (some ⟨q,0,none⟩))),(some 35,.v (.pointer (some ⟨q,16,none⟩))),(some 36,.v (.pointer (some ⟨q,17,none⟩))),(some 37,.v (.agg sd5.toArray)),(some 38,.v (.agg #[.int .i64 ne,.bool nl,.bool na])),(some 39,bV4 z3.w.heap.size (R9 m3.Ground.Sender ⟨ne,nl,na⟩)),(some 40,.v (.pointer (some ⟨q,0,none⟩))),(some 41,.v (.pointer (some ⟨q,16,none⟩))),(some 42,.v (.pointer (some ⟨q,17,none⟩))),(none,.v undef)]) kr (fun val W=>by kernel_rfl) ?ob7 ?lz7 ?pn7 ?tl7
    case ob7 =>
     refine⟨fun x6=>?_,fun x6=>?_,fun x6=>?_,trivial⟩
     ·exact bd2 (o:=17) (cs:=vs5) (row:=sd5) (HV5.out.to (ii:b8 z3.w x6.w)) rfl kr _ Tryz.underlying69 rfl (by rw[HL5.out];kernel_rfl) (by rw[HL5.out];exact HRD.out)
     ·exact bd2 (o:=0) (cs:=[.int .i64 ne,.bool nl,.bool na]) (row:=[.int .i64 ne,.bool nl,.bool na]) (HN3.out.to (ii:b8 z3.w x6.w)) rfl kr _ Tryz.underlying70 rfl kr rfl
     ·refine aR7 (f:=115) (args:=[.agg sd5.toArray,.agg #[.int .i64 ne,.bool nl,.bool na]]) Tryz.func115 kr kr ((bk3 (B:=B) (nt:=⟨ne,nl,na⟩) (Enc.keep HSR.out (aC7 (ii:b8 z3.w x6.w))) HNE.out HS3.out).mono ?_)
      rintro _ _ ⟨vs2,χ2,rfl,hO2,y2,rfl⟩
      exact⟨_,rfl,⟨y2,rfl⟩,vs2,χ2,rfl,R4.map hO2 (.mono x6.size_le)⟩
    case lz7 =>
     exact trivial
    case pn7=>exact fun _ _ _ _ _ _ h=>h
    case tl7 =>
     intro x6
     refine aq0 fun v13 q13=>?_
     obtain⟨vs2,χ2,rfl,hO2⟩:=(show isO z3.w.heap.size (R9 m3.Ground.Sender ⟨ne,nl,na⟩) v13 x6.w from q13)
     clear q13
     refine aF1 rfl ?_
     simp only[ag8,ae9]
     simp only[nrm,if_true]
     have HL2:=lH (aS0 (W0.toRd hO2))
     have HPP:=lH (GBq.new (D:=aZ6) HZ3.out (ii:b8 z3.w x6.w) hO2)
     clear hO2
     go_upto_region 8 with(first|((with_reducible refine rl ?_);refine rq ?_;intro x)|(refine bD8 rfl _ (.tmp 42) (.tmp 39) rfl HPP.out kr kr (by rw[HL2.out];kernel_rfl) (w0:=w0) ii hb ?_;intro z4 hz4 hX4))
     (try simp only[Act.put])
     obtain⟨m4,hm4⟩:∃ m4,aZ6.set m3 (R9 m3.Ground.Sender ⟨ne,nl,na⟩)=m4:=⟨_,rfl⟩
     rw[hm4]at hz4
     have HZ4:=lH hz4
     have HX4:=lH (show ∀ k,((X k∨k=w.heap.size)∨k=nbq)→z4.w.heap[k]?=z3.w.heap[k]? from fun k hk=>(hX4 k hk).trans ((ii:b8 z3.w x6.w).out.block k (HZ3.out.xs hk).2))
     have HB4:=lH (aw2 HB3.out (HX4.out _ (.inl (.inr rfl))))
     have iq4:LtN q z4.w.heap.size:=⟨HZ4.out.lt⟩
     have ix4:LtN w.heap.size z4.w.heap.size:=⟨HB4.out.lt⟩
     clear hz4 hX4 HPP
     have HT4:=lH (show m4.Time=m.Time∧m4.Light=m.Light∧m4.Ground.Pairs=m.Ground.Pairs by rw[← hm4,← HM3.out];exact⟨rfl,rfl,rfl⟩)
     have HV4:=lH (show aw3.set m4 (X9 m.Ground.Pairs ⟨cl,m.Time - m.Light⟩)=bJ4 m ⟨ne,nl,na⟩ cl by rw[← hm4,← HM3.out];rfl)
     clear hm4
     have htm0:=HI.out.tim.1;have htm1:=HI.out.tim.2;have hlt0:=HI.out.lig.1;have hlt1:=HI.out.lig.2
     obtain⟨pa,pc,pe,pown,pgood,prd⟩:=HZ4.out.own aw3
     obtain⟨pl,hpl⟩:∃ pl,m.Ground.Pairs=pl:=⟨_,rfl⟩
     have hple:(aw3.get m4)=pl:=by rw[← hpl];exact HT4.out.2.2
     rw[hple]at pe pown pgood prd
     obtain⟨pn,hpn⟩:∃ pn,pl.length=pn:=⟨_,rfl⟩
     rw[hpn]at pe
     have HPN:=lH hpn
     have hpb:pn≤1048576:=by have:=HI.out.inv.pairs;rw[hpl]at this;omega
     have HPR:=lH (show RdS B z4.w pa pc pl from prd)
     have HPG:=lH (show ∀ p∈pl,bu4 p from pgood)
     rw[hpl]at HV4
     have et:=br2 HZ4.out
     rw[HT4.out.1]at et
     obtain⟨vs6,A6,hV6,hvs6,-⟩:=al3 HZ4.out
     have el:∀ (W:World) [b8 z4.w W],W.cell? ⟨q,1,none⟩=some (.int .i64 m.Light):=fun W g=>(hV6.to g).cell 1 |>.trans (by rw[hvs6,← HT4.out.2.1];rfl)
     clear hV6 hvs6 pown pgood prd hpn hple hpl
     have HAG:=lH (aL1 (c:=cl) (t:=m.Time) (u:=m.Light) HPG.out hcb htm0 htm1 hlt0 hlt1)
     have HAP:=lH (fun(W:World) (gg:b8 z4.w W)=>bF1 (c:=pc) (p:=⟨cl,m.Time - m.Light⟩) (w:=W) ((RdS.slF HPR.out).to gg) HPR.out.nilcap HPN.out hpb)
     obtain⟨al,hal⟩:∃ al,X9 pl ⟨cl,m.Time - m.Light⟩=al:=⟨_,rfl⟩
     rw[hal]at HV4 HAG HAP
     clear hal
     obtain⟨an,han⟩:∃ an,al.length=an:=⟨_,rfl⟩
     have HAN:=lH han
     clear han
     have p2:=HB4.out.cellG 2 _ rfl
     go_wp2_with (first|((with_reducible refine rl ?_);refine rq ?_;intro x))
     refine gm (Y4 (a:=2) (k:=3) de de om om) ?_
     intro y5
     rw[HCL.out]
     go_upto_region 9 with(first|((with_reducible refine rl ?_);refine rq ?_;intro x))
     refine I5 kr (T:=[21]) (Zs:=[]) (H:=[(5,[]),(10,[]),(14,[]),(15,[]),(17,[])]) (C:=[17]) (Fs:=[(some 49,.v (.pointer (some ⟨q,0,none⟩))),(some 50,.v (.pointer (some ⟨q,0,none⟩))),(some 51,.v (.pointer (some ⟨q,0,none⟩))),(some 52,.v (.pointer (some ⟨q,16,none⟩))),(some 53,.v (.pointer (some ⟨q,29,none⟩))),(some 54,.v (.slice pa pn pc)),(some 55,.v (.int .i64 (cl))),(some 56,.v (.pointer (some ⟨q,0,none⟩))),(some 57,.v (.pointer (some ⟨q,0,none⟩))),(some 58,.v (.pointer (some ⟨q,0,none⟩))),(some 59,.v (.int .i64 (m.Time))),(some 60,.v (.pointer (some ⟨q,0,none⟩))),(some 61,.v (.pointer (some ⟨q,0,none⟩))),(some 62,.v (.pointer (some ⟨q,1,none⟩))),(some 63,.v (.int .i64 (m.Light))),(some 64,.v (.int .i64 (m.Time - m.Light))),(some 65,.v (.agg #[.int .i64 cl,.int .i64 (m.Time - m.Light)])),(some 66,bX2 M4 206 2 z4.w.heap.size an al),(some 67,.v (.pointer (some ⟨q,0,none⟩))),(some 68,.v (.pointer (some ⟨q,16,none⟩))),(some 69,.v (.pointer (some ⟨q,29,none⟩))),(none,.v undef)]) kr (fun val W=>by kernel_rfl) ?ob9p ?lz9p ?pn9p ?tl9p
     case ob9p =>
      refine⟨fun x6=>?_,fun x6=>?_,fun x6=>?_,fun x6=>?_,fun x6=>?_,trivial⟩
      ·exact am3 (pe x6.w) rfl kr _ Tryz.underlying72 rfl
      ·exact am3 (et x6.w) rfl kr _ Tryz.underlying3 rfl
      ·exact am3 (el x6.w) rfl kr _ Tryz.underlying3 rfl
      ·exact ak9 (o:=.sub) (p:=.i64) (s:=m.Time) (q:=.i64) (t:=m.Light) rfl kr (fun ty ty2 w=>bD7 om om ty w)
      ·refine aR7 (f:=117) (args:=[.slice pa pn pc,.agg #[.int .i64 cl,.int .i64 (m.Time - m.Light)]]) Tryz.func117 kr kr ((HAP.out x6.w ii).mono ?_)
       rintro _ _ ⟨a1,c1,rfl,own1,y1,rfl⟩
       exact⟨_,rfl,⟨y1,rfl⟩,a1,c1,by rw[HAN.out],own1.mono (ii:b8 z4.w x6.w).out.size⟩
     case lz9p =>
      exact trivial
     case pn9p=>exact fun _ _ _ _ _ _ h=>h
     case tl9p =>
      intro x6
      refine aq0 fun v13 q13=>?_
      obtain⟨a1,c1,rfl,own1⟩:=(show bY6 M4 206 2 z4.w.heap.size an al v13 x6.w from q13)
      clear q13
      refine aF1 rfl ?_
      simp only[ag8,ae9]
      simp only[nrm,if_true]
      have HPP:=lH (GBp.new (F:=aw3) HZ4.out (ii:b8 z4.w x6.w) (B6.of own1 HAG.out (0,0)))
      clear own1
      go_wp2_with (first|((with_reducible refine rl ?_);refine rq ?_;intro x)|(refine at5 HAN.out rfl _ (.tmp 69) (.tmp 66) rfl HPP.out kr kr kr (w0:=w0) ii hb ?_;intro z5 hz5 hX5))
      have HZ5:=lH (show GB X B q z5.w (B8 m x)by rw[HV.out,← HV4.out];exact hz5.less fun k hk=>.inl (.inl hk))
      have HX5:=lH (show ∀ k,X k→z5.w.heap[k]?=w.heap[k]? from fun k hk=>((((hX5 k (.inl (.inl hk))).trans ((ii:b8 z4.w x6.w).out.block k (HZ4.out.xs (.inl (.inl hk))).2)).trans (HX4.out k (.inl (.inl hk)))).trans ((HX3.out k (.inl (.inl hk))).trans ((ii:b8 W2 W2).out.block k (HG2.out.xs (.inl (.inl hk))).2))).trans (HX2.out k hk))
      clear hz5 hX5
      (first|(refine bodyPost_end (v:=.tuple #[]) (by simp[results,Tryz.results26,go_sem]) rfl ?_)|(refine bodyPost_ret (v:=.tuple #[]) (by simp[results,Tryz.results26,go_sem]) rfl ?_))
      exact⟨⟨_,rfl⟩,HZ5.out.to ii,HX5.out,b7.of⟩
  ·have HV:=lH (show B8 m x=ad4 m from bN3 h1 h5)
   have d5:((x.Data.size:Int) == 5)=false:=by simp;omega
   have HBD:=lH (fun(W:World) (g1:b8 W1 W) (g2:b8 w0 W)=>at2 (w0:=w0) (HG1.out.to g1) HI.out.inv.bad0 HI.out.inv.bad1 g2 hb)
   go_wp2_with (first|((with_reducible refine rl ?_);(repeat(first|go_big_quiet_step (first|fail)|simp only[c1]|simp only[d5]));refine wpQuiet_nil ?_;intro x))
   refine(HBD.out _ ii ii).mono ?_
   rintro _ w9 ⟨⟨u,rfl⟩,hz9,hx9,z9,rfl⟩
   have HX9:=lH (show ∀ k,X k→z9.w.heap[k]?=w.heap[k]? from fun k hk=>((hx9 k (.inl hk)).trans ((ii:b8 W1 _).out.block k (HG1.out.xs (.inl hk)).2)).trans (HX0.out k hk))
   have HZ9:=lH (show GB X B q z9.w (ad4 m)from hz9.less fun k hk=>.inl hk)
   clear hx9 hz9
   go_wp2_with (first|((with_reducible refine rl ?_);refine rq ?_;intro x))
   (first|(refine bodyPost_end (v:=.tuple #[]) (by simp[results,Tryz.results26,go_sem]) rfl ?_)|(refine bodyPost_ret (v:=.tuple #[]) (by simp[results,Tryz.results26,go_sem]) rfl ?_))
   exact⟨⟨_,rfl⟩,(by rw[HV.out];exact HZ9.out.to ii),HX9.out,b7.of⟩
