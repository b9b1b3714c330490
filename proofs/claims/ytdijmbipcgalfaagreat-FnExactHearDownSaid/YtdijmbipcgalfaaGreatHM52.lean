/- HearDown of the reference. No condition but on sizes. -/
import Derived.Test.YtdijmbipcgalfaaGreatHM50
import Derived.Test.YtdijmbipcgalfaaGreatHDwnS3
import Derived.Test.YtdijmbipcgalfaaGreatHM37
import Derived.Test.YtdijmbipcgalfaaGreatHMisS
import Derived.Test.YtdijmbipcgalfaaGreatHCopyMS
import Derived.Deep.CutRange
import Derived.Test.YtdijmbipcgalfaaGreatHM43
import Derived.Test.YtdijmbipcgalfaaGreatHM7
import Derived.Test.YtdijmbipcgalfaaGreatHM0
namespace Go.Proofs.YtdijmbipcgalfaaGreat
set_option maxRecDepth 100000
set_option maxHeartbeats 4000000
set_option linter.unusedVariables false
open Go.ChangeShapes Go.WideShapes Go.ChangeAt Go.RowKit
private abbrev bK8:=Tryz.underlying60
private abbrev as5:=Tryz.underlying90
theorem bC3{B:Nat}{vs:List Value}{m:f7}{w:World}(h:Enc.Rd B w vs m)(ht:Enc.tot m≤100000000) :
  Calls Tryz.prog 6 #[.agg vs.toArray] w (R3 w (S7 m)):=by
 have HL:=lH (ab9 h)
 have HM:=lH h;clear h
 have HT:=lH ht;clear ht
 have HB:=lH ((j5.new w vs 90 w.heap.size rfl).to (ii:b8 _ ((w.alloc (.cells vs.toArray 90)).alloc (.cells A3.toArray 90))))
 have HR:=lH (j5.new (w.alloc (.cells vs.toArray 90)) A3 90 (w.heap.size+1) si)
 have gW:b8 w ((w.alloc (.cells vs.toArray 90)).alloc (.cells A3.toArray 90)):=inferInstance
 have hsz:((w.alloc (.cells vs.toArray 90)).alloc (.cells A3.toArray 90)).heap.size=w.heap.size+2:=by simp
 go_enter Tryz.func6,Tryz.ntmps6
 go_upto_region 1 with(fail)
 generalize ((w.alloc (.cells vs.toArray 90)).alloc (.cells A3.toArray 90))=W2 at HB HR gW hsz ⊢
 have iB:LtN w.heap.size W2.heap.size:=⟨by omega⟩
 have iR:LtN (w.heap.size+1) W2.heap.size:=⟨by omega⟩
 have hW2:w.heap.size≤W2.heap.size:=by omega
 go_wp2_with (first|(refine sL rfl _ (.tmp 1) rfl (w.heap.size) kr HB ii as5 HL ?_))
 refine(bj0 (x:=m) (Enc.keep HM.out ii) HT.out).mono ?_
 rintro _ _ ⟨cs,χ,rfl,hO,y1,rfl⟩
 have HLC:=lH (ab9 (W0.toRd hO));have HOC:=lH (an1 (W0.toRd hO));have HO:=lH hO;clear hO
 go_upto_region 2 with(first|(refine sW rfl _ _ _ rfl _ rfl (us:=cs) (j5.new _ A3 90 _ rfl) HLC HOC (w0:=W2) ii LeN.out ?_;intro z1 HX1 KX1))
 (try simp only[Act.put])
 obtain⟨qb,hqb⟩:∃ qb,y1.w.heap.size=qb:=⟨_,rfl⟩
 rw[hqb]
 have HG:=lH (show GB (fun _=>False) W2.heap.size qb z1.w m from hqb▸GB.of HO.out (KX1.out.under ii nl) y1.size_le HX1.out)
 have hqB:W2.heap.size≤qb:=HG.out.le
 have hqlt:LtN qb z1.w.heap.size:=⟨HG.out.lt⟩
 clear hqb HX1 KX1 HO HLC HOC
 go_wp2_with (first|(refine sL rfl _ (.tmp 1) rfl (w.heap.size) kr HB ii as5 HL ?_))
 refine gm (bp3 (m:=m) (Enc.keep HM.out ii) HT.out) ?_
 intro y2
 cases hv:j7 m
 ·obtain⟨vs9,hH9,hl9,h19,-,χ9,hO9⟩:=HG.out.vs
  have HH9:=lH hH9;have HO9:=lH hO9;have H19:=lH h19;have HL9:=lH (show vs9.length=61 from hl9)
  clear hO9 hH9 h19 hl9
  go_wp2_with (first|(refine sL rfl _ (.tmp 3) rfl (qb) kr HH9 ii as5 HL9 ?_)|(refine sW rfl _ _ _ rfl (w.heap.size+1) rfl (us:=vs9) (HR.out.to ii) HL9 H19 (w0:=w) ii om ?_;intro z9 HX9 KX9))
  refine bodyPost_ret (v:=.agg vs9.toArray) (A7 (P:=Tryz.prog) rfl rfl HX9.out _ as5 rfl (by rw[HL9.out];kernel_rfl)) rfl ?_
  rw[show S7 m=m by rw[S7,if_neg (by rw[hv];decide)]]
  exact⟨vs9,χ9,rfl,ac2 (ah9 HO9.out ii) KX9.out (show w.heap.size+1<W2.heap.size by omega) hW2,b7.of⟩
 ·have HUS:=lH (ay9 hv)
  have HBX:=lH (bz6 hv HT.out)
  have HHU:=lH (show S7 m=((ag9 m.Time m.Downs).map k5.Data).foldl R5 (Y7 m)by rw[S7,if_pos hv])
  clear hv
  have hul:m.Downs.length≤100000000:=by have:=HUS.out.2.1;omega
  obtain⟨ua,uc,ue,-,hgood,hrd⟩:=HG.out.own aR8
  have HGD:=lH (show ∀ p∈m.Downs,aj6 p from hgood)
  clear hgood
  clear ue hrd
  obtain⟨A,hvs,F⟩:=HM.out
  have HR14:=lH (show vs[15]?=some (.slice A.a2 m.Downs.length A.c2)by rw[hvs];rfl)
  have HR0:=lH (show vs[0]?=some (.int .i64 m.Time)by rw[hvs];rfl)
  have HRD:=lH F.q2
  clear hvs F
  go_upto_region 5 with(first|(refine lB (v:=.slice A.a2 m.Downs.length A.c2) rfl _ (.tmp 21) rfl (w.heap.size) 15 kr HB HR14.out Tryz.underlying66 ?_)|(refine lB (v:=.int .i64 m.Time) rfl _ (.tmp 23) rfl (w.heap.size) 0 kr HB HR0.out Tryz.underlying3 ?_)|(go_at_call 21;refine(bg9 (l:=m.Downs) (t:=m.Time) (HRD.out.keep (aC7 ii)) hul).mono ?_;rintro _ _ ⟨da,la,dc,lc,rfl,od,ol,hne,y3,rfl⟩))
  obtain⟨F,hF⟩:∃ F,ag9 m.Time m.Downs=F:=⟨_,rfl⟩
  have HFM:=lH (show ∀ f∈F,f∈m.Downs from fun f hf=>(List.mem_filter.1 (show f∈ag9 m.Time m.Downs by rw[hF];exact hf)).1)
  obtain⟨LA,hLA⟩:∃ LA,W5 m.Time m.Downs=LA:=⟨_,rfl⟩
  have HLM:=lH (show ∀ f∈LA,f∈m.Downs from fun f hf=>(List.mem_filter.1 (show f∈W5 m.Time m.Downs by rw[hLA];exact hf)).1)
  have HLA:=lH hLA
  rw[hF]at HHU
  rw[hF]at od
  rw[hLA]at ol
  have HNL:=lH (show F.length≤1000 by rw[← hF];exact Nat.le_trans (List.length_filter_le _ _) HUS.out.2.1)
  rw[hF,hLA]
  clear hF hLA
  obtain⟨n,hn⟩:∃ n,F.length=n:=⟨_,rfl⟩
  have HN:=lH hn
  rw[hn]at HNL
  rw[hn]
  obtain⟨ln,hln⟩:∃ n,LA.length=n:=⟨_,rfl⟩
  have HLN:=lH hln
  rw[hln]
  clear hn hln
  obtain⟨BL,hBL⟩:∃ BL,(z1.andThen y2).w.heap.size=BL:=⟨_,rfl⟩
  have OD:=lH (show Own L4 9 1 BL ((z1.andThen y2).andThen y3).w da dc (F.map k5.Data)from hBL▸od)
  have HP5:=lH (GBp.newX (F:=aR8) (P:=fun j=>E9 da=some j) (u:=(z1.andThen y2).w) (w:=((z1.andThen y2).andThen y3).w) (HG.out.to ii) ii ol (fun p hp=>HGD.out p (HLM.out p hp)) (fun j hj=>⟨(od.blk j hj).1,(od.blk j hj).2,hne j hj⟩))
  clear od ol hne hBL
  go_upto_region 6 with(first|(refine at5 HLN.out rfl _ _ _ rfl HP5.out kr kr kr (w0:=W2) ii nl ?_;intro z5 hz5 hX5))
  (try simp only[Act.put])
  have HGL:=lH (show GB (fun k=>False∨E9 da=some k) W2.heap.size qb z5.w (Y7 m)from(show aR8.set m LA=Y7 m by rw[← HLA.out];rfl)▸hz5)
  have OD5:=lH (show Own L4 9 1 BL z5.w da dc (F.map k5.Data)from OD.out.same fun k hk _ _=>hX5 k (.inr hk))
  have HGF:=lH (show ∀ f∈F,aj6 f from fun f hf=>HGD.out f (HFM.out f hf))
  have HSZ:=lH (show ∀ d∈F.map k5.Data,d.size≤404 from fun d hd=>by obtain⟨f,hf,rfl⟩:=List.mem_map.1 hd;exact(HUS.out.2.2.1 f (HFM.out f hf)).2)
  have HF0:=lH HHU.out.symm
  have hn3:n≤1000:=HNL.out
  clear HRD HP5 OD hz5 hX5 HLA HGD HFM HLM HUS HHU HLN hul HR14 HR0
  go_wp2_with (fail)
  go_loopw [6] (fun v wr=>∃ (k:Nat) (x:f7),v=.int .i64 k∧k≤n∧Hid (((F.map k5.Data).drop k).foldl R5 x=S7 m)∧Hid (af3 (67*k) x)∧Hid (GB (fun k=>False∨E9 da=some k) W2.heap.size qb wr x)∧Hid (Own L4 9 1 BL wr da dc (F.map k5.Data))∧∃ y:b7 W2,wr=y.w) (fun v _=>(n - intOf v).toNat)
  case atStart=>exact⟨0,Y7 m,rfl,Nat.zero_le _,HF0,HBX,HGL.out.to ii,OD5.out.to ii,b7.of⟩
  case round =>
   obtain⟨k,x,rfl,hk,HF,HI,HGR,HOL,y,rfl⟩:=hrel
   by_cases hkn:k<n
   ·have hkm:k<(F.map k5.Data).length:=by rw[List.length_map,HN.out];exact hkn
    obtain⟨eb,eoff,s0,rfl,hob,hod,eh0⟩:=(Own.sl HOL.out).str hkm
    have HDR:=lH hod.out
    clear hod
    have hs0:s0.size≤404:=HSZ.out s0 (List.mem_of_mem_drop (show s0∈(F.map k5.Data).drop k by rw[HDR.out];simp))
    obtain⟨tx,htx⟩:∃ tx,aB6 (ad3 s0)=tx:=⟨_,rfl⟩
    have htz:tx.size≤400:=htx▸bf4 s0
    have HTX:=lH htx
    have hqy:LtN qb y.w.heap.size:=⟨HGR.out.lt⟩
    have HF2:=lH (show((F.map k5.Data).drop (k+1)).foldl R5 (R5 x s0)=S7 m by have:=HF.out;rw[HDR.out,List.foldl_cons]at this;exact this)
    have HI2:=lH (show af3 (67*(k+1)) (R5 x s0)from(HI.out.down s0).more om)
    obtain⟨vs5,A5,hV5,hvs5,F5⟩:=al3 HGR.out
    have HV:=lH hV5
    obtain⟨up,hup⟩:∃ up,x.Ground.Unpacker=up:=⟨_,rfl⟩
    have HUP:=lH hup
    have HR24:=lH (show(vs5.drop 24).take 5=[.int .i64 up.Channel,.int .i64 up.Next,.bool up.Synced,.string up.Rest,.int .i64 up.Lost]by rw[hvs5,← hup];rfl)
    have HUO:=lH (show j6 up=true from hup▸HI.out.inv.unp)
    clear hV5 hvs5 F5 hup
    go_wp2_with (fail)
    refine gm (bF6 hs0) ?_
    intro y4
    rw[htx]
    cases c1:(ad3 s0).isSome
    ·have hd:U7 tx=none:=htx▸aR4 c1
     clear htx
     go_wp2_with (fail)
     refine gm (aC2 (s:=tx) om) ?_
     intro y6
     rw[hd,bI2]
     have HSB:=lH (show R5 x s0=ad4 x from aF8 (aR4 c1))
     go_wp2_with (fail)
     refine(at2 (w0:=W2) (HGR.out.to ii) HI.out.inv.bad0 HI.out.inv.bad1 ii nl).mono ?_
     rintro _ w9 ⟨⟨u,rfl⟩,hz9,hx9,z9,rfl⟩
     have HO9:=lH (show Own L4 9 1 BL z9.w (some ⟨eb,eoff,none⟩) dc (F.map k5.Data)from HOL.out.same fun k hk _ _=>(hx9 k (.inr hk)).trans ((ii:b8 y.w _).out.block k (HGR.out.xs (.inr hk)).2))
     have HZ9:=lH hz9
     clear hx9 hz9
     go_wp2_with (fail)
     go_roundw
     case rel=>exact⟨k+1,R5 x s0,by go_num,by omega,HF2,HI2,(by rw[HSB.out];exact HZ9.out.to ii),(HO9.out.to ii),b7.of⟩
     case measure=>simp[intOf];omega
    ·go_wp2_with (fail)
     refine gm (aC2 (s:=tx) om) ?_
     intro y6
     cases hd:U7 tx with
     | none =>
      rw[bI2]
      have HSB:=lH (show R5 x s0=ad4 x from aF8 (htx.symm▸hd))
      go_wp2_with (fail)
      refine(at2 (w0:=W2) (HGR.out.to ii) HI.out.inv.bad0 HI.out.inv.bad1 ii nl).mono ?_
      rintro _ w9 ⟨⟨u,rfl⟩,hz9,hx9,z9,rfl⟩
      have HO9:=lH (show Own L4 9 1 BL z9.w (some ⟨eb,eoff,none⟩) dc (F.map k5.Data)from HOL.out.same fun k hk _ _=>(hx9 k (.inr hk)).trans ((ii:b8 y.w _).out.block k (HGR.out.xs (.inr hk)).2))
      have HZ9:=lH hz9
      clear hx9 hz9
      go_wp2_with (fail)
      go_roundw
      case rel=>exact⟨k+1,R5 x s0,by go_num,by omega,HF2,HI2,(by rw[HSB.out];exact HZ9.out.to ii),(HO9.out.to ii),b7.of⟩
      case measure=>simp[intOf];omega
     | some f =>
      have HD:=lH (show U7 (aB6 (ad3 s0))=some f from htx.symm▸hd)
      have HFO:=lH (bl1 hd)
      have hfz:f.Data.size≤100000000:=by have:=(aq9 HFO.out).2.2.2;omega
      have huz:up.Rest.size≤100000000:=by have:=(Z0.1 HUO.out).2.2.2.2;omega
      rw[bI2]
      have HPP:=lH (fun(W:World)=>bp4 (u:=up) (f:=f) (w:=W) huz hfz)
      have HPO:=lH (show j6 (I2 up f).1=true from aA1 HUO.out)
      have HPK:=lH (ao9 (f:=f) HUO.out)
      have HDY:=lH (show R5 x s0=(I2 up f).2.foldl B8 (aS4 x (I2 up f).1)by rw[bl5 HD.out,HUP.out])
      clear hd htx HUO
      obtain⟨pr,hpr⟩:∃ pr,I2 up f=pr:=⟨_,rfl⟩
      rw[hpr]at HPP HPO HPK HDY
      clear hpr
      obtain⟨u2,ps⟩:=pr
      simp only at HPO HPK HDY
      obtain⟨np,hnp⟩:∃ np,ps.length=np:=⟨_,rfl⟩
      have HNP:=lH hnp
      have hnp67:np≤67:=hnp▸HPK.out.1
      clear hnp
      go_wp2_with (first|(refine al8 rfl _ (.tmp 58) rfl (qb) 24 kr (row:=[.int .i64 up.Channel,.int .i64 up.Next,.bool up.Synced,.string up.Rest,.int .i64 up.Lost]) (HV.out.to ii) _ Tryz.underlying71 rfl kr HR24.out ?_))
      refine(HPP.out _).mono ?_
      rintro _ w8 ⟨pa,pc,rfl,pown,y8,rfl⟩
      simp only at pown
      simp only[HNP.out]
      have hprt:=GB.prot (P:=fun k=>E9 pa=some k) (HGR.out.to (ii:b8 y.w _)) ⟨y8.h⟩ (fun k hk=>pown.blk k hk)
      have HGP:=lH hprt
      have HPW:=lH (pown.mono (Nat.zero_le _))
      clear hprt pown
      go_upto_region 15 with(first|(refine al9 (o:=24) (us:=[.int .i64 u2.Channel,.int .i64 u2.Next,.bool u2.Synced,.string u2.Rest,.int .i64 u2.Lost]) (aS4 x u2) rfl _ (.tmp 66) (.tmp 64) rfl (HGP.out.to ii) kr kr kr rfl nb (by intros;rename_i h;obtain⟨A1,rfl,p⟩:=h;exact⟨A1,rfl,{ p with ok:=bS8 p.ok HPO.out }⟩) (w0:=W2) ii nl ?_;intro z9 hz9 hX9))
      (try simp only[Act.put])
      have HZ9:=lH hz9
      have HO9:=lH (show Own L4 9 1 BL z9.w (some ⟨eb,eoff,none⟩) dc (F.map k5.Data)from HOL.out.same fun k hk _ _=>(hX9 k (.inl (.inr hk))).trans ((ii:b8 y.w _).out.block k (HGR.out.xs (.inr hk)).2))
      have HP9:=lH (show Own M6 117 3 0 z9.w pa pc ps from HPW.out.same fun k hk _ _=>(hX9 k (.inr hk)).trans ((ii:b8 y8.w _).out.block k (HGP.out.xs (.inr hk)).2))
      clear hz9 hX9 HGP HPW HV HR24
      go_wp2_with (fail)
      go_loopw [13] (fun v wr=>∃ (i:Nat) (x7:f7),v=.int .i64 i∧i≤np∧Hid ((ps.drop i).foldl B8 x7=R5 x s0)∧Hid (af3 (67*k+i) x7)∧Hid (GB (fun k=>(False∨E9 (some ⟨eb,eoff,none⟩)=some k)∨E9 pa=some k) W2.heap.size qb wr x7)∧Hid (Own L4 9 1 BL wr (some ⟨eb,eoff,none⟩) dc (F.map k5.Data))∧Hid (Own M6 117 3 0 wr pa pc ps)∧∃ y:b7 W2,wr=y.w) (fun v _=>(np - intOf v).toNat)
      case atStart=>exact⟨0,aS4 x u2,rfl,Nat.zero_le _,lH HDY.out.symm,lH (HI.out.unp1 HPO.out),HZ9.out.to ii,HO9.out.to ii,HP9.out.to ii,b7.of⟩
      case round =>
       obtain⟨i,x7,rfl,hi,HFK,HIK,HGK,HOK,HPK2,y7,rfl⟩:=hrel
       by_cases hin:i<np
       ·obtain⟨pb,po,pk,rfl,hpb,hpd,pe0,pe1,pe2⟩:=(Own.sl HPK2.out).tPacket (show i<ps.length by rw[HNP.out];exact hin)
        have hps:pk.Data.size≤40:=(HPK.out.2 pk (List.mem_of_mem_drop (by rw[hpd.out];simp))).1
        have HFN:=lH (show(ps.drop (i+1)).foldl B8 (B8 x7 pk)=R5 x s0 by have:=HFK.out;rw[hpd.out,List.foldl_cons]at this;exact this)
        have HIN:=lH (HIK.out.pkt pk)
        have hq7:LtN qb y7.w.heap.size:=⟨HGK.out.lt⟩
        clear hpd
        go_wp2_with (fail)
        refine(bp7 (X:=(fun k=>(False∨E9 (some ⟨eb,eoff,none⟩)=some k)∨E9 (some ⟨pb,po,none⟩)=some k)) (w0:=W2) (HGK.out.to ii) HIK.out om hps ii nl).mono ?_
        rintro _ w9 ⟨⟨u,rfl⟩,hz9,hx9,z8,rfl⟩
        have HO8:=lH (show Own L4 9 1 BL z8.w (some ⟨eb,eoff,none⟩) dc (F.map k5.Data)from HOK.out.same fun k hk _ _=>(hx9 k (.inl (.inr hk))).trans ((ii:b8 y7.w _).out.block k (HGK.out.xs (.inl (.inr hk))).2))
        have HP8:=lH (show Own M6 117 3 0 z8.w (some ⟨pb,po,none⟩) pc ps from HPK2.out.same fun k hk _ _=>(hx9 k (.inr hk)).trans ((ii:b8 y7.w _).out.block k (HGK.out.xs (.inr hk)).2))
        have HZ8:=lH hz9
        clear hz9 hx9
        go_wp2_with (fail)
        go_roundw
        case rel=>exact⟨i+1,B8 x7 pk,by go_num,by omega,HFN,HIN,HZ8.out.to ii,HO8.out.to ii,HP8.out.to ii,b7.of⟩
        case measure=>simp[intOf];omega
       ·obtain rfl:i=np:=by omega
        have HE7:=lH (show x7=R5 x s0 by have:=HFK.out;rw[List.drop_of_length_le (by rw[HNP.out];exact Nat.le_refl _)]at this;exact this)
        have HG7:=lH (show GB (fun k=>False∨E9 (some ⟨eb,eoff,none⟩)=some k) W2.heap.size qb y7.w (R5 x s0)by rw[← HE7.out];exact HGK.out.less fun k hk=>.inl hk)
        go_wp2_with (fail)
        go_roundw
        case rel=>exact⟨k+1,R5 x s0,by go_num,by omega,HF2,HI2,HG7.out.to ii,(HOK.out.to ii),b7.of⟩
        case measure=>simp[intOf];omega
   ·obtain rfl:k=n:=by omega
    obtain⟨vs8,hH8,hl8,h18,-,χ8,hO8⟩:=HGR.out.vs
    have HH8:=lH hH8;have HO8:=lH hO8;have H18:=lH h18;have HL8:=lH (show vs8.length=61 from hl8)
    clear hO8 hH8 h18 hl8
    go_wp2_with (first|(refine sL rfl _ (.tmp 3) rfl (qb) kr HH8 ii as5 HL8 ?_)|(refine sW rfl _ _ _ rfl (w.heap.size+1) rfl (us:=vs8) (HR.out.to ii) HL8 H18 (w0:=w) ii om ?_;intro z8 HX8 KX8))
    refine bodyPost_ret (v:=.agg vs8.toArray) (A7 (P:=Tryz.prog) rfl rfl HX8.out _ as5 rfl (by rw[HL8.out];kernel_rfl)) rfl ?_
    rw[show S7 m=x by have:=HF.out;rw[List.drop_of_length_le (by rw[List.length_map,HN.out];exact Nat.le_refl _)]at this;exact this.symm]
    exact⟨vs8,χ8,rfl,ac2 (ah9 HO8.out ii) KX8.out (show w.heap.size+1<W2.heap.size by omega) hW2,b7.of⟩
theorem c_lFnExactHearDown{vs:List Value}{m:f7}{w:World}(hm:Enc.Rd 0 w vs m) :
  Calls Tryz.prog 3 #[.agg vs.toArray] w (b5 w (.bool true)):=by
 have HL:=lH (ab9 hm)
 have HM:=lH hm;clear hm
 have HB:=lH (j5.new w vs 60 w.heap.size rfl)
 by_cases ht:(1048576:Int) - Enc.tot m<0
 ·have HSZ:=lH (j8 ht);clear ht
  go_enter Tryz.func3,Tryz.ntmps3
  go_wp2_with (first|((with_reducible refine rl ?_);refine rq ?_;intro x)|(refine sL rfl _ _ rfl w.heap.size rfl HB ii bK8 HL ?_))
  refine gm (aM2 (x:=m) (Enc.keep HM.out ii) om om) ?_
  intro y0
  rw[HSZ.out]
  go_wp2_with (first|((with_reducible refine rl ?_);refine rq ?_;intro x))
  go_ret
  exact b5.mk rfl
 have HSZ:=lH (B5 ht)
 have hle:0≤(1048576:Int) - Enc.tot m:=by omega
 have HT:=lH (show Enc.tot m≤1048576 by omega)
 have HT8:=lH (show Enc.tot m≤100000000 by omega)
 clear ht
 have HTF:=lH (show Enc.tot (S7 m)≤100000000 from by have h1:=br3 m;have h2:=HT.out;omega)
 obtain⟨fm,hfm⟩:∃ fm,S7 m=fm:=⟨_,rfl⟩
 have HF:=lH hfm;clear hfm
 rw[HF.out]at HTF
 obtain⟨K,hK⟩:∃ K,ag7 fm 1=K:=⟨_,rfl⟩
 have hKb:=aJ4 fm 1
 rw[hK]at hKb
 have hK1:1≤K:=hKb.1
 have hK2:¬ K<0:=by omega
 have HK:=lH hK;clear hK hKb
 obtain⟨J,hJ⟩:∃ J,ag7 m 1=J:=⟨_,rfl⟩
 have hJb:=aJ4 m 1
 rw[hJ]at hJb
 have hJ1:1≤J:=hJb.1
 have hJ2:¬ J<0:=by omega
 have HJ:=lH hJ;clear hJ hJb
 have kb:(K != K)=false:=by simp
 go_enter Tryz.func3,Tryz.ntmps3
 go_wp2_with (first|((with_reducible refine rl ?_);refine rq ?_;intro x)|(refine sL rfl _ _ rfl w.heap.size rfl HB ii bK8 HL ?_))
 refine gm (aM2 (x:=m) (Enc.keep HM.out ii) om om) ?_
 intro y0
 rw[HSZ.out]
 go_wp2_with (first|((with_reducible refine rl ?_);refine rq ?_;intro x)|(refine sL rfl _ _ rfl w.heap.size rfl HB ii bK8 HL ?_))
 refine(ay8 (x:=m) (Enc.keep HM.out ii) HT.out).mono ?_
 rintro _ _ ⟨os,rfl,hR1,y1,rfl⟩
 have HR1:=lH hR1;clear hR1
 go_wp2_with (first|((with_reducible refine rl ?_);refine rq ?_;intro x))
 refine(bC3 (m:=m) HR1.out HT8.out).mono ?_
 rintro _ _ ⟨ws,χw,rfl,hW,y2,rfl⟩
 rw[HF.out]at hW
 have HLW:=lH (ab9 (W0.toRd hW))
 have HOW:=lH (an1 (W0.toRd hW))
 have HW0:=lH (Enc.mono (W0.toRd hW) (Nat.zero_le _));clear hW HR1
 go_wp2_with (first|((with_reducible refine rl ?_);refine rq ?_;intro x)|(refine sW rfl _ _ _ rfl _ rfl (us:=ws) (j5.new _ A3 90 _ rfl) HLW HOW (w0:=(w.alloc (.cells vs.toArray 60))) ii LeN.out ?_;intro z1 HX1 KX1)|(refine sL rfl _ _ rfl w.heap.size rfl HB ii bK8 HL ?_))
 have HW1:=lH (Enc.keep HW0.out (KX1.out.under ii nl));clear HW0 KX1
 have HWb1:=lH HX1.out;clear HX1
 have HB1:=lH (HB.out.to (ii:b8 _ z1.w))
 have HM1:=lH (Enc.keep HM.out (ii:d7 _ _ z1.w));clear HB HM
 refine(aP3 (x:=m) (Enc.keep HM1.out ii) HT.out).mono ?_
 rintro _ _ ⟨xs,χx,rfl,hX,y3,rfl⟩
 have HLX:=lH (ab9 (W0.toRd hX))
 have HOX:=lH (an1 (W0.toRd hX))
 have HX0:=lH (bS9 hX nl);clear hX
 go_wp2_with (first|((with_reducible refine rl ?_);refine rq ?_;intro x)|(refine sW rfl _ _ _ rfl _ rfl (us:=xs) (j5.new _ A3 90 _ rfl) HLX HOX (w0:=(w.alloc (.cells vs.toArray 60))) ii LeN.out ?_;intro z2 HX2 KX2)|(refine sL rfl _ _ rfl _ rfl HX2 ii as5 HLX ?_))
 have HG12:=lH (bM2 z1 z2 (KX2.out.under ii y3.size_le))
 have HXO2:=lH (bu5 HX0.out (KX2.out.under ii nl));clear HX0 KX2
 have HWb2:=lH (HWb1.out.to HG12.out)
 have HU2:=lH (show y3.w.heap.size≤z2.w.heap.size from Nat.le_of_lt HX2.out.lt)
 refine(aV3 (m:=m) (W0.toRd HXO2.out) HT8.out).mono ?_
 rintro _ _ ⟨gs,χg,rfl,hG,y4,rfl⟩
 rw[HF.out]at hG
 have HLG:=lH (ab9 (W0.toRd hG))
 have HOG:=lH (an1 (W0.toRd hG))
 have HG0:=lH (bS9 hG nl);clear hG
 go_wp2_with (first|((with_reducible refine rl ?_);refine rq ?_;intro x)|(refine sW rfl _ _ _ rfl _ rfl (us:=gs) (j5.new _ A3 90 _ rfl) HLG HOG (w0:=(w.alloc (.cells vs.toArray 60))) ii LeN.out ?_;intro z3 HX3 KX3)|(refine sL rfl _ _ rfl _ rfl HX3 ii as5 HLG ?_)|(refine al8 rfl _ _ rfl _ 0 rfl (row:=ws) ((HWb2.out.past ii KX3.out y4.size_le).to ii) _ as5 rfl (by rw[HLW.out];kernel_rfl) dt ?_))
 have HG23:=lH (bM2 z2 z3 (KX3.out.under ii y4.size_le))
 have HGO3:=lH (bu5 HG0.out (KX3.out.under ii nl));clear HG0 KX3
 have HG13:=lH (ag4 HG12.out HG23.out)
 have HW3:=lH (Enc.keep HW1.out (@d7.grows 0 _ _ HG13.out))
 have HUg:=lH (show y4.w.heap.size≤z3.w.heap.size from Nat.le_of_lt HX3.out.lt)
 refine gm (at0 (x:=fm) (W0.toRd HGO3.out) HW3.out) ?_
 intro y5
 go_wp2_with (first|((with_reducible refine rl ?_);refine rq ?_;intro x))
 have HGV:=lH (ii:b8 z3.w (z3.andThen y5).w)
 obtain⟨V,hV⟩:∃ V:b7 (w.alloc (.cells vs.toArray 60)),(z3.andThen y5).w=V.w:=⟨_,rfl⟩
 rw[hV]at HGV ⊢
 clear hV
 have HG1V:=lH (ag4 HG13.out HGV.out);have HG2V:=lH (ag4 HG23.out HGV.out)
 have HBV:=lH (HB1.out.to HG1V.out);have HMV:=lH (Enc.keep HM1.out (@d7.grows 0 _ _ HG1V.out))
 have HXV:=lH (HX2.out.to HG2V.out);have HXOV:=lH (bC5 HXO2.out HG2V.out)
 have HGbV:=lH (HX3.out.to HGV.out);have HGOV:=lH (bC5 HGO3.out HGV.out)
 refine wp_region_held_drew (S:=fun W=>Below V.w.heap.size V.w W) kr (Below.refl _ _).drew (fun hH=>?_)
 refine wpAnyH_take (i:=0) (v:=_) rfl kr kr kr (fun _ _ _ h=>h) (yieldsIf_load_mid (by rfl) _ _ rfl _ _ rfl xs _ (fun W hW=>(HXV.out.to ⟨hW⟩).range (n:=xs.length) dt) as5 rfl (by rw[HLX.out];kernel_rfl)) (by assumption) ?_
 (try simp only[nrm])
 refine wpAnyH_take (i:=1) (v:=_) rfl kr kr kr (fun _ _ _ h=>h) (yieldsIf_load_mid (by rfl) _ _ rfl _ _ rfl vs _ (fun W hW=>(HBV.out.to ⟨hW⟩).range (n:=vs.length) dt) bK8 rfl (by rw[HL.out];kernel_rfl)) (by assumption) ?_
 (try simp only[nrm])
 refine wpAnyH_ready (rs:=[2]) kr si ?_
 refine AllReadyH.cons rfl (fun K2 hQ=>?_) AllReadyH.nil
 refine ax9 rfl (f:=7) rfl Tryz.func7 kr kr [.agg vs.toArray] rfl ((ay8 (x:=m) (Enc.keep HMV.out ⟨hH.size,fun b _ h2=>hH.block b h2⟩) HT.out).mono ?_)
 rintro _ _ ⟨qs,rfl,hR3,y6,rfl⟩
 refine⟨_,rfl,hQ.out _ _ (hH.trans (y6.h.mono hH.size)) (fun hH2=>?_)⟩
 (try simp only[nrm])
 clear hQ K2
 refine wpAnyH_ready (rs:=[3]) kr si ?_
 refine AllReadyH.cons rfl (fun K2 hQ=>?_) AllReadyH.nil
 refine ax9 rfl (f:=9) rfl Tryz.func9 kr kr [.agg xs.toArray,.agg qs.toArray] rfl ((at0 (x:=m) (Enc.keep (W0.toRd HXOV.out) ⟨hH2.size,fun b _ h2=>hH2.block b h2⟩) hR3).mono ?_)
 rintro _ _ ⟨rfl,y7,rfl⟩
 refine⟨_,rfl,hQ.out _ _ (hH2.trans (y7.h.mono hH2.size)) (fun hH3=>?_)⟩
 (try simp only[nrm])
 clear hQ K2
 have HGZ:=lH (show b8 V.w y7.w from⟨hH3⟩)
 obtain⟨Z,hZ⟩:∃ Z:b7 (w.alloc (.cells vs.toArray 60)),y7.w=Z.w:=b7.ofG (ag4 (ii:b8 _ V.w) HGZ.out)
 rw[hZ]at hH3 HGZ ⊢
 refine wpAnyH_ready (rs:=[4]) kr si ?_
 refine AllReadyH.cons rfl (fun K2 hQ=>?_) AllReadyH.nil
 go_simp
 refine hQ.out _ _ hH3 (fun hH4=>?_)
 clear hQ K2
 refine wpAnyH_done kr ?_ _
 clear hH hH2 hH3 hH4 hR3 hZ
 have HG1Z:=lH (ag4 HG1V.out HGZ.out);have HG2Z:=lH (ag4 HG2V.out HGZ.out)
 have HXZ:=lH (HXV.out.to HGZ.out);have HXOZ:=lH (bC5 HXOV.out HGZ.out)
 have HGbZ:=lH (HGbV.out.to HGZ.out);have HGOZ:=lH (bC5 HGOV.out HGZ.out)
 clear HGV HG1V HG2V HBV HMV HXV HXOV HGbV HGOV
 go_wp2_with (first|((with_reducible refine rl ?_);refine rq ?_;intro x)|(refine sL rfl _ _ rfl _ rfl HXZ ii as5 HLX ?_))
 refine(bM8 (k:=1) HXOZ.out (aC6 (Nat.le_of_lt HXZ.out.lt)) HG1Z.out.out.size HT8.out om om).mono ?_
 intro e5 Z5 hq5
 obtain⟨he,-,hF⟩:=hq5
 obtain rfl:e5=.returned (.int .i64 J):=he.trans (by rw[HJ.out])
 have HG5:=lH (hF.below HG1Z.out nl)
 have HK5:=lH (hF.keepsU (Rng.out (.inr de)));clear he hF
 obtain⟨V5,rfl⟩:∃ x:b7 (w.alloc (.cells vs.toArray 60)),Z5=x.w:=b7.ofG (ag4 (ii:b8 _ z1.w) HG5.out)
 have HW5:=lH (Enc.keep HW1.out (@d7.grows 0 _ _ HG5.out));have HWb5:=lH (HWb1.out.to HG5.out)
 have HUb:=lH (show y3.w.heap.size≤(z2.andThen y4).w.heap.size from Nat.le_trans HU2.out y4.size_le)
 have HGb5:=lH (HK5.out.ofU _ _ _ HUb.out HGbZ.out);have HGO5:=lH (bu5 HGOZ.out (HK5.out.more HU2.out))
 go_wp2_with (first|((with_reducible refine rl ?_);refine rq ?_;intro x)|(refine bn2 (by go_simp) _ _ rfl _ 0 rfl (row:=gs) (HGb5.out.to ii) _ as5 rfl (by rw[HLG.out];kernel_rfl) dt ?_)|(refine bn2 (by go_simp) _ _ rfl _ 0 rfl (row:=ws) (HWb5.out.to ii) _ as5 rfl (by rw[HLW.out];kernel_rfl) dt ?_))
 refine gm (at0 (x:=fm) (W0.toRd HGO5.out) HW5.out) ?_
 intro y8
 go_wp2_with (first|((with_reducible refine rl ?_);refine rq ?_;intro x)|(refine sL rfl _ _ rfl _ rfl HGb5 ii as5 HLG ?_))
 have HGb7:=lH (HGb5.out.to (ii:b8 _ (V5.andThen y8).w))
 refine(bM8 (k:=1) (bC5 HGO5.out ii) (aC6 (Nat.le_of_lt HGb7.out.lt)) (Nat.le_trans y4.size_le (Nat.le_of_lt HGb7.out.lt)) HTF.out om om).mono ?_
 intro e6 Z6 hq6
 obtain⟨he,hO6,hF⟩:=hq6
 obtain rfl:e6=.returned (.int .i64 K):=he.trans (by rw[HK.out])
 have HG6:=lH (hF.below (ag4 HG5.out (ii:b8 _ (V5.andThen y8).w)) HG12.out.out.size)
 have HK6:=lH (hF.keepsU (Rng.out (.inr de)));have HGO6:=lH hO6;clear he hF hO6
 obtain⟨V6,rfl⟩:∃ x:b7 (w.alloc (.cells vs.toArray 60)),Z6=x.w:=b7.ofG (ag4 (ii:b8 _ z1.w) HG6.out)
 have HB6:=lH (HB1.out.to HG6.out);have HM6:=lH (Enc.keep HM1.out (@d7.grows 0 _ _ HG6.out))
 have HW6:=lH (Enc.keep HW1.out (@d7.grows 0 _ _ HG6.out));have HWb6:=lH (HWb1.out.to HG6.out)
 have HGb6:=lH (HK6.out.ofU _ _ _ nl HGb7.out)
 go_wp2_with (first|((with_reducible refine rl ?_);refine rq ?_;intro x)|(refine sL rfl _ _ rfl _ rfl HGb6 ii as5 HLG ?_))
 refine(bM7 (k:=1) (W0.toRd HGO6.out) HTF.out om om).mono ?_
 intro e7 Z7 hq7
 obtain⟨he,y9,hw⟩:=hq7
 obtain rfl:e7=.returned (.int .i64 K):=he.trans (by rw[HK.out])
 clear he;subst hw
 go_wp2_with (first|((with_reducible refine rl ?_);(repeat(first|go_big_quiet_step (first|fail)|simp only[kb]));refine wpQuiet_nil ?_;intro x)|(refine sL rfl _ _ rfl w.heap.size rfl HB6 ii bK8 HL ?_))
 refine(ay8 (x:=m) (Enc.keep HM6.out ii) HT.out).mono ?_
 rintro _ _ ⟨os2,rfl,hR4,y10,rfl⟩
 have HR4:=lH hR4;clear hR4
 go_wp2_with (first|((with_reducible refine rl ?_);refine rq ?_;intro x))
 refine(aV3 (m:=m) HR4.out HT8.out).mono ?_
 rintro _ _ ⟨hs,χh,rfl,hH,y11,rfl⟩
 rw[HF.out]at hH
 have HLH:=lH (ab9 (W0.toRd hH))
 have HOH:=lH (an1 (W0.toRd hH))
 have HH0:=lH (Enc.mono (W0.toRd hH) (Nat.zero_le _));clear hH HR4
 go_wp2_with (first|((with_reducible refine rl ?_);refine rq ?_;intro x)|(refine sW rfl _ _ _ rfl _ rfl (us:=hs) (j5.new _ A3 90 _ rfl) HLH HOH (w0:=(w.alloc (.cells vs.toArray 60))) ii LeN.out ?_;intro z4 HX4 KX4)|(refine sL rfl _ _ rfl _ rfl HX4 ii as5 HLH ?_)|(refine al8 rfl _ _ rfl _ 0 rfl (row:=ws) ((HWb6.out.past ii KX4.out LeN.out).to ii) _ as5 rfl (by rw[HLW.out];kernel_rfl) dt ?_))
 have HH4:=lH (Enc.keep HH0.out (KX4.out.under ii nl));clear HH0
 have HW4:=lH (Enc.keep HW6.out (KX4.out.under (ii:d7 0 V6.w _) LeN.out))
 have HGb4:=lH (HGb6.out.past (ii:d7 0 V6.w _) KX4.out LeN.out)
 have HGR4:=lH (Enc.keep (Enc.mono (W0.toRd HGO6.out) (Nat.zero_le _)) (KX4.out.under (ii:d7 0 V6.w _) LeN.out))
 refine gm (at0 (x:=fm) HH4.out HW4.out) ?_
 intro y12
 go_wp2_with (first|((with_reducible refine rl ?_);refine rq ?_;intro x)|(refine sL rfl _ _ rfl _ rfl HGb4 ii as5 HLG ?_))
 refine(bM7 (k:=1) (Enc.keep HGR4.out ii) HTF.out om om).mono ?_
 intro e8 Z8 hq8
 obtain⟨he,y13,hw⟩:=hq8
 obtain rfl:e8=.returned (.int .i64 K):=he.trans (by rw[HK.out])
 clear he;subst hw
 go_wp2_with (first|((with_reducible refine rl ?_);(repeat(first|go_big_quiet_step (first|fail)|simp only[kb]));refine wpQuiet_nil ?_;intro x))
 go_ret
 exact b5.mk rfl
theorem FnExactHearDown_lifted(os:Os)(started:os.Started)(H:Type)(enc:TypeId × Value→H) :
  ReturnsInHanded {} Tryz.checked os 3 .any (Rows.fnExactHearDownSpec.pre6 enc Tryz.prog Tryz.f3 Rows.fnExactHearDownRow.domain false) (Rows.fnExactHearDownSpec.post enc Tryz.prog Tryz.f3 false true false false):=by
 refine returnsInHanded_of_change (C:=Tryz.checked) own started kr Tryz.func3
  (ChangeSpec.witness6 (enc:=enc) (C:=Tryz.checked) false ⟨#[],#[.agg A3.toArray],[]⟩ 8 kr kr kr kr) ?_
 intro W base args ds gs before hval0 hW hcnd _
 have hval:∀ (j:Nat) t v,Tryz.f3.params[j]?=some t→args[j]?=some v→Value.okWide Tryz.prog W .any base t v:=hval0
 have hW':=hW
 obtain⟨p,q,hA0,hV,rfl,hfz,hnd⟩:=hW
 have hA:DataW.TrodAll enc Tryz.prog W 0 (fun _=>true) true Tryz.f3.params.toList args.toList ds p:=hA0
 rw[Tryz.params3]at hA hval
 obtain⟨rfl,rfl⟩:=trodVars_none hV
 obtain⟨v0,vs0,d0,ds0,p0,q0,hargs,rfl,rfl,h0,r0⟩:=trodAll_cons hA
 obtain⟨rfl,rfl,rfl⟩:=trodAll_nil r0
 obtain rfl:args=#[v0]:=by cases args;simp_all
 obtain⟨cb0,rfl,hcz0⟩:=bk4 bK8 (hval 0 60 v0 rfl rfl)
 obtain⟨ca0,rfl⟩:∃ ca:List Value,cb0=ca.toArray:=⟨cb0.toList,by simp⟩
 obtain⟨f0,t0⟩:=h0
 obtain⟨hl0,rd0⟩:=aC3 10 _ _ _ _ _ (show bb9 Tryz.prog 10 60=some [.int,.int,.int,.int,.int,.int,.int,.sl [.int,.int],.int,.int,.int,.int,.int,.int,.sl [.int,.str],.sl [.int,.str],.sl [.str],.int,.int,.sl [.int,.str],.int,.int,.bool,.bool,.int,.int,.bool,.str,.int,.sl [.int,.int],.sl [.int,.int,.int,.str],.sl [.int,.int,.int,.sl [.str]],.sl [.bool],.int,.bool,.bool,.int,.int,.sl [.int],.bool,.sl [.int,.int,.int],.sl [.int,.int,.int,.int,.int],.sl [.int,.int,.int],.int,.sl [.int,.int,.int,.str],.sl [.int],.int,.int,.sl [.int],.int,.int,.str,.sl [.int],.int,.sl [.str],.sl [.int,.str,.sl [.int],.bool],.int,.sl [.int,.int,.int,.str],.sl [.str],.sl [.str],.int]by kernel_rfl) t0
 obtain⟨x0,hx0⟩:=bK3 _ hl0 rd0
 clear hA0 hval0
 refine(b5.below (c_lFnExactHearDown hx0)).mono fun e W' ⟨he,hb⟩=>?_
 subst he
 exact⟨_,rfl,bS1 bM3 kr rfl rfl rfl Tryz.underlying4 hW' hb⟩
