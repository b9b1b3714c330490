/- The walk of the law on GiveOrder. No condition but on sizes. -/
import Derived.Test.YtbaffippdifbpaaGreatWM40
import Derived.Test.YtbaffippdifbpaaGreatWGivI
import Derived.Test.YtbaffippdifbpaaGreatWGivS
namespace Go.Proofs.YtbaffippdifbpaaGreat
set_option linter.unusedVariables false
open Go.ChangeShapes Go.WideShapes Go.ChangeAt Go.RowKit
set_option maxRecDepth 100000 in
set_option maxHeartbeats 40000000 in
theorem c_lFnExactGiveOrder{vs us:List Value}{m:TMission}{q:TOrder}{w:World}(hm:Enc.Rd 0 w vs m)(hq:Enc.Rd 0 w us q) :
  Calls Tryz.prog 6 #[.agg vs.toArray,.agg us.toArray] w (Gives w (.bool true)):=by
 obtain⟨rfl,hok⟩:=hq
 have HOQ:=lH hok;clear hok
 have HL:=lH (len_mission hm)
 have HM:=lH hm;clear hm
 have HB:=lH ((Held.new w vs 116 w.heap.size rfl).to (inferInstance:Grows _ ((w.alloc (.cells vs.toArray 116)).alloc (.cells #[.int .i64 q.Kind,.int .i64 q.At,.int .i64 q.A,.int .i64 q.B] 122))))
 have HQ:=lH (Held.new (w.alloc (.cells vs.toArray 116)) [.int .i64 q.Kind,.int .i64 q.At,.int .i64 q.A,.int .i64 q.B] 122 (w.heap.size+1) (by simp))
 by_cases ht:(1048576:Int) - Enc.tot m<0
 ·have HSZ:=lH (szD_neg ht);clear ht
  go_enter Tryz.func6,Tryz.ntmps6
  go_wp2_with (first|(refine stepLoad rfl _ _ rfl w.heap.size 0 rfl (row:=vs) (HB.out.to inferInstance) _ Tryz.underlying116 rfl (by rw[HL.out];kernel_rfl) (by rw[List.drop_zero,List.take_length]) ?_))
  refine(d_lszMission (x:=m) (Enc.keep HM.out inferInstance) (by omega) (by omega)).mono ?_
  rintro _ _ ⟨rfl,y0,rfl⟩
  rw[HSZ.out]
  go_wp2_with fail
  go_ret
  exact Gives.mk rfl
 have HSZ:=lH (szD_pos ht)
 have hle:0≤(1048576:Int) - Enc.tot m:=by omega
 have HT:=lH (show Enc.tot m≤1048576 by omega)
 have HT8:=lH (show Enc.tot m≤100000000 by omega)
 clear ht
 have HTF:=lH (show Enc.tot (giveOrder m q).1≤100000000 by have:=giveOrder_tot m q;have:=HT.out;omega)
 have HT9:=lH (show Enc.tot m≤99999990 by have:=HT.out;omega)
 obtain⟨fm,hfm⟩:∃ fm,(giveOrder m q).1=fm:=⟨_,rfl⟩
 obtain⟨b2,hb2⟩:∃ b,(giveOrder m q).2=b:=⟨_,rfl⟩
 have HB2:=lH hb2;clear hb2
 have kbb:(b2 != b2)=false:=by simp
 have HF:=lH hfm;clear hfm
 rw[HF.out]at HTF
 obtain⟨K,hK⟩:∃ K,mnMMission fm 1=K:=⟨_,rfl⟩
 have hKb:=mnMMission_le fm 1
 rw[hK]at hKb
 have hK1:1≤K:=hKb.1
 have hK2:¬ K<0:=by omega
 have HK:=lH hK;clear hK hKb
 obtain⟨J,hJ⟩:∃ J,mnMMission m 1=J:=⟨_,rfl⟩
 have hJb:=mnMMission_le m 1
 rw[hJ]at hJb
 have hJ1:1≤J:=hJb.1
 have hJ2:¬ J<0:=by omega
 have HJ:=lH hJ;clear hJ hJb
 have kb:(K != K)=false:=by simp
 go_enter Tryz.func6,Tryz.ntmps6
 go_wp2_with (first|(refine stepLoad rfl _ _ rfl w.heap.size 0 rfl (row:=vs) (HB.out.to inferInstance) _ Tryz.underlying116 rfl (by rw[HL.out];kernel_rfl) (by rw[List.drop_zero,List.take_length]) ?_))
 refine(d_lszMission (x:=m) (Enc.keep HM.out inferInstance) (by omega) (by omega)).mono ?_
 rintro _ _ ⟨rfl,y0,rfl⟩
 rw[HSZ.out]
 go_wp2_with fail
 (try simp only[Act.put])
 have HBV:=lH (HB.out.to (inferInstance:Grows _ y0.w));have HQV:=lH (HQ.out.to (inferInstance:Grows _ y0.w));have HMV:=lH (Enc.keep HM.out (inferInstance:Keeps _ _ y0.w))
 have HVB:=lH (inferInstance:Grows ((w.alloc (.cells vs.toArray 116)).alloc (.cells #[.int .i64 q.Kind,.int .i64 q.At,.int .i64 q.A,.int .i64 q.B] 122)) y0.w)
 go_cut [6,7]from 21 (fun s1 s2 wx=>∃ (z:Later ((w.alloc (.cells vs.toArray 116)).alloc (.cells #[.int .i64 q.Kind,.int .i64 q.At,.int .i64 q.A,.int .i64 q.B] 122))) (b:Nat) (fs:List Value),s1=.pointer (some ⟨b,0,none⟩)∧s2=.bool b2∧wx=z.w∧Held z.w b fs 62∧Enc.Rd 0 z.w fs fm∧Grows y0.w z.w)
 case first =>
  refine wp_abs (fun _ _ _ _ _ h=>h) fun KK hPK hKK=>?_
  refine wp_region_held_drew (S:=fun W=>Below y0.w.heap.size y0.w W) (by kernel_rfl) (Below.refl _ _).drew (fun hS0=>?_)
  show wpAnyH _ _ _ _ _ 11 #[false,false,false,false,false,false,false,false,false,false,false] _ _
  refine wpAnyH_take (i:=0) (v:=_) rfl (by kernel_rfl) (by kernel_rfl) (by kernel_rfl) (fun _ _ _ h=>hPK.out _ _ _ _ _ h) (yieldsIf_load_mid (by rfl) _ _ rfl w.heap.size 0 rfl vs _ (fun W hW=>(HBV.out.to ⟨hW⟩).range (n:=vs.length) (by rw[List.drop_zero,List.take_length])) Tryz.underlying116 rfl (by rw[HL.out];kernel_rfl)) (by assumption) ?_
  (try simp only[Act.put]);(try simp only[List.setIfInBounds_toArray]);(try simp only[List.set_cons_succ]);(try simp only[List.set_cons_zero])
  refine wpAnyH_take (i:=2) (v:=_) rfl (by kernel_rfl) (by kernel_rfl) (by kernel_rfl) (fun _ _ _ h=>hPK.out _ _ _ _ _ h) (yieldsIf_load_mid (by rfl) _ _ rfl (w.heap.size+1) 0 rfl [.int .i64 q.Kind,.int .i64 q.At,.int .i64 q.A,.int .i64 q.B] _ (fun W hW=>(HQV.out.to ⟨hW⟩).range (n:=4) rfl) Tryz.underlying122 rfl (by kernel_rfl)) (by assumption) ?_
  (try simp only[Act.put]);(try simp only[List.setIfInBounds_toArray]);(try simp only[List.set_cons_succ]);(try simp only[List.set_cons_zero])
  refine wpAnyH_r2 1 8 (by kernel_rfl) ?_ ?_
  ·refine one_call rfl (by kernel_rfl) (f:=35) rfl Tryz.func35 (by kernel_rfl) (by kernel_rfl) [.agg vs.toArray] (by kernel_rfl) ((dl_toMission (x:=m) (Enc.keep HMV.out ⟨hS0.size,fun b _ h2=>hS0.block b h2⟩) HT.out).mono ?_)
   rintro _ _ ⟨os,rfl,hR1,y1_,rfl⟩
   have hS1:=hS0.trans (y1_.h.mono hS0.size)
   refine⟨_,rfl,hS1,?_⟩
   (try simp only[Act.put]);(try simp only[List.setIfInBounds_toArray]);(try simp only[List.set_cons_succ]);(try simp only[List.set_cons_zero])
   refine wpAnyH_r2 3 8 (by kernel_rfl) ?_ ?_
   ·refine one_call rfl (by kernel_rfl) (f:=38) rfl Tryz.func38 (by kernel_rfl) (by kernel_rfl) [.agg #[.int .i64 q.Kind,.int .i64 q.At,.int .i64 q.A,.int .i64 q.B]] (by kernel_rfl) ((d_ltoOrder (x:=q) (vs:=[.int .i64 q.Kind,.int .i64 q.At,.int .i64 q.A,.int .i64 q.B]) (B:=0) ⟨rfl,HOQ.out⟩ (by show(0:Int)≤_;decide)).mono ?_)
    rintro _ _ ⟨_,rfl,⟨rfl,-⟩,y2_,rfl⟩
    have hS2:=hS1.trans (y2_.h.mono hS1.size)
    refine⟨_,rfl,hS2,?_⟩
    (try simp only[Act.put]);(try simp only[List.setIfInBounds_toArray]);(try simp only[List.set_cons_succ]);(try simp only[List.set_cons_zero])
    refine wpAnyH_r2 4 8 (by kernel_rfl) ?_ ?_
    ·refine one_call rfl (by kernel_rfl) (f:=37) rfl Tryz.func37 (by kernel_rfl) (by kernel_rfl) [.agg os.toArray,.agg #[.int .i64 q.Kind,.int .i64 q.At,.int .i64 q.A,.int .i64 q.B]] (by kernel_rfl) ((o_sGiveOrder (m:=m) (q:=q) (Enc.keep hR1 inferInstance) HT9.out).mono ?_)
     rintro _ _ ⟨fs,χf,rfl,hLast0,y3_,rfl⟩
     rw[HF.out]at hLast0
     rw[HB2.out]
     have hLast:=EncO.toRd hLast0
     have hLr:=len_mission hLast;have hOr:=one_mission hLast
     have hS3:=hS2.trans (y3_.h.mono hS2.size)
     refine⟨_,rfl,hS3,?_⟩
     (try simp only[Act.put]);(try simp only[List.setIfInBounds_toArray]);(try simp only[List.set_cons_succ]);(try simp only[List.set_cons_zero])
     refine wpAnyH_take (i:=5) (v:=?vp1_) rfl (by kernel_rfl) (by kernel_rfl) (by kernel_rfl) (fun _ _ _ h=>hPK.out _ _ _ _ _ h) (Or.inl ⟨by rfl,?yp1_⟩) (by assumption) ?rp1_
     case yp1_=>intro w9 hSw;clear hSw;go_simp;(try with_reducible rfl)
     (try simp only[Act.put]);(try simp only[List.setIfInBounds_toArray]);(try simp only[List.set_cons_succ]);(try simp only[List.set_cons_zero])
     refine wpAnyH_take (i:=6) (v:=?vp2_) rfl (by kernel_rfl) (by kernel_rfl) (by kernel_rfl) (fun _ _ _ h=>hPK.out _ _ _ _ _ h) (Or.inl ⟨by rfl,?yp2_⟩) (by assumption) ?rp2_
     case yp2_=>intro w9 hSw;clear hSw;go_simp;(try with_reducible rfl)
     (try simp only[Act.put]);(try simp only[List.setIfInBounds_toArray]);(try simp only[List.set_cons_succ]);(try simp only[List.set_cons_zero])
     refine wpAnyH_take (i:=7) (v:=?vp3_) rfl (by kernel_rfl) (by kernel_rfl) (by kernel_rfl) (fun _ _ _ h=>hPK.out _ _ _ _ _ h) (Or.inl ⟨by rfl,?yp3_⟩) (by assumption) ?rp3_
     case yp3_=>intro w9 hSw;clear hSw;go_simp;(try with_reducible rfl)
     (try simp only[Act.put]);(try simp only[List.setIfInBounds_toArray]);(try simp only[List.set_cons_succ]);(try simp only[List.set_cons_zero])
     refine wpAnyH_r1 8 (by kernel_rfl) (one_alloc rfl (by kernel_rfl) _ rfl (cs:=#[.int .i64 0,.int .i64 0,.int .i64 0,.int .i64 0,.int .i64 0,.int .i64 0,.int .i64 0,.slice none 0 0,.int .i64 0,.int .i64 0,.int .i64 0,.int .i64 0,.int .i64 0,.int .i64 0,.slice none 0 0,.slice none 0 0,.slice none 0 0,.int .i64 0,.int .i64 0,.slice none 0 0,.int .i64 0,.int .i64 0,.bool false,.bool false,.int .i64 0,.int .i64 0,.bool false,.string ⟨#[]⟩,.int .i64 0,.slice none 0 0,.slice none 0 0,.slice none 0 0,.slice none 0 0,.int .i64 0,.bool false,.bool false,.int .i64 0,.int .i64 0,.slice none 0 0,.bool false,.slice none 0 0,.slice none 0 0,.slice none 0 0,.int .i64 0,.slice none 0 0,.slice none 0 0,.int .i64 0,.int .i64 0,.slice none 0 0,.int .i64 0,.int .i64 0,.string ⟨#[]⟩,.slice none 0 0,.int .i64 0,.slice none 0 0,.slice none 0 0,.int .i64 0,.slice none 0 0,.slice none 0 0,.slice none 0 0,.int .i64 0]) (fun W=>by go_simp) (hS3.alloc hS3.size _) ?_)
     have hA_:=Held.new y3_.w [.int .i64 0,.int .i64 0,.int .i64 0,.int .i64 0,.int .i64 0,.int .i64 0,.int .i64 0,.slice none 0 0,.int .i64 0,.int .i64 0,.int .i64 0,.int .i64 0,.int .i64 0,.int .i64 0,.slice none 0 0,.slice none 0 0,.slice none 0 0,.int .i64 0,.int .i64 0,.slice none 0 0,.int .i64 0,.int .i64 0,.bool false,.bool false,.int .i64 0,.int .i64 0,.bool false,.string ⟨#[]⟩,.int .i64 0,.slice none 0 0,.slice none 0 0,.slice none 0 0,.slice none 0 0,.int .i64 0,.bool false,.bool false,.int .i64 0,.int .i64 0,.slice none 0 0,.bool false,.slice none 0 0,.slice none 0 0,.slice none 0 0,.int .i64 0,.slice none 0 0,.slice none 0 0,.int .i64 0,.int .i64 0,.slice none 0 0,.int .i64 0,.int .i64 0,.string ⟨#[]⟩,.slice none 0 0,.int .i64 0,.slice none 0 0,.slice none 0 0,.int .i64 0,.slice none 0 0,.slice none 0 0,.slice none 0 0,.int .i64 0] 62 _ rfl
     have hb_:y0.w.heap.size≤y3_.w.heap.size:=hS3.size
     have hS4:=hS3.alloc hS3.size (.cells #[.int .i64 0,.int .i64 0,.int .i64 0,.int .i64 0,.int .i64 0,.int .i64 0,.int .i64 0,.slice none 0 0,.int .i64 0,.int .i64 0,.int .i64 0,.int .i64 0,.int .i64 0,.int .i64 0,.slice none 0 0,.slice none 0 0,.slice none 0 0,.int .i64 0,.int .i64 0,.slice none 0 0,.int .i64 0,.int .i64 0,.bool false,.bool false,.int .i64 0,.int .i64 0,.bool false,.string ⟨#[]⟩,.int .i64 0,.slice none 0 0,.slice none 0 0,.slice none 0 0,.slice none 0 0,.int .i64 0,.bool false,.bool false,.int .i64 0,.int .i64 0,.slice none 0 0,.bool false,.slice none 0 0,.slice none 0 0,.slice none 0 0,.int .i64 0,.slice none 0 0,.slice none 0 0,.int .i64 0,.int .i64 0,.slice none 0 0,.int .i64 0,.int .i64 0,.string ⟨#[]⟩,.slice none 0 0,.int .i64 0,.slice none 0 0,.slice none 0 0,.int .i64 0,.slice none 0 0,.slice none 0 0,.slice none 0 0,.int .i64 0] 62)
     (try simp only[Act.put]);(try simp only[List.setIfInBounds_toArray]);(try simp only[List.set_cons_succ]);(try simp only[List.set_cons_zero])
     refine wpAnyH_r1 9 (by kernel_rfl) (one_storeW rfl (by kernel_rfl) _ _ _ rfl (y3_.w.heap.size) (by kernel_rfl) (us:=fs) (by kernel_rfl) hA_ (by rw[hLr];kernel_rfl) hOr (by rw[hLr];rfl) (w0:=y0.w) inferInstance hb_ ?_)
     intro z0 hz hgz
     refine⟨z0.h,?_⟩
     have hSz:=z0.h
     (try simp only[Act.put]);(try simp only[List.setIfInBounds_toArray]);(try simp only[List.set_cons_succ]);(try simp only[List.set_cons_zero])
     refine wpAnyH_take (i:=10) (v:=?vp4_) rfl (by kernel_rfl) (by kernel_rfl) (by kernel_rfl) (fun _ _ _ h=>hPK.out _ _ _ _ _ h) (Or.inl ⟨by rfl,?yp4_⟩) (by assumption) ?rp4_
     case yp4_=>intro w9 hSw;clear hSw;go_simp;(try with_reducible rfl)
     (try simp only[Act.put]);(try simp only[List.setIfInBounds_toArray]);(try simp only[List.set_cons_succ]);(try simp only[List.set_cons_zero])
     refine wpAnyH_done (by kernel_rfl) ?_ _
     refine hKK.out _ _ _ ?_
     have hGz:Grows y0.w z0.w:=⟨z0.h⟩
     have hW:=Rd.late (Enc.mono hLast (Nat.zero_le _)) hgz rfl
     clear hKK hPK
     go_wp2_with fail
     go_meet
     case rel=>exact⟨⟨z0.w,(growsTr HVB.out hGz).out⟩,_,_,rfl,rfl,rfl,hz,hW,hGz⟩
    ·refine one_alloc rfl (by kernel_rfl) _ rfl (cs:=#[.int .i64 0,.int .i64 0,.int .i64 0,.int .i64 0,.int .i64 0,.int .i64 0,.int .i64 0,.slice none 0 0,.int .i64 0,.int .i64 0,.int .i64 0,.int .i64 0,.int .i64 0,.int .i64 0,.slice none 0 0,.slice none 0 0,.slice none 0 0,.int .i64 0,.int .i64 0,.slice none 0 0,.int .i64 0,.int .i64 0,.bool false,.bool false,.int .i64 0,.int .i64 0,.bool false,.string ⟨#[]⟩,.int .i64 0,.slice none 0 0,.slice none 0 0,.slice none 0 0,.slice none 0 0,.int .i64 0,.bool false,.bool false,.int .i64 0,.int .i64 0,.slice none 0 0,.bool false,.slice none 0 0,.slice none 0 0,.slice none 0 0,.int .i64 0,.slice none 0 0,.slice none 0 0,.int .i64 0,.int .i64 0,.slice none 0 0,.int .i64 0,.int .i64 0,.string ⟨#[]⟩,.slice none 0 0,.int .i64 0,.slice none 0 0,.slice none 0 0,.int .i64 0,.slice none 0 0,.slice none 0 0,.slice none 0 0,.int .i64 0]) (fun W=>by go_simp) (hS2.alloc hS2.size _) ?_
     have hA_:=Held.new y2_.w [.int .i64 0,.int .i64 0,.int .i64 0,.int .i64 0,.int .i64 0,.int .i64 0,.int .i64 0,.slice none 0 0,.int .i64 0,.int .i64 0,.int .i64 0,.int .i64 0,.int .i64 0,.int .i64 0,.slice none 0 0,.slice none 0 0,.slice none 0 0,.int .i64 0,.int .i64 0,.slice none 0 0,.int .i64 0,.int .i64 0,.bool false,.bool false,.int .i64 0,.int .i64 0,.bool false,.string ⟨#[]⟩,.int .i64 0,.slice none 0 0,.slice none 0 0,.slice none 0 0,.slice none 0 0,.int .i64 0,.bool false,.bool false,.int .i64 0,.int .i64 0,.slice none 0 0,.bool false,.slice none 0 0,.slice none 0 0,.slice none 0 0,.int .i64 0,.slice none 0 0,.slice none 0 0,.int .i64 0,.int .i64 0,.slice none 0 0,.int .i64 0,.int .i64 0,.string ⟨#[]⟩,.slice none 0 0,.int .i64 0,.slice none 0 0,.slice none 0 0,.int .i64 0,.slice none 0 0,.slice none 0 0,.slice none 0 0,.int .i64 0] 62 _ rfl
     have hb_:y0.w.heap.size≤y2_.w.heap.size:=hS2.size
     have hS3:=hS2.alloc hS2.size (.cells #[.int .i64 0,.int .i64 0,.int .i64 0,.int .i64 0,.int .i64 0,.int .i64 0,.int .i64 0,.slice none 0 0,.int .i64 0,.int .i64 0,.int .i64 0,.int .i64 0,.int .i64 0,.int .i64 0,.slice none 0 0,.slice none 0 0,.slice none 0 0,.int .i64 0,.int .i64 0,.slice none 0 0,.int .i64 0,.int .i64 0,.bool false,.bool false,.int .i64 0,.int .i64 0,.bool false,.string ⟨#[]⟩,.int .i64 0,.slice none 0 0,.slice none 0 0,.slice none 0 0,.slice none 0 0,.int .i64 0,.bool false,.bool false,.int .i64 0,.int .i64 0,.slice none 0 0,.bool false,.slice none 0 0,.slice none 0 0,.slice none 0 0,.int .i64 0,.slice none 0 0,.slice none 0 0,.int .i64 0,.int .i64 0,.slice none 0 0,.int .i64 0,.int .i64 0,.string ⟨#[]⟩,.slice none 0 0,.int .i64 0,.slice none 0 0,.slice none 0 0,.int .i64 0,.slice none 0 0,.slice none 0 0,.slice none 0 0,.int .i64 0] 62)
     (try simp only[Act.put]);(try simp only[List.setIfInBounds_toArray]);(try simp only[List.set_cons_succ]);(try simp only[List.set_cons_zero])
     refine wpAnyH_r1 4 (by kernel_rfl) (one_call rfl (by kernel_rfl) (f:=37) rfl Tryz.func37 (by kernel_rfl) (by kernel_rfl) [.agg os.toArray,.agg #[.int .i64 q.Kind,.int .i64 q.At,.int .i64 q.A,.int .i64 q.B]] (by kernel_rfl) ((o_sGiveOrder (m:=m) (q:=q) (Enc.keep hR1 inferInstance) HT9.out).mono ?_))
     rintro _ _ ⟨fs,χf,rfl,hLast0,y4_,rfl⟩
     rw[HF.out]at hLast0
     rw[HB2.out]
     have hLast:=EncO.toRd hLast0
     have hLr:=len_mission hLast;have hOr:=one_mission hLast
     have hS4:=hS3.trans (y4_.h.mono hS3.size)
     refine⟨_,rfl,hS4,?_⟩
     (try simp only[Act.put]);(try simp only[List.setIfInBounds_toArray]);(try simp only[List.set_cons_succ]);(try simp only[List.set_cons_zero])
     refine wpAnyH_take (i:=5) (v:=?vp5_) rfl (by kernel_rfl) (by kernel_rfl) (by kernel_rfl) (fun _ _ _ h=>hPK.out _ _ _ _ _ h) (Or.inl ⟨by rfl,?yp5_⟩) (by assumption) ?rp5_
     case yp5_=>intro w9 hSw;clear hSw;go_simp;(try with_reducible rfl)
     (try simp only[Act.put]);(try simp only[List.setIfInBounds_toArray]);(try simp only[List.set_cons_succ]);(try simp only[List.set_cons_zero])
     refine wpAnyH_take (i:=6) (v:=?vp6_) rfl (by kernel_rfl) (by kernel_rfl) (by kernel_rfl) (fun _ _ _ h=>hPK.out _ _ _ _ _ h) (Or.inl ⟨by rfl,?yp6_⟩) (by assumption) ?rp6_
     case yp6_=>intro w9 hSw;clear hSw;go_simp;(try with_reducible rfl)
     (try simp only[Act.put]);(try simp only[List.setIfInBounds_toArray]);(try simp only[List.set_cons_succ]);(try simp only[List.set_cons_zero])
     refine wpAnyH_take (i:=7) (v:=?vp7_) rfl (by kernel_rfl) (by kernel_rfl) (by kernel_rfl) (fun _ _ _ h=>hPK.out _ _ _ _ _ h) (Or.inl ⟨by rfl,?yp7_⟩) (by assumption) ?rp7_
     case yp7_=>intro w9 hSw;clear hSw;go_simp;(try with_reducible rfl)
     (try simp only[Act.put]);(try simp only[List.setIfInBounds_toArray]);(try simp only[List.set_cons_succ]);(try simp only[List.set_cons_zero])
     refine wpAnyH_r1 9 (by kernel_rfl) (one_storeW rfl (by kernel_rfl) _ _ _ rfl (y2_.w.heap.size) (by kernel_rfl) (us:=fs) (by kernel_rfl) (hA_.to inferInstance) (by rw[hLr];kernel_rfl) hOr (by rw[hLr];rfl) (w0:=y0.w) inferInstance hb_ ?_)
     intro z0 hz hgz
     refine⟨z0.h,?_⟩
     have hSz:=z0.h
     (try simp only[Act.put]);(try simp only[List.setIfInBounds_toArray]);(try simp only[List.set_cons_succ]);(try simp only[List.set_cons_zero])
     refine wpAnyH_take (i:=10) (v:=?vp8_) rfl (by kernel_rfl) (by kernel_rfl) (by kernel_rfl) (fun _ _ _ h=>hPK.out _ _ _ _ _ h) (Or.inl ⟨by rfl,?yp8_⟩) (by assumption) ?rp8_
     case yp8_=>intro w9 hSw;clear hSw;go_simp;(try with_reducible rfl)
     (try simp only[Act.put]);(try simp only[List.setIfInBounds_toArray]);(try simp only[List.set_cons_succ]);(try simp only[List.set_cons_zero])
     refine wpAnyH_done (by kernel_rfl) ?_ _
     refine hKK.out _ _ _ ?_
     have hGz:Grows y0.w z0.w:=⟨z0.h⟩
     have hW:=Enc.mono (Enc.keep hLast (keepsOf hgz (Nat.lt_of_lt_of_le hA_.lt LeN.out))) (Nat.zero_le _)
     clear hKK hPK
     go_wp2_with fail
     go_meet
     case rel=>exact⟨⟨z0.w,(growsTr HVB.out hGz).out⟩,_,_,rfl,rfl,rfl,hz,hW,hGz⟩
   ·refine one_alloc rfl (by kernel_rfl) _ rfl (cs:=#[.int .i64 0,.int .i64 0,.int .i64 0,.int .i64 0,.int .i64 0,.int .i64 0,.int .i64 0,.slice none 0 0,.int .i64 0,.int .i64 0,.int .i64 0,.int .i64 0,.int .i64 0,.int .i64 0,.slice none 0 0,.slice none 0 0,.slice none 0 0,.int .i64 0,.int .i64 0,.slice none 0 0,.int .i64 0,.int .i64 0,.bool false,.bool false,.int .i64 0,.int .i64 0,.bool false,.string ⟨#[]⟩,.int .i64 0,.slice none 0 0,.slice none 0 0,.slice none 0 0,.slice none 0 0,.int .i64 0,.bool false,.bool false,.int .i64 0,.int .i64 0,.slice none 0 0,.bool false,.slice none 0 0,.slice none 0 0,.slice none 0 0,.int .i64 0,.slice none 0 0,.slice none 0 0,.int .i64 0,.int .i64 0,.slice none 0 0,.int .i64 0,.int .i64 0,.string ⟨#[]⟩,.slice none 0 0,.int .i64 0,.slice none 0 0,.slice none 0 0,.int .i64 0,.slice none 0 0,.slice none 0 0,.slice none 0 0,.int .i64 0]) (fun W=>by go_simp) (hS1.alloc hS1.size _) ?_
    have hA_:=Held.new y1_.w [.int .i64 0,.int .i64 0,.int .i64 0,.int .i64 0,.int .i64 0,.int .i64 0,.int .i64 0,.slice none 0 0,.int .i64 0,.int .i64 0,.int .i64 0,.int .i64 0,.int .i64 0,.int .i64 0,.slice none 0 0,.slice none 0 0,.slice none 0 0,.int .i64 0,.int .i64 0,.slice none 0 0,.int .i64 0,.int .i64 0,.bool false,.bool false,.int .i64 0,.int .i64 0,.bool false,.string ⟨#[]⟩,.int .i64 0,.slice none 0 0,.slice none 0 0,.slice none 0 0,.slice none 0 0,.int .i64 0,.bool false,.bool false,.int .i64 0,.int .i64 0,.slice none 0 0,.bool false,.slice none 0 0,.slice none 0 0,.slice none 0 0,.int .i64 0,.slice none 0 0,.slice none 0 0,.int .i64 0,.int .i64 0,.slice none 0 0,.int .i64 0,.int .i64 0,.string ⟨#[]⟩,.slice none 0 0,.int .i64 0,.slice none 0 0,.slice none 0 0,.int .i64 0,.slice none 0 0,.slice none 0 0,.slice none 0 0,.int .i64 0] 62 _ rfl
    have hb_:y0.w.heap.size≤y1_.w.heap.size:=hS1.size
    have hS2:=hS1.alloc hS1.size (.cells #[.int .i64 0,.int .i64 0,.int .i64 0,.int .i64 0,.int .i64 0,.int .i64 0,.int .i64 0,.slice none 0 0,.int .i64 0,.int .i64 0,.int .i64 0,.int .i64 0,.int .i64 0,.int .i64 0,.slice none 0 0,.slice none 0 0,.slice none 0 0,.int .i64 0,.int .i64 0,.slice none 0 0,.int .i64 0,.int .i64 0,.bool false,.bool false,.int .i64 0,.int .i64 0,.bool false,.string ⟨#[]⟩,.int .i64 0,.slice none 0 0,.slice none 0 0,.slice none 0 0,.slice none 0 0,.int .i64 0,.bool false,.bool false,.int .i64 0,.int .i64 0,.slice none 0 0,.bool false,.slice none 0 0,.slice none 0 0,.slice none 0 0,.int .i64 0,.slice none 0 0,.slice none 0 0,.int .i64 0,.int .i64 0,.slice none 0 0,.int .i64 0,.int .i64 0,.string ⟨#[]⟩,.slice none 0 0,.int .i64 0,.slice none 0 0,.slice none 0 0,.int .i64 0,.slice none 0 0,.slice none 0 0,.slice none 0 0,.int .i64 0] 62)
    (try simp only[Act.put]);(try simp only[List.setIfInBounds_toArray]);(try simp only[List.set_cons_succ]);(try simp only[List.set_cons_zero])
    refine wpAnyH_r1 3 (by kernel_rfl) (one_call rfl (by kernel_rfl) (f:=38) rfl Tryz.func38 (by kernel_rfl) (by kernel_rfl) [.agg #[.int .i64 q.Kind,.int .i64 q.At,.int .i64 q.A,.int .i64 q.B]] (by kernel_rfl) ((d_ltoOrder (x:=q) (vs:=[.int .i64 q.Kind,.int .i64 q.At,.int .i64 q.A,.int .i64 q.B]) (B:=0) ⟨rfl,HOQ.out⟩ (by show(0:Int)≤_;decide)).mono ?_))
    rintro _ _ ⟨_,rfl,⟨rfl,-⟩,y3_,rfl⟩
    have hS3:=hS2.trans (y3_.h.mono hS2.size)
    refine⟨_,rfl,hS3,?_⟩
    (try simp only[Act.put]);(try simp only[List.setIfInBounds_toArray]);(try simp only[List.set_cons_succ]);(try simp only[List.set_cons_zero])
    refine wpAnyH_r1 4 (by kernel_rfl) (one_call rfl (by kernel_rfl) (f:=37) rfl Tryz.func37 (by kernel_rfl) (by kernel_rfl) [.agg os.toArray,.agg #[.int .i64 q.Kind,.int .i64 q.At,.int .i64 q.A,.int .i64 q.B]] (by kernel_rfl) ((o_sGiveOrder (m:=m) (q:=q) (Enc.keep hR1 inferInstance) HT9.out).mono ?_))
    rintro _ _ ⟨fs,χf,rfl,hLast0,y4_,rfl⟩
    rw[HF.out]at hLast0
    rw[HB2.out]
    have hLast:=EncO.toRd hLast0
    have hLr:=len_mission hLast;have hOr:=one_mission hLast
    have hS4:=hS3.trans (y4_.h.mono hS3.size)
    refine⟨_,rfl,hS4,?_⟩
    (try simp only[Act.put]);(try simp only[List.setIfInBounds_toArray]);(try simp only[List.set_cons_succ]);(try simp only[List.set_cons_zero])
    refine wpAnyH_take (i:=5) (v:=?vp9_) rfl (by kernel_rfl) (by kernel_rfl) (by kernel_rfl) (fun _ _ _ h=>hPK.out _ _ _ _ _ h) (Or.inl ⟨by rfl,?yp9_⟩) (by assumption) ?rp9_
    case yp9_=>intro w9 hSw;clear hSw;go_simp;(try with_reducible rfl)
    (try simp only[Act.put]);(try simp only[List.setIfInBounds_toArray]);(try simp only[List.set_cons_succ]);(try simp only[List.set_cons_zero])
    refine wpAnyH_take (i:=6) (v:=?vp10_) rfl (by kernel_rfl) (by kernel_rfl) (by kernel_rfl) (fun _ _ _ h=>hPK.out _ _ _ _ _ h) (Or.inl ⟨by rfl,?yp10_⟩) (by assumption) ?rp10_
    case yp10_=>intro w9 hSw;clear hSw;go_simp;(try with_reducible rfl)
    (try simp only[Act.put]);(try simp only[List.setIfInBounds_toArray]);(try simp only[List.set_cons_succ]);(try simp only[List.set_cons_zero])
    refine wpAnyH_take (i:=7) (v:=?vp11_) rfl (by kernel_rfl) (by kernel_rfl) (by kernel_rfl) (fun _ _ _ h=>hPK.out _ _ _ _ _ h) (Or.inl ⟨by rfl,?yp11_⟩) (by assumption) ?rp11_
    case yp11_=>intro w9 hSw;clear hSw;go_simp;(try with_reducible rfl)
    (try simp only[Act.put]);(try simp only[List.setIfInBounds_toArray]);(try simp only[List.set_cons_succ]);(try simp only[List.set_cons_zero])
    refine wpAnyH_r1 9 (by kernel_rfl) (one_storeW rfl (by kernel_rfl) _ _ _ rfl (y1_.w.heap.size) (by kernel_rfl) (us:=fs) (by kernel_rfl) (hA_.to inferInstance) (by rw[hLr];kernel_rfl) hOr (by rw[hLr];rfl) (w0:=y0.w) inferInstance hb_ ?_)
    intro z0 hz hgz
    refine⟨z0.h,?_⟩
    have hSz:=z0.h
    (try simp only[Act.put]);(try simp only[List.setIfInBounds_toArray]);(try simp only[List.set_cons_succ]);(try simp only[List.set_cons_zero])
    refine wpAnyH_take (i:=10) (v:=?vp12_) rfl (by kernel_rfl) (by kernel_rfl) (by kernel_rfl) (fun _ _ _ h=>hPK.out _ _ _ _ _ h) (Or.inl ⟨by rfl,?yp12_⟩) (by assumption) ?rp12_
    case yp12_=>intro w9 hSw;clear hSw;go_simp;(try with_reducible rfl)
    (try simp only[Act.put]);(try simp only[List.setIfInBounds_toArray]);(try simp only[List.set_cons_succ]);(try simp only[List.set_cons_zero])
    refine wpAnyH_done (by kernel_rfl) ?_ _
    refine hKK.out _ _ _ ?_
    have hGz:Grows y0.w z0.w:=⟨z0.h⟩
    have hW:=Enc.mono (Enc.keep hLast (keepsOf hgz (Nat.lt_of_lt_of_le hA_.lt LeN.out))) (Nat.zero_le _)
    clear hKK hPK
    go_wp2_with fail
    go_meet
    case rel=>exact⟨⟨z0.w,(growsTr HVB.out hGz).out⟩,_,_,rfl,rfl,rfl,hz,hW,hGz⟩
  ·refine one_alloc rfl (by kernel_rfl) _ rfl (cs:=#[.int .i64 0,.int .i64 0,.int .i64 0,.int .i64 0,.int .i64 0,.int .i64 0,.int .i64 0,.slice none 0 0,.int .i64 0,.int .i64 0,.int .i64 0,.int .i64 0,.int .i64 0,.int .i64 0,.slice none 0 0,.slice none 0 0,.slice none 0 0,.int .i64 0,.int .i64 0,.slice none 0 0,.int .i64 0,.int .i64 0,.bool false,.bool false,.int .i64 0,.int .i64 0,.bool false,.string ⟨#[]⟩,.int .i64 0,.slice none 0 0,.slice none 0 0,.slice none 0 0,.slice none 0 0,.int .i64 0,.bool false,.bool false,.int .i64 0,.int .i64 0,.slice none 0 0,.bool false,.slice none 0 0,.slice none 0 0,.slice none 0 0,.int .i64 0,.slice none 0 0,.slice none 0 0,.int .i64 0,.int .i64 0,.slice none 0 0,.int .i64 0,.int .i64 0,.string ⟨#[]⟩,.slice none 0 0,.int .i64 0,.slice none 0 0,.slice none 0 0,.int .i64 0,.slice none 0 0,.slice none 0 0,.slice none 0 0,.int .i64 0]) (fun W=>by go_simp) (hS0.alloc hS0.size _) ?_
   have hA_:=Held.new y0.w.drew [.int .i64 0,.int .i64 0,.int .i64 0,.int .i64 0,.int .i64 0,.int .i64 0,.int .i64 0,.slice none 0 0,.int .i64 0,.int .i64 0,.int .i64 0,.int .i64 0,.int .i64 0,.int .i64 0,.slice none 0 0,.slice none 0 0,.slice none 0 0,.int .i64 0,.int .i64 0,.slice none 0 0,.int .i64 0,.int .i64 0,.bool false,.bool false,.int .i64 0,.int .i64 0,.bool false,.string ⟨#[]⟩,.int .i64 0,.slice none 0 0,.slice none 0 0,.slice none 0 0,.slice none 0 0,.int .i64 0,.bool false,.bool false,.int .i64 0,.int .i64 0,.slice none 0 0,.bool false,.slice none 0 0,.slice none 0 0,.slice none 0 0,.int .i64 0,.slice none 0 0,.slice none 0 0,.int .i64 0,.int .i64 0,.slice none 0 0,.int .i64 0,.int .i64 0,.string ⟨#[]⟩,.slice none 0 0,.int .i64 0,.slice none 0 0,.slice none 0 0,.int .i64 0,.slice none 0 0,.slice none 0 0,.slice none 0 0,.int .i64 0] 62 _ rfl
   have hb_:y0.w.heap.size≤y0.w.drew.heap.size:=hS0.size
   have hS1:=hS0.alloc hS0.size (.cells #[.int .i64 0,.int .i64 0,.int .i64 0,.int .i64 0,.int .i64 0,.int .i64 0,.int .i64 0,.slice none 0 0,.int .i64 0,.int .i64 0,.int .i64 0,.int .i64 0,.int .i64 0,.int .i64 0,.slice none 0 0,.slice none 0 0,.slice none 0 0,.int .i64 0,.int .i64 0,.slice none 0 0,.int .i64 0,.int .i64 0,.bool false,.bool false,.int .i64 0,.int .i64 0,.bool false,.string ⟨#[]⟩,.int .i64 0,.slice none 0 0,.slice none 0 0,.slice none 0 0,.slice none 0 0,.int .i64 0,.bool false,.bool false,.int .i64 0,.int .i64 0,.slice none 0 0,.bool false,.slice none 0 0,.slice none 0 0,.slice none 0 0,.int .i64 0,.slice none 0 0,.slice none 0 0,.int .i64 0,.int .i64 0,.slice none 0 0,.int .i64 0,.int .i64 0,.string ⟨#[]⟩,.slice none 0 0,.int .i64 0,.slice none 0 0,.slice none 0 0,.int .i64 0,.slice none 0 0,.slice none 0 0,.slice none 0 0,.int .i64 0] 62)
   (try simp only[Act.put]);(try simp only[List.setIfInBounds_toArray]);(try simp only[List.set_cons_succ]);(try simp only[List.set_cons_zero])
   refine wpAnyH_r1 1 (by kernel_rfl) (one_call rfl (by kernel_rfl) (f:=35) rfl Tryz.func35 (by kernel_rfl) (by kernel_rfl) [.agg vs.toArray] (by kernel_rfl) ((dl_toMission (x:=m) (Enc.keep HMV.out ⟨hS1.size,fun b _ h2=>hS1.block b h2⟩) HT.out).mono ?_))
   rintro _ _ ⟨os,rfl,hR1,y2_,rfl⟩
   have hS2:=hS1.trans (y2_.h.mono hS1.size)
   refine⟨_,rfl,hS2,?_⟩
   (try simp only[Act.put]);(try simp only[List.setIfInBounds_toArray]);(try simp only[List.set_cons_succ]);(try simp only[List.set_cons_zero])
   refine wpAnyH_r1 3 (by kernel_rfl) (one_call rfl (by kernel_rfl) (f:=38) rfl Tryz.func38 (by kernel_rfl) (by kernel_rfl) [.agg #[.int .i64 q.Kind,.int .i64 q.At,.int .i64 q.A,.int .i64 q.B]] (by kernel_rfl) ((d_ltoOrder (x:=q) (vs:=[.int .i64 q.Kind,.int .i64 q.At,.int .i64 q.A,.int .i64 q.B]) (B:=0) ⟨rfl,HOQ.out⟩ (by show(0:Int)≤_;decide)).mono ?_))
   rintro _ _ ⟨_,rfl,⟨rfl,-⟩,y3_,rfl⟩
   have hS3:=hS2.trans (y3_.h.mono hS2.size)
   refine⟨_,rfl,hS3,?_⟩
   (try simp only[Act.put]);(try simp only[List.setIfInBounds_toArray]);(try simp only[List.set_cons_succ]);(try simp only[List.set_cons_zero])
   refine wpAnyH_r1 4 (by kernel_rfl) (one_call rfl (by kernel_rfl) (f:=37) rfl Tryz.func37 (by kernel_rfl) (by kernel_rfl) [.agg os.toArray,.agg #[.int .i64 q.Kind,.int .i64 q.At,.int .i64 q.A,.int .i64 q.B]] (by kernel_rfl) ((o_sGiveOrder (m:=m) (q:=q) (Enc.keep hR1 inferInstance) HT9.out).mono ?_))
   rintro _ _ ⟨fs,χf,rfl,hLast0,y4_,rfl⟩
   rw[HF.out]at hLast0
   rw[HB2.out]
   have hLast:=EncO.toRd hLast0
   have hLr:=len_mission hLast;have hOr:=one_mission hLast
   have hS4:=hS3.trans (y4_.h.mono hS3.size)
   refine⟨_,rfl,hS4,?_⟩
   (try simp only[Act.put]);(try simp only[List.setIfInBounds_toArray]);(try simp only[List.set_cons_succ]);(try simp only[List.set_cons_zero])
   refine wpAnyH_take (i:=5) (v:=?vp13_) rfl (by kernel_rfl) (by kernel_rfl) (by kernel_rfl) (fun _ _ _ h=>hPK.out _ _ _ _ _ h) (Or.inl ⟨by rfl,?yp13_⟩) (by assumption) ?rp13_
   case yp13_=>intro w9 hSw;clear hSw;go_simp;(try with_reducible rfl)
   (try simp only[Act.put]);(try simp only[List.setIfInBounds_toArray]);(try simp only[List.set_cons_succ]);(try simp only[List.set_cons_zero])
   refine wpAnyH_take (i:=6) (v:=?vp14_) rfl (by kernel_rfl) (by kernel_rfl) (by kernel_rfl) (fun _ _ _ h=>hPK.out _ _ _ _ _ h) (Or.inl ⟨by rfl,?yp14_⟩) (by assumption) ?rp14_
   case yp14_=>intro w9 hSw;clear hSw;go_simp;(try with_reducible rfl)
   (try simp only[Act.put]);(try simp only[List.setIfInBounds_toArray]);(try simp only[List.set_cons_succ]);(try simp only[List.set_cons_zero])
   refine wpAnyH_take (i:=7) (v:=?vp15_) rfl (by kernel_rfl) (by kernel_rfl) (by kernel_rfl) (fun _ _ _ h=>hPK.out _ _ _ _ _ h) (Or.inl ⟨by rfl,?yp15_⟩) (by assumption) ?rp15_
   case yp15_=>intro w9 hSw;clear hSw;go_simp;(try with_reducible rfl)
   (try simp only[Act.put]);(try simp only[List.setIfInBounds_toArray]);(try simp only[List.set_cons_succ]);(try simp only[List.set_cons_zero])
   refine wpAnyH_r1 9 (by kernel_rfl) (one_storeW rfl (by kernel_rfl) _ _ _ rfl (y0.w.drew.heap.size) (by kernel_rfl) (us:=fs) (by kernel_rfl) (hA_.to inferInstance) (by rw[hLr];kernel_rfl) hOr (by rw[hLr];rfl) (w0:=y0.w) inferInstance hb_ ?_)
   intro z0 hz hgz
   refine⟨z0.h,?_⟩
   have hSz:=z0.h
   (try simp only[Act.put]);(try simp only[List.setIfInBounds_toArray]);(try simp only[List.set_cons_succ]);(try simp only[List.set_cons_zero])
   refine wpAnyH_take (i:=10) (v:=?vp16_) rfl (by kernel_rfl) (by kernel_rfl) (by kernel_rfl) (fun _ _ _ h=>hPK.out _ _ _ _ _ h) (Or.inl ⟨by rfl,?yp16_⟩) (by assumption) ?rp16_
   case yp16_=>intro w9 hSw;clear hSw;go_simp;(try with_reducible rfl)
   (try simp only[Act.put]);(try simp only[List.setIfInBounds_toArray]);(try simp only[List.set_cons_succ]);(try simp only[List.set_cons_zero])
   refine wpAnyH_done (by kernel_rfl) ?_ _
   refine hKK.out _ _ _ ?_
   have hGz:Grows y0.w z0.w:=⟨z0.h⟩
   have hW:=Enc.mono (Enc.keep hLast (keepsOf hgz (Nat.lt_of_lt_of_le hA_.lt LeN.out))) (Nat.zero_le _)
   clear hKK hPK
   go_wp2_with fail
   go_meet
   case rel=>exact⟨⟨z0.w,(growsTr HVB.out hGz).out⟩,_,_,rfl,rfl,rfl,hz,hW,hGz⟩
 case rest =>
 obtain⟨z1,bw,ws,rfl,rfl,rfl,hX,hW,-⟩:=hcut
 have HLW:=lH (len_mission hW);have HOW:=lH (one_mission hW);have HW1:=lH hW;have HWb1:=lH hX;clear hX hW HBV HQV HMV
 have HB1:=lH (HB.out.to (inferInstance:Grows _ z1.w))
 have HM1:=lH (Enc.keep HM.out (inferInstance:Keeps _ _ z1.w));have HQ1:=lH (HQ.out.to (inferInstance:Grows _ z1.w));clear HB HM HQ
 go_wp2_with (first|(refine stepLoad rfl _ _ rfl w.heap.size 0 rfl (row:=vs) (HB1.out.to inferInstance) _ Tryz.underlying116 rfl (by rw[HL.out];kernel_rfl) (by rw[List.drop_zero,List.take_length]) ?_))
 refine(o_ltoMission (x:=m) (Enc.keep HM1.out inferInstance) HT.out).mono ?_
 rintro _ _ ⟨xs,χx,rfl,hX,y3,rfl⟩
 have HLX:=lH (len_mission (EncO.toRd hX))
 have HOX:=lH (one_mission (EncO.toRd hX))
 have HX0:=lH (om_old hX (Nat.le_refl _));clear hX
 go_wp2_with (first|(refine stepStore2 rfl _ _ _ rfl _ 0 rfl (us:=xs) (cs2:=xs) (Held.new _ [.int .i64 0,.int .i64 0,.int .i64 0,.int .i64 0,.int .i64 0,.int .i64 0,.int .i64 0,.slice none 0 0,.int .i64 0,.int .i64 0,.int .i64 0,.int .i64 0,.int .i64 0,.int .i64 0,.slice none 0 0,.slice none 0 0,.slice none 0 0,.int .i64 0,.int .i64 0,.slice none 0 0,.int .i64 0,.int .i64 0,.bool false,.bool false,.int .i64 0,.int .i64 0,.bool false,.string ⟨#[]⟩,.int .i64 0,.slice none 0 0,.slice none 0 0,.slice none 0 0,.slice none 0 0,.int .i64 0,.bool false,.bool false,.int .i64 0,.int .i64 0,.slice none 0 0,.bool false,.slice none 0 0,.slice none 0 0,.slice none 0 0,.int .i64 0,.slice none 0 0,.slice none 0 0,.int .i64 0,.int .i64 0,.slice none 0 0,.int .i64 0,.int .i64 0,.string ⟨#[]⟩,.slice none 0 0,.int .i64 0,.slice none 0 0,.slice none 0 0,.int .i64 0,.slice none 0 0,.slice none 0 0,.slice none 0 0,.int .i64 0] 62 _ rfl) ?a21 ?a22 ?a23 ?a24 ?a25 (w0:=((w.alloc (.cells vs.toArray 116)).alloc (.cells #[.int .i64 q.Kind,.int .i64 q.At,.int .i64 q.A,.int .i64 q.B] 122))) inferInstance LeN.out ?_;(case a21=>rfl);(case a22=>(rw[HLX.out];kernel_rfl));(case a23=>exact HOX.out);(case a24=>(rw[HLX.out];exact Nat.le_of_ble_eq_true rfl));(case a25=>exact splice_all HLX.out);intro z2 hx kx;have HX2:=lH hx;clear hx;have KX2:=lH kx;clear kx))
 (try simp only[Act.put])
 have HG12:=lH (growsOf z1 z2 (KX2.out.under inferInstance y3.size_le))
 have HXO2:=lH (om_keep HX0.out (KX2.out.under inferInstance (Nat.le_refl _)));clear HX0 KX2
 have HWb2:=lH (HWb1.out.to HG12.out)
 have HU2:=lH (show y3.w.heap.size≤z2.w.heap.size from Nat.le_of_lt HX2.out.lt)
 have HQ2:=lH (HQ1.out.to HG12.out)
 have HVB:=lH (inferInstance:Grows ((w.alloc (.cells vs.toArray 116)).alloc (.cells #[.int .i64 q.Kind,.int .i64 q.At,.int .i64 q.A,.int .i64 q.B] 122)) z2.w)
 go_cut [9,10]from 31 (fun s1 s2 wx=>∃ (z:Later ((w.alloc (.cells vs.toArray 116)).alloc (.cells #[.int .i64 q.Kind,.int .i64 q.At,.int .i64 q.A,.int .i64 q.B] 122))) (b Bo U:Nat) (fs:List Value) (χ:Nat→Col),s1=.pointer (some ⟨b,0,none⟩)∧s2=.bool b2∧wx=z.w∧Held z.w b fs 62∧EncO.O Bo (paint U χ (fun _=>(0,0)) (fun _=>(1000,0))) 0 z.w fs fm∧Grows z2.w z.w∧(b<Bo∨U≤b)∧(z2.w.heap.size≤Bo∧U≤z.w.heap.size∧Bo≤z.w.heap.size)∧z2.w.heap.size≤b)
 case first =>
  refine wp_abs (fun _ _ _ _ _ h=>h) fun KK hPK hKK=>?_
  refine wp_region_held_drew (S:=fun W=>Below z2.w.heap.size z2.w W) (by kernel_rfl) (Below.refl _ _).drew (fun hS0=>?_)
  show wpAnyH _ _ _ _ _ 10 #[false,false,false,false,false,false,false,false,false,false] _ _
  refine wpAnyH_take (i:=0) (v:=_) rfl (by kernel_rfl) (by kernel_rfl) (by kernel_rfl) (fun _ _ _ h=>hPK.out _ _ _ _ _ h) (yieldsIf_load_mid (by rfl) _ _ rfl _ 0 rfl xs _ (fun W hW=>(HX2.out.to ⟨hW⟩).range (n:=xs.length) (by rw[List.drop_zero,List.take_length])) Tryz.underlying62 rfl (by rw[HLX.out];kernel_rfl)) (by assumption) ?_
  (try simp only[Act.put]);(try simp only[List.setIfInBounds_toArray]);(try simp only[List.set_cons_succ]);(try simp only[List.set_cons_zero])
  refine wpAnyH_take (i:=1) (v:=_) rfl (by kernel_rfl) (by kernel_rfl) (by kernel_rfl) (fun _ _ _ h=>hPK.out _ _ _ _ _ h) (yieldsIf_load_mid (by rfl) _ _ rfl (w.heap.size+1) 0 rfl [.int .i64 q.Kind,.int .i64 q.At,.int .i64 q.A,.int .i64 q.B] _ (fun W hW=>(HQ2.out.to ⟨hW⟩).range (n:=4) rfl) Tryz.underlying122 rfl (by kernel_rfl)) (by assumption) ?_
  (try simp only[Act.put]);(try simp only[List.setIfInBounds_toArray]);(try simp only[List.set_cons_succ]);(try simp only[List.set_cons_zero])
  refine wpAnyH_r2 2 7 (by kernel_rfl) ?_ ?_
  ·refine one_call rfl (by kernel_rfl) (f:=38) rfl Tryz.func38 (by kernel_rfl) (by kernel_rfl) [.agg #[.int .i64 q.Kind,.int .i64 q.At,.int .i64 q.A,.int .i64 q.B]] (by kernel_rfl) ((d_ltoOrder (x:=q) (vs:=[.int .i64 q.Kind,.int .i64 q.At,.int .i64 q.A,.int .i64 q.B]) (B:=0) ⟨rfl,HOQ.out⟩ (by show(0:Int)≤_;decide)).mono ?_)
   rintro _ _ ⟨_,rfl,⟨rfl,-⟩,y1_,rfl⟩
   have hS1:=hS0.trans (y1_.h.mono hS0.size)
   refine⟨_,rfl,hS1,?_⟩
   (try simp only[Act.put]);(try simp only[List.setIfInBounds_toArray]);(try simp only[List.set_cons_succ]);(try simp only[List.set_cons_zero])
   refine wpAnyH_r2 3 7 (by kernel_rfl) ?_ ?_
   ·refine one_call rfl (by kernel_rfl) (f:=39) rfl Tryz.func39 (by kernel_rfl) (by kernel_rfl) [.agg xs.toArray,.agg #[.int .i64 q.Kind,.int .i64 q.At,.int .i64 q.A,.int .i64 q.B]] (by kernel_rfl) ((o_iGiveOrder (m:=m) (q:=q) (Enc.keep (EncO.toRd HXO2.out) ⟨hS1.size,fun b _ h2=>hS1.block b h2⟩) HT9.out).mono ?_)
    rintro _ _ ⟨fs,χf,rfl,hLast,y2_,rfl⟩
    rw[HF.out]at hLast
    rw[HB2.out]
    have hLr:=len_mission (EncO.toRd hLast);have hOr:=one_mission (EncO.toRd hLast)
    have hSc:z2.w.heap.size≤_:=hS1.size
    have hBy:=y2_.size_le
    have hS2:=hS1.trans (y2_.h.mono hS1.size)
    refine⟨_,rfl,hS2,?_⟩
    (try simp only[Act.put]);(try simp only[List.setIfInBounds_toArray]);(try simp only[List.set_cons_succ]);(try simp only[List.set_cons_zero])
    refine wpAnyH_take (i:=4) (v:=?vp17_) rfl (by kernel_rfl) (by kernel_rfl) (by kernel_rfl) (fun _ _ _ h=>hPK.out _ _ _ _ _ h) (Or.inl ⟨by rfl,?yp17_⟩) (by assumption) ?rp17_
    case yp17_=>intro w9 hSw;clear hSw;go_simp;(try with_reducible rfl)
    (try simp only[Act.put]);(try simp only[List.setIfInBounds_toArray]);(try simp only[List.set_cons_succ]);(try simp only[List.set_cons_zero])
    refine wpAnyH_take (i:=5) (v:=?vp18_) rfl (by kernel_rfl) (by kernel_rfl) (by kernel_rfl) (fun _ _ _ h=>hPK.out _ _ _ _ _ h) (Or.inl ⟨by rfl,?yp18_⟩) (by assumption) ?rp18_
    case yp18_=>intro w9 hSw;clear hSw;go_simp;(try with_reducible rfl)
    (try simp only[Act.put]);(try simp only[List.setIfInBounds_toArray]);(try simp only[List.set_cons_succ]);(try simp only[List.set_cons_zero])
    refine wpAnyH_take (i:=6) (v:=?vp19_) rfl (by kernel_rfl) (by kernel_rfl) (by kernel_rfl) (fun _ _ _ h=>hPK.out _ _ _ _ _ h) (Or.inl ⟨by rfl,?yp19_⟩) (by assumption) ?rp19_
    case yp19_=>intro w9 hSw;clear hSw;go_simp;(try with_reducible rfl)
    (try simp only[Act.put]);(try simp only[List.setIfInBounds_toArray]);(try simp only[List.set_cons_succ]);(try simp only[List.set_cons_zero])
    refine wpAnyH_r1 7 (by kernel_rfl) (one_alloc rfl (by kernel_rfl) _ rfl (cs:=#[.int .i64 0,.int .i64 0,.int .i64 0,.int .i64 0,.int .i64 0,.int .i64 0,.int .i64 0,.slice none 0 0,.int .i64 0,.int .i64 0,.int .i64 0,.int .i64 0,.int .i64 0,.int .i64 0,.slice none 0 0,.slice none 0 0,.slice none 0 0,.int .i64 0,.int .i64 0,.slice none 0 0,.int .i64 0,.int .i64 0,.bool false,.bool false,.int .i64 0,.int .i64 0,.bool false,.string ⟨#[]⟩,.int .i64 0,.slice none 0 0,.slice none 0 0,.slice none 0 0,.slice none 0 0,.int .i64 0,.bool false,.bool false,.int .i64 0,.int .i64 0,.slice none 0 0,.bool false,.slice none 0 0,.slice none 0 0,.slice none 0 0,.int .i64 0,.slice none 0 0,.slice none 0 0,.int .i64 0,.int .i64 0,.slice none 0 0,.int .i64 0,.int .i64 0,.string ⟨#[]⟩,.slice none 0 0,.int .i64 0,.slice none 0 0,.slice none 0 0,.int .i64 0,.slice none 0 0,.slice none 0 0,.slice none 0 0,.int .i64 0]) (fun W=>by go_simp) (hS2.alloc hS2.size _) ?_)
    have hA_:=Held.new y2_.w [.int .i64 0,.int .i64 0,.int .i64 0,.int .i64 0,.int .i64 0,.int .i64 0,.int .i64 0,.slice none 0 0,.int .i64 0,.int .i64 0,.int .i64 0,.int .i64 0,.int .i64 0,.int .i64 0,.slice none 0 0,.slice none 0 0,.slice none 0 0,.int .i64 0,.int .i64 0,.slice none 0 0,.int .i64 0,.int .i64 0,.bool false,.bool false,.int .i64 0,.int .i64 0,.bool false,.string ⟨#[]⟩,.int .i64 0,.slice none 0 0,.slice none 0 0,.slice none 0 0,.slice none 0 0,.int .i64 0,.bool false,.bool false,.int .i64 0,.int .i64 0,.slice none 0 0,.bool false,.slice none 0 0,.slice none 0 0,.slice none 0 0,.int .i64 0,.slice none 0 0,.slice none 0 0,.int .i64 0,.int .i64 0,.slice none 0 0,.int .i64 0,.int .i64 0,.string ⟨#[]⟩,.slice none 0 0,.int .i64 0,.slice none 0 0,.slice none 0 0,.int .i64 0,.slice none 0 0,.slice none 0 0,.slice none 0 0,.int .i64 0] 62 _ rfl
    have hb_:z2.w.heap.size≤y2_.w.heap.size:=hS2.size
    have hS3:=hS2.alloc hS2.size (.cells #[.int .i64 0,.int .i64 0,.int .i64 0,.int .i64 0,.int .i64 0,.int .i64 0,.int .i64 0,.slice none 0 0,.int .i64 0,.int .i64 0,.int .i64 0,.int .i64 0,.int .i64 0,.int .i64 0,.slice none 0 0,.slice none 0 0,.slice none 0 0,.int .i64 0,.int .i64 0,.slice none 0 0,.int .i64 0,.int .i64 0,.bool false,.bool false,.int .i64 0,.int .i64 0,.bool false,.string ⟨#[]⟩,.int .i64 0,.slice none 0 0,.slice none 0 0,.slice none 0 0,.slice none 0 0,.int .i64 0,.bool false,.bool false,.int .i64 0,.int .i64 0,.slice none 0 0,.bool false,.slice none 0 0,.slice none 0 0,.slice none 0 0,.int .i64 0,.slice none 0 0,.slice none 0 0,.int .i64 0,.int .i64 0,.slice none 0 0,.int .i64 0,.int .i64 0,.string ⟨#[]⟩,.slice none 0 0,.int .i64 0,.slice none 0 0,.slice none 0 0,.int .i64 0,.slice none 0 0,.slice none 0 0,.slice none 0 0,.int .i64 0] 62)
    (try simp only[Act.put]);(try simp only[List.setIfInBounds_toArray]);(try simp only[List.set_cons_succ]);(try simp only[List.set_cons_zero])
    refine wpAnyH_r1 8 (by kernel_rfl) (one_storeW rfl (by kernel_rfl) _ _ _ rfl (y2_.w.heap.size) (by kernel_rfl) (us:=fs) (by kernel_rfl) hA_ (by rw[hLr];kernel_rfl) hOr (by rw[hLr];rfl) (w0:=z2.w) inferInstance hb_ ?_)
    intro z0 hz hgz
    refine⟨z0.h,?_⟩
    have hSz:=z0.h
    (try simp only[Act.put]);(try simp only[List.setIfInBounds_toArray]);(try simp only[List.set_cons_succ]);(try simp only[List.set_cons_zero])
    refine wpAnyH_take (i:=9) (v:=?vp20_) rfl (by kernel_rfl) (by kernel_rfl) (by kernel_rfl) (fun _ _ _ h=>hPK.out _ _ _ _ _ h) (Or.inl ⟨by rfl,?yp20_⟩) (by assumption) ?rp20_
    case yp20_=>intro w9 hSw;clear hSw;go_simp;(try with_reducible rfl)
    (try simp only[Act.put]);(try simp only[List.setIfInBounds_toArray]);(try simp only[List.set_cons_succ]);(try simp only[List.set_cons_zero])
    refine wpAnyH_done (by kernel_rfl) ?_ _
    refine hKK.out _ _ _ ?_
    have hGz:Grows z2.w z0.w:=⟨z0.h⟩
    have hW:=om_late (om_old hLast (Nat.le_refl _)) hgz rfl
    have hU:y2_.w.heap.size≤z0.w.heap.size:=Nat.le_trans (by simp) hgz.size
    clear hKK hPK
    go_wp2_with fail
    go_meet
    case rel=>exact⟨⟨z0.w,(growsTr HVB.out hGz).out⟩,_,_,_,_,_,rfl,rfl,rfl,hz,hW,hGz,.inr (Nat.le_refl _),⟨hSc,hU,Nat.le_trans hBy hU⟩,hb_⟩
   ·refine one_alloc rfl (by kernel_rfl) _ rfl (cs:=#[.int .i64 0,.int .i64 0,.int .i64 0,.int .i64 0,.int .i64 0,.int .i64 0,.int .i64 0,.slice none 0 0,.int .i64 0,.int .i64 0,.int .i64 0,.int .i64 0,.int .i64 0,.int .i64 0,.slice none 0 0,.slice none 0 0,.slice none 0 0,.int .i64 0,.int .i64 0,.slice none 0 0,.int .i64 0,.int .i64 0,.bool false,.bool false,.int .i64 0,.int .i64 0,.bool false,.string ⟨#[]⟩,.int .i64 0,.slice none 0 0,.slice none 0 0,.slice none 0 0,.slice none 0 0,.int .i64 0,.bool false,.bool false,.int .i64 0,.int .i64 0,.slice none 0 0,.bool false,.slice none 0 0,.slice none 0 0,.slice none 0 0,.int .i64 0,.slice none 0 0,.slice none 0 0,.int .i64 0,.int .i64 0,.slice none 0 0,.int .i64 0,.int .i64 0,.string ⟨#[]⟩,.slice none 0 0,.int .i64 0,.slice none 0 0,.slice none 0 0,.int .i64 0,.slice none 0 0,.slice none 0 0,.slice none 0 0,.int .i64 0]) (fun W=>by go_simp) (hS1.alloc hS1.size _) ?_
    have hA_:=Held.new y1_.w [.int .i64 0,.int .i64 0,.int .i64 0,.int .i64 0,.int .i64 0,.int .i64 0,.int .i64 0,.slice none 0 0,.int .i64 0,.int .i64 0,.int .i64 0,.int .i64 0,.int .i64 0,.int .i64 0,.slice none 0 0,.slice none 0 0,.slice none 0 0,.int .i64 0,.int .i64 0,.slice none 0 0,.int .i64 0,.int .i64 0,.bool false,.bool false,.int .i64 0,.int .i64 0,.bool false,.string ⟨#[]⟩,.int .i64 0,.slice none 0 0,.slice none 0 0,.slice none 0 0,.slice none 0 0,.int .i64 0,.bool false,.bool false,.int .i64 0,.int .i64 0,.slice none 0 0,.bool false,.slice none 0 0,.slice none 0 0,.slice none 0 0,.int .i64 0,.slice none 0 0,.slice none 0 0,.int .i64 0,.int .i64 0,.slice none 0 0,.int .i64 0,.int .i64 0,.string ⟨#[]⟩,.slice none 0 0,.int .i64 0,.slice none 0 0,.slice none 0 0,.int .i64 0,.slice none 0 0,.slice none 0 0,.slice none 0 0,.int .i64 0] 62 _ rfl
    have hb_:z2.w.heap.size≤y1_.w.heap.size:=hS1.size
    have hS2:=hS1.alloc hS1.size (.cells #[.int .i64 0,.int .i64 0,.int .i64 0,.int .i64 0,.int .i64 0,.int .i64 0,.int .i64 0,.slice none 0 0,.int .i64 0,.int .i64 0,.int .i64 0,.int .i64 0,.int .i64 0,.int .i64 0,.slice none 0 0,.slice none 0 0,.slice none 0 0,.int .i64 0,.int .i64 0,.slice none 0 0,.int .i64 0,.int .i64 0,.bool false,.bool false,.int .i64 0,.int .i64 0,.bool false,.string ⟨#[]⟩,.int .i64 0,.slice none 0 0,.slice none 0 0,.slice none 0 0,.slice none 0 0,.int .i64 0,.bool false,.bool false,.int .i64 0,.int .i64 0,.slice none 0 0,.bool false,.slice none 0 0,.slice none 0 0,.slice none 0 0,.int .i64 0,.slice none 0 0,.slice none 0 0,.int .i64 0,.int .i64 0,.slice none 0 0,.int .i64 0,.int .i64 0,.string ⟨#[]⟩,.slice none 0 0,.int .i64 0,.slice none 0 0,.slice none 0 0,.int .i64 0,.slice none 0 0,.slice none 0 0,.slice none 0 0,.int .i64 0] 62)
    (try simp only[Act.put]);(try simp only[List.setIfInBounds_toArray]);(try simp only[List.set_cons_succ]);(try simp only[List.set_cons_zero])
    refine wpAnyH_r1 3 (by kernel_rfl) (one_call rfl (by kernel_rfl) (f:=39) rfl Tryz.func39 (by kernel_rfl) (by kernel_rfl) [.agg xs.toArray,.agg #[.int .i64 q.Kind,.int .i64 q.At,.int .i64 q.A,.int .i64 q.B]] (by kernel_rfl) ((o_iGiveOrder (m:=m) (q:=q) (Enc.keep (EncO.toRd HXO2.out) ⟨hS2.size,fun b _ h2=>hS2.block b h2⟩) HT9.out).mono ?_))
    rintro _ _ ⟨fs,χf,rfl,hLast,y3_,rfl⟩
    rw[HF.out]at hLast
    rw[HB2.out]
    have hLr:=len_mission (EncO.toRd hLast);have hOr:=one_mission (EncO.toRd hLast)
    have hSc:z2.w.heap.size≤_:=hS2.size
    have hBy:=y3_.size_le
    have hS3:=hS2.trans (y3_.h.mono hS2.size)
    refine⟨_,rfl,hS3,?_⟩
    (try simp only[Act.put]);(try simp only[List.setIfInBounds_toArray]);(try simp only[List.set_cons_succ]);(try simp only[List.set_cons_zero])
    refine wpAnyH_take (i:=4) (v:=?vp21_) rfl (by kernel_rfl) (by kernel_rfl) (by kernel_rfl) (fun _ _ _ h=>hPK.out _ _ _ _ _ h) (Or.inl ⟨by rfl,?yp21_⟩) (by assumption) ?rp21_
    case yp21_=>intro w9 hSw;clear hSw;go_simp;(try with_reducible rfl)
    (try simp only[Act.put]);(try simp only[List.setIfInBounds_toArray]);(try simp only[List.set_cons_succ]);(try simp only[List.set_cons_zero])
    refine wpAnyH_take (i:=5) (v:=?vp22_) rfl (by kernel_rfl) (by kernel_rfl) (by kernel_rfl) (fun _ _ _ h=>hPK.out _ _ _ _ _ h) (Or.inl ⟨by rfl,?yp22_⟩) (by assumption) ?rp22_
    case yp22_=>intro w9 hSw;clear hSw;go_simp;(try with_reducible rfl)
    (try simp only[Act.put]);(try simp only[List.setIfInBounds_toArray]);(try simp only[List.set_cons_succ]);(try simp only[List.set_cons_zero])
    refine wpAnyH_take (i:=6) (v:=?vp23_) rfl (by kernel_rfl) (by kernel_rfl) (by kernel_rfl) (fun _ _ _ h=>hPK.out _ _ _ _ _ h) (Or.inl ⟨by rfl,?yp23_⟩) (by assumption) ?rp23_
    case yp23_=>intro w9 hSw;clear hSw;go_simp;(try with_reducible rfl)
    (try simp only[Act.put]);(try simp only[List.setIfInBounds_toArray]);(try simp only[List.set_cons_succ]);(try simp only[List.set_cons_zero])
    refine wpAnyH_r1 8 (by kernel_rfl) (one_storeW rfl (by kernel_rfl) _ _ _ rfl (y1_.w.heap.size) (by kernel_rfl) (us:=fs) (by kernel_rfl) (hA_.to inferInstance) (by rw[hLr];kernel_rfl) hOr (by rw[hLr];rfl) (w0:=z2.w) inferInstance hb_ ?_)
    intro z0 hz hgz
    refine⟨z0.h,?_⟩
    have hSz:=z0.h
    (try simp only[Act.put]);(try simp only[List.setIfInBounds_toArray]);(try simp only[List.set_cons_succ]);(try simp only[List.set_cons_zero])
    refine wpAnyH_take (i:=9) (v:=?vp24_) rfl (by kernel_rfl) (by kernel_rfl) (by kernel_rfl) (fun _ _ _ h=>hPK.out _ _ _ _ _ h) (Or.inl ⟨by rfl,?yp24_⟩) (by assumption) ?rp24_
    case yp24_=>intro w9 hSw;clear hSw;go_simp;(try with_reducible rfl)
    (try simp only[Act.put]);(try simp only[List.setIfInBounds_toArray]);(try simp only[List.set_cons_succ]);(try simp only[List.set_cons_zero])
    refine wpAnyH_done (by kernel_rfl) ?_ _
    refine hKK.out _ _ _ ?_
    have hGz:Grows z2.w z0.w:=⟨z0.h⟩
    have hW:=om_keep (om_old hLast (Nat.le_refl _)) (keepsOf hgz (Nat.lt_of_lt_of_le hA_.lt LeN.out))
    have hU:=hgz.size
    clear hKK hPK
    go_wp2_with fail
    go_meet
    case rel=>exact⟨⟨z0.w,(growsTr HVB.out hGz).out⟩,_,_,_,_,_,rfl,rfl,rfl,hz,hW,hGz,.inl (Nat.lt_of_lt_of_le hA_.lt LeN.out),⟨hSc,hU,Nat.le_trans hBy hU⟩,hb_⟩
  ·refine one_alloc rfl (by kernel_rfl) _ rfl (cs:=#[.int .i64 0,.int .i64 0,.int .i64 0,.int .i64 0,.int .i64 0,.int .i64 0,.int .i64 0,.slice none 0 0,.int .i64 0,.int .i64 0,.int .i64 0,.int .i64 0,.int .i64 0,.int .i64 0,.slice none 0 0,.slice none 0 0,.slice none 0 0,.int .i64 0,.int .i64 0,.slice none 0 0,.int .i64 0,.int .i64 0,.bool false,.bool false,.int .i64 0,.int .i64 0,.bool false,.string ⟨#[]⟩,.int .i64 0,.slice none 0 0,.slice none 0 0,.slice none 0 0,.slice none 0 0,.int .i64 0,.bool false,.bool false,.int .i64 0,.int .i64 0,.slice none 0 0,.bool false,.slice none 0 0,.slice none 0 0,.slice none 0 0,.int .i64 0,.slice none 0 0,.slice none 0 0,.int .i64 0,.int .i64 0,.slice none 0 0,.int .i64 0,.int .i64 0,.string ⟨#[]⟩,.slice none 0 0,.int .i64 0,.slice none 0 0,.slice none 0 0,.int .i64 0,.slice none 0 0,.slice none 0 0,.slice none 0 0,.int .i64 0]) (fun W=>by go_simp) (hS0.alloc hS0.size _) ?_
   have hA_:=Held.new z2.w.drew [.int .i64 0,.int .i64 0,.int .i64 0,.int .i64 0,.int .i64 0,.int .i64 0,.int .i64 0,.slice none 0 0,.int .i64 0,.int .i64 0,.int .i64 0,.int .i64 0,.int .i64 0,.int .i64 0,.slice none 0 0,.slice none 0 0,.slice none 0 0,.int .i64 0,.int .i64 0,.slice none 0 0,.int .i64 0,.int .i64 0,.bool false,.bool false,.int .i64 0,.int .i64 0,.bool false,.string ⟨#[]⟩,.int .i64 0,.slice none 0 0,.slice none 0 0,.slice none 0 0,.slice none 0 0,.int .i64 0,.bool false,.bool false,.int .i64 0,.int .i64 0,.slice none 0 0,.bool false,.slice none 0 0,.slice none 0 0,.slice none 0 0,.int .i64 0,.slice none 0 0,.slice none 0 0,.int .i64 0,.int .i64 0,.slice none 0 0,.int .i64 0,.int .i64 0,.string ⟨#[]⟩,.slice none 0 0,.int .i64 0,.slice none 0 0,.slice none 0 0,.int .i64 0,.slice none 0 0,.slice none 0 0,.slice none 0 0,.int .i64 0] 62 _ rfl
   have hb_:z2.w.heap.size≤z2.w.drew.heap.size:=hS0.size
   have hS1:=hS0.alloc hS0.size (.cells #[.int .i64 0,.int .i64 0,.int .i64 0,.int .i64 0,.int .i64 0,.int .i64 0,.int .i64 0,.slice none 0 0,.int .i64 0,.int .i64 0,.int .i64 0,.int .i64 0,.int .i64 0,.int .i64 0,.slice none 0 0,.slice none 0 0,.slice none 0 0,.int .i64 0,.int .i64 0,.slice none 0 0,.int .i64 0,.int .i64 0,.bool false,.bool false,.int .i64 0,.int .i64 0,.bool false,.string ⟨#[]⟩,.int .i64 0,.slice none 0 0,.slice none 0 0,.slice none 0 0,.slice none 0 0,.int .i64 0,.bool false,.bool false,.int .i64 0,.int .i64 0,.slice none 0 0,.bool false,.slice none 0 0,.slice none 0 0,.slice none 0 0,.int .i64 0,.slice none 0 0,.slice none 0 0,.int .i64 0,.int .i64 0,.slice none 0 0,.int .i64 0,.int .i64 0,.string ⟨#[]⟩,.slice none 0 0,.int .i64 0,.slice none 0 0,.slice none 0 0,.int .i64 0,.slice none 0 0,.slice none 0 0,.slice none 0 0,.int .i64 0] 62)
   (try simp only[Act.put]);(try simp only[List.setIfInBounds_toArray]);(try simp only[List.set_cons_succ]);(try simp only[List.set_cons_zero])
   refine wpAnyH_r1 2 (by kernel_rfl) (one_call rfl (by kernel_rfl) (f:=38) rfl Tryz.func38 (by kernel_rfl) (by kernel_rfl) [.agg #[.int .i64 q.Kind,.int .i64 q.At,.int .i64 q.A,.int .i64 q.B]] (by kernel_rfl) ((d_ltoOrder (x:=q) (vs:=[.int .i64 q.Kind,.int .i64 q.At,.int .i64 q.A,.int .i64 q.B]) (B:=0) ⟨rfl,HOQ.out⟩ (by show(0:Int)≤_;decide)).mono ?_))
   rintro _ _ ⟨_,rfl,⟨rfl,-⟩,y2_,rfl⟩
   have hS2:=hS1.trans (y2_.h.mono hS1.size)
   refine⟨_,rfl,hS2,?_⟩
   (try simp only[Act.put]);(try simp only[List.setIfInBounds_toArray]);(try simp only[List.set_cons_succ]);(try simp only[List.set_cons_zero])
   refine wpAnyH_r1 3 (by kernel_rfl) (one_call rfl (by kernel_rfl) (f:=39) rfl Tryz.func39 (by kernel_rfl) (by kernel_rfl) [.agg xs.toArray,.agg #[.int .i64 q.Kind,.int .i64 q.At,.int .i64 q.A,.int .i64 q.B]] (by kernel_rfl) ((o_iGiveOrder (m:=m) (q:=q) (Enc.keep (EncO.toRd HXO2.out) ⟨hS2.size,fun b _ h2=>hS2.block b h2⟩) HT9.out).mono ?_))
   rintro _ _ ⟨fs,χf,rfl,hLast,y3_,rfl⟩
   rw[HF.out]at hLast
   rw[HB2.out]
   have hLr:=len_mission (EncO.toRd hLast);have hOr:=one_mission (EncO.toRd hLast)
   have hSc:z2.w.heap.size≤_:=hS2.size
   have hBy:=y3_.size_le
   have hS3:=hS2.trans (y3_.h.mono hS2.size)
   refine⟨_,rfl,hS3,?_⟩
   (try simp only[Act.put]);(try simp only[List.setIfInBounds_toArray]);(try simp only[List.set_cons_succ]);(try simp only[List.set_cons_zero])
   refine wpAnyH_take (i:=4) (v:=?vp25_) rfl (by kernel_rfl) (by kernel_rfl) (by kernel_rfl) (fun _ _ _ h=>hPK.out _ _ _ _ _ h) (Or.inl ⟨by rfl,?yp25_⟩) (by assumption) ?rp25_
   case yp25_=>intro w9 hSw;clear hSw;go_simp;(try with_reducible rfl)
   (try simp only[Act.put]);(try simp only[List.setIfInBounds_toArray]);(try simp only[List.set_cons_succ]);(try simp only[List.set_cons_zero])
   refine wpAnyH_take (i:=5) (v:=?vp26_) rfl (by kernel_rfl) (by kernel_rfl) (by kernel_rfl) (fun _ _ _ h=>hPK.out _ _ _ _ _ h) (Or.inl ⟨by rfl,?yp26_⟩) (by assumption) ?rp26_
   case yp26_=>intro w9 hSw;clear hSw;go_simp;(try with_reducible rfl)
   (try simp only[Act.put]);(try simp only[List.setIfInBounds_toArray]);(try simp only[List.set_cons_succ]);(try simp only[List.set_cons_zero])
   refine wpAnyH_take (i:=6) (v:=?vp27_) rfl (by kernel_rfl) (by kernel_rfl) (by kernel_rfl) (fun _ _ _ h=>hPK.out _ _ _ _ _ h) (Or.inl ⟨by rfl,?yp27_⟩) (by assumption) ?rp27_
   case yp27_=>intro w9 hSw;clear hSw;go_simp;(try with_reducible rfl)
   (try simp only[Act.put]);(try simp only[List.setIfInBounds_toArray]);(try simp only[List.set_cons_succ]);(try simp only[List.set_cons_zero])
   refine wpAnyH_r1 8 (by kernel_rfl) (one_storeW rfl (by kernel_rfl) _ _ _ rfl (z2.w.drew.heap.size) (by kernel_rfl) (us:=fs) (by kernel_rfl) (hA_.to inferInstance) (by rw[hLr];kernel_rfl) hOr (by rw[hLr];rfl) (w0:=z2.w) inferInstance hb_ ?_)
   intro z0 hz hgz
   refine⟨z0.h,?_⟩
   have hSz:=z0.h
   (try simp only[Act.put]);(try simp only[List.setIfInBounds_toArray]);(try simp only[List.set_cons_succ]);(try simp only[List.set_cons_zero])
   refine wpAnyH_take (i:=9) (v:=?vp28_) rfl (by kernel_rfl) (by kernel_rfl) (by kernel_rfl) (fun _ _ _ h=>hPK.out _ _ _ _ _ h) (Or.inl ⟨by rfl,?yp28_⟩) (by assumption) ?rp28_
   case yp28_=>intro w9 hSw;clear hSw;go_simp;(try with_reducible rfl)
   (try simp only[Act.put]);(try simp only[List.setIfInBounds_toArray]);(try simp only[List.set_cons_succ]);(try simp only[List.set_cons_zero])
   refine wpAnyH_done (by kernel_rfl) ?_ _
   refine hKK.out _ _ _ ?_
   have hGz:Grows z2.w z0.w:=⟨z0.h⟩
   have hW:=om_keep (om_old hLast (Nat.le_refl _)) (keepsOf hgz (Nat.lt_of_lt_of_le hA_.lt LeN.out))
   have hU:=hgz.size
   clear hKK hPK
   go_wp2_with fail
   go_meet
   case rel=>exact⟨⟨z0.w,(growsTr HVB.out hGz).out⟩,_,_,_,_,_,rfl,rfl,rfl,hz,hW,hGz,.inl (Nat.lt_of_lt_of_le hA_.lt LeN.out),⟨hSc,hU,Nat.le_trans hBy hU⟩,hb_⟩
 case rest =>
 obtain⟨z3,bg,Bo,U,gs,χg,rfl,rfl,rfl,hX,hO,hG,hbg,⟨hBo,hU,hBz3⟩,hbg2⟩:=hcut
 have HLG:=lH (len_mission (EncO.toRd hO));have HOG:=lH (one_mission (EncO.toRd hO));have HX3:=lH hX;have HGO3:=lH hO;have HG23:=lH hG;clear hX hO hG
 go_wp2_with (first|(refine stepLoad rfl _ _ rfl _ 0 rfl (row:=gs) (HX3.out.to inferInstance) _ Tryz.underlying62 rfl (by rw[HLG.out];kernel_rfl) (by rw[List.drop_zero,List.take_length]) ?_)|(refine stepLoad rfl _ _ rfl _ 0 rfl (row:=ws) ((HWb2.out.to HG23.out).to inferInstance) _ Tryz.underlying62 rfl (by rw[HLW.out];kernel_rfl) (by rw[List.drop_zero,List.take_length]) ?_))
 have HG13:=lH (growsTr HG12.out HG23.out)
 have HW3:=lH (Enc.keep HW1.out (@Keeps.grows 0 _ _ HG13.out))
 refine(d_leqMission (x:=fm) (EncO.toRd HGO3.out) HW3.out).mono ?_
 rintro _ _ ⟨rfl,y5,rfl⟩
 go_wp2_with (first|((with_reducible refine wp_region_later (by kernel_rfl) (by kernel_rfl) ?_);(repeat(first|go_big_quiet_step (first|fail)|simp only[kbb]));refine wpQuiet_nil ?_;rintro _ ⟨x,rfl⟩))
 have HGV:=lH (inferInstance:Grows z3.w (z3.andThen y5).w)
 obtain⟨V,hV⟩:∃ V:Later ((w.alloc (.cells vs.toArray 116)).alloc (.cells #[.int .i64 q.Kind,.int .i64 q.At,.int .i64 q.A,.int .i64 q.B] 122)),(z3.andThen y5).w=V.w:=⟨_,rfl⟩
 rw[hV]at HGV ⊢
 clear hV
 have HG1V:=lH (growsTr HG13.out HGV.out);have HG2V:=lH (growsTr HG23.out HGV.out)
 have HBV:=lH (HB1.out.to HG1V.out);have HMV:=lH (Enc.keep HM1.out (@Keeps.grows 0 _ _ HG1V.out))
 have HXV:=lH (HX2.out.to HG2V.out);have HXOV:=lH (om_to HXO2.out HG2V.out)
 have HGbV:=lH (HX3.out.to HGV.out);have HGOV:=lH (om_to HGO3.out HGV.out)
 refine wp_region_held_drew (S:=fun W=>Below V.w.heap.size V.w W) (by kernel_rfl) (Below.refl _ _).drew (fun hH=>?_)
 refine wpAnyH_take (i:=0) (v:=_) rfl (by kernel_rfl) (by kernel_rfl) (by kernel_rfl) (fun _ _ _ h=>h) (yieldsIf_load_mid (by rfl) _ _ rfl _ _ rfl xs _ (fun W hW=>(HXV.out.to ⟨hW⟩).range (n:=xs.length) (by rw[List.drop_zero,List.take_length])) Tryz.underlying62 rfl (by rw[HLX.out];kernel_rfl)) (by assumption) ?_
 (try simp only[Act.put]);(try simp only[List.setIfInBounds_toArray]);(try simp only[List.set_cons_succ]);(try simp only[List.set_cons_zero])
 refine wpAnyH_take (i:=1) (v:=_) rfl (by kernel_rfl) (by kernel_rfl) (by kernel_rfl) (fun _ _ _ h=>h) (yieldsIf_load_mid (by rfl) _ _ rfl _ _ rfl vs _ (fun W hW=>(HBV.out.to ⟨hW⟩).range (n:=vs.length) (by rw[List.drop_zero,List.take_length])) Tryz.underlying116 rfl (by rw[HL.out];kernel_rfl)) (by assumption) ?_
 (try simp only[Act.put]);(try simp only[List.setIfInBounds_toArray]);(try simp only[List.set_cons_succ]);(try simp only[List.set_cons_zero])
 refine wpAnyH_ready (rs:=[2]) (by kernel_rfl) (by simp) ?_
 refine AllReadyH.cons rfl (fun K2 hQ=>?_) AllReadyH.nil
 refine step_call rfl (f:=35) rfl Tryz.func35 (by kernel_rfl) (by kernel_rfl) [.agg vs.toArray] rfl ((dl_toMission (x:=m) (Enc.keep HMV.out ⟨hH.size,fun b _ h2=>hH.block b h2⟩) HT.out).mono ?_)
 rintro _ _ ⟨qs,rfl,hR3,y6,rfl⟩
 refine⟨_,rfl,hQ.out _ _ (hH.trans (y6.h.mono hH.size)) (fun hH2=>?_)⟩
 (try simp only[Act.put]);(try simp only[List.setIfInBounds_toArray]);(try simp only[List.set_cons_succ]);(try simp only[List.set_cons_zero])
 clear hQ K2
 refine wpAnyH_ready (rs:=[3]) (by kernel_rfl) (by simp) ?_
 refine AllReadyH.cons rfl (fun K2 hQ=>?_) AllReadyH.nil
 refine step_call rfl (f:=24) rfl Tryz.func24 (by kernel_rfl) (by kernel_rfl) [.agg xs.toArray,.agg qs.toArray] rfl ((d_leqMission (x:=m) (Enc.keep (EncO.toRd HXOV.out) ⟨hH2.size,fun b _ h2=>hH2.block b h2⟩) hR3).mono ?_)
 rintro _ _ ⟨rfl,y7,rfl⟩
 refine⟨_,rfl,hQ.out _ _ (hH2.trans (y7.h.mono hH2.size)) (fun hH3=>?_)⟩
 (try simp only[Act.put]);(try simp only[List.setIfInBounds_toArray]);(try simp only[List.set_cons_succ]);(try simp only[List.set_cons_zero])
 clear hQ K2
 have HGZ:=lH (show Grows V.w y7.w from⟨hH3⟩)
 obtain⟨Z,hZ⟩:∃ Z:Later ((w.alloc (.cells vs.toArray 116)).alloc (.cells #[.int .i64 q.Kind,.int .i64 q.At,.int .i64 q.A,.int .i64 q.B] 122)),y7.w=Z.w:=Later.ofG (growsTr (inferInstance:Grows _ V.w) HGZ.out)
 rw[hZ]at hH3 HGZ ⊢
 refine wpAnyH_ready (rs:=[4]) (by kernel_rfl) (by simp) ?_
 refine AllReadyH.cons rfl (fun K2 hQ=>?_) AllReadyH.nil
 go_simp
 refine hQ.out _ _ hH3 (fun hH4=>?_)
 clear hQ K2
 refine wpAnyH_done (by kernel_rfl) ?_ _
 clear hH hH2 hH3 hH4 hR3 hZ
 have HG1Z:=lH (growsTr HG1V.out HGZ.out);have HG2Z:=lH (growsTr HG2V.out HGZ.out)
 have HXZ:=lH (HXV.out.to HGZ.out);have HXOZ:=lH (om_to HXOV.out HGZ.out)
 have HGbZ:=lH (HGbV.out.to HGZ.out);have HGOZ:=lH (om_to HGOV.out HGZ.out)
 have HsV:=lH (Nat.le_trans HGV.out.out.size HGZ.out.out.size)
 clear HGV HG1V HG2V HBV HMV HXV HXOV HGbV HGOV
 go_wp2_with (first|(refine stepLoad rfl _ _ rfl _ 0 rfl (row:=xs) (HXZ.out.to inferInstance) _ Tryz.underlying62 rfl (by rw[HLX.out];kernel_rfl) (by rw[List.drop_zero,List.take_length]) ?_))
 refine(o_markM (k:=1) HXOZ.out (freshU (Nat.le_of_lt HXZ.out.lt)) HG1Z.out.out.size HT8.out (by omega) (by omega)).mono ?_
 intro e5 Z5 hq5
 obtain⟨he,-,hF⟩:=hq5
 obtain rfl:e5=.returned (.int .i64 J):=he.trans (by rw[HJ.out])
 have HG5:=lH (hF.below HG1Z.out (Nat.le_refl _))
 have HK5:=lH (hF.keepsU (Rng.out (.inr (by decide))));clear he hF
 obtain⟨V5,rfl⟩:∃ x:Later ((w.alloc (.cells vs.toArray 116)).alloc (.cells #[.int .i64 q.Kind,.int .i64 q.At,.int .i64 q.A,.int .i64 q.B] 122)),Z5=x.w:=Later.ofG (growsTr (inferInstance:Grows _ z1.w) HG5.out)
 have hbz:z2.w.heap.size≤bg:=hbg2
 have HW5:=lH (Enc.keep HW1.out (@Keeps.grows 0 _ _ HG5.out));have HWb5:=lH (HWb1.out.to HG5.out)
 have HGb5:=lH (HK5.out.ofU _ _ _ (Nat.le_trans HU2.out hbz) HGbZ.out);have HGO5:=lH (om_keep HGOZ.out (HK5.out.more (Nat.le_trans HU2.out hBo)))
 go_wp2_with (first|(refine stepLoadG (by go_simp) _ _ rfl _ 0 rfl (row:=gs) (HGb5.out.to inferInstance) _ Tryz.underlying62 rfl (by rw[HLG.out];kernel_rfl) (by rw[List.drop_zero,List.take_length]) ?_)|(refine stepLoadG (by go_simp) _ _ rfl _ 0 rfl (row:=ws) (HWb5.out.to inferInstance) _ Tryz.underlying62 rfl (by rw[HLW.out];kernel_rfl) (by rw[List.drop_zero,List.take_length]) ?_))
 refine(d_leqMission (x:=fm) (EncO.toRd HGO5.out) HW5.out).mono ?_
 rintro _ _ ⟨rfl,y8,rfl⟩
 go_wp2_with (first|((with_reducible refine wp_region_later (by kernel_rfl) (by kernel_rfl) ?_);(repeat(first|go_big_quiet_step (first|fail)|simp only[kbb]));refine wpQuiet_nil ?_;rintro _ ⟨x,rfl⟩)|(refine stepLoad rfl _ _ rfl _ 0 rfl (row:=gs) (HGb5.out.to inferInstance) _ Tryz.underlying62 rfl (by rw[HLG.out];kernel_rfl) (by rw[List.drop_zero,List.take_length]) ?_))
 have HGb7:=lH (HGb5.out.to (inferInstance:Grows _ (V5.andThen y8).w))
 have hsz:z3.w.heap.size≤(V5.andThen y8).w.heap.size:=Nat.le_trans HsV.out (Nat.le_trans HK5.out.size LeN.out)
 have hBz:Bo≤z3.w.heap.size:=hBz3
 refine(o_markM (k:=1) (om_to HGO5.out inferInstance) (freshU (Nat.le_trans hU hsz)) (Nat.le_trans hBz hsz) HTF.out (by omega) (by omega)).mono ?_
 intro e6 Z6 hq6
 obtain⟨he,hO6,hF⟩:=hq6
 obtain rfl:e6=.returned (.int .i64 K):=he.trans (by rw[HK.out])
 have HG6:=lH (hF.below (growsTr HG5.out (inferInstance:Grows _ (V5.andThen y8).w)) (Nat.le_trans HG12.out.out.size hBo))
 have HGb6:=lH (HGb7.out.frB hF hbg);have HGO6:=lH hO6;clear he hF hO6
 obtain⟨V6,rfl⟩:∃ x:Later ((w.alloc (.cells vs.toArray 116)).alloc (.cells #[.int .i64 q.Kind,.int .i64 q.At,.int .i64 q.A,.int .i64 q.B] 122)),Z6=x.w:=Later.ofG (growsTr (inferInstance:Grows _ z1.w) HG6.out)
 have HQ6:=lH (HQ1.out.to HG6.out);have HB6:=lH (HB1.out.to HG6.out);have HM6:=lH (Enc.keep HM1.out (@Keeps.grows 0 _ _ HG6.out))
 have HW6:=lH (Enc.keep HW1.out (@Keeps.grows 0 _ _ HG6.out));have HWb6:=lH (HWb1.out.to HG6.out)
 go_wp2_with (first|(refine stepLoad rfl _ _ rfl _ 0 rfl (row:=gs) (HGb6.out.to inferInstance) _ Tryz.underlying62 rfl (by rw[HLG.out];kernel_rfl) (by rw[List.drop_zero,List.take_length]) ?_))
 refine(o_heldM (k:=1) (EncO.toRd HGO6.out) HTF.out (by omega) (by omega)).mono ?_
 intro e7 Z7 hq7
 obtain⟨he,y9,hw⟩:=hq7
 obtain rfl:e7=.returned (.int .i64 K):=he.trans (by rw[HK.out])
 clear he;subst hw
 go_wp2_with (first|((with_reducible refine wp_region_later (by kernel_rfl) (by kernel_rfl) ?_);(repeat(first|go_big_quiet_step (first|fail)|simp only[kb]));refine wpQuiet_nil ?_;rintro _ ⟨x,rfl⟩))
 (try simp only[Act.put])
 obtain⟨V7,hV7⟩:∃ v:Later ((w.alloc (.cells vs.toArray 116)).alloc (.cells #[.int .i64 q.Kind,.int .i64 q.At,.int .i64 q.A,.int .i64 q.B] 122)),(V6.andThen y9).w=v.w:=⟨_,rfl⟩
 have HG67:=lH (inferInstance:Grows V6.w (V6.andThen y9).w)
 rw[hV7]at HG67 ⊢;clear hV7
 have HB7:=lH (HB6.out.to HG67.out);have HQ7:=lH (HQ6.out.to HG67.out);have HM7:=lH (Enc.keep HM6.out (@Keeps.grows 0 _ _ HG67.out))
 have HVB:=lH (inferInstance:Grows ((w.alloc (.cells vs.toArray 116)).alloc (.cells #[.int .i64 q.Kind,.int .i64 q.At,.int .i64 q.A,.int .i64 q.B] 122)) V7.w)
 go_cut [14,15]from 79 (fun s1 s2 wx=>∃ (z:Later ((w.alloc (.cells vs.toArray 116)).alloc (.cells #[.int .i64 q.Kind,.int .i64 q.At,.int .i64 q.A,.int .i64 q.B] 122))) (b:Nat) (fs:List Value),s1=.pointer (some ⟨b,0,none⟩)∧s2=.bool b2∧wx=z.w∧Held z.w b fs 62∧Enc.Rd 0 z.w fs fm∧Grows V7.w z.w)
 case first =>
  refine wp_abs (fun _ _ _ _ _ h=>h) fun KK hPK hKK=>?_
  refine wp_region_held_drew (S:=fun W=>Below V7.w.heap.size V7.w W) (by kernel_rfl) (Below.refl _ _).drew (fun hS0=>?_)
  show wpAnyH _ _ _ _ _ 11 #[false,false,false,false,false,false,false,false,false,false,false] _ _
  refine wpAnyH_take (i:=0) (v:=_) rfl (by kernel_rfl) (by kernel_rfl) (by kernel_rfl) (fun _ _ _ h=>hPK.out _ _ _ _ _ h) (yieldsIf_load_mid (by rfl) _ _ rfl w.heap.size 0 rfl vs _ (fun W hW=>(HB7.out.to ⟨hW⟩).range (n:=vs.length) (by rw[List.drop_zero,List.take_length])) Tryz.underlying116 rfl (by rw[HL.out];kernel_rfl)) (by assumption) ?_
  (try simp only[Act.put]);(try simp only[List.setIfInBounds_toArray]);(try simp only[List.set_cons_succ]);(try simp only[List.set_cons_zero])
  refine wpAnyH_take (i:=2) (v:=_) rfl (by kernel_rfl) (by kernel_rfl) (by kernel_rfl) (fun _ _ _ h=>hPK.out _ _ _ _ _ h) (yieldsIf_load_mid (by rfl) _ _ rfl (w.heap.size+1) 0 rfl [.int .i64 q.Kind,.int .i64 q.At,.int .i64 q.A,.int .i64 q.B] _ (fun W hW=>(HQ7.out.to ⟨hW⟩).range (n:=4) rfl) Tryz.underlying122 rfl (by kernel_rfl)) (by assumption) ?_
  (try simp only[Act.put]);(try simp only[List.setIfInBounds_toArray]);(try simp only[List.set_cons_succ]);(try simp only[List.set_cons_zero])
  refine wpAnyH_r2 1 8 (by kernel_rfl) ?_ ?_
  ·refine one_call rfl (by kernel_rfl) (f:=35) rfl Tryz.func35 (by kernel_rfl) (by kernel_rfl) [.agg vs.toArray] (by kernel_rfl) ((dl_toMission (x:=m) (Enc.keep HM7.out ⟨hS0.size,fun b _ h2=>hS0.block b h2⟩) HT.out).mono ?_)
   rintro _ _ ⟨os,rfl,hR1,y1_,rfl⟩
   have hS1:=hS0.trans (y1_.h.mono hS0.size)
   refine⟨_,rfl,hS1,?_⟩
   (try simp only[Act.put]);(try simp only[List.setIfInBounds_toArray]);(try simp only[List.set_cons_succ]);(try simp only[List.set_cons_zero])
   refine wpAnyH_r2 3 8 (by kernel_rfl) ?_ ?_
   ·refine one_call rfl (by kernel_rfl) (f:=38) rfl Tryz.func38 (by kernel_rfl) (by kernel_rfl) [.agg #[.int .i64 q.Kind,.int .i64 q.At,.int .i64 q.A,.int .i64 q.B]] (by kernel_rfl) ((d_ltoOrder (x:=q) (vs:=[.int .i64 q.Kind,.int .i64 q.At,.int .i64 q.A,.int .i64 q.B]) (B:=0) ⟨rfl,HOQ.out⟩ (by show(0:Int)≤_;decide)).mono ?_)
    rintro _ _ ⟨_,rfl,⟨rfl,-⟩,y2_,rfl⟩
    have hS2:=hS1.trans (y2_.h.mono hS1.size)
    refine⟨_,rfl,hS2,?_⟩
    (try simp only[Act.put]);(try simp only[List.setIfInBounds_toArray]);(try simp only[List.set_cons_succ]);(try simp only[List.set_cons_zero])
    refine wpAnyH_r2 4 8 (by kernel_rfl) ?_ ?_
    ·refine one_call rfl (by kernel_rfl) (f:=39) rfl Tryz.func39 (by kernel_rfl) (by kernel_rfl) [.agg os.toArray,.agg #[.int .i64 q.Kind,.int .i64 q.At,.int .i64 q.A,.int .i64 q.B]] (by kernel_rfl) ((o_iGiveOrder (m:=m) (q:=q) (Enc.keep hR1 inferInstance) HT9.out).mono ?_)
     rintro _ _ ⟨fs,χf,rfl,hLast0,y3_,rfl⟩
     rw[HF.out]at hLast0
     rw[HB2.out]
     have hLast:=EncO.toRd hLast0
     have hLr:=len_mission hLast;have hOr:=one_mission hLast
     have hS3:=hS2.trans (y3_.h.mono hS2.size)
     refine⟨_,rfl,hS3,?_⟩
     (try simp only[Act.put]);(try simp only[List.setIfInBounds_toArray]);(try simp only[List.set_cons_succ]);(try simp only[List.set_cons_zero])
     refine wpAnyH_take (i:=5) (v:=?vp29_) rfl (by kernel_rfl) (by kernel_rfl) (by kernel_rfl) (fun _ _ _ h=>hPK.out _ _ _ _ _ h) (Or.inl ⟨by rfl,?yp29_⟩) (by assumption) ?rp29_
     case yp29_=>intro w9 hSw;clear hSw;go_simp;(try with_reducible rfl)
     (try simp only[Act.put]);(try simp only[List.setIfInBounds_toArray]);(try simp only[List.set_cons_succ]);(try simp only[List.set_cons_zero])
     refine wpAnyH_take (i:=6) (v:=?vp30_) rfl (by kernel_rfl) (by kernel_rfl) (by kernel_rfl) (fun _ _ _ h=>hPK.out _ _ _ _ _ h) (Or.inl ⟨by rfl,?yp30_⟩) (by assumption) ?rp30_
     case yp30_=>intro w9 hSw;clear hSw;go_simp;(try with_reducible rfl)
     (try simp only[Act.put]);(try simp only[List.setIfInBounds_toArray]);(try simp only[List.set_cons_succ]);(try simp only[List.set_cons_zero])
     refine wpAnyH_take (i:=7) (v:=?vp31_) rfl (by kernel_rfl) (by kernel_rfl) (by kernel_rfl) (fun _ _ _ h=>hPK.out _ _ _ _ _ h) (Or.inl ⟨by rfl,?yp31_⟩) (by assumption) ?rp31_
     case yp31_=>intro w9 hSw;clear hSw;go_simp;(try with_reducible rfl)
     (try simp only[Act.put]);(try simp only[List.setIfInBounds_toArray]);(try simp only[List.set_cons_succ]);(try simp only[List.set_cons_zero])
     refine wpAnyH_r1 8 (by kernel_rfl) (one_alloc rfl (by kernel_rfl) _ rfl (cs:=#[.int .i64 0,.int .i64 0,.int .i64 0,.int .i64 0,.int .i64 0,.int .i64 0,.int .i64 0,.slice none 0 0,.int .i64 0,.int .i64 0,.int .i64 0,.int .i64 0,.int .i64 0,.int .i64 0,.slice none 0 0,.slice none 0 0,.slice none 0 0,.int .i64 0,.int .i64 0,.slice none 0 0,.int .i64 0,.int .i64 0,.bool false,.bool false,.int .i64 0,.int .i64 0,.bool false,.string ⟨#[]⟩,.int .i64 0,.slice none 0 0,.slice none 0 0,.slice none 0 0,.slice none 0 0,.int .i64 0,.bool false,.bool false,.int .i64 0,.int .i64 0,.slice none 0 0,.bool false,.slice none 0 0,.slice none 0 0,.slice none 0 0,.int .i64 0,.slice none 0 0,.slice none 0 0,.int .i64 0,.int .i64 0,.slice none 0 0,.int .i64 0,.int .i64 0,.string ⟨#[]⟩,.slice none 0 0,.int .i64 0,.slice none 0 0,.slice none 0 0,.int .i64 0,.slice none 0 0,.slice none 0 0,.slice none 0 0,.int .i64 0]) (fun W=>by go_simp) (hS3.alloc hS3.size _) ?_)
     have hA_:=Held.new y3_.w [.int .i64 0,.int .i64 0,.int .i64 0,.int .i64 0,.int .i64 0,.int .i64 0,.int .i64 0,.slice none 0 0,.int .i64 0,.int .i64 0,.int .i64 0,.int .i64 0,.int .i64 0,.int .i64 0,.slice none 0 0,.slice none 0 0,.slice none 0 0,.int .i64 0,.int .i64 0,.slice none 0 0,.int .i64 0,.int .i64 0,.bool false,.bool false,.int .i64 0,.int .i64 0,.bool false,.string ⟨#[]⟩,.int .i64 0,.slice none 0 0,.slice none 0 0,.slice none 0 0,.slice none 0 0,.int .i64 0,.bool false,.bool false,.int .i64 0,.int .i64 0,.slice none 0 0,.bool false,.slice none 0 0,.slice none 0 0,.slice none 0 0,.int .i64 0,.slice none 0 0,.slice none 0 0,.int .i64 0,.int .i64 0,.slice none 0 0,.int .i64 0,.int .i64 0,.string ⟨#[]⟩,.slice none 0 0,.int .i64 0,.slice none 0 0,.slice none 0 0,.int .i64 0,.slice none 0 0,.slice none 0 0,.slice none 0 0,.int .i64 0] 62 _ rfl
     have hb_:V7.w.heap.size≤y3_.w.heap.size:=hS3.size
     have hS4:=hS3.alloc hS3.size (.cells #[.int .i64 0,.int .i64 0,.int .i64 0,.int .i64 0,.int .i64 0,.int .i64 0,.int .i64 0,.slice none 0 0,.int .i64 0,.int .i64 0,.int .i64 0,.int .i64 0,.int .i64 0,.int .i64 0,.slice none 0 0,.slice none 0 0,.slice none 0 0,.int .i64 0,.int .i64 0,.slice none 0 0,.int .i64 0,.int .i64 0,.bool false,.bool false,.int .i64 0,.int .i64 0,.bool false,.string ⟨#[]⟩,.int .i64 0,.slice none 0 0,.slice none 0 0,.slice none 0 0,.slice none 0 0,.int .i64 0,.bool false,.bool false,.int .i64 0,.int .i64 0,.slice none 0 0,.bool false,.slice none 0 0,.slice none 0 0,.slice none 0 0,.int .i64 0,.slice none 0 0,.slice none 0 0,.int .i64 0,.int .i64 0,.slice none 0 0,.int .i64 0,.int .i64 0,.string ⟨#[]⟩,.slice none 0 0,.int .i64 0,.slice none 0 0,.slice none 0 0,.int .i64 0,.slice none 0 0,.slice none 0 0,.slice none 0 0,.int .i64 0] 62)
     (try simp only[Act.put]);(try simp only[List.setIfInBounds_toArray]);(try simp only[List.set_cons_succ]);(try simp only[List.set_cons_zero])
     refine wpAnyH_r1 9 (by kernel_rfl) (one_storeW rfl (by kernel_rfl) _ _ _ rfl (y3_.w.heap.size) (by kernel_rfl) (us:=fs) (by kernel_rfl) hA_ (by rw[hLr];kernel_rfl) hOr (by rw[hLr];rfl) (w0:=V7.w) inferInstance hb_ ?_)
     intro z0 hz hgz
     refine⟨z0.h,?_⟩
     have hSz:=z0.h
     (try simp only[Act.put]);(try simp only[List.setIfInBounds_toArray]);(try simp only[List.set_cons_succ]);(try simp only[List.set_cons_zero])
     refine wpAnyH_take (i:=10) (v:=?vp32_) rfl (by kernel_rfl) (by kernel_rfl) (by kernel_rfl) (fun _ _ _ h=>hPK.out _ _ _ _ _ h) (Or.inl ⟨by rfl,?yp32_⟩) (by assumption) ?rp32_
     case yp32_=>intro w9 hSw;clear hSw;go_simp;(try with_reducible rfl)
     (try simp only[Act.put]);(try simp only[List.setIfInBounds_toArray]);(try simp only[List.set_cons_succ]);(try simp only[List.set_cons_zero])
     refine wpAnyH_done (by kernel_rfl) ?_ _
     refine hKK.out _ _ _ ?_
     have hGz:Grows V7.w z0.w:=⟨z0.h⟩
     have hW:=Rd.late (Enc.mono hLast (Nat.zero_le _)) hgz rfl
     clear hKK hPK
     go_wp2_with fail
     go_meet
     case rel=>exact⟨⟨z0.w,(growsTr HVB.out hGz).out⟩,_,_,rfl,rfl,rfl,hz,hW,hGz⟩
    ·refine one_alloc rfl (by kernel_rfl) _ rfl (cs:=#[.int .i64 0,.int .i64 0,.int .i64 0,.int .i64 0,.int .i64 0,.int .i64 0,.int .i64 0,.slice none 0 0,.int .i64 0,.int .i64 0,.int .i64 0,.int .i64 0,.int .i64 0,.int .i64 0,.slice none 0 0,.slice none 0 0,.slice none 0 0,.int .i64 0,.int .i64 0,.slice none 0 0,.int .i64 0,.int .i64 0,.bool false,.bool false,.int .i64 0,.int .i64 0,.bool false,.string ⟨#[]⟩,.int .i64 0,.slice none 0 0,.slice none 0 0,.slice none 0 0,.slice none 0 0,.int .i64 0,.bool false,.bool false,.int .i64 0,.int .i64 0,.slice none 0 0,.bool false,.slice none 0 0,.slice none 0 0,.slice none 0 0,.int .i64 0,.slice none 0 0,.slice none 0 0,.int .i64 0,.int .i64 0,.slice none 0 0,.int .i64 0,.int .i64 0,.string ⟨#[]⟩,.slice none 0 0,.int .i64 0,.slice none 0 0,.slice none 0 0,.int .i64 0,.slice none 0 0,.slice none 0 0,.slice none 0 0,.int .i64 0]) (fun W=>by go_simp) (hS2.alloc hS2.size _) ?_
     have hA_:=Held.new y2_.w [.int .i64 0,.int .i64 0,.int .i64 0,.int .i64 0,.int .i64 0,.int .i64 0,.int .i64 0,.slice none 0 0,.int .i64 0,.int .i64 0,.int .i64 0,.int .i64 0,.int .i64 0,.int .i64 0,.slice none 0 0,.slice none 0 0,.slice none 0 0,.int .i64 0,.int .i64 0,.slice none 0 0,.int .i64 0,.int .i64 0,.bool false,.bool false,.int .i64 0,.int .i64 0,.bool false,.string ⟨#[]⟩,.int .i64 0,.slice none 0 0,.slice none 0 0,.slice none 0 0,.slice none 0 0,.int .i64 0,.bool false,.bool false,.int .i64 0,.int .i64 0,.slice none 0 0,.bool false,.slice none 0 0,.slice none 0 0,.slice none 0 0,.int .i64 0,.slice none 0 0,.slice none 0 0,.int .i64 0,.int .i64 0,.slice none 0 0,.int .i64 0,.int .i64 0,.string ⟨#[]⟩,.slice none 0 0,.int .i64 0,.slice none 0 0,.slice none 0 0,.int .i64 0,.slice none 0 0,.slice none 0 0,.slice none 0 0,.int .i64 0] 62 _ rfl
     have hb_:V7.w.heap.size≤y2_.w.heap.size:=hS2.size
     have hS3:=hS2.alloc hS2.size (.cells #[.int .i64 0,.int .i64 0,.int .i64 0,.int .i64 0,.int .i64 0,.int .i64 0,.int .i64 0,.slice none 0 0,.int .i64 0,.int .i64 0,.int .i64 0,.int .i64 0,.int .i64 0,.int .i64 0,.slice none 0 0,.slice none 0 0,.slice none 0 0,.int .i64 0,.int .i64 0,.slice none 0 0,.int .i64 0,.int .i64 0,.bool false,.bool false,.int .i64 0,.int .i64 0,.bool false,.string ⟨#[]⟩,.int .i64 0,.slice none 0 0,.slice none 0 0,.slice none 0 0,.slice none 0 0,.int .i64 0,.bool false,.bool false,.int .i64 0,.int .i64 0,.slice none 0 0,.bool false,.slice none 0 0,.slice none 0 0,.slice none 0 0,.int .i64 0,.slice none 0 0,.slice none 0 0,.int .i64 0,.int .i64 0,.slice none 0 0,.int .i64 0,.int .i64 0,.string ⟨#[]⟩,.slice none 0 0,.int .i64 0,.slice none 0 0,.slice none 0 0,.int .i64 0,.slice none 0 0,.slice none 0 0,.slice none 0 0,.int .i64 0] 62)
     (try simp only[Act.put]);(try simp only[List.setIfInBounds_toArray]);(try simp only[List.set_cons_succ]);(try simp only[List.set_cons_zero])
     refine wpAnyH_r1 4 (by kernel_rfl) (one_call rfl (by kernel_rfl) (f:=39) rfl Tryz.func39 (by kernel_rfl) (by kernel_rfl) [.agg os.toArray,.agg #[.int .i64 q.Kind,.int .i64 q.At,.int .i64 q.A,.int .i64 q.B]] (by kernel_rfl) ((o_iGiveOrder (m:=m) (q:=q) (Enc.keep hR1 inferInstance) HT9.out).mono ?_))
     rintro _ _ ⟨fs,χf,rfl,hLast0,y4_,rfl⟩
     rw[HF.out]at hLast0
     rw[HB2.out]
     have hLast:=EncO.toRd hLast0
     have hLr:=len_mission hLast;have hOr:=one_mission hLast
     have hS4:=hS3.trans (y4_.h.mono hS3.size)
     refine⟨_,rfl,hS4,?_⟩
     (try simp only[Act.put]);(try simp only[List.setIfInBounds_toArray]);(try simp only[List.set_cons_succ]);(try simp only[List.set_cons_zero])
     refine wpAnyH_take (i:=5) (v:=?vp33_) rfl (by kernel_rfl) (by kernel_rfl) (by kernel_rfl) (fun _ _ _ h=>hPK.out _ _ _ _ _ h) (Or.inl ⟨by rfl,?yp33_⟩) (by assumption) ?rp33_
     case yp33_=>intro w9 hSw;clear hSw;go_simp;(try with_reducible rfl)
     (try simp only[Act.put]);(try simp only[List.setIfInBounds_toArray]);(try simp only[List.set_cons_succ]);(try simp only[List.set_cons_zero])
     refine wpAnyH_take (i:=6) (v:=?vp34_) rfl (by kernel_rfl) (by kernel_rfl) (by kernel_rfl) (fun _ _ _ h=>hPK.out _ _ _ _ _ h) (Or.inl ⟨by rfl,?yp34_⟩) (by assumption) ?rp34_
     case yp34_=>intro w9 hSw;clear hSw;go_simp;(try with_reducible rfl)
     (try simp only[Act.put]);(try simp only[List.setIfInBounds_toArray]);(try simp only[List.set_cons_succ]);(try simp only[List.set_cons_zero])
     refine wpAnyH_take (i:=7) (v:=?vp35_) rfl (by kernel_rfl) (by kernel_rfl) (by kernel_rfl) (fun _ _ _ h=>hPK.out _ _ _ _ _ h) (Or.inl ⟨by rfl,?yp35_⟩) (by assumption) ?rp35_
     case yp35_=>intro w9 hSw;clear hSw;go_simp;(try with_reducible rfl)
     (try simp only[Act.put]);(try simp only[List.setIfInBounds_toArray]);(try simp only[List.set_cons_succ]);(try simp only[List.set_cons_zero])
     refine wpAnyH_r1 9 (by kernel_rfl) (one_storeW rfl (by kernel_rfl) _ _ _ rfl (y2_.w.heap.size) (by kernel_rfl) (us:=fs) (by kernel_rfl) (hA_.to inferInstance) (by rw[hLr];kernel_rfl) hOr (by rw[hLr];rfl) (w0:=V7.w) inferInstance hb_ ?_)
     intro z0 hz hgz
     refine⟨z0.h,?_⟩
     have hSz:=z0.h
     (try simp only[Act.put]);(try simp only[List.setIfInBounds_toArray]);(try simp only[List.set_cons_succ]);(try simp only[List.set_cons_zero])
     refine wpAnyH_take (i:=10) (v:=?vp36_) rfl (by kernel_rfl) (by kernel_rfl) (by kernel_rfl) (fun _ _ _ h=>hPK.out _ _ _ _ _ h) (Or.inl ⟨by rfl,?yp36_⟩) (by assumption) ?rp36_
     case yp36_=>intro w9 hSw;clear hSw;go_simp;(try with_reducible rfl)
     (try simp only[Act.put]);(try simp only[List.setIfInBounds_toArray]);(try simp only[List.set_cons_succ]);(try simp only[List.set_cons_zero])
     refine wpAnyH_done (by kernel_rfl) ?_ _
     refine hKK.out _ _ _ ?_
     have hGz:Grows V7.w z0.w:=⟨z0.h⟩
     have hW:=Enc.mono (Enc.keep hLast (keepsOf hgz (Nat.lt_of_lt_of_le hA_.lt LeN.out))) (Nat.zero_le _)
     clear hKK hPK
     go_wp2_with fail
     go_meet
     case rel=>exact⟨⟨z0.w,(growsTr HVB.out hGz).out⟩,_,_,rfl,rfl,rfl,hz,hW,hGz⟩
   ·refine one_alloc rfl (by kernel_rfl) _ rfl (cs:=#[.int .i64 0,.int .i64 0,.int .i64 0,.int .i64 0,.int .i64 0,.int .i64 0,.int .i64 0,.slice none 0 0,.int .i64 0,.int .i64 0,.int .i64 0,.int .i64 0,.int .i64 0,.int .i64 0,.slice none 0 0,.slice none 0 0,.slice none 0 0,.int .i64 0,.int .i64 0,.slice none 0 0,.int .i64 0,.int .i64 0,.bool false,.bool false,.int .i64 0,.int .i64 0,.bool false,.string ⟨#[]⟩,.int .i64 0,.slice none 0 0,.slice none 0 0,.slice none 0 0,.slice none 0 0,.int .i64 0,.bool false,.bool false,.int .i64 0,.int .i64 0,.slice none 0 0,.bool false,.slice none 0 0,.slice none 0 0,.slice none 0 0,.int .i64 0,.slice none 0 0,.slice none 0 0,.int .i64 0,.int .i64 0,.slice none 0 0,.int .i64 0,.int .i64 0,.string ⟨#[]⟩,.slice none 0 0,.int .i64 0,.slice none 0 0,.slice none 0 0,.int .i64 0,.slice none 0 0,.slice none 0 0,.slice none 0 0,.int .i64 0]) (fun W=>by go_simp) (hS1.alloc hS1.size _) ?_
    have hA_:=Held.new y1_.w [.int .i64 0,.int .i64 0,.int .i64 0,.int .i64 0,.int .i64 0,.int .i64 0,.int .i64 0,.slice none 0 0,.int .i64 0,.int .i64 0,.int .i64 0,.int .i64 0,.int .i64 0,.int .i64 0,.slice none 0 0,.slice none 0 0,.slice none 0 0,.int .i64 0,.int .i64 0,.slice none 0 0,.int .i64 0,.int .i64 0,.bool false,.bool false,.int .i64 0,.int .i64 0,.bool false,.string ⟨#[]⟩,.int .i64 0,.slice none 0 0,.slice none 0 0,.slice none 0 0,.slice none 0 0,.int .i64 0,.bool false,.bool false,.int .i64 0,.int .i64 0,.slice none 0 0,.bool false,.slice none 0 0,.slice none 0 0,.slice none 0 0,.int .i64 0,.slice none 0 0,.slice none 0 0,.int .i64 0,.int .i64 0,.slice none 0 0,.int .i64 0,.int .i64 0,.string ⟨#[]⟩,.slice none 0 0,.int .i64 0,.slice none 0 0,.slice none 0 0,.int .i64 0,.slice none 0 0,.slice none 0 0,.slice none 0 0,.int .i64 0] 62 _ rfl
    have hb_:V7.w.heap.size≤y1_.w.heap.size:=hS1.size
    have hS2:=hS1.alloc hS1.size (.cells #[.int .i64 0,.int .i64 0,.int .i64 0,.int .i64 0,.int .i64 0,.int .i64 0,.int .i64 0,.slice none 0 0,.int .i64 0,.int .i64 0,.int .i64 0,.int .i64 0,.int .i64 0,.int .i64 0,.slice none 0 0,.slice none 0 0,.slice none 0 0,.int .i64 0,.int .i64 0,.slice none 0 0,.int .i64 0,.int .i64 0,.bool false,.bool false,.int .i64 0,.int .i64 0,.bool false,.string ⟨#[]⟩,.int .i64 0,.slice none 0 0,.slice none 0 0,.slice none 0 0,.slice none 0 0,.int .i64 0,.bool false,.bool false,.int .i64 0,.int .i64 0,.slice none 0 0,.bool false,.slice none 0 0,.slice none 0 0,.slice none 0 0,.int .i64 0,.slice none 0 0,.slice none 0 0,.int .i64 0,.int .i64 0,.slice none 0 0,.int .i64 0,.int .i64 0,.string ⟨#[]⟩,.slice none 0 0,.int .i64 0,.slice none 0 0,.slice none 0 0,.int .i64 0,.slice none 0 0,.slice none 0 0,.slice none 0 0,.int .i64 0] 62)
    (try simp only[Act.put]);(try simp only[List.setIfInBounds_toArray]);(try simp only[List.set_cons_succ]);(try simp only[List.set_cons_zero])
    refine wpAnyH_r1 3 (by kernel_rfl) (one_call rfl (by kernel_rfl) (f:=38) rfl Tryz.func38 (by kernel_rfl) (by kernel_rfl) [.agg #[.int .i64 q.Kind,.int .i64 q.At,.int .i64 q.A,.int .i64 q.B]] (by kernel_rfl) ((d_ltoOrder (x:=q) (vs:=[.int .i64 q.Kind,.int .i64 q.At,.int .i64 q.A,.int .i64 q.B]) (B:=0) ⟨rfl,HOQ.out⟩ (by show(0:Int)≤_;decide)).mono ?_))
    rintro _ _ ⟨_,rfl,⟨rfl,-⟩,y3_,rfl⟩
    have hS3:=hS2.trans (y3_.h.mono hS2.size)
    refine⟨_,rfl,hS3,?_⟩
    (try simp only[Act.put]);(try simp only[List.setIfInBounds_toArray]);(try simp only[List.set_cons_succ]);(try simp only[List.set_cons_zero])
    refine wpAnyH_r1 4 (by kernel_rfl) (one_call rfl (by kernel_rfl) (f:=39) rfl Tryz.func39 (by kernel_rfl) (by kernel_rfl) [.agg os.toArray,.agg #[.int .i64 q.Kind,.int .i64 q.At,.int .i64 q.A,.int .i64 q.B]] (by kernel_rfl) ((o_iGiveOrder (m:=m) (q:=q) (Enc.keep hR1 inferInstance) HT9.out).mono ?_))
    rintro _ _ ⟨fs,χf,rfl,hLast0,y4_,rfl⟩
    rw[HF.out]at hLast0
    rw[HB2.out]
    have hLast:=EncO.toRd hLast0
    have hLr:=len_mission hLast;have hOr:=one_mission hLast
    have hS4:=hS3.trans (y4_.h.mono hS3.size)
    refine⟨_,rfl,hS4,?_⟩
    (try simp only[Act.put]);(try simp only[List.setIfInBounds_toArray]);(try simp only[List.set_cons_succ]);(try simp only[List.set_cons_zero])
    refine wpAnyH_take (i:=5) (v:=?vp37_) rfl (by kernel_rfl) (by kernel_rfl) (by kernel_rfl) (fun _ _ _ h=>hPK.out _ _ _ _ _ h) (Or.inl ⟨by rfl,?yp37_⟩) (by assumption) ?rp37_
    case yp37_=>intro w9 hSw;clear hSw;go_simp;(try with_reducible rfl)
    (try simp only[Act.put]);(try simp only[List.setIfInBounds_toArray]);(try simp only[List.set_cons_succ]);(try simp only[List.set_cons_zero])
    refine wpAnyH_take (i:=6) (v:=?vp38_) rfl (by kernel_rfl) (by kernel_rfl) (by kernel_rfl) (fun _ _ _ h=>hPK.out _ _ _ _ _ h) (Or.inl ⟨by rfl,?yp38_⟩) (by assumption) ?rp38_
    case yp38_=>intro w9 hSw;clear hSw;go_simp;(try with_reducible rfl)
    (try simp only[Act.put]);(try simp only[List.setIfInBounds_toArray]);(try simp only[List.set_cons_succ]);(try simp only[List.set_cons_zero])
    refine wpAnyH_take (i:=7) (v:=?vp39_) rfl (by kernel_rfl) (by kernel_rfl) (by kernel_rfl) (fun _ _ _ h=>hPK.out _ _ _ _ _ h) (Or.inl ⟨by rfl,?yp39_⟩) (by assumption) ?rp39_
    case yp39_=>intro w9 hSw;clear hSw;go_simp;(try with_reducible rfl)
    (try simp only[Act.put]);(try simp only[List.setIfInBounds_toArray]);(try simp only[List.set_cons_succ]);(try simp only[List.set_cons_zero])
    refine wpAnyH_r1 9 (by kernel_rfl) (one_storeW rfl (by kernel_rfl) _ _ _ rfl (y1_.w.heap.size) (by kernel_rfl) (us:=fs) (by kernel_rfl) (hA_.to inferInstance) (by rw[hLr];kernel_rfl) hOr (by rw[hLr];rfl) (w0:=V7.w) inferInstance hb_ ?_)
    intro z0 hz hgz
    refine⟨z0.h,?_⟩
    have hSz:=z0.h
    (try simp only[Act.put]);(try simp only[List.setIfInBounds_toArray]);(try simp only[List.set_cons_succ]);(try simp only[List.set_cons_zero])
    refine wpAnyH_take (i:=10) (v:=?vp40_) rfl (by kernel_rfl) (by kernel_rfl) (by kernel_rfl) (fun _ _ _ h=>hPK.out _ _ _ _ _ h) (Or.inl ⟨by rfl,?yp40_⟩) (by assumption) ?rp40_
    case yp40_=>intro w9 hSw;clear hSw;go_simp;(try with_reducible rfl)
    (try simp only[Act.put]);(try simp only[List.setIfInBounds_toArray]);(try simp only[List.set_cons_succ]);(try simp only[List.set_cons_zero])
    refine wpAnyH_done (by kernel_rfl) ?_ _
    refine hKK.out _ _ _ ?_
    have hGz:Grows V7.w z0.w:=⟨z0.h⟩
    have hW:=Enc.mono (Enc.keep hLast (keepsOf hgz (Nat.lt_of_lt_of_le hA_.lt LeN.out))) (Nat.zero_le _)
    clear hKK hPK
    go_wp2_with fail
    go_meet
    case rel=>exact⟨⟨z0.w,(growsTr HVB.out hGz).out⟩,_,_,rfl,rfl,rfl,hz,hW,hGz⟩
  ·refine one_alloc rfl (by kernel_rfl) _ rfl (cs:=#[.int .i64 0,.int .i64 0,.int .i64 0,.int .i64 0,.int .i64 0,.int .i64 0,.int .i64 0,.slice none 0 0,.int .i64 0,.int .i64 0,.int .i64 0,.int .i64 0,.int .i64 0,.int .i64 0,.slice none 0 0,.slice none 0 0,.slice none 0 0,.int .i64 0,.int .i64 0,.slice none 0 0,.int .i64 0,.int .i64 0,.bool false,.bool false,.int .i64 0,.int .i64 0,.bool false,.string ⟨#[]⟩,.int .i64 0,.slice none 0 0,.slice none 0 0,.slice none 0 0,.slice none 0 0,.int .i64 0,.bool false,.bool false,.int .i64 0,.int .i64 0,.slice none 0 0,.bool false,.slice none 0 0,.slice none 0 0,.slice none 0 0,.int .i64 0,.slice none 0 0,.slice none 0 0,.int .i64 0,.int .i64 0,.slice none 0 0,.int .i64 0,.int .i64 0,.string ⟨#[]⟩,.slice none 0 0,.int .i64 0,.slice none 0 0,.slice none 0 0,.int .i64 0,.slice none 0 0,.slice none 0 0,.slice none 0 0,.int .i64 0]) (fun W=>by go_simp) (hS0.alloc hS0.size _) ?_
   have hA_:=Held.new V7.w.drew [.int .i64 0,.int .i64 0,.int .i64 0,.int .i64 0,.int .i64 0,.int .i64 0,.int .i64 0,.slice none 0 0,.int .i64 0,.int .i64 0,.int .i64 0,.int .i64 0,.int .i64 0,.int .i64 0,.slice none 0 0,.slice none 0 0,.slice none 0 0,.int .i64 0,.int .i64 0,.slice none 0 0,.int .i64 0,.int .i64 0,.bool false,.bool false,.int .i64 0,.int .i64 0,.bool false,.string ⟨#[]⟩,.int .i64 0,.slice none 0 0,.slice none 0 0,.slice none 0 0,.slice none 0 0,.int .i64 0,.bool false,.bool false,.int .i64 0,.int .i64 0,.slice none 0 0,.bool false,.slice none 0 0,.slice none 0 0,.slice none 0 0,.int .i64 0,.slice none 0 0,.slice none 0 0,.int .i64 0,.int .i64 0,.slice none 0 0,.int .i64 0,.int .i64 0,.string ⟨#[]⟩,.slice none 0 0,.int .i64 0,.slice none 0 0,.slice none 0 0,.int .i64 0,.slice none 0 0,.slice none 0 0,.slice none 0 0,.int .i64 0] 62 _ rfl
   have hb_:V7.w.heap.size≤V7.w.drew.heap.size:=hS0.size
   have hS1:=hS0.alloc hS0.size (.cells #[.int .i64 0,.int .i64 0,.int .i64 0,.int .i64 0,.int .i64 0,.int .i64 0,.int .i64 0,.slice none 0 0,.int .i64 0,.int .i64 0,.int .i64 0,.int .i64 0,.int .i64 0,.int .i64 0,.slice none 0 0,.slice none 0 0,.slice none 0 0,.int .i64 0,.int .i64 0,.slice none 0 0,.int .i64 0,.int .i64 0,.bool false,.bool false,.int .i64 0,.int .i64 0,.bool false,.string ⟨#[]⟩,.int .i64 0,.slice none 0 0,.slice none 0 0,.slice none 0 0,.slice none 0 0,.int .i64 0,.bool false,.bool false,.int .i64 0,.int .i64 0,.slice none 0 0,.bool false,.slice none 0 0,.slice none 0 0,.slice none 0 0,.int .i64 0,.slice none 0 0,.slice none 0 0,.int .i64 0,.int .i64 0,.slice none 0 0,.int .i64 0,.int .i64 0,.string ⟨#[]⟩,.slice none 0 0,.int .i64 0,.slice none 0 0,.slice none 0 0,.int .i64 0,.slice none 0 0,.slice none 0 0,.slice none 0 0,.int .i64 0] 62)
   (try simp only[Act.put]);(try simp only[List.setIfInBounds_toArray]);(try simp only[List.set_cons_succ]);(try simp only[List.set_cons_zero])
   refine wpAnyH_r1 1 (by kernel_rfl) (one_call rfl (by kernel_rfl) (f:=35) rfl Tryz.func35 (by kernel_rfl) (by kernel_rfl) [.agg vs.toArray] (by kernel_rfl) ((dl_toMission (x:=m) (Enc.keep HM7.out ⟨hS1.size,fun b _ h2=>hS1.block b h2⟩) HT.out).mono ?_))
   rintro _ _ ⟨os,rfl,hR1,y2_,rfl⟩
   have hS2:=hS1.trans (y2_.h.mono hS1.size)
   refine⟨_,rfl,hS2,?_⟩
   (try simp only[Act.put]);(try simp only[List.setIfInBounds_toArray]);(try simp only[List.set_cons_succ]);(try simp only[List.set_cons_zero])
   refine wpAnyH_r1 3 (by kernel_rfl) (one_call rfl (by kernel_rfl) (f:=38) rfl Tryz.func38 (by kernel_rfl) (by kernel_rfl) [.agg #[.int .i64 q.Kind,.int .i64 q.At,.int .i64 q.A,.int .i64 q.B]] (by kernel_rfl) ((d_ltoOrder (x:=q) (vs:=[.int .i64 q.Kind,.int .i64 q.At,.int .i64 q.A,.int .i64 q.B]) (B:=0) ⟨rfl,HOQ.out⟩ (by show(0:Int)≤_;decide)).mono ?_))
   rintro _ _ ⟨_,rfl,⟨rfl,-⟩,y3_,rfl⟩
   have hS3:=hS2.trans (y3_.h.mono hS2.size)
   refine⟨_,rfl,hS3,?_⟩
   (try simp only[Act.put]);(try simp only[List.setIfInBounds_toArray]);(try simp only[List.set_cons_succ]);(try simp only[List.set_cons_zero])
   refine wpAnyH_r1 4 (by kernel_rfl) (one_call rfl (by kernel_rfl) (f:=39) rfl Tryz.func39 (by kernel_rfl) (by kernel_rfl) [.agg os.toArray,.agg #[.int .i64 q.Kind,.int .i64 q.At,.int .i64 q.A,.int .i64 q.B]] (by kernel_rfl) ((o_iGiveOrder (m:=m) (q:=q) (Enc.keep hR1 inferInstance) HT9.out).mono ?_))
   rintro _ _ ⟨fs,χf,rfl,hLast0,y4_,rfl⟩
   rw[HF.out]at hLast0
   rw[HB2.out]
   have hLast:=EncO.toRd hLast0
   have hLr:=len_mission hLast;have hOr:=one_mission hLast
   have hS4:=hS3.trans (y4_.h.mono hS3.size)
   refine⟨_,rfl,hS4,?_⟩
   (try simp only[Act.put]);(try simp only[List.setIfInBounds_toArray]);(try simp only[List.set_cons_succ]);(try simp only[List.set_cons_zero])
   refine wpAnyH_take (i:=5) (v:=?vp41_) rfl (by kernel_rfl) (by kernel_rfl) (by kernel_rfl) (fun _ _ _ h=>hPK.out _ _ _ _ _ h) (Or.inl ⟨by rfl,?yp41_⟩) (by assumption) ?rp41_
   case yp41_=>intro w9 hSw;clear hSw;go_simp;(try with_reducible rfl)
   (try simp only[Act.put]);(try simp only[List.setIfInBounds_toArray]);(try simp only[List.set_cons_succ]);(try simp only[List.set_cons_zero])
   refine wpAnyH_take (i:=6) (v:=?vp42_) rfl (by kernel_rfl) (by kernel_rfl) (by kernel_rfl) (fun _ _ _ h=>hPK.out _ _ _ _ _ h) (Or.inl ⟨by rfl,?yp42_⟩) (by assumption) ?rp42_
   case yp42_=>intro w9 hSw;clear hSw;go_simp;(try with_reducible rfl)
   (try simp only[Act.put]);(try simp only[List.setIfInBounds_toArray]);(try simp only[List.set_cons_succ]);(try simp only[List.set_cons_zero])
   refine wpAnyH_take (i:=7) (v:=?vp43_) rfl (by kernel_rfl) (by kernel_rfl) (by kernel_rfl) (fun _ _ _ h=>hPK.out _ _ _ _ _ h) (Or.inl ⟨by rfl,?yp43_⟩) (by assumption) ?rp43_
   case yp43_=>intro w9 hSw;clear hSw;go_simp;(try with_reducible rfl)
   (try simp only[Act.put]);(try simp only[List.setIfInBounds_toArray]);(try simp only[List.set_cons_succ]);(try simp only[List.set_cons_zero])
   refine wpAnyH_r1 9 (by kernel_rfl) (one_storeW rfl (by kernel_rfl) _ _ _ rfl (V7.w.drew.heap.size) (by kernel_rfl) (us:=fs) (by kernel_rfl) (hA_.to inferInstance) (by rw[hLr];kernel_rfl) hOr (by rw[hLr];rfl) (w0:=V7.w) inferInstance hb_ ?_)
   intro z0 hz hgz
   refine⟨z0.h,?_⟩
   have hSz:=z0.h
   (try simp only[Act.put]);(try simp only[List.setIfInBounds_toArray]);(try simp only[List.set_cons_succ]);(try simp only[List.set_cons_zero])
   refine wpAnyH_take (i:=10) (v:=?vp44_) rfl (by kernel_rfl) (by kernel_rfl) (by kernel_rfl) (fun _ _ _ h=>hPK.out _ _ _ _ _ h) (Or.inl ⟨by rfl,?yp44_⟩) (by assumption) ?rp44_
   case yp44_=>intro w9 hSw;clear hSw;go_simp;(try with_reducible rfl)
   (try simp only[Act.put]);(try simp only[List.setIfInBounds_toArray]);(try simp only[List.set_cons_succ]);(try simp only[List.set_cons_zero])
   refine wpAnyH_done (by kernel_rfl) ?_ _
   refine hKK.out _ _ _ ?_
   have hGz:Grows V7.w z0.w:=⟨z0.h⟩
   have hW:=Enc.mono (Enc.keep hLast (keepsOf hgz (Nat.lt_of_lt_of_le hA_.lt LeN.out))) (Nat.zero_le _)
   clear hKK hPK
   go_wp2_with fail
   go_meet
   case rel=>exact⟨⟨z0.w,(growsTr HVB.out hGz).out⟩,_,_,rfl,rfl,rfl,hz,hW,hGz⟩
 case rest =>
 obtain⟨z4,bh,hs,rfl,rfl,rfl,hX,hW,hG⟩:=hcut
 have HG64:=lH (growsTr HG67.out hG);have HLH:=lH (len_mission hW);have HH4:=lH hW;have HX4:=lH hX;clear hX hW hG
 have HWb4:=lH (HWb6.out.to HG64.out);have HW4:=lH (Enc.keep HW6.out (@Keeps.grows 0 _ _ HG64.out));have HGb4:=lH (HGb6.out.to HG64.out);have HGR4:=lH (Enc.keep (Enc.mono (EncO.toRd HGO6.out) (Nat.zero_le _)) (@Keeps.grows 0 _ _ HG64.out))
 go_wp2_with (first|(refine stepLoad rfl _ _ rfl _ 0 rfl (row:=hs) (HX4.out.to inferInstance) _ Tryz.underlying62 rfl (by rw[HLH.out];kernel_rfl) (by rw[List.drop_zero,List.take_length]) ?_)|(refine stepLoad rfl _ _ rfl _ 0 rfl (row:=ws) (HWb4.out.to inferInstance) _ Tryz.underlying62 rfl (by rw[HLW.out];kernel_rfl) (by rw[List.drop_zero,List.take_length]) ?_))
 refine(d_leqMission (x:=fm) HH4.out HW4.out).mono ?_
 rintro _ _ ⟨rfl,y12,rfl⟩
 go_wp2_with (first|((with_reducible refine wp_region_later (by kernel_rfl) (by kernel_rfl) ?_);(repeat(first|go_big_quiet_step (first|fail)|simp only[kbb]));refine wpQuiet_nil ?_;rintro _ ⟨x,rfl⟩)|(refine stepLoad rfl _ _ rfl _ 0 rfl (row:=gs) (HGb4.out.to inferInstance) _ Tryz.underlying62 rfl (by rw[HLG.out];kernel_rfl) (by rw[List.drop_zero,List.take_length]) ?_))
 refine(o_heldM (k:=1) (Enc.keep HGR4.out inferInstance) HTF.out (by omega) (by omega)).mono ?_
 intro e8 Z8 hq8
 obtain⟨he,y13,hw⟩:=hq8
 obtain rfl:e8=.returned (.int .i64 K):=he.trans (by rw[HK.out])
 clear he;subst hw
 go_wp2_with (first|((with_reducible refine wp_region_later (by kernel_rfl) (by kernel_rfl) ?_);(repeat(first|go_big_quiet_step (first|fail)|simp only[kb]));refine wpQuiet_nil ?_;rintro _ ⟨x,rfl⟩))
 go_ret
 exact Gives.mk rfl
end Go.Proofs.YtbaffippdifbpaaGreat
