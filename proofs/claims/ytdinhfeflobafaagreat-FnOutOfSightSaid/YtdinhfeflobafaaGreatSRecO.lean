/- The contracts of RecordsOnce, both sides. No condition but on sizes. -/
import Derived.Test.YtdinhfeflobafaaGreatSM5
import Derived.Test.YtdinhfeflobafaaGreatSM12
import Derived.Test.YtdinhfeflobafaaGreatSOkR
namespace Go.Proofs.YtdinhfeflobafaaGreat
set_option linter.unusedVariables false
open Go.ChangeShapes Go.WideShapes Go.ChangeAt Go.RowKit
def recIds(m:TMission):List Int:=m.Space.Board.Recorder.Dropped++m.Space.Board.Recorder.Records.map (·.Id)++m.Space.Sent.map (·.Id)
def wasSent(m:TMission)(x:TRecord):Bool:=m.Space.Sent.any (recEq x)
def recordsOnce(m:TMission):Bool:=ascGo (wasSent m) TRecord.Id none m.Ground.Records && once (recIds m) m.Space.Board.Made
theorem rec_small{m:TMission}(ht:Enc.tot m≤1048576):m.Space.Board.Recorder.Records.length≤1048576∧m.Space.Board.Recorder.Dropped.length≤1048576∧m.Space.Sent.length≤1048576∧m.Ground.Records.length≤1048576:=by
 have h:=mbounds ht
 have hsp:Enc.tot m.Space.Board+Enc.tot m.Space.Packer+totL m.Space.Files+totL m.Space.Outs+totL m.Space.Sent≤1048576:=h.2.2.2.1
 have hg:totL m.Ground.Offers+Enc.tot m.Ground.Sender+Enc.tot m.Ground.Unpacker+totL m.Ground.Pairs+totL m.Ground.Records+totL m.Ground.Files+totL m.Ground.Told≤1048576:=h.2.2.1
 have n8:=Enc.tot_nonneg m.Space.Board;have n9:=Enc.tot_nonneg m.Space.Packer;have n10:=totL_nonneg m.Space.Files;have n11:=totL_nonneg m.Space.Outs;have n12:=totL_nonneg m.Space.Sent
 have p1:=totL_nonneg m.Ground.Offers;have p2:=Enc.tot_nonneg m.Ground.Sender;have p3:=Enc.tot_nonneg m.Ground.Unpacker;have p4:=totL_nonneg m.Ground.Pairs;have p5:=totL_nonneg m.Ground.Records;have p6:=totL_nonneg m.Ground.Files;have p7:=totL_nonneg m.Ground.Told
 have hb:totL m.Space.Board.Params+totL m.Space.Board.Limits+totL m.Space.Board.Orders+totL m.Space.Board.Done+(totL m.Space.Board.Recorder.Records+totL m.Space.Board.Recorder.Dropped)+totL m.Space.Board.Asked≤1048576:=by
  have:Enc.tot m.Space.Board≤1048576:=by omega
  exact this
 have m1:=totL_nonneg m.Space.Board.Params;have m2:=totL_nonneg m.Space.Board.Limits;have m3:=totL_nonneg m.Space.Board.Orders;have m4:=totL_nonneg m.Space.Board.Done;have m5:=totL_nonneg m.Space.Board.Recorder.Records;have m6:=totL_nonneg m.Space.Board.Recorder.Dropped;have m7:=totL_nonneg m.Space.Board.Asked
 have l1:=totL_len m.Space.Board.Recorder.Records;have l2:=totL_len m.Space.Board.Recorder.Dropped;have l3:=totL_len m.Space.Sent;have l4:=totL_len m.Ground.Records
 omega
theorem any_snoc{x s:TRecord}{l r:List TRecord}{k:Nat}(h:l.drop k=s::r):(l.take (k+1)).any (recEq x)=((l.take k).any (recEq x) || recEq x s):=by
 rw[take_snoc' h,List.any_append];simp
set_option maxRecDepth 100000 in
set_option maxHeartbeats 4000000 in
theorem c_iRecordsOnce{B:Nat}{vs:List Value}{m:TMission}{w:World}(h:Enc.Rd B w vs m)(ht:Enc.tot m≤1048576) :
  Calls Tryz.prog 22 #[.agg vs.toArray] w (Gives w (.bool (recordsOnce m))):=by
 obtain⟨A,hvs,F⟩:=mcell h
 have hsm:=rec_small ht
 clear ht h
 have HVS:=lH hvs
 have HB:=lH (Held.new w vs 90 w.heap.size rfl)
 have e6:=HB.out.cellG 30 (.slice A.a6 m.Ground.Records.length A.c6) (by rw[hvs];rfl)
 have e19:=HB.out.cellG 57 (.slice A.a19 m.Space.Sent.length A.c19) (by rw[hvs];rfl)
 have eM:=HB.out.cellG 46 (.int .i64 m.Space.Board.Made) (by rw[hvs];rfl)
 clear hvs
 have F13:=lH F.q13;have F14:=lH F.q14;have F19:=lH F.q19;have F6:=lH F.q6
 clear F
 obtain⟨n1,hn1⟩:∃ n,m.Space.Board.Recorder.Records.length=n:=⟨_,rfl⟩
 obtain⟨n0,hn0⟩:∃ n,m.Space.Board.Recorder.Dropped.length=n:=⟨_,rfl⟩
 obtain⟨n2,hn2⟩:∃ n,m.Space.Sent.length=n:=⟨_,rfl⟩
 obtain⟨n3,hn3⟩:∃ n,m.Ground.Records.length=n:=⟨_,rfl⟩
 obtain⟨t,htk⟩:∃ t,m.Space.Board.Made=t:=⟨_,rfl⟩
 have hm0:n0≤1048576:=by omega
 have hm1:n1≤1048576:=by omega
 have hm2:n2≤1048576:=by omega
 have hm3:n3≤1048576:=by omega
 clear hsm
 rw[hn3]at e6;rw[hn2]at e19;rw[htk]at eM
 have HN:=lH (And.intro hn1 (And.intro hn0 (And.intro hn2 (And.intro hn3 htk))));clear hn1 hn2 hn3 htk hn0
 obtain⟨T,hT⟩:∃ T,recordsOnce m=T:=⟨_,rfl⟩
 rw[hT]
 have HT:=lH hT;clear hT
 go_enter Tryz.func22,Tryz.ntmps22
 go_wp2_with (first|((with_reducible refine wp_region_later (by kernel_rfl) (by kernel_rfl) ?_);(repeat(first|go_big_quiet_step (first|fail)));refine wpQuiet_nil ?_;rintro _ ⟨x,rfl⟩)|(refine stepStore2 rfl _ _ _ rfl (w.heap.size+1) 0 rfl (us:=(cBoard m.Space.Board A.a9 A.c9 A.a10 A.c10 A.a11 A.c11 A.a12 A.c12 A.a13 A.c13 A.a14 A.c14 A.a15 A.c15)) (cs2:=(cBoard m.Space.Board A.a9 A.c9 A.a10 A.c10 A.a11 A.c11 A.a12 A.c12 A.a13 A.c13 A.a14 A.c14 A.a15 A.c15)) (Held.new _ zBoard 84 _ (by simp)) ?a1 ?a2 ?a3 ?a4 ?a5 (w0:=(w.alloc (.cells vs.toArray 90))) inferInstance (by simp) ?a6;go_must ((case a1=>rfl);(case a2=>kernel_rfl);(case a3=>rfl);(case a4=>exact Nat.le_of_ble_eq_true rfl);(case a5=>kernel_rfl);intro z hx kx;have fR:=hx.cellG 7 (.slice A.a13 m.Space.Board.Recorder.Records.length A.c13) rfl;have fD:=hx.cellG 8 (.slice A.a14 m.Space.Board.Recorder.Dropped.length A.c14) rfl;rw[HN.out.1]at fR;rw[HN.out.2.1]at fD;have fM:=hx.cellG 9 (.int .i64 m.Space.Board.Made) rfl;rw[HN.out.2.2.2.2]at fM;have hzz:LtN (w.heap.size+1) z.w.heap.size:=⟨hx.lt⟩;clear hx kx))|(refine stepLoad rfl _ _ rfl w.heap.size 37 rfl (row:=(cBoard m.Space.Board A.a9 A.c9 A.a10 A.c10 A.a11 A.c11 A.a12 A.c12 A.a13 A.c13 A.a14 A.c14 A.a15 A.c15)) (HB.out.to inferInstance) _ Tryz.underlying84 rfl (by kernel_rfl) (by rw[HVS.out];kernel_rfl) ?_))
 refine(c_cloneInt (F14.out.toSlInt.to inferInstance) HN.out.2.1 (by omega)).mono ?_
 rintro _ _ ⟨sa0,sc0,rfl,hown0,y0,rfl⟩
 rw[HN.out.2.1]
 have hown0:=Own.mono (B':=z.w.heap.size) hown0 LeN.out
 have hacc0:=lH (show m.Space.Board.Recorder.Dropped.length=n0 from HN.out.2.1)
 go_wp2_with (first|((with_reducible refine wp_region_later (by kernel_rfl) (by kernel_rfl) ?_);(repeat(first|go_big_quiet_step (first|fail)));refine wpQuiet_nil ?_;rintro _ ⟨x,rfl⟩))
 go_loopw [4,23] (fun u v wr=>∃ (k:Nat) (acc:List Int) (q:Nat) (sa:Option Addr) (sc:Nat),v=.int .i64 k∧u=.slice sa q sc∧acc.length=q∧k≤n1∧q≤n0+k∧Hid (acc=m.Space.Board.Recorder.Dropped++(m.Space.Board.Recorder.Records.take k).map (·.Id))∧Own encInt 3 1 z.w.heap.size wr sa sc acc∧∃ x:Later z.w,wr=x.w) (fun _ v _=>(n1 - intOf v).toNat)
 case atStart=>exact⟨0,m.Space.Board.Recorder.Dropped,n0,sa0,sc0,rfl,rfl,hacc0.out,by omega,by omega,by rw[Hid];simp,hown0.to inferInstance,Later.of⟩
 case round =>
  obtain⟨k,acc,q,sa,sc,rfl,rfl,hacc,hk,hqk,hf,hown,x0,rfl⟩:=hrel
  by_cases h:k<n1
  ·have hkl:k<m.Space.Board.Recorder.Records.length:=by have:=HN.out.1;omega
   obtain⟨eb,eoff,es,he,ehb,ehd,eok,eh0,eh1,eh2,eh3⟩:=F13.out.atTRecord hkl
   rw[he]at fR
   (try rw[he])
   have hz9:es.Data.size≤9223372036854775807:=eok.2.2.2.1
   have HF:=lH (show acc++[es.Id]=m.Space.Board.Recorder.Dropped++(m.Space.Board.Recorder.Records.take (k+1)).map (·.Id)by rw[map_snoc ehd.out,hf.out,List.append_assoc])
   have EOK:=lH eok;clear eok he hkl
   go_wp2_with (first|((with_reducible refine wp_region_later (by kernel_rfl) (by kernel_rfl) ?_);(repeat(first|go_big_quiet_step (first|fail)));refine wpQuiet_nil ?_;rintro _ ⟨x,rfl⟩)|((at_builtin;refine wpList_app1X (enc:=encInt) (w0:=z.w) (B:=z.w.heap.size) (z:=.int .i64 0) (size:=1) (bytes:=8) es.Id rfl (.tmp 27) (.tmp 30) rfl Tryz.underlying46 (by kernel_rfl) rfl (by decide) (by decide) rfl rfl hacc (Own.to hown inferInstance) (by first|(refine blk_alloc _ _ _ ?_;(first|rfl|(simp;done)))|(refine blk_past (blk_alloc _ _ _ ?_);(first|rfl|(simp;done)))|(refine blk_later _ (blk_alloc _ _ _ ?_);(first|rfl|(simp;done)))|(refine blk_later _ (blk_past (blk_alloc _ _ _ ?_));(first|rfl|(simp;done)))|(refine blk_past (blk_past (blk_alloc _ _ _ ?_));(first|rfl|(simp;done)))|assumption) rfl (encInt_one _) (by omega) LeN.out inferInstance LeN.out ?_;intro sa1 sc1 x1 hown1 hgr1)))
   go_roundw
   case rel=>exact⟨k+1,acc++[es.Id],q+1,sa1,sc1,by go_num,rfl,by simp[hacc],by omega,by omega,HF,hown1,Later.of⟩
   case measure=>simp[intOf];omega
  ·have HF1:=lH (show acc=m.Space.Board.Recorder.Dropped++m.Space.Board.Recorder.Records.map (·.Id)by have:=hf.out;rw[List.take_of_length_le (by have:=HN.out.1;omega)]at this;exact this)
   have hq1:q≤2097152:=by omega
   clear hf
   go_wp2_with (first|((with_reducible refine wp_region_later (by kernel_rfl) (by kernel_rfl) ?_);(repeat(first|go_big_quiet_step (first|fail)));refine wpQuiet_nil ?_;rintro _ ⟨x,rfl⟩))
   go_loopw [4,38] (fun u v wr=>∃ (k:Nat) (acc2:List Int) (q2:Nat) (sa:Option Addr) (sc:Nat) (rs:List TRecord),v=.int .i64 k∧u=.slice sa q2 sc∧acc2.length=q2∧k≤n2∧q2≤2097152+k∧Hid (acc2=acc++(m.Space.Sent.take k).map (·.Id))∧Hid (∀ y,rs.any (recEq y)=(m.Space.Sent.take k).any (recEq y))∧Hid (MapR wr x0.w.heap.size rs)∧Own encInt 3 1 z.w.heap.size wr sa sc acc2∧∃ x:Later z.w,wr=x.w) (fun _ v _=>(n2 - intOf v).toNat)
   case atStart=>exact⟨0,acc,q,sa,sc,[],rfl,rfl,hacc,by omega,by omega,by rw[Hid];simp,by rw[Hid];intro y;simp,MapR.new _ _ rfl,hown.to inferInstance,Later.of⟩
   case round =>
    obtain⟨k,acc2,q2,sa,sc,rs,rfl,rfl,hacc2,hk,hqk2,hf,HA,HM,hown,xb,rfl⟩:=hrel
    by_cases h:k<n2
    ·have hkl:k<m.Space.Sent.length:=by have:=HN.out.2.2.1;omega
     obtain⟨eb,eoff,es,he,ehb,ehd,eok,eh0,eh1,eh2,eh3⟩:=F19.out.atTRecord hkl
     rw[he]at e19
     (try rw[he])
     have hz9:es.Data.size≤9223372036854775807:=eok.2.2.2.1
     have HF:=lH (show acc2++[es.Id]=acc++(m.Space.Sent.take (k+1)).map (·.Id)by rw[map_snoc ehd.out,hf.out,List.append_assoc])
     have HA2:=lH (show ∀ y,(addR rs es).any (recEq y)=(m.Space.Sent.take (k+1)).any (recEq y)from fun y=>by rw[addR_any,HA.out,any_snoc ehd.out])
     have EOK:=lH eok;clear eok he hkl
     go_wp2_with (first|((with_reducible refine wp_region_later (by kernel_rfl) (by kernel_rfl) ?_);(repeat(first|go_big_quiet_step (first|fail)));refine wpQuiet_nil ?_;rintro _ ⟨x,rfl⟩)|((at_builtin;refine wpList_app1X (enc:=encInt) (w0:=z.w) (B:=z.w.heap.size) (z:=.int .i64 0) (size:=1) (bytes:=8) es.Id rfl (.tmp 42) (.tmp 45) rfl Tryz.underlying46 (by kernel_rfl) rfl (by decide) (by decide) rfl rfl hacc2 (Own.to hown inferInstance) (by first|(refine blk_alloc _ _ _ ?_;(first|rfl|(simp;done)))|(refine blk_past (blk_alloc _ _ _ ?_);(first|rfl|(simp;done)))|(refine blk_later _ (blk_alloc _ _ _ ?_);(first|rfl|(simp;done)))|(refine blk_later _ (blk_past (blk_alloc _ _ _ ?_));(first|rfl|(simp;done)))|(refine blk_past (blk_past (blk_alloc _ _ _ ?_));(first|rfl|(simp;done)))|assumption) rfl (encInt_one _) (by omega) LeN.out inferInstance LeN.out ?_;intro sa1 sc1 x1 hown1 hgr1);have HM1:=lH ((HM.out.to inferInstance).kept (Own.to hown inferInstance) hgr1);have HX0:=Held.new (z.andThen xb).w [.int .i64 es.Id,.int .i64 es.Priority,.int .i64 es.Time,.string es.Data] 164 ((z.andThen xb).w.heap.size) rfl;have HX1:=lH (Held.kept (Held.to HX0 inferInstance) (Own.to hown inferInstance) (by decide) hgr1);have j0:=HX1.out.cellG 0 (.int .i64 es.Id) rfl;have j1:=HX1.out.cellG 1 (.int .i64 es.Priority) rfl;have j2:=HX1.out.cellG 2 (.int .i64 es.Time) rfl;have j3:=HX1.out.cellG 3 (.string es.Data) rfl)|(at_mapUpdate;go_must (refine wpList_mapR rfl _ _ _ rfl (x:=es) rfl rfl rfl (HM1.out.to inferInstance) ?_;intro w2 hm2 hw2;have hown2:=(Own.to hown1 inferInstance).mapped (HM1.out.to inferInstance) hw2;obtain⟨Y,hY⟩:=Later.mapped (W:=z.w) hw2 inferInstance LeN.out;subst hY;have HM2:=lH hm2;clear hm2 hw2)))
     go_roundw
     case rel=>exact⟨k+1,acc2++[es.Id],q2+1,sa1,sc1,addR rs es,by go_num,rfl,by simp[hacc2],by omega,by omega,HF,HA2,HM2,hown2,Later.of⟩
     case measure=>simp[intOf];omega
    ·have HF2:=lH (show acc2=recIds m by have:=hf.out;rw[List.take_of_length_le (by have:=HN.out.2.2.1;omega),HF1.out]at this;exact this)
     have hq2:q2≤3145728:=by omega
     have HANY:=lH (show ∀ y,rs.any (recEq y)=wasSent m y from fun y=>by rw[HA.out,List.take_of_length_le (by have:=HN.out.2.2.1;omega)];rfl)
     have HV:=lH (show recordsOnce m=(ascGo (wasSent m) TRecord.Id none m.Ground.Records && once acc2 t)by rw[recordsOnce,HF2.out,HN.out.2.2.2.2])
     clear hf HA
     have HO:=lH hown.sl;clear hown
     have HV:=lH (HT.out.symm.trans HV.out)
     go_wp2_with (first|((with_reducible refine wp_region_later (by kernel_rfl) (by kernel_rfl) ?_);(repeat(first|go_big_quiet_step (first|fail)));refine wpQuiet_nil ?_;rintro _ ⟨x,rfl⟩))
     go_loopw [54] (fun v wr=>∃ k:Nat,v=.int .i64 k∧k≤n3∧Hid (ascGo (wasSent m) TRecord.Id (prevOf m.Ground.Records k) (m.Ground.Records.drop k)=ascGo (wasSent m) TRecord.Id none m.Ground.Records)∧∃ x:Later xb.w,wr=x.w) (fun v _=>(n3 - intOf v).toNat)
     case atStart=>exact⟨0,rfl,by omega,rfl,Later.of⟩
     case round =>
      obtain⟨k,rfl,hk,HK,x2,rfl⟩:=hrel
      by_cases h:k<n3
      ·have hkl:k<m.Ground.Records.length:=by have:=HN.out.2.2.2.1;omega
       obtain⟨eb,eoff,es,he,ehb,ehd,eok,eh0,eh1,eh2,eh3⟩:=F6.out.atTRecord hkl
       rw[he]at e6
       (try rw[he])
       have hz9:es.Data.size≤9223372036854775807:=eok.2.2.2.1
       have EOK:=lH eok;clear eok hkl
       cases d1:wasSent m es
       ·have HF:=lH (show T=false by have:=HK.out;rw[ehd.out]at this;rw[HV.out,← this];cases prevOf m.Ground.Records k<;>simp[ascGo,d1])
        clear he
        go_wp2_with (first|((with_reducible refine wp_region_later (by kernel_rfl) (by kernel_rfl) ?_);(repeat(first|go_big_quiet_step (first|fail)|simp only[d1]));refine wpQuiet_nil ?_;rintro _ ⟨x,rfl⟩)|((with_reducible refine wp_region_later (by kernel_rfl) (by kernel_rfl) ?_);(repeat(first|go_big_quiet_step (fail)|((refine quiet_lookupR rfl _ _ rfl (b:=x0.w.heap.size) (rs:=rs) (x:=es) rfl rfl (fun W hW=>(by obtain⟨y,rfl⟩:=hW;exact(HM.out.to inferInstance))) ?_);(rw[HANY.out]);(simp only[d1]);(try simp only[nrm]))|simp only[d1]));refine wpQuiet_nil ?_;rintro _ ⟨x,rfl⟩))
        go_ret
        exact Gives.mk (by rw[HF.out];rfl)
       ·by_cases hz0:k=0
        ·have HF:=lH (show ascGo (wasSent m) TRecord.Id (prevOf m.Ground.Records (k+1)) (m.Ground.Records.drop (k+1))=ascGo (wasSent m) TRecord.Id none m.Ground.Records by have:=HK.out;rw[ehd.out,hz0]at this;rw[prevOf_succ ehd.out,← this];simp[ascGo,prevOf,d1,hz0])
         have hz':decide (0<(k:Int))=false:=by simp;omega
         have hz2:decide (0<k)=false:=by simp;omega
         clear hz0 he
         go_wp2_with (first|((with_reducible refine wp_region_later (by kernel_rfl) (by kernel_rfl) ?_);(repeat(first|go_big_quiet_step (first|fail)|simp only[d1]|simp only[hz']|simp only[hz2]));refine wpQuiet_nil ?_;rintro _ ⟨x,rfl⟩)|((with_reducible refine wp_region_later (by kernel_rfl) (by kernel_rfl) ?_);(repeat(first|go_big_quiet_step (fail)|((refine quiet_lookupR rfl _ _ rfl (b:=x0.w.heap.size) (rs:=rs) (x:=es) rfl rfl (fun W hW=>(by obtain⟨y,rfl⟩:=hW;exact(HM.out.to inferInstance))) ?_);(rw[HANY.out]);(simp only[d1]);(try simp only[nrm]))|simp only[d1]|simp only[hz']|simp only[hz2]));refine wpQuiet_nil ?_;rintro _ ⟨x,rfl⟩))
         go_roundw
         case rel=>exact⟨k+1,by go_num,by omega,HF,Later.of⟩
         case measure=>simp[intOf];omega
        ·obtain⟨fb,foff,fs,hbo,fhb,fhd,fok,fh0,fh1,fh2,fh3⟩:=F6.out.atTRecord (show k - 1<m.Ground.Records.length by have:=HN.out.2.2.2.1;omega)
         rw[he]at hbo
         simp only[Option.some.injEq,Addr.mk.injEq,and_true]at hbo
         obtain⟨rfl,rfl⟩:=hbo
         have FOK:=lH fok;clear fok he
         have hz':decide (0<(k:Int))=true:=by simp;omega
         have hz2:decide (0<k)=true:=by simp;omega
         have hp:prevOf m.Ground.Records k=some fs:=by have:=prevOf_succ fhd.out;rwa[show k - 1+1=k from by omega]at this
         have HP:=lH hp;clear hp
         cases d2:decide (es.Id≤fs.Id)
         ·have HF:=lH (show ascGo (wasSent m) TRecord.Id (prevOf m.Ground.Records (k+1)) (m.Ground.Records.drop (k+1))=ascGo (wasSent m) TRecord.Id none m.Ground.Records by have:=HK.out;rw[ehd.out,HP.out]at this;rw[prevOf_succ ehd.out,← this];have h2:decide (fs.Id<es.Id)=true:=(by simp at d2 ⊢;omega);simp only[ascGo,d1,h2,Bool.true_and])
          go_wp2_with (first|((with_reducible refine wp_region_later (by kernel_rfl) (by kernel_rfl) ?_);(repeat(first|go_big_quiet_step (first|fail)|simp only[d1]|simp only[d2]|simp only[hz']|simp only[hz2]));refine wpQuiet_nil ?_;rintro _ ⟨x,rfl⟩)|((with_reducible refine wp_region_later (by kernel_rfl) (by kernel_rfl) ?_);(repeat(first|go_big_quiet_step (fail)|((refine quiet_lookupR rfl _ _ rfl (b:=x0.w.heap.size) (rs:=rs) (x:=es) rfl rfl (fun W hW=>(by obtain⟨y,rfl⟩:=hW;exact(HM.out.to inferInstance))) ?_);(rw[HANY.out]);(simp only[d1]);(try simp only[nrm]))|simp only[d1]|simp only[d2]|simp only[hz']|simp only[hz2]));refine wpQuiet_nil ?_;rintro _ ⟨x,rfl⟩))
          go_roundw
          case rel=>exact⟨k+1,by go_num,by omega,HF,Later.of⟩
          case measure=>simp[intOf];omega
         ·have HF:=lH (show T=false by have:=HK.out;rw[ehd.out,HP.out]at this;rw[HV.out,← this];have h2:decide (fs.Id<es.Id)=false:=(by simp at d2 ⊢;omega);simp only[ascGo,d1,h2,Bool.true_and,Bool.false_and])
          go_wp2_with (first|((with_reducible refine wp_region_later (by kernel_rfl) (by kernel_rfl) ?_);(repeat(first|go_big_quiet_step (first|fail)|simp only[d1]|simp only[d2]|simp only[hz']|simp only[hz2]));refine wpQuiet_nil ?_;rintro _ ⟨x,rfl⟩)|((with_reducible refine wp_region_later (by kernel_rfl) (by kernel_rfl) ?_);(repeat(first|go_big_quiet_step (fail)|((refine quiet_lookupR rfl _ _ rfl (b:=x0.w.heap.size) (rs:=rs) (x:=es) rfl rfl (fun W hW=>(by obtain⟨y,rfl⟩:=hW;exact(HM.out.to inferInstance))) ?_);(rw[HANY.out]);(simp only[d1]);(try simp only[nrm]))|simp only[d1]|simp only[d2]|simp only[hz']|simp only[hz2]));refine wpQuiet_nil ?_;rintro _ ⟨x,rfl⟩))
          go_ret
          exact Gives.mk (by rw[HF.out];rfl)
      ·have HALL:=lH (show ascGo (wasSent m) TRecord.Id none m.Ground.Records=true by have:=HK.out;rw[List.drop_of_length_le (by have:=HN.out.2.2.2.1;omega)]at this;rw[← this];cases prevOf m.Ground.Records k<;>rfl)
       have HF3:=lH (show T=once acc2 t by rw[HV.out,HALL.out];rfl)
       clear HK HV
       go_wp2_with (first|((with_reducible refine wp_region_later (by kernel_rfl) (by kernel_rfl) ?_);(repeat(first|go_big_quiet_step (first|fail)));refine wpQuiet_nil ?_;rintro _ ⟨x,rfl⟩))
       refine(c_ieachOnce (HO.out.to inferInstance) hacc2 (by omega)).mono ?_
       rintro _ _ ⟨rfl,y9,rfl⟩
       go_wp2_with (first|((with_reducible refine wp_region_later (by kernel_rfl) (by kernel_rfl) ?_);(repeat(first|go_big_quiet_step (first|fail)));refine wpQuiet_nil ?_;rintro _ ⟨x,rfl⟩))
       go_ret
       exact Gives.mk (by rw[HF3.out];rfl)
end Go.Proofs.YtdinhfeflobafaaGreat
