/- NewMission of the reference. No condition but on sizes. -/
import Derived.Test.YtdinhfeflobafaaGreatSM35
import Derived.Test.YtdinhfeflobafaaGreatSPlanS
namespace Go.Proofs.YtdinhfeflobafaaGreat
set_option linter.unusedVariables false
open Go.ChangeShapes Go.WideShapes Go.ChangeAt Go.RowKit
set_option pp.deepTerms true in
set_option maxRecDepth 100000 in
set_option maxHeartbeats 16000000 in
theorem o_sNewMission{light:Int}{d:TDrift}{o:TOrbit}{up down:TChannel}{room:Int}{qa la fa:Option Addr}{qn qc ln lc fn fc Bl Bf:Nat}{Q:List Request}{L:List TLimit}{fs:List ByteArray}{w:World}
  (hq:Sl encRequest w qa Q) (hqn:Q.length=qn) (hqc:qn≤qc) (hqm:qn≤1048576) (hl:RdS Bl w la lc L) (hln:L.length=ln) (hlm:ln≤1048576) (hf:RdS Bf w fa fc fs) (hfn:fs.length=fn) (hfm:fn≤1048576)
  (hok:okDTMission (newM light d o (planAll o.Period o.Start o.Length Q) up down room L fs)) (hpl:∀ x∈planAll o.Period o.Start o.Length Q,okDSlot x) (hpn:(planAll o.Period o.Start o.Length Q).length≤1048576) (ht:Enc.tot (newM light d o (planAll o.Period o.Start o.Length Q) up down room L fs)≤100000000) :
  Calls Tryz.prog 201 #[.int .i64 light,.agg #[.int .i64 d.Rate,.int .i64 d.Offset],.agg #[.int .i64 o.Period,.int .i64 o.Start,.int .i64 o.Length],.slice qa qn qc,.agg #[.int .i64 up.Seed,.int .i64 up.Burst,.int .i64 up.Loss],.agg #[.int .i64 down.Seed,.int .i64 down.Burst,.int .i64 down.Loss],.int .i64 room,.slice la ln lc,.slice fa fn fc] w
   (GivesOB w (newMission light d o (planAll o.Period o.Start o.Length Q) up down room L fs) (newOk light d o (planAll o.Period o.Start o.Length Q) up down room L fs)):=by
 obtain⟨pl,hpl0⟩:∃ pl,planAll o.Period o.Start o.Length Q=pl:=⟨_,rfl⟩
 rw[hpl0]at hok hpl hpn ht ⊢
 have HP0:=lH hpl0;have HPL:=lH hpl;have HOKM:=lH hok;have HTT:=lH ht;have HQ:=lH hq;have HLI:=lH hl;have HFI:=lH hf;have HPN:=lH hpn;have HQN:=lH hqn;have HLN:=lH hln;have HFN:=lH hfn
 have HRi:=lH (show i64 room from hok.2.2.2.2.2.2.2.1.2.1.2.1.1)
 have hLg:=lH (show ∀ x∈L,okDTLimit x from hl.goods)
 clear hpl0 hpl hok ht hq hl hf hpn hqn hln hfn
 have HD:=lH (Held.new w [.int .i64 d.Rate,.int .i64 d.Offset] 62 w.heap.size rfl)
 have HO:=lH (Held.new (w.alloc (.cells #[.int .i64 d.Rate,.int .i64 d.Offset] 62)) [.int .i64 o.Period,.int .i64 o.Start,.int .i64 o.Length] 63 (w.heap.size+1) (by simp))
 have HU:=lH (Held.new ((w.alloc (.cells #[.int .i64 d.Rate,.int .i64 d.Offset] 62)).alloc (.cells #[.int .i64 o.Period,.int .i64 o.Start,.int .i64 o.Length] 63)) [.int .i64 up.Seed,.int .i64 up.Burst,.int .i64 up.Loss] 65 (w.heap.size+2) (by simp))
 have HN:=lH (Held.new (((w.alloc (.cells #[.int .i64 d.Rate,.int .i64 d.Offset] 62)).alloc (.cells #[.int .i64 o.Period,.int .i64 o.Start,.int .i64 o.Length] 63)).alloc (.cells #[.int .i64 up.Seed,.int .i64 up.Burst,.int .i64 up.Loss] 65)) [.int .i64 down.Seed,.int .i64 down.Burst,.int .i64 down.Loss] 65 (w.heap.size+3) (by simp))
 have HR:=lH (Held.new ((((w.alloc (.cells #[.int .i64 d.Rate,.int .i64 d.Offset] 62)).alloc (.cells #[.int .i64 o.Period,.int .i64 o.Start,.int .i64 o.Length] 63)).alloc (.cells #[.int .i64 up.Seed,.int .i64 up.Burst,.int .i64 up.Loss] 65)).alloc (.cells #[.int .i64 down.Seed,.int .i64 down.Burst,.int .i64 down.Loss] 65)) nmZ 90 (w.heap.size+4) (by simp))
 go_enter Tryz.func201,Tryz.ntmps201
 go_wp2_with (first|((with_reducible refine wp_region_later (by kernel_rfl) (by kernel_rfl) ?_);(repeat(first|go_big_quiet_step (first|fail)));refine wpQuiet_nil ?_;rintro _ ⟨x,rfl⟩))
 obtain⟨W2,hW2⟩:∃ W:World,(((((w.alloc (.cells #[.int .i64 d.Rate,.int .i64 d.Offset] 62)).alloc (.cells #[.int .i64 o.Period,.int .i64 o.Start,.int .i64 o.Length] 63)).alloc (.cells #[.int .i64 up.Seed,.int .i64 up.Burst,.int .i64 up.Loss] 65)).alloc (.cells #[.int .i64 down.Seed,.int .i64 down.Burst,.int .i64 down.Loss] 65)).alloc (.cells nmZ.toArray 90))=W:=⟨_,rfl⟩
 have HDy:=lH (hW2▸HD.out.to (inferInstance:Grows _ (((((w.alloc (.cells #[.int .i64 d.Rate,.int .i64 d.Offset] 62)).alloc (.cells #[.int .i64 o.Period,.int .i64 o.Start,.int .i64 o.Length] 63)).alloc (.cells #[.int .i64 up.Seed,.int .i64 up.Burst,.int .i64 up.Loss] 65)).alloc (.cells #[.int .i64 down.Seed,.int .i64 down.Burst,.int .i64 down.Loss] 65)).alloc (.cells nmZ.toArray 90))))
 have HOy:=lH (hW2▸HO.out.to (inferInstance:Grows _ (((((w.alloc (.cells #[.int .i64 d.Rate,.int .i64 d.Offset] 62)).alloc (.cells #[.int .i64 o.Period,.int .i64 o.Start,.int .i64 o.Length] 63)).alloc (.cells #[.int .i64 up.Seed,.int .i64 up.Burst,.int .i64 up.Loss] 65)).alloc (.cells #[.int .i64 down.Seed,.int .i64 down.Burst,.int .i64 down.Loss] 65)).alloc (.cells nmZ.toArray 90))))
 have HUy:=lH (hW2▸HU.out.to (inferInstance:Grows _ (((((w.alloc (.cells #[.int .i64 d.Rate,.int .i64 d.Offset] 62)).alloc (.cells #[.int .i64 o.Period,.int .i64 o.Start,.int .i64 o.Length] 63)).alloc (.cells #[.int .i64 up.Seed,.int .i64 up.Burst,.int .i64 up.Loss] 65)).alloc (.cells #[.int .i64 down.Seed,.int .i64 down.Burst,.int .i64 down.Loss] 65)).alloc (.cells nmZ.toArray 90))))
 have HNy:=lH (hW2▸HN.out.to (inferInstance:Grows _ (((((w.alloc (.cells #[.int .i64 d.Rate,.int .i64 d.Offset] 62)).alloc (.cells #[.int .i64 o.Period,.int .i64 o.Start,.int .i64 o.Length] 63)).alloc (.cells #[.int .i64 up.Seed,.int .i64 up.Burst,.int .i64 up.Loss] 65)).alloc (.cells #[.int .i64 down.Seed,.int .i64 down.Burst,.int .i64 down.Loss] 65)).alloc (.cells nmZ.toArray 90))))
 have HRy:Hid (Held W2 (w.heap.size+4) nmZ 90):=hW2▸HR
 have gW0:Grows w W2:=hW2▸(inferInstance:Grows w (((((w.alloc (.cells #[.int .i64 d.Rate,.int .i64 d.Offset] 62)).alloc (.cells #[.int .i64 o.Period,.int .i64 o.Start,.int .i64 o.Length] 63)).alloc (.cells #[.int .i64 up.Seed,.int .i64 up.Burst,.int .i64 up.Loss] 65)).alloc (.cells #[.int .i64 down.Seed,.int .i64 down.Burst,.int .i64 down.Loss] 65)).alloc (.cells nmZ.toArray 90)))
 rw[hW2];clear HD HO HU HN HR hW2
 have gB:LeN (w.heap.size+5) W2.heap.size:=⟨HRy.out.lt⟩
 refine wp_region_stabW (by kernel_rfl) (T:=[10]) (H:=[(1,[]),(2,[]),(3,[]),(5,[]),(6,[]),(7,[]),(8,[5]),(9,[])]) (C:=[5,9]) (Fs:=[(some 24,.v (.int .i64 light)),(some 25,.v (.agg #[.int .i64 d.Rate,.int .i64 d.Offset])),(some 26,.v (.agg #[.int .i64 o.Period,.int .i64 o.Start,.int .i64 o.Length])),(some 27,.v (.agg #[.int .i64 o.Period,.int .i64 o.Start,.int .i64 o.Length])),(some 28,.v (.slice qa qn qc)),(some 29,.of (fun v w'=>∃ a1 c1,v=.slice a1 pl.length c1∧Own encSlot 201 2 W2.heap.size w' a1 c1 pl) (fun _ _ _ g ⟨a1,c1,e,h⟩=>⟨a1,c1,e,h.to ⟨g⟩⟩)),(some 30,.v (.agg #[.int .i64 up.Seed,.int .i64 up.Burst,.int .i64 up.Loss])),(some 31,.v (.agg #[.int .i64 down.Seed,.int .i64 down.Burst,.int .i64 down.Loss])),(some 32,.fn [5] (nmOf light d o up down)),(some 20,.box W2.heap.size nmZ 90),(none,.v undef)]) (by kernel_rfl) (fun val W=>by kernel_rfl) ?ob ?tail
 case ob =>
  refine⟨fun x=>?_,fun x=>?_,fun x=>?_,fun x=>?_,fun x=>?_,fun x=>?_,fun x=>?_,fun x=>?_,trivial⟩
  ·exact g_row (o:=0) (HDy.out.to inferInstance) rfl (by kernel_rfl) _ Tryz.underlying62 rfl (by kernel_rfl) rfl
  ·exact g_row (o:=0) (HOy.out.to inferInstance) rfl (by kernel_rfl) _ Tryz.underlying63 rfl (by kernel_rfl) rfl
  ·exact g_row (o:=0) (HOy.out.to inferInstance) rfl (by kernel_rfl) _ Tryz.underlying63 rfl (by kernel_rfl) rfl
  ·refine g_call (f:=290) (args:=[.agg #[.int .i64 o.Period,.int .i64 o.Start,.int .i64 o.Length],.slice qa qn qc]) Tryz.func290 (by kernel_rfl) (by kernel_rfl) ((c_sPlanPasses (HQ.out.to inferInstance) HQN.out hqm).mono ?_)
   rintro _ _ ⟨a1,c1,rfl,ho,y5,rfl⟩
   rw[HP0.out]at ho ⊢
   exact⟨_,rfl,⟨y5,rfl⟩,a1,c1,rfl,ho.mono LeN.out⟩
  ·exact g_row (o:=0) (HUy.out.to inferInstance) rfl (by kernel_rfl) _ Tryz.underlying65 rfl (by kernel_rfl) rfl
  ·exact g_row (o:=0) (HNy.out.to inferInstance) rfl (by kernel_rfl) _ Tryz.underlying65 rfl (by kernel_rfl) rfl
  ·rintro _ ⟨a1,c1,rfl,h⟩
   exact g_fn rfl (by kernel_rfl)
  ·exact g_box rfl (by kernel_rfl) LeN.out
 rintro x _ ⟨a0,c0,rfl,hPl⟩ _ ⟨bm,rfl,hbm,hBm⟩
 have HPl:=lH hPl;have HBm:=lH hBm;clear hPl hBm
 apply tail1
 ·rfl
 simp only[put_nrm,put_nrm2,List.map]
 simp only[Act.put,List.setIfInBounds_toArray,List.set_cons_succ,List.set_cons_zero,if_true,if_false,Nat.reduceEqDiff]
 go_wp2_with (first|((with_reducible refine wp_region_later (by kernel_rfl) (by kernel_rfl) ?_);(repeat(first|go_big_quiet_step (first|fail)));refine wpQuiet_nil ?_;rintro _ ⟨x,rfl⟩)|(refine stepStore2 rfl _ _ _ rfl (bm) 0 rfl (us:=(nmC light d o up down { a0:=a0,n0:=pl.length,c0:=c0 })) (cs2:=(nmC light d o up down { a0:=a0,n0:=pl.length,c0:=c0 })) (HBm.out.to inferInstance) rfl (by kernel_rfl) (by kernel_rfl) (Nat.le_of_ble_eq_true rfl) (by kernel_rfl) (w0:=W2) inferInstance (hbm) ?_;intro z3 hx kx;(have HX3:=lH hx);have hgr:=kx.grown1 inferInstance;(have HPl3:=lH (own_step HPl.out HBm.out (by decide) hgr));clear hx kx hgr))
 refine(c_sNewBoard (room:=room) (Sl.to HLI.out.slF inferInstance) HLI.out.nilcap HLN.out hlm hLg.out HRi.out).mono ?_
 rintro _ _ ⟨pa,la1,lc1,rfl,hP,hLm,y,rfl⟩
 have gy:Grows z3.w y.w:=inferInstance
 obtain⟨Y,hY⟩:=Later.of (w:=W2) (W:=y.w)
 rw[hY]at hP hLm gy ⊢
 have HPaY:=lH (hP.mono (B':=w.heap.size+5) LeN.out);have HLaY:=lH (hLm.mono (B':=w.heap.size+5) LeN.out)
 have HXY:=lH (HX3.out.to gy);have HPlY:=lH (HPl3.out.to gy)
 clear hP hLm hY HX3 HPl3
 rw[HLN.out]
 cases hb:boardOk (newBoard room L)
 ·have HG:=lH (show newOk light d o pl up down room L fs=false by rw[newOk,hb];rfl);clear hb
  rw[if_neg (by decide)]
  go_wp2_with (first|((with_reducible refine wp_region_later (by kernel_rfl) (by kernel_rfl) ?_);(repeat(first|go_big_quiet_step (first|fail)));refine wpQuiet_nil ?_;rintro _ ⟨x,rfl⟩)|(refine stepStore2 rfl _ _ _ rfl (Y.w.heap.size) 0 rfl (us:=nbZ) (cs2:=nbZ) (Held.new _ nbZ 84 _ rfl) rfl (by kernel_rfl) (by kernel_rfl) (Nat.le_of_ble_eq_true rfl) (by kernel_rfl) (w0:=Y.w) inferInstance (Nat.le_refl _) ?_;intro z1 hx kx;clear hx kx)|(refine stepStore2 rfl _ _ _ rfl (w.heap.size+4) 0 rfl (us:=nmZ) (cs2:=nmZ) (HRy.out.to inferInstance) rfl (by kernel_rfl) (by kernel_rfl) (Nat.le_of_ble_eq_true rfl) (by kernel_rfl) (w0:=w) inferInstance (by simp) ?_;intro zr hx kx;(have HXf:=lH hx);clear hx kx))
  refine bodyPost_ret (v:=.tuple #[.agg nmZ.toArray,.bool false]) (results_cell2 (P:=Tryz.prog) rfl rfl HXf.out _ Tryz.underlying90 rfl (by kernel_rfl) rfl) rfl ⟨nmZ,fun _=>(0,0),by rw[HG.out],?_,Later.of⟩
  rw[newMission,if_neg (by rw[HG.out];decide)]
  exact zeroM_own
 rw[if_pos rfl]
 by_cases h8:¬ fn=8
 ·have k8:¬ (fn:Int)=8:=by omega
  have HG:=lH (show newOk light d o pl up down room L fs=false by rw[newOk,HFN.out];simp[h8])
  go_wp2_with (first|((with_reducible refine wp_region_later (by kernel_rfl) (by kernel_rfl) ?_);(repeat(first|go_big_quiet_step (first|fail)));refine wpQuiet_nil ?_;rintro _ ⟨x,rfl⟩)|(refine stepStore2 rfl _ _ _ rfl (Y.w.heap.size) 0 rfl (us:=(nbC 0 room pa la1 ln lc1)) (cs2:=(nbC 0 room pa la1 ln lc1)) (Held.new _ nbZ 84 _ rfl) rfl (by kernel_rfl) (by kernel_rfl) (Nat.le_of_ble_eq_true rfl) (by kernel_rfl) (w0:=Y.w) inferInstance (Nat.le_refl _) ?_;intro z1 hx kx;clear hx kx)|(refine stepStore2 rfl _ _ _ rfl (w.heap.size+4) 0 rfl (us:=nmZ) (cs2:=nmZ) (HRy.out.to inferInstance) rfl (by kernel_rfl) (by kernel_rfl) (Nat.le_of_ble_eq_true rfl) (by kernel_rfl) (w0:=w) inferInstance (by simp) ?_;intro zr hx kx;(have HXf:=lH hx);clear hx kx))
  refine bodyPost_ret (v:=.tuple #[.agg nmZ.toArray,.bool false]) (results_cell2 (P:=Tryz.prog) rfl rfl HXf.out _ Tryz.underlying90 rfl (by kernel_rfl) rfl) rfl ⟨nmZ,fun _=>(0,0),by rw[HG.out],?_,Later.of⟩
  rw[newMission,if_neg (by rw[HG.out];decide)]
  exact zeroM_own
 obtain rfl:fn=8:=by omega
 clear h8
 have hmk:∀ w:World,(Instr.makeSlice 41 (.int .i64 8) (.int .i64 8)).run Tryz.prog w=.ok (.slice (some ⟨w.heap.size,0,none⟩) 8 8) (w.alloc (.cells (Array.replicate 8 (.bool false)) 4)):=fun w=>by kernel_rfl
 go_wp2_with (first|((with_reducible refine wp_region_later (by kernel_rfl) (by kernel_rfl) ?_);(repeat(first|go_big_quiet_step (first|(go_at_call 20;exact Gives.quiet (c_sBoardTime))|(go_at_call 292;exact Gives.quiet (c_sNewSender5))|(go_at_call 293;exact Gives.quiet (c_sNewUnpacker)))));refine wpQuiet_nil ?_;rintro _ ⟨x,rfl⟩)|(go_at_call 20;refine(c_sBoardTime).mono ?_;rintro _ _ ⟨rfl,x,rfl⟩)|(go_at_call 292;refine(c_sNewSender5).mono ?_;rintro _ _ ⟨rfl,x,rfl⟩)|(go_at_call 293;refine(c_sNewUnpacker).mono ?_;rintro _ _ ⟨rfl,x,rfl⟩)|(refine stepLoad rfl _ _ rfl (w.heap.size) 0 rfl (row:=[.int .i64 d.Rate,.int .i64 d.Offset]) (HDy.out.to inferInstance) _ Tryz.underlying62 rfl (by kernel_rfl) rfl ?_)|(refine stepStore2 rfl _ _ _ rfl (Y.w.heap.size) 0 rfl (us:=(nbC 0 room pa la1 ln lc1)) (cs2:=(nbC 0 room pa la1 ln lc1)) (Held.new _ nbZ 84 _ rfl) rfl (by kernel_rfl) (by kernel_rfl) (Nat.le_of_ble_eq_true rfl) (by kernel_rfl) (w0:=W2) inferInstance (Y.size_le) ?_;intro z4 hx kx;(have HB4:=lH hx);have g4:Grows Y.w z4.w:=grows_new kx rfl (inferInstance:Grows W2 Y.w);(have HX4:=lH (HXY.out.to g4));(have HPl4:=lH (HPlY.out.to g4));(have HPa4:=lH (HPaY.out.to g4));(have HLa4:=lH (HLaY.out.to g4));clear hx kx g4)|(refine stepStore2 rfl _ _ _ rfl (Y.w.heap.size) 0 rfl (us:=[.int .i64 (boardTime d.Rate d.Offset 0)]) (cs2:=(nbC (boardTime d.Rate d.Offset 0) room pa la1 ln lc1)) (HB4.out.to inferInstance) rfl (by kernel_rfl) (by kernel_rfl) (Nat.le_of_ble_eq_true rfl) (by kernel_rfl) (w0:=W2) inferInstance (Y.size_le) ?_;intro z5 hx kx;(have HB5:=lH hx);have hgr:=kx.grown1 inferInstance;(have HX5:=lH (held_step HX4.out HB4.out (by decide) hgr));(have HPl5:=lH (own_step HPl4.out HB4.out (by decide) hgr));(have HPa5:=lH (own_step HPa4.out HB4.out (by decide) hgr));(have HLa5:=lH (own_step HLa4.out HB4.out (by decide) hgr));clear hx kx hgr HB4)|(refine stepStore2 rfl _ _ _ rfl (bm) 37 rfl (us:=(nbC (boardTime d.Rate d.Offset 0) room pa la1 ln lc1)) (cs2:=(nmC light d o up down { a0:=a0,n0:=pl.length,c0:=c0,ck:=boardTime d.Rate d.Offset 0,room:=room,a9:=pa,n9:=8,c9:=8,a10:=la1,n10:=ln,c10:=lc1 })) (HX5.out.to inferInstance) rfl (by kernel_rfl) (by kernel_rfl) (Nat.le_of_ble_eq_true rfl) (by kernel_rfl) (w0:=W2) inferInstance (hbm) ?_;intro z6 hx kx;(have HX6:=lH hx);have hgr:=kx.grown1 inferInstance;(have HPl6:=lH (own_step HPl5.out HX5.out (by decide) hgr));(have HPa6:=lH (own_step HPa5.out HX5.out (by decide) hgr));(have HLa6:=lH (own_step HLa5.out HX5.out (by decide) hgr));clear hx kx hgr)|(at_builtin;refine wpList_appS (enc:=encStr) (w0:=W2) (z:=.string ⟨#[]⟩) (size:=1) (bytes:=16) (n:=0) (l:=[]) rfl (.tmp 53) (.tmp 54) rfl Tryz.underlying30 (by kernel_rfl) rfl (by decide) (by decide) rfl rfl HFI.out.nilcap rfl HFN.out (Own.emptyAt encStr_len LeN.out rfl) (HFI.out.slF.to inferInstance) encStr_one (by omega) ?_;intro a17 c17 x7 hown7 hgr7;rw[List.nil_append]at hown7;(have HFs7:=lH hown7);(have g7:=grows_apE hgr7 rfl);(have HX7:=lH (HX6.out.to g7));(have HPl7:=lH (HPl6.out.to g7));(have HPa7:=lH (HPa6.out.to g7));(have HLa7:=lH (HLa6.out.to g7));clear hown7 hgr7 g7)|(refine stepStore2 rfl _ _ _ rfl (bm) 54 rfl (us:=[.slice a17 8 c17]) (cs2:=(nmC light d o up down { a0:=a0,n0:=pl.length,c0:=c0,ck:=boardTime d.Rate d.Offset 0,room:=room,a9:=pa,n9:=8,c9:=8,a10:=la1,n10:=ln,c10:=lc1,a17:=a17,n17:=8,c17:=c17 })) (HX7.out.to inferInstance) rfl (by kernel_rfl) (by kernel_rfl) (Nat.le_of_ble_eq_true rfl) (by kernel_rfl) (w0:=W2) inferInstance (hbm) ?_;intro z8 hx kx;(have HX8:=lH hx);have hgr:=kx.grown1 inferInstance;(have HPl8:=lH (own_step HPl7.out HX7.out (by decide) hgr));(have HPa8:=lH (own_step HPa7.out HX7.out (by decide) hgr));(have HLa8:=lH (own_step HLa7.out HX7.out (by decide) hgr));(have HFs8:=lH (own_step HFs7.out HX7.out (by decide) hgr));clear hx kx hgr)|(refine stepStore2 rfl _ _ _ rfl (bm) 17 rfl (us:=[.int .i64 0,.int .i64 5,.slice none 0 0,.int .i64 0]) (cs2:=(nmC light d o up down { a0:=a0,n0:=pl.length,c0:=c0,ck:=boardTime d.Rate d.Offset 0,room:=room,a9:=pa,n9:=8,c9:=8,a10:=la1,n10:=ln,c10:=lc1,a17:=a17,n17:=8,c17:=c17,w5:=5 })) (HX8.out.to inferInstance) rfl (by kernel_rfl) (by kernel_rfl) (Nat.le_of_ble_eq_true rfl) (by kernel_rfl) (w0:=W2) inferInstance (hbm) ?_;intro z9 hx kx;(have HX9:=lH hx);have hgr:=kx.grown1 inferInstance;(have HPl9:=lH (own_step HPl8.out HX8.out (by decide) hgr));(have HPa9:=lH (own_step HPa8.out HX8.out (by decide) hgr));(have HLa9:=lH (own_step HLa8.out HX8.out (by decide) hgr));(have HFs9:=lH (own_step HFs8.out HX8.out (by decide) hgr));clear hx kx hgr)|(refine stepStore2 rfl _ _ _ rfl (bm) 24 rfl (us:=[.int .i64 0,.int .i64 (-1),.bool false,.string ⟨#[]⟩,.int .i64 0]) (cs2:=(nmC light d o up down { a0:=a0,n0:=pl.length,c0:=c0,ck:=boardTime d.Rate d.Offset 0,room:=room,a9:=pa,n9:=8,c9:=8,a10:=la1,n10:=ln,c10:=lc1,a17:=a17,n17:=8,c17:=c17,w5:=5,nx:=-1 })) (HX9.out.to inferInstance) rfl (by kernel_rfl) (by kernel_rfl) (Nat.le_of_ble_eq_true rfl) (by kernel_rfl) (w0:=W2) inferInstance (hbm) ?_;intro z10 hx kx;(have HX10:=lH hx);have hgr:=kx.grown1 inferInstance;(have HPl10:=lH (own_step HPl9.out HX9.out (by decide) hgr));(have HPa10:=lH (own_step HPa9.out HX9.out (by decide) hgr));(have HLa10:=lH (own_step HLa9.out HX9.out (by decide) hgr));(have HFs10:=lH (own_step HFs9.out HX9.out (by decide) hgr));clear hx kx hgr)|(refine stepStore2 rfl _ _ _ rfl (bm) 32 rfl (us:=[.slice (some ⟨z10.w.heap.size,0,none⟩) 8 8]) (cs2:=(nmC light d o up down { a0:=a0,n0:=pl.length,c0:=c0,ck:=boardTime d.Rate d.Offset 0,room:=room,a9:=pa,n9:=8,c9:=8,a10:=la1,n10:=ln,c10:=lc1,a17:=a17,n17:=8,c17:=c17,w5:=5,nx:=-1,a8:=some ⟨z10.w.heap.size,0,none⟩,n8:=8,c8:=8 })) (HX10.out.to inferInstance) rfl (by kernel_rfl) (by kernel_rfl) (Nat.le_of_ble_eq_true rfl) (by kernel_rfl) (w0:=W2) inferInstance (hbm) ?_;intro z11 hx kx;(have HX11:=lH hx);have hgr:=kx.grown1 inferInstance;(have HPl11:=lH (own_step HPl10.out HX10.out (by decide) hgr));(have HPa11:=lH (own_step HPa10.out HX10.out (by decide) hgr));(have HLa11:=lH (own_step HLa10.out HX10.out (by decide) hgr));(have HFs11:=lH (own_step HFs10.out HX10.out (by decide) hgr));(have HTo11:=lH (own_step (show Own encBoo 4 1 (w.heap.size+5) (z10.w.alloc (.cells (Array.replicate 8 (.bool false)) 4)) (some ⟨z10.w.heap.size,0,none⟩) 8 (List.replicate 8 false)from own_block (enc:=encBoo) (T:=4) (size:=1) (n:=8) (B:=w.heap.size+5) (W:=z10.w) (D:=Array.replicate 8 (.bool false)) (l:=List.replicate 8 false) encBoo_len (by simp) (by omega) LeN.out (by simp) (by kernel_rfl) (Later.here _)) ((Held.to HX10.out (inferInstance:Grows _ (z10.w.alloc (.cells (Array.replicate 8 (.bool false)) 4))))) (by decide) hgr));clear hx kx hgr)|(refine stepLoad rfl _ _ rfl (Y.w.heap.size) 0 rfl (row:=(nbC (boardTime d.Rate d.Offset 0) room pa la1 ln lc1)) (HB5.out.to inferInstance) _ Tryz.underlying84 rfl (by kernel_rfl) rfl ?_))
 obtain⟨ta,hta⟩:∃ ta:Option Addr,some ⟨z10.w.heap.size,0,none⟩=ta:=⟨_,rfl⟩
 rw[hta]at HX11 HTo11
 clear hta
 have H17:=lH (show ∀ q,blkOf a17=some q→q<z11.w.heap.size from fun q hq=>(HFs11.out.blk q hq).2)
 have HN0:=lH (show NF (w.heap.size+5) z11.w.heap.size bm z11.w pl fs L (nmC light d o up down { a0:=a0,n0:=pl.length,c0:=c0,ck:=boardTime d.Rate d.Offset 0,room:=room,a9:=pa,n9:=8,c9:=8,a10:=la1,n10:=ln,c10:=lc1,a17:=a17,n17:=8,c17:=c17,w5:=5,nx:=-1,a8:=ta,n8:=8,c8:=8 }) { a0:=a0,c0:=c0,a8:=ta,c8:=8,a9:=pa,c9:=8,a10:=la1,c10:=lc1,a17:=a17,c17:=c17,a7:=none,c7:=0,a18:=none,c18:=0 } (fun _=>(0,0)) (fun _=>(0,0)) [] []from⟨HX11.out,HPl11.out.mono LeN.out,HTo11.out,HFs11.out.mono LeN.out,HPa11.out,HLa11.out,OwnN.nil,OwnN.nil⟩)
 have Hbm:=lH HX11.out.lt;clear HX11 HPl11 HTo11 HFs11
 go_loopw [23] (fun v wr=>∃ (k:Nat) (z:Later W2) (a7 a18:Option Addr) (c7 c18:Nat) (χ1 χ2:Nat→Col) (rows:List (NRow TFileIn)) (rows2:List (NRow TFileOut)),v=.int .i64 k∧wr=z.w∧k≤8∧z11.w.heap.size≤z.w.heap.size∧Hid (NF (w.heap.size+5) z11.w.heap.size bm z.w pl fs L (nmC light d o up down { a0:=a0,n0:=pl.length,c0:=c0,ck:=boardTime d.Rate d.Offset 0,room:=room,a9:=pa,n9:=8,c9:=8,a10:=la1,n10:=ln,c10:=lc1,a17:=a17,n17:=8,c17:=c17,w5:=5,nx:=-1,a8:=ta,n8:=8,c8:=8,a7:=a7,n7:=k,c7:=c7,a18:=a18,n18:=k,c18:=c18 }) { a0:=a0,c0:=c0,a8:=ta,c8:=8,a9:=pa,c9:=8,a10:=la1,c10:=lc1,a17:=a17,c17:=c17,a7:=a7,c7:=c7,a18:=a18,c18:=c18 } χ1 χ2 rows rows2)∧Hid (rows.map (·.x)=insOf 0 (fs.take k))∧Hid (rows2.map (·.x)=outsOf 0 (fs.take k))∧Hid (∀ r∈rows2,r.a=none)) (fun v _=>(8 - intOf v).toNat)
 case atStart=>exact⟨0,z11,none,none,0,0,_,_,[],[],rfl,rfl,by omega,Nat.le_refl _,HN0,rfl,rfl,fun r hr=>by cases hr⟩
 case round =>
  obtain⟨k,z,a7,a18,c7,c18,χ1,χ2,rows,rows2,rfl,rfl,hk,hU,hNF,hr1,hr2,hr3⟩:=hrel
  have hl1:rows.length=k:=by have:=congrArg List.length hr1.out;simp[insOf_len,HFN.out]at this;omega
  have hl2:rows2.length=k:=by have:=congrArg List.length hr2.out;simp[outsOf_len,HFN.out]at this;omega
  by_cases h:k<8
  ·obtain⟨b,off,sk,rfl,hb,hd,h10⟩:=Sl.str (show Sl encStr w fa fs from HFI.out.slF) (k:=k) (by rw[HFN.out];exact h)
   have hsk:=lH (show sk.size≤9223372036854775807 from HFI.out.goods sk (by have:=hd.out;exact List.mem_of_mem_drop (this▸List.mem_cons_self)))
   go_wp2_with (first|((with_reducible refine wp_region_later (by kernel_rfl) (by kernel_rfl) ?_);(repeat(first|go_big_quiet_step (first|fail)));refine wpQuiet_nil ?_;rintro _ ⟨x,rfl⟩))
   refine wp_region_stabW (by kernel_rfl) (T:=[6,7,8,9]) (H:=[(2,[]),(4,[]),(5,[4])]) (C:=[4,5]) (Fs:=[(some 74,.v (.pointer (some ⟨bm,16,none⟩))),(some 75,.v (.pointer (some ⟨bm,31,none⟩))),(some 76,.v (.slice a7 k c7)),(some 77,.v (.int .i64 k)),(some 78,.of (fun v w'=>∃ a1,v=.agg #[.int .i64 k,.int .i64 (-1),.int .i64 (-1),.slice a1 25 25]∧Own encStr 9 1 z.w.heap.size w' a1 25 (List.replicate 25 ⟨#[]⟩)) (fun _ _ _ g ⟨a1,e,h⟩=>⟨a1,e,h.to ⟨g⟩⟩)),(some 79,.of (fun v w'=>∃ b a1,v=.slice (some ⟨b,0,none⟩) 1 1∧Held w' b [.int .i64 k,.int .i64 (-1),.int .i64 (-1),.slice a1 25 25] 172∧Own encStr 9 1 z.w.heap.size w' a1 25 (List.replicate 25 ⟨#[]⟩)) (fun _ _ _ g ⟨b,a1,e,h0,h⟩=>⟨b,a1,e,h0.to ⟨g⟩,h.to ⟨g⟩⟩)),(none,.v undef),(none,.v undef),(none,.v undef),(none,.v undef)]) (by kernel_rfl) (fun val W=>by kernel_rfl) ?ob2 ?tail2
   case ob2 =>
    refine⟨fun x=>?_,fun x=>?_,fun x=>?_,trivial⟩
    ·exact g_one (o:=31) (v:=.slice a7 k c7) (hNF.out.box.to (inferInstance:Grows _ x.w)) rfl (by kernel_rfl) rfl _ Tryz.underlying74 rfl
    ·refine g_call (f:=294) (args:=[.int .i64 k]) Tryz.func294 (by kernel_rfl) (by kernel_rfl) ((c_sNewFileInK).mono ?_)
     rintro _ _ ⟨a1,rfl,ho,y5,rfl⟩
     exact⟨_,rfl,⟨y5,rfl⟩,a1,rfl,ho.mono LeN.out⟩
    ·rintro _ ⟨a1,rfl,ho⟩
     exact gives_run (v:=.slice (some ⟨x.w.heap.size,0,none⟩) 1 1) (w':=x.w.alloc (.cells #[.int .i64 k,.int .i64 (-1),.int .i64 (-1),.slice a1 25 25] 172)) (by kernel_rfl) ⟨Later.of,⟨x.w.heap.size,a1,rfl,Held.new _ [.int .i64 k,.int .i64 (-1),.int .i64 (-1),.slice a1 25 25] _ _ rfl,ho.to inferInstance⟩⟩
   case tail2 =>
    rintro x _ ⟨a2,rfl,-⟩ _ ⟨b1,a1,rfl,hB1,hO1⟩
    have gx:Grows z.w x.w:=inferInstance
    obtain⟨X,hX⟩:=Later.of (w:=W2) (W:=x.w)
    rw[hX]at hB1 hO1 gx ⊢
    have HB1:=lH hB1;have HO1:=lH hO1;clear hB1 hO1 hX
    have hXU:z11.w.heap.size≤X.w.heap.size:=Nat.le_trans hU gx.out.size
    apply tail4
    ·rfl
    ·rfl
    ·rfl
    ·rfl
    simp only[put_nrm,put_nrm2]
    simp only[Act.put,List.setIfInBounds_toArray,List.set_cons_succ,List.set_cons_zero]
    refine wpList_app1F (enc:=encN (α:=TFileIn)) (w0:=W2) (B:=z11.w.heap.size) (z:=.agg #[.int .i64 0,.int .i64 0,.int .i64 0,.slice none 0 0]) (size:=4) (bytes:=48) ⟨fileIn0 k,a1,25⟩ rfl (.tmp 76) (.tmp 79) rfl Tryz.underlying74 (by kernel_rfl) rfl (by decide) (by decide) rfl rfl hl1 (Own.to hNF.out.ins.own gx) HB1.out rfl (encN_one _) (by omega) hXU inferInstance LeN.out ?_
    intro sa1 sc1 x1 O1 g1 b1;obtain⟨χ3,hN2⟩:=hNF.out.addIn gx hU (by omega) HO1.out O1 g1 b1;have HN2:=lH hN2;have hU1:=Nat.le_trans hXU g1.size;clear O1 g1 b1 hN2
    go_wp2_with (first|((with_reducible refine wp_region_later (by kernel_rfl) (by kernel_rfl) ?_);(repeat(first|go_big_quiet_step (first|fail)));refine wpQuiet_nil ?_;rintro _ ⟨x,rfl⟩)|(refine stepStore2 rfl _ _ _ rfl (bm) 31 rfl (us:=[.slice sa1 (k+1) sc1]) (cs2:=(nmC light d o up down { a0:=a0,n0:=pl.length,c0:=c0,ck:=boardTime d.Rate d.Offset 0,room:=room,a9:=pa,n9:=8,c9:=8,a10:=la1,n10:=ln,c10:=lc1,a17:=a17,n17:=8,c17:=c17,w5:=5,nx:=-1,a8:=ta,n8:=8,c8:=8,a7:=sa1,n7:=(k+1),c7:=sc1,a18:=a18,n18:=k,c18:=c18 })) (HN2.out.box) rfl (by kernel_rfl) (by kernel_rfl) (Nat.le_of_ble_eq_true rfl) (by kernel_rfl) (w0:=W2) inferInstance (hbm) ?_;intro z9 hx kx;have hgr:=kx.grown1 inferInstance;(have HN3:=lH (HN2.out.put hgr hx));have hU2:=Nat.le_trans hU1 hgr.size;clear hx kx hgr hU1))
    refine wp_region_stabW (by kernel_rfl) (T:=[10,11,12,13]) (H:=[(2,[]),(6,[]),(7,[]),(9,[])]) (C:=[9]) (Fs:=[(some 83,.v (.pointer (some ⟨bm,33,none⟩))),(some 84,.v (.pointer (some ⟨bm,55,none⟩))),(some 85,.v (.slice a18 k c18)),(some 86,.v (.int .i64 k)),(some 87,.v (.slice (some ⟨b,off,none⟩) 8 fc)),(some 88,.v (.int .i64 k)),(some 89,.v (.pointer (some ⟨b,off+k,none⟩))),(some 90,.v (.string sk)),(some 91,.v (.agg #[.int .i64 k,.string sk,.slice none 0 0,.bool true])),(some 92,.sl z9.w.heap.size 1 [.int .i64 k,.string sk,.slice none 0 0,.bool true] 116),(none,.v undef),(none,.v undef),(none,.v undef),(none,.v undef)]) (by kernel_rfl) (fun val W=>by kernel_rfl) ?ob3 ?tail3
    case ob3 =>
     refine⟨fun x=>?_,fun x=>?_,fun x=>?_,fun x=>?_,trivial⟩
     ·exact g_one (o:=55) (v:=.slice a18 k c18) (HN3.out.box.to (inferInstance:Grows _ x.w)) rfl (by kernel_rfl) rfl _ Tryz.underlying86 rfl
     ·exact g_ix (size:=1) (o:=off) (j:=k) (n:=8) (c:=fc) (by rw[Nat.mul_one];rfl) (by kernel_rfl) Tryz.underlying30 (by kernel_rfl) h
     ·exact g_cell (h10 x.w) rfl (by kernel_rfl) _ Tryz.underlying9 rfl
     ·exact g_sl rfl (by kernel_rfl) LeN.out
    case tail3 =>
     rintro x _ ⟨b2,rfl,hb2,hB2⟩
     have gx2:Grows z9.w x.w:=inferInstance
     obtain⟨X2,hX⟩:=Later.of (w:=W2) (W:=x.w)
     rw[hX]at hB2 gx2 ⊢
     have HB2:=lH hB2;clear hB2 hX
     have hXU2:z11.w.heap.size≤X2.w.heap.size:=Nat.le_trans hU2 gx2.out.size
     apply tail4
     ·rfl
     ·rfl
     ·rfl
     ·rfl
     simp only[put_nrm,put_nrm2]
     simp only[Act.put,List.setIfInBounds_toArray,List.set_cons_succ,List.set_cons_zero]
     refine wpList_app1F (enc:=encN (α:=TFileOut)) (w0:=W2) (B:=z11.w.heap.size) (z:=.agg #[.int .i64 0,.string ⟨#[]⟩,.slice none 0 0,.bool false]) (size:=4) (bytes:=56) ⟨fileOut0 k sk,none,0⟩ rfl (.tmp 85) (.tmp 92) rfl Tryz.underlying86 (by kernel_rfl) rfl (by decide) (by decide) rfl rfl hl2 (Own.to HN3.out.outs.own inferInstance) HB2.out rfl (encN_one _) (by omega) (hXU2) inferInstance LeN.out ?_
     intro sa2 sc2 x2 O2 g2 b2;obtain⟨χ4,hN4⟩:=(HN3.out.grow (w':=X2.w) inferInstance).addOut (hXU2) (by omega) hsk.out O2 g2 b2;have HN4:=lH hN4;have hU3:z11.w.heap.size≤x2.w.heap.size:=Nat.le_trans (show z11.w.heap.size≤(X2.w).heap.size by first|exact hXU2|(simp;omega)) g2.size;clear O2 g2 b2 hN4
     go_wp2_with (first|((with_reducible refine wp_region_later (by kernel_rfl) (by kernel_rfl) ?_);(repeat(first|go_big_quiet_step (first|fail)));refine wpQuiet_nil ?_;rintro _ ⟨x,rfl⟩)|(refine stepStore2 rfl _ _ _ rfl (bm) 55 rfl (us:=[.slice sa2 (k+1) sc2]) (cs2:=(nmC light d o up down { a0:=a0,n0:=pl.length,c0:=c0,ck:=boardTime d.Rate d.Offset 0,room:=room,a9:=pa,n9:=8,c9:=8,a10:=la1,n10:=ln,c10:=lc1,a17:=a17,n17:=8,c17:=c17,w5:=5,nx:=-1,a8:=ta,n8:=8,c8:=8,a7:=sa1,n7:=(k+1),c7:=sc1,a18:=sa2,n18:=(k+1),c18:=sc2 })) (HN4.out.box) rfl (by kernel_rfl) (by kernel_rfl) (Nat.le_of_ble_eq_true rfl) (by kernel_rfl) (w0:=W2) inferInstance (hbm) ?_;intro z10 hx kx;have hgr:=kx.grown1 inferInstance;(have HN5:=lH (HN4.out.put hgr hx));have hU4:=Nat.le_trans hU3 hgr.size;clear hx kx hgr hU3))
     go_roundw
     case rel=>exact⟨k+1,z10,sa1,sa2,sc1,sc2,χ3,χ4,rows++[⟨fileIn0 k,a1,25⟩],rows2++[⟨fileOut0 k sk,none,0⟩],by go_num,rfl,by omega,hU4,HN5,lH (ins_next hr1.out hd.out (by rw[HFN.out];omega)),lH (outs_next hr2.out hd.out (by rw[HFN.out];omega)),lH (fun r hr=>by rcases List.mem_append.1 hr with hr|hr;exact hr3.out r hr;rw[List.mem_singleton.1 hr])⟩
     case measure=>simp[intOf];omega
  ·obtain rfl:k=8:=by omega
   have e8:fs.take 8=fs:=List.take_of_length_le (by rw[HFN.out];omega)
   have HO9:=lH (newM_O HFN.out HLN.out (newM_own (light:=light) (d:=d) (o:=o) (up:=up) (down:=down) (room:=room) hNF.out.pl HPL.out hNF.out.ins (by rw[hr1.out,e8]) LeN.out hNF.out.tl hNF.out.pa hNF.out.la hLg.out hNF.out.fs HFI.out.goods H17.out (hNF.out.outs.mono LeN.out) (by rw[hr2.out,e8]) hr3.out HOKM.out))
   go_wp2_with (first|((with_reducible refine wp_region_later (by kernel_rfl) (by kernel_rfl) ?_);(repeat(first|go_big_quiet_step (first|fail)));refine wpQuiet_nil ?_;rintro _ ⟨x,rfl⟩)|(refine stepLoad rfl _ _ rfl bm 0 rfl (row:=(nmC light d o up down { a0:=a0,n0:=pl.length,c0:=c0,ck:=boardTime d.Rate d.Offset 0,room:=room,a9:=pa,n9:=8,c9:=8,a10:=la1,n10:=ln,c10:=lc1,a17:=a17,n17:=8,c17:=c17,w5:=5,nx:=-1,a8:=ta,n8:=8,c8:=8,a7:=a7,n7:=8,c7:=c7,a18:=a18,n18:=8,c18:=c18 })) hNF.out.box _ Tryz.underlying90 rfl (by kernel_rfl) rfl ?_))
   refine(c_sMissionOk (m:=(newM light d o pl up down room L fs)) (EncO.toRd HO9.out) HTT.out).mono ?_
   rintro _ _ ⟨rfl,y9,rfl⟩
   cases hv:missionOk (newM light d o pl up down room L fs)
   ·have HG:=lH (show newOk light d o pl up down room L fs=false by rw[newOk,hv];simp);clear hv
    go_wp2_with (first|((with_reducible refine wp_region_later (by kernel_rfl) (by kernel_rfl) ?_);(repeat(first|go_big_quiet_step (first|fail)));refine wpQuiet_nil ?_;rintro _ ⟨x,rfl⟩)|(refine stepStore2 rfl _ _ _ rfl (y.w.heap.size) 0 rfl (us:=nbZ) (cs2:=nbZ) (Held.new _ nbZ 84 _ rfl) rfl (by kernel_rfl) (by kernel_rfl) (Nat.le_of_ble_eq_true rfl) (by kernel_rfl) (w0:=y.w) inferInstance (Nat.le_refl _) ?_;intro z1 hx kx;clear hx kx)|(refine stepStore2 rfl _ _ _ rfl (w.heap.size+4) 0 rfl (us:=nmZ) (cs2:=nmZ) (HRy.out.to inferInstance) rfl (by kernel_rfl) (by kernel_rfl) (Nat.le_of_ble_eq_true rfl) (by kernel_rfl) (w0:=w) inferInstance (by simp) ?_;intro zr hx kx;(have HXf:=lH hx);clear hx kx))
    refine bodyPost_ret (v:=.tuple #[.agg nmZ.toArray,.bool false]) (results_cell2 (P:=Tryz.prog) rfl rfl HXf.out _ Tryz.underlying90 rfl (by kernel_rfl) rfl) rfl ⟨nmZ,fun _=>(0,0),by rw[HG.out],?_,Later.of⟩
    rw[newMission,if_neg (by rw[HG.out];decide)]
    exact zeroM_own
   have HG:=lH (show newOk light d o pl up down room L fs=true by rw[newOk,hb,hv,HFN.out];rfl);clear hv
   go_wp2_with (first|((with_reducible refine wp_region_later (by kernel_rfl) (by kernel_rfl) ?_);(repeat(first|go_big_quiet_step (first|fail)));refine wpQuiet_nil ?_;rintro _ ⟨x,rfl⟩)|(refine stepLoad rfl _ _ rfl bm 0 rfl (row:=(nmC light d o up down { a0:=a0,n0:=pl.length,c0:=c0,ck:=boardTime d.Rate d.Offset 0,room:=room,a9:=pa,n9:=8,c9:=8,a10:=la1,n10:=ln,c10:=lc1,a17:=a17,n17:=8,c17:=c17,w5:=5,nx:=-1,a8:=ta,n8:=8,c8:=8,a7:=a7,n7:=8,c7:=c7,a18:=a18,n18:=8,c18:=c18 })) (hNF.out.box.to inferInstance) _ Tryz.underlying90 rfl (by kernel_rfl) rfl ?_)|(refine stepStore2 rfl _ _ _ rfl (w.heap.size+4) 0 rfl (us:=(nmC light d o up down { a0:=a0,n0:=pl.length,c0:=c0,ck:=boardTime d.Rate d.Offset 0,room:=room,a9:=pa,n9:=8,c9:=8,a10:=la1,n10:=ln,c10:=lc1,a17:=a17,n17:=8,c17:=c17,w5:=5,nx:=-1,a8:=ta,n8:=8,c8:=8,a7:=a7,n7:=8,c7:=c7,a18:=a18,n18:=8,c18:=c18 })) (cs2:=(nmC light d o up down { a0:=a0,n0:=pl.length,c0:=c0,ck:=boardTime d.Rate d.Offset 0,room:=room,a9:=pa,n9:=8,c9:=8,a10:=la1,n10:=ln,c10:=lc1,a17:=a17,n17:=8,c17:=c17,w5:=5,nx:=-1,a8:=ta,n8:=8,c8:=8,a7:=a7,n7:=8,c7:=c7,a18:=a18,n18:=8,c18:=c18 })) (HRy.out.to inferInstance) rfl (by kernel_rfl) (by kernel_rfl) (Nat.le_of_ble_eq_true rfl) (by kernel_rfl) (w0:=w) inferInstance (by simp) ?_;intro zr hx kx;(have HXf:=lH hx);(have KX:=lH kx);clear hx kx))
   refine bodyPost_ret (v:=.tuple #[.agg (nmC light d o up down { a0:=a0,n0:=pl.length,c0:=c0,ck:=boardTime d.Rate d.Offset 0,room:=room,a9:=pa,n9:=8,c9:=8,a10:=la1,n10:=ln,c10:=lc1,a17:=a17,n17:=8,c17:=c17,w5:=5,nx:=-1,a8:=ta,n8:=8,c8:=8,a7:=a7,n7:=8,c7:=c7,a18:=a18,n18:=8,c18:=c18 }).toArray,.bool true]) (results_cell2 (P:=Tryz.prog) rfl rfl HXf.out _ Tryz.underlying90 rfl (by kernel_rfl) rfl) rfl ⟨(nmC light d o up down { a0:=a0,n0:=pl.length,c0:=c0,ck:=boardTime d.Rate d.Offset 0,room:=room,a9:=pa,n9:=8,c9:=8,a10:=la1,n10:=ln,c10:=lc1,a17:=a17,n17:=8,c17:=c17,w5:=5,nx:=-1,a8:=ta,n8:=8,c8:=8,a7:=a7,n7:=8,c7:=c7,a18:=a18,n18:=8,c18:=c18 }),newCol z.w z11.w.heap.size χ1,by rw[HG.out],?_,Later.of⟩
   rw[newMission,if_pos HG.out]
   exact om_mono (om_keep (om_to HO9.out inferInstance) KX.out.above) (by omega)
end Go.Proofs.YtdinhfeflobafaaGreat
