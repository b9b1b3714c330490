/- NewFileOut of both sides. No condition but on sizes. -/
import Derived.Test.YthbepablpaldgaaGreatSM38
import Derived.Test.YthbepablpaldgaaGreatSM20
import Derived.Test.YthbepablpaldgaaGreatSFileO
import Derived.Deep.CutRange
import Derived.Deep.CutBlock
namespace Go.Proofs.YthbepablpaldgaaGreat
set_option maxRecDepth 100000
set_option maxHeartbeats 4000000
set_option linter.unusedVariables false
open Go.ChangeShapes Go.WideShapes Go.ChangeAt Go.RowKit
private abbrev uu105:=Tryz.underlying105
theorem c_iFileOutOkE{B:Nat}{w:World}{vs:List Value}{r:TFileOut}(h:Enc.Rd B w vs r)(hm:r.Queue.length≤100000000)(hz:r.Data.size≤100000000):Calls Tryz.prog 132 #[.agg vs.toArray] w (Gives w (.bool (fileOutOkT r))):=by
 obtain⟨a,c,rfl,h1,-⟩:=h
 exact k_iFileOutOk h1 (g:=.same _ _) rfl hm hz
theorem c_sFileOutOkE{B:Nat}{w:World}{vs:List Value}{r:TFileOut}(h:Enc.Rd B w vs r)(hm:r.Queue.length≤100000000)(hz:r.Data.size≤100000000):Calls Tryz.prog 93 #[.agg vs.toArray] w (Gives w (.bool (fileOutOkT r))):=by
 obtain⟨a,c,rfl,h1,-⟩:=h
 exact k_sFileOutOk h1 (g:=.same _ _) rfl hm hz
theorem o_iNewFileOut{f:Int}{s:ByteArray}{w:World}(hf:0≤f∧f≤7)(hs:s.size≤600) :
  Calls Tryz.prog 36 #[.int .i64 f,.string s] w (GivesOB w (newOut f s) true):=by
 have HOK:=lH (newOut_ok hf hs)
 have hi:i64 f:=by unfold i64;omega
 have HI:=lH hi
 have hcb:=countSeg_bd s.size
 obtain⟨N,hN⟩:∃ N:Nat,countSeg s.size=(N:Int):=⟨(countSeg s.size).toNat,by omega⟩
 have HN:=lH hN
 have hNb:N≤25:=by omega
 clear hi hcb hf
 have HR:=lH (Held.new w [.int .i64 0,.string ⟨#[]⟩,.slice none 0 0,.bool false] 105 w.heap.size rfl)
 have HX:=lH (Held.new (w.alloc (.cells #[.int .i64 0,.string ⟨#[]⟩,.slice none 0 0,.bool false] 105)) [.int .i64 f,.string s,.slice none 0 0,.bool false] 105 (w.alloc (.cells #[.int .i64 0,.string ⟨#[]⟩,.slice none 0 0,.bool false] 105)).heap.size rfl)
 have hszA:(w.alloc (.cells #[.int .i64 0,.string ⟨#[]⟩,.slice none 0 0,.bool false] 105)).heap.size=w.heap.size+1:=by simp
 go_enter Tryz.func36,Tryz.ntmps36
 go_upto_region 2 with(fail)
 rw[show([.int .i64 f,.string s,.slice none 0 0,.bool false]:List Value).toArray=#[.int .i64 f,.string s,.slice none 0 0,.bool false]from rfl]at HX
 rw[show([.int .i64 0,.string ⟨#[]⟩,.slice none 0 0,.bool false]:List Value).toArray=#[.int .i64 0,.string ⟨#[]⟩,.slice none 0 0,.bool false]from rfl]at HR
 have gWA:Grows w (w.alloc (.cells #[.int .i64 0,.string ⟨#[]⟩,.slice none 0 0,.bool false] 105)):=inferInstance
 generalize (w.alloc (.cells #[.int .i64 0,.string ⟨#[]⟩,.slice none 0 0,.bool false] 105))=W2 at HR HX hszA gWA ⊢
 obtain⟨z1,hz1⟩:∃ z1:Later W2,(W2.alloc (.cells #[.int .i64 f,.string s,.slice none 0 0,.bool false] 105))=z1.w:=Later.of
 rw[hz1]at HX ⊢;clear hz1
 have iR:LtN w.heap.size W2.heap.size:=⟨by omega⟩
 have hqq:w.heap.size+1=W2.heap.size:=hszA.symm
 rw[hqq]
 obtain⟨qb,hqb⟩:∃ qb,W2.heap.size=qb:=⟨_,rfl⟩
 have HG:=lH (show GB (fun _=>False) W2.heap.size W2.heap.size z1.w (⟨f,s,[],false⟩:TFileOut)from GB.of (χ:=fun _=>(0,0)) (u:=W2) ⟨none,0,rfl,⟨OwnC.nil,⟨HI.out,(show s.size≤9223372036854775807 by omega),trivial⟩⟩⟩ (gKeeps ii) nl HX.out)
 have hqB:W2.heap.size≤qb:=Nat.le_of_eq hqb
 rw[show GB (fun _=>False) W2.heap.size W2.heap.size z1.w (⟨f,s,[],false⟩:TFileOut)=GB (fun _=>False) W2.heap.size qb z1.w (⟨f,s,[],false⟩:TFileOut)by rw[hqb]]at HG
 rw[hqb]
 clear HX hqb hqq
 go_wp2_with (fail)
 refine gm (c_iCountSegments) ?_
 intro y0
 rw[HN.out]
 go_wp2_with (fail)
 go_loopw [14] (fun v wr=>∃ k:Nat,v=.int .i64 k∧k≤N∧Hid (GB (fun _=>False) W2.heap.size qb wr (⟨f,s,segNums k,false⟩:TFileOut))∧∃ y:Later W2,wr=y.w) (fun v _=>(N - intOf v).toNat)
 case atStart=>exact⟨0,rfl,Nat.zero_le _,HG.out.to ii,Later.of⟩
 case round =>
  obtain⟨k,rfl,hk,HGR,y,rfl⟩:=hrel
  have hqy:LtN qb y.w.heap.size:=⟨HGR.out.lt⟩
  obtain⟨sa,sc,ea,hown,-,-⟩:=HGR.out.own fFileOutQueue
  have HEA:=lH (ea y.w)
  have HK:=lH (segNums_len k)
  have ea2:∀ (W:World) [Grows y.w W],W.cell? ⟨qb,2,none⟩=some (.slice sa k sc):=fun W g=>HK.out▸ea W
  clear ea
  by_cases h:k<N
  ·have kc:decide ((k:Int)<(N:Int))=true:=by simp;omega
   have hik:i64 k:=by unfold i64;omega
   go_upto_region 6 with(first|(at_builtin;refine wpList_app1F (enc:=encInt) (w0:=W2) (z:=.int .i64 0) (size:=1) (bytes:=8) (n:=k) ((k:Int)) rfl (.tmp 18) (.tmp 20) rfl Tryz.underlying46 kr rfl (by decide) (by decide) rfl rfl HK.out (hown.to ii) bk rfl (encInt_one _) (by omega) LeN.out ii nl ?_;intro sa6 sc6 xa6 hown1 hgr1 hblk1;have hp6:=(GBp.app (F:=fFileOutQueue) HGR.out HEA.out ii hown1 hgr1 hblk1 hik).1;clear hown1 hgr1 hblk1)|(refine step_gbN (app_len HK.out) rfl _ _ _ rfl hp6 rfl rfl kr ii nl ?_;intro z6 hz6))
   (try simp only[Act.put])
   have HZ6:=lH (show GB (fun _=>False) W2.heap.size qb z6.w (⟨f,s,segNums (k+1:Nat),false⟩:TFileOut)by rw[show(((k+1:Nat):Int))=(k:Int)+1 from rfl,segNums_snoc];exact hz6)
   clear hz6
   go_wp2_with (fail)
   go_roundw
   case rel=>exact⟨k+1,by go_num,by omega,HZ6.out.to ii,Later.of⟩
   case measure=>simp[intOf];omega
  ·obtain rfl:k=N:=by omega
   have kc:decide ((k:Int)<(k:Int))=false:=by simp
   have him:i64 (-1):=by unfold i64;omega
   go_upto_region 8 with(first|(at_builtin;refine wpList_app1F (enc:=encInt) (w0:=W2) (z:=.int .i64 0) (size:=1) (bytes:=8) (n:=k) ((-1)) rfl (.tmp 25) (.tmp 26) rfl Tryz.underlying46 kr rfl (by decide) (by decide) rfl rfl HK.out (hown.to ii) bk rfl (encInt_one _) (by omega) LeN.out ii nl ?_;intro sa7 sc7 xa7 hown1 hgr1 hblk1;have hp7:=(GBp.app (F:=fFileOutQueue) HGR.out HEA.out ii hown1 hgr1 hblk1 him).1;clear hown1 hgr1 hblk1)|(refine step_gbN (app_len HK.out) rfl _ _ _ rfl hp7 rfl rfl kr ii nl ?_;intro z7 hz7))
   (try simp only[Act.put])
   have HZ7:=lH (show GB (fun _=>False) W2.heap.size qb z7.w (newOut f s)by rw[newOut,HN.out];exact hz7)
   clear hz7
   have hqz:LtN qb z7.w.heap.size:=⟨HZ7.out.lt⟩
   obtain⟨vs9,hH9,hl9,h19,hrd9,χ9,hO9⟩:=HZ7.out.vs
   have HH9:=lH hH9;have HO9:=lH hO9;have H19:=lH h19;have HL9:=lH (show vs9.length=4 from hl9);have HRD9:=lH hrd9
   have HLQ:=lH (show(newOut f s).Queue.length≤100000000 by show(segNums (countSeg s.size)++[-1]).length≤_;rw[HN.out,List.length_append,segNums_len];show k+1≤_;omega)
   clear hO9 hH9 h19 hl9 hrd9
   go_wp2_with (first|(refine sL rfl _ (.tmp 6) rfl (qb) kr HH9 ii uu105 HL9 ?_))
   refine gm (c_iFileOutOkE (Enc.keep HRD9.out ii) HLQ.out (show s.size≤_ by omega)) ?_
   intro y9
   rw[HOK.out]
   go_wp2_with (first|(refine sL rfl _ (.tmp 6) rfl (qb) kr HH9 ii uu105 HL9 ?_)|(refine sW rfl _ _ _ rfl (w.heap.size) rfl (us:=vs9) (HR.out.to ii) HL9 H19 (w0:=w) ii nl ?_;intro z7 HX7 KX7))
   refine bodyPost_ret (v:=.tuple #[.agg vs9.toArray,.bool true]) (results_cell2 (P:=Tryz.prog) (u:=.bool true) rfl rfl HX7.out _ uu105 rfl (by rw[HL9.out];kernel_rfl) rfl) rfl ?_
   exact⟨vs9,χ9,rfl,obox_fin (obox_to HO9.out ii) KX7.out LtN.out gWA.out.size,Later.of⟩
theorem o_sNewFileOut{f:Int}{s:ByteArray}{w:World}(hf:0≤f∧f≤7)(hs:s.size≤600) :
  Calls Tryz.prog 23 #[.int .i64 f,.string s] w (GivesOB w (newOut f s) true):=by
 have HOK:=lH (newOut_ok hf hs)
 have hi:i64 f:=by unfold i64;omega
 have HI:=lH hi
 have hcb:=countSeg_bd s.size
 obtain⟨N,hN⟩:∃ N:Nat,countSeg s.size=(N:Int):=⟨(countSeg s.size).toNat,by omega⟩
 have HN:=lH hN
 have hNb:N≤25:=by omega
 clear hi hcb hf
 have HR:=lH (Held.new w [.int .i64 0,.string ⟨#[]⟩,.slice none 0 0,.bool false] 105 w.heap.size rfl)
 have HX:=lH (Held.new (w.alloc (.cells #[.int .i64 0,.string ⟨#[]⟩,.slice none 0 0,.bool false] 105)) [.int .i64 f,.string s,.slice none 0 0,.bool false] 105 (w.alloc (.cells #[.int .i64 0,.string ⟨#[]⟩,.slice none 0 0,.bool false] 105)).heap.size rfl)
 have hszA:(w.alloc (.cells #[.int .i64 0,.string ⟨#[]⟩,.slice none 0 0,.bool false] 105)).heap.size=w.heap.size+1:=by simp
 go_enter Tryz.func23,Tryz.ntmps23
 go_upto_region 2 with(fail)
 rw[show([.int .i64 f,.string s,.slice none 0 0,.bool false]:List Value).toArray=#[.int .i64 f,.string s,.slice none 0 0,.bool false]from rfl]at HX
 rw[show([.int .i64 0,.string ⟨#[]⟩,.slice none 0 0,.bool false]:List Value).toArray=#[.int .i64 0,.string ⟨#[]⟩,.slice none 0 0,.bool false]from rfl]at HR
 have gWA:Grows w (w.alloc (.cells #[.int .i64 0,.string ⟨#[]⟩,.slice none 0 0,.bool false] 105)):=inferInstance
 generalize (w.alloc (.cells #[.int .i64 0,.string ⟨#[]⟩,.slice none 0 0,.bool false] 105))=W2 at HR HX hszA gWA ⊢
 obtain⟨z1,hz1⟩:∃ z1:Later W2,(W2.alloc (.cells #[.int .i64 f,.string s,.slice none 0 0,.bool false] 105))=z1.w:=Later.of
 rw[hz1]at HX ⊢;clear hz1
 have iR:LtN w.heap.size W2.heap.size:=⟨by omega⟩
 have hqq:w.heap.size+1=W2.heap.size:=hszA.symm
 rw[hqq]
 obtain⟨qb,hqb⟩:∃ qb,W2.heap.size=qb:=⟨_,rfl⟩
 have HG:=lH (show GB (fun _=>False) W2.heap.size W2.heap.size z1.w (⟨f,s,[],false⟩:TFileOut)from GB.of (χ:=fun _=>(0,0)) (u:=W2) ⟨none,0,rfl,⟨OwnC.nil,⟨HI.out,(show s.size≤9223372036854775807 by omega),trivial⟩⟩⟩ (gKeeps ii) nl HX.out)
 have hqB:W2.heap.size≤qb:=Nat.le_of_eq hqb
 rw[show GB (fun _=>False) W2.heap.size W2.heap.size z1.w (⟨f,s,[],false⟩:TFileOut)=GB (fun _=>False) W2.heap.size qb z1.w (⟨f,s,[],false⟩:TFileOut)by rw[hqb]]at HG
 rw[hqb]
 clear HX hqb hqq
 go_wp2_with (fail)
 go_loopw [7] (fun v wr=>∃ k:Nat,v=.int .i64 k∧k≤N∧Hid (GB (fun _=>False) W2.heap.size qb wr (⟨f,s,segNums k,false⟩:TFileOut))∧∃ y:Later W2,wr=y.w) (fun v _=>(N - intOf v).toNat)
 case atStart=>exact⟨0,rfl,Nat.zero_le _,HG.out.to ii,Later.of⟩
 case round =>
  obtain⟨k,rfl,hk,HGR,y,rfl⟩:=hrel
  have hqy:LtN qb y.w.heap.size:=⟨HGR.out.lt⟩
  obtain⟨sa,sc,ea,hown,-,-⟩:=HGR.out.own fFileOutQueue
  have HEA:=lH (ea y.w)
  have HK:=lH (segNums_len k)
  have ea2:∀ (W:World) [Grows y.w W],W.cell? ⟨qb,2,none⟩=some (.slice sa k sc):=fun W g=>HK.out▸ea W
  clear ea
  by_cases h:k<N
  ·have kc:decide ((k:Int)<(N:Int))=true:=by simp;omega
   have hik:i64 k:=by unfold i64;omega
   go_wp2_with (fail)
   refine gm (c_sCountSegments) ?_
   intro y2
   rw[HN.out]
   go_upto_region 4 with(first|(at_builtin;refine wpList_app1F (enc:=encInt) (w0:=W2) (z:=.int .i64 0) (size:=1) (bytes:=8) (n:=k) ((k:Int)) rfl (.tmp 19) (.tmp 21) rfl Tryz.underlying46 kr rfl (by decide) (by decide) rfl rfl HK.out (hown.to ii) bk rfl (encInt_one _) (by omega) LeN.out ii nl ?_;intro sa6 sc6 xa6 hown1 hgr1 hblk1;have hp6:=(GBp.app (F:=fFileOutQueue) HGR.out HEA.out ii hown1 hgr1 hblk1 hik).1;clear hown1 hgr1 hblk1)|(refine step_gbN (app_len HK.out) rfl _ _ _ rfl hp6 rfl rfl kr ii nl ?_;intro z6 hz6))
   (try simp only[Act.put])
   have HZ6:=lH (show GB (fun _=>False) W2.heap.size qb z6.w (⟨f,s,segNums (k+1:Nat),false⟩:TFileOut)by rw[show(((k+1:Nat):Int))=(k:Int)+1 from rfl,segNums_snoc];exact hz6)
   clear hz6
   go_wp2_with (fail)
   go_roundw
   case rel=>exact⟨k+1,by go_num,by omega,HZ6.out.to ii,Later.of⟩
   case measure=>simp[intOf];omega
  ·obtain rfl:k=N:=by omega
   have kc:decide ((k:Int)<(k:Int))=false:=by simp
   have him:i64 (-1):=by unfold i64;omega
   go_wp2_with (fail)
   refine gm (c_sCountSegments) ?_
   intro y2
   rw[HN.out]
   go_upto_region 7 with(first|(at_builtin;refine wpList_app1F (enc:=encInt) (w0:=W2) (z:=.int .i64 0) (size:=1) (bytes:=8) (n:=k) ((-1)) rfl (.tmp 25) (.tmp 26) rfl Tryz.underlying46 kr rfl (by decide) (by decide) rfl rfl HK.out (hown.to ii) bk rfl (encInt_one _) (by omega) LeN.out ii nl ?_;intro sa7 sc7 xa7 hown1 hgr1 hblk1;have hp7:=(GBp.app (F:=fFileOutQueue) HGR.out HEA.out ii hown1 hgr1 hblk1 him).1;clear hown1 hgr1 hblk1)|(refine step_gbN (app_len HK.out) rfl _ _ _ rfl hp7 rfl rfl kr ii nl ?_;intro z7 hz7))
   (try simp only[Act.put])
   have HZ7:=lH (show GB (fun _=>False) W2.heap.size qb z7.w (newOut f s)by rw[newOut,HN.out];exact hz7)
   clear hz7
   have hqz:LtN qb z7.w.heap.size:=⟨HZ7.out.lt⟩
   obtain⟨vs9,hH9,hl9,h19,hrd9,χ9,hO9⟩:=HZ7.out.vs
   have HH9:=lH hH9;have HO9:=lH hO9;have H19:=lH h19;have HL9:=lH (show vs9.length=4 from hl9);have HRD9:=lH hrd9
   have HLQ:=lH (show(newOut f s).Queue.length≤100000000 by show(segNums (countSeg s.size)++[-1]).length≤_;rw[HN.out,List.length_append,segNums_len];show k+1≤_;omega)
   clear hO9 hH9 h19 hl9 hrd9
   go_wp2_with (first|(refine sL rfl _ (.tmp 6) rfl (qb) kr HH9 ii uu105 HL9 ?_))
   refine gm (c_sFileOutOkE (Enc.keep HRD9.out ii) HLQ.out (show s.size≤_ by omega)) ?_
   intro y9
   rw[HOK.out]
   go_wp2_with (first|(refine sL rfl _ (.tmp 6) rfl (qb) kr HH9 ii uu105 HL9 ?_)|(refine sW rfl _ _ _ rfl (w.heap.size) rfl (us:=vs9) (HR.out.to ii) HL9 H19 (w0:=w) ii nl ?_;intro z7 HX7 KX7))
   refine bodyPost_ret (v:=.tuple #[.agg vs9.toArray,.bool true]) (results_cell2 (P:=Tryz.prog) (u:=.bool true) rfl rfl HX7.out _ uu105 rfl (by rw[HL9.out];kernel_rfl) rfl) rfl ?_
   exact⟨vs9,χ9,rfl,obox_fin (obox_to HO9.out ii) KX7.out LtN.out gWA.out.size,Later.of⟩
