/- The contracts of what a mission is made of: NewUnpacker, NewFileIn, NewSender, NewBoard, both sides. No condition but on lengths. -/
import Derived.Test.YtbaffippdifbpaaGreatMStab3
import Derived.Test.YtbaffippdifbpaaGreatMM13
import Derived.Test.YtbaffippdifbpaaGreatMM8
import Derived.Test.YtbaffippdifbpaaGreatMOkBi
import Derived.Test.YtbaffippdifbpaaGreatMOkBs
import Derived.Test.YtbaffippdifbpaaGreatMOkS
namespace Go.Proofs.YtbaffippdifbpaaGreat
set_option linter.unusedVariables false
open Go.ChangeShapes Go.WideShapes Go.ChangeAt Go.RowKit
theorem c_iNewUnpacker{k:Int}{w:World}:Calls Tryz.prog 52 #[.int .i64 k] w (Gives w (.agg #[.int .i64 k,.int .i64 (-1),.bool false,.string ⟨#[]⟩,.int .i64 0])):=by
 go_enter Tryz.func52,Tryz.ntmps52
 go_wp2_with (first|((with_reducible refine wp_region_later (by kernel_rfl) (by kernel_rfl) ?_);(repeat(first|go_big_quiet_step (first|fail)));refine wpQuiet_nil ?_;rintro _ ⟨x,rfl⟩))
 refine bodyPost_ret (v:=.agg #[.int .i64 k,.int .i64 (-1),.bool false,.string ⟨#[]⟩,.int .i64 0]) ?_ rfl ⟨rfl,Later.of⟩
 simp[results,Tryz.results52,go_sem]
theorem c_iNewFileInK{k:Int}{w:World}:Calls Tryz.prog 54 #[.int .i64 k] w fun e w'=>∃ a,e=.returned (.agg #[.int .i64 k,.int .i64 (-1),.int .i64 (-1),.slice a 25 25])∧Own encStr 9 1 w.heap.size w' a 25 (List.replicate 25 ⟨#[]⟩)∧∃ x:Later w,w'=x.w:=by
 have hmk:∀ w:World,(Instr.makeSlice 32 (.int .i64 25) (.int .i64 25)).run Tryz.prog w=.ok (.slice (some ⟨w.heap.size,0,none⟩) 25 25) (w.alloc (.cells (Array.replicate 25 (.string ⟨#[]⟩)) 9)):=fun w=>by kernel_rfl
 go_enter Tryz.func54,Tryz.ntmps54
 go_wp2_with (first|((with_reducible refine wp_region_later (by kernel_rfl) (by kernel_rfl) ?_);(repeat(first|go_big_quiet_step (first|fail)));refine wpQuiet_nil ?_;rintro _ ⟨x,rfl⟩))
 refine bodyPost_ret (v:=.agg #[.int .i64 k,.int .i64 (-1),.int .i64 (-1),.slice (some ⟨w.heap.size+1,0,none⟩) 25 25]) ?_ rfl ⟨some ⟨w.heap.size+1,0,none⟩,rfl,?_,?_⟩
 ·simp[results,Tryz.results54,go_sem]
 ·have:=own_block (enc:=encStr) (T:=9) (size:=1) (n:=25) (B:=w.heap.size) (W:=w.alloc (.cells #[.int .i64 k,.int .i64 (-1),.int .i64 (-1),.slice (some ⟨w.heap.size+1,0,none⟩) 25 25] 140)) (D:=Array.replicate 25 (.string ⟨#[]⟩)) (l:=List.replicate 25 ⟨#[]⟩) encStr_len (by simp) (by omega) (by simp) (by simp) (by kernel_rfl) (Later.here _)
  simp only[World.size_alloc]at this
  exact this
 ·exact Later.of
theorem c_iNewSender5{w:World}:Calls Tryz.prog 51 #[.int .i64 5] w (Gives w (.tuple #[.agg #[.int .i64 0,.int .i64 5,.slice none 0 0,.int .i64 0],.bool true])):=by
 go_enter Tryz.func51,Tryz.ntmps51
 go_wp2_with (first|((with_reducible refine wp_region_later (by kernel_rfl) (by kernel_rfl) ?_);(repeat(first|go_big_quiet_step (first|fail)));refine wpQuiet_nil ?_;rintro _ ⟨x,rfl⟩))
 refine(k_iSenderOk (B:=0) (a:=none) (c:=0) (sd:=⟨0,5,[],0⟩) RdS.nil (by simp) (by simp[okDTSender,i64])).mono ?_
 rintro _ _ ⟨rfl,y,rfl⟩
 have hk:senderOk ⟨0,5,[],0⟩=true:=by decide
 go_wp2_with (first|((with_reducible refine wp_region_later (by kernel_rfl) (by kernel_rfl) ?_);(repeat(first|go_big_quiet_step (first|fail)|simp only[hk]));refine wpQuiet_nil ?_;rintro _ ⟨x,rfl⟩))
 refine bodyPost_ret (v:=.tuple #[.agg #[.int .i64 0,.int .i64 5,.slice none 0 0,.int .i64 0],.bool true]) ?_ rfl ⟨rfl,Later.of⟩
 simp[results,Tryz.results51,go_sem]
theorem c_sNewUnpacker{k:Int}{w:World}:Calls Tryz.prog 65 #[.int .i64 k] w (Gives w (.agg #[.int .i64 k,.int .i64 (-1),.bool false,.string ⟨#[]⟩,.int .i64 0])):=by
 go_enter Tryz.func65,Tryz.ntmps65
 go_wp2_with (first|((with_reducible refine wp_region_later (by kernel_rfl) (by kernel_rfl) ?_);(repeat(first|go_big_quiet_step (first|fail)));refine wpQuiet_nil ?_;rintro _ ⟨x,rfl⟩))
 refine bodyPost_ret (v:=.agg #[.int .i64 k,.int .i64 (-1),.bool false,.string ⟨#[]⟩,.int .i64 0]) ?_ rfl ⟨rfl,Later.of⟩
 simp[results,Tryz.results65,go_sem]
theorem c_sNewFileInK{k:Int}{w:World}:Calls Tryz.prog 66 #[.int .i64 k] w fun e w'=>∃ a,e=.returned (.agg #[.int .i64 k,.int .i64 (-1),.int .i64 (-1),.slice a 25 25])∧Own encStr 9 1 w.heap.size w' a 25 (List.replicate 25 ⟨#[]⟩)∧∃ x:Later w,w'=x.w:=by
 have hmk:∀ w:World,(Instr.makeSlice 32 (.int .i64 25) (.int .i64 25)).run Tryz.prog w=.ok (.slice (some ⟨w.heap.size,0,none⟩) 25 25) (w.alloc (.cells (Array.replicate 25 (.string ⟨#[]⟩)) 9)):=fun w=>by kernel_rfl
 go_enter Tryz.func66,Tryz.ntmps66
 go_wp2_with (first|((with_reducible refine wp_region_later (by kernel_rfl) (by kernel_rfl) ?_);(repeat(first|go_big_quiet_step (first|fail)));refine wpQuiet_nil ?_;rintro _ ⟨x,rfl⟩))
 refine bodyPost_ret (v:=.agg #[.int .i64 k,.int .i64 (-1),.int .i64 (-1),.slice (some ⟨w.heap.size+1,0,none⟩) 25 25]) ?_ rfl ⟨some ⟨w.heap.size+1,0,none⟩,rfl,?_,?_⟩
 ·simp[results,Tryz.results66,go_sem]
 ·have:=own_block (enc:=encStr) (T:=9) (size:=1) (n:=25) (B:=w.heap.size) (W:=w.alloc (.cells #[.int .i64 k,.int .i64 (-1),.int .i64 (-1),.slice (some ⟨w.heap.size+1,0,none⟩) 25 25] 140)) (D:=Array.replicate 25 (.string ⟨#[]⟩)) (l:=List.replicate 25 ⟨#[]⟩) encStr_len (by simp) (by omega) (by simp) (by simp) (by kernel_rfl) (Later.here _)
  simp only[World.size_alloc]at this
  exact this
 ·exact Later.of
theorem c_sNewSender5{w:World}:Calls Tryz.prog 64 #[.int .i64 5] w (Gives w (.tuple #[.agg #[.int .i64 0,.int .i64 5,.slice none 0 0,.int .i64 0],.bool true])):=by
 go_enter Tryz.func64,Tryz.ntmps64
 go_wp2_with (first|((with_reducible refine wp_region_later (by kernel_rfl) (by kernel_rfl) ?_);(repeat(first|go_big_quiet_step (first|fail)));refine wpQuiet_nil ?_;rintro _ ⟨x,rfl⟩))
 refine(k_sSenderOk (B:=0) (a:=none) (c:=0) (sd:=⟨0,5,[],0⟩) RdS.nil (by simp) (by simp[okDTSender,i64])).mono ?_
 rintro _ _ ⟨rfl,y,rfl⟩
 have hk:senderOk ⟨0,5,[],0⟩=true:=by decide
 go_wp2_with (first|((with_reducible refine wp_region_later (by kernel_rfl) (by kernel_rfl) ?_);(repeat(first|go_big_quiet_step (first|fail)|simp only[hk]));refine wpQuiet_nil ?_;rintro _ ⟨x,rfl⟩))
 refine bodyPost_ret (v:=.tuple #[.agg #[.int .i64 0,.int .i64 5,.slice none 0 0,.int .i64 0],.bool true]) ?_ rfl ⟨rfl,Later.of⟩
 simp[results,Tryz.results64,go_sem]
def newBoard(room:Int)(L:List TLimit):TBoard:=⟨0,List.replicate 8 0,false,L,[],[],⟨room,[],[]⟩,0,0,[]⟩
abbrev nbC(clock room:Int)(pa la:Option Addr)(n lc:Nat):List Value:=[.int .i64 clock,.slice pa 8 8,.bool false,.slice la n lc,.slice none 0 0,.slice none 0 0,.int .i64 room,.slice none 0 0,.slice none 0 0,.int .i64 0,.int .i64 0,.slice none 0 0]
abbrev nbZ:List Value:=[.int .i64 0,.slice none 0 0,.bool false,.slice none 0 0,.slice none 0 0,.slice none 0 0,.int .i64 0,.slice none 0 0,.slice none 0 0,.int .i64 0,.int .i64 0,.slice none 0 0]
def nbOf(room:Int)(n:Nat):List Value→Value
 | [.slice pa _ _,.slice la _ lc]=>.agg (nbC 0 room pa la n lc).toArray
 | _=>undef
def GivesNB(w:World)(room:Int)(L:List TLimit):Ending→World→Prop:=fun e w' =>
 ∃ (pa la:Option Addr) (lc:Nat),e=.returned (.tuple #[.agg (if boardOk (newBoard room L)then nbC 0 room pa la L.length lc else nbZ).toArray,.bool (boardOk (newBoard room L))])∧Own encInt 3 1 w.heap.size w' pa 8 (List.replicate 8 0)∧Own encTLimit 149 3 w.heap.size w' la lc L∧∃ x:Later w,w'=x.w
theorem rd_limits{B:Nat}{w:World}{a:Option Addr}{c:Nat}{L:List TLimit}(h:Own encTLimit 149 3 B w a c L)(hL:∀ x∈L,okDTLimit x):RdS B w a c L:=h.rdS rfl (fun x hx=>⟨rfl,hL x hx⟩)
theorem rd_ints{B:Nat}{w:World}{a:Option Addr}{c:Nat}{L:List Int}(h:Own encInt 3 1 B w a c L)(hL:∀ x∈L,i64 x):RdS B w a c L:=h.rdS rfl (fun x hx=>⟨rfl,hL x hx⟩)
set_option maxRecDepth 100000 in
set_option maxHeartbeats 4000000 in
theorem c_iNewBoard{room:Int}{a:Option Addr}{n c:Nat}{L:List TLimit}{w:World}(hs:Sl encTLimit w a L)(hnil:a=none→c=0)(hn:L.length=n)(hm:n≤1048576)(hL:∀ x∈L,okDTLimit x)(hr:i64 room) :
  Calls Tryz.prog 48 #[.int .i64 room,.slice a n c] w (GivesNB w room L):=by
 have HLo:=lH hL;have HRo:=lH hr;have HN:=lH hnil;clear hL hr
 have HPo:=lH (show ∀ x∈List.replicate 8 (0:Int),i64 x from fun x hx=>by rw[List.eq_of_mem_replicate hx];unfold i64;omega)
 have HOK:=lH (show okDTBoard (newBoard room L)from⟨by unfold i64 newBoard;simp,⟨HRo.out,trivial⟩,by unfold i64 newBoard;simp,by unfold i64 newBoard;simp,trivial⟩)
 have HR:=lH (Held.new w nbZ 55 w.heap.size rfl)
 go_enter Tryz.func48,Tryz.ntmps48
 go_wp2_with (first|((with_reducible refine wp_region_later (by kernel_rfl) (by kernel_rfl) ?_);(repeat(first|go_big_quiet_step (first|fail)));refine wpQuiet_nil ?_;rintro _ ⟨x,rfl⟩))
 refine wp_region_stabW (by kernel_rfl) (T:=[7]) (H:=[(0,[]),(2,[]),(5,[0,2]),(6,[])]) (C:=[0,2,6]) (Fs:=[(some 7,.sl w.heap.size 8 (List.replicate 8 (.int .i64 0)) 3),(some 8,.v (.slice a n c)),(some 9,.of (fun v w'=>∃ a1 c1,v=.slice a1 n c1∧Own encTLimit 149 3 w.heap.size w' a1 c1 L) (fun _ _ _ g ⟨a1,c1,e,h⟩=>⟨a1,c1,e,h.to ⟨g⟩⟩)),(some 10,.v (.int .i64 room)),(some 11,.v (.agg #[.int .i64 room,.slice none 0 0,.slice none 0 0])),(some 12,.fn [0,2] (nbOf room n)),(some 6,.box (w.heap.size+1) nbZ 55),(none,.v undef)]) (by kernel_rfl) (fun val W=>by kernel_rfl) ?ob ?tail
 case ob =>
  refine⟨fun x=>?_,fun x=>?_,fun x=>?_,fun x=>?_,trivial⟩
  ·exact g_sl rfl (by kernel_rfl) LeN.out
  ·refine g_call (f:=124) (args:=[.slice a n c]) Tryz.func124 (by kernel_rfl) (by kernel_rfl) ((c_cloneTLimit (by apply Sl.to<;>first|assumption|infer_instance) hn (by omega)).mono ?_)
   rintro _ _ ⟨a1,c1,rfl,ho,y,rfl⟩
   exact⟨_,rfl,⟨y,rfl⟩,a1,c1,by rw[hn],ho.mono LeN.out⟩
  ·rintro _ ⟨b,rfl,h1,h2⟩ _ ⟨a1,c1,rfl,h3⟩
   exact g_fn rfl (by kernel_rfl)
  ·exact g_box rfl (by kernel_rfl) (by have:=x.size_le;simpa using this)
 case tail =>
  rintro x _ ⟨b,rfl,hb,HP0⟩ _ ⟨a1,c1,rfl,HL0⟩ _ ⟨b2,rfl,hb2,HB0⟩
  have HR0:=HR.out.to (inferInstance:Grows _ x.w)
  have HP1:=lH (Own.ofBlk (l:=List.replicate 8 (0:Int)) (B:=w.heap.size) encInt_len rfl (by simp) hb (by rfl) (by kernel_rfl) HP0)
  have HL1:=lH HL0;have HB1:=lH HB0;clear HL0 HB0 HP0
  apply tail1
  ·rfl
  simp only[put_nrm,put_nrm2]
  (try simp only[nrm])
  simp only[List.map,if_true,if_false,Nat.reduceEqDiff,reduceIte]
  go_wp2_with (first|((with_reducible refine wp_region_later (by kernel_rfl) (by kernel_rfl) ?_);(repeat(first|go_big_quiet_step (first|fail)));refine wpQuiet_nil ?_;rintro _ ⟨x,rfl⟩)|(refine stepStore2 rfl _ _ _ rfl b2 0 rfl (us:=(nbC 0 room (some ⟨b,0,none⟩) a1 n c1)) (cs2:=(nbC 0 room (some ⟨b,0,none⟩) a1 n c1)) HB1.out rfl (by kernel_rfl) (by kernel_rfl) (by simp) (by kernel_rfl) (w0:=w.alloc (.cells nbZ.toArray 55)) inferInstance (by simpa using hb2) ?_;intro y0 HB HBt;(have HB:=lH HB);have hgr:=HBt.grown1 inferInstance;(have HP:=lH (HP1.out.at HB1.out (by decide) hgr));(have HL:=lH (HL1.out.at HB1.out (by decide) hgr));(have HR1:=lH (HR0.at hgr (by omega)));clear HP1 HL1 HBt hgr)|(refine stepLoad rfl _ _ rfl b2 0 rfl (HB.out.to (inferInstance:Grows _ y0.w)) (row:=nbC 0 room (some ⟨b,0,none⟩) a1 n c1) _ Tryz.underlying55 rfl (by kernel_rfl) rfl ?_))
  refine(k_iBoardOk (B:=w.heap.size) (bd:=newBoard room L) (w0:=y0.w) (g:=Keeps.same _ _) (rd_ints HP.out HPo.out) (rd_limits HL.out HLo.out) RdS.nil RdS.nil RdS.nil RdS.nil RdS.nil HOK.out rfl hn rfl rfl rfl rfl rfl (by show 8≤100000000;omega) (by omega) (Nat.zero_le _) (Nat.zero_le _) (Nat.zero_le _) (Nat.zero_le _) (Nat.zero_le _)).mono ?_
  rintro _ _ ⟨rfl,y,rfl⟩
  cases q:boardOk (newBoard room L)
  ·go_wp2_with (first|((with_reducible refine wp_region_later (by kernel_rfl) (by kernel_rfl) ?_);(repeat(first|go_big_quiet_step (first|fail)|simp only[q]));refine wpQuiet_nil ?_;rintro _ ⟨x,rfl⟩)|(refine stepStore2 rfl _ _ _ rfl w.heap.size 0 rfl (us:=nbZ) (cs2:=nbZ) (HR1.out.to (inferInstance:Grows _ y.w)) rfl (by kernel_rfl) (by kernel_rfl) (by simp) (by kernel_rfl) (w0:=w) inferInstance (by simp) ?_;intro z HZ HBut))
   have hgr:=HBut.grown1 inferInstance
   refine bodyPost_ret (v:=.tuple #[.agg nbZ.toArray,.bool false]) (results_cell2 (P:=Tryz.prog) rfl rfl HZ _ Tryz.underlying55 rfl (by kernel_rfl) rfl) rfl ⟨some ⟨b,0,none⟩,a1,c1,by rw[q];rfl,?_,?_,Later.of⟩
   ·exact(HP.out.to (inferInstance:Grows _ y.w)).at (HR1.out.to (inferInstance:Grows _ y.w)) (by decide) hgr
   ·exact(HL.out.to (inferInstance:Grows _ y.w)).at (HR1.out.to (inferInstance:Grows _ y.w)) (by decide) hgr
  ·go_wp2_with (first|((with_reducible refine wp_region_later (by kernel_rfl) (by kernel_rfl) ?_);(repeat(first|go_big_quiet_step (first|fail)|simp only[q]));refine wpQuiet_nil ?_;rintro _ ⟨x,rfl⟩)|(first|(refine stepLoad rfl _ _ rfl b2 0 rfl (HB.out.to (inferInstance:Grows _ y.w)) (row:=nbC 0 room (some ⟨b,0,none⟩) a1 n c1) _ Tryz.underlying55 rfl (by kernel_rfl) rfl ?_)|(refine stepStore2 rfl _ _ _ rfl w.heap.size 0 rfl (us:=(nbC 0 room (some ⟨b,0,none⟩) a1 n c1)) (cs2:=(nbC 0 room (some ⟨b,0,none⟩) a1 n c1)) (HR1.out.to (inferInstance:Grows _ y.w)) rfl (by kernel_rfl) (by kernel_rfl) (by simp) (by kernel_rfl) (w0:=w) inferInstance (by simp) ?_;intro z HZ HBut)))
   have hgr:=HBut.grown1 inferInstance
   refine bodyPost_ret (v:=.tuple #[.agg (nbC 0 room (some ⟨b,0,none⟩) a1 n c1).toArray,.bool true]) (results_cell2 (P:=Tryz.prog) rfl rfl HZ _ Tryz.underlying55 rfl (by kernel_rfl) rfl) rfl ⟨some ⟨b,0,none⟩,a1,c1,by rw[q,hn];rfl,?_,?_,Later.of⟩
   ·exact(HP.out.to (inferInstance:Grows _ y.w)).at (HR1.out.to (inferInstance:Grows _ y.w)) (by decide) hgr
   ·exact(HL.out.to (inferInstance:Grows _ y.w)).at (HR1.out.to (inferInstance:Grows _ y.w)) (by decide) hgr
set_option maxRecDepth 100000 in
set_option maxHeartbeats 4000000 in
theorem c_sNewBoard{room:Int}{a:Option Addr}{n c:Nat}{L:List TLimit}{w:World}(hs:Sl encTLimit w a L)(hnil:a=none→c=0)(hn:L.length=n)(hm:n≤1048576)(hL:∀ x∈L,okDTLimit x)(hr:i64 room) :
  Calls Tryz.prog 62 #[.int .i64 room,.slice a n c] w (GivesNB w room L):=by
 have HLo:=lH hL;have HRo:=lH hr;have HN:=lH hnil;clear hL hr
 have HPo:=lH (show ∀ x∈List.replicate 8 (0:Int),i64 x from fun x hx=>by rw[List.eq_of_mem_replicate hx];unfold i64;omega)
 have HOK:=lH (show okDTBoard (newBoard room L)from⟨by unfold i64 newBoard;simp,⟨HRo.out,trivial⟩,by unfold i64 newBoard;simp,by unfold i64 newBoard;simp,trivial⟩)
 have HR:=lH (Held.new w nbZ 55 w.heap.size rfl)
 go_enter Tryz.func62,Tryz.ntmps62
 go_wp2_with (first|((with_reducible refine wp_region_later (by kernel_rfl) (by kernel_rfl) ?_);(repeat(first|go_big_quiet_step (first|fail)));refine wpQuiet_nil ?_;rintro _ ⟨x,rfl⟩))
 refine wp_region_stabW (by kernel_rfl) (T:=[8]) (H:=[(0,[]),(1,[]),(3,[1]),(6,[0,1,3]),(7,[])]) (C:=[0,1,3,7]) (Fs:=[(some 7,.sl w.heap.size 8 (List.replicate 8 (.int .i64 0)) 3),(some 8,.sl w.heap.size 0 [] 149),(some 9,.v (.slice a n c)),(some 10,.of (fun v w'=>∃ a1 c1,v=.slice a1 n c1∧Own encTLimit 149 3 w.heap.size w' a1 c1 L) (fun _ _ _ g ⟨a1,c1,e,h⟩=>⟨a1,c1,e,h.to ⟨g⟩⟩)),(some 11,.v (.int .i64 room)),(some 12,.v (.agg #[.int .i64 room,.slice none 0 0,.slice none 0 0])),(some 13,.fn [0,3] (nbOf room n)),(some 6,.box (w.heap.size+1) nbZ 55),(none,.v undef)]) (by kernel_rfl) (fun val W=>by kernel_rfl) ?ob ?tail
 case ob =>
  refine⟨fun x=>?_,fun x=>?_,fun x=>?_,fun x=>?_,fun x=>?_,trivial⟩
  ·exact g_sl rfl (by kernel_rfl) LeN.out
  ·exact g_sl rfl (by kernel_rfl) LeN.out
  ·rintro _ ⟨b,rfl,h1,h2⟩
   exact g_appE (bytes:=24) (z:=.agg #[.int .i64 0,.int .i64 0,.int .i64 0]) (by kernel_rfl) Tryz.underlying49 (by kernel_rfl) rfl (by decide) (by decide) hn encTLimit_len (by apply Sl.to<;>first|assumption|infer_instance) hnil encTLimit_one (by omega) h2 h1 LeN.out
    (fun a' c' y ho=>⟨⟨y,rfl⟩,a',c',rfl,ho⟩)
  ·rintro _ ⟨b,rfl,h1,h2⟩ _ - _ ⟨a1,c1,rfl,h3⟩
   exact g_fn rfl (by kernel_rfl)
  ·exact g_box rfl (by kernel_rfl) (by have:=x.size_le;simpa using this)
 case tail =>
  rintro x _ ⟨b,rfl,hb,HP0⟩ _ ⟨b8,rfl,-,-⟩ _ ⟨a1,c1,rfl,HL0⟩ _ ⟨b2,rfl,hb2,HB0⟩
  have HR0:=HR.out.to (inferInstance:Grows _ x.w)
  have HP1:=lH (Own.ofBlk (l:=List.replicate 8 (0:Int)) (B:=w.heap.size) encInt_len rfl (by simp) hb (by rfl) (by kernel_rfl) HP0)
  have HL1:=lH HL0;have HB1:=lH HB0;clear HL0 HB0 HP0
  apply tail1
  ·rfl
  simp only[put_nrm,put_nrm2]
  (try simp only[nrm])
  simp only[List.map,if_true,if_false,Nat.reduceEqDiff,reduceIte]
  go_wp2_with (first|((with_reducible refine wp_region_later (by kernel_rfl) (by kernel_rfl) ?_);(repeat(first|go_big_quiet_step (first|fail)));refine wpQuiet_nil ?_;rintro _ ⟨x,rfl⟩)|(refine stepStore2 rfl _ _ _ rfl b2 0 rfl (us:=(nbC 0 room (some ⟨b,0,none⟩) a1 n c1)) (cs2:=(nbC 0 room (some ⟨b,0,none⟩) a1 n c1)) HB1.out rfl (by kernel_rfl) (by kernel_rfl) (by simp) (by kernel_rfl) (w0:=w.alloc (.cells nbZ.toArray 55)) inferInstance (by simpa using hb2) ?_;intro y0 HB HBt;(have HB:=lH HB);have hgr:=HBt.grown1 inferInstance;(have HP:=lH (HP1.out.at HB1.out (by decide) hgr));(have HL:=lH (HL1.out.at HB1.out (by decide) hgr));(have HR1:=lH (HR0.at hgr (by omega)));clear HP1 HL1 HBt hgr)|(refine stepLoad rfl _ _ rfl b2 0 rfl (HB.out.to (inferInstance:Grows _ y0.w)) (row:=nbC 0 room (some ⟨b,0,none⟩) a1 n c1) _ Tryz.underlying55 rfl (by kernel_rfl) rfl ?_))
  refine(k_sBoardOk (B:=w.heap.size) (bd:=newBoard room L) (w0:=y0.w) (g:=Keeps.same _ _) (rd_ints HP.out HPo.out) (rd_limits HL.out HLo.out) RdS.nil RdS.nil RdS.nil RdS.nil RdS.nil HOK.out rfl hn rfl rfl rfl rfl rfl (by show 8≤100000000;omega) (by omega) (Nat.zero_le _) (Nat.zero_le _) (Nat.zero_le _) (Nat.zero_le _) (Nat.zero_le _)).mono ?_
  rintro _ _ ⟨rfl,y,rfl⟩
  cases q:boardOk (newBoard room L)
  ·go_wp2_with (first|((with_reducible refine wp_region_later (by kernel_rfl) (by kernel_rfl) ?_);(repeat(first|go_big_quiet_step (first|fail)|simp only[q]));refine wpQuiet_nil ?_;rintro _ ⟨x,rfl⟩)|(refine stepStore2 rfl _ _ _ rfl w.heap.size 0 rfl (us:=nbZ) (cs2:=nbZ) (HR1.out.to (inferInstance:Grows _ y.w)) rfl (by kernel_rfl) (by kernel_rfl) (by simp) (by kernel_rfl) (w0:=w) inferInstance (by simp) ?_;intro z HZ HBut))
   have hgr:=HBut.grown1 inferInstance
   refine bodyPost_ret (v:=.tuple #[.agg nbZ.toArray,.bool false]) (results_cell2 (P:=Tryz.prog) rfl rfl HZ _ Tryz.underlying55 rfl (by kernel_rfl) rfl) rfl ⟨some ⟨b,0,none⟩,a1,c1,by rw[q];rfl,?_,?_,Later.of⟩
   ·exact(HP.out.to (inferInstance:Grows _ y.w)).at (HR1.out.to (inferInstance:Grows _ y.w)) (by decide) hgr
   ·exact(HL.out.to (inferInstance:Grows _ y.w)).at (HR1.out.to (inferInstance:Grows _ y.w)) (by decide) hgr
  ·go_wp2_with (first|((with_reducible refine wp_region_later (by kernel_rfl) (by kernel_rfl) ?_);(repeat(first|go_big_quiet_step (first|fail)|simp only[q]));refine wpQuiet_nil ?_;rintro _ ⟨x,rfl⟩)|(first|(refine stepLoad rfl _ _ rfl b2 0 rfl (HB.out.to (inferInstance:Grows _ y.w)) (row:=nbC 0 room (some ⟨b,0,none⟩) a1 n c1) _ Tryz.underlying55 rfl (by kernel_rfl) rfl ?_)|(refine stepStore2 rfl _ _ _ rfl w.heap.size 0 rfl (us:=(nbC 0 room (some ⟨b,0,none⟩) a1 n c1)) (cs2:=(nbC 0 room (some ⟨b,0,none⟩) a1 n c1)) (HR1.out.to (inferInstance:Grows _ y.w)) rfl (by kernel_rfl) (by kernel_rfl) (by simp) (by kernel_rfl) (w0:=w) inferInstance (by simp) ?_;intro z HZ HBut)))
   have hgr:=HBut.grown1 inferInstance
   refine bodyPost_ret (v:=.tuple #[.agg (nbC 0 room (some ⟨b,0,none⟩) a1 n c1).toArray,.bool true]) (results_cell2 (P:=Tryz.prog) rfl rfl HZ _ Tryz.underlying55 rfl (by kernel_rfl) rfl) rfl ⟨some ⟨b,0,none⟩,a1,c1,by rw[q,hn];rfl,?_,?_,Later.of⟩
   ·exact(HP.out.to (inferInstance:Grows _ y.w)).at (HR1.out.to (inferInstance:Grows _ y.w)) (by decide) hgr
   ·exact(HL.out.to (inferInstance:Grows _ y.w)).at (HR1.out.to (inferInstance:Grows _ y.w)) (by decide) hgr
end Go.Proofs.YtbaffippdifbpaaGreat
