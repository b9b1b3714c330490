/- The contracts of what draws a mission's parts: channels, limits, orders. No condition. -/
import Derived.Test.YtbaffippdifbpaaGreatSWholeD
import Derived.Test.YtbaffippdifbpaaGreatSM16
namespace Go.Proofs.YtbaffippdifbpaaGreat
set_option linter.unusedVariables false
open Go.ChangeShapes Go.WideShapes Go.ChangeAt Go.RowKit
theorem c_sl01BelowB{w:World}{p:Nat}{a:Option Addr}{n c:Nat}{l:List Int}{i:Nat}{m:Int}(hc:IsCur w p a n c l i)(h1:256<m)(h2:m≤65536) :
  Calls Tryz.prog 46 #[.pointer (some ⟨p,0,none⟩),.int .i64 m] w (Draws w p a n c l (fun x=>0≤x∧x<m)):=by
 go_enter Tryz.func46,Tryz.ntmps46
 go_wp2_with (first|((with_reducible refine wp_region_later (by kernel_rfl) (by kernel_rfl) ?_);(repeat(first|go_big_quiet_step (first|fail)));refine wpQuiet_nil ?_;rintro _ ⟨x,rfl⟩))
 refine(c_sl01Byte hc).mono ?_
 rintro _ w1 ⟨x,rfl,hx,hg1,i1,hc1⟩
 go_wp2_with (first|((with_reducible refine wp_region_later (by kernel_rfl) (by kernel_rfl) ?_);(repeat(first|go_big_quiet_step (first|fail)));refine wpQuiet_nil ?_;rintro _ ⟨x,rfl⟩))
 refine(c_sl01Byte hc1).mono ?_
 rintro _ w2 ⟨y,rfl,hy,hg2,i2,hc2⟩
 go_wp2_with (first|((with_reducible refine wp_region_later (by kernel_rfl) (by kernel_rfl) ?_);(repeat(first|go_big_quiet_step (first|fail)));refine wpQuiet_nil ?_;rintro _ ⟨x,rfl⟩))
 refine(c_sl01Byte hc2).mono ?_
 rintro _ w3 ⟨z,rfl,hz,hg3,i3,hc3⟩
 go_wp2_with (first|((with_reducible refine wp_region_later (by kernel_rfl) (by kernel_rfl) ?_);(repeat(first|go_big_quiet_step (first|fail)));refine wpQuiet_nil ?_;rintro _ ⟨x,rfl⟩))
 refine(c_sl01Byte hc3).mono ?_
 rintro _ w4 ⟨u,rfl,hu,hg4,i4,hc4⟩
 unfold isByte at hx hy hz hu
 have hG:=lH (grownBy_trans (grownBy_trans (grownBy_trans hg1 hg2) hg3) hg4)
 have hC:=lH hc4
 clear hg1 hg2 hg3 hg4 hc hc1 hc2 hc3 hc4
 have hm:=Int.emod_lt_of_pos (x*16777216+y*65536+z*256+u) (show 0<m by omega)
 have hm':=Int.emod_nonneg (x*16777216+y*65536+z*256+u) (show m≠0 by omega)
 go_wp2_with (first|((with_reducible refine wp_region_later (by kernel_rfl) (by kernel_rfl) ?_);(repeat(first|go_big_quiet_step (first|fail)));refine wpQuiet_nil ?_;rintro _ ⟨x,rfl⟩))
 go_ret
 exact⟨_,rfl,⟨hm',hm⟩,hG.out,i4,hC.out⟩
set_option maxRecDepth 100000 in
set_option maxHeartbeats 2000000 in
theorem c_sl02Channel{w:World}{p:Nat}{a:Option Addr}{n c:Nat}{l:List Int}{i:Nat}(hc:IsCur w p a n c l i) :
  Calls Tryz.prog 121 #[.pointer (some ⟨p,0,none⟩)] w fun e w'=>∃ s b l':Int,e=.returned (.agg #[.int .i64 s,.int .i64 b,.int .i64 l'])∧(0≤s∧s≤65535)∧(0≤b∧b≤100)∧(0≤l'∧l'≤100)∧w.grownBy w' (some p)∧∃ i',IsCur w' p a n c l i':=by
 have HC:=lH hc;clear hc
 have hp:=HC.out.lt.out
 have Z:=held_new w (.cells #[.int .i64 0,.int .i64 0,.int .i64 0] 30)
 go_enter Tryz.func121,Tryz.ntmps121
 go_wp2_with (first|((with_reducible refine wp_region_later (by kernel_rfl) (by kernel_rfl) ?_);(repeat(first|go_big_quiet_step (first|fail)));refine wpQuiet_nil ?_;rintro _ ⟨x,rfl⟩))
 refine(c_sl01BelowB (HC.out.alloc _) (by omega) (by omega)).mono ?_
 rintro _ w1 ⟨x,rfl,hx,hg1,i1,hc1⟩
 have H1:=held_grown hg1 Z (by omega)
 have G1:=grownBy_trans (grownBy_new (grownBy_refl w (some p)) _) hg1
 have HG:=lH G1;clear hg1 G1 Z
 go_wp2_with (first|((with_reducible refine wp_region_later (by kernel_rfl) (by kernel_rfl) ?_);(repeat(first|go_big_quiet_step (first|fail)));refine wpQuiet_nil ?_;rintro _ ⟨x,rfl⟩))
 refine(c_sl01BelowB hc1 (by omega) (by omega)).mono ?_
 rintro _ w2 ⟨y,rfl,hy,hg2,i2,hc2⟩
 have H2:=held_grown hg2 H1 (by omega)
 have HG2:=lH (grownBy_trans HG.out hg2);clear hg2 hc1 H1 HG
 have hp2:=hc2.lt.out
 go_wp2_with (first|((with_reducible refine wp_region_later (by kernel_rfl) (by kernel_rfl) ?_);(repeat(first|go_big_quiet_step (first|fail)));refine wpQuiet_nil ?_;rintro _ ⟨x,rfl⟩))
 refine(c_sl01PickInt (xs:=[0,x,y,65535]) (hc2.alloc _) (Sl.litB (by simp) encInt_len rfl) rfl (by simp) (by simp) ?_).mono ?_
 ·intro b off h;cases h;omega
 rintro _ w3 ⟨s,rfl,hs,hg3,i3,hc3⟩
 have H3:=held_grown hg3 (held_past H2 _) (by omega)
 have HG3:=lH (grownBy_trans (grownBy_new HG2.out _) hg3);clear hg3 hc2 H2 HG2
 have hp3:=hc3.lt.out
 have hs':0≤s∧s≤65535:=by simp only[List.mem_cons,List.not_mem_nil,or_false]at hs;omega
 clear hs hx hy
 go_wp2_with (first|((with_reducible refine wp_region_later (by kernel_rfl) (by kernel_rfl) ?_);(repeat(first|go_big_quiet_step (first|fail)));refine wpQuiet_nil ?_;rintro _ ⟨x,rfl⟩))
 refine(c_sl01PickInt (xs:=[0,30,100]) (hc3.alloc _) (Sl.litB (by simp) encInt_len rfl) rfl (by decide) (by decide) ?_).mono ?_
 ·intro b off h;cases h;omega
 rintro _ w4 ⟨b,rfl,hb,hg4,i4,hc4⟩
 have H4:=held_grown hg4 (held_past H3 _) (by omega)
 have HG4:=lH (grownBy_trans (grownBy_new HG3.out _) hg4);clear hg4 hc3 H3 HG3
 have hp4:=hc4.lt.out
 have hb':0≤b∧b≤100:=by simp only[List.mem_cons,List.not_mem_nil,or_false]at hb;omega
 clear hb
 go_wp2_with (first|((with_reducible refine wp_region_later (by kernel_rfl) (by kernel_rfl) ?_);(repeat(first|go_big_quiet_step (first|fail)));refine wpQuiet_nil ?_;rintro _ ⟨x,rfl⟩))
 refine(c_sl01PickInt (xs:=[0,0,20,100]) (hc4.alloc _) (Sl.litB (by simp) encInt_len rfl) rfl (by decide) (by decide) ?_).mono ?_
 ·intro b off h;cases h;omega
 rintro _ w5 ⟨l',rfl,hl,hg5,i5,hc5⟩
 have H5:=held_grown hg5 (held_past H4 _) (by omega)
 have HG5:=lH (grownBy_trans (grownBy_new HG4.out _) hg5);clear hg5 hc4 H4 HG4
 have hl':0≤l'∧l'≤100:=by simp only[List.mem_cons,List.not_mem_nil,or_false]at hl;omega
 clear hl
 have HC5:=lH hc5;clear hc5
 have f0:=held_cell H5 0
 have f1:=held_cell H5 1
 have f2:=held_cell H5 2
 have k0:=held_frozen H5 0
 have k1:=held_frozen H5 1
 have k2:=held_frozen H5 2
 simp only[List.getElem?_toArray,List.getElem?_cons_zero,List.getElem?_cons_succ]at f0 f1 f2
 clear H5
 go_wp2_with (first|((with_reducible refine wp_region_later (by kernel_rfl) (by kernel_rfl) ?_);(repeat(first|go_big_quiet_step (first|fail)));refine wpQuiet_nil ?_;rintro _ ⟨x,rfl⟩))
 refine bodyPost_ret (v:=.agg #[.int .i64 s,.int .i64 b,.int .i64 l']) ?_ rfl ⟨s,b,l',rfl,hs',hb',hl',?_,i5,((HC5.out.put hp _ _).put hp _ _).put hp _ _⟩
 ·simp[results,Tryz.results121,go_sem,f0,f1,f2]
 ·exact grownBy_put (grownBy_put (grownBy_put HG5.out (Nat.le_refl _) _ _) (Nat.le_refl _) _ _) (Nat.le_refl _) _ _
def drawnLims(L:List TLimit):Prop:=∀ x∈L,(0≤x.Param∧x.Param≤2)∧(0≤x.Low∧x.Low≤5)∧(4≤x.High∧x.High≤65535)
set_option maxRecDepth 100000 in
set_option maxHeartbeats 2000000 in
theorem c_sl05Limits{w:World}{p:Nat}{a:Option Addr}{n c:Nat}{l:List Int}{i:Nat}(hc:IsCur w p a n c l i) :
  Calls Tryz.prog 122 #[.pointer (some ⟨p,0,none⟩)] w fun e w'=>∃ (L:List TLimit) (sa:Option Addr) (q sc:Nat),e=.returned (.slice sa q sc)∧L.length=q∧q≤2∧drawnLims L∧Own encTLimit 149 3 w.heap.size w' sa sc L∧w.grownBy w' (some p)∧∃ i',IsCur w' p a n c l i':=by
 have HC:=lH hc;clear hc
 have hp:=HC.out.lt.out
 go_enter Tryz.func122,Tryz.ntmps122
 go_wp2_with (first|((with_reducible refine wp_region_later (by kernel_rfl) (by kernel_rfl) ?_);(repeat(first|go_big_quiet_step (first|fail)));refine wpQuiet_nil ?_;rintro _ ⟨x,rfl⟩))
 refine(c_sl01Below (HC.out.alloc _) (by omega) (by omega)).mono ?_
 rintro _ w1 ⟨k0,rfl,hk0,hg1,i1,hc1⟩
 have O1:=(Own.empty0 (T:=149) (W:=w) encTLimit_len (Nat.le_refl _)).kept hg1 (fun k hk=>by cases hk;exact .inl hp)
 have G1:=grownBy_trans (grownBy_new (grownBy_refl w (some p)) _) hg1
 clear hg1
 obtain⟨k0,rfl⟩:=Int.eq_ofNat_of_zero_le hk0.1
 go_wp2_with (first|((with_reducible refine wp_region_later (by kernel_rfl) (by kernel_rfl) ?_);(repeat(first|go_big_quiet_step (first|fail)));refine wpQuiet_nil ?_;rintro _ ⟨x,rfl⟩))
 go_loopw [3,4] (fun vs vk wr=>∃ (L:List TLimit) (sa:Option Addr) (sc k q:Nat),vs=.slice sa q sc∧L.length=q∧vk=.int .i64 k∧q+k≤2∧Hid (Own encTLimit 149 3 w.heap.size wr sa sc L)∧Hid (w.grownBy wr (some p))∧(∃ i',Hid (IsCur wr p a n c l i'))∧Hid (drawnLims L)) (fun _ v _=>(intOf v).toNat)
 case atStart=>exact⟨[],_,_,k0,0,rfl,rfl,rfl,by omega,O1,G1,⟨i1,hc1⟩,fun x h=>by cases h⟩
 case round =>
  obtain⟨L,sa,sc,k,q,rfl,hL,rfl,hqk,hO,hG,⟨i2,hC⟩,hD⟩:=hrel
  cases k with
  | zero =>
   go_wp2_with (first|((with_reducible refine wp_region_later (by kernel_rfl) (by kernel_rfl) ?_);(repeat(first|go_big_quiet_step (first|fail)));refine wpQuiet_nil ?_;rintro _ ⟨x,rfl⟩))
   go_ret
   exact⟨L,sa,q,sc,rfl,hL,by omega,hD.out,hO.out,hG.out,i2,hC.out⟩
  | succ k =>
   have KEEP:∀ {W W':World} {sa:Option Addr} {sc:Nat},Own encTLimit 149 3 w.heap.size W sa sc L→W.grownBy W' (some p)→Own encTLimit 149 3 w.heap.size W' sa sc L:=fun h hg=>h.kept hg (fun k hk=>by cases hk;exact .inl hp)
   go_wp2_with (first|((with_reducible refine wp_region_later (by kernel_rfl) (by kernel_rfl) ?_);(repeat(first|go_big_quiet_step (first|fail)));refine wpQuiet_nil ?_;rintro _ ⟨x,rfl⟩))
   refine(c_sl01Below hC.out (by omega) (by omega)).mono ?_
   rintro _ w2 ⟨r,rfl,hr,hg2,i3,hc2⟩
   have O2:=lH (KEEP hO.out hg2);have G2:=lH (grownBy_trans hG.out hg2);clear hO hG hC hg2
   have hp2:=hc2.lt.out
   go_wp2_with (first|((with_reducible refine wp_region_later (by kernel_rfl) (by kernel_rfl) ?_);(repeat(first|go_big_quiet_step (first|fail)));refine wpQuiet_nil ?_;rintro _ ⟨x,rfl⟩))
   refine(c_sl01PickInt (xs:=[0,5]) (hc2.alloc _) (Sl.litB (by simp) encInt_len rfl) rfl (by decide) (by decide) ?_).mono ?_
   ·intro b off h;cases h;omega
   rintro _ w3 ⟨x,rfl,hx,hg3,i4,hc3⟩
   have O3:=lH (KEEP (Own.alloc O2.out _) hg3);have G3:=lH (grownBy_trans (grownBy_new G2.out _) hg3);clear O2 G2 hc2 hg3
   have hp3:=hc3.lt.out
   have hx':0≤x∧x≤5:=by simp only[List.mem_cons,List.not_mem_nil,or_false]at hx;omega
   clear hx
   go_wp2_with (first|((with_reducible refine wp_region_later (by kernel_rfl) (by kernel_rfl) ?_);(repeat(first|go_big_quiet_step (first|fail)));refine wpQuiet_nil ?_;rintro _ ⟨x,rfl⟩))
   refine(c_sl01PickInt (xs:=[300,65535,4]) (hc3.alloc _) (Sl.litB (by simp) encInt_len rfl) rfl (by decide) (by decide) ?_).mono ?_
   ·intro b off h;cases h;omega
   rintro _ w4 ⟨d,rfl,hd,hg4,i5,hc4⟩
   have O4:=KEEP (Own.alloc O3.out _) hg4;have G4:=lH (grownBy_trans (grownBy_new G3.out _) hg4);have HC5:=lH hc4;clear O3 G3 hc3 hg4 hc4
   have hd':4≤d∧d≤65535:=by simp only[List.mem_cons,List.not_mem_nil,or_false]at hd;omega
   clear hd
   have hsz:=G4.out.size
   clear KEEP
   have hp5:=HC5.out.lt.out
   have HD:=lH (show drawnLims (L++[⟨r,x,d⟩])from fun y hy=>by
    rcases List.mem_append.1 hy with hy|hy
    ·exact hD.out y hy
    ·simp only[List.mem_singleton]at hy;subst hy;exact⟨⟨hr.1,by show r≤2;omega⟩,hx',hd'⟩)
   go_wp2_with (first|((with_reducible refine wp_region_later (by kernel_rfl) (by kernel_rfl) ?_);(repeat(first|go_big_quiet_step (first|fail)));refine wpQuiet_nil ?_;rintro _ ⟨x,rfl⟩)|(at_builtin;refine wpList_app1B (enc:=encTLimit) (B:=w.heap.size) (z:=.agg #[.int .i64 0,.int .i64 0,.int .i64 0]) (size:=3) (bytes:=24) (⟨r,x,d⟩:TLimit) rfl (.tmp 12) (.tmp 22) rfl Tryz.underlying49 (by kernel_rfl) rfl (by decide) (by decide) rfl rfl hL O4 rfl (by intro u hu;simp[encTLimit]at hu;rcases hu with rfl|rfl|rfl<;>rfl) (by omega) hsz ?_;intro sa1 sc1 w6 O6 g6))
   have hlt:=O4.lt (n:=q)
   go_roundw
   case rel =>
    refine⟨L++[(⟨r,x,d⟩:TLimit)],sa1,sc1,k,q+1,rfl,by simp[hL],rfl,by omega,O6,?_,⟨i5,HC5.out.kept g6.size (fun j hj=>g6.block j (by omega) (fun e=>by have:=(hlt j e.symm).1;omega))⟩,HD⟩
    have G:=G4.out
    exact⟨g6.os.trans G.os,g6.tape.trans G.tape,g6.output.trans G.output,Nat.le_trans G.size g6.size,fun j hj hr=>(g6.block j (by omega) (fun e=>by have:=(hlt j e.symm).1;omega)).trans (G.block j hj hr)⟩
   case measure=>simp[intOf]
def DrawsO(w:World)(p:Nat)(a:Option Addr)(n c:Nat)(l:List Int):Ending→World→Prop:=fun e w' =>
 ∃ k t x y:Int,e=.returned (.agg #[.int .i64 k,.int .i64 t,.int .i64 x,.int .i64 y])∧w.grownBy w' (some p)∧∃ i',IsCur w' p a n c l i'
set_option maxRecDepth 100000 in
set_option maxHeartbeats 2000000 in
theorem c_sl05Order{w:World}{p:Nat}{a:Option Addr}{n c:Nat}{l:List Int}{i:Nat}{now:Int}(hc:IsCur w p a n c l i)(h0:0≤now)(h1:now≤1048576) :
  Calls Tryz.prog 47 #[.pointer (some ⟨p,0,none⟩),.int .i64 now] w (DrawsO w p a n c l):=by
 have HC:=lH hc;clear hc
 have hp:=HC.out.lt.out
 have Z:=held_new w (.cells #[.int .i64 0,.int .i64 0,.int .i64 0,.int .i64 0] 124)
 go_enter Tryz.func47,Tryz.ntmps47
 go_wp2_with (first|((with_reducible refine wp_region_later (by kernel_rfl) (by kernel_rfl) ?_);(repeat(first|go_big_quiet_step (first|fail)));refine wpQuiet_nil ?_;rintro _ ⟨x,rfl⟩))
 refine(c_sl01PickInt (xs:=[0,0,1,1,1,2,3,4]) ((HC.out.alloc _).alloc _) (Sl.litB (by simp) encInt_len rfl) rfl (by decide) (by decide) ?_).mono ?_
 ·intro b off h;cases h;omega
 rintro _ w1 ⟨k,rfl,hk,hg1,i1,hc1⟩
 have H1:=held_grown hg1 (held_past Z _) (by omega)
 have G1:=lH (grownBy_trans (grownBy_new (grownBy_new (grownBy_refl w (some p)) _) _) hg1);clear hg1 Z
 go_wp2_with (first|((with_reducible refine wp_region_later (by kernel_rfl) (by kernel_rfl) ?_);(repeat(first|go_big_quiet_step (first|fail)));refine wpQuiet_nil ?_;rintro _ ⟨x,rfl⟩))
 refine(c_sl01Below hc1 (by omega) (by omega)).mono ?_
 rintro _ w2 ⟨t,rfl,ht,hg2,i2,hc2⟩
 have H2:=held_grown hg2 H1 (by omega)
 have G2:=lH (grownBy_trans G1.out hg2);clear hg2 hc1 H1 G1
 have hp2:=hc2.lt.out
 have hsz:=G2.out.size
 have X2:=held_new w2 (.cells #[.int .i64 k,.int .i64 (now+t),.int .i64 0,.int .i64 0] 124)
 have Y2:=held_past H2 (.cells #[.int .i64 k,.int .i64 (now+t),.int .i64 0,.int .i64 0] 124)
 have G3:=lH (grownBy_new G2.out (.cells #[.int .i64 k,.int .i64 (now+t),.int .i64 0,.int .i64 0] 124))
 have HC3:=lH (hc2.alloc (.cells #[.int .i64 k,.int .i64 (now+t),.int .i64 0,.int .i64 0] 124))
 have hlt:w.heap.size<w2.heap.size:=(Array.getElem?_eq_some_iff.1 H2).1
 have hfar:NeN w.heap.size w2.heap.size:=⟨by omega⟩
 have hfar':NeN w2.heap.size w.heap.size:=⟨by omega⟩
 have hfp:w.heap.size≠p:=by omega
 have hfq:w2.heap.size≠p:=by omega
 clear hc2 G2 H2
 have hk5:k=0∨k=1∨k=2∨k=3∨k=4:=by simp only[List.mem_cons,List.not_mem_nil,or_false]at hk;omega
 clear hk
 rcases hk5 with rfl|rfl|rfl|rfl|rfl
 ·have X3:=X2;have Y3:=Y2;clear X2 Y2
  go_wp2_with (first|((with_reducible refine wp_region_later (by kernel_rfl) (by kernel_rfl) ?_);(repeat(first|go_big_quiet_step (first|fail)));refine wpQuiet_nil ?_;rintro _ ⟨x,rfl⟩))
  refine(c_sl01Below HC3.out (by omega) (by omega)).mono ?_
  rintro _ w4 ⟨x,rfl,-,hg4,i4,hc4⟩
  have X4:=held_grown hg4 X3 hfq;have Y4:=held_grown hg4 Y3 hfp
  have G4:=lH (grownBy_trans G3.out hg4);have HC4:=lH hc4;clear hg4 hc4 X3 Y3 G3 HC3
  have f0:=held_cell X4 0;have f1:=held_cell X4 1;have f2:=held_cell X4 2;have f3:=held_cell X4 3
  have k0:=held_frozen X4 0;have k1:=held_frozen X4 1;have k2:=held_frozen X4 2;have k3:=held_frozen X4 3
  have j0:=held_frozen Y4 0;have j1:=held_frozen Y4 1;have j2:=held_frozen Y4 2;have j3:=held_frozen Y4 3
  have e0:=held_cell Y4 0;have e1:=held_cell Y4 1;have e2:=held_cell Y4 2;have e3:=held_cell Y4 3
  simp only[List.getElem?_toArray,List.getElem?_cons_zero,List.getElem?_cons_succ]at f0 f1 f2 f3 e0 e1 e2 e3
  go_wp2_with (first|((with_reducible refine wp_region_later (by kernel_rfl) (by kernel_rfl) ?_);(repeat(first|go_big_quiet_step (first|fail)));refine wpQuiet_nil ?_;rintro _ ⟨x,rfl⟩))
  have X5:(w4.setCell ⟨w2.heap.size,2,none⟩ (.int .i64 x)).heap[w2.heap.size]?=some (.cells #[.int .i64 0,.int .i64 (now+t),.int .i64 x,.int .i64 0] 124):=by
   simp[World.setCell,Array.getElem?_modify,X4]
  have Y5:(w4.setCell ⟨w2.heap.size,2,none⟩ (.int .i64 x)).heap[w.heap.size]?=some (.cells #[.int .i64 0,.int .i64 0,.int .i64 0,.int .i64 0] 124):=by
   rw[Below.heap_setCell _ _ _ _ (by simp only[ne_eq];omega)];exact Y4
  have G5:=lH (grownBy_put G4.out hsz 2 (.int .i64 x));have HC5:=lH (HC4.out.put hp2 2 (.int .i64 x));clear f0 f1 f2 f3 e0 e1 e2 e3 k0 k1 k2 k3 j0 j1 j2 j3 X4 Y4 G4 HC4
  have hp5:=HC5.out.lt.out
  refine(c_sl01PickInt (xs:=[0,5,300,65535]) (HC5.out.alloc _) (Sl.litB (by simp) encInt_len rfl) rfl (by decide) (by decide) ?_).mono ?_
  ·intro b off h;cases h;simp at hp5;omega
  rintro _ w6 ⟨y,rfl,-,hg6,i6,hc6⟩
  have X6:=held_grown hg6 (held_past X5 _) hfq;have Y6:=held_grown hg6 (held_past Y5 _) hfp
  have G6:=lH (grownBy_trans (grownBy_new G5.out _) hg6);have HC6:=lH hc6;clear hg6 hc6 X5 Y5 G5 HC5
  have f0:=held_cell X6 0;have f1:=held_cell X6 1;have f2:=held_cell X6 2;have f3:=held_cell X6 3
  have k0:=held_frozen X6 0;have k1:=held_frozen X6 1;have k2:=held_frozen X6 2;have k3:=held_frozen X6 3
  have j0:=held_frozen Y6 0;have j1:=held_frozen Y6 1;have j2:=held_frozen Y6 2;have j3:=held_frozen Y6 3
  have e0:=held_cell Y6 0;have e1:=held_cell Y6 1;have e2:=held_cell Y6 2;have e3:=held_cell Y6 3
  simp only[List.getElem?_toArray,List.getElem?_cons_zero,List.getElem?_cons_succ]at f0 f1 f2 f3 e0 e1 e2 e3
  go_wp2_with (first|((with_reducible refine wp_region_later (by kernel_rfl) (by kernel_rfl) ?_);(repeat(first|go_big_quiet_step (first|fail)));refine wpQuiet_nil ?_;rintro _ ⟨x,rfl⟩))
  refine bodyPost_ret (v:=.agg #[.int .i64 0,.int .i64 (now+t),.int .i64 x,.int .i64 y]) ?_ rfl ⟨0,now+t,x,y,rfl,?_,i6,(((((HC6.out.put hp2 _ _).put hp _ _).put hp _ _).put hp _ _).put hp _ _)⟩
  ·simp[results,Tryz.results47,go_sem,e0,e1,e2,e3]
  ·exact(grownBy_put (grownBy_put (grownBy_put (grownBy_put (grownBy_put G6.out hsz _ _) (Nat.le_refl _) _ _) (Nat.le_refl _) _ _) (Nat.le_refl _) _ _) (Nat.le_refl _) _ _)
 ·have X3:=X2;have Y3:=Y2;clear X2 Y2
  go_wp2_with (first|((with_reducible refine wp_region_later (by kernel_rfl) (by kernel_rfl) ?_);(repeat(first|go_big_quiet_step (first|fail)));refine wpQuiet_nil ?_;rintro _ ⟨x,rfl⟩))
  refine(c_sl01Below HC3.out (by omega) (by omega)).mono ?_
  rintro _ w4 ⟨x,rfl,-,hg4,i4,hc4⟩
  have X4:=held_grown hg4 X3 hfq;have Y4:=held_grown hg4 Y3 hfp
  have G4:=lH (grownBy_trans G3.out hg4);have HC4:=lH hc4;clear hg4 hc4 X3 Y3 G3 HC3
  have f0:=held_cell X4 0;have f1:=held_cell X4 1;have f2:=held_cell X4 2;have f3:=held_cell X4 3
  have k0:=held_frozen X4 0;have k1:=held_frozen X4 1;have k2:=held_frozen X4 2;have k3:=held_frozen X4 3
  have j0:=held_frozen Y4 0;have j1:=held_frozen Y4 1;have j2:=held_frozen Y4 2;have j3:=held_frozen Y4 3
  have e0:=held_cell Y4 0;have e1:=held_cell Y4 1;have e2:=held_cell Y4 2;have e3:=held_cell Y4 3
  simp only[List.getElem?_toArray,List.getElem?_cons_zero,List.getElem?_cons_succ]at f0 f1 f2 f3 e0 e1 e2 e3
  go_wp2_with (first|((with_reducible refine wp_region_later (by kernel_rfl) (by kernel_rfl) ?_);(repeat(first|go_big_quiet_step (first|fail)));refine wpQuiet_nil ?_;rintro _ ⟨x,rfl⟩))
  refine bodyPost_ret (v:=.agg #[.int .i64 1,.int .i64 (now+t),.int .i64 x,.int .i64 0]) ?_ rfl ⟨1,now+t,x,0,rfl,?_,i4,(((((HC4.out.put hp2 _ _).put hp _ _).put hp _ _).put hp _ _).put hp _ _)⟩
  ·simp[results,Tryz.results47,go_sem,e0,e1,e2,e3]
  ·exact(grownBy_put (grownBy_put (grownBy_put (grownBy_put (grownBy_put G4.out hsz _ _) (Nat.le_refl _) _ _) (Nat.le_refl _) _ _) (Nat.le_refl _) _ _) (Nat.le_refl _) _ _)
 ·have X3:=X2;have Y3:=Y2;clear X2 Y2
  have hp3:=HC3.out.lt.out
  go_wp2_with (first|((with_reducible refine wp_region_later (by kernel_rfl) (by kernel_rfl) ?_);(repeat(first|go_big_quiet_step (first|fail)));refine wpQuiet_nil ?_;rintro _ ⟨x,rfl⟩))
  refine(c_sl01PickInt (xs:=[0,0,1]) (HC3.out.alloc _) (Sl.litB (by simp) encInt_len rfl) rfl (by decide) (by decide) ?_).mono ?_
  ·intro b off h;cases h;omega
  rintro _ w4 ⟨x,rfl,-,hg4,i4,hc4⟩
  have X4:=held_grown hg4 (held_past X3 _) hfq;have Y4:=held_grown hg4 (held_past Y3 _) hfp
  have G4:=lH (grownBy_trans (grownBy_new G3.out _) hg4);have HC4:=lH hc4;clear hg4 hc4 X3 Y3 G3 HC3
  have f0:=held_cell X4 0;have f1:=held_cell X4 1;have f2:=held_cell X4 2;have f3:=held_cell X4 3
  have k0:=held_frozen X4 0;have k1:=held_frozen X4 1;have k2:=held_frozen X4 2;have k3:=held_frozen X4 3
  have j0:=held_frozen Y4 0;have j1:=held_frozen Y4 1;have j2:=held_frozen Y4 2;have j3:=held_frozen Y4 3
  have e0:=held_cell Y4 0;have e1:=held_cell Y4 1;have e2:=held_cell Y4 2;have e3:=held_cell Y4 3
  simp only[List.getElem?_toArray,List.getElem?_cons_zero,List.getElem?_cons_succ]at f0 f1 f2 f3 e0 e1 e2 e3
  go_wp2_with (first|((with_reducible refine wp_region_later (by kernel_rfl) (by kernel_rfl) ?_);(repeat(first|go_big_quiet_step (first|fail)));refine wpQuiet_nil ?_;rintro _ ⟨x,rfl⟩))
  refine bodyPost_ret (v:=.agg #[.int .i64 2,.int .i64 (now+t),.int .i64 x,.int .i64 0]) ?_ rfl ⟨2,now+t,x,0,rfl,?_,i4,(((((HC4.out.put hp2 _ _).put hp _ _).put hp _ _).put hp _ _).put hp _ _)⟩
  ·simp[results,Tryz.results47,go_sem,e0,e1,e2,e3]
  ·exact(grownBy_put (grownBy_put (grownBy_put (grownBy_put (grownBy_put G4.out hsz _ _) (Nat.le_refl _) _ _) (Nat.le_refl _) _ _) (Nat.le_refl _) _ _) (Nat.le_refl _) _ _)
 ·have X3:=X2;have Y3:=Y2;clear X2 Y2
  go_wp2_with (first|((with_reducible refine wp_region_later (by kernel_rfl) (by kernel_rfl) ?_);(repeat(first|go_big_quiet_step (first|fail)));refine wpQuiet_nil ?_;rintro _ ⟨x,rfl⟩))
  refine(c_sl01Below HC3.out (by omega) (by omega)).mono ?_
  rintro _ w4 ⟨x,rfl,-,hg4,i4,hc4⟩
  have X4:=held_grown hg4 X3 hfq;have Y4:=held_grown hg4 Y3 hfp
  have G4:=lH (grownBy_trans G3.out hg4);have HC4:=lH hc4;clear hg4 hc4 X3 Y3 G3 HC3
  have f0:=held_cell X4 0;have f1:=held_cell X4 1;have f2:=held_cell X4 2;have f3:=held_cell X4 3
  have k0:=held_frozen X4 0;have k1:=held_frozen X4 1;have k2:=held_frozen X4 2;have k3:=held_frozen X4 3
  have j0:=held_frozen Y4 0;have j1:=held_frozen Y4 1;have j2:=held_frozen Y4 2;have j3:=held_frozen Y4 3
  have e0:=held_cell Y4 0;have e1:=held_cell Y4 1;have e2:=held_cell Y4 2;have e3:=held_cell Y4 3
  simp only[List.getElem?_toArray,List.getElem?_cons_zero,List.getElem?_cons_succ]at f0 f1 f2 f3 e0 e1 e2 e3
  go_wp2_with (first|((with_reducible refine wp_region_later (by kernel_rfl) (by kernel_rfl) ?_);(repeat(first|go_big_quiet_step (first|fail)));refine wpQuiet_nil ?_;rintro _ ⟨x,rfl⟩))
  refine bodyPost_ret (v:=.agg #[.int .i64 3,.int .i64 (now+t),.int .i64 x,.int .i64 0]) ?_ rfl ⟨3,now+t,x,0,rfl,?_,i4,(((((HC4.out.put hp2 _ _).put hp _ _).put hp _ _).put hp _ _).put hp _ _)⟩
  ·simp[results,Tryz.results47,go_sem,e0,e1,e2,e3]
  ·exact(grownBy_put (grownBy_put (grownBy_put (grownBy_put (grownBy_put G4.out hsz _ _) (Nat.le_refl _) _ _) (Nat.le_refl _) _ _) (Nat.le_refl _) _ _) (Nat.le_refl _) _ _)
 ·have X3:=X2;have Y3:=Y2;clear X2 Y2
  go_wp2_with (first|((with_reducible refine wp_region_later (by kernel_rfl) (by kernel_rfl) ?_);(repeat(first|go_big_quiet_step (first|fail)));refine wpQuiet_nil ?_;rintro _ ⟨x,rfl⟩))
  refine(c_sl01Below HC3.out (by omega) (by omega)).mono ?_
  rintro _ w4 ⟨x,rfl,-,hg4,i4,hc4⟩
  have X4:=held_grown hg4 X3 hfq;have Y4:=held_grown hg4 Y3 hfp
  have G4:=lH (grownBy_trans G3.out hg4);have HC4:=lH hc4;clear hg4 hc4 X3 Y3 G3 HC3
  have f0:=held_cell X4 0;have f1:=held_cell X4 1;have f2:=held_cell X4 2;have f3:=held_cell X4 3
  have k0:=held_frozen X4 0;have k1:=held_frozen X4 1;have k2:=held_frozen X4 2;have k3:=held_frozen X4 3
  have j0:=held_frozen Y4 0;have j1:=held_frozen Y4 1;have j2:=held_frozen Y4 2;have j3:=held_frozen Y4 3
  have e0:=held_cell Y4 0;have e1:=held_cell Y4 1;have e2:=held_cell Y4 2;have e3:=held_cell Y4 3
  simp only[List.getElem?_toArray,List.getElem?_cons_zero,List.getElem?_cons_succ]at f0 f1 f2 f3 e0 e1 e2 e3
  go_wp2_with (first|((with_reducible refine wp_region_later (by kernel_rfl) (by kernel_rfl) ?_);(repeat(first|go_big_quiet_step (first|fail)));refine wpQuiet_nil ?_;rintro _ ⟨x,rfl⟩))
  refine bodyPost_ret (v:=.agg #[.int .i64 4,.int .i64 (now+t),.int .i64 x,.int .i64 0]) ?_ rfl ⟨4,now+t,x,0,rfl,?_,i4,(((((HC4.out.put hp2 _ _).put hp _ _).put hp _ _).put hp _ _).put hp _ _)⟩
  ·simp[results,Tryz.results47,go_sem,e0,e1,e2,e3]
  ·exact(grownBy_put (grownBy_put (grownBy_put (grownBy_put (grownBy_put G4.out hsz _ _) (Nat.le_refl _) _ _) (Nat.le_refl _) _ _) (Nat.le_refl _) _ _) (Nat.le_refl _) _ _)
end Go.Proofs.YtbaffippdifbpaaGreat
