/- The contracts of DemandOf and Feasible. No condition but on lengths. The contracts of the draws: a cursor in memory of the call's own, and numbers within their bounds. No condition but on lengths. The laws' small helpers: at, btoi, has, big. No condition but on lengths. Equality of slices of numbers. No condition but on lengths. The contracts of Feasible. No condition but on lengths. Marks: what the laws write into slices, and find again. No condition but on lengths. Marks in slices of requests. No condition but on lengths. The contracts of MissedOf. No condition but on lengths. -/
import Derived.Test.YtbaffippdifbpaaGreatSReq
import Derived.Test.YtbaffippdifbpaaGreatSM0
import Derived.Test.YtbaffippdifbpaaGreatSOwn
import Derived.Test.YtbaffippdifbpaaGreatSSlots2
namespace Go.Proofs.YtbaffippdifbpaaGreat
set_option linter.unusedVariables false
open Go.ChangeShapes Go.WideShapes Go.ChangeAt Go.RowKit
theorem reqsFrom_mem:∀ {l b:List Request},reqsFrom b l=true→∀ s∈l,(0≤s.Id∧s.Id≤255)∧(0≤s.Ready∧s.Ready≤1000000)∧(s.Ready≤s.Deadline∧s.Deadline≤1000000∧s.Deadline≤s.Ready+2000)∧1≤s.Need∧s.Need≤100
 | [],_,_,s,hs=>by simp at hs
 | q::l,b,h,s,hs=>by
  simp only[reqsFrom,Bool.and_eq_true]at h
  rcases List.mem_cons.1 hs with rfl|hs
  ·have h1:=inB_iff.1 h.2.2.1
   exact⟨inB_iff.1 h.1,inB_iff.1 h.2.1,⟨by omega,by omega,by omega⟩,inB_iff.1 h.2.2.2.1⟩
  ·exact reqsFrom_mem h.2.2.2.2.2 s hs
theorem requestsOk_mem{l:List Request}(h:requestsOk l=true):l.length≤12∧∀ s∈l,(0≤s.Id∧s.Id≤255)∧(0≤s.Ready∧s.Ready≤1000000)∧(s.Ready≤s.Deadline∧s.Deadline≤1000000∧s.Deadline≤s.Ready+2000)∧1≤s.Need∧s.Need≤100:=by
 simp only[requestsOk,Bool.and_eq_true,decide_eq_true_eq]at h
 exact⟨h.1,reqsFrom_mem h.2⟩
end Go.Proofs.YtbaffippdifbpaaGreat
namespace Go.Proofs.YtbaffippdifbpaaGreat
set_option linter.unusedVariables false
open Go.ChangeShapes Go.WideShapes Go.ChangeAt Go.RowKit
def encByte(n:Int):List Value:=[.int .u8 n]
theorem Sl.byte{w:World}{a:Option Addr}{l:List Int}(h:Sl encByte w a l){k:Nat}(hk:k<l.length) :
  ∃ b off s,a=some ⟨b,off,none⟩∧LtN b w.heap.size∧Hid (l.drop k=s::l.drop (k+1))∧(∀ (W:World) [Grows w W],W.cell? ⟨b,off+k,none⟩=some (.int .u8 s)):=by
 obtain⟨s,hs,hd⟩:=drop_at hk
 obtain⟨b,off,ha,hb,hc⟩:=h k s hs
 exact⟨b,off,s,ha,⟨hb⟩,hd,cell_grown hb (by simpa[encByte]using hc 0 _ rfl)⟩
def isByte(n:Int):Prop:=0≤n∧n≤255
theorem flatByte{w:World}{cs:List Value}(hl:cs.length=1)(h:RdL w [.byte] cs):∃ s:Int,encByte s=cs∧isByte s:=by
 obtain⟨u0,g0,r0⟩:=h.at (j:=0) rfl
 obtain⟨x0,rfl,p0⟩:=r0.byte_inv
 refine⟨x0,(list_all hl ?_).symm,p0⟩
 intro j y hy
 match j,hy with
 | 0,hy=>cases hy;exact g0
@[go_sem] theorem i64_and255(n:Int):bits .and .i64 n 255=n % 256:=by
 have h255:(BitVec.ofInt 64 255).toNat=2 ^ 8 - 1:=by decide
 have key:(BitVec.ofInt 64 n &&& BitVec.ofInt 64 255).toNat=(n % ((2 ^ 64:Nat):Int)).toNat % 2 ^ 8:=by
  rw[BitVec.toNat_and,BitVec.toNat_ofInt,h255,Nat.and_two_pow_sub_one_eq_mod]
 show IntKind.i64.wrap ((BitVec.ofInt 64 n &&& BitVec.ofInt 64 255).toNat:Nat)=n % 256
 rw[key,IntKind.wrap_i64]
 omega
theorem grownBy_later{w W:World}{row:Option Nat}(h:w.grownBy W row)(x:Later W):w.grownBy x.w row :=
 ⟨x.h.os.trans h.os,x.h.tape.trans h.tape,x.h.output.trans h.output,Nat.le_trans h.size x.h.size,fun k hk hr=>(x.h.block k (Nat.lt_of_lt_of_le hk h.size)).trans (h.block k hk hr)⟩
theorem grownBy_set{w W:World}{p:Nat}(h:w.grownBy W (some p))(i:Nat)(v:Value):w.grownBy (W.setCell ⟨p,i,none⟩ v) (some p) :=
 ⟨h.os,h.tape,h.output,by simpa using h.size,fun k hk hr=>by
  rw[Below.heap_setCell _ _ _ _ (fun e=>hr (by simp only at e;rw[e]))];exact h.block k hk hr⟩
structure IsCur(w:World)(p:Nat)(a:Option Addr)(n c:Nat)(l:List Int)(i:Nat):Prop where
 lt:LtN p w.heap.size
 c0:w.cell? ⟨p,0,none⟩=some (.slice a n c)
 c1:w.cell? ⟨p,1,none⟩=some (.int .i64 i)
 c2:∃ h:Int,w.cell? ⟨p,2,none⟩=some (.int .i64 h)
 f1:w.frozen? ⟨p,1,none⟩=false
 f2:w.frozen? ⟨p,2,none⟩=false
 le:i≤n
 len:l.length=n
 small:n≤1048576
 sl:Sl encByte w a l
 bytes:∀ x∈l,isByte x
 apart:∀ b off,a=some ⟨b,off,none⟩→0<l.length→b<p
set_option maxRecDepth 100000 in
set_option maxHeartbeats 2000000 in
theorem c_sl01Byte{w:World}{p:Nat}{a:Option Addr}{n c:Nat}{l:List Int}{i:Nat}(hc:IsCur w p a n c l i) :
  Calls Tryz.prog 123 #[.pointer (some ⟨p,0,none⟩)] w fun e w'=>∃ x,e=.returned (.int .i64 x)∧isByte x∧w.grownBy w' (some p)∧∃ i',IsCur w' p a n c l i':=by
 obtain⟨hlt,hc0,hc1,⟨h,hc2⟩,hf1,hf2,hle,hlen,hsm,hsl,hby,hap⟩:=hc
 have hsl':∀ W:World,w.grownBy W (some p)→Sl encByte W a l:=fun W hg k y hy=>by
  obtain⟨b,off,ha,hb,hcell⟩:=hsl k y hy
  have:=hap b off ha (Nat.lt_of_le_of_lt (Nat.zero_le k) (List.getElem?_eq_some_iff.1 hy).1)
  refine⟨b,off,ha,Nat.lt_of_lt_of_le hb hg.size,fun j v hv=>?_⟩
  rw[World.cell?_of_block (w:=w) (hg.block b hb (by simp only[ne_eq,Option.some.injEq];omega))]
  exact hcell j v hv
 have HSL:=lH hsl';clear hsl'
 by_cases hi:i<n
 ·obtain⟨b,off,s,rfl,hb,hd,g0⟩:=hsl.byte (show i<l.length by omega)
  have gs:=hby s (List.mem_of_mem_drop (show s∈l.drop i from by rw[hd.out];simp))
  have hbp:=hap b off rfl (by omega)
  have g1:=g0 w
  clear g0
  unfold isByte at gs
  have HBY:=lH hby;have HAP:=lH hap;clear hby hap
  go_enter Tryz.func123,Tryz.ntmps123
  go_wp2_with (first|((with_reducible refine wp_region_later (by kernel_rfl) (by kernel_rfl) ?_);(repeat(first|go_big_quiet_step (first|fail)));refine wpQuiet_nil ?_;rintro _ ⟨x,rfl⟩))
  go_ret
  refine⟨_,rfl,by simp only[isByte];constructor<;>omega,?g,i+1,⟨inferInstance,?_,?_,⟨wrap64 (wrap64 (h*6364136223846793005)+1442695040888963407),?_⟩,?_,?_,by omega,hlen,hsm,HSL.out _ ?g,HBY.out,HAP.out⟩⟩
  case g=>repeat(first|exact grownBy_refl _ _|refine grownBy_later ?_ _|refine grownBy_set ?_ _ _)
  all_goals(go_simp)
 ·go_enter Tryz.func123,Tryz.ntmps123
  go_wp2_with (first|((with_reducible refine wp_region_later (by kernel_rfl) (by kernel_rfl) ?_);(repeat(first|go_big_quiet_step (first|fail)));refine wpQuiet_nil ?_;rintro _ ⟨x,rfl⟩))
  go_ret
  refine⟨_,rfl,by simp only[isByte];constructor<;>omega,?g,i,⟨inferInstance,?_,?_,⟨wrap64 (wrap64 (h*6364136223846793005)+1442695040888963407),?_⟩,?_,?_,by omega,hlen,hsm,HSL.out _ ?g,hby,hap⟩⟩
  case g=>repeat(first|exact grownBy_refl _ _|refine grownBy_later ?_ _|refine grownBy_set ?_ _ _)
  all_goals(go_simp)
def Draws(w:World)(p:Nat)(a:Option Addr)(n c:Nat)(l:List Int)(ok:Int→Prop):Ending→World→Prop:=fun e w' =>
 ∃ x,e=.returned (.int .i64 x)∧ok x∧w.grownBy w' (some p)∧∃ i',IsCur w' p a n c l i'
theorem c_sl01Below{w:World}{p:Nat}{a:Option Addr}{n c:Nat}{l:List Int}{i:Nat}{m:Int}(hc:IsCur w p a n c l i)(h1:1≤m)(h2:m≤256) :
  Calls Tryz.prog 46 #[.pointer (some ⟨p,0,none⟩),.int .i64 m] w (Draws w p a n c l (fun x=>0≤x∧x<m)):=by
 go_enter Tryz.func46,Tryz.ntmps46
 go_wp2_with (first|((with_reducible refine wp_region_later (by kernel_rfl) (by kernel_rfl) ?_);(repeat(first|go_big_quiet_step (first|fail)));refine wpQuiet_nil ?_;rintro _ ⟨x,rfl⟩))
 refine(c_sl01Byte hc).mono ?_
 rintro _ w1 ⟨x,rfl,hx,hg,i',hc'⟩
 unfold isByte at hx
 have hm:=Int.emod_lt_of_pos x (show 0<m by omega)
 have hm':=Int.emod_nonneg x (show m≠0 by omega)
 go_wp2_with (first|((with_reducible refine wp_region_later (by kernel_rfl) (by kernel_rfl) ?_);(repeat(first|go_big_quiet_step (first|fail)));refine wpQuiet_nil ?_;rintro _ ⟨x,rfl⟩))
 go_ret
 exact⟨_,rfl,⟨hm',hm⟩,hg,i',hc'⟩
theorem IsCur.alloc{w:World}{p:Nat}{a:Option Addr}{n c:Nat}{l:List Int}{i:Nat}(h:IsCur w p a n c l i)(o:Obj):IsCur (w.alloc o) p a n c l i:=by
 obtain⟨hlt,hc0,hc1,⟨hh,hc2⟩,hf1,hf2,hle,hlen,hsm,hsl,hby,hap⟩:=h
 exact⟨inferInstance,by rw[Later.cell_past];exact hc0,by rw[Later.cell_past];exact hc1,⟨hh,by rw[Later.cell_past];exact hc2⟩,by rw[Later.frozen_past];exact hf1,by rw[Later.frozen_past];exact hf2,hle,hlen,hsm,hsl.alloc o,hby,hap⟩
theorem Sl.grown{α:Type}{enc:α→List Value}{w W:World}{a:Option Addr}{l:List α}{p:Nat}(h:Sl enc w a l)(hg:w.grownBy W (some p))(hne:∀ b off,a=some ⟨b,off,none⟩→b≠p):Sl enc W a l:=fun k y hy=>by
 obtain⟨b,off,ha,hb,hcell⟩:=h k y hy
 refine⟨b,off,ha,Nat.lt_of_lt_of_le hb hg.size,fun j v hv=>?_⟩
 rw[World.cell?_of_block (w:=w) (hg.block b hb (fun e=>hne b off ha (Option.some.inj e)))]
 exact hcell j v hv
theorem Sl.addr_lt{α:Type}{enc:α→List Value}{w:World}{a:Option Addr}{l:List α}(h:Sl enc w a l){b off:Nat}(ha:a=some ⟨b,off,none⟩)(h0:0<l.length):b<w.heap.size:=by
 obtain⟨b',off',hb,hlt,-⟩:=h 0 _ (List.getElem?_eq_getElem h0)
 rw[ha]at hb;cases hb;exact hlt
theorem Sl.lit{α:Type}{enc:α→List Value}{W:World}{cs:Array Value}{T size:Nat}{l:List α}(hsz:∀ x:α,(enc x).length=size)(h:cs.toList=l.flatMap enc):Sl enc (W.alloc (.cells cs T)) (some ⟨W.heap.size,0,none⟩) l:=fun k y hy=>by
 refine⟨W.heap.size,0,rfl,by simp,fun j v hv=>?_⟩
 rw[World.cell?_alloc_at _ _ _ _ rfl,← Array.getElem?_toList,h,hsz,Nat.zero_add]
 exact flatMap_at hsz l k j y v hy hv
theorem grownBy_cell{w W:World}{p:Nat}(h:w.grownBy W (some p)){b:Nat}(i:Nat)(hb:b<w.heap.size)(hne:b≠p):W.cell? ⟨b,i,none⟩=w.cell? ⟨b,i,none⟩ :=
 World.cell?_of_block (w:=w) (h.block b hb (fun e=>hne (Option.some.inj e)))
theorem grownBy_frozen{w W:World}{p:Nat}(h:w.grownBy W (some p)){b:Nat}(i:Nat)(hb:b<w.heap.size)(hne:b≠p):W.frozen? ⟨b,i,none⟩=w.frozen? ⟨b,i,none⟩:=by
 simp only[World.frozen?,h.block b hb (fun e=>hne (Option.some.inj e))]
theorem grownBy_new{w W:World}{row:Option Nat}(h:w.grownBy W row)(o:Obj):w.grownBy (W.alloc o) row :=
 ⟨h.os,h.tape,h.output,by have:=h.size;simp;omega,fun k hk hr=>by rw[Below.heap_alloc _ _ _ (Nat.lt_of_lt_of_le hk h.size)];exact h.block k hk hr⟩
theorem grownBy_put{w W:World}{row:Option Nat}(h:w.grownBy W row){b:Nat}(hb:w.heap.size≤b)(i:Nat)(v:Value):w.grownBy (W.setCell ⟨b,i,none⟩ v) row :=
 ⟨h.os,h.tape,h.output,by simpa using h.size,fun k hk hr=>by
  rw[Below.heap_setCell _ _ _ _ (by simp only[ne_eq];omega)];exact h.block k hk hr⟩
theorem IsCur.kept{w W:World}{p:Nat}{a:Option Addr}{n c:Nat}{l:List Int}{i:Nat}(h:IsCur w p a n c l i)(hs:w.heap.size≤W.heap.size)(hb:∀ k,k≤p→W.heap[k]?=w.heap[k]?):IsCur W p a n c l i:=by
 obtain⟨hlt,hc0,hc1,⟨hh,hc2⟩,hf1,hf2,hle,hlen,hsm,hsl,hby,hap⟩:=h
 have hp:=hb p (Nat.le_refl _)
 refine⟨⟨Nat.lt_of_lt_of_le hlt.out hs⟩,by rw[World.cell?_of_block (w:=w) hp];exact hc0,by rw[World.cell?_of_block (w:=w) hp];exact hc1,⟨hh,by rw[World.cell?_of_block (w:=w) hp];exact hc2⟩,
  by simp only[World.frozen?,hp];exact hf1,by simp only[World.frozen?,hp];exact hf2,hle,hlen,hsm,fun k y hy=>?_,hby,hap⟩
 obtain⟨b,off,ha,hblt,hcell⟩:=hsl k y hy
 have hlt':=hap b off ha (Nat.lt_of_le_of_lt (Nat.zero_le k) (List.getElem?_eq_some_iff.1 hy).1)
 exact⟨b,off,ha,Nat.lt_of_lt_of_le hblt hs,fun j v hv=>by rw[World.cell?_of_block (w:=w) (hb b (Nat.le_of_lt hlt'))];exact hcell j v hv⟩
theorem IsCur.put{w:World}{p:Nat}{a:Option Addr}{n c:Nat}{l:List Int}{i:Nat}(h:IsCur w p a n c l i){b:Nat}(hb:p<b)(j:Nat)(v:Value):IsCur (w.setCell ⟨b,j,none⟩ v) p a n c l i :=
 h.kept (by simp) (fun k hk=>Below.heap_setCell _ _ _ _ (by simp only[ne_eq];omega))
theorem Sl.litB{α:Type}{enc:α→List Value}{W:World}{cs:Array Value}{T size B:Nat}{l:List α}(hB:W.heap.size=B)(hsz:∀ x:α,(enc x).length=size)(h:cs.toList=l.flatMap enc):Sl enc (W.alloc (.cells cs T)) (some ⟨B,0,none⟩) l:=hB▸Sl.lit hsz h
theorem c_sl01PickInt{w:World}{p:Nat}{a:Option Addr}{n c:Nat}{l:List Int}{i:Nat}{al:Option Addr}{nl cl:Nat}{xs:List Int}(hc:IsCur w p a n c l i)(hs:Sl encInt w al xs)(hn:xs.length=nl)(h1:1≤nl)(h2:nl≤256)(hne:∀ b off,al=some ⟨b,off,none⟩→b≠p) :
  Calls Tryz.prog 118 #[.pointer (some ⟨p,0,none⟩),.slice al nl cl] w (Draws w p a n c l (fun x=>x∈xs)):=by
 go_enter Tryz.func118,Tryz.ntmps118
 go_wp2_with (first|((with_reducible refine wp_region_later (by kernel_rfl) (by kernel_rfl) ?_);(repeat(first|go_big_quiet_step (first|fail)));refine wpQuiet_nil ?_;rintro _ ⟨x,rfl⟩))
 refine(c_sl01Below hc (by omega) (by omega)).mono ?_
 rintro _ w1 ⟨x,rfl,⟨hx,hx'⟩,hg,i',hc'⟩
 obtain⟨k,rfl⟩:=Int.eq_ofNat_of_zero_le hx
 have hk:k<nl:=by omega
 obtain⟨b,off,s,rfl,hb,hd,g0⟩:=(hs.grown hg hne).int (show k<xs.length by omega)
 have g1:=g0 w1
 have hmem:s∈xs:=List.mem_of_mem_drop (show s∈xs.drop k from by rw[hd.out];simp)
 have HNE:=lH hne;clear hne g0
 go_wp2_with (first|((with_reducible refine wp_region_later (by kernel_rfl) (by kernel_rfl) ?_);(repeat(first|go_big_quiet_step (first|fail)));refine wpQuiet_nil ?_;rintro _ ⟨x,rfl⟩))
 go_ret
 exact⟨_,rfl,hmem,hg,i',hc'⟩
set_option maxRecDepth 10000 in
theorem c_sl01New{w:World}{a:Option Addr}{n c:Nat}{l:List Int}(hs:Sl encByte w a l)(hn:l.length=n)(hm:n≤1048576)(hby:∀ x∈l,isByte x) :
  Calls Tryz.prog 44 #[.slice a n c] w fun e w'=>∃ p,e=.returned (.pointer (some ⟨p,0,none⟩))∧w.heap.size≤p∧(∃ x:Later w,w'=x.w)∧IsCur w' p a n c l 0:=by
 have HBY:=lH hby;clear hby
 go_enter Tryz.func44,Tryz.ntmps44
 go_wp2_with (first|((with_reducible refine wp_region_later (by kernel_rfl) (by kernel_rfl) ?_);(repeat(first|go_big_quiet_step (first|fail)));refine wpQuiet_nil ?_;rintro _ ⟨x,rfl⟩))
 go_loopw [3,4] (fun vh v wr=>∃ (k:Nat) (h:Int),vh=.int .i64 h∧v=.int .i64 k∧k≤n∧∃ x:Later w,wr=x.w) (fun _ v _=>(n - intOf v).toNat)
 case atStart=>exact⟨0,_,rfl,rfl,by omega,Later.of⟩
 case round =>
  obtain⟨k,h,rfl,rfl,hk,x,rfl⟩:=hrel
  by_cases h1:k<n
  ·cases h2:decide ((k:Int)<4000)
   ·go_wp2_with (first|((with_reducible refine wp_region_later (by kernel_rfl) (by kernel_rfl) ?_);(repeat(first|go_big_quiet_step (first|fail)|simp only[h2]));refine wpQuiet_nil ?_;rintro _ ⟨x,rfl⟩))
    go_ret
    refine⟨_,rfl,LeN.out,Later.of,⟨inferInstance,?_,?_,⟨h,?_⟩,?_,?_,by omega,hn,hm,hs.to inferInstance,HBY.out,fun b off ha h0=>Nat.lt_of_lt_of_le (hs.addr_lt ha h0) LeN.out⟩⟩
    all_goals(go_simp)
   ·obtain⟨b,off,s,rfl,hb,hd,g0⟩:=hs.byte (show k<l.length by omega)
    go_wp2_with (first|((with_reducible refine wp_region_later (by kernel_rfl) (by kernel_rfl) ?_);(repeat(first|go_big_quiet_step (first|fail)|simp only[h2]));refine wpQuiet_nil ?_;rintro _ ⟨x,rfl⟩))
    go_roundw
    case rel=>exact⟨k+1,_,rfl,by go_num,by omega,Later.of⟩
    case measure=>simp[intOf];omega
  ·go_wp2_with (first|((with_reducible refine wp_region_later (by kernel_rfl) (by kernel_rfl) ?_);(repeat(first|go_big_quiet_step (first|fail)));refine wpQuiet_nil ?_;rintro _ ⟨x,rfl⟩))
   go_ret
   refine⟨_,rfl,LeN.out,Later.of,⟨inferInstance,?_,?_,⟨h,?_⟩,?_,?_,by omega,hn,hm,hs.to inferInstance,HBY.out,fun b off ha h0=>Nat.lt_of_lt_of_le (hs.addr_lt ha h0) LeN.out⟩⟩
   all_goals(go_simp)
set_option maxRecDepth 100000 in
set_option maxHeartbeats 2000000 in
theorem c_sl07Drift{w:World}{p:Nat}{a:Option Addr}{n c:Nat}{l:List Int}{i:Nat}(hc:IsCur w p a n c l i) :
  Calls Tryz.prog 119 #[.pointer (some ⟨p,0,none⟩)] w fun e w'=>∃ r o,e=.returned (.agg #[.int .i64 r,.int .i64 o])∧r∈[0,1,-1,7,-30,100,-100]∧o∈[0,3,1000]∧w.grownBy w' (some p)∧∃ i',IsCur w' p a n c l i':=by
 have HC:=lH hc;clear hc
 go_enter Tryz.func119,Tryz.ntmps119
 go_wp2_with (first|((with_reducible refine wp_region_later (by kernel_rfl) (by kernel_rfl) ?_);(repeat(first|go_big_quiet_step (first|fail)));refine wpQuiet_nil ?_;rintro _ ⟨x,rfl⟩))
 refine(c_sl01PickInt (xs:=[0,1,-1,7,-30,100,-100]) ((HC.out.alloc _).alloc _) (Sl.litB (by simp) encInt_len rfl) rfl (by decide) (by decide) ?_).mono ?_
 ·intro b off h;cases h;have:=HC.out.lt.out;omega
 rintro _ w1 ⟨r,rfl,hr,hg,i1,hc1⟩
 have hp:=HC.out.lt.out
 have e0:w1.cell? ⟨w.heap.size,0,none⟩=some (.int .i64 0):=by rw[grownBy_cell hg _ LtN.out (by omega)];go_simp
 have e1:w1.cell? ⟨w.heap.size,1,none⟩=some (.int .i64 0):=by rw[grownBy_cell hg _ LtN.out (by omega)];go_simp
 have e2:w1.frozen? ⟨w.heap.size,0,none⟩=false:=by rw[grownBy_frozen hg _ LtN.out (by omega)];go_simp
 have e3:w1.frozen? ⟨w.heap.size,1,none⟩=false:=by rw[grownBy_frozen hg _ LtN.out (by omega)];go_simp
 have hsz:w.heap.size<w1.heap.size:=by have:=hg.size;simp at this;omega
 have HG:=lH hg;have HR:=lH hr;have HC1:=lH hc1;clear hg hr hc1
 go_wp2_with (first|((with_reducible refine wp_region_later (by kernel_rfl) (by kernel_rfl) ?_);(repeat(first|go_big_quiet_step (first|fail)));refine wpQuiet_nil ?_;rintro _ ⟨x,rfl⟩))
 refine(c_sl01PickInt (xs:=[0,3,1000]) (HC1.out.alloc _) (Sl.litB rfl encInt_len rfl) rfl (by decide) (by decide) ?_).mono ?_
 ·intro b off h;cases h;have:=HC1.out.lt.out;omega
 rintro _ w2 ⟨o,rfl,ho,hg2,i2,hc2⟩
 have f0:w2.cell? ⟨w.heap.size,0,none⟩=some (.int .i64 0):=by rw[grownBy_cell hg2 _ (by simp<;>omega) (by omega),World.cell?_alloc_past _ _ _ hsz,e0]
 have f1:w2.cell? ⟨w.heap.size,1,none⟩=some (.int .i64 0):=by rw[grownBy_cell hg2 _ (by simp<;>omega) (by omega),World.cell?_alloc_past _ _ _ hsz,e1]
 have f2:w2.frozen? ⟨w.heap.size,0,none⟩=false:=by rw[grownBy_frozen hg2 _ (by simp<;>omega) (by omega),World.frozen?_alloc_past _ _ _ hsz,e2]
 have f3:w2.frozen? ⟨w.heap.size,1,none⟩=false:=by rw[grownBy_frozen hg2 _ (by simp<;>omega) (by omega),World.frozen?_alloc_past _ _ _ hsz,e3]
 have HG2:=lH hg2;have HO:=lH ho;have HC2:=lH hc2;clear hg2 ho hc2
 go_wp2_with (first|((with_reducible refine wp_region_later (by kernel_rfl) (by kernel_rfl) ?_);(repeat(first|go_big_quiet_step (first|fail)));refine wpQuiet_nil ?_;rintro _ ⟨x,rfl⟩))
 refine bodyPost_ret (v:=.agg #[.int .i64 r,.int .i64 o]) ?_ rfl ⟨r,o,rfl,HR.out,HO.out,?_,i2,(HC2.out.put hp _ _).put hp _ _⟩
 ·have k0:=World.cell?_setCell_same w2 _ (.int .i64 r) f0
  simp[results,Tryz.results119,go_sem,f0,f1]
 ·have h1:=grownBy_trans (grownBy_trans (grownBy_new (grownBy_new (grownBy_refl w (some p)) _) _) HG.out) (grownBy_trans (grownBy_new (grownBy_refl w1 (some p)) _) HG2.out)
  exact grownBy_put (grownBy_put h1 (Nat.le_refl _) _ _) (Nat.le_refl _) _ _
end Go.Proofs.YtbaffippdifbpaaGreat
namespace Go.Proofs.YtbaffippdifbpaaGreat
set_option linter.unusedVariables false
open Go.ChangeShapes Go.WideShapes Go.ChangeAt Go.RowKit
theorem c_lbig{w:World}{a:Option Addr}{n c:Nat}:Calls Tryz.prog 9 #[.slice a n c] w (Gives w (.bool (decide (1048576<(n:Int))))):=by
 go_enter Tryz.func9,Tryz.ntmps9
 go_wp2_with (first|((with_reducible refine wp_region_later (by kernel_rfl) (by kernel_rfl) ?_);(repeat(first|go_big_quiet_step (first|fail)));refine wpQuiet_nil ?_;rintro _ ⟨x,rfl⟩))
 go_ret
 exact Gives.mk (by simp)
end Go.Proofs.YtbaffippdifbpaaGreat
namespace Go.Proofs.YtbaffippdifbpaaGreat
set_option linter.unusedVariables false
open Go.ChangeShapes Go.WideShapes Go.ChangeAt Go.RowKit
end Go.Proofs.YtbaffippdifbpaaGreat
namespace Go.Proofs.YtbaffippdifbpaaGreat
set_option linter.unusedVariables false
open Go.ChangeShapes Go.WideShapes Go.ChangeAt Go.RowKit
end Go.Proofs.YtbaffippdifbpaaGreat
namespace Go.Proofs.YtbaffippdifbpaaGreat
set_option linter.unusedVariables false
open Go.ChangeShapes Go.WideShapes Go.ChangeAt Go.RowKit
theorem fset1{α:Type}{enc:α→List Value}(hsz:∀ x:α,(enc x).length=1){y:α}{v0:Value}(hy:enc y=[v0]):∀ (l:List α) (j:Nat),j<l.length→(l.flatMap enc).set (j) v0=(l.set j y).flatMap enc
 | [],j,h=>by simp at h
 | x::l,0,_=>by
  have hx:=hsz x
  match he:enc x,hx with
  | [u0],_=>simp[List.flatMap_cons,he,hy]
 | x::l,j+1,h=>by
  have ih:=fset1 hsz hy l j (by simpa using h)
  rw[List.flatMap_cons,List.set_cons_succ,List.flatMap_cons,← ih]
  have hx:=hsz x
  match he:enc x,hx with
  | [u0],_ =>
   simp
theorem Own.cells{α:Type}{enc:α→List Value}{T size B g:Nat}{w:World}{c:Nat}{l:List α}(h:Own enc T size B w (some ⟨g,0,none⟩) c l){j:Nat}(hj:j<l.length*size):∃ v,w.cell? ⟨g,j,none⟩=some v:=by
 have h1:=h.2.cellAt (n:=l.length) j hj
 exact⟨_,h1.trans (List.getElem?_eq_getElem (by rw[flatMap_length h.1];exact hj))⟩
theorem Own.free{α:Type}{enc:α→List Value}{T size B g:Nat}{w:World}{c:Nat}{l:List α}(h:Own enc T size B w (some ⟨g,0,none⟩) c l)(j:Nat):w.frozen? ⟨g,j,none⟩=false:=h.2.frozenAt j
theorem Own.put1{α:Type}{enc:α→List Value}{T B g:Nat}{w:World}{c:Nat}{l:List α}(h:Own enc T 1 B w (some ⟨g,0,none⟩) c l){j:Nat}(hj:j<l.length){y:α}{v0:Value}(hy:enc y=[v0]) :
  Own enc T 1 B ((w).setCell ⟨g,j,none⟩ v0) (some ⟨g,0,none⟩) c (l.set j y)∧w.grownBy ((w).setCell ⟨g,j,none⟩ v0) (some g):=by
 have s0:=(h.2).stored (j) v0
 refine⟨⟨h.1,?_⟩,s0.2⟩
 rw[← fset1 h.1 hy l j hj,List.length_set]
 exact s0.1
def Among(a:Option Addr)(B U:Nat):Prop:=∀ k,Value.ownBlock (.slice a 0 0)=some k→B≤k∧k<U
theorem Own.keep{α:Type}{enc:α→List Value}{T size B B1 U1 B2 U2 n2 c2:Nat}{V w1:World}{a a2:Option Addr}{c:Nat}{l:List α}(h:Own enc T size B V a c l)(hg:V.grownBy w1 (Value.ownBlock (.slice a2 n2 c2)))
  (i1:Among a B1 U1) (i2:Among a2 B2 U2) (hd:LeN U1 B2∨LeN U2 B1):Own enc T size B w1 a c l:=by
 refine⟨h.1,h.2.kept hg ?_⟩
 cases a with
 | none=>exact .inl rfl
 | some a =>
  right
  cases a2 with
  | none=>simp[Value.ownBlock]
  | some b =>
   have h1:=i1 _ rfl
   have h2:=i2 _ rfl
   intro he
   simp only[Value.ownBlock,Option.some.injEq]at he
   rcases hd with hd|hd
   ·have:=hd.out;omega
   ·have:=hd.out;omega
def mkSlot(k0:Int)(i:Nat):Slot:=(⟨k0+i*2,k0+i*2+1⟩:Slot)
def mkPair(k0:Int)(i:Nat):Pair:=(⟨k0+i*2,k0+i*2+1⟩:Pair)
def mkInt(k0:Int)(i:Nat):Int:=(k0+i)
end Go.Proofs.YtbaffippdifbpaaGreat
namespace Go.Proofs.YtbaffippdifbpaaGreat
set_option linter.unusedVariables false
open Go.ChangeShapes Go.WideShapes Go.ChangeAt Go.RowKit
end Go.Proofs.YtbaffippdifbpaaGreat
namespace Go.Proofs.YtbaffippdifbpaaGreat
set_option linter.unusedVariables false
open Go.ChangeShapes Go.WideShapes Go.ChangeAt Go.RowKit
end Go.Proofs.YtbaffippdifbpaaGreat
namespace Go.Proofs.YtbaffippdifbpaaGreat
set_option linter.unusedVariables false
open Go.ChangeShapes Go.WideShapes Go.ChangeAt Go.RowKit
theorem pairsFrom_mem:∀ {l:List Pair} {o:Option Pair},pairsFrom o l=true→∀ p∈l,(0≤p.Board∧p.Board≤2000000)∧0≤p.True∧p.True≤1000000
 | [],_,_,p,hp=>by simp at hp
 | q::l,o,h,p,hp=>by
  simp only[pairsFrom,Bool.and_eq_true]at h
  rcases List.mem_cons.1 hp with rfl|hp
  ·exact⟨inB_iff.1 h.1.1.1,inB_iff.1 h.1.1.2⟩
  ·exact pairsFrom_mem h.2 p hp
theorem pairsOk_mem{l:List Pair}(h:pairsOk l=true):∀ p∈l,(0≤p.Board∧p.Board≤2000000)∧0≤p.True∧p.True≤1000000:=by
 simp only[pairsOk,Bool.and_eq_true]at h
 exact pairsFrom_mem h.2
theorem mem_of_drop{α:Type}{l r:List α}{s:α}{k:Nat}(h:l.drop k=s::r):s∈l:=by
 have:s∈l.drop k:=by rw[h];simp
 exact List.mem_of_mem_drop this
def boundsFrom(b:Int):Int→List Pair→Int × Int
 | low,[]=>(low,1000000)
 | low,p::r=>if p.Board<b then boundsFrom b (p.True+1) r else if b<p.Board then(low,p.True - 1)else boundsFrom b low r
def boundsOf(l:List Pair)(b:Int):Value :=
 if (pairsOk l && inB b 0 2000000)=true then .tuple #[.int .i64 (boundsFrom b 0 l).1,.int .i64 (boundsFrom b 0 l).2,.bool true]else .tuple #[.int .i64 0,.int .i64 0,.bool false]
set_option maxRecDepth 100000 in
set_option maxHeartbeats 2000000 in
theorem c_iBoundsOf{a:Option Addr}{n c:Nat}{b:Int}{l:List Pair}{w:World}(hs:Sl encPair w a l)(hn:l.length=n)(hm:n≤4611686018427387904) :
  Calls Tryz.prog 144 #[.slice a n c,.int .i64 b] w (Gives w (boundsOf l b)):=by
 cases q1:pairsOk l
 ·go_enter Tryz.func144,Tryz.ntmps144
  go_wp2_with (first|((with_reducible refine wp_region_later (by kernel_rfl) (by kernel_rfl) ?_);(repeat(first|go_big_quiet_step (first|(go_at_call 242;exact Gives.quiet (c_iPairsOk))|(go_at_call 127;exact Gives.quiet (c_ibetween)))|simp only[q1]));refine wpQuiet_nil ?_;rintro _ ⟨x,rfl⟩)|(go_at_call 242;refine(c_iPairsOk).mono ?_;rintro _ _ ⟨rfl,x,rfl⟩)|(go_at_call 127;refine(c_ibetween).mono ?_;rintro _ _ ⟨rfl,x,rfl⟩))
  go_ret3
  exact Gives.mk (by simp[boundsOf,q1])
 cases q2:inB b 0 2000000
 ·go_enter Tryz.func144,Tryz.ntmps144
  go_wp2_with (first|((with_reducible refine wp_region_later (by kernel_rfl) (by kernel_rfl) ?_);(repeat(first|go_big_quiet_step (first|(go_at_call 242;exact Gives.quiet (c_iPairsOk))|(go_at_call 127;exact Gives.quiet (c_ibetween)))|simp only[q1]|simp only[q2]));refine wpQuiet_nil ?_;rintro _ ⟨x,rfl⟩)|(go_at_call 242;refine(c_iPairsOk).mono ?_;rintro _ _ ⟨rfl,x,rfl⟩)|(go_at_call 127;refine(c_ibetween).mono ?_;rintro _ _ ⟨rfl,x,rfl⟩))
  go_ret3
  exact Gives.mk (by simp[boundsOf,q1,q2])
 have HB:=lH (show boundsOf l b=.tuple #[.int .i64 (boundsFrom b 0 l).1,.int .i64 (boundsFrom b 0 l).2,.bool true]by simp[boundsOf,q1,q2])
 have HM:=lH (pairsOk_mem q1)
 go_enter Tryz.func144,Tryz.ntmps144
 go_wp2_with (first|((with_reducible refine wp_region_later (by kernel_rfl) (by kernel_rfl) ?_);(repeat(first|go_big_quiet_step (first|(go_at_call 242;exact Gives.quiet (c_iPairsOk))|(go_at_call 127;exact Gives.quiet (c_ibetween)))|simp only[q1]|simp only[q2]));refine wpQuiet_nil ?_;rintro _ ⟨x,rfl⟩)|(go_at_call 242;refine(c_iPairsOk).mono ?_;rintro _ _ ⟨rfl,x,rfl⟩)|(go_at_call 127;refine(c_ibetween).mono ?_;rintro _ _ ⟨rfl,x,rfl⟩))
 go_loopw [7,8,21] (fun u g v wr=>∃ (k:Nat) (low:Int),v=.int .i64 k∧u=.int .i64 low∧g=.int .i64 1000000∧k≤n∧Hid (boundsFrom b low (l.drop k)=boundsFrom b 0 l)∧∃ x:Later w,wr=x.w) (fun _ _ v _=>(n - intOf v).toNat)
 case atStart=>exact⟨0,0,rfl,rfl,rfl,by omega,rfl,Later.of⟩
 case round =>
  obtain⟨k,low,rfl,rfl,rfl,hk,hf,x0,rfl⟩:=hrel
  by_cases h:k<n
  ·obtain⟨b1,off,s,rfl,hb,hd,h0,h1⟩:=hs.pair (show k<l.length by omega)
   have hsb:=HM.out s (mem_of_drop hd.out)
   by_cases c1:s.Board<b
   ·have c2:¬ b<s.Board:=by omega
    go_wp2_with (first|((with_reducible refine wp_region_later (by kernel_rfl) (by kernel_rfl) ?_);(repeat(first|go_big_quiet_step (first|fail)));refine wpQuiet_nil ?_;rintro _ ⟨x,rfl⟩))
    go_roundw
    case rel=>exact⟨k+1,s.True+1,by go_num,rfl,rfl,by omega,by have:=hf.out;rw[hd.out,boundsFrom,if_pos (by omega)]at this;exact this,Later.of⟩
    case measure=>simp[intOf];omega
   by_cases c2:b<s.Board
   ·go_wp2_with (first|((with_reducible refine wp_region_later (by kernel_rfl) (by kernel_rfl) ?_);(repeat(first|go_big_quiet_step (first|fail)));refine wpQuiet_nil ?_;rintro _ ⟨x,rfl⟩))
    go_ret3
    exact Gives.mk (by have:=hf.out;rw[hd.out,boundsFrom,if_neg (by omega),if_pos (by omega)]at this;rw[HB.out,← this];rfl)
   ·go_wp2_with (first|((with_reducible refine wp_region_later (by kernel_rfl) (by kernel_rfl) ?_);(repeat(first|go_big_quiet_step (first|fail)));refine wpQuiet_nil ?_;rintro _ ⟨x,rfl⟩))
    go_roundw
    case rel=>exact⟨k+1,low,by go_num,rfl,rfl,by omega,by have:=hf.out;rw[hd.out,boundsFrom,if_neg (by omega),if_neg (by omega)]at this;exact this,Later.of⟩
    case measure=>simp[intOf];omega
  ·go_wp2_with (first|((with_reducible refine wp_region_later (by kernel_rfl) (by kernel_rfl) ?_);(repeat(first|go_big_quiet_step (first|fail)));refine wpQuiet_nil ?_;rintro _ ⟨x,rfl⟩))
   go_ret3
   exact Gives.mk (by have:=hf.out;rw[List.drop_of_length_le (by omega),boundsFrom]at this;rw[HB.out,← this];rfl)
end Go.Proofs.YtbaffippdifbpaaGreat
namespace Go.Proofs.YtbaffippdifbpaaGreat
set_option linter.unusedVariables false
open Go.ChangeShapes Go.WideShapes Go.ChangeAt Go.RowKit
theorem reqsFrom_free:∀ {l b:List Request},reqsFrom b l=true→∀ r∈l,∀ x∈b,x.Id≠r.Id
 | [],_,_,r,hr=>by simp at hr
 | s::l,b,h,r,hr=>by
  simp only[reqsFrom,Bool.and_eq_true]at h
  rcases List.mem_cons.1 hr with rfl|hr
  ·have h1:=h.2.2.2.2.1
   clear h
   induction b with
   | nil=>intro x hx;simp at hx
   | cons y b ih =>
    simp only[idFree,Bool.and_eq_true]at h1
    intro x hx
    rcases List.mem_cons.1 hx with rfl|hx
    ·simpa using h1.1
    ·exact ih (by have:=h1.2;exact this) x hx
  ·intro x hx
   exact reqsFrom_free h.2.2.2.2.2 r hr x (by simp[hx])
end Go.Proofs.YtbaffippdifbpaaGreat
namespace Go.Proofs.YtbaffippdifbpaaGreat
set_option linter.unusedVariables false
open Go.ChangeShapes Go.WideShapes Go.ChangeAt Go.RowKit
/-! ### One time: who gets it, and when is the next one wanted -/
def wants(t:Int)(r:Request)(g:Int):Bool:=!(g == 0) && inB t r.Ready r.Deadline
def beats(r:Request):Option (Nat × Request)→Bool
 | none=>true
 | some (_,b)=>decide (r.Deadline<b.Deadline) || ((r.Deadline == b.Deadline) && decide (r.Id<b.Id))
def best(t:Int):Option (Nat × Request)→Nat→List Request→List Int→Option (Nat × Request)
 | o,k,r::rs,g::gs=>best t (if (wants t r g && beats r o)=true then some (k,r)else o) (k+1) rs gs
 | o,_,_,_=>o
def nextStep(t:Int)(n:Int)(r:Request)(g:Int):Int :=
 if ((g == 0) || decide (r.Deadline<t))=true then n else if (decide (n<0) || decide (max t r.Ready<n))=true then max t r.Ready else n
def nextW(t:Int):Int→List Request→List Int→Int
 | n,r::rs,g::gs=>nextW t (nextStep t n r g) rs gs
 | n,_,_=>n
def idle(t:Int):List Request→List Int→Prop
 | r::rs,g::gs=>wants t r g=false∧idle t rs gs
 | _,_=>True
theorem best_idle{t:Int}:∀ {rs:List Request} {gs:List Int} {o:Option (Nat × Request)} {k:Nat},idle t rs gs→best t o k rs gs=o
 | [],_,_,_,_=>by simp[best]
 | _::_,[],_,_,_=>by simp[best]
 | r::rs,g::gs,o,k,h=>by
  rw[best,h.1]
  simpa using best_idle h.2
theorem best_spec{t:Int}:∀ {rs:List Request} {gs:List Int} {o:Option (Nat × Request)} {k:Nat},
  (best t o k rs gs=o∨∃ i r g,rs[i]?=some r∧gs[i]?=some g∧wants t r g=true∧best t o k rs gs=some (k+i,r))
 | [],_,o,k=>.inl (by simp[best])
 | _::_,[],o,k=>.inl (by simp[best])
 | r::rs,g::gs,o,k=>by
  rw[best]
  by_cases h:(wants t r g && beats r o)=true
  ·rw[if_pos h]
   simp only[Bool.and_eq_true]at h
   rcases best_spec (t:=t) (rs:=rs) (gs:=gs) (o:=some (k,r)) (k:=k+1)with h1|⟨i,r',g',h1,h2,h3,h4⟩
   ·exact .inr ⟨0,r,g,rfl,rfl,h.1,by rw[h1,Nat.add_zero]⟩
   ·exact .inr ⟨i+1,r',g',h1,h2,h3,by rw[h4];congr 2;omega⟩
  ·rw[if_neg h]
   rcases best_spec (t:=t) (rs:=rs) (gs:=gs) (o:=o) (k:=k+1)with h1|⟨i,r',g',h1,h2,h3,h4⟩
   ·exact .inl h1
   ·exact .inr ⟨i+1,r',g',h1,h2,h3,by rw[h4];congr 2;omega⟩
theorem best_least{t:Int}:∀ {rs:List Request} {gs:List Int} {o:Option (Nat × Request)} {k:Nat},
  (∀ (i:Nat) r g,rs[i]?=some r→gs[i]?=some g→wants t r g=true→∃ j b,best t o k rs gs=some (j,b)∧b.Deadline≤r.Deadline) ∧
  (∀ j b,o=some (j,b)→∃ j' b',best t o k rs gs=some (j',b')∧b'.Deadline≤b.Deadline)
 | [],_,o,k=>⟨fun i r g h=>by simp at h,fun j b h=>⟨j,b,by simp[best,h],Int.le_refl _⟩⟩
 | _::_,[],o,k=>⟨fun i r g _ h=>by simp at h,fun j b h=>⟨j,b,by simp[best,h],Int.le_refl _⟩⟩
 | r::rs,g::gs,o,k=>by
  rw[best]
  have key:∀ j b,o=some (j,b)→∃ j' b',(if (wants t r g && beats r o)=true then some (k,r)else o)=some (j',b')∧b'.Deadline≤b.Deadline:=by
   intro j b hb
   by_cases h:(wants t r g && beats r o)=true
   ·rw[if_pos h]
    simp only[Bool.and_eq_true]at h
    have h2:=h.2
    rw[hb]at h2
    simp only[beats,Bool.or_eq_true,decide_eq_true_eq,Bool.and_eq_true,beq_iff_eq]at h2
    exact⟨k,r,rfl,by omega⟩
   ·rw[if_neg h];exact⟨j,b,hb,Int.le_refl _⟩
  have ih:=best_least (t:=t) (rs:=rs) (gs:=gs) (o:=if (wants t r g && beats r o)=true then some (k,r)else o) (k:=k+1)
  refine⟨fun i r' g' h1 h2 h3=>?_,fun j b hb=>?_⟩
  ·match i with
   | 0 =>
    simp only[List.getElem?_cons_zero,Option.some.injEq]at h1 h2
    subst h1;subst h2
    by_cases h:beats r o=true
    ·have hh:(if (wants t r g && beats r o)=true then some (k,r)else o)=some (k,r):=by rw[h3,h];rfl
     exact ih.2 k r hh
    ·cases o with
     | none=>simp[beats]at h
     | some jb =>
      obtain⟨j,b⟩:=jb
      simp only[beats,Bool.or_eq_true,decide_eq_true_eq,Bool.and_eq_true,beq_iff_eq]at h
      obtain⟨j',b',h4,h5⟩:=key j b rfl
      obtain⟨j2,b2,h6,h7⟩:=ih.2 j' b' h4
      exact⟨j2,b2,h6,by omega⟩
   | i+1=>exact ih.1 i r' g' (by simpa using h1) (by simpa using h2) h3
  ·obtain⟨j',b',h4,h5⟩:=key j b hb
   obtain⟨j2,b2,h6,h7⟩:=ih.2 j' b' h4
   exact⟨j2,b2,h6,by omega⟩
theorem best_none{t:Int}{rs:List Request}{gs:List Int}{k:Nat}(h:best t none k rs gs=none):∀ (i:Nat) r g,rs[i]?=some r→gs[i]?=some g→wants t r g=false:=fun i r g h1 h2=>by
 cases h3:wants t r g
 ·rfl
 ·obtain⟨j,b,h4,-⟩:=(best_least (t:=t) (rs:=rs) (gs:=gs) (o:=none) (k:=k)).1 i r g h1 h2 h3
  rw[h]at h4;cases h4
theorem best_some{t:Int}{rs:List Request}{gs:List Int}{j:Nat}{b:Request}(h:best t none 0 rs gs=some (j,b)):∃ g,rs[j]?=some b∧gs[j]?=some g∧wants t b g=true:=by
 rcases best_spec (t:=t) (rs:=rs) (gs:=gs) (o:=none) (k:=0)with h1|⟨i,r,g,h1,h2,h3,h4⟩
 ·rw[h1]at h;cases h
 ·rw[h4]at h
  simp only[Nat.zero_add,Option.some.injEq,Prod.mk.injEq]at h
  obtain⟨rfl,rfl⟩:=h
  exact⟨g,h1,h2,h3⟩
theorem nextW_spec{t:Int}(ht:0≤t):∀ {rs:List Request} {gs:List Int} {n:Int},(n=-1∨t≤n) →
  (nextW t n rs gs=-1∧n=-1∧(∀ u,t≤u→idle u rs gs))∨(t≤nextW t n rs gs∧(n≠-1→nextW t n rs gs≤n)∧(∀ u,t≤u→u<nextW t n rs gs→idle u rs gs)∧(n≠nextW t n rs gs→∃ r∈rs,nextW t n rs gs≤max r.Ready r.Deadline))
 | [],gs,n,hn=>by
  rcases hn with rfl|hn
  ·exact .inl ⟨by simp[nextW],rfl,fun _ _=>by simp[idle]⟩
  ·exact .inr ⟨by simpa[nextW]using hn,fun _=>by simp[nextW],fun _ _ _=>by simp[idle],fun h=>by simp[nextW]at h⟩
 | _::_,[],n,hn=>by
  rcases hn with rfl|hn
  ·exact .inl ⟨by simp[nextW],rfl,fun _ _=>by simp[idle]⟩
  ·exact .inr ⟨by simpa[nextW]using hn,fun _=>by simp[nextW],fun _ _ _=>by simp[idle],fun h=>by simp[nextW]at h⟩
 | r::rs,g::gs,n,hn=>by
  rw[nextW]
  by_cases h1:((g == 0) || decide (r.Deadline<t))=true
  ·have e:nextStep t n r g=n:=by rw[nextStep,if_pos h1]
   rw[e]
   have hno:∀ u,t≤u→wants u r g=false:=by
    intro u hu
    simp only[Bool.or_eq_true,beq_iff_eq,decide_eq_true_eq]at h1
    unfold wants
    rcases h1 with h1|h1
    ·simp[h1]
    ·have:inB u r.Ready r.Deadline=false:=by simp[inB];omega
     simp[this]
   rcases nextW_spec ht (rs:=rs) (gs:=gs) hn with⟨a,b,c⟩|⟨a,b,c,d⟩
   ·exact .inl ⟨a,b,fun u hu=>⟨hno u hu,c u hu⟩⟩
   ·exact .inr ⟨a,b,fun u hu hu'=>⟨hno u hu,c u hu hu'⟩,fun hne=>by obtain⟨q,hq,hq2⟩:=d hne;exact⟨q,by simp[hq],hq2⟩⟩
  ·have h1':=h1
   simp only[Bool.or_eq_true,beq_iff_eq,decide_eq_true_eq,not_or]at h1'
   have hno:∀ u,t≤u→u<max t r.Ready→wants u r g=false:=by
    intro u hu hu'
    have:inB u r.Ready r.Deadline=false:=by simp[inB];omega
    simp[wants,this]
   by_cases h2:(decide (n<0) || decide (max t r.Ready<n))=true
   ·have e:nextStep t n r g=max t r.Ready:=by rw[nextStep,if_neg h1,if_pos h2]
    rw[e]
    simp only[Bool.or_eq_true,decide_eq_true_eq]at h2
    rcases nextW_spec ht (rs:=rs) (gs:=gs) (n:=max t r.Ready) (.inr (by omega))with⟨a,b,c⟩|⟨a,b,c,d⟩
    ·omega
    ·have D:=lH d;clear d
     have hb:=b (by omega)
     refine .inr ⟨a,fun _=>by omega,fun u hu hu'=>⟨hno u hu (by omega),c u hu hu'⟩,fun _=>?_⟩
     by_cases hne:max t r.Ready=nextW t (max t r.Ready) rs gs
     ·exact⟨r,by simp,by rw[← hne];omega⟩
     ·obtain⟨q,hq,hq2⟩:=D.out hne;exact⟨q,by simp[hq],hq2⟩
   ·have e:nextStep t n r g=n:=by rw[nextStep,if_neg h1,if_neg h2]
    rw[e]
    simp only[Bool.or_eq_true,decide_eq_true_eq,not_or]at h2
    have hn':t≤n:=by omega
    rcases nextW_spec ht (rs:=rs) (gs:=gs) hn with⟨a,b,c⟩|⟨a,b,c,d⟩
    ·omega
    ·have D:=lH d;clear d
     have hb:=b (by omega)
     exact .inr ⟨a,b,fun u hu hu'=>⟨hno u hu (by omega),c u hu hu'⟩,fun hne=>by obtain⟨q,hq,hq2⟩:=D.out hne;exact⟨q,by simp[hq],hq2⟩⟩
/-! ### The plan -/
def lowered(gs:List Int)(k:Nat):List Int:=gs.set k ((gs[k]?).getD 0 - 1)
def planFrom(p s l:Int)(list:List Request):Nat→Int→List Int→List Slot
 | 0,_,_=>[]
 | f+1,t,gs =>
  if visible p s l t=true then
   match best t none 0 list gs with
   | some (k,r)=>⟨t,r.Id⟩::planFrom p s l list f (t+1) (lowered gs k)
   | none=>planFrom p s l list f (t+1) gs
  else planFrom p s l list f (t+1) gs
def planAll(p s l:Int)(list:List Request):List Slot :=
 if (orbitOk p s l && requestsOk list)=true then planFrom p s l list 1000001 0 (list.map (·.Need))else[]
theorem planFrom_skip1{p s l t:Int}{list:List Request}{gs:List Int}{f:Nat}(h:visible p s l t=false∨idle t list gs):planFrom p s l list (f+1) t gs=planFrom p s l list f (t+1) gs:=by
 rw[planFrom]
 rcases h with h|h
 ·rw[h,if_neg (by simp)]
 ·rw[best_idle h];split<;>rfl
theorem planFrom_skip{p s l:Int}{list:List Request}{gs:List Int}:∀ (d f:Nat) {t:Int},(∀ u,t≤u→u<t+d→visible p s l u=false∨idle u list gs)→planFrom p s l list (f+d) t gs=planFrom p s l list f (t+d) gs
 | 0,f,t,_=>by simp
 | d+1,f,t,h=>by
  rw[← Nat.add_assoc,planFrom_skip1 (h t (Int.le_refl _) (by omega)),planFrom_skip d f (fun u hu hu'=>h u (by omega) (by omega))]
  congr 1;omega
theorem planFrom_none{p s l:Int}{list:List Request}{gs:List Int}(f:Nat){t:Int}(h:∀ u,t≤u→u<t+f→visible p s l u=false∨idle u list gs):planFrom p s l list f t gs=[]:=by
 have:=planFrom_skip f 0 h
 rw[Nat.zero_add]at this
 rw[this,planFrom]
theorem planFrom_hit{p s l t:Int}{list:List Request}{gs:List Int}{f k:Nat}{r:Request}(hv:visible p s l t=true)(hp:best t none 0 list gs=some (k,r)) :
  planFrom p s l list (f+1) t gs=⟨t,r.Id⟩::planFrom p s l list f (t+1) (lowered gs k):=by
 rw[planFrom,if_pos hv,hp]
end Go.Proofs.YtbaffippdifbpaaGreat
namespace Go.Proofs.YtbaffippdifbpaaGreat
set_option linter.unusedVariables false
open Go.ChangeShapes Go.WideShapes Go.ChangeAt Go.RowKit
/-! ### One step -/
def stepLeft(p s l:Int)(list:List Request)(t:Int)(gs:List Int):List Int :=
 if visible p s l t=true then(match best t none 0 list gs with|some (k,_)=>lowered gs k|none=>gs)else gs
def stepSlot(p s l:Int)(list:List Request)(t:Int)(gs:List Int):List Slot :=
 if visible p s l t=true then(match best t none 0 list gs with|some (_,r)=>[⟨t,r.Id⟩]|none=>[])else[]
def planEnd(p s l:Int)(list:List Request):Nat→Int→List Int→List Int
 | 0,_,gs=>gs
 | f+1,t,gs=>planEnd p s l list f (t+1) (stepLeft p s l list t gs)
theorem planFrom_step{p s l t:Int}{list:List Request}{gs:List Int}{f:Nat}:planFrom p s l list (f+1) t gs=stepSlot p s l list t gs++planFrom p s l list f (t+1) (stepLeft p s l list t gs):=by
 rw[planFrom,stepSlot,stepLeft]
 split
 ·cases best t none 0 list gs with
  | none=>rfl
  | some kr=>obtain⟨k,r⟩:=kr;rfl
 ·rfl
theorem step_cases(p s l t:Int)(list:List Request)(gs:List Int) :
  (stepSlot p s l list t gs=[]∧stepLeft p s l list t gs=gs∧(visible p s l t=true→∀ (i:Nat) r g,list[i]?=some r→gs[i]?=some g→wants t r g=false)) ∨
  (visible p s l t=true∧∃ (k:Nat) (r:Request) (g:Int),list[k]?=some r∧gs[k]?=some g∧wants t r g=true∧stepSlot p s l list t gs=[⟨t,r.Id⟩]∧stepLeft p s l list t gs=gs.set k (g - 1) ∧
   ∀ (i:Nat) r' g',list[i]?=some r'→gs[i]?=some g'→wants t r' g'=true→r.Deadline≤r'.Deadline):=by
 unfold stepSlot stepLeft
 cases hv:visible p s l t
 ·exact .inl ⟨by simp,by simp,by simp⟩
 ·cases hp:best t none 0 list gs with
  | none=>exact .inl ⟨by simp,by simp,fun _=>best_none hp⟩
  | some kr =>
   obtain⟨k,r⟩:=kr
   obtain⟨g,h1,h2,h3⟩:=best_some hp
   refine .inr ⟨rfl,k,r,g,h1,h2,h3,by simp,by simp[lowered,h2],fun i r' g' h4 h5 h6=>?_⟩
   obtain⟨j,b,h7,h8⟩:=(best_least (t:=t) (rs:=list) (gs:=gs) (o:=none) (k:=0)).1 i r' g' h4 h5 h6
   rw[hp]at h7
   simp only[Option.some.injEq,Prod.mk.injEq]at h7
   rw[h7.2];exact h8
def okLeft(list:List Request)(gs:List Int):Prop:=gs.length=list.length∧∀ g∈gs,0≤g
theorem okLeft_step{p s l t:Int}{list:List Request}{gs:List Int}(h:okLeft list gs):okLeft list (stepLeft p s l list t gs):=by
 rcases step_cases p s l t list gs with⟨-,h2,-⟩|⟨-,k,r,g,h1,h2,h3,-,h5,-⟩
 ·rw[h2];exact h
 ·rw[h5]
  refine⟨by simpa using h.1,fun x hx=>?_⟩
  rcases List.mem_or_eq_of_mem_set hx with hx|hx
  ·exact h.2 x hx
  ·have:=h.2 g (List.mem_of_getElem? h2)
   simp only[wants,Bool.and_eq_true,Bool.not_eq_true',beq_eq_false_iff_ne]at h3
   have:=h3.1
   omega
theorem wants_iff{t:Int}{r:Request}{g:Int}:wants t r g=true↔g≠0∧r.Ready≤t∧t≤r.Deadline:=by simp[wants,inB]
/-! ### The slots -/
theorem planFrom_mem{p s l:Int}{list:List Request}:∀ {f:Nat} {t:Int} {gs:List Int},∀ x∈planFrom p s l list f t gs,t≤x.Time∧x.Time<t+f∧visible p s l x.Time=true∧∃ r∈list,r.Id=x.Id∧inB x.Time r.Ready r.Deadline=true
 | 0,t,gs,x,hx=>by simp[planFrom]at hx
 | f+1,t,gs,x,hx=>by
  rw[planFrom_step,List.mem_append]at hx
  rcases hx with hx|hx
  ·rcases step_cases p s l t list gs with⟨h1,-,-⟩|⟨hv,k,r,g,h1,h2,h3,h4,-,-⟩
   ·rw[h1]at hx;simp at hx
   ·rw[h4,List.mem_singleton]at hx
    subst hx
    simp only[wants,Bool.and_eq_true]at h3
    exact⟨Int.le_refl _,by simp only;omega,hv,r,List.mem_of_getElem? h1,rfl,h3.2⟩
  ·obtain⟨h1,h2,h3⟩:=planFrom_mem x hx
   exact⟨by omega,by omega,h3⟩
def idsApart(list:List Request):Prop:=∀ (i j:Nat) r r',list[i]?=some r→list[j]?=some r'→r.Id=r'.Id→i=j
theorem slotsOf_append(id:Int):∀ (a b:List Slot),slotsOf id (a++b)=slotsOf id a+slotsOf id b
 | [],b=>by simp[slotsOf]
 | x::a,b=>by rw[List.cons_append,slotsOf,slotsOf,slotsOf_append id a b];omega
theorem count_step{p s l t:Int}{list:List Request}{gs:List Int}(ha:idsApart list){k:Nat}{r:Request}{g:Int}(h1:list[k]?=some r)(h2:gs[k]?=some g) :
  ∃ e,(stepLeft p s l list t gs)[k]?=some e∧(slotsOf r.Id (stepSlot p s l list t gs):Int)=g - e:=by
 rcases step_cases p s l t list gs with⟨h3,h4,-⟩|⟨-,j,r',g',h3,h4,-,h5,h6,-⟩
 ·exact⟨g,by rw[h4];exact h2,by rw[h3];simp[slotsOf]⟩
 ·rw[h5,h6]
  by_cases hj:j=k
  ·subst hj
   rw[h1]at h3;rw[h2]at h4
   cases h3;cases h4
   exact⟨g - 1,by rw[List.getElem?_set_self (List.getElem?_eq_some_iff.1 h2).1],by simp[slotsOf];omega⟩
  ·refine⟨g,by rw[List.getElem?_set_ne hj];exact h2,?_⟩
   have:¬ (r'.Id == r.Id)=true:=by
    intro h;exact hj (ha _ _ _ _ h3 h1 (by simpa using h))
   simp only[slotsOf,if_neg this];omega
theorem planEnd_count{p s l:Int}{list:List Request}(ha:idsApart list):∀ {f:Nat} {t:Int} {gs:List Int},okLeft list gs→∀ {k:Nat} {r:Request} {g:Int},list[k]?=some r→gs[k]?=some g →
  ∃ e,(planEnd p s l list f t gs)[k]?=some e∧(slotsOf r.Id (planFrom p s l list f t gs):Int)=g - e∧0≤e∧e≤g
 | 0,t,gs,ho,k,r,g,h1,h2=>⟨g,h2,by simp[planFrom,slotsOf],ho.2 g (List.mem_of_getElem? h2),Int.le_refl _⟩
 | f+1,t,gs,ho,k,r,g,h1,h2=>by
  obtain⟨e1,h3,h4⟩:=count_step (p:=p) (s:=s) (l:=l) (t:=t) ha h1 h2
  obtain⟨e,h5,h6,h7,h8⟩:=planEnd_count ha (f:=f) (t:=t+1) (okLeft_step (p:=p) (s:=s) (l:=l) (t:=t) ho) h1 h3
  refine⟨e,h5,?_,h7,?_⟩
  ·rw[planFrom_step,slotsOf_append];omega
  ·omega
theorem reqs_apart:∀ {l b:List Request},reqsFrom b l=true→idsApart l
 | [],_,_,i,j,r,r',h,_,_=>by simp at h
 | x::l,b,h,i,j,r,r',h1,h2,he=>by
  simp only[reqsFrom,Bool.and_eq_true]at h
  have hfr:=reqsFrom_free h.2.2.2.2.2
  match i,j with
  | 0,0=>rfl
  | 0,j+1 =>
   simp only[List.getElem?_cons_zero,Option.some.injEq]at h1
   subst h1
   exact absurd he (hfr r' (List.mem_of_getElem? (by simpa using h2)) x (by simp))
  | i+1,0 =>
   simp only[List.getElem?_cons_zero,Option.some.injEq]at h2
   subst h2
   exact absurd he.symm (hfr r (List.mem_of_getElem? (by simpa using h1)) x (by simp))
  | i+1,j+1=>rw[reqs_apart h.2.2.2.2.2 i j r r' (by simpa using h1) (by simpa using h2) he]
theorem requestsOk_apart{l:List Request}(h:requestsOk l=true):idsApart l:=by
 simp only[requestsOk,Bool.and_eq_true]at h
 exact reqs_apart h.2
theorem okLeft_needs{l:List Request}(h:requestsOk l=true):okLeft l (l.map (·.Need)):=by
 refine⟨by simp,fun g hg=>?_⟩
 obtain⟨r,hr,rfl⟩:=List.mem_map.1 hg
 have:=((requestsOk_mem h).2 r hr).2.2.2
 omega
def slotSum(plan:List Slot):List Request→Nat
 | []=>0
 | r::rs=>slotsOf r.Id plan+slotSum plan rs
theorem slotSum_none(x:Slot)(pl:List Slot):∀ {l:List Request},(∀ r∈l,r.Id≠x.Id)→slotSum (x::pl) l=slotSum pl l
 | [],_=>rfl
 | r::l,h=>by
  have h1:=h r (by simp)
  have:¬ (x.Id == r.Id)=true:=by simp;exact fun e=>h1 e.symm
  rw[slotSum,slotSum,slotSum_none x pl (fun q hq=>h q (by simp[hq])),slotsOf,if_neg this];omega
theorem slotSum_one(x:Slot)(pl:List Slot):∀ {l b:List Request},reqsFrom b l=true→(∃ r∈l,r.Id=x.Id)→slotSum (x::pl) l=slotSum pl l+1
 | [],_,_,h=>by obtain⟨r,hr,-⟩:=h;simp at hr
 | r::l,b,h,hx=>by
  have h':=h
  simp only[reqsFrom,Bool.and_eq_true]at h
  have hfr:=reqsFrom_free h.2.2.2.2.2
  by_cases he:r.Id=x.Id
  ·have:(x.Id == r.Id)=true:=by simp[he]
   rw[slotSum,slotSum,slotSum_none x pl (fun q hq hq2=>hfr q hq r (by simp) (by rw[he,hq2])),slotsOf,if_pos this];omega
  ·have:¬ (x.Id == r.Id)=true:=by simp;exact fun e=>he e.symm
   obtain⟨q,hq,hq2⟩:=hx
   rcases List.mem_cons.1 hq with rfl|hq
   ·exact absurd hq2 he
   ·rw[slotSum,slotSum,slotSum_one x pl h.2.2.2.2.2 ⟨q,hq,hq2⟩,slotsOf,if_neg this];omega
theorem slotSum_nil:∀ {l:List Request},slotSum [] l=0
 | []=>rfl
 | r::l=>by rw[slotSum,slotSum_nil];simp[slotsOf]
theorem slotSum_all{l:List Request}(h:requestsOk l=true):∀ {pl:List Slot},(∀ x∈pl,∃ r∈l,r.Id=x.Id)→slotSum pl l=pl.length
 | [],_=>slotSum_nil
 | x::pl,hx=>by
  simp only[requestsOk,Bool.and_eq_true]at h
  rw[slotSum_one x pl h.2 (hx x (by simp)),slotSum_all (by simp[requestsOk,h]) (fun y hy=>hx y (by simp[hy]))]
  rfl
end Go.Proofs.YtbaffippdifbpaaGreat
namespace Go.Proofs.YtbaffippdifbpaaGreat
set_option linter.unusedVariables false
open Go.ChangeShapes Go.WideShapes Go.ChangeAt Go.RowKit
end Go.Proofs.YtbaffippdifbpaaGreat
namespace Go.Proofs.YtbaffippdifbpaaGreat
set_option linter.unusedVariables false
open Go.ChangeShapes Go.WideShapes Go.ChangeAt Go.RowKit
theorem planAll_eq{p s l:Int}{list:List Request}(ok:orbitOk p s l=true)(hr:requestsOk list=true):planAll p s l list=planFrom p s l list 1000001 0 (list.map (·.Need)):=by
 unfold planAll
 rw[ok,hr,if_pos (by simp)]
theorem need_at{list:List Request}{k:Nat}{r:Request}(h:list[k]?=some r):(list.map (·.Need))[k]?=some r.Need:=by rw[List.getElem?_map,h];rfl
theorem plan_count{p s l:Int}{list:List Request}(ok:orbitOk p s l=true)(hr:requestsOk list=true){k:Nat}{r:Request}(h:list[k]?=some r) :
  ∃ e,(planEnd p s l list 1000001 0 (list.map (·.Need)))[k]?=some e∧(slotsOf r.Id (planAll p s l list):Int)=r.Need - e∧0≤e∧e≤r.Need:=by
 rw[planAll_eq ok hr]
 exact planEnd_count (requestsOk_apart hr) (okLeft_needs hr) h (need_at h)
theorem plan_le{p s l:Int}{list:List Request}(ok:orbitOk p s l=true)(hr:requestsOk list=true):∀ r∈list,(slotsOf r.Id (planAll p s l list):Int)≤r.Need:=fun r hm=>by
 obtain⟨k,hk⟩:=List.getElem?_of_mem hm
 obtain⟨e,-,h1,h2,-⟩:=plan_count (p:=p) (s:=s) (l:=l) ok hr hk
 omega
theorem plan_mem{p s l:Int}{list:List Request}:∀ x∈planAll p s l list,visible p s l x.Time=true∧∃ r∈list,r.Id=x.Id∧inB x.Time r.Ready r.Deadline=true:=fun x hx=>by
 unfold planAll at hx
 split at hx
 ·exact(planFrom_mem x hx).2.2
 ·simp at hx
theorem plan_sum{p s l:Int}{list:List Request}(hr:requestsOk list=true):slotSum (planAll p s l list) list=(planAll p s l list).length :=
 slotSum_all hr (fun x hx=>by obtain⟨-,r,h1,h2,-⟩:=plan_mem x hx;exact⟨r,h1,h2⟩)
end Go.Proofs.YtbaffippdifbpaaGreat
