/- The contracts of the draws: a cursor in memory of the call's own, and numbers within their bounds. No condition but on lengths. -/
import Derived.Test.YtbaffippdifbpaaGreatMM0
namespace Go.Proofs.YtbaffippdifbpaaGreat
set_option linter.unusedVariables false
open Go.ChangeShapes Go.WideShapes Go.ChangeAt Go.RowKit
def encByte(n:Int):List Value:=[.int .u8 n]
theorem Sl.byte{w:World}{a:Option Addr}{l:List Int}(h:Sl encByte w a l){k:Nat}(hk:k<l.length) :
  ∃ b off s,a=some ⟨b,off,none⟩∧LtN b w.heap.size∧Hid (l.drop k=s::l.drop (k+1))∧(∀ (W:World) [Grows w W],W.cell? ⟨b,off+k,none⟩=some (.int .u8 s)):=by
 obtain⟨s,hs,hd⟩:=drop_at hk
 obtain⟨b,off,ha,hb,hc⟩:=h k s hs
 exact⟨b,off,s,ha,⟨hb⟩,hd,cell_grown hb (by simpa[encByte]using hc 0 _ rfl)⟩
def isByte(n:Int):Prop:=0≤n∧n≤255
@[go_sem] theorem i64_and255(n:Int):bits .and .i64 n 255=n % 256:=by
 have h255:(BitVec.ofInt 64 255).toNat=2 ^ 8 - 1:=by decide
 have key:(BitVec.ofInt 64 n &&& BitVec.ofInt 64 255).toNat=(n % ((2 ^ 64:Nat):Int)).toNat % 2 ^ 8:=by
  rw[BitVec.toNat_and,BitVec.toNat_ofInt,h255,Nat.and_two_pow_sub_one_eq_mod]
 show IntKind.i64.wrap ((BitVec.ofInt 64 n &&& BitVec.ofInt 64 255).toNat:Nat)=n % 256
 rw[key,IntKind.wrap_i64]
 omega
structure IsCur(w:World)(p:Nat)(a:Option Addr)(n c:Nat)(l:List Int)(i:Nat):Prop where
 lt:LtN p w.heap.size
 c0:w.cell? ⟨p,0,none⟩=some (.slice a n c)
 c1:w.cell? ⟨p,1,none⟩=some (.int .i64 i)
 c2:∃ h:Int,w.cell? ⟨p,2,none⟩=some (.int .i64 h)
 f1:w.frozen? ⟨p,1,none⟩=false
 f2:w.frozen? ⟨p,2,none⟩=false
 le:i≤n
 len:l.length=n
 small:n≤1048576
 sl:Sl encByte w a l
 bytes:∀ x∈l,isByte x
 apart:∀ b off,a=some ⟨b,off,none⟩→0<l.length→b<p
theorem IsCur.alloc{w:World}{p:Nat}{a:Option Addr}{n c:Nat}{l:List Int}{i:Nat}(h:IsCur w p a n c l i)(o:Obj):IsCur (w.alloc o) p a n c l i:=by
 obtain⟨hlt,hc0,hc1,⟨hh,hc2⟩,hf1,hf2,hle,hlen,hsm,hsl,hby,hap⟩:=h
 exact⟨inferInstance,by rw[Later.cell_past];exact hc0,by rw[Later.cell_past];exact hc1,⟨hh,by rw[Later.cell_past];exact hc2⟩,by rw[Later.frozen_past];exact hf1,by rw[Later.frozen_past];exact hf2,hle,hlen,hsm,hsl.alloc o,hby,hap⟩
theorem Sl.lit{α:Type}{enc:α→List Value}{W:World}{cs:Array Value}{T size:Nat}{l:List α}(hsz:∀ x:α,(enc x).length=size)(h:cs.toList=l.flatMap enc):Sl enc (W.alloc (.cells cs T)) (some ⟨W.heap.size,0,none⟩) l:=fun k y hy=>by
 refine⟨W.heap.size,0,rfl,by simp,fun j v hv=>?_⟩
 rw[World.cell?_alloc_at _ _ _ _ rfl,← Array.getElem?_toList,h,hsz,Nat.zero_add]
 exact flatMap_at hsz l k j y v hy hv
theorem IsCur.kept{w W:World}{p:Nat}{a:Option Addr}{n c:Nat}{l:List Int}{i:Nat}(h:IsCur w p a n c l i)(hs:w.heap.size≤W.heap.size)(hb:∀ k,k≤p→W.heap[k]?=w.heap[k]?):IsCur W p a n c l i:=by
 obtain⟨hlt,hc0,hc1,⟨hh,hc2⟩,hf1,hf2,hle,hlen,hsm,hsl,hby,hap⟩:=h
 have hp:=hb p (Nat.le_refl _)
 refine⟨⟨Nat.lt_of_lt_of_le hlt.out hs⟩,by rw[World.cell?_of_block (w:=w) hp];exact hc0,by rw[World.cell?_of_block (w:=w) hp];exact hc1,⟨hh,by rw[World.cell?_of_block (w:=w) hp];exact hc2⟩,
  by simp only[World.frozen?,hp];exact hf1,by simp only[World.frozen?,hp];exact hf2,hle,hlen,hsm,fun k y hy=>?_,hby,hap⟩
 obtain⟨b,off,ha,hblt,hcell⟩:=hsl k y hy
 have hlt':=hap b off ha (Nat.lt_of_le_of_lt (Nat.zero_le k) (List.getElem?_eq_some_iff.1 hy).1)
 exact⟨b,off,ha,Nat.lt_of_lt_of_le hblt hs,fun j v hv=>by rw[World.cell?_of_block (w:=w) (hb b (Nat.le_of_lt hlt'))];exact hcell j v hv⟩
end Go.Proofs.YtbaffippdifbpaaGreat
