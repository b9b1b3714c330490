/- The contracts of CheckOf. No condition but on numbers. The contracts of EncodeEnd, EncodeSegment, SegmentOf. No condition but on numbers. Maps keyed by records: what a store and a look-up come to. -/
import Derived.Test.YtdinhfeflobafaaGreatSWord
import Derived.Test.YtdinhfeflobafaaGreatSM5
import Derived.Test.YtdinhfeflobafaaGreatSOkF
import Derived.Laws.StructEq
import Derived.MapKept
import Derived.Maps.Own
import Derived.Test.YtdinhfeflobafaaGreatSM0
import Derived.Test.YtdinhfeflobafaaGreatSCmdO
import Derived.Deep.RegionHeld3
import Derived.Test.YtdinhfeflobafaaGreatSPlanF
namespace Go.Proofs.YtdinhfeflobafaaGreat
set_option linter.unusedVariables false
open Go.ChangeShapes Go.WideShapes Go.ChangeAt Go.RowKit
def byteList(s:ByteArray):List Int:=s.data.toList.map (fun b=>(b.toNat:Int))
@[irreducible] def checkOf(s:ByteArray):Int:=crc 65535 (byteList s)
theorem checkOf_eq(s:ByteArray):checkOf s=crc 65535 (byteList s):=by unfold checkOf;rfl
theorem crc_cons(n b:Int)(l:List Int):crc n (b::l)=crc (crcBits 8 (bits .xor .i64 n (256*b))) l:=by with_unfolding_all rfl
theorem crc_nil(n:Int):crc n []=n:=by with_unfolding_all rfl
theorem byteList_len(s:ByteArray):(byteList s).length=s.size:=by simp[byteList]
theorem byteList_at{s:ByteArray}{k:Nat}(h:k<s.size):((s[k]'h).toNat:Int)≤255∧(byteList s).drop k=((s[k]'h).toNat:Int)::(byteList s).drop (k+1):=by
 refine⟨?_,?_⟩
 ·have:=(s[k]'h).toNat_lt;omega
 ·have hk:k<(byteList s).length:=by rw[byteList_len];exact h
  rw[List.drop_eq_getElem_cons hk]
  congr 1
  simp[byteList];rfl
set_option maxRecDepth 100000 in
set_option maxHeartbeats 2000000 in
theorem c_iCheckOf{s:ByteArray}{w:World}(hm:s.size≤4611686018427387904) :
  Calls Tryz.prog 212 #[.string s] w (Gives w (.int .i64 (checkOf s))):=by
 have hlen:=byteList_len s
 have HC:=lH (show checkOf s=crc 65535 (byteList s)from checkOf_eq s)
 go_enter Tryz.func212,Tryz.ntmps212
 go_wp2_with (first|((with_reducible refine wp_region_later (by kernel_rfl) (by kernel_rfl) ?_);(repeat(first|go_big_quiet_step (first|fail)));refine wpQuiet_nil ?_;rintro _ ⟨x,rfl⟩))
 go_loopw [3,4] (fun u v wr=>∃ (k:Nat) (m:Int),v=.int .i64 k∧u=.int .i64 m∧k≤s.size∧0≤m∧m≤65535∧Hid (crc m ((byteList s).drop k)=checkOf s)∧∃ x:Later w,wr=x.w) (fun _ v _=>(s.size - intOf v).toNat)
 case atStart=>exact⟨0,65535,rfl,rfl,by omega,by omega,by omega,by rw[HC.out];rfl,Later.of⟩
 case round =>
  obtain⟨k,m,rfl,rfl,hk,hm0,hm1,hf,x0,rfl⟩:=hrel
  by_cases h:k<s.size
  ·obtain⟨hb1,hd⟩:=byteList_at h
   have⟨hx0,hx1⟩:=xor_bd hm0 hm1 (show 0≤256*((s[k]'h).toNat:Int)by omega) (show 256*((s[k]'h).toNat:Int)≤65535 by omega)
   go_wp2_with (first|((with_reducible refine wp_region_later (by kernel_rfl) (by kernel_rfl) ?_);(repeat(first|go_big_quiet_step (first|fail)));refine wpQuiet_nil ?_;rintro _ ⟨x,rfl⟩))
   go_loopw [3,5] (fun u v wr=>∃ (j:Nat) (m1:Int),v=.int .i64 j∧u=.int .i64 m1∧j≤8∧0≤m1∧m1≤65535∧Hid (crcBits (8 - j) m1=crcBits 8 (bits .xor .i64 m (256*((s[k]'h).toNat:Int))))∧∃ y:Later x0.w,wr=y.w) (fun _ v _=>(8 - intOf v).toNat)
   case atStart=>exact⟨0,_,rfl,rfl,by omega,hx0,hx1,by simp[Hid],Later.of⟩
   case round =>
    obtain⟨j,m1,rfl,rfl,hj,hn0,hn1,hg,y,rfl⟩:=hrel
    by_cases h2:j<8
    ·have ht:=and_top hn0 hn1
     have⟨hc0,hc1⟩:=crcBit_bd hn0 hn1
     cases c1:decide (32768≤m1)
     ·go_wp2_with (first|((with_reducible refine wp_region_later (by kernel_rfl) (by kernel_rfl) ?_);(repeat(first|go_big_quiet_step (first|fail)|simp only[c1]|simp only[ht]));refine wpQuiet_nil ?_;rintro _ ⟨x,rfl⟩))
      go_roundw
      case rel=>exact⟨j+1,crcBit m1,by go_num,by simp only[crcBit,if_neg (show ¬ 32768≤m1 by simpa using c1),Int.mul_comm m1 2],by omega,hc0,hc1,by have:=hg.out;rw[show 8 - j=(8 - (j+1))+1 by omega,crcBits]at this;exact this,Later.of⟩
      case measure=>simp[intOf];omega
     ·go_wp2_with (first|((with_reducible refine wp_region_later (by kernel_rfl) (by kernel_rfl) ?_);(repeat(first|go_big_quiet_step (first|fail)|simp only[c1]|simp only[ht]));refine wpQuiet_nil ?_;rintro _ ⟨x,rfl⟩))
      go_roundw
      case rel=>exact⟨j+1,crcBit m1,by go_num,by simp only[crcBit,if_pos (show 32768≤m1 by simpa using c1)],by omega,hc0,hc1,by have:=hg.out;rw[show 8 - j=(8 - (j+1))+1 by omega,crcBits]at this;exact this,Later.of⟩
      case measure=>simp[intOf];omega
    ·have:j=8:=by omega
     subst this
     have hm1:=lH (show crcBits 8 (bits .xor .i64 m (256*((s[k]'h).toNat:Int)))=m1 by rw[← hg.out];rfl)
     go_wp2_with (first|((with_reducible refine wp_region_later (by kernel_rfl) (by kernel_rfl) ?_);(repeat(first|go_big_quiet_step (first|fail)));refine wpQuiet_nil ?_;rintro _ ⟨x,rfl⟩))
     go_roundw
     case rel=>exact⟨k+1,m1,by go_num,rfl,by omega,hn0,hn1,by have:=hf.out;rw[hd,crc_cons,hm1.out]at this;exact lH this,Later.of⟩
     case measure=>simp[intOf];omega
  ·go_wp2_with (first|((with_reducible refine wp_region_later (by kernel_rfl) (by kernel_rfl) ?_);(repeat(first|go_big_quiet_step (first|fail)));refine wpQuiet_nil ?_;rintro _ ⟨x,rfl⟩))
   go_ret
   exact Gives.mk (by have:=hf.out;rw[List.drop_of_length_le (by omega),crc_nil]at this;rw[← this];rfl)
@[go_sem] theorem word1_size(n:Int):(word1 n).size=1:=rfl
@[go_sem] theorem word2_size(n:Int):(word2 n).size=2:=rfl
def wordM(m n:Int):ByteArray:=if m=1 then word1 n else word2 n
@[go_sem] theorem wordM_one(n:Int):wordM 1 n=word1 n:=rfl
@[go_sem] theorem wordM_two(n:Int):wordM 2 n=word2 n:=rfl
theorem crcBits_bd:∀ (k:Nat) {n:Int},0≤n→n≤65535→0≤crcBits k n∧crcBits k n≤65535
 | 0,n,h0,h1=>⟨h0,h1⟩
 | k+1,n,h0,h1=>crcBits_bd k (crcBit_bd h0 h1).1 (crcBit_bd h0 h1).2
theorem crc_bd:∀ (l:List Int) {n:Int},(∀ b∈l,0≤b∧b≤255)→0≤n→n≤65535→0≤crc n l∧crc n l≤65535
 | [],n,_,h0,h1=>by rw[crc_nil];exact⟨h0,h1⟩
 | b::l,n,h,h0,h1=>by
  rw[crc_cons]
  have hb:=h b (by simp)
  have hx:=xor_bd h0 h1 (show 0≤256*b by omega) (show 256*b≤65535 by omega)
  have hc:=crcBits_bd 8 hx.1 hx.2
  exact crc_bd l (fun c hc=>h c (by simp[hc])) hc.1 hc.2
theorem checkOf_bd(s:ByteArray):0≤checkOf s∧checkOf s≤65535:=by
 rw[checkOf_eq]
 refine crc_bd _ (fun b hb=>?_) (by omega) (by omega)
 obtain⟨u,-,rfl⟩:=List.mem_map.1 hb
 have:=u.toNat_lt
 omega
def segOf(s:ByteArray)(k:Int):ByteArray:=if inB k 0 (countSeg s.size - 1)=true then s.extract (24*k).toNat (min (24*k+24) s.size).toNat else⟨#[]⟩
def recV(x:TRecord):Value:=.agg #[.int .i64 x.Id,.int .i64 x.Priority,.int .i64 x.Time,.string x.Data]
def recEq(x y:TRecord):Bool:=(x.Id == y.Id) && ((x.Priority == y.Priority) && ((x.Time == y.Time) && (x.Data.toList == y.Data.toList)))
theorem recEq_eq{x y:TRecord}(h:recEq x y=true):x=y:=by
 simp only[recEq,Bool.and_eq_true,beq_iff_eq]at h
 obtain⟨h1,h2,h3,h4⟩:=h
 have h5:x.Data=y.Data:=by
  rw[ByteArray.toList_eq,ByteArray.toList_eq]at h4
  cases x;cases y
  rename_i a _ _ _ b
  simp only at h4 ⊢
  exact ByteArray.ext (Array.ext' h4)
 cases x;cases y
 simp_all
theorem run_recEq(x y:TRecord)(d:Nat)(w:World):(Op.equalIn (d+2) 164 (recV x) (recV y)).run Tryz.prog w=.ok (recEq x y) w:=by
 have hu:=Tryz.underlying164
 rw[recV,recV,show d+2=(d+1)+1 from rfl,run_equalIn_struct w (d+1) _ _ _ (by kernel_rfl) (by kernel_rfl)]
 cases h1:(x.Id == y.Id)
 ·simp[go_sem,h1,recEq]
 cases h2:(x.Priority == y.Priority)
 ·simp[go_sem,h1,h2,recEq]
 cases h3:(x.Time == y.Time)
 ·simp[go_sem,h1,h2,h3,recEq]
 cases h4:(x.Data.toList == y.Data.toList)
 ·have h5:¬ x.Data.toList=y.Data.toList:=by simpa using h4
  simp[go_sem,h1,h2,h3,h5,recEq]
 ·have h5:x.Data.toList=y.Data.toList:=by simpa using h4
  simp[go_sem,h1,h2,h3,h5,recEq]
def Ents:List MapEntry→List TRecord→Prop
 | [],[]=>True
 | e::es,r::rs=>(e.key=recV r∧e.val=.bool true)∧Ents es rs
 | _,_=>False
def idxR(x:TRecord):List TRecord→Nat→Option Nat
 | [],_=>none
 | r::rs,i=>if recEq x r=true then some i else idxR x rs (i+1)
theorem run_findAsk(x:TRecord)(w:World):∀ (es:List MapEntry) (rs:List TRecord) (i:Nat),Ents es rs →
  (Instr.findAsking 164 (recV x) es i).run Tryz.prog w=.ok ((idxR x rs i).map (fun j=>(j,Value.bool true))) w
 | [],[],i,_=>rfl
 | [],_::_,_,h=>h.elim
 | _::_,[],_,h=>h.elim
 | e::es,r::rs,i,h=>by
  obtain⟨⟨h1,h2⟩,h3⟩:=h
  have he:(Op.equal 164 (recV x) e.key).run Tryz.prog w=.ok (recEq x r) w:=by rw[h1];exact run_recEq x r 9998 w
  rw[Instr.findAsking,Sem.run_bind,he,Result.andThen_ok,idxR]
  cases hr:recEq x r
  ·simp only[Bool.false_eq_true,if_false]
   exact run_findAsk x w es rs (i+1) h3
  ·simp only[if_true,h2]
   rfl
theorem run_findR(x:TRecord)(w:World){es:List MapEntry}{rs:List TRecord}(h:Ents es rs) :
  (Instr.findKey 164 (recV x) es).run Tryz.prog w=.ok ((idxR x rs 0).map (fun j=>(j,Value.bool true))) w:=by
 rw[Instr.findKey,Sem.run_bind,run_underlying Tryz.underlying164,Result.andThen_ok]
 cases es with
 | nil=>cases rs with
  | nil=>rfl
  | cons r rs=>exact h.elim
 | cons e es =>
  rw[show ∀ d,Instr.findNow (.struct d) (recV x) (e::es) 0=none from fun d=>by rw[Instr.findNow];simp[Instr.sameNow]]
  exact run_findAsk x w (e::es) rs 0 h
theorem run_keyR(b:Bool)(x:TRecord)(d:Nat)(w:World):(Instr.checkKey b (d+2) 164 (recV x)).run Tryz.prog w=.ok () w:=by
 have hu:=Tryz.underlying164
 have h3:=Tryz.underlying3
 have h9:=Tryz.underlying9
 rw[recV,show d+2=(d+1)+1 from rfl,Instr.checkKey,Sem.run_bind,run_underlying hu,Result.andThen_ok]
 simp[go_sem,Instr.checkKey]
def MapR(w:World)(b:Nat)(rs:List TRecord):Prop:=∃ es clock,w.heap[b]?=some (.map es clock)∧Ents es.toList rs
theorem MapR.lt{w:World}{b:Nat}{rs:List TRecord}(h:MapR w b rs):b<w.heap.size:=by
 obtain⟨es,c,h,-⟩:=h
 exact(Array.getElem?_eq_some_iff.1 h).1
theorem MapR.to{w W:World}{b:Nat}{rs:List TRecord}(h:MapR w b rs)(g:Grows w W):MapR W b rs:=by
 have hl:=h.lt
 obtain⟨es,c,h,h2⟩:=h
 exact⟨es,c,by rw[g.out.block b hl];exact h,h2⟩
theorem run_lookupR{w:World}{b:Nat}{rs:List TRecord}(h:MapR w b rs)(x:TRecord) :
  (Instr.lookup 165 (.map (some b)) (recV x) false).run Tryz.prog w=.ok (.bool (rs.any (recEq x))) w:=by
 obtain⟨es,c,h1,h2⟩:=h
 have hany:∀ (rs:List TRecord) (i:Nat),(idxR x rs i).isSome=rs.any (recEq x):=by
  intro rs
  induction rs with
  | nil=>intro i;rfl
  | cons r rs ih=>intro i;rw[idxR,List.any_cons];cases hr:recEq x r<;>simp[ih]
 have hg:(getObj b).run Tryz.prog w=.ok (.map es c) w:=by simp[getObj,Sem.run,h1]
 rw[Instr.lookup,Sem.run_bind,run_underlying Tryz.underlying165,Result.andThen_ok]
 simp only[Sem.run_bind,hg,Result.andThen_ok,Sem.run_pure,run_keyR _ x 9998 w,run_findR x w h2]
 have:=hany rs 0
 cases hi:idxR x rs 0 with
 | none=>rw[hi]at this;rw[← this];simp[go_sem]
 | some j=>rw[hi]at this;rw[← this];simp[go_sem]
theorem idxR_some{x:TRecord}:∀ {rs:List TRecord} {i j:Nat},idxR x rs i=some j→i≤j∧rs[j - i]?=some x
 | [],_,_,h=>by cases h
 | r::rs,i,j,h=>by
  rw[idxR]at h
  split at h
  ·rename_i hr
   cases h
   rw[recEq_eq hr]
   simp
  ·obtain⟨h1,h2⟩:=idxR_some h
   refine⟨by omega,?_⟩
   rw[show j - i=(j - (i+1))+1 from by omega,List.getElem?_cons_succ]
   exact h2
theorem Ents.set{x:TRecord}{q:MapEntry}(hq:q.key=recV x∧q.val=.bool true):∀ {es:List MapEntry} {rs:List TRecord} {j:Nat},Ents es rs→rs[j]?=some x→Ents (es.set j q) rs
 | [],[],_,_,h=>by cases h
 | [],_::_,_,h,_=>h.elim
 | _::_,[],_,h,_=>h.elim
 | e::es,r::rs,0,h,hx=>by simp at hx;subst hx;exact⟨hq,h.2⟩
 | e::es,r::rs,j+1,h,hx=>by simp at hx;exact⟨h.1,h.2.set hq hx⟩
theorem Ents.push{x:TRecord}{q:MapEntry}(hq:q.key=recV x∧q.val=.bool true):∀ {es:List MapEntry} {rs:List TRecord},Ents es rs→Ents (es++[q]) (rs++[x])
 | [],[],_=>⟨hq,trivial⟩
 | [],_::_,h=>h.elim
 | _::_,[],h=>h.elim
 | e::es,r::rs,h=>⟨h.1,h.2.push hq⟩
def addR(rs:List TRecord)(x:TRecord):List TRecord:=if rs.any (recEq x)=true then rs else rs++[x]
theorem anyR(x:TRecord)(rs:List TRecord):∀ (i:Nat),(idxR x rs i).isSome=rs.any (recEq x):=by
 induction rs with
 | nil=>intro i;rfl
 | cons r rs ih=>intro i;rw[idxR,List.any_cons];cases hr:recEq x r<;>simp[ih]
theorem Ents.get{x:TRecord}:∀ {es:List MapEntry} {rs:List TRecord} {j:Nat},Ents es rs→rs[j]?=some x→∃ e,es[j]?=some e∧e.key=recV x∧e.val=.bool true
 | [],[],_,_,h=>by cases h
 | [],_::_,_,h,_=>h.elim
 | _::_,[],_,h,_=>h.elim
 | e::es,r::rs,0,h,hx=>by simp at hx;subst hx;exact⟨e,rfl,h.1⟩
 | e::es,r::rs,j+1,h,hx=>by simp at hx;exact h.2.get hx
theorem same_recV(x:TRecord)(d:Nat):Instr.sameBits (d+2) (recV x) (recV x)=true:=by
 have h:∀ s:ByteArray,(s == s)=true:=fun s=>by rw[beq_toListBytes];simp
 simp[recV,Instr.sameBits,h]
theorem run_updateR{w:World}{b:Nat}{rs:List TRecord}(h:MapR w b rs)(x:TRecord) :
  ∃ w',(Instr.mapUpdate 165 (.map (some b)) (recV x) (.bool true)).run Tryz.prog w=.ok () w'∧MapR w' b (addR rs x)∧∃ o,w'={ w with heap:=w.heap.setIfInBounds b o }:=by
 have hb:=h.lt
 obtain⟨es,c,h1,h2⟩:=h
 have hg:(getObj b).run Tryz.prog w=.ok (.map es c) w:=by simp[getObj,Sem.run,h1]
 have hs:∀ o,(setObj b o).run Tryz.prog w=.ok () { w with heap:=w.heap.setIfInBounds b o }:=fun o=>by simp[setObj,Sem.run,h1]
 have ha:=anyR x rs 0
 rw[Instr.mapUpdate,Sem.run_bind,run_underlying Tryz.underlying165,Result.andThen_ok]
 simp only[Sem.run_bind,hg,Result.andThen_ok,run_keyR _ x 9998 w,run_findR x w h2]
 cases hi:idxR x rs 0 with
 | none =>
  rw[hi]at ha
  simp only[Option.map_none]
  refine⟨_,hs _,⟨_,_,by simp[hb];exact⟨rfl,rfl⟩,?_⟩,_,rfl⟩
  rw[addR,← ha,if_neg (by simp),Array.toList_push]
  exact h2.push ⟨rfl,rfl⟩
 | some j =>
  rw[hi]at ha
  obtain⟨-,hj⟩:=idxR_some hi
  rw[Nat.sub_zero]at hj
  obtain⟨e,he,hk,hv⟩:=h2.get hj
  have hke:((es[j]?).map (·.key)).getD (recV x)=recV x:=by
   rw[← Array.getElem?_toList,he];exact hk
  simp only[Option.map_some,Sem.run_bind,hke,Instr.keyThatStays,same_recV x 9998,if_true,Sem.run_pure,Result.andThen_ok]
  refine⟨_,hs _,⟨_,_,by simp[hb];exact⟨rfl,rfl⟩,?_⟩,_,rfl⟩
  rw[addR,← ha,if_pos (by simp),Array.toList_modify]
  have hl:j<es.toList.length:=(List.getElem?_eq_some_iff.1 he).1
  have hm:∀ (l:List MapEntry) (j:Nat) (e:MapEntry) (f:MapEntry→MapEntry),l[j]?=some e→l.modify j f=l.set j (f e):=by
   intro l
   induction l with
   | nil=>intro j e f h;cases h
   | cons a l ih =>
    intro j e f h
    cases j with
    | zero=>simp at h;subst h;rfl
    | succ j=>simp at h;simp[ih j e f h]
  rw[hm _ _ e _ he]
  exact h2.set ⟨rfl,rfl⟩ hj
theorem addR_any(rs:List TRecord)(x y:TRecord):(addR rs y).any (recEq x)=(rs.any (recEq x) || recEq x y):=by
 rw[addR]
 split
 ·rename_i h
  cases hx:recEq x y
  ·rw[Bool.or_false]
  ·have:=recEq_eq hx
   subst this
   rw[h];rfl
 ·rw[List.any_append]
  simp
theorem MapR.new(W:World)(b:Nat)(hb:W.heap.size=b):MapR (W.alloc (.map #[] 0)) b []:=⟨#[],0,by subst hb;rw[blk_alloc W _ _ rfl],trivial⟩
@[go_sem] theorem run_makeMapR(w:World):(Instr.makeMap 165 none).run Tryz.prog w=.ok (.map (some w.heap.size)) (w.alloc (.map #[] 0)):=by
 simp[Instr.makeMap,go_sem]
theorem MapR.notOwn{α:Type}{enc:α→List Value}{T size B n:Nat}{w:World}{a:Option Addr}{c b:Nat}{l:List α}{rs:List TRecord}(hb:MapR w b rs)(h:Own enc T size B w a c l):some b≠Value.ownBlock (.slice a n c):=by
 obtain⟨es,clk,hb,-⟩:=hb
 obtain⟨-,-,⟨h1,-⟩|⟨g,cap,cur,hv,-,hh,-⟩⟩:=h
 ·simp only[Value.slice.injEq]at h1;obtain⟨rfl,-⟩:=h1;simp[Value.ownBlock]
 ·simp only[Value.slice.injEq]at hv;obtain⟨rfl,-⟩:=hv
  simp only[Value.ownBlock,ne_eq,Option.some.injEq]
  rintro rfl
  rw[hb]at hh
  simp at hh
theorem MapR.kept{α:Type}{enc:α→List Value}{T size B n:Nat}{w w':World}{a:Option Addr}{c b:Nat}{l:List α}{rs:List TRecord}(hb:MapR w b rs)(h:Own enc T size B w a c l)(hg:w.grownBy w' (Value.ownBlock (.slice a n c))):MapR w' b rs:=by
 have hne:=hb.notOwn (n:=n) h
 have hl:=hb.lt
 obtain⟨es,clk,hb,he⟩:=hb
 exact⟨es,clk,by rw[hg.block b hl hne];exact hb,he⟩
theorem Own.mapped{α:Type}{enc:α→List Value}{T size B:Nat}{w w':World}{a:Option Addr}{c b:Nat}{l:List α}{rs:List TRecord}(h:Own enc T size B w a c l)(hb:MapR w b rs)(hw:∃ o,w'={ w with heap:=w.heap.setIfInBounds b o }):Own enc T size B w' a c l:=by
 obtain⟨o,rfl⟩:=hw
 refine⟨h.1,h.2.kept (row:=some b) ⟨rfl,rfl,rfl,by simp,fun k hk hr=>?_⟩ (.inr (fun e=>hb.notOwn (n:=l.length) h e.symm))⟩
 have:b≠k:=fun e=>hr (by rw[e])
 show(w.heap.setIfInBounds b o)[k]?=_
 rw[Array.getElem?_setIfInBounds_ne this]
theorem Later.mapped{W w w':World}{b:Nat}(hw:∃ o,w'={ w with heap:=w.heap.setIfInBounds b o })(g:Grows W w)(hb:W.heap.size≤b):∃ y:Later W,w'=y.w:=by
 obtain⟨o,rfl⟩:=hw
 refine⟨⟨_,?_⟩,rfl⟩
 have h:=g.out
 refine⟨h.os,h.tape,h.output,by simpa using h.size,fun k hk=>?_⟩
 show(w.heap.setIfInBounds b o)[k]?=_
 rw[Array.getElem?_setIfInBounds_ne (by omega)]
 exact h.block k hk
section
variable {ops:Array Oper} {rest:List Oper} {op:Oper} {a:Act} {w:World} {Q:Exit→Act→World→Prop}
theorem wpList_mapR(hgd:op.guard=none)(m k v:Operand)(ho:op.op=.mapUpdate 165 m k v){b:Nat}{rs:List TRecord}{x:TRecord}(hm:a.eval m=.map (some b))(hk:a.eval k=recV x)(hv:a.eval v=.bool true)(H:MapR w b rs)
  (h:∀ w',MapR w' b (addR rs x)→(∃ o,w'={ w with heap:=w.heap.setIfInBounds b o })→wpList Tryz.prog ops Q rest (a.put op.dst undef) w'):wpList Tryz.prog ops Q (op::rest) a w:=by
 refine wpList_plain hgd fun K hK=>?_
 obtain⟨w',hrun,r1,r2⟩:=run_updateR H x
 unfold Oper.wp
 simp[execOp,ho,hm,hk,hv,hrun,Result.andThen]
 exact hK _ _ (h w' r1 r2)
end
section
variable {ops:Array Oper} {C:World→Prop} {Q:Act→Prop} {o:Oper} {rest:List Oper} {a:Act}
theorem quiet_lookupR(hg:o.guard=none)(m k:Operand)(ho:o.op=.lookup 165 m k false){b:Nat}{rs:List TRecord}{x:TRecord}(hm:a.eval m=.map (some b))(hk:a.eval k=recV x)(hS:∀ w,C w→MapR w b rs)
  (h:wpQuiet Tryz.prog ops C Q rest (a.put o.dst (.bool (rs.any (recEq x))))):wpQuiet Tryz.prog ops C Q (o::rest) a :=
 BigFrame.wpQuiet_want (by simp[Region.wanted,hg]) fun K hK=>⟨.bool (rs.any (recEq x)),fun w hw=>by
  have hrun:=run_lookupR (hS w hw) x
  unfold Oper.quietAt
  simp[execOp,ho,hm,hk,hrun,Result.andThen]
  exact⟨rfl,rfl⟩,hK _ h⟩
end
def digs(k:Nat)(acc:ByteArray):ByteArray:=if h:k=0 then acc else digs (k / 10) (strOfNums [48+(k:Int) % 10]++acc)
termination_by k
decreasing_by omega
def markTx(k:Int):ByteArray:=if k≤0 then⟨#[109,48]⟩else⟨#[109]⟩++digs k.toNat ⟨#[]⟩
def mkStr(k0:Int)(i:Nat):ByteArray:=markTx (k0+i)
def shortAll(p:List ByteArray):Bool:=p.all (fun s=>decide (s.size≤24))
def fileInOk(f z k:Int)(p:List ByteArray):Bool:=inB f 0 7 && (inB z (-1) 600 && (inB k (-1) 65535 && (((z == -1) == (k == -1)) && (decide (p.length=25) && shortAll p))))
set_option maxRecDepth 100000 in
set_option maxHeartbeats 2000000 in
theorem c_iFileInOk{a:Option Addr}{n c:Nat}{f z k:Int}{p:List ByteArray}{w:World}(hs:Sl encStr w a p)(hn:p.length=n)(hm:n≤4611686018427387904)(hsz:∀ s∈p,s.size≤100000000) :
  Calls Tryz.prog 211 #[.agg #[.int .i64 f,.int .i64 z,.int .i64 k,.slice a n c]] w (Gives w (.bool (fileInOk f z k p))):=by
 have HS:=lH hsz;clear hsz
 have HF:=lH (show fileInOk f z k p=(inB f 0 7 && (inB z (-1) 600 && (inB k (-1) 65535 && (((z == -1) == (k == -1)) && (decide (n=25) && shortAll p)))))by rw[fileInOk,hn])
 cases c1:inB f 0 7
 ·go_enter Tryz.func211,Tryz.ntmps211
  go_wp2_with (first|((with_reducible refine wp_region_later (by kernel_rfl) (by kernel_rfl) ?_);(repeat(first|go_big_quiet_step (first|(go_at_call 85;exact Gives.quiet (c_ibetween)))|simp only[c1]));refine wpQuiet_nil ?_;rintro _ ⟨x,rfl⟩)|(go_at_call 85;refine(c_ibetween).mono ?_;rintro _ _ ⟨rfl,x,rfl⟩))
  go_ret
  exact Gives.mk (by rw[HF.out,c1];rfl)
 cases c2:inB z (-1) 600
 ·go_enter Tryz.func211,Tryz.ntmps211
  go_wp2_with (first|((with_reducible refine wp_region_later (by kernel_rfl) (by kernel_rfl) ?_);(repeat(first|go_big_quiet_step (first|(go_at_call 85;exact Gives.quiet (c_ibetween)))|simp only[c1]|simp only[c2]));refine wpQuiet_nil ?_;rintro _ ⟨x,rfl⟩)|(go_at_call 85;refine(c_ibetween).mono ?_;rintro _ _ ⟨rfl,x,rfl⟩))
  go_ret
  exact Gives.mk (by rw[HF.out,c1,c2];rfl)
 cases c3:inB k (-1) 65535
 ·go_enter Tryz.func211,Tryz.ntmps211
  go_wp2_with (first|((with_reducible refine wp_region_later (by kernel_rfl) (by kernel_rfl) ?_);(repeat(first|go_big_quiet_step (first|(go_at_call 85;exact Gives.quiet (c_ibetween)))|simp only[c1]|simp only[c2]|simp only[c3]));refine wpQuiet_nil ?_;rintro _ ⟨x,rfl⟩)|(go_at_call 85;refine(c_ibetween).mono ?_;rintro _ _ ⟨rfl,x,rfl⟩))
  go_ret
  exact Gives.mk (by rw[HF.out,c1,c2,c3];rfl)
 cases c4:((z == -1) == (k == -1))
 ·have c5:((z == -1) != (k == -1))=true:=by rw[bne,c4];rfl
  go_enter Tryz.func211,Tryz.ntmps211
  go_wp2_with (first|((with_reducible refine wp_region_later (by kernel_rfl) (by kernel_rfl) ?_);(repeat(first|go_big_quiet_step (first|(go_at_call 85;exact Gives.quiet (c_ibetween)))|simp only[c1]|simp only[c2]|simp only[c3]|simp only[c5]));refine wpQuiet_nil ?_;rintro _ ⟨x,rfl⟩)|(go_at_call 85;refine(c_ibetween).mono ?_;rintro _ _ ⟨rfl,x,rfl⟩))
  go_ret
  exact Gives.mk (by rw[HF.out,c1,c2,c3,c4];rfl)
 have c5:((z == -1) != (k == -1))=false:=by rw[bne,c4];rfl
 have HF2:=lH (show fileInOk f z k p=(decide (n=25) && shortAll p)by rw[HF.out,c1,c2,c3,c4];rfl)
 clear HF
 by_cases h6:n=25
 ·have c6:((n:Int) != 25)=false:=by simp;omega
  have HF3:=lH (show fileInOk f z k p=shortAll p by rw[HF2.out,h6];rfl)
  clear HF2 h6
  go_enter Tryz.func211,Tryz.ntmps211
  go_wp2_with (first|((with_reducible refine wp_region_later (by kernel_rfl) (by kernel_rfl) ?_);(repeat(first|go_big_quiet_step (first|(go_at_call 85;exact Gives.quiet (c_ibetween)))|simp only[c1]|simp only[c2]|simp only[c3]|simp only[c5]|simp only[c6]));refine wpQuiet_nil ?_;rintro _ ⟨x,rfl⟩)|(go_at_call 85;refine(c_ibetween).mono ?_;rintro _ _ ⟨rfl,x,rfl⟩))
  go_loopw [37] (fun v wr=>∃ k:Nat,v=.int .i64 k∧k≤n∧Hid (shortAll (p.drop k)=shortAll p)∧∃ x:Later w,wr=x.w) (fun v _=>(n - intOf v).toNat)
  case atStart=>exact⟨0,rfl,by omega,rfl,Later.of⟩
  case round =>
   obtain⟨k,rfl,hk,hf,x,rfl⟩:=hrel
   by_cases h:k<n
   ·obtain⟨b,off,s,rfl,hb,hd,h0⟩:=hs.str (show k<p.length by omega)
    have hsm:s.size≤100000000:=HS.out s (List.mem_of_mem_drop (by rw[hd.out];exact List.mem_cons_self ..))
    by_cases h7:24<s.size
    ·go_wp2_with (first|((with_reducible refine wp_region_later (by kernel_rfl) (by kernel_rfl) ?_);(repeat(first|go_big_quiet_step (first|fail)));refine wpQuiet_nil ?_;rintro _ ⟨x,rfl⟩))
     go_ret
     exact Gives.mk (by have:=hf.out;rw[hd.out,shortAll,List.all_cons,decide_eq_false (by omega)]at this;rw[HF3.out,← this];rfl)
    ·go_wp2_with (first|((with_reducible refine wp_region_later (by kernel_rfl) (by kernel_rfl) ?_);(repeat(first|go_big_quiet_step (first|fail)));refine wpQuiet_nil ?_;rintro _ ⟨x,rfl⟩))
     go_roundw
     case rel=>exact⟨k+1,by go_num,by omega,by have:=hf.out;rw[hd.out,shortAll,List.all_cons,decide_eq_true (by omega)]at this;exact this,Later.of⟩
     case measure=>simp[intOf];omega
   ·go_wp2_with (first|((with_reducible refine wp_region_later (by kernel_rfl) (by kernel_rfl) ?_);(repeat(first|go_big_quiet_step (first|fail)));refine wpQuiet_nil ?_;rintro _ ⟨x,rfl⟩))
    go_ret
    exact Gives.mk (by have:=hf.out;rw[List.drop_of_length_le (by omega)]at this;rw[HF3.out,← this];rfl)
 ·have c6:((n:Int) != 25)=true:=by simp;omega
  have HF3:=lH (show fileInOk f z k p=false by rw[HF2.out,decide_eq_false h6];rfl)
  clear HF2 h6
  go_enter Tryz.func211,Tryz.ntmps211
  go_wp2_with (first|((with_reducible refine wp_region_later (by kernel_rfl) (by kernel_rfl) ?_);(repeat(first|go_big_quiet_step (first|(go_at_call 85;exact Gives.quiet (c_ibetween)))|simp only[c1]|simp only[c2]|simp only[c3]|simp only[c5]|simp only[c6]));refine wpQuiet_nil ?_;rintro _ ⟨x,rfl⟩)|(go_at_call 85;refine(c_ibetween).mono ?_;rintro _ _ ⟨rfl,x,rfl⟩))
  go_ret
  exact Gives.mk (by rw[HF3.out];rfl)
set_option maxRecDepth 100000 in
set_option maxHeartbeats 2000000 in
theorem c_sFileInOk{a:Option Addr}{n c:Nat}{f z k:Int}{p:List ByteArray}{w:World}(hs:Sl encStr w a p)(hn:p.length=n)(hm:n≤4611686018427387904)(hsz:∀ s∈p,s.size≤100000000) :
  Calls Tryz.prog 225 #[.agg #[.int .i64 f,.int .i64 z,.int .i64 k,.slice a n c]] w (Gives w (.bool (fileInOk f z k p))):=by
 have HS:=lH hsz;clear hsz
 have HF:=lH (show fileInOk f z k p=(inB f 0 7 && (inB z (-1) 600 && (inB k (-1) 65535 && (((z == -1) == (k == -1)) && (decide (n=25) && shortAll p)))))by rw[fileInOk,hn])
 go_enter Tryz.func225,Tryz.ntmps225
 go_wp2_with (first|((with_reducible refine wp_region_later (by kernel_rfl) (by kernel_rfl) ?_);(repeat(first|go_big_quiet_step (first|fail)));refine wpQuiet_nil ?_;rintro _ ⟨x,rfl⟩))
 go_loopw [3] (fun v wr=>∃ j:Nat,v=.int .i64 j∧j≤n∧Hid (shortAll (p.drop j)=shortAll p)∧∃ x:Later (w.alloc (.cells #[.int .i64 f,.int .i64 z,.int .i64 k,.slice a n c] 172)),wr=x.w) (fun v _=>(n - intOf v).toNat)
 case atStart=>exact⟨0,rfl,by omega,rfl,Later.of⟩
 case round =>
  obtain⟨j,rfl,hk,hf,x,rfl⟩:=hrel
  by_cases h:j<n
  ·obtain⟨b,off,s,rfl,hb,hd,h0⟩:=hs.str (show j<p.length by omega)
   have hsm:s.size≤100000000:=HS.out s (List.mem_of_mem_drop (by rw[hd.out];exact List.mem_cons_self ..))
   by_cases h7:24<s.size
   ·go_wp2_with (first|((with_reducible refine wp_region_later (by kernel_rfl) (by kernel_rfl) ?_);(repeat(first|go_big_quiet_step (first|fail)));refine wpQuiet_nil ?_;rintro _ ⟨x,rfl⟩))
    go_ret
    exact Gives.mk (by have:=hf.out;rw[hd.out,shortAll,List.all_cons,decide_eq_false (by omega)]at this;rw[HF.out,← this];simp)
   ·go_wp2_with (first|((with_reducible refine wp_region_later (by kernel_rfl) (by kernel_rfl) ?_);(repeat(first|go_big_quiet_step (first|fail)));refine wpQuiet_nil ?_;rintro _ ⟨x,rfl⟩))
    go_roundw
    case rel=>exact⟨j+1,by go_num,by omega,by have:=hf.out;rw[hd.out,shortAll,List.all_cons,decide_eq_true (by omega)]at this;exact this,Later.of⟩
    case measure=>simp[intOf];omega
  ·have hf':=hf.out
   rw[List.drop_of_length_le (by omega)]at hf'
   have HA:=lH (show shortAll p=true from hf'.symm);clear hf hf'
   cases c1:inB f 0 7
   ·go_wp2_with (first|((with_reducible refine wp_region_later (by kernel_rfl) (by kernel_rfl) ?_);(repeat(first|go_big_quiet_step (first|(go_at_call 88;exact Gives.quiet (c_sl01In)))|simp only[c1]));refine wpQuiet_nil ?_;rintro _ ⟨x,rfl⟩)|(go_at_call 88;refine(c_sl01In).mono ?_;rintro _ _ ⟨rfl,x,rfl⟩))
    go_ret
    exact Gives.mk (by rw[HF.out,c1];rfl)
   cases c2:inB z (-1) 600
   ·go_wp2_with (first|((with_reducible refine wp_region_later (by kernel_rfl) (by kernel_rfl) ?_);(repeat(first|go_big_quiet_step (first|(go_at_call 88;exact Gives.quiet (c_sl01In)))|simp only[c1]|simp only[c2]));refine wpQuiet_nil ?_;rintro _ ⟨x,rfl⟩)|(go_at_call 88;refine(c_sl01In).mono ?_;rintro _ _ ⟨rfl,x,rfl⟩))
    go_ret
    exact Gives.mk (by rw[HF.out,c1,c2];rfl)
   cases c3:inB k (-1) 65535
   ·go_wp2_with (first|((with_reducible refine wp_region_later (by kernel_rfl) (by kernel_rfl) ?_);(repeat(first|go_big_quiet_step (first|(go_at_call 88;exact Gives.quiet (c_sl01In)))|simp only[c1]|simp only[c2]|simp only[c3]));refine wpQuiet_nil ?_;rintro _ ⟨x,rfl⟩)|(go_at_call 88;refine(c_sl01In).mono ?_;rintro _ _ ⟨rfl,x,rfl⟩))
    go_ret
    exact Gives.mk (by rw[HF.out,c1,c2,c3];rfl)
   cases c4:((z == -1) == (k == -1))
   ·go_wp2_with (first|((with_reducible refine wp_region_later (by kernel_rfl) (by kernel_rfl) ?_);(repeat(first|go_big_quiet_step (first|(go_at_call 88;exact Gives.quiet (c_sl01In)))|simp only[c1]|simp only[c2]|simp only[c3]|simp only[c4]));refine wpQuiet_nil ?_;rintro _ ⟨x,rfl⟩)|(go_at_call 88;refine(c_sl01In).mono ?_;rintro _ _ ⟨rfl,x,rfl⟩))
    go_ret
    exact Gives.mk (by rw[HF.out,c1,c2,c3,c4];rfl)
   by_cases h6:n=25
   ·have c6:((n:Int) == 25)=true:=by simp;omega
    have HF3:=lH (show fileInOk f z k p=true by rw[HF.out,c1,c2,c3,c4,h6,HA.out];rfl)
    clear HF h6 HA
    go_wp2_with (first|((with_reducible refine wp_region_later (by kernel_rfl) (by kernel_rfl) ?_);(repeat(first|go_big_quiet_step (first|(go_at_call 88;exact Gives.quiet (c_sl01In)))|simp only[c1]|simp only[c2]|simp only[c3]|simp only[c4]|simp only[c6]));refine wpQuiet_nil ?_;rintro _ ⟨x,rfl⟩)|(go_at_call 88;refine(c_sl01In).mono ?_;rintro _ _ ⟨rfl,x,rfl⟩))
    go_ret
    exact Gives.mk (by rw[HF3.out];rfl)
   ·have c6:((n:Int) == 25)=false:=by simp;omega
    have HF3:=lH (show fileInOk f z k p=false by rw[HF.out,c1,c2,c3,c4,decide_eq_false h6];rfl)
    clear HF h6 HA
    go_wp2_with (first|((with_reducible refine wp_region_later (by kernel_rfl) (by kernel_rfl) ?_);(repeat(first|go_big_quiet_step (first|(go_at_call 88;exact Gives.quiet (c_sl01In)))|simp only[c1]|simp only[c2]|simp only[c3]|simp only[c4]|simp only[c6]));refine wpQuiet_nil ?_;rintro _ ⟨x,rfl⟩)|(go_at_call 88;refine(c_sl01In).mono ?_;rintro _ _ ⟨rfl,x,rfl⟩))
    go_ret
    exact Gives.mk (by rw[HF3.out];rfl)
def joined(p:List ByteArray):ByteArray:=p.foldl (·++·) ⟨#[]⟩
def noEmpty(p:List ByteArray):Bool:=p.all (fun s=>!(s.toList == []))
def segsIn(z:Int)(p:List ByteArray):List ByteArray:=p.take (countSeg z).toNat
def textIs(f z k:Int)(p:List ByteArray):Bool:=fileInOk f z k p && (!(z == -1) && (noEmpty (segsIn z p) && (((joined (segsIn z p)).size:Int) == z && checkOf (joined (segsIn z p)) == k)))
def fileText(f z k:Int)(p:List ByteArray):ByteArray:=if textIs f z k p=true then joined (segsIn z p)else⟨#[]⟩
theorem joined_snoc(p:List ByteArray)(s:ByteArray):joined (p++[s])=joined p++s:=by simp[joined,List.foldl_append]
theorem noEmpty_snoc(p:List ByteArray)(s:ByteArray):noEmpty (p++[s])=(noEmpty p && !(s.toList == [])):=by simp[noEmpty,List.all_append]
theorem fileInOk_parts{f z k:Int}{p:List ByteArray}(h:fileInOk f z k p=true):p.length=25∧∀ s∈p,s.size≤24:=by
 simp only[fileInOk,Bool.and_eq_true,decide_eq_true_eq]at h
 refine⟨h.2.2.2.2.1,fun s hs=>?_⟩
 have:=List.all_eq_true.1 h.2.2.2.2.2 s hs
 simpa using this
theorem take_snoc2{p:List ByteArray}{j:Nat}{s:ByteArray}(h:p[j]?=some s):p.take (j+1)=p.take j++[s]:=by
 rw[List.take_add_one,h];rfl
def tupText(t:ByteArray)(b:Bool):Value:=.tuple #[.string t,.bool b]
set_option maxRecDepth 100000 in
set_option maxHeartbeats 2000000 in
theorem c_iFileText{a:Option Addr}{n c:Nat}{f z k:Int}{p:List ByteArray}{w:World}(hs:Sl encStr w a p)(hn:p.length=n)(hm:n≤100000000)(hsz:∀ s∈p,s.size≤100000000) :
  Calls Tryz.prog 94 #[.agg #[.int .i64 f,.int .i64 z,.int .i64 k,.slice a n c]] w (Gives w (tupText (fileText f z k p) (textIs f z k p))):=by
 have HS:=lH hsz;clear hsz
 cases c0:fileInOk f z k p
 ·have HV:=lH (show textIs f z k p=false by rw[textIs,c0];rfl)
  go_enter Tryz.func94,Tryz.ntmps94
  go_wp2_with (first|((with_reducible refine wp_region_later (by kernel_rfl) (by kernel_rfl) ?_);(repeat(first|go_big_quiet_step (first|fail)));refine wpQuiet_nil ?_;rintro _ ⟨x,rfl⟩))
  refine(c_iFileInOk (hs.to inferInstance) hn (by omega) HS.out).mono ?_
  rintro _ _ ⟨rfl,y1,rfl⟩
  go_wp2_with (first|((with_reducible refine wp_region_later (by kernel_rfl) (by kernel_rfl) ?_);(repeat(first|go_big_quiet_step (first|fail)|simp only[c0]));refine wpQuiet_nil ?_;rintro _ ⟨x,rfl⟩))
  refine bodyPost_ret (v:=.tuple #[.string ⟨#[]⟩,.bool false]) ?_ rfl (Gives.mk (by rw[fileText,HV.out];rfl))
  simp[results,Tryz.results94,go_sem]
 have hpp:=fileInOk_parts c0
 have h25:n=25:=by omega
 have HP:=lH hpp.2;clear hpp
 cases c1:(z == -1)
 ·obtain⟨N,hN⟩:∃ N:Nat,countSeg z=N:=⟨(countSeg z).toNat,by have:=countSeg_bd z;omega⟩
  have hNb:N≤25:=by have:=countSeg_bd z;omega
  have HN:=lH (show segsIn z p=p.take N by rw[segsIn,hN];rfl)
  have HC:=lH hN;clear hN
  have HV:=lH (show textIs f z k p=(noEmpty (p.take N) && (((joined (p.take N)).size:Int) == z && checkOf (joined (p.take N)) == k))by rw[textIs,c0,c1,HN.out];rfl)
  have H25:=lH h25
  have hnn:25≤n:=by omega
  clear h25
  go_enter Tryz.func94,Tryz.ntmps94
  go_wp2_with (first|((with_reducible refine wp_region_later (by kernel_rfl) (by kernel_rfl) ?_);(repeat(first|go_big_quiet_step (first|fail)));refine wpQuiet_nil ?_;rintro _ ⟨x,rfl⟩))
  refine(c_iFileInOk (hs.to inferInstance) hn (by omega) HS.out).mono ?_
  rintro _ _ ⟨rfl,y1,rfl⟩
  go_wp2_with (first|((with_reducible refine wp_region_later (by kernel_rfl) (by kernel_rfl) ?_);(repeat(first|go_big_quiet_step (first|fail)|simp only[c0]|simp only[c1]));refine wpQuiet_nil ?_;rintro _ ⟨x,rfl⟩))
  refine c_iCountSegments.mono ?_
  rintro _ _ ⟨rfl,y2,rfl⟩
  rw[HC.out]
  go_wp2_with (first|((with_reducible refine wp_region_later (by kernel_rfl) (by kernel_rfl) ?_);(repeat(first|go_big_quiet_step (first|fail)));refine wpQuiet_nil ?_;rintro _ ⟨x,rfl⟩))
  go_loopw [4,17] (fun u v wr=>∃ (j:Nat) (acc:ByteArray),v=.int .i64 j∧u=.string acc∧j≤N∧acc.size≤24*j∧Hid (acc=joined (p.take j)∧noEmpty (p.take j)=true)∧∃ x:Later (w.alloc (.cells #[.int .i64 f,.int .i64 z,.int .i64 k,.slice a n c] 172)),wr=x.w) (fun _ v _=>(N - intOf v).toNat)
  case atStart=>exact⟨0,_,rfl,rfl,by omega,by simp[ByteArray.size],⟨rfl,rfl⟩,Later.of⟩
  case round =>
   obtain⟨j,acc,rfl,rfl,hj,hacc,hf,x,rfl⟩:=hrel
   by_cases h:j<N
   ·have hjn:j<n:=by omega
    obtain⟨b,off,s,rfl,hb,hd,h0⟩:=hs.str (show j<p.length by omega)
    have hps:p[j]?=some s:=by
     have:=congrArg (fun m=>m[0]?) hd.out
     simpa using this
    have hss:s.size≤24:=HP.out s (List.mem_of_getElem? hps)
    have HPS:=lH hps;clear hps hd
    cases c2:(s.toList == [])
    ·have HF:=lH (show acc++s=joined (p.take (j+1))∧noEmpty (p.take (j+1))=true by
      rw[take_snoc2 HPS.out,joined_snoc,noEmpty_snoc,hf.out.2,c2,← hf.out.1];exact⟨rfl,rfl⟩)
     go_wp2_with (first|((with_reducible refine wp_region_later (by kernel_rfl) (by kernel_rfl) ?_);(repeat(first|go_big_quiet_step (first|fail)|simp only[c2]));refine wpQuiet_nil ?_;rintro _ ⟨x,rfl⟩))
     go_roundw
     case rel=>exact⟨j+1,_,by go_num,rfl,by omega,by rw[ByteArray.size_append];omega,HF,Later.of⟩
     case measure=>simp[intOf];omega
    ·have HF:=lH (show textIs f z k p=false by
      have h8:noEmpty (p.take N)=false:=by
       cases h9:noEmpty (p.take N)
       ·rfl
       ·have hmem:s∈p.take N:=List.mem_of_getElem? (i:=j) (by rw[List.getElem?_take_of_lt h];exact HPS.out)
        have:=List.all_eq_true.1 h9 s hmem
        rw[c2]at this;cases this
      rw[HV.out,h8];rfl)
     clear HV hf
     go_wp2_with (first|((with_reducible refine wp_region_later (by kernel_rfl) (by kernel_rfl) ?_);(repeat(first|go_big_quiet_step (first|fail)|simp only[c2]));refine wpQuiet_nil ?_;rintro _ ⟨x,rfl⟩))
     refine bodyPost_ret (v:=.tuple #[.string ⟨#[]⟩,.bool false]) ?_ rfl (Gives.mk (by rw[fileText,HF.out];rfl))
     simp[results,Tryz.results94,go_sem]
   ·have hjN:j=N:=by omega
    have HF:=lH (show acc=joined (p.take N)∧noEmpty (p.take N)=true by rw[← hjN];exact hf.out)
    clear hf hjN
    have HV2:=lH (show textIs f z k p=(((acc.size:Int) == z) && (checkOf acc == k))by rw[HV.out,HF.out.2,HF.out.1];rfl)
    have HT:=lH (show joined (segsIn z p)=acc by rw[HN.out,HF.out.1])
    clear HV HF
    cases c3:((acc.size:Int) == z)
    ·have c4:((acc.size:Int) != z)=true:=by rw[bne,c3];rfl
     have HV3:=lH (show textIs f z k p=false by rw[HV2.out,c3];rfl)
     go_wp2_with (first|((with_reducible refine wp_region_later (by kernel_rfl) (by kernel_rfl) ?_);(repeat(first|go_big_quiet_step (first|(go_at_call 212;exact Gives.quiet (c_iCheckOf (by omega))))|simp only[c4]));refine wpQuiet_nil ?_;rintro _ ⟨x,rfl⟩)|(go_at_call 212;refine(c_iCheckOf (by omega)).mono ?_;rintro _ _ ⟨rfl,x,rfl⟩))
     refine bodyPost_ret (v:=.tuple #[.string ⟨#[]⟩,.bool false]) ?_ rfl (Gives.mk (by rw[fileText,HV3.out];rfl))
     simp[results,Tryz.results94,go_sem]
    ·have c4:((acc.size:Int) != z)=false:=by rw[bne,c3];rfl
     cases c5:(checkOf acc == k)
     ·have c6:(checkOf acc != k)=true:=by rw[bne,c5];rfl
      have HV3:=lH (show textIs f z k p=false by rw[HV2.out,c3,c5];rfl)
      go_wp2_with (first|((with_reducible refine wp_region_later (by kernel_rfl) (by kernel_rfl) ?_);(repeat(first|go_big_quiet_step (first|(go_at_call 212;exact Gives.quiet (c_iCheckOf (by omega))))|simp only[c4]|simp only[c6]));refine wpQuiet_nil ?_;rintro _ ⟨x,rfl⟩)|(go_at_call 212;refine(c_iCheckOf (by omega)).mono ?_;rintro _ _ ⟨rfl,x,rfl⟩))
      refine bodyPost_ret (v:=.tuple #[.string ⟨#[]⟩,.bool false]) ?_ rfl (Gives.mk (by rw[fileText,HV3.out];rfl))
      simp[results,Tryz.results94,go_sem]
     ·have c6:(checkOf acc != k)=false:=by rw[bne,c5];rfl
      have HV3:=lH (show textIs f z k p=true by rw[HV2.out,c3,c5];rfl)
      go_wp2_with (first|((with_reducible refine wp_region_later (by kernel_rfl) (by kernel_rfl) ?_);(repeat(first|go_big_quiet_step (first|(go_at_call 212;exact Gives.quiet (c_iCheckOf (by omega))))|simp only[c4]|simp only[c6]));refine wpQuiet_nil ?_;rintro _ ⟨x,rfl⟩)|(go_at_call 212;refine(c_iCheckOf (by omega)).mono ?_;rintro _ _ ⟨rfl,x,rfl⟩))
      refine bodyPost_ret (v:=.tuple #[.string acc,.bool true]) ?_ rfl (Gives.mk (by rw[fileText,HV3.out,HT.out];rfl))
      simp[results,Tryz.results94,go_sem]
 ·obtain rfl:z=-1:=by simpa using c1
  have HV:=lH (show textIs f (-1) k p=false by rw[textIs,c0];rfl)
  clear c1 h25
  go_enter Tryz.func94,Tryz.ntmps94
  go_wp2_with (first|((with_reducible refine wp_region_later (by kernel_rfl) (by kernel_rfl) ?_);(repeat(first|go_big_quiet_step (first|fail)));refine wpQuiet_nil ?_;rintro _ ⟨x,rfl⟩))
  refine(c_iFileInOk (hs.to inferInstance) hn (by omega) HS.out).mono ?_
  rintro _ _ ⟨rfl,y1,rfl⟩
  go_wp2_with (first|((with_reducible refine wp_region_later (by kernel_rfl) (by kernel_rfl) ?_);(repeat(first|go_big_quiet_step (first|fail)|simp only[c0]));refine wpQuiet_nil ?_;rintro _ ⟨x,rfl⟩))
  refine bodyPost_ret (v:=.tuple #[.string ⟨#[]⟩,.bool false]) ?_ rfl (Gives.mk (by rw[fileText,HV.out];rfl))
  simp[results,Tryz.results94,go_sem]
/-! ### What is missing -/
def missGo(i:Nat)(cnt:Nat):List ByteArray→List Int
 | []=>[]
 | s::r=>if cnt=0 then[]else if (s.toList == [])=true then(i:Int)::missGo (i+1) (cnt - 1) r else missGo (i+1) cnt r
def missL(f z k:Int)(p:List ByteArray):List Int:=if (fileInOk f z k p && !(z == -1))=true then missGo 0 20 (segsIn z p)else[]
def xText(x:TFileIn):ByteArray:=fileText x.File x.Size x.Check x.Parts
def xIs(x:TFileIn):Bool:=textIs x.File x.Size x.Check x.Parts
def fileGood(files:List ByteArray)(told:List Bool)(k:Nat)(x:TFileIn):Bool :=
 if xIs x=true then(match files[k]? with|some s=>((xText x).toList == s.toList)|none=>false)else !(told.getD k false)
def filesGo(files:List ByteArray)(told:List Bool):Nat→List TFileIn→Bool
 | _,[]=>true
 | k,x::r=>fileGood files told k x && filesGo files told (k+1) r
def filesTrue(m:TMission):Bool:=filesGo m.Space.Files m.Ground.Told 0 m.Ground.Files
theorem parts_small{m:TMission}(ht:Enc.tot m≤1048576):m.Ground.Files.length≤1048576∧m.Space.Files.length≤1048576∧m.Ground.Told.length≤1048576∧∀ x∈m.Ground.Files,x.Parts.length≤1048576∧∀ s∈x.Parts,s.size≤1048576:=by
 have h:=mbounds ht
 have hg:totL m.Ground.Offers+Enc.tot m.Ground.Sender+Enc.tot m.Ground.Unpacker+totL m.Ground.Pairs+totL m.Ground.Records+totL m.Ground.Files+totL m.Ground.Told≤1048576:=h.2.2.1
 have hsp:Enc.tot m.Space.Board+Enc.tot m.Space.Packer+totL m.Space.Files+totL m.Space.Outs+totL m.Space.Sent≤1048576:=h.2.2.2.1
 have n1:=totL_nonneg m.Ground.Offers;have n2:=Enc.tot_nonneg m.Ground.Sender;have n3:=Enc.tot_nonneg m.Ground.Unpacker;have n4:=totL_nonneg m.Ground.Pairs;have n5:=totL_nonneg m.Ground.Records;have n6:=totL_nonneg m.Ground.Files;have n7:=totL_nonneg m.Ground.Told
 have n8:=Enc.tot_nonneg m.Space.Board;have n9:=Enc.tot_nonneg m.Space.Packer;have n10:=totL_nonneg m.Space.Files;have n11:=totL_nonneg m.Space.Outs;have n12:=totL_nonneg m.Space.Sent
 have l1:=totL_len m.Ground.Files;have l2:=totL_len m.Space.Files;have l3:=totL_len m.Ground.Told
 refine⟨by omega,by omega,by omega,fun x hx=>?_⟩
 have hx1:Enc.tot x≤totL m.Ground.Files:=totL_mem hx
 have hx2:totL x.Parts≤totL m.Ground.Files:=hx1
 have hx3:=totL_len x.Parts
 refine⟨by omega,fun s hs=>?_⟩
 have hs1:(s.size:Int)≤totL x.Parts:=totL_mem hs
 omega
theorem RdS.atB{B:Nat}{w:World}{a:Option Addr}{c:Nat}{l:List Bool}(h:RdS B w a c l){k:Nat}(hk:k<l.length) :
  ∃ b off,a=some ⟨b,off,none⟩∧LtN b w.heap.size∧(∀ (W:World) [Grows w W],W.cell? ⟨b,off+k,none⟩=some (.bool (l.getD k false))):=by
 obtain⟨b,off,x,h0,h1,h2,h3⟩:=h.atBool hk
 have:l.getD k false=x:=by
  have:=congrArg (fun m=>m[0]?) h2.out
  simp only[List.getElem?_drop,Nat.add_zero,List.getElem?_cons_zero]at this
  simp[this]
 exact⟨b,off,h0,h1,by rw[this];exact h3⟩
set_option maxRecDepth 100000 in
set_option maxHeartbeats 2000000 in
theorem c_iFilesTrue{B:Nat}{vs:List Value}{m:TMission}{w:World}(h:Enc.Rd B w vs m)(ht:Enc.tot m≤1048576) :
  Calls Tryz.prog 24 #[.agg vs.toArray] w (Gives w (.bool (filesTrue m))):=by
 obtain⟨A,hvs,F⟩:=mcell h
 have hsm:=parts_small ht
 clear ht h
 have HB:=Held.new w vs 90 w.heap.size rfl
 have e7:=HB.cellG 31 (.slice A.a7 m.Ground.Files.length A.c7) (by rw[hvs];rfl)
 have e8:=HB.cellG 32 (.slice A.a8 m.Ground.Told.length A.c8) (by rw[hvs];rfl)
 have e17:=HB.cellG 54 (.slice A.a17 m.Space.Files.length A.c17) (by rw[hvs];rfl)
 clear HB hvs
 have F7:=lH F.q7;have F8:=lH F.q8;have F17:=lH F.q17
 clear F
 obtain⟨n,hn⟩:∃ n,m.Ground.Files.length=n:=⟨_,rfl⟩
 obtain⟨nf,hnf⟩:∃ n,m.Space.Files.length=n:=⟨_,rfl⟩
 obtain⟨nt,hnt⟩:∃ n,m.Ground.Told.length=n:=⟨_,rfl⟩
 have HS:=lH hsm.2.2.2
 have hm1:n≤1048576:=by omega
 have hm2:nf≤1048576:=by omega
 have hm3:nt≤1048576:=by omega
 clear hsm
 rw[hn]at e7;rw[hnf]at e17;rw[hnt]at e8
 have HN:=lH (And.intro hn (And.intro hnf hnt));clear hn hnf hnt
 go_enter Tryz.func24,Tryz.ntmps24
 go_wp2_with (first|((with_reducible refine wp_region_later (by kernel_rfl) (by kernel_rfl) ?_);(repeat(first|go_big_quiet_step (first|fail)));refine wpQuiet_nil ?_;rintro _ ⟨x,rfl⟩))
 go_loopw [11] (fun v wr=>∃ k:Nat,v=.int .i64 k∧k≤n∧Hid (filesGo m.Space.Files m.Ground.Told k (m.Ground.Files.drop k)=filesTrue m)∧∃ x:Later (w.alloc (.cells vs.toArray 90)),wr=x.w) (fun v _=>(n - intOf v).toNat)
 case atStart=>exact⟨0,rfl,by omega,rfl,Later.of⟩
 case round =>
  obtain⟨k,rfl,hk,HV,x,rfl⟩:=hrel
  by_cases h:k<n
  ·have hkl:k<m.Ground.Files.length:=by have:=HN.out.1;omega
   obtain⟨eb,eoff,ex,ea0,ec0,he,ehb,ehd,eq0,eok,eh0,eh1,eh2,eh3⟩:=F7.out.atTFileIn hkl
   have hxm:ex∈m.Ground.Files:=List.mem_of_mem_drop (by rw[ehd.out];exact List.mem_cons_self ..)
   have HX:=lH (HS.out ex hxm)
   rw[he]at e7
   (try rw[he])
   obtain⟨T,hT⟩:∃ T,xText ex=T:=⟨_,rfl⟩
   obtain⟨K,hK⟩:∃ K,xIs ex=K:=⟨_,rfl⟩
   have HT:=lH (And.intro hT hK)
   have EOK:=lH eok;clear eok hxm hkl he
   cases K
   ·have hgd:fileGood m.Space.Files m.Ground.Told k ex=!(m.Ground.Told.getD k false):=by rw[fileGood,hK];rfl
    clear hT hK
    by_cases hkt:k<nt
    ·obtain⟨tb,toff,ha8,htb,ht0⟩:=F8.out.atB (k:=k) (by have:=HN.out.2.2;omega)
     rw[ha8]at e8
     clear ha8
     have k1:decide ((k:Int)<(nt:Int))=true:=by simp;omega
     cases hB:m.Ground.Told.getD k false
     ·have hg:fileGood m.Space.Files m.Ground.Told k ex=true:=by rw[hgd,hB];rfl
      rw[hB]at ht0
      clear hgd hB
      have HF:=lH (show filesGo m.Space.Files m.Ground.Told (k+1) (m.Ground.Files.drop (k+1))=filesTrue m by have:=HV.out;rw[ehd.out,filesGo,hg,Bool.true_and]at this;exact this)
      clear hg
      go_wp2_with (first|((with_reducible refine wp_region_later (by kernel_rfl) (by kernel_rfl) ?_);(repeat(first|go_big_quiet_step (first|fail)));refine wpQuiet_nil ?_;rintro _ ⟨x,rfl⟩))
      refine(c_iFileText (eq0.toSlStr.to inferInstance) rfl (Nat.le_trans HX.out.1 (by decide)) (fun s hs=>Nat.le_trans (HX.out.2 s hs) (by decide))).mono ?_
      rintro _ _ ⟨rfl,y1,rfl⟩
      rw[show fileText ex.File ex.Size ex.Check ex.Parts=T from HT.out.1,show textIs ex.File ex.Size ex.Check ex.Parts=_ from HT.out.2];simp only[tupText]
      go_wp2_with (first|((with_reducible refine wp_region_later (by kernel_rfl) (by kernel_rfl) ?_);(repeat(first|go_big_quiet_step (first|fail)|simp only[k1]));refine wpQuiet_nil ?_;rintro _ ⟨x,rfl⟩))
      go_roundw
      case rel=>exact⟨k+1,by go_num,by omega,HF,Later.of⟩
      case measure=>simp[intOf];omega
     ·have hg:fileGood m.Space.Files m.Ground.Told k ex=false:=by rw[hgd,hB];rfl
      rw[hB]at ht0
      clear hgd hB
      have HF:=lH (show filesTrue m=false by have:=HV.out;rw[ehd.out,filesGo,hg]at this;rw[← this];rfl)
      clear hg
      go_wp2_with (first|((with_reducible refine wp_region_later (by kernel_rfl) (by kernel_rfl) ?_);(repeat(first|go_big_quiet_step (first|fail)));refine wpQuiet_nil ?_;rintro _ ⟨x,rfl⟩))
      refine(c_iFileText (eq0.toSlStr.to inferInstance) rfl (Nat.le_trans HX.out.1 (by decide)) (fun s hs=>Nat.le_trans (HX.out.2 s hs) (by decide))).mono ?_
      rintro _ _ ⟨rfl,y1,rfl⟩
      rw[show fileText ex.File ex.Size ex.Check ex.Parts=T from HT.out.1,show textIs ex.File ex.Size ex.Check ex.Parts=_ from HT.out.2];simp only[tupText]
      go_wp2_with (first|((with_reducible refine wp_region_later (by kernel_rfl) (by kernel_rfl) ?_);(repeat(first|go_big_quiet_step (first|fail)|simp only[k1]));refine wpQuiet_nil ?_;rintro _ ⟨x,rfl⟩))
      go_ret
      exact Gives.mk (by rw[HF.out];rfl)
    ·have k1:decide ((k:Int)<(nt:Int))=false:=by simp;omega
     have hg:fileGood m.Space.Files m.Ground.Told k ex=true:=by
      have h5:m.Ground.Told[k]?=none:=List.getElem?_eq_none (by have:=HN.out.2.2;omega)
      rw[hgd];simp[List.getD,h5]
     clear hgd
     have HF:=lH (show filesGo m.Space.Files m.Ground.Told (k+1) (m.Ground.Files.drop (k+1))=filesTrue m by have:=HV.out;rw[ehd.out,filesGo,hg,Bool.true_and]at this;exact this)
     clear hg
     go_wp2_with (first|((with_reducible refine wp_region_later (by kernel_rfl) (by kernel_rfl) ?_);(repeat(first|go_big_quiet_step (first|fail)));refine wpQuiet_nil ?_;rintro _ ⟨x,rfl⟩))
     refine(c_iFileText (eq0.toSlStr.to inferInstance) rfl (Nat.le_trans HX.out.1 (by decide)) (fun s hs=>Nat.le_trans (HX.out.2 s hs) (by decide))).mono ?_
     rintro _ _ ⟨rfl,y1,rfl⟩
     rw[show fileText ex.File ex.Size ex.Check ex.Parts=T from HT.out.1,show textIs ex.File ex.Size ex.Check ex.Parts=_ from HT.out.2];simp only[tupText]
     go_wp2_with (first|((with_reducible refine wp_region_later (by kernel_rfl) (by kernel_rfl) ?_);(repeat(first|go_big_quiet_step (first|fail)|simp only[k1]));refine wpQuiet_nil ?_;rintro _ ⟨x,rfl⟩))
     go_roundw
     case rel=>exact⟨k+1,by go_num,by omega,HF,Later.of⟩
     case measure=>simp[intOf];omega
   ·by_cases hkf:k<nf
    ·have hkf2:k<m.Space.Files.length:=by have:=HN.out.2.1;omega
     obtain⟨fb,foff,fs,ha17,hfb,hfd,hf0⟩:=F17.out.toSlStr.str hkf2
     rw[ha17]at e17
     clear ha17
     have hfs:m.Space.Files[k]?=some fs:=by
      have:=congrArg (fun m=>m[0]?) hfd.out
      simpa using this
     have k1:decide ((nf:Int)≤(k:Int))=false:=by simp;omega
     have hgd:fileGood m.Space.Files m.Ground.Told k ex=(T.toList == fs.toList):=by rw[fileGood,hK,hT,hfs];rfl
     clear hT hK hfs hfd hkf2
     cases hB:(T.toList == fs.toList)
     ·have k2:(T.toList != fs.toList)=true:=by rw[bne,hB];rfl
      have hg:fileGood m.Space.Files m.Ground.Told k ex=false:=by rw[hgd,hB]
      clear hgd
      have HF:=lH (show filesTrue m=false by have:=HV.out;rw[ehd.out,filesGo,hg]at this;rw[← this];rfl)
      clear hg
      go_wp2_with (first|((with_reducible refine wp_region_later (by kernel_rfl) (by kernel_rfl) ?_);(repeat(first|go_big_quiet_step (first|fail)));refine wpQuiet_nil ?_;rintro _ ⟨x,rfl⟩))
      refine(c_iFileText (eq0.toSlStr.to inferInstance) rfl (Nat.le_trans HX.out.1 (by decide)) (fun s hs=>Nat.le_trans (HX.out.2 s hs) (by decide))).mono ?_
      rintro _ _ ⟨rfl,y1,rfl⟩
      rw[show fileText ex.File ex.Size ex.Check ex.Parts=T from HT.out.1,show textIs ex.File ex.Size ex.Check ex.Parts=_ from HT.out.2];simp only[tupText]
      go_wp2_with (first|((with_reducible refine wp_region_later (by kernel_rfl) (by kernel_rfl) ?_);(repeat(first|go_big_quiet_step (first|fail)|simp only[k1]|simp only[k2]));refine wpQuiet_nil ?_;rintro _ ⟨x,rfl⟩))
      go_ret
      exact Gives.mk (by rw[HF.out];rfl)
     ·have k2:(T.toList != fs.toList)=false:=by rw[bne,hB];rfl
      have hg:fileGood m.Space.Files m.Ground.Told k ex=true:=by rw[hgd,hB]
      clear hgd
      have HF:=lH (show filesGo m.Space.Files m.Ground.Told (k+1) (m.Ground.Files.drop (k+1))=filesTrue m by have:=HV.out;rw[ehd.out,filesGo,hg,Bool.true_and]at this;exact this)
      clear hg
      go_wp2_with (first|((with_reducible refine wp_region_later (by kernel_rfl) (by kernel_rfl) ?_);(repeat(first|go_big_quiet_step (first|fail)));refine wpQuiet_nil ?_;rintro _ ⟨x,rfl⟩))
      refine(c_iFileText (eq0.toSlStr.to inferInstance) rfl (Nat.le_trans HX.out.1 (by decide)) (fun s hs=>Nat.le_trans (HX.out.2 s hs) (by decide))).mono ?_
      rintro _ _ ⟨rfl,y1,rfl⟩
      rw[show fileText ex.File ex.Size ex.Check ex.Parts=T from HT.out.1,show textIs ex.File ex.Size ex.Check ex.Parts=_ from HT.out.2];simp only[tupText]
      go_wp2_with (first|((with_reducible refine wp_region_later (by kernel_rfl) (by kernel_rfl) ?_);(repeat(first|go_big_quiet_step (first|fail)|simp only[k1]|simp only[k2]));refine wpQuiet_nil ?_;rintro _ ⟨x,rfl⟩))
      go_roundw
      case rel=>exact⟨k+1,by go_num,by omega,HF,Later.of⟩
      case measure=>simp[intOf];omega
    ·have k1:decide ((nf:Int)≤(k:Int))=true:=by simp;omega
     have hg:fileGood m.Space.Files m.Ground.Told k ex=false:=by
      rw[fileGood,hK,List.getElem?_eq_none (by have:=HN.out.2.1;omega)];rfl
     clear hT hK
     have HF:=lH (show filesTrue m=false by have:=HV.out;rw[ehd.out,filesGo,hg]at this;rw[← this];rfl)
     clear hg
     go_wp2_with (first|((with_reducible refine wp_region_later (by kernel_rfl) (by kernel_rfl) ?_);(repeat(first|go_big_quiet_step (first|fail)));refine wpQuiet_nil ?_;rintro _ ⟨x,rfl⟩))
     refine(c_iFileText (eq0.toSlStr.to inferInstance) rfl (Nat.le_trans HX.out.1 (by decide)) (fun s hs=>Nat.le_trans (HX.out.2 s hs) (by decide))).mono ?_
     rintro _ _ ⟨rfl,y1,rfl⟩
     rw[show fileText ex.File ex.Size ex.Check ex.Parts=T from HT.out.1,show textIs ex.File ex.Size ex.Check ex.Parts=_ from HT.out.2];simp only[tupText]
     go_wp2_with (first|((with_reducible refine wp_region_later (by kernel_rfl) (by kernel_rfl) ?_);(repeat(first|go_big_quiet_step (first|fail)|simp only[k1]));refine wpQuiet_nil ?_;rintro _ ⟨x,rfl⟩))
     go_ret
     exact Gives.mk (by rw[HF.out];rfl)
  ·go_wp2_with (first|((with_reducible refine wp_region_later (by kernel_rfl) (by kernel_rfl) ?_);(repeat(first|go_big_quiet_step (first|fail)));refine wpQuiet_nil ?_;rintro _ ⟨x,rfl⟩))
   go_ret
   exact Gives.mk (by have:=HV.out;rw[List.drop_of_length_le (by have:=HN.out.1;omega),filesGo]at this;rw[← this];rfl)
def flightOk(x:TFlight):Bool:=inB x.At 0 1000050 && inB x.Data.size 1 404
def flightsOk(l:List TFlight):Bool:=decide (l.length≤1000) && l.all flightOk
def recordsOk(l:List TRecord):Bool:=decide (l.length≤5000) && l.all recordOk
theorem k_iflightsOk{B:Nat}{a:Option Addr}{c:Nat}{l:List TFlight}{w:World}(hs:RdS B w a c l)(hm:l.length≤100000000) :
  Calls Tryz.prog 147 #[.slice a l.length c] w (Gives w (.bool (flightsOk l))):=by
 obtain⟨n,hn⟩:∃ n,l.length=n:=⟨_,rfl⟩
 have HN:=lH hn
 have HD:=lH (show flightsOk l=(decide (n≤1000) && l.all flightOk)by rw[flightsOk,hn])
 rw[hn]at hm ⊢
 clear hn
 by_cases hmx:n≤1000
 ·go_enter Tryz.func147,Tryz.ntmps147
  go_wp2_with fail
  go_loopw [10] (fun v wr=>∃ k:Nat,v=.int .i64 k∧k≤n∧Hid ((l.drop k).all flightOk=l.all flightOk)∧∃ x:Later w,wr=x.w) (fun v _=>(n - intOf v).toNat)
  case atStart=>exact⟨0,rfl,by omega,rfl,Later.of⟩
  case round =>
   obtain⟨k,rfl,hk,HV,x,rfl⟩:=hrel
   by_cases h:k<n
   ·have hkl:k<l.length:=by have:=HN.out;omega
    obtain⟨eb,eoff,ex,rfl,ehb,ehd,eok,eh0,eh1⟩:=hs.atTFlight hkl
    have hz:ex.Data.size≤9223372036854775807:=eok.2.1
    have EOK:=lH eok;clear eok hkl
    cases hg:flightOk ex
    ·have HF:=lH (show l.all flightOk=false by have:=HV.out;rw[ehd.out,List.all_cons,hg]at this;rw[← this];rfl)
     cases c1:inB ex.At 0 1000050
     ·clear hg
      go_wp2_with (first|(go_at_call 85;refine(c_ibetween).mono ?_;rintro _ _ ⟨rfl,x,rfl⟩))
      go_ret
      exact Gives.mk (by rw[HD.out,HF.out,Bool.and_false];rfl)
     ·have c2:inB ex.Data.size 1 404=false:=by rw[flightOk,c1]at hg;exact hg
      clear hg
      go_wp2_with (first|(go_at_call 85;refine(c_ibetween).mono ?_;rintro _ _ ⟨rfl,x,rfl⟩))
      go_ret
      exact Gives.mk (by rw[HD.out,HF.out,Bool.and_false];rfl)
    ·have HF:=lH (show(l.drop (k+1)).all flightOk=l.all flightOk by have:=HV.out;rw[ehd.out,List.all_cons,hg,Bool.true_and]at this;exact this)
     have c1:inB ex.At 0 1000050=true:=by simp only[flightOk,Bool.and_eq_true]at hg;exact hg.1
     have c2:inB ex.Data.size 1 404=true:=by simp only[flightOk,Bool.and_eq_true]at hg;exact hg.2
     clear hg
     go_wp2_with (first|(go_at_call 85;refine(c_ibetween).mono ?_;rintro _ _ ⟨rfl,x,rfl⟩))
     go_roundw
     case rel=>exact⟨k+1,by go_num,by omega,HF,Later.of⟩
     case measure=>simp[intOf];omega
   ·have HF:=lH (show l.all flightOk=true by have:=HV.out;rw[List.drop_of_length_le (by have:=HN.out;omega)]at this;rw[← this];rfl)
    go_wp2_with fail
    go_ret
    exact Gives.mk (by rw[HD.out,HF.out,decide_eq_true hmx];rfl)
 ·go_enter Tryz.func147,Tryz.ntmps147
  go_wp2_with fail
  go_ret
  exact Gives.mk (by rw[HD.out,decide_eq_false hmx];rfl)
theorem k_irecordsOk{B:Nat}{a:Option Addr}{c:Nat}{l:List TRecord}{w:World}(hs:RdS B w a c l)(hm:l.length≤100000000) :
  Calls Tryz.prog 249 #[.slice a l.length c] w (Gives w (.bool (recordsOk l))):=by
 obtain⟨n,hn⟩:∃ n,l.length=n:=⟨_,rfl⟩
 have HN:=lH hn
 have HD:=lH (show recordsOk l=(decide (n≤5000) && l.all recordOk)by rw[recordsOk,hn])
 rw[hn]at hm ⊢
 clear hn
 by_cases hmx:n≤5000
 ·go_enter Tryz.func249,Tryz.ntmps249
  go_wp2_with fail
  go_loopw [10] (fun v wr=>∃ k:Nat,v=.int .i64 k∧k≤n∧Hid ((l.drop k).all recordOk=l.all recordOk)∧∃ x:Later w,wr=x.w) (fun v _=>(n - intOf v).toNat)
  case atStart=>exact⟨0,rfl,by omega,rfl,Later.of⟩
  case round =>
   obtain⟨k,rfl,hk,HV,x,rfl⟩:=hrel
   by_cases h:k<n
   ·have hkl:k<l.length:=by have:=HN.out;omega
    obtain⟨eb,eoff,ex,rfl,ehb,ehd,eok,eh0,eh1,eh2,eh3⟩:=hs.atTRecord hkl
    have hz:ex.Data.size≤9223372036854775807:=eok.2.2.2.1
    have EOK:=lH eok;clear eok hkl
    cases hg:recordOk ex
    ·have HF:=lH (show l.all recordOk=false by have:=HV.out;rw[ehd.out,List.all_cons,hg]at this;rw[← this];rfl)
     go_wp2_with (first|(go_at_call 321;refine(k_iRecordOk (by omega)).mono ?_;rintro _ _ ⟨rfl,x,rfl⟩))
     go_ret
     exact Gives.mk (by rw[HD.out,HF.out,Bool.and_false];rfl)
    ·have HF:=lH (show(l.drop (k+1)).all recordOk=l.all recordOk by have:=HV.out;rw[ehd.out,List.all_cons,hg,Bool.true_and]at this;exact this)
     go_wp2_with (first|(go_at_call 321;refine(k_iRecordOk (by omega)).mono ?_;rintro _ _ ⟨rfl,x,rfl⟩))
     go_roundw
     case rel=>exact⟨k+1,by go_num,by omega,HF,Later.of⟩
     case measure=>simp[intOf];omega
   ·have HF:=lH (show l.all recordOk=true by have:=HV.out;rw[List.drop_of_length_le (by have:=HN.out;omega)]at this;rw[← this];rfl)
    go_wp2_with fail
    go_ret
    exact Gives.mk (by rw[HD.out,HF.out,decide_eq_true hmx];rfl)
 ·go_enter Tryz.func249,Tryz.ntmps249
  go_wp2_with fail
  go_ret
  exact Gives.mk (by rw[HD.out,decide_eq_false hmx];rfl)
theorem k_sflightsOk{B:Nat}{a:Option Addr}{c:Nat}{l:List TFlight}{w:World}(hs:RdS B w a c l)(hm:l.length≤100000000) :
  Calls Tryz.prog 111 #[.slice a l.length c] w (Gives w (.bool (flightsOk l))):=by
 obtain⟨n,hn⟩:∃ n,l.length=n:=⟨_,rfl⟩
 have HN:=lH hn
 have HD:=lH (show flightsOk l=(decide (n≤1000) && l.all flightOk)by rw[flightsOk,hn])
 rw[hn]at hm ⊢
 clear hn
 go_enter Tryz.func111,Tryz.ntmps111
 go_wp2_with fail
 go_loopw [3] (fun v wr=>∃ k:Nat,v=.int .i64 k∧k≤n∧Hid ((l.drop k).all flightOk=l.all flightOk)∧∃ x:Later w,wr=x.w) (fun v _=>(n - intOf v).toNat)
 case atStart=>exact⟨0,rfl,by omega,rfl,Later.of⟩
 case round =>
  obtain⟨k,rfl,hk,HV,x,rfl⟩:=hrel
  by_cases h:k<n
  ·have hkl:k<l.length:=by have:=HN.out;omega
   obtain⟨eb,eoff,ex,rfl,ehb,ehd,eok,eh0,eh1⟩:=hs.atTFlight hkl
   have hz:ex.Data.size≤9223372036854775807:=eok.2.1
   have EOK:=lH eok;clear eok hkl
   cases hg:flightOk ex
   ·have HF:=lH (show l.all flightOk=false by have:=HV.out;rw[ehd.out,List.all_cons,hg]at this;rw[← this];rfl)
    cases c1:inB ex.At 0 1000050
    ·clear hg
     go_wp2_with (first|(go_at_call 88;refine(c_sl01In).mono ?_;rintro _ _ ⟨rfl,x,rfl⟩))
     go_ret
     exact Gives.mk (by rw[HD.out,HF.out,Bool.and_false];rfl)
    ·have c2:inB ex.Data.size 1 404=false:=by rw[flightOk,c1]at hg;exact hg
     clear hg
     go_wp2_with (first|(go_at_call 88;refine(c_sl01In).mono ?_;rintro _ _ ⟨rfl,x,rfl⟩))
     go_ret
     exact Gives.mk (by rw[HD.out,HF.out,Bool.and_false];rfl)
   ·have HF:=lH (show(l.drop (k+1)).all flightOk=l.all flightOk by have:=HV.out;rw[ehd.out,List.all_cons,hg,Bool.true_and]at this;exact this)
    have c1:inB ex.At 0 1000050=true:=by simp only[flightOk,Bool.and_eq_true]at hg;exact hg.1
    have c2:inB ex.Data.size 1 404=true:=by simp only[flightOk,Bool.and_eq_true]at hg;exact hg.2
    clear hg
    go_wp2_with (first|(go_at_call 88;refine(c_sl01In).mono ?_;rintro _ _ ⟨rfl,x,rfl⟩))
    go_roundw
    case rel=>exact⟨k+1,by go_num,by omega,HF,Later.of⟩
    case measure=>simp[intOf];omega
  ·have HF:=lH (show l.all flightOk=true by have:=HV.out;rw[List.drop_of_length_le (by have:=HN.out;omega)]at this;rw[← this];rfl)
   by_cases hmx:n≤1000
   ·have kx:decide ((n:Int)≤1000)=true:=by simp;omega
    go_wp2_with fail
    go_ret
    exact Gives.mk (by rw[HD.out,HF.out,decide_eq_true hmx];rfl)
   ·have kx:decide ((n:Int)≤1000)=false:=by simp;omega
    go_wp2_with fail
    go_ret
    exact Gives.mk (by rw[HD.out,HF.out,decide_eq_false hmx];rfl)
theorem k_srecordsOk{B:Nat}{a:Option Addr}{c:Nat}{l:List TRecord}{w:World}(hs:RdS B w a c l)(hm:l.length≤100000000) :
  Calls Tryz.prog 224 #[.slice a l.length c] w (Gives w (.bool (recordsOk l))):=by
 obtain⟨n,hn⟩:∃ n,l.length=n:=⟨_,rfl⟩
 have HN:=lH hn
 have HD:=lH (show recordsOk l=(decide (n≤5000) && l.all recordOk)by rw[recordsOk,hn])
 rw[hn]at hm ⊢
 clear hn
 go_enter Tryz.func224,Tryz.ntmps224
 go_wp2_with fail
 go_loopw [3] (fun v wr=>∃ k:Nat,v=.int .i64 k∧k≤n∧Hid ((l.drop k).all recordOk=l.all recordOk)∧∃ x:Later w,wr=x.w) (fun v _=>(n - intOf v).toNat)
 case atStart=>exact⟨0,rfl,by omega,rfl,Later.of⟩
 case round =>
  obtain⟨k,rfl,hk,HV,x,rfl⟩:=hrel
  by_cases h:k<n
  ·have hkl:k<l.length:=by have:=HN.out;omega
   obtain⟨eb,eoff,ex,rfl,ehb,ehd,eok,eh0,eh1,eh2,eh3⟩:=hs.atTRecord hkl
   have hz:ex.Data.size≤9223372036854775807:=eok.2.2.2.1
   have EOK:=lH eok;clear eok hkl
   cases hg:recordOk ex
   ·have HF:=lH (show l.all recordOk=false by have:=HV.out;rw[ehd.out,List.all_cons,hg]at this;rw[← this];rfl)
    go_wp2_with (first|(go_at_call 314;refine(k_sRecordOk (by omega)).mono ?_;rintro _ _ ⟨rfl,x,rfl⟩))
    go_ret
    exact Gives.mk (by rw[HD.out,HF.out,Bool.and_false];rfl)
   ·have HF:=lH (show(l.drop (k+1)).all recordOk=l.all recordOk by have:=HV.out;rw[ehd.out,List.all_cons,hg,Bool.true_and]at this;exact this)
    go_wp2_with (first|(go_at_call 314;refine(k_sRecordOk (by omega)).mono ?_;rintro _ _ ⟨rfl,x,rfl⟩))
    go_roundw
    case rel=>exact⟨k+1,by go_num,by omega,HF,Later.of⟩
    case measure=>simp[intOf];omega
  ·have HF:=lH (show l.all recordOk=true by have:=HV.out;rw[List.drop_of_length_le (by have:=HN.out;omega)]at this;rw[← this];rfl)
   by_cases hmx:n≤5000
   ·have kx:decide ((n:Int)≤5000)=true:=by simp;omega
    go_wp2_with fail
    go_ret
    exact Gives.mk (by rw[HD.out,HF.out,decide_eq_true hmx];rfl)
   ·have kx:decide ((n:Int)≤5000)=false:=by simp;omega
    go_wp2_with fail
    go_ret
    exact Gives.mk (by rw[HD.out,HF.out,decide_eq_false hmx];rfl)
def sentGood(next n:Int)(k:Nat)(x:TSent):Bool:=inB x.Data.size 1 40 && (x.Seq == (next - n+k+256) % 256)
def sentGo(next n:Int):Nat→List TSent→Bool
 | _,[]=>true
 | k,x::r=>sentGood next n k x && sentGo next n (k+1) r
def senderOk(s:TSender):Bool:=inB s.Next 0 255 && (inB s.Window 1 20 && (inB s.Done 0 1000000 && (decide ((s.Waiting.length:Int)≤s.Window) && sentGo s.Next s.Waiting.length 0 s.Waiting)))
theorem k_iSenderOk{B:Nat}{a:Option Addr}{c:Nat}{sd:TSender}{w:World}(hs:RdS B w a c sd.Waiting)(hm:sd.Waiting.length≤100000000)(hi:okDTSender sd) :
  Calls Tryz.prog 192 #[.agg #[.int .i64 sd.Next,.int .i64 sd.Window,.slice a sd.Waiting.length c,.int .i64 sd.Done]] w (Gives w (.bool (senderOk sd))):=by
 obtain⟨n,hn⟩:∃ n,sd.Waiting.length=n:=⟨_,rfl⟩
 have HN:=lH hn
 have HI:=lH hi;clear hi
 have HD:=lH (show senderOk sd=(inB sd.Next 0 255 && (inB sd.Window 1 20 && (inB sd.Done 0 1000000 && (decide ((n:Int)≤sd.Window) && sentGo sd.Next n 0 sd.Waiting))))by rw[senderOk,hn])
 rw[hn]at hm ⊢
 clear hn
 cases c0:inB sd.Next 0 255
 ·skip
  go_enter Tryz.func192,Tryz.ntmps192
  go_wp2_with (first|(go_at_call 85;refine(c_ibetween).mono ?_;rintro _ _ ⟨rfl,x,rfl⟩))
  go_ret
  exact Gives.mk (by rw[HD.out,c0];rfl)
 cases c1:inB sd.Window 1 20
 ·skip
  go_enter Tryz.func192,Tryz.ntmps192
  go_wp2_with (first|(go_at_call 85;refine(c_ibetween).mono ?_;rintro _ _ ⟨rfl,x,rfl⟩))
  go_ret
  exact Gives.mk (by rw[HD.out,c0,c1];rfl)
 cases c2:inB sd.Done 0 1000000
 ·skip
  go_enter Tryz.func192,Tryz.ntmps192
  go_wp2_with (first|(go_at_call 85;refine(c_ibetween).mono ?_;rintro _ _ ⟨rfl,x,rfl⟩))
  go_ret
  exact Gives.mk (by rw[HD.out,c0,c1,c2];rfl)
 have⟨hx1,hx2⟩:=inB_iff.1 c0
 have⟨hw1,hw2⟩:=inB_iff.1 c1
 by_cases hnw:(n:Int)≤sd.Window
 ·have kw:decide (sd.Window<(n:Int))=false:=by simp;omega
  have hn20:n≤20:=by omega
  have HD2:=lH (show senderOk sd=sentGo sd.Next n 0 sd.Waiting by rw[HD.out,c0,c1,c2,decide_eq_true hnw];rfl)
  clear HD
  go_enter Tryz.func192,Tryz.ntmps192
  go_wp2_with (first|(go_at_call 85;refine(c_ibetween).mono ?_;rintro _ _ ⟨rfl,x,rfl⟩))
  go_loopw [32] (fun v wr=>∃ k:Nat,v=.int .i64 k∧k≤n∧Hid (sentGo sd.Next n k (sd.Waiting.drop k)=sentGo sd.Next n 0 sd.Waiting)∧∃ X:Later (w.alloc (.cells #[.int .i64 sd.Next,.int .i64 sd.Window,.slice a n c,.int .i64 sd.Done] 69)),wr=X.w) (fun v _=>(n - intOf v).toNat)
  case atStart=>exact⟨0,rfl,by omega,rfl,Later.of⟩
  case round =>
   obtain⟨k,rfl,hk,HV,X,rfl⟩:=hrel
   by_cases h:k<n
   ·have hkl:k<sd.Waiting.length:=by have:=HN.out;omega
    obtain⟨eb,eoff,ex,rfl,ehb,ehd,eok,eh0,eh1⟩:=hs.atTSent hkl
    have hz:ex.Data.size≤9223372036854775807:=eok.2.1
    have EOK:=lH eok;clear eok hkl
    have EM:(sd.Next - n+k+256) % 256=(sd.Next - n+k) % 256:=Int.add_emod_right ..
    have EH:=lH EM;clear EM
    cases d1:inB ex.Data.size 1 40
    ·have HF:=lH (show senderOk sd=false by have:=HV.out;rw[ehd.out,sentGo,sentGood,d1]at this;rw[HD2.out,← this];rfl)
     cases d2:(ex.Seq == (sd.Next - n+k+256) % 256)
     ·have d3:(ex.Seq != (sd.Next - n+k+256) % 256)=true:=by rw[bne,d2];rfl
      go_wp2_with (first|(go_at_call 85;refine(c_ibetween).mono ?_;rintro _ _ ⟨rfl,x,rfl⟩))
      go_ret
      exact Gives.mk (by rw[HF.out];rfl)
     ·have d3:(ex.Seq != (sd.Next - n+k+256) % 256)=false:=by rw[bne,d2];rfl
      have D2:=lH d2;clear d2
      go_wp2_with (first|(go_at_call 85;refine(c_ibetween).mono ?_;rintro _ _ ⟨rfl,x,rfl⟩))
      go_ret
      exact Gives.mk (by rw[HF.out];rfl)
    ·cases d2:(ex.Seq == (sd.Next - n+k+256) % 256)
     ·have d3:(ex.Seq != (sd.Next - n+k+256) % 256)=true:=by rw[bne,d2];rfl
      have HF:=lH (show senderOk sd=false by have:=HV.out;rw[ehd.out,sentGo,sentGood,d1,d2]at this;rw[HD2.out,← this];rfl)
      go_wp2_with (first|(go_at_call 85;refine(c_ibetween).mono ?_;rintro _ _ ⟨rfl,x,rfl⟩))
      go_ret
      exact Gives.mk (by rw[HF.out];rfl)
     ·have d3:(ex.Seq != (sd.Next - n+k+256) % 256)=false:=by rw[bne,d2];rfl
      have HF:=lH (show sentGo sd.Next n (k+1) (sd.Waiting.drop (k+1))=sentGo sd.Next n 0 sd.Waiting by have:=HV.out;rw[ehd.out,sentGo,sentGood,d1,d2]at this;exact this)
      have D2:=lH d2;clear d2
      go_wp2_with (first|(go_at_call 85;refine(c_ibetween).mono ?_;rintro _ _ ⟨rfl,x,rfl⟩))
      go_roundw
      case rel=>exact⟨k+1,by go_num,by omega,HF,Later.of⟩
      case measure=>simp[intOf];omega
   ·have HF:=lH (show senderOk sd=true by have:=HV.out;rw[List.drop_of_length_le (by have:=HN.out;omega),sentGo]at this;rw[HD2.out,← this])
    go_wp2_with fail
    go_ret
    exact Gives.mk (by rw[HF.out];rfl)
 ·have kw:decide (sd.Window<(n:Int))=true:=by simp;omega
  have HD2:=lH (show senderOk sd=false by rw[HD.out,c0,c1,c2,decide_eq_false hnw];rfl)
  clear HD
  go_enter Tryz.func192,Tryz.ntmps192
  go_wp2_with (first|(go_at_call 85;refine(c_ibetween).mono ?_;rintro _ _ ⟨rfl,x,rfl⟩))
  go_ret
  exact Gives.mk (by rw[HD2.out];rfl)
theorem k_sSenderOk{B:Nat}{a:Option Addr}{c:Nat}{sd:TSender}{w:World}(hs:RdS B w a c sd.Waiting)(hm:sd.Waiting.length≤100000000)(hi:okDTSender sd) :
  Calls Tryz.prog 186 #[.agg #[.int .i64 sd.Next,.int .i64 sd.Window,.slice a sd.Waiting.length c,.int .i64 sd.Done]] w (Gives w (.bool (senderOk sd))):=by
 obtain⟨n,hn⟩:∃ n,sd.Waiting.length=n:=⟨_,rfl⟩
 have HN:=lH hn
 have HI:=lH hi;clear hi
 have HD:=lH (show senderOk sd=(inB sd.Next 0 255 && (inB sd.Window 1 20 && (inB sd.Done 0 1000000 && (decide ((n:Int)≤sd.Window) && sentGo sd.Next n 0 sd.Waiting))))by rw[senderOk,hn])
 rw[hn]at hm ⊢
 clear hn
 cases c0:inB sd.Next 0 255
 ·skip
  go_enter Tryz.func186,Tryz.ntmps186
  go_wp2_with (first|(go_at_call 88;refine(c_sl01In).mono ?_;rintro _ _ ⟨rfl,x,rfl⟩))
  go_ret
  exact Gives.mk (by rw[HD.out,c0];rfl)
 cases c1:inB sd.Window 1 20
 ·skip
  go_enter Tryz.func186,Tryz.ntmps186
  go_wp2_with (first|(go_at_call 88;refine(c_sl01In).mono ?_;rintro _ _ ⟨rfl,x,rfl⟩))
  go_ret
  exact Gives.mk (by rw[HD.out,c0,c1];rfl)
 cases c2:inB sd.Done 0 1000000
 ·skip
  go_enter Tryz.func186,Tryz.ntmps186
  go_wp2_with (first|(go_at_call 88;refine(c_sl01In).mono ?_;rintro _ _ ⟨rfl,x,rfl⟩))
  go_ret
  exact Gives.mk (by rw[HD.out,c0,c1,c2];rfl)
 have⟨hx1,hx2⟩:=inB_iff.1 c0
 have⟨hw1,hw2⟩:=inB_iff.1 c1
 by_cases hnw:(n:Int)≤sd.Window
 ·have kw:decide (sd.Window<(n:Int))=false:=by simp;omega
  have hn20:n≤20:=by omega
  have HD2:=lH (show senderOk sd=sentGo sd.Next n 0 sd.Waiting by rw[HD.out,c0,c1,c2,decide_eq_true hnw];rfl)
  clear HD
  go_enter Tryz.func186,Tryz.ntmps186
  go_wp2_with (first|(go_at_call 88;refine(c_sl01In).mono ?_;rintro _ _ ⟨rfl,x,rfl⟩))
  go_loopw [4] (fun v wr=>∃ k:Nat,v=.int .i64 k∧k≤n∧Hid (sentGo sd.Next n k (sd.Waiting.drop k)=sentGo sd.Next n 0 sd.Waiting)∧∃ X:Later (w.alloc (.cells #[.int .i64 sd.Next,.int .i64 sd.Window,.slice a n c,.int .i64 sd.Done] 69)),wr=X.w) (fun v _=>(n - intOf v).toNat)
  case atStart=>exact⟨0,rfl,by omega,rfl,Later.of⟩
  case round =>
   obtain⟨k,rfl,hk,HV,X,rfl⟩:=hrel
   by_cases h:k<n
   ·have hkl:k<sd.Waiting.length:=by have:=HN.out;omega
    obtain⟨eb,eoff,ex,rfl,ehb,ehd,eok,eh0,eh1⟩:=hs.atTSent hkl
    have hz:ex.Data.size≤9223372036854775807:=eok.2.1
    have EOK:=lH eok;clear eok hkl
    have EM:(sd.Next - n+k+256) % 256=(sd.Next - n+k) % 256:=Int.add_emod_right ..
    have EH:=lH EM;clear EM
    cases d1:inB ex.Data.size 1 40
    ·have HF:=lH (show senderOk sd=false by have:=HV.out;rw[ehd.out,sentGo,sentGood,d1]at this;rw[HD2.out,← this];rfl)
     cases d2:(ex.Seq == (sd.Next - n+k) % 256)
     ·have d3:(ex.Seq != (sd.Next - n+k) % 256)=true:=by rw[bne,d2];rfl
      go_wp2_with (first|(go_at_call 88;refine(c_sl01In).mono ?_;rintro _ _ ⟨rfl,x,rfl⟩))
      go_ret
      exact Gives.mk (by rw[HF.out];rfl)
     ·have d3:(ex.Seq != (sd.Next - n+k) % 256)=false:=by rw[bne,d2];rfl
      have D2:=lH d2;clear d2
      go_wp2_with (first|(go_at_call 88;refine(c_sl01In).mono ?_;rintro _ _ ⟨rfl,x,rfl⟩))
      go_ret
      exact Gives.mk (by rw[HF.out];rfl)
    ·cases d2:(ex.Seq == (sd.Next - n+k) % 256)
     ·have d3:(ex.Seq != (sd.Next - n+k) % 256)=true:=by rw[bne,d2];rfl
      have HF:=lH (show senderOk sd=false by have:=HV.out;rw[ehd.out,sentGo,sentGood,EH.out,d1,d2]at this;rw[HD2.out,← this];rfl)
      go_wp2_with (first|(go_at_call 88;refine(c_sl01In).mono ?_;rintro _ _ ⟨rfl,x,rfl⟩))
      go_ret
      exact Gives.mk (by rw[HF.out];rfl)
     ·have d3:(ex.Seq != (sd.Next - n+k) % 256)=false:=by rw[bne,d2];rfl
      have HF:=lH (show sentGo sd.Next n (k+1) (sd.Waiting.drop (k+1))=sentGo sd.Next n 0 sd.Waiting by have:=HV.out;rw[ehd.out,sentGo,sentGood,EH.out,d1,d2]at this;exact this)
      have D2:=lH d2;clear d2
      go_wp2_with (first|(go_at_call 88;refine(c_sl01In).mono ?_;rintro _ _ ⟨rfl,x,rfl⟩))
      go_roundw
      case rel=>exact⟨k+1,by go_num,by omega,HF,Later.of⟩
      case measure=>simp[intOf];omega
   ·have HF:=lH (show senderOk sd=true by have:=HV.out;rw[List.drop_of_length_le (by have:=HN.out;omega),sentGo]at this;rw[HD2.out,← this])
    go_wp2_with fail
    go_ret
    exact Gives.mk (by rw[HF.out];rfl)
 ·have kw:decide (sd.Window<(n:Int))=true:=by simp;omega
  have HD2:=lH (show senderOk sd=false by rw[HD.out,c0,c1,c2,decide_eq_false hnw];rfl)
  clear HD
  go_enter Tryz.func186,Tryz.ntmps186
  go_wp2_with (first|(go_at_call 88;refine(c_sl01In).mono ?_;rintro _ _ ⟨rfl,x,rfl⟩))
  go_ret
  exact Gives.mk (by rw[HD2.out];rfl)
def ascGo{α:Type}(good:α→Bool)(key:α→Int):Option α→List α→Bool
 | _,[]=>true
 | none,s::r=>good s && ascGo good key (some s) r
 | some q,s::r=>good s && (decide (key q<key s) && ascGo good key (some s) r)
def prevOf{α:Type}(l:List α)(k:Nat):Option α:=if k=0 then none else l[k - 1]?
theorem prevOf_succ{α:Type}{l r:List α}{k:Nat}{s:α}(h:l.drop k=s::r):prevOf l (k+1)=some s:=by
 have h0:(l.drop k)[0]?=some s:=by rw[h];rfl
 rw[List.getElem?_drop]at h0
 simpa[prevOf]using h0
def startOk(n:Nat)(s:Int):Bool:=inB s 0 (n - 1)
def packerOk(p:TPacker):Bool:=inB p.Channel 0 2 && (inB p.Count 0 255 && (decide ((p.Rest.size:Int)≤5000) && ascGo (startOk p.Rest.size) (fun s=>s) none p.Starts))
theorem k_iPackerOk{B:Nat}{a:Option Addr}{c:Nat}{p:TPacker}{w:World}(hs:RdS B w a c p.Starts)(hm:p.Starts.length≤100000000)(hz:p.Rest.size≤100000000) :
  Calls Tryz.prog 251 #[.agg #[.int .i64 p.Channel,.int .i64 p.Count,.string p.Rest,.slice a p.Starts.length c]] w (Gives w (.bool (packerOk p))):=by
 obtain⟨n,hn⟩:∃ n,p.Starts.length=n:=⟨_,rfl⟩
 have HN:=lH hn
 have HD:=lH (show packerOk p=(inB p.Channel 0 2 && (inB p.Count 0 255 && (decide ((p.Rest.size:Int)≤5000) && ascGo (startOk p.Rest.size) (fun s=>s) none p.Starts)))from rfl)
 rw[hn]at hm ⊢
 clear hn
 have hz9:p.Rest.size≤9223372036854775807:=by omega
 cases c0:inB p.Channel 0 2
 ·go_enter Tryz.func251,Tryz.ntmps251
  go_wp2_with (first|(go_at_call 85;refine(c_ibetween).mono ?_;rintro _ _ ⟨rfl,x,rfl⟩))
  go_ret
  exact Gives.mk (by rw[HD.out,c0];rfl)
 cases c1:inB p.Count 0 255
 ·go_enter Tryz.func251,Tryz.ntmps251
  go_wp2_with (first|(go_at_call 85;refine(c_ibetween).mono ?_;rintro _ _ ⟨rfl,x,rfl⟩))
  go_ret
  exact Gives.mk (by rw[HD.out,c0,c1];rfl)
 by_cases hr:p.Rest.size≤5000
 ·have kr:decide (5000<(p.Rest.size:Int))=false:=by simp;omega
  have hd3:decide ((p.Rest.size:Int)≤5000)=true:=by simp;omega
  have HD2:=lH hd3;clear hd3
  have HC:=lH (And.intro c0 c1)
  go_enter Tryz.func251,Tryz.ntmps251
  go_wp2_with (first|(go_at_call 85;refine(c_ibetween).mono ?_;rintro _ _ ⟨rfl,x,rfl⟩))
  clear c0 c1
  go_loopw [24] (fun v wr=>∃ k:Nat,v=.int .i64 k∧k≤n∧Hid (ascGo (startOk p.Rest.size) (fun s=>s) (prevOf p.Starts k) (p.Starts.drop k)=ascGo (startOk p.Rest.size) (fun s=>s) none p.Starts)∧∃ X:Later (w.alloc (.cells #[.int .i64 p.Channel,.int .i64 p.Count,.string p.Rest,.slice a n c] 85)),wr=X.w) (fun v _=>(n - intOf v).toNat)
  case atStart=>exact⟨0,rfl,by omega,rfl,Later.of⟩
  case round =>
   obtain⟨k,rfl,hk,HV,X,rfl⟩:=hrel
   by_cases h:k<n
   ·have hkl:k<p.Starts.length:=by have:=HN.out;omega
    obtain⟨eb,eoff,es,rfl,ehb,ehd,eok,eh0⟩:=hs.atInt hkl
    have EOK:=lH eok;clear eok hkl
    cases d1:inB es 0 (p.Rest.size - 1)
    ·have HF:=lH (show ascGo (startOk p.Rest.size) (fun s=>s) none p.Starts=false by have:=HV.out;rw[ehd.out]at this;rw[← this];cases prevOf p.Starts k<;>simp[ascGo,startOk,d1])
     go_wp2_with (first|(go_at_call 85;refine(c_ibetween).mono ?_;rintro _ _ ⟨rfl,x,rfl⟩))
     go_ret
     exact Gives.mk (by rw[HD.out,HF.out];simp)
    ·by_cases hz0:k=0
     ·have HF:=lH (show ascGo (startOk p.Rest.size) (fun s=>s) (prevOf p.Starts (k+1)) (p.Starts.drop (k+1))=ascGo (startOk p.Rest.size) (fun s=>s) none p.Starts by have:=HV.out;rw[ehd.out,hz0]at this;rw[prevOf_succ ehd.out,← this];simp[ascGo,prevOf,startOk,d1,hz0])
      have hz':decide (0<(k:Int))=false:=by simp;omega
      have hz2:decide (0<k)=false:=by simp;omega
      clear hz0
      go_wp2_with (first|(go_at_call 85;refine(c_ibetween).mono ?_;rintro _ _ ⟨rfl,x,rfl⟩))
      go_roundw
      case rel=>exact⟨k+1,by go_num,by omega,HF,Later.of⟩
      case measure=>simp[intOf];omega
     ·obtain⟨fb,foff,fs,hbo,fhb,fhd,fok,fh0⟩:=hs.atInt (show k - 1<p.Starts.length by have:=HN.out;omega)
      simp only[Option.some.injEq,Addr.mk.injEq,and_true]at hbo
      obtain⟨rfl,rfl⟩:=hbo
      have FOK:=lH fok;clear fok
      have hz':decide (0<(k:Int))=true:=by simp;omega
      have hz2:decide (0<k)=true:=by simp;omega
      have hp:prevOf p.Starts k=some fs:=by have:=prevOf_succ fhd.out;rwa[show k - 1+1=k from by omega]at this
      have HP:=lH hp;clear hp
      cases d2:decide (es≤fs)
      ·have HF:=lH (show ascGo (startOk p.Rest.size) (fun s=>s) (prevOf p.Starts (k+1)) (p.Starts.drop (k+1))=ascGo (startOk p.Rest.size) (fun s=>s) none p.Starts by have:=HV.out;rw[ehd.out,HP.out]at this;rw[prevOf_succ ehd.out,← this];have h2:decide (fs<es)=true:=(by simp at d2 ⊢;omega);simp only[ascGo,startOk,d1,h2,Bool.true_and])
       go_wp2_with (first|(go_at_call 85;refine(c_ibetween).mono ?_;rintro _ _ ⟨rfl,x,rfl⟩))
       go_roundw
       case rel=>exact⟨k+1,by go_num,by omega,HF,Later.of⟩
       case measure=>simp[intOf];omega
      ·have HF:=lH (show ascGo (startOk p.Rest.size) (fun s=>s) none p.Starts=false by have:=HV.out;rw[ehd.out,HP.out]at this;rw[← this];have h2:decide (fs<es)=false:=(by simp at d2 ⊢;omega);simp only[ascGo,startOk,d1,h2,Bool.true_and,Bool.false_and])
       go_wp2_with (first|(go_at_call 85;refine(c_ibetween).mono ?_;rintro _ _ ⟨rfl,x,rfl⟩))
       go_ret
       exact Gives.mk (by rw[HD.out,HF.out];simp)
   ·have HF:=lH (show ascGo (startOk p.Rest.size) (fun s=>s) none p.Starts=true by have:=HV.out;rw[List.drop_of_length_le (by have:=HN.out;omega)]at this;rw[← this];cases prevOf p.Starts k<;>rfl)
    go_wp2_with fail
    go_ret
    exact Gives.mk (by rw[HD.out,HF.out,HD2.out,HC.out.1,HC.out.2];rfl)
 ·have kr:decide (5000<(p.Rest.size:Int))=true:=by simp;omega
  have hd3:decide ((p.Rest.size:Int)≤5000)=false:=by simp;omega
  have HD2:=lH hd3;clear hd3
  go_enter Tryz.func251,Tryz.ntmps251
  go_wp2_with (first|(go_at_call 85;refine(c_ibetween).mono ?_;rintro _ _ ⟨rfl,x,rfl⟩))
  go_ret
  exact Gives.mk (by rw[HD.out,HD2.out];simp)
theorem k_sPackerOk{B:Nat}{a:Option Addr}{c:Nat}{p:TPacker}{w:World}(hs:RdS B w a c p.Starts)(hm:p.Starts.length≤100000000)(hz:p.Rest.size≤100000000) :
  Calls Tryz.prog 227 #[.agg #[.int .i64 p.Channel,.int .i64 p.Count,.string p.Rest,.slice a p.Starts.length c]] w (Gives w (.bool (packerOk p))):=by
 obtain⟨n,hn⟩:∃ n,p.Starts.length=n:=⟨_,rfl⟩
 have HN:=lH hn
 have HD:=lH (show packerOk p=(inB p.Channel 0 2 && (inB p.Count 0 255 && (decide ((p.Rest.size:Int)≤5000) && ascGo (startOk p.Rest.size) (fun s=>s) none p.Starts)))from rfl)
 rw[hn]at hm ⊢
 clear hn
 have hz9:p.Rest.size≤9223372036854775807:=by omega
 go_enter Tryz.func227,Tryz.ntmps227
 go_wp2_with fail
 go_loopw [3] (fun v wr=>∃ k:Nat,v=.int .i64 k∧k≤n∧Hid (ascGo (startOk p.Rest.size) (fun s=>s) (prevOf p.Starts k) (p.Starts.drop k)=ascGo (startOk p.Rest.size) (fun s=>s) none p.Starts)∧∃ X:Later (w.alloc (.cells #[.int .i64 p.Channel,.int .i64 p.Count,.string p.Rest,.slice a n c] 85)),wr=X.w) (fun v _=>(n - intOf v).toNat)
 case atStart=>exact⟨0,rfl,by omega,rfl,Later.of⟩
 case round =>
  obtain⟨k,rfl,hk,HV,X,rfl⟩:=hrel
  by_cases h:k<n
  ·have hkl:k<p.Starts.length:=by have:=HN.out;omega
   obtain⟨eb,eoff,es,rfl,ehb,ehd,eok,eh0⟩:=hs.atInt hkl
   have EOK:=lH eok;clear eok hkl
   cases d1:inB es 0 (p.Rest.size - 1)
   ·have HF:=lH (show ascGo (startOk p.Rest.size) (fun s=>s) none p.Starts=false by have:=HV.out;rw[ehd.out]at this;rw[← this];cases prevOf p.Starts k<;>simp[ascGo,startOk,d1])
    go_wp2_with (first|((with_reducible refine wp_region_later (by kernel_rfl) (by kernel_rfl) ?_);(repeat(first|go_big_quiet_step (first|(go_at_call 88;exact Gives.quiet (c_sl01In)))|simp only[d1]));refine wpQuiet_nil ?_;rintro _ ⟨x,rfl⟩)|(go_at_call 88;refine(c_sl01In).mono ?_;rintro _ _ ⟨rfl,x,rfl⟩))
    go_ret
    exact Gives.mk (by rw[HD.out,HF.out];simp)
   ·by_cases hz0:k=0
    ·have HF:=lH (show ascGo (startOk p.Rest.size) (fun s=>s) (prevOf p.Starts (k+1)) (p.Starts.drop (k+1))=ascGo (startOk p.Rest.size) (fun s=>s) none p.Starts by have:=HV.out;rw[ehd.out,hz0]at this;rw[prevOf_succ ehd.out,← this];simp[ascGo,prevOf,startOk,d1,hz0])
     have hz':decide (0<(k:Int))=false:=by simp;omega
     have hz2:decide (0<k)=false:=by simp;omega
     clear hz0
     go_wp2_with (first|((with_reducible refine wp_region_later (by kernel_rfl) (by kernel_rfl) ?_);(repeat(first|go_big_quiet_step (first|(go_at_call 88;exact Gives.quiet (c_sl01In)))|simp only[d1]|simp only[hz']|simp only[hz2]));refine wpQuiet_nil ?_;rintro _ ⟨x,rfl⟩)|(go_at_call 88;refine(c_sl01In).mono ?_;rintro _ _ ⟨rfl,x,rfl⟩))
     go_roundw
     case rel=>exact⟨k+1,by go_num,by omega,HF,Later.of⟩
     case measure=>simp[intOf];omega
    ·obtain⟨fb,foff,fs,hbo,fhb,fhd,fok,fh0⟩:=hs.atInt (show k - 1<p.Starts.length by have:=HN.out;omega)
     simp only[Option.some.injEq,Addr.mk.injEq,and_true]at hbo
     obtain⟨rfl,rfl⟩:=hbo
     have FOK:=lH fok;clear fok
     have hz':decide (0<(k:Int))=true:=by simp;omega
     have hz2:decide (0<k)=true:=by simp;omega
     have hp:prevOf p.Starts k=some fs:=by have:=prevOf_succ fhd.out;rwa[show k - 1+1=k from by omega]at this
     have HP:=lH hp;clear hp
     cases d2:decide (es≤fs)
     ·have HF:=lH (show ascGo (startOk p.Rest.size) (fun s=>s) (prevOf p.Starts (k+1)) (p.Starts.drop (k+1))=ascGo (startOk p.Rest.size) (fun s=>s) none p.Starts by have:=HV.out;rw[ehd.out,HP.out]at this;rw[prevOf_succ ehd.out,← this];have h2:decide (fs<es)=true:=(by simp at d2 ⊢;omega);simp only[ascGo,startOk,d1,h2,Bool.true_and])
      go_wp2_with (first|((with_reducible refine wp_region_later (by kernel_rfl) (by kernel_rfl) ?_);(repeat(first|go_big_quiet_step (first|(go_at_call 88;exact Gives.quiet (c_sl01In)))|simp only[d1]|simp only[d2]|simp only[hz']|simp only[hz2]));refine wpQuiet_nil ?_;rintro _ ⟨x,rfl⟩)|(go_at_call 88;refine(c_sl01In).mono ?_;rintro _ _ ⟨rfl,x,rfl⟩))
      go_roundw
      case rel=>exact⟨k+1,by go_num,by omega,HF,Later.of⟩
      case measure=>simp[intOf];omega
     ·have HF:=lH (show ascGo (startOk p.Rest.size) (fun s=>s) none p.Starts=false by have:=HV.out;rw[ehd.out,HP.out]at this;rw[← this];have h2:decide (fs<es)=false:=(by simp at d2 ⊢;omega);simp only[ascGo,startOk,d1,h2,Bool.true_and,Bool.false_and])
      go_wp2_with (first|((with_reducible refine wp_region_later (by kernel_rfl) (by kernel_rfl) ?_);(repeat(first|go_big_quiet_step (first|(go_at_call 88;exact Gives.quiet (c_sl01In)))|simp only[d1]|simp only[d2]|simp only[hz']|simp only[hz2]));refine wpQuiet_nil ?_;rintro _ ⟨x,rfl⟩)|(go_at_call 88;refine(c_sl01In).mono ?_;rintro _ _ ⟨rfl,x,rfl⟩))
      go_ret
      exact Gives.mk (by rw[HD.out,HF.out];simp)
  ·have HF:=lH (show ascGo (startOk p.Rest.size) (fun s=>s) none p.Starts=true by have:=HV.out;rw[List.drop_of_length_le (by have:=HN.out;omega)]at this;rw[← this];cases prevOf p.Starts k<;>rfl)
   cases c0:inB p.Channel 0 2
   ·go_wp2_with (first|(go_at_call 88;refine(c_sl01In).mono ?_;rintro _ _ ⟨rfl,x,rfl⟩))
    go_ret
    exact Gives.mk (by rw[HD.out,c0];rfl)
   cases c1:inB p.Count 0 255
   ·go_wp2_with (first|(go_at_call 88;refine(c_sl01In).mono ?_;rintro _ _ ⟨rfl,x,rfl⟩))
    go_ret
    exact Gives.mk (by rw[HD.out,c0,c1];rfl)
   cases kr:decide ((p.Rest.size:Int)≤5000)
   ·go_wp2_with (first|(go_at_call 88;refine(c_sl01In).mono ?_;rintro _ _ ⟨rfl,x,rfl⟩))
    go_ret
    exact Gives.mk (by rw[HD.out,c0,c1,kr];rfl)
   ·go_wp2_with (first|(go_at_call 88;refine(c_sl01In).mono ?_;rintro _ _ ⟨rfl,x,rfl⟩))
    go_ret
    exact Gives.mk (by rw[HD.out,c0,c1,kr,HF.out];rfl)
def isOrd(s:ByteArray):Bool:=if h:0<s.size then decide (s[0].toNat=0)else false
def ordNums(m:TMission):List Int:=m.Space.Board.Orders.map (·.Number)++m.Space.Board.Done.map (·.Number)
def ordersOnce(m:TMission):Bool:=once (ordNums m) m.Space.Board.Taken && (m.Space.Board.Taken == ((m.Took.countP isOrd:Nat):Int))
theorem countP_snoc{l:List ByteArray}{k:Nat}{s:ByteArray}{r:List ByteArray}(h:l.drop k=s::r):(l.take (k+1)).countP isOrd=(l.take k).countP isOrd+(if isOrd s=true then 1 else 0):=by
 rw[take_snoc' h,List.countP_append];simp[List.countP_cons]
theorem map_snoc{α:Type}{f:α→Int}{l:List α}{k:Nat}{s:α}{r:List α}(h:l.drop k=s::r):(l.take (k+1)).map f=(l.take k).map f++[f s]:=by
 rw[take_snoc' h,List.map_append];rfl
theorem ord_small{m:TMission}(ht:Enc.tot m≤1048576):m.Space.Board.Orders.length≤1048576∧m.Space.Board.Done.length≤1048576∧m.Took.length≤1048576:=by
 have h:=mbounds ht
 have hsp:Enc.tot m.Space.Board+Enc.tot m.Space.Packer+totL m.Space.Files+totL m.Space.Outs+totL m.Space.Sent≤1048576:=h.2.2.2.1
 have n8:=Enc.tot_nonneg m.Space.Board;have n9:=Enc.tot_nonneg m.Space.Packer;have n10:=totL_nonneg m.Space.Files;have n11:=totL_nonneg m.Space.Outs;have n12:=totL_nonneg m.Space.Sent
 have hb:totL m.Space.Board.Params+totL m.Space.Board.Limits+totL m.Space.Board.Orders+totL m.Space.Board.Done+Enc.tot m.Space.Board.Recorder+totL m.Space.Board.Asked≤1048576:=by
  have:Enc.tot m.Space.Board≤1048576:=by omega
  exact this
 have m1:=totL_nonneg m.Space.Board.Params;have m2:=totL_nonneg m.Space.Board.Limits;have m3:=totL_nonneg m.Space.Board.Orders;have m4:=totL_nonneg m.Space.Board.Done;have m5:=Enc.tot_nonneg m.Space.Board.Recorder;have m6:=totL_nonneg m.Space.Board.Asked
 have l1:=totL_len m.Space.Board.Orders;have l2:=totL_len m.Space.Board.Done;have l3:=totL_len m.Took
 omega
set_option maxRecDepth 100000 in
set_option maxHeartbeats 2000000 in
theorem c_iOrdersOnce{B:Nat}{vs:List Value}{m:TMission}{w:World}(h:Enc.Rd B w vs m)(ht:Enc.tot m≤1048576) :
  Calls Tryz.prog 23 #[.agg vs.toArray] w (Gives w (.bool (ordersOnce m))):=by
 obtain⟨A,hvs,F⟩:=mcell h
 have hsm:=ord_small ht
 clear ht h
 have HVS:=lH hvs
 have HB:=lH (Held.new w vs 90 w.heap.size rfl)
 have e21:=HB.out.cellG 59 (.slice A.a21 m.Took.length A.c21) (by rw[hvs];rfl)
 clear hvs
 have F11:=lH F.q11;have F12:=lH F.q12;have F21:=lH F.q21.toSlStr
 have HI:=lH F.ok
 clear F
 obtain⟨n1,hn1⟩:∃ n,m.Space.Board.Orders.length=n:=⟨_,rfl⟩
 obtain⟨n2,hn2⟩:∃ n,m.Space.Board.Done.length=n:=⟨_,rfl⟩
 obtain⟨n3,hn3⟩:∃ n,m.Took.length=n:=⟨_,rfl⟩
 obtain⟨t,htk⟩:∃ t,m.Space.Board.Taken=t:=⟨_,rfl⟩
 have hm1:n1≤1048576:=by omega
 have hm2:n2≤1048576:=by omega
 have hm3:n3≤1048576:=by omega
 clear hsm
 rw[hn3]at e21
 have HN:=lH (And.intro hn1 (And.intro hn2 (And.intro hn3 htk)));clear hn1 hn2 hn3 htk
 go_enter Tryz.func23,Tryz.ntmps23
 go_wp2_with (first|((with_reducible refine wp_region_later (by kernel_rfl) (by kernel_rfl) ?_);(repeat(first|go_big_quiet_step (first|fail)));refine wpQuiet_nil ?_;rintro _ ⟨x,rfl⟩)|(refine stepStore2 rfl _ _ _ rfl (w.heap.size+1) 0 rfl (us:=(cBoard m.Space.Board A.a9 A.c9 A.a10 A.c10 A.a11 A.c11 A.a12 A.c12 A.a13 A.c13 A.a14 A.c14 A.a15 A.c15)) (cs2:=(cBoard m.Space.Board A.a9 A.c9 A.a10 A.c10 A.a11 A.c11 A.a12 A.c12 A.a13 A.c13 A.a14 A.c14 A.a15 A.c15)) (Held.new _ zBoard 84 _ (by simp)) ?a1 ?a2 ?a3 ?a4 ?a5 (w0:=(w.alloc (.cells vs.toArray 90))) inferInstance (by simp) ?a6;go_must ((case a1=>rfl);(case a2=>kernel_rfl);(case a3=>rfl);(case a4=>exact Nat.le_of_ble_eq_true rfl);(case a5=>kernel_rfl);intro z hx kx;have fO:=hx.cellG 4 (.slice A.a11 m.Space.Board.Orders.length A.c11) rfl;have fD:=hx.cellG 5 (.slice A.a12 m.Space.Board.Done.length A.c12) rfl;have fT:=hx.cellG 10 (.int .i64 m.Space.Board.Taken) rfl;rw[HN.out.1]at fO;rw[HN.out.2.1]at fD;rw[HN.out.2.2.2]at fT;have hzz:LtN (w.heap.size+1) z.w.heap.size:=⟨hx.lt⟩;clear hx kx))|(refine stepLoad rfl _ _ rfl w.heap.size 37 rfl (row:=(cBoard m.Space.Board A.a9 A.c9 A.a10 A.c10 A.a11 A.c11 A.a12 A.c12 A.a13 A.c13 A.a14 A.c14 A.a15 A.c15)) (HB.out.to inferInstance) _ Tryz.underlying84 rfl (by kernel_rfl) (by rw[HVS.out];kernel_rfl) ?_))
 go_loopw [4,18] (fun u v wr=>∃ (k:Nat) (acc:List Int) (q:Nat) (sa:Option Addr) (sc:Nat),v=.int .i64 k∧u=.slice sa q sc∧acc.length=q∧k≤n1∧q≤k∧Hid (acc=(m.Space.Board.Orders.take k).map (·.Number))∧Own encInt 3 1 z.w.heap.size wr sa sc acc∧∃ x:Later z.w,wr=x.w) (fun _ v _=>(n1 - intOf v).toNat)
 case atStart=>exact⟨0,[],0,_,0,rfl,rfl,rfl,by omega,by omega,rfl,Own.nil encInt_len,Later.of⟩
 case round =>
  obtain⟨k,acc,q,sa,sc,rfl,rfl,hacc,hk,hqk,hf,hown,x0,rfl⟩:=hrel
  by_cases h:k<n1
  ·have hkl:k<m.Space.Board.Orders.length:=by have:=HN.out.1;omega
   obtain⟨eb,eoff,ex,he,ehb,ehd,eok,eh0,eh1,eh2,eh3,eh4⟩:=F11.out.atTWaiting hkl
   rw[he]at fO
   (try rw[he])
   have HF:=lH (show acc++[ex.Number]=(m.Space.Board.Orders.take (k+1)).map (·.Number)by rw[map_snoc ehd.out,← hf.out])
   have EOK:=lH eok;clear eok he hkl
   go_wp2_with (first|((with_reducible refine wp_region_later (by kernel_rfl) (by kernel_rfl) ?_);(repeat(first|go_big_quiet_step (first|fail)));refine wpQuiet_nil ?_;rintro _ ⟨x,rfl⟩)|((at_builtin;refine wpList_app1X (enc:=encInt) (w0:=z.w) (B:=z.w.heap.size) (z:=.int .i64 0) (size:=1) (bytes:=8) ex.Number rfl (.tmp 22) (.tmp 25) rfl Tryz.underlying46 (by kernel_rfl) rfl (by decide) (by decide) rfl rfl hacc (Own.to hown inferInstance) (by first|(refine blk_alloc _ _ _ ?_;(first|rfl|(simp;done)))|(refine blk_past (blk_alloc _ _ _ ?_);(first|rfl|(simp;done)))|(refine blk_later _ (blk_alloc _ _ _ ?_);(first|rfl|(simp;done)))|(refine blk_later _ (blk_past (blk_alloc _ _ _ ?_));(first|rfl|(simp;done)))|(refine blk_past (blk_past (blk_alloc _ _ _ ?_));(first|rfl|(simp;done)))|assumption) rfl (encInt_one _) (by omega) LeN.out inferInstance LeN.out ?_;intro sa1 sc1 x1 hown1 hgr1)))
   go_roundw
   case rel=>exact⟨k+1,acc++[ex.Number],q+1,sa1,sc1,by go_num,rfl,by simp[hacc],by omega,by omega,HF,hown1,Later.of⟩
   case measure=>simp[intOf];omega
  ·have hkn:k=n1:=by omega
   have HF1:=lH (show acc=m.Space.Board.Orders.map (·.Number)by have:=hf.out;rw[List.take_of_length_le (by have:=HN.out.1;omega)]at this;exact this)
   have hq1:q≤1048576:=by omega
   clear hf hkn
   go_wp2_with (first|((with_reducible refine wp_region_later (by kernel_rfl) (by kernel_rfl) ?_);(repeat(first|go_big_quiet_step (first|fail)));refine wpQuiet_nil ?_;rintro _ ⟨x,rfl⟩))
   go_loopw [4,31] (fun u v wr=>∃ (k:Nat) (acc2:List Int) (q2:Nat) (sa:Option Addr) (sc:Nat),v=.int .i64 k∧u=.slice sa q2 sc∧acc2.length=q2∧k≤n2∧q2≤1048576+k∧Hid (acc2=acc++(m.Space.Board.Done.take k).map (·.Number))∧Own encInt 3 1 z.w.heap.size wr sa sc acc2∧∃ x:Later z.w,wr=x.w) (fun _ v _=>(n2 - intOf v).toNat)
   case atStart=>exact⟨0,acc,q,sa,sc,rfl,rfl,hacc,by omega,by omega,by simp[Hid],hown.to inferInstance,Later.of⟩
   case round =>
    obtain⟨k,acc2,q2,sa,sc,rfl,rfl,hacc2,hk,hqk2,hf,hown,x1,rfl⟩:=hrel
    by_cases h:k<n2
    ·have hkl:k<m.Space.Board.Done.length:=by have:=HN.out.2.1;omega
     obtain⟨eb,eoff,ex,he,ehb,ehd,eok,eh0,eh1,eh2⟩:=F12.out.atTDone hkl
     rw[he]at fD
     (try rw[he])
     have HF:=lH (show acc2++[ex.Number]=acc++(m.Space.Board.Done.take (k+1)).map (·.Number)by rw[map_snoc ehd.out,hf.out,List.append_assoc])
     have EOK:=lH eok;clear eok he hkl
     go_wp2_with (first|((with_reducible refine wp_region_later (by kernel_rfl) (by kernel_rfl) ?_);(repeat(first|go_big_quiet_step (first|fail)));refine wpQuiet_nil ?_;rintro _ ⟨x,rfl⟩)|((at_builtin;refine wpList_app1X (enc:=encInt) (w0:=z.w) (B:=z.w.heap.size) (z:=.int .i64 0) (size:=1) (bytes:=8) ex.Number rfl (.tmp 35) (.tmp 38) rfl Tryz.underlying46 (by kernel_rfl) rfl (by decide) (by decide) rfl rfl hacc2 (Own.to hown inferInstance) (by first|(refine blk_alloc _ _ _ ?_;(first|rfl|(simp;done)))|(refine blk_past (blk_alloc _ _ _ ?_);(first|rfl|(simp;done)))|(refine blk_later _ (blk_alloc _ _ _ ?_);(first|rfl|(simp;done)))|(refine blk_later _ (blk_past (blk_alloc _ _ _ ?_));(first|rfl|(simp;done)))|(refine blk_past (blk_past (blk_alloc _ _ _ ?_));(first|rfl|(simp;done)))|assumption) rfl (encInt_one _) (by omega) LeN.out inferInstance LeN.out ?_;intro sa1 sc1 x1 hown1 hgr1)))
     go_roundw
     case rel=>exact⟨k+1,acc2++[ex.Number],q2+1,sa1,sc1,by go_num,rfl,by simp[hacc2],by omega,by omega,HF,hown1,Later.of⟩
     case measure=>simp[intOf];omega
    ·have HF2:=lH (show acc2=ordNums m by have:=hf.out;rw[List.take_of_length_le (by have:=HN.out.2.1;omega),HF1.out]at this;exact this)
     have hq2:q2≤2097152:=by omega
     clear hf
     have HO:=lH hown.sl;clear hown
     go_wp2_with (first|((with_reducible refine wp_region_later (by kernel_rfl) (by kernel_rfl) ?_);(repeat(first|go_big_quiet_step (first|fail)));refine wpQuiet_nil ?_;rintro _ ⟨x,rfl⟩))
     go_loopw [9,44] (fun u v wr=>∃ (k r:Nat),v=.int .i64 k∧u=.int .i64 r∧k≤n3∧r≤k∧Hid (r=(m.Took.take k).countP isOrd)∧∃ x:Later x1.w,wr=x.w) (fun _ v _=>(n3 - intOf v).toNat)
     case atStart=>exact⟨0,0,rfl,rfl,by omega,by omega,rfl,Later.of⟩
     case round =>
      obtain⟨k,r,rfl,rfl,hk,hr,hf,x2,rfl⟩:=hrel
      by_cases h:k<n3
      ·obtain⟨b,off,s,ha,hb,hd,h0⟩:=F21.out.str (show k<m.Took.length by have:=HN.out.2.2.1;omega)
       rw[ha]at e21
       (try rw[ha])
       have hcs:=countP_snoc hd.out
       clear ha hd
       by_cases hz:0<s.size
       ·have c1:(s.toList == [])=false:=by
         rw[ByteArray.toList_eq]
         have h7:s.data.toList.length=s.size:=Array.length_toList
         cases h8:s.data.toList with
         | nil=>rw[h8]at h7;simp at h7;omega
         | cons _ _=>rfl
        have c2:(s.toList != [])=true:=by rw[bne,c1];rfl
        have j0:(0:Int)<s.size:=by omega
        by_cases g0:s[0].toNat=0
        ·have HF:=lH (show r+1=(m.Took.take (k+1)).countP isOrd by rw[hcs,← hf.out,if_pos (by rw[isOrd,dif_pos hz,decide_eq_true g0])])
         clear hcs hf
         go_wp2_with (first|((with_reducible refine wp_region_later (by kernel_rfl) (by kernel_rfl) ?_);(repeat(first|go_big_quiet_step (first|fail)|simp only[c2]|simp only[c1]));refine wpQuiet_nil ?_;rintro _ ⟨x,rfl⟩))
         go_roundw
         case rel=>exact⟨k+1,r+1,by go_num,by go_num,by omega,by omega,HF,Later.of⟩
         case measure=>simp[intOf];omega
        ·have HF:=lH (show r=(m.Took.take (k+1)).countP isOrd by rw[hcs,← hf.out,if_neg (by rw[isOrd,dif_pos hz,decide_eq_false g0];simp)];rfl)
         have c3:(((s[0].toNat:Nat):Int) == 0)=false:=by simp;omega
         clear hcs hf
         go_wp2_with (first|((with_reducible refine wp_region_later (by kernel_rfl) (by kernel_rfl) ?_);(repeat(first|go_big_quiet_step (first|fail)|simp only[c2]|simp only[c1]|simp only[c3]));refine wpQuiet_nil ?_;rintro _ ⟨x,rfl⟩))
         go_roundw
         case rel=>exact⟨k+1,r,by go_num,by go_num,by omega,by omega,HF,Later.of⟩
         case measure=>simp[intOf];omega
       ·have c1:(s.toList == [])=true:=by
         rw[ByteArray.toList_eq]
         have h7:s.data.toList.length=s.size:=Array.length_toList
         cases h8:s.data.toList with
         | nil=>rfl
         | cons _ _=>rw[h8]at h7;simp at h7;omega
        have c2:(s.toList != [])=false:=by rw[bne,c1];rfl
        have HF:=lH (show r=(m.Took.take (k+1)).countP isOrd by rw[hcs,← hf.out,if_neg (by rw[isOrd,dif_neg hz];simp)];rfl)
        clear hcs hf
        go_wp2_with (first|((with_reducible refine wp_region_later (by kernel_rfl) (by kernel_rfl) ?_);(repeat(first|go_big_quiet_step (first|fail)|simp only[c2]|simp only[c1]));refine wpQuiet_nil ?_;rintro _ ⟨x,rfl⟩))
        go_roundw
        case rel=>exact⟨k+1,r,by go_num,by go_num,by omega,by omega,HF,Later.of⟩
        case measure=>simp[intOf];omega
      ·have HF3:=lH (show ordersOnce m=(once acc2 t && (t == (r:Int)))by
        have:=hf.out
        rw[List.take_of_length_le (by have:=HN.out.2.2.1;omega)]at this
        rw[ordersOnce,HF2.out,HN.out.2.2.2,this])
       clear hf
       cases c5:once acc2 t
       ·go_wp2_with (first|((with_reducible refine wp_region_later (by kernel_rfl) (by kernel_rfl) ?_);(repeat(first|go_big_quiet_step (first|fail)));refine wpQuiet_nil ?_;rintro _ ⟨x,rfl⟩))
        refine(c_ieachOnce (HO.out.to inferInstance) hacc2 (by omega)).mono ?_
        rintro _ _ ⟨rfl,y9,rfl⟩
        go_wp2_with (first|((with_reducible refine wp_region_later (by kernel_rfl) (by kernel_rfl) ?_);(repeat(first|go_big_quiet_step (first|fail)|simp only[c5]));refine wpQuiet_nil ?_;rintro _ ⟨x,rfl⟩))
        go_ret
        exact Gives.mk (by rw[HF3.out,c5];rfl)
       ·go_wp2_with (first|((with_reducible refine wp_region_later (by kernel_rfl) (by kernel_rfl) ?_);(repeat(first|go_big_quiet_step (first|fail)));refine wpQuiet_nil ?_;rintro _ ⟨x,rfl⟩))
        refine(c_ieachOnce (HO.out.to inferInstance) hacc2 (by omega)).mono ?_
        rintro _ _ ⟨rfl,y9,rfl⟩
        go_wp2_with (first|((with_reducible refine wp_region_later (by kernel_rfl) (by kernel_rfl) ?_);(repeat(first|go_big_quiet_step (first|fail)|simp only[c5]));refine wpQuiet_nil ?_;rintro _ ⟨x,rfl⟩))
        go_ret
        exact Gives.mk (by rw[HF3.out,c5];rfl)
theorem planAll_eq{p s l:Int}{list:List Request}(ok:orbitOk p s l=true)(hr:requestsOk list=true):planAll p s l list=planFrom p s l list 1000001 0 (list.map (·.Need)):=by
 unfold planAll
 rw[ok,hr,if_pos (by simp)]
theorem need_at{list:List Request}{k:Nat}{r:Request}(h:list[k]?=some r):(list.map (·.Need))[k]?=some r.Need:=by rw[List.getElem?_map,h];rfl
theorem plan_count{p s l:Int}{list:List Request}(ok:orbitOk p s l=true)(hr:requestsOk list=true){k:Nat}{r:Request}(h:list[k]?=some r) :
  ∃ e,(planEnd p s l list 1000001 0 (list.map (·.Need)))[k]?=some e∧(slotsOf r.Id (planAll p s l list):Int)=r.Need - e∧0≤e∧e≤r.Need:=by
 rw[planAll_eq ok hr]
 exact planEnd_count (requestsOk_apart hr) (okLeft_needs hr) h (need_at h)
theorem plan_le{p s l:Int}{list:List Request}(ok:orbitOk p s l=true)(hr:requestsOk list=true):∀ r∈list,(slotsOf r.Id (planAll p s l list):Int)≤r.Need:=fun r hm=>by
 obtain⟨k,hk⟩:=List.getElem?_of_mem hm
 obtain⟨e,-,h1,h2,-⟩:=plan_count (p:=p) (s:=s) (l:=l) ok hr hk
 omega
theorem plan_mem{p s l:Int}{list:List Request}:∀ x∈planAll p s l list,visible p s l x.Time=true∧∃ r∈list,r.Id=x.Id∧inB x.Time r.Ready r.Deadline=true:=fun x hx=>by
 unfold planAll at hx
 split at hx
 ·exact(planFrom_mem x hx).2.2
 ·simp at hx
theorem plan_sum{p s l:Int}{list:List Request}(hr:requestsOk list=true):slotSum (planAll p s l list) list=(planAll p s l list).length :=
 slotSum_all hr (fun x hx=>by obtain⟨-,r,h1,h2,-⟩:=plan_mem x hx;exact⟨r,h1,h2⟩)
end Go.Proofs.YtdinhfeflobafaaGreat
