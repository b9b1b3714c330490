/- The contracts of AddPair. No condition but on sizes. -/
import Derived.Test.YtdoilejecjaldaaGreatHSlots2
import Derived.Test.YtdoilejecjaldaaGreatHM0
import Derived.Test.YtdoilejecjaldaaGreatHDeep
import Derived.Deep.MidRow
import Derived.Deep.RegionHeld3
import Derived.Test.YtdoilejecjaldaaGreatHWord
import Derived.Test.YtdoilejecjaldaaGreatHFileO
import Derived.Shelf.Abstract
namespace Go.Proofs.YtdoilejecjaldaaGreat
set_option maxRecDepth 100000
set_option maxHeartbeats 2000000
set_option linter.unusedVariables false
open Go.ChangeShapes Go.WideShapes Go.ChangeAt Go.RowKit
theorem bv4(x:af2):∀ u∈Y8 x,u.oneCell'=true:=by
 intro u hu
 simp only[Y8,List.mem_cons,List.not_mem_nil,or_false]at hu
 rcases hu with rfl|rfl<;>rfl
theorem bs1{a:Option Addr}{n c:Nat}{l:List af2}{w:World}(hs:Sl Y8 w a l)(hn:l.length=n)(hm:n≤100000000) :
  Calls Tryz.prog 105 #[.slice a n c] w (N0 Y8 198 2 w l):=by
 cases a with
 | none =>
  have hl:l=[]:=by
   cases l with
   | nil=>rfl
   | cons y r=>obtain⟨b,off,h0,-⟩:=hs 0 y rfl;cases h0
  have hq:=fun(w:World)=>run_eql_slice_nil (P:=Tryz.prog) w 72 198 none n c Tryz.underlying72
  simp only[Option.isNone]at hq
  have HL:=lH hl;clear hl
  go_enter Tryz.func105,Tryz.ntmps105
  go_wp2_with (fail)
  go_ret
  exact N0.nilOf aS6 HL.out
 | some ad =>
  have hq:=fun(w:World)=>run_eql_slice_nil (P:=Tryz.prog) w 72 198 (some ad) n c Tryz.underlying72
  simp only[Option.isNone]at hq
  go_enter Tryz.func105,Tryz.ntmps105
  go_wp2_with (first|(at_builtin;refine J9 (enc:=Y8) (w0:=w) (z:=.agg #[.int .i64 0,.int .i64 0]) (size:=2) (bytes:=16) (n:=0) (l:=[]) rfl (.tmp 5) (.tmp 6) rfl Tryz.underlying72 kr rfl (by decide) (by decide) rfl rfl (fun h=>by cases h) rfl hn (Own.emptyAt aS6 nl rfl) (hs.to ii) bv4 (by omega) ?_;intro sa1 sc1 x1 hown1 hgr1))
  go_ret
  rw[List.nil_append]at hown1
  exact⟨sa1,sc1,by rw[hn];first|rfl|simp,hown1,b5.of⟩
def S6:List Value→Nat→List Value→List Value
 | cs,_,[]=>cs
 | cs,o,v::r=>S6 (cs.set o v) (o+1) r
theorem i9.setCells{b:Nat}{T:TypeId}:∀ (us:List Value) {w:World} {cs:List Value} (o:Nat),i9 w b cs T→i9 (w.setCells b o us) b (S6 cs o us) T
 | [],_,_,_,h=>h
 | v::r,_,_,o,h=>(h.set o v).setCells r (o+1)
theorem b8.setCells{B b:Nat}(hb:b<B):∀ (us:List Value) {a w:World} (o:Nat),b8 B a w→b8 B a (w.setCells b o us)
 | [],_,_,_,h=>h
 | v::r,_,_,o,h=>b8.setCells hb r (o+1) (h.set' b o v hb)
theorem S3{B b:Nat}(hb:B≤b):∀ (us:List Value) {a w:World} (o:Nat),Below B a w→Below B a (w.setCells b o us)
 | [],_,_,_,h=>h
 | v::r,_,_,o,h=>S3 hb r (o+1) (h.setCell hb v)
theorem i9.range{w:World}{b:Nat}{cs row:List Value}{T:TypeId}(h:i9 w b cs T){o n:Nat}(hr:(cs.drop o).take n=row):w.rangeAt b o row:=fun j v hv=>by
 rw[h.cell,← hv,← hr]
 have hj:j<n:=by
  have:=(List.getElem?_eq_some_iff.1 hv).1
  rw[← hr]at this
  simp at this;omega
 rw[List.getElem?_take_of_lt hj,List.getElem?_drop]
theorem i9.there{w:World}{b:Nat}{cs:List Value}{T:TypeId}(h:i9 w b cs T){o n:Nat}(hn:o+n≤cs.length):w.there b o n:=fun j hj=>by
 rw[h.cell,h.free,List.getElem?_eq_getElem (by omega)]
 exact⟨rfl,rfl⟩
section
variable {P:Program} {ops:Array Oper} {rest:List Oper} {op:Oper} {a:Act} {w:World} {Q:Exit→Act→World→Prop}
theorem ac3{b o ty:Nat}{v:Value}{us:List Value}(hv:v.cells.toList=us)(ht:w.there b o us.length)(hi:(P.info? ty).map (·.size)=some us.length)(h1:∀ u∈us,u.oneCell'=true) :
  (storeVar ty ⟨b,o,none⟩ v).run P w=.ok () (w.setCells b o us):=by
 have:=run_storeCells_cells (P:=P) b o us 0 w (fun j hj=>by simpa using(ht j hj).1) (fun j hj=>by simpa using(ht j hj).2) h1
 have hvs:v.cells.size=us.length:=by rw[← hv,Array.length_toList]
 cases hq:P.info? ty with
 | none=>simp[hq]at hi
 | some i =>
  have hs:us.length=i.size:=by simp[hq]at hi;omega
  simp only[Nat.add_zero]at this
  simp[storeVar,sizeOf,typeInfo,hq,hvs,hs,hv,this]
theorem B9(hgd:op.guard=none)(ty:TypeId)(x y:Operand)(ho:op.op=.store ty x y)(b o:Nat)(hx:a.eval x=.pointer (some ⟨b,o,none⟩)){cs us cs2:List Value}{T:TypeId}(H:i9 w b cs T)
  (hv:(a.eval y).cells.toList=us) (hi:(P.info? ty).map (·.size)=some us.length) (h1:us.all (·.oneCell')=true) (hl:o+us.length≤cs.length) (hcs:S6 cs o us=cs2) {w0:World} (g:d5 w0 w) (hb:w0.heap.size≤b)
  (h:∀ z:b5 w0,i9 z.w b cs2 T→b8 (b+1) w z.w→wpList P ops Q rest (a.put op.dst undef) z.w):wpList P ops Q (op::rest) a w:=by
 subst hcs
 refine wpList_plain hgd fun _ hK=>?_
 unfold Oper.wp execOp
 simp only[ho,hx,Instr.storeAt,Instr.sureAddr,Sem.run_bind,Sem.run_pure,Result.andThen_ok,ac3 hv (H.there hl) hi (fun u hu=>List.all_eq_true.1 h1 u hu)]
 exact hK _ _ (h ⟨_,S3 hb us o g.out⟩ (H.setCells us o) (b8.setCells (by omega) us o (b8.same _ _)))
theorem f7(hgd:op.guard=none)(ty:TypeId)(x:Operand)(ho:op.op=.load ty x)(b o:Nat)(hx:a.eval x=.pointer (some ⟨b,o,none⟩)){cs row:List Value}{T:TypeId}(H:i9 w b cs T)
  (d:TypeDesc) (hu:P.underlying ty=some d) (hd:d.isRow=true) (hi:(P.info? ty).map (·.size)=some row.length) (hr:(cs.drop o).take row.length=row)
  (h:wpList P ops Q rest (a.put op.dst (.agg row.toArray)) w):wpList P ops Q (op::rest) a w :=
 wpList_load_mid hgd ty x ho b o hx row d (H.range hr) hu hd hi h
theorem F7{fn:Func}{p t:Nat}(hf:fn.results=#[.cell p t]){tmps:Array Value}{b:Nat}(hp:tmps.getD p undef=.pointer (some ⟨b,0,none⟩)){cs:List Value}{T:TypeId}(H:i9 w b cs T)
  (d:TypeDesc) (hu:P.underlying t=some d) (hd:d.isRow=true) (hi:(P.info? t).map (·.size)=some cs.length):(results fn tmps).run P w=.ok (.agg cs.toArray) w:=by
 have:=run_loadVar_mid w b 0 t cs d (H.range (o:=0) (n:=cs.length) (by simp)) hu hd hi
 have hp2:tmps[p]?.getD undef=.pointer (some ⟨b,0,none⟩):=by rw[← hp];simp[Array.getD_eq_getD_getElem?]
 simp[results,hf,hp2,asAddr,this]
end
structure But(b:Nat)(w w':World):Prop where
 size:w.heap.size≤w'.heap.size
 block:∀ k,k≠b→k<w.heap.size→w'.heap[k]?=w.heap[k]?
theorem But.setCells{b:Nat}:∀ (us:List Value) {a w:World} (o:Nat),But b a w→But b a (w.setCells b o us)
 | [],_,_,_,h=>h
 | v::r,_,w,o,h=>But.setCells r (o+1) ⟨by simpa using h.size,fun k h1 h2=>by
  rw[Below.heap_setCell _ _ _ _ (fun e=>h1 (by simpa using e))];exact h.block k h1 h2⟩
theorem But.under{B b:Nat}{u w w':World}(h:But b w w')(g:b8 B u w)(hb:u.heap.size≤b):b8 B u w':=⟨Nat.le_trans g.size h.size,fun k h1 h2=>by
 rw[h.block k (by omega) (Nat.lt_of_lt_of_le h2 g.size)];exact g.block k h1 h2⟩
theorem i9.but{b c:Nat}{w w':World}{cs:List Value}{T:TypeId}(h:i9 w c cs T)(g:But b w w')(hne:c≠b):i9 w' c cs T:=by
 unfold i9
 rw[g.block c hne h.lt];exact h
section
variable {P:Program} {ops:Array Oper} {rest:List Oper} {op:Oper} {a:Act} {w:World} {Q:Exit→Act→World→Prop}
theorem v8(hgd:op.guard=none)(ty:TypeId)(x y:Operand)(ho:op.op=.store ty x y)(b o:Nat)(hx:a.eval x=.pointer (some ⟨b,o,none⟩)){cs us cs2:List Value}{T:TypeId}(H:i9 w b cs T)
  (hv:(a.eval y).cells.toList=us) (hi:(P.info? ty).map (·.size)=some us.length) (h1:us.all (·.oneCell')=true) (hl:o+us.length≤cs.length) (hcs:S6 cs o us=cs2) {w0:World} (g:d5 w0 w) (hb:w0.heap.size≤b)
  (h:∀ z:b5 w0,i9 z.w b cs2 T→But b w z.w→wpList P ops Q rest (a.put op.dst undef) z.w):wpList P ops Q (op::rest) a w:=by
 subst hcs
 refine wpList_plain hgd fun _ hK=>?_
 unfold Oper.wp execOp
 simp only[ho,hx,Instr.storeAt,Instr.sureAddr,Sem.run_bind,Sem.run_pure,Result.andThen_ok,ac3 hv (H.there hl) hi (fun u hu=>List.all_eq_true.1 h1 u hu)]
 exact hK _ _ (h ⟨_,S3 hb us o g.out⟩ (H.setCells us o) (But.setCells us o ⟨Nat.le_refl _,fun _ _ _=>rfl⟩))
end
theorem be1:∀ (us pre post:List Value),us.length=post.length→S6 (pre++post) pre.length us=pre++us
 | [],pre,post,h=>by
  have:post=[]:=List.length_eq_zero_iff.1 h.symm
  subst this;rfl
 | v::r,pre,[],h=>by simp at h
 | v::r,pre,u::post,h=>by
  have:=be1 r (pre++[v]) post (by simpa using h)
  rw[S6]
  rw[List.set_append_right _ _ nl,Nat.sub_self,List.set_cons_zero]
  simpa using this
theorem bF3{cs us:List Value}(h:us.length=cs.length):S6 cs 0 us=us:=be1 us [] cs h
theorem sS{P:Program}{ops:Array Oper}{rest:List Oper}{op:Oper}{a:Act}{w:World}{Q:Exit→Act→World→Prop}(hgd:op.guard=none)(ty:TypeId)(x y:Operand)(ho:op.op=.store ty x y)(b o:Nat)(hx:a.eval x=.pointer (some ⟨b,o,none⟩)){cs us cs2:List Value}{T:TypeId}(H:i9 w b cs T)(hv:(a.eval y).cells.toList=us)(hi:(P.info? ty).map (·.size)=some us.length)(h1:us.all (·.oneCell')=true)(hl:o+us.length≤cs.length)(hcs:S6 cs o us=cs2){w0:World}(g:d5 w0 w)(hb:w0.heap.size≤b)
 (h:∀ z:b5 w0,Hid (i9 z.w b cs2 T)→Hid (But b w z.w)→wpList P ops Q rest (a.put op.dst undef) z.w):wpList P ops Q (op::rest) a w:=v8 hgd ty x y ho b o hx H hv hi h1 hl hcs g hb fun z p q=>h z p q
theorem sL{P:Program}{ops:Array Oper}{rest:List Oper}{op:Oper}{a:Act}{w w1:World}{Q:Exit→Act→World→Prop}(hgd:op.guard=none)(ty:TypeId)(x:Operand)(ho:op.op=.load ty x)(b:Nat)(hx:a.eval x=.pointer (some ⟨b,0,none⟩)){cs:List Value}{T:TypeId}{k:Nat}{d:TypeDesc}(H:Hid (i9 w1 b cs T))(g:d5 w1 w)(hu:P.underlying ty=some d)(HL:Hid (cs.length=k))
 (h:wpList P ops Q rest (a.put op.dst (.agg cs.toArray)) w)(hd:d.isRow=true:=by rfl)(hi:(P.info? ty).map (·.size)=some k:=by kernel_rfl):wpList P ops Q (op::rest) a w:=f7 hgd ty x ho b 0 hx (H.out.to g) d hu hd (by rw[HL.out];exact hi) (by rw[List.drop_zero,List.take_length]) h
theorem sW{P:Program}{ops:Array Oper}{rest:List Oper}{op:Oper}{a:Act}{w:World}{Q:Exit→Act→World→Prop}(hgd:op.guard=none)(ty:TypeId)(x y:Operand)(ho:op.op=.store ty x y)(b:Nat)(hx:a.eval x=.pointer (some ⟨b,0,none⟩)){cs us:List Value}{T:TypeId}{k:Nat}(H:i9 w b cs T)(HL:Hid (us.length=k))(HO:Hid (us.all (·.oneCell')=true)){w0:World}(g:d5 w0 w)(hb:w0.heap.size≤b)
 (h:∀ z:b5 w0,Hid (i9 z.w b us T)→Hid (But b w z.w)→wpList P ops Q rest (a.put op.dst undef) z.w)(hv:(a.eval y).cells.toList=us:=by rfl)(hi:(P.info? ty).map (·.size)=some k:=by kernel_rfl)(hk:cs.length=k:=by rfl):wpList P ops Q (op::rest) a w:=
 v8 hgd ty x y ho b 0 hx H (us:=us) (cs2:=us) hv (by rw[HL.out];exact hi) HO.out (by rw[HL.out,hk];omega) (bF3 (HL.out.trans hk.symm)) g hb fun z h1 h2=>h z h1 h2
def j4(s:ByteArray):List Int:=s.data.toList.map (fun b=>(b.toNat:Int))
@[irreducible] def ai7(s:ByteArray):Int:=crc 65535 (j4 s)
theorem aI9(s:ByteArray):ai7 s=crc 65535 (j4 s):=by unfold ai7;rfl
theorem ba6(n b:Int)(l:List Int):crc n (b::l)=crc (af4 8 (bits .xor .i64 n (256*b))) l:=by with_unfolding_all rfl
theorem bn0(n:Int):crc n []=n:=by with_unfolding_all rfl
theorem J6(s:ByteArray):(j4 s).length=s.size:=by simp[j4]
theorem W8{s:ByteArray}{k:Nat}(h:k<s.size):((s[k]'h).toNat:Int)≤255∧(j4 s).drop k=((s[k]'h).toNat:Int)::(j4 s).drop (k+1):=by
 refine⟨?_,?_⟩
 ·have:=(s[k]'h).toNat_lt;omega
 ·have hk:k<(j4 s).length:=by rw[J6];exact h
  rw[List.drop_eq_getElem_cons hk]
  congr 1
  simp[j4];rfl
theorem bz7{s:ByteArray}{w:World}(hm:s.size≤4611686018427387904) :
  Calls Tryz.prog 257 #[.string s] w (b4 w (.int .i64 (ai7 s))):=by
 have hlen:=J6 s
 have HC:=lH (show ai7 s=crc 65535 (j4 s)from aI9 s)
 go_enter Tryz.func257,Tryz.ntmps257
 go_wp2_with (fail)
 go_loopw [3,4] (fun u v wr=>∃ (k:Nat) (m:Int),v=.int .i64 k∧u=.int .i64 m∧k≤s.size∧0≤m∧m≤65535∧Hid (crc m ((j4 s).drop k)=ai7 s)∧∃ x:b5 w,wr=x.w) (fun _ v _=>(s.size - intOf v).toNat)
 case atStart=>exact⟨0,65535,rfl,rfl,by omega,by omega,by omega,by rw[HC.out];rfl,b5.of⟩
 case round =>
  obtain⟨k,m,rfl,rfl,hk,hm0,hm1,hf,x0,rfl⟩:=hrel
  by_cases h:k<s.size
  ·obtain⟨hb1,hd⟩:=W8 h
   have⟨hx0,hx1⟩:=br6 hm0 hm1 (show 0≤256*((s[k]'h).toNat:Int)by omega) (show 256*((s[k]'h).toNat:Int)≤65535 by omega)
   go_wp2_with (fail)
   go_loopw [3,5] (fun u v wr=>∃ (j:Nat) (m1:Int),v=.int .i64 j∧u=.int .i64 m1∧j≤8∧0≤m1∧m1≤65535∧Hid (af4 (8 - j) m1=af4 8 (bits .xor .i64 m (256*((s[k]'h).toNat:Int))))∧∃ y:b5 x0.w,wr=y.w) (fun _ v _=>(8 - intOf v).toNat)
   case atStart=>exact⟨0,_,rfl,rfl,by omega,hx0,hx1,by simp[Hid],b5.of⟩
   case round =>
    obtain⟨j,m1,rfl,rfl,hj,hn0,hn1,hg,y,rfl⟩:=hrel
    by_cases h2:j<8
    ·have ht:=bG4 hn0 hn1
     have⟨hc0,hc1⟩:=aE3 hn0 hn1
     cases c1:decide (32768≤m1)
     ·go_wp2_with (fail)
      go_roundw
      case rel=>exact⟨j+1,aq7 m1,by go_num,by simp only[aq7,if_neg (show ¬ 32768≤m1 by simpa using c1),Int.mul_comm m1 2],by omega,hc0,hc1,by have:=hg.out;rw[show 8 - j=(8 - (j+1))+1 by omega,af4]at this;exact this,b5.of⟩
      case measure=>simp[intOf];omega
     ·go_wp2_with (fail)
      go_roundw
      case rel=>exact⟨j+1,aq7 m1,by go_num,by simp only[aq7,if_pos (show 32768≤m1 by simpa using c1)],by omega,hc0,hc1,by have:=hg.out;rw[show 8 - j=(8 - (j+1))+1 by omega,af4]at this;exact this,b5.of⟩
      case measure=>simp[intOf];omega
    ·have:j=8:=by omega
     subst this
     have hm1:=lH (show af4 8 (bits .xor .i64 m (256*((s[k]'h).toNat:Int)))=m1 by rw[← hg.out];rfl)
     go_wp2_with (fail)
     go_roundw
     case rel=>exact⟨k+1,m1,by go_num,rfl,by omega,hn0,hn1,by have:=hf.out;rw[hd,ba6,hm1.out]at this;exact lH this,b5.of⟩
     case measure=>simp[intOf];omega
  ·go_wp2_with (fail)
   go_ret
   exact b4.mk (by have:=hf.out;rw[List.drop_of_length_le (by omega),bn0]at this;rw[← this];rfl)
theorem bA1{s:ByteArray}{w:World}(hm:s.size≤4611686018427387904) :
  Calls Tryz.prog 246 #[.string s] w (b4 w (.int .i64 (ai7 s))):=by
 have hlen:=J6 s
 have HC:=lH (show ai7 s=crc 65535 (j4 s)from aI9 s)
 go_enter Tryz.func246,Tryz.ntmps246
 go_wp2_with (fail)
 go_loopw [3,4] (fun u v wr=>∃ (k:Nat) (m:Int),v=.int .i64 k∧u=.int .i64 m∧k≤s.size∧0≤m∧m≤65535∧Hid (crc m ((j4 s).drop k)=ai7 s)∧∃ x:b5 w,wr=x.w) (fun _ v _=>(s.size - intOf v).toNat)
 case atStart=>exact⟨0,65535,rfl,rfl,by omega,by omega,by omega,by rw[HC.out];rfl,b5.of⟩
 case round =>
  obtain⟨k,m,rfl,rfl,hk,hm0,hm1,hf,x0,rfl⟩:=hrel
  by_cases h:k<s.size
  ·obtain⟨hb1,hd⟩:=W8 h
   have⟨hx0,hx1⟩:=br6 hm0 hm1 (show 0≤((s[k]'h).toNat:Int)*256 by omega) (show((s[k]'h).toNat:Int)*256≤65535 by omega)
   go_wp2_with (fail)
   go_loopw [3,5] (fun u v wr=>∃ (j:Nat) (m1:Int),v=.int .i64 j∧u=.int .i64 m1∧j≤8∧0≤m1∧m1≤65535∧Hid (af4 (8 - j) m1=af4 8 (bits .xor .i64 m (((s[k]'h).toNat:Int)*256)))∧∃ y:b5 x0.w,wr=y.w) (fun _ v _=>(8 - intOf v).toNat)
   case atStart=>exact⟨0,_,rfl,rfl,by omega,hx0,hx1,by simp[Hid],b5.of⟩
   case round =>
    obtain⟨j,m1,rfl,rfl,hj,hn0,hn1,hg,y,rfl⟩:=hrel
    by_cases h2:j<8
    ·have ht:=bG4 hn0 hn1
     have⟨hc0,hc1⟩:=aE3 hn0 hn1
     cases c1:decide (32768≤m1)
     ·go_wp2_with (fail)
      go_roundw
      case rel=>exact⟨j+1,aq7 m1,by go_num,by simp only[aq7,if_neg (show ¬ 32768≤m1 by simpa using c1),Int.mul_comm m1 2],by omega,hc0,hc1,by have:=hg.out;rw[show 8 - j=(8 - (j+1))+1 by omega,af4]at this;exact this,b5.of⟩
      case measure=>simp[intOf];omega
     ·go_wp2_with (fail)
      go_roundw
      case rel=>exact⟨j+1,aq7 m1,by go_num,by simp only[aq7,if_pos (show 32768≤m1 by simpa using c1),Int.mul_comm m1 2],by omega,hc0,hc1,by have:=hg.out;rw[show 8 - j=(8 - (j+1))+1 by omega,af4]at this;exact this,b5.of⟩
      case measure=>simp[intOf];omega
    ·have:j=8:=by omega
     subst this
     have hm1:=lH (show af4 8 (bits .xor .i64 m (((s[k]'h).toNat:Int)*256))=m1 by rw[← hg.out];rfl)
     go_wp2_with (fail)
     go_roundw
     case rel=>exact⟨k+1,m1,by go_num,rfl,by omega,hn0,hn1,by have:=hf.out;rw[hd,ba6,← Int.mul_comm _ 256,hm1.out]at this;exact lH this,b5.of⟩
     case measure=>simp[intOf];omega
  ·go_wp2_with (fail)
   go_ret
   exact b4.mk (by have:=hf.out;rw[List.drop_of_length_le (by omega),bn0]at this;rw[← this];rfl)
theorem RdS.atInt{B:Nat}{w:World}{a:Option Addr}{c:Nat}{l:List Int}(h:RdS B w a c l){k:Nat}(hk:k<l.length) :
  ∃ b off x,a=some ⟨b,off,none⟩∧LtN b w.heap.size∧Hid (l.drop k=x::l.drop (k+1))∧i64 x∧(∀ (W:World) [d5 w W],W.cell? ⟨b,off+k,none⟩=some (.int .i64 x)):=by
 obtain⟨b,off,x,vs,h0,h1,h2,⟨rfl,q⟩,hc⟩:=h.at hk
 have:=hc 0 _ rfl
 rw[show off+k*Enc.size Int+0=off+k from by rw[show Enc.size Int=1 from rfl];omega]at this
 exact⟨b,off,x,h0,h1,h2,q,j5 h1.out this⟩
theorem RdS.atBool{B:Nat}{w:World}{a:Option Addr}{c:Nat}{l:List Bool}(h:RdS B w a c l){k:Nat}(hk:k<l.length) :
  ∃ b off x,a=some ⟨b,off,none⟩∧LtN b w.heap.size∧Hid (l.drop k=x::l.drop (k+1))∧(∀ (W:World) [d5 w W],W.cell? ⟨b,off+k,none⟩=some (.bool x)):=by
 obtain⟨b,off,x,vs,h0,h1,h2,rfl,hc⟩:=h.at hk
 have:=hc 0 _ rfl
 rw[show off+k*Enc.size Bool+0=off+k from by rw[show Enc.size Bool=1 from rfl];omega]at this
 exact⟨b,off,x,h0,h1,h2,j5 h1.out this⟩
theorem RdS.atStr{B:Nat}{w:World}{a:Option Addr}{c:Nat}{l:List ByteArray}(h:RdS B w a c l){k:Nat}(hk:k<l.length) :
  ∃ b off x,a=some ⟨b,off,none⟩∧LtN b w.heap.size∧Hid (l.drop k=x::l.drop (k+1))∧x.size≤9223372036854775807∧(∀ (W:World) [d5 w W],W.cell? ⟨b,off+k,none⟩=some (.string x)):=by
 obtain⟨b,off,x,vs,h0,h1,h2,⟨rfl,q⟩,hc⟩:=h.at hk
 have:=hc 0 _ rfl
 rw[show off+k*Enc.size ByteArray+0=off+k from by rw[show Enc.size ByteArray=1 from rfl];omega]at this
 exact⟨b,off,x,h0,h1,h2,q,j5 h1.out this⟩
structure am2 where
 Seed:Int
 Burst:Int
 Loss:Int
def aD4(x:am2):Prop:=i64 x.Seed∧i64 x.Burst∧i64 x.Loss∧True
instance:Enc am2 where
 size:=3
 Rd B w vs x:=vs=[.int .i64 x.Seed,.int .i64 x.Burst,.int .i64 x.Loss]∧aD4 x
 len:=by rintro _ _ _ _ ⟨rfl,hok⟩;rfl
 keep:=by rintro _ _ _ _ _ ⟨rfl,hok⟩ g;exact⟨rfl,hok⟩
 mono:=by rintro _ _ _ _ _ ⟨rfl,hok⟩ g;exact⟨rfl,hok⟩
 tot x:=0
 tot_nonneg x:=by exact Int.le_refl _
structure R5 where
 Channel:Int
 Count:Int
 Rest:ByteArray
 Starts:List Int
def aJ2(x:R5):Prop:=i64 x.Channel∧i64 x.Count∧x.Rest.size≤9223372036854775807∧True
instance:Enc R5 where
 size:=4
 Rd B w vs x:=∃ (a0:Option Addr) (c0:Nat),vs=[.int .i64 x.Channel,.int .i64 x.Count,.string x.Rest,.slice a0 x.Starts.length c0]∧RdS B w a0 c0 x.Starts∧aJ2 x
 len:=by rintro _ _ _ _ ⟨a0,c0,rfl,q0,hok⟩;rfl
 keep:=by rintro _ _ _ _ _ ⟨a0,c0,rfl,q0,hok⟩ g;exact⟨a0,c0,rfl,q0.keep g,hok⟩
 mono:=by rintro _ _ _ _ _ ⟨a0,c0,rfl,q0,hok⟩ g;exact⟨a0,c0,rfl,q0.mono g,hok⟩
 tot x:=(x.Rest.size:Int)+d7 x.Starts
 tot_nonneg x:=by have h0:=b7 x.Starts;omega
structure ai4 where
 Channel:Int
 Next:Int
 Synced:Bool
 Rest:ByteArray
 Lost:Int
def aO0(x:ai4):Prop:=i64 x.Channel∧i64 x.Next∧x.Rest.size≤9223372036854775807∧i64 x.Lost∧True
instance:Enc ai4 where
 size:=5
 Rd B w vs x:=vs=[.int .i64 x.Channel,.int .i64 x.Next,.bool x.Synced,.string x.Rest,.int .i64 x.Lost]∧aO0 x
 len:=by rintro _ _ _ _ ⟨rfl,hok⟩;rfl
 keep:=by rintro _ _ _ _ _ ⟨rfl,hok⟩ g;exact⟨rfl,hok⟩
 mono:=by rintro _ _ _ _ _ ⟨rfl,hok⟩ g;exact⟨rfl,hok⟩
 tot x:=(x.Rest.size:Int)
 tot_nonneg x:=by omega
structure Z1 where
 Seq:Int
 Data:ByteArray
def aN9(x:Z1):Prop:=i64 x.Seq∧x.Data.size≤9223372036854775807∧True
instance:Enc Z1 where
 size:=2
 Rd B w vs x:=vs=[.int .i64 x.Seq,.string x.Data]∧aN9 x
 len:=by rintro _ _ _ _ ⟨rfl,hok⟩;rfl
 keep:=by rintro _ _ _ _ _ ⟨rfl,hok⟩ g;exact⟨rfl,hok⟩
 mono:=by rintro _ _ _ _ _ ⟨rfl,hok⟩ g;exact⟨rfl,hok⟩
 tot x:=(x.Data.size:Int)
 tot_nonneg x:=by omega
theorem RdS.atTSent{B:Nat}{w:World}{a:Option Addr}{c:Nat}{l:List Z1}(h:RdS B w a c l){k:Nat}(hk:k<l.length) :
  ∃ b off x,a=some ⟨b,off,none⟩∧LtN b w.heap.size∧Hid (l.drop k=x::l.drop (k+1))∧aN9 x∧(∀ (W:World) [d5 w W],W.cell? ⟨b,off+k*2,none⟩=some (.int .i64 x.Seq))∧(∀ (W:World) [d5 w W],W.cell? ⟨b,off+k*2+1,none⟩=some (.string x.Data)):=by
 obtain⟨b,off,x,vs,h0,h1,h2,⟨rfl,hok⟩,hc⟩:=h.at hk
 exact⟨b,off,x,h0,h1,h2,hok,j5 h1.out (hc 0 _ rfl),j5 h1.out (hc 1 _ rfl)⟩
structure R6 where
 Next:Int
 Window:Int
 Waiting:List Z1
 Done:Int
def al0(x:R6):Prop:=i64 x.Next∧i64 x.Window∧i64 x.Done∧True
instance:Enc R6 where
 size:=4
 Rd B w vs x:=∃ (a0:Option Addr) (c0:Nat),vs=[.int .i64 x.Next,.int .i64 x.Window,.slice a0 x.Waiting.length c0,.int .i64 x.Done]∧RdS B w a0 c0 x.Waiting∧al0 x
 len:=by rintro _ _ _ _ ⟨a0,c0,rfl,q0,hok⟩;rfl
 keep:=by rintro _ _ _ _ _ ⟨a0,c0,rfl,q0,hok⟩ g;exact⟨a0,c0,rfl,q0.keep g,hok⟩
 mono:=by rintro _ _ _ _ _ ⟨a0,c0,rfl,q0,hok⟩ g;exact⟨a0,c0,rfl,q0.mono g,hok⟩
 tot x:=d7 x.Waiting
 tot_nonneg x:=by have h0:=b7 x.Waiting;omega
structure M4 where
 Expect:Int
 Locked:Bool
 Again:Bool
 Taken:Int
def aN8(x:M4):Prop:=i64 x.Expect∧i64 x.Taken∧True
instance:Enc M4 where
 size:=4
 Rd B w vs x:=vs=[.int .i64 x.Expect,.bool x.Locked,.bool x.Again,.int .i64 x.Taken]∧aN8 x
 len:=by rintro _ _ _ _ ⟨rfl,hok⟩;rfl
 keep:=by rintro _ _ _ _ _ ⟨rfl,hok⟩ g;exact⟨rfl,hok⟩
 mono:=by rintro _ _ _ _ _ ⟨rfl,hok⟩ g;exact⟨rfl,hok⟩
 tot x:=0
 tot_nonneg x:=by exact Int.le_refl _
structure aJ6 where
 Expect:Int
 Locked:Bool
 Again:Bool
def bd2(x:aJ6):Prop:=i64 x.Expect∧True
instance:Enc aJ6 where
 size:=3
 Rd B w vs x:=vs=[.int .i64 x.Expect,.bool x.Locked,.bool x.Again]∧bd2 x
 len:=by rintro _ _ _ _ ⟨rfl,hok⟩;rfl
 keep:=by rintro _ _ _ _ _ ⟨rfl,hok⟩ g;exact⟨rfl,hok⟩
 mono:=by rintro _ _ _ _ _ ⟨rfl,hok⟩ g;exact⟨rfl,hok⟩
 tot x:=0
 tot_nonneg x:=by exact Int.le_refl _
structure Z3 where
 Kind:Int
 At:Int
 A:Int
 B:Int
def aw6(x:Z3):Prop:=i64 x.Kind∧i64 x.At∧i64 x.A∧i64 x.B∧True
instance:Enc Z3 where
 size:=4
 Rd B w vs x:=vs=[.int .i64 x.Kind,.int .i64 x.At,.int .i64 x.A,.int .i64 x.B]∧aw6 x
 len:=by rintro _ _ _ _ ⟨rfl,hok⟩;rfl
 keep:=by rintro _ _ _ _ _ ⟨rfl,hok⟩ g;exact⟨rfl,hok⟩
 mono:=by rintro _ _ _ _ _ ⟨rfl,hok⟩ g;exact⟨rfl,hok⟩
 tot x:=0
 tot_nonneg x:=by exact Int.le_refl _
structure B4 where
 Id:Int
 Priority:Int
 Time:Int
 Data:ByteArray
def az1(x:B4):Prop:=i64 x.Id∧i64 x.Priority∧i64 x.Time∧x.Data.size≤9223372036854775807∧True
instance:Enc B4 where
 size:=4
 Rd B w vs x:=vs=[.int .i64 x.Id,.int .i64 x.Priority,.int .i64 x.Time,.string x.Data]∧az1 x
 len:=by rintro _ _ _ _ ⟨rfl,hok⟩;rfl
 keep:=by rintro _ _ _ _ _ ⟨rfl,hok⟩ g;exact⟨rfl,hok⟩
 mono:=by rintro _ _ _ _ _ ⟨rfl,hok⟩ g;exact⟨rfl,hok⟩
 tot x:=(x.Data.size:Int)
 tot_nonneg x:=by omega
theorem RdS.atTRecord{B:Nat}{w:World}{a:Option Addr}{c:Nat}{l:List B4}(h:RdS B w a c l){k:Nat}(hk:k<l.length) :
  ∃ b off x,a=some ⟨b,off,none⟩∧LtN b w.heap.size∧Hid (l.drop k=x::l.drop (k+1))∧az1 x∧(∀ (W:World) [d5 w W],W.cell? ⟨b,off+k*4,none⟩=some (.int .i64 x.Id))∧(∀ (W:World) [d5 w W],W.cell? ⟨b,off+k*4+1,none⟩=some (.int .i64 x.Priority))∧(∀ (W:World) [d5 w W],W.cell? ⟨b,off+k*4+2,none⟩=some (.int .i64 x.Time))∧(∀ (W:World) [d5 w W],W.cell? ⟨b,off+k*4+3,none⟩=some (.string x.Data)):=by
 obtain⟨b,off,x,vs,h0,h1,h2,⟨rfl,hok⟩,hc⟩:=h.at hk
 exact⟨b,off,x,h0,h1,h2,hok,j5 h1.out (hc 0 _ rfl),j5 h1.out (hc 1 _ rfl),j5 h1.out (hc 2 _ rfl),j5 h1.out (hc 3 _ rfl)⟩
structure J0 where
 Room:Int
 Records:List B4
 Dropped:List Int
def az2(x:J0):Prop:=i64 x.Room∧True
instance:Enc J0 where
 size:=3
 Rd B w vs x:=∃ (a0:Option Addr) (c0:Nat),∃ (a1:Option Addr) (c1:Nat),vs=[.int .i64 x.Room,.slice a0 x.Records.length c0,.slice a1 x.Dropped.length c1]∧RdS B w a0 c0 x.Records∧RdS B w a1 c1 x.Dropped∧az2 x
 len:=by rintro _ _ _ _ ⟨a0,c0,a1,c1,rfl,q0,q1,hok⟩;rfl
 keep:=by rintro _ _ _ _ _ ⟨a0,c0,a1,c1,rfl,q0,q1,hok⟩ g;exact⟨a0,c0,a1,c1,rfl,q0.keep g,q1.keep g,hok⟩
 mono:=by rintro _ _ _ _ _ ⟨a0,c0,a1,c1,rfl,q0,q1,hok⟩ g;exact⟨a0,c0,a1,c1,rfl,q0.mono g,q1.mono g,hok⟩
 tot x:=d7 x.Records+d7 x.Dropped
 tot_nonneg x:=by have h0:=b7 x.Records;have h1:=b7 x.Dropped;omega
structure V3 where
 Param:Int
 Low:Int
 High:Int
def aF0(x:V3):Prop:=i64 x.Param∧i64 x.Low∧i64 x.High∧True
instance:Enc V3 where
 size:=3
 Rd B w vs x:=vs=[.int .i64 x.Param,.int .i64 x.Low,.int .i64 x.High]∧aF0 x
 len:=by rintro _ _ _ _ ⟨rfl,hok⟩;rfl
 keep:=by rintro _ _ _ _ _ ⟨rfl,hok⟩ g;exact⟨rfl,hok⟩
 mono:=by rintro _ _ _ _ _ ⟨rfl,hok⟩ g;exact⟨rfl,hok⟩
 tot x:=0
 tot_nonneg x:=by exact Int.le_refl _
theorem RdS.atTLimit{B:Nat}{w:World}{a:Option Addr}{c:Nat}{l:List V3}(h:RdS B w a c l){k:Nat}(hk:k<l.length) :
  ∃ b off x,a=some ⟨b,off,none⟩∧LtN b w.heap.size∧Hid (l.drop k=x::l.drop (k+1))∧aF0 x∧(∀ (W:World) [d5 w W],W.cell? ⟨b,off+k*3,none⟩=some (.int .i64 x.Param))∧(∀ (W:World) [d5 w W],W.cell? ⟨b,off+k*3+1,none⟩=some (.int .i64 x.Low))∧(∀ (W:World) [d5 w W],W.cell? ⟨b,off+k*3+2,none⟩=some (.int .i64 x.High)):=by
 obtain⟨b,off,x,vs,h0,h1,h2,⟨rfl,hok⟩,hc⟩:=h.at hk
 exact⟨b,off,x,h0,h1,h2,hok,j5 h1.out (hc 0 _ rfl),j5 h1.out (hc 1 _ rfl),j5 h1.out (hc 2 _ rfl)⟩
structure A4 where
 Number:Int
 Order:Z3
def al7(x:A4):Prop:=i64 x.Number∧aw6 x.Order∧True
instance:Enc A4 where
 size:=5
 Rd B w vs x:=vs=[.int .i64 x.Number,.int .i64 x.Order.Kind,.int .i64 x.Order.At,.int .i64 x.Order.A,.int .i64 x.Order.B]∧al7 x
 len:=by rintro _ _ _ _ ⟨rfl,hok⟩;rfl
 keep:=by rintro _ _ _ _ _ ⟨rfl,hok⟩ g;exact⟨rfl,hok⟩
 mono:=by rintro _ _ _ _ _ ⟨rfl,hok⟩ g;exact⟨rfl,hok⟩
 tot x:=0
 tot_nonneg x:=by exact Int.le_refl _
theorem RdS.atTWaiting{B:Nat}{w:World}{a:Option Addr}{c:Nat}{l:List A4}(h:RdS B w a c l){k:Nat}(hk:k<l.length) :
  ∃ b off x,a=some ⟨b,off,none⟩∧LtN b w.heap.size∧Hid (l.drop k=x::l.drop (k+1))∧al7 x∧(∀ (W:World) [d5 w W],W.cell? ⟨b,off+k*5,none⟩=some (.int .i64 x.Number))∧(∀ (W:World) [d5 w W],W.cell? ⟨b,off+k*5+1,none⟩=some (.int .i64 x.Order.Kind))∧(∀ (W:World) [d5 w W],W.cell? ⟨b,off+k*5+2,none⟩=some (.int .i64 x.Order.At))∧(∀ (W:World) [d5 w W],W.cell? ⟨b,off+k*5+3,none⟩=some (.int .i64 x.Order.A))∧(∀ (W:World) [d5 w W],W.cell? ⟨b,off+k*5+4,none⟩=some (.int .i64 x.Order.B)):=by
 obtain⟨b,off,x,vs,h0,h1,h2,⟨rfl,hok⟩,hc⟩:=h.at hk
 exact⟨b,off,x,h0,h1,h2,hok,j5 h1.out (hc 0 _ rfl),j5 h1.out (hc 1 _ rfl),j5 h1.out (hc 2 _ rfl),j5 h1.out (hc 3 _ rfl),j5 h1.out (hc 4 _ rfl)⟩
structure aa5 where
 Number:Int
 Time:Int
 Result:Int
def aN7(x:aa5):Prop:=i64 x.Number∧i64 x.Time∧i64 x.Result∧True
instance:Enc aa5 where
 size:=3
 Rd B w vs x:=vs=[.int .i64 x.Number,.int .i64 x.Time,.int .i64 x.Result]∧aN7 x
 len:=by rintro _ _ _ _ ⟨rfl,hok⟩;rfl
 keep:=by rintro _ _ _ _ _ ⟨rfl,hok⟩ g;exact⟨rfl,hok⟩
 mono:=by rintro _ _ _ _ _ ⟨rfl,hok⟩ g;exact⟨rfl,hok⟩
 tot x:=0
 tot_nonneg x:=by exact Int.le_refl _
theorem RdS.atTDone{B:Nat}{w:World}{a:Option Addr}{c:Nat}{l:List aa5}(h:RdS B w a c l){k:Nat}(hk:k<l.length) :
  ∃ b off x,a=some ⟨b,off,none⟩∧LtN b w.heap.size∧Hid (l.drop k=x::l.drop (k+1))∧aN7 x∧(∀ (W:World) [d5 w W],W.cell? ⟨b,off+k*3,none⟩=some (.int .i64 x.Number))∧(∀ (W:World) [d5 w W],W.cell? ⟨b,off+k*3+1,none⟩=some (.int .i64 x.Time))∧(∀ (W:World) [d5 w W],W.cell? ⟨b,off+k*3+2,none⟩=some (.int .i64 x.Result)):=by
 obtain⟨b,off,x,vs,h0,h1,h2,⟨rfl,hok⟩,hc⟩:=h.at hk
 exact⟨b,off,x,h0,h1,h2,hok,j5 h1.out (hc 0 _ rfl),j5 h1.out (hc 1 _ rfl),j5 h1.out (hc 2 _ rfl)⟩
structure D5 where
 Clock:Int
 Params:List Int
 Safe:Bool
 Limits:List V3
 Orders:List A4
 Done:List aa5
 Recorder:J0
 Made:Int
 Taken:Int
 Asked:List Int
abbrev S5(x:D5)(a0:Option Addr)(c0:Nat)(a1:Option Addr)(c1:Nat)(a2:Option Addr)(c2:Nat)(a3:Option Addr)(c3:Nat)(a4:Option Addr)(c4:Nat)(a5:Option Addr)(c5:Nat)(a6:Option Addr)(c6:Nat):List Value:=[.int .i64 x.Clock,.slice a0 x.Params.length c0,.bool x.Safe,.slice a1 x.Limits.length c1,.slice a2 x.Orders.length c2,.slice a3 x.Done.length c3,.int .i64 x.Recorder.Room,.slice a4 x.Recorder.Records.length c4,.slice a5 x.Recorder.Dropped.length c5,.int .i64 x.Made,.int .i64 x.Taken,.slice a6 x.Asked.length c6]
abbrev L6:List Value:=[.int .i64 0,.slice none 0 0,.bool false,.slice none 0 0,.slice none 0 0,.slice none 0 0,.int .i64 0,.slice none 0 0,.slice none 0 0,.int .i64 0,.int .i64 0,.slice none 0 0]
def ar9(x:D5):Prop:=i64 x.Clock∧az2 x.Recorder∧i64 x.Made∧i64 x.Taken∧True
structure af3 where
 a0:Option Addr
 c0:Nat
 a1:Option Addr
 c1:Nat
 a2:Option Addr
 c2:Nat
 a3:Option Addr
 c3:Nat
 a4:Option Addr
 c4:Nat
 a5:Option Addr
 c5:Nat
 a6:Option Addr
 c6:Nat
abbrev I0(x:D5)(A:af3):List Value:=S5 x A.a0 A.c0 A.a1 A.c1 A.a2 A.c2 A.a3 A.c3 A.a4 A.c4 A.a5 A.c5 A.a6 A.c6
structure am1(B:Nat)(w:World)(A:af3)(x:D5):Prop where
 q0:RdS B w A.a0 A.c0 x.Params
 q1:RdS B w A.a1 A.c1 x.Limits
 q2:RdS B w A.a2 A.c2 x.Orders
 q3:RdS B w A.a3 A.c3 x.Done
 q4:RdS B w A.a4 A.c4 x.Recorder.Records
 q5:RdS B w A.a5 A.c5 x.Recorder.Dropped
 q6:RdS B w A.a6 A.c6 x.Asked
 ok:ar9 x
theorem am1.keep{B:Nat}{w w2:World}{A:af3}{x:D5}(h:am1 B w A x)(g:b8 B w w2):am1 B w2 A x:=⟨h.q0.keep g,h.q1.keep g,h.q2.keep g,h.q3.keep g,h.q4.keep g,h.q5.keep g,h.q6.keep g,h.ok⟩
theorem am1.mono{B B2:Nat}{w:World}{A:af3}{x:D5}(h:am1 B w A x)(g:B2≤B):am1 B2 w A x:=⟨h.q0.mono g,h.q1.mono g,h.q2.mono g,h.q3.mono g,h.q4.mono g,h.q5.mono g,h.q6.mono g,h.ok⟩
instance:Enc D5 where
 size:=12
 Rd B w vs x:=∃ A:af3,vs=[.int .i64 x.Clock,.slice A.a0 x.Params.length A.c0,.bool x.Safe,.slice A.a1 x.Limits.length A.c1,.slice A.a2 x.Orders.length A.c2,.slice A.a3 x.Done.length A.c3,.int .i64 x.Recorder.Room,.slice A.a4 x.Recorder.Records.length A.c4,.slice A.a5 x.Recorder.Dropped.length A.c5,.int .i64 x.Made,.int .i64 x.Taken,.slice A.a6 x.Asked.length A.c6]∧am1 B w A x
 len:=by rintro _ _ _ _ ⟨A,h,F⟩;rw[h];rfl
 keep:=by rintro _ _ _ _ _ ⟨A,h,F⟩ g;exact⟨A,h,F.keep g⟩
 mono:=by rintro _ _ _ _ _ ⟨A,h,F⟩ g;exact⟨A,h,F.mono g⟩
 tot x:=d7 x.Params+d7 x.Limits+d7 x.Orders+d7 x.Done+Enc.tot x.Recorder+d7 x.Asked
 tot_nonneg x:=by have h0:=b7 x.Params;have h1:=b7 x.Limits;have h2:=b7 x.Orders;have h3:=b7 x.Done;have h4:=Enc.tot_nonneg x.Recorder;have h5:=b7 x.Asked;omega
structure D4 where
 File:Int
 Size:Int
 Check:Int
 Parts:List ByteArray
def at7(x:D4):Prop:=i64 x.File∧i64 x.Size∧i64 x.Check∧True
instance:Enc D4 where
 size:=4
 Rd B w vs x:=∃ (a0:Option Addr) (c0:Nat),vs=[.int .i64 x.File,.int .i64 x.Size,.int .i64 x.Check,.slice a0 x.Parts.length c0]∧RdS B w a0 c0 x.Parts∧at7 x
 len:=by rintro _ _ _ _ ⟨a0,c0,rfl,q0,hok⟩;rfl
 keep:=by rintro _ _ _ _ _ ⟨a0,c0,rfl,q0,hok⟩ g;exact⟨a0,c0,rfl,q0.keep g,hok⟩
 mono:=by rintro _ _ _ _ _ ⟨a0,c0,rfl,q0,hok⟩ g;exact⟨a0,c0,rfl,q0.mono g,hok⟩
 tot x:=d7 x.Parts
 tot_nonneg x:=by have h0:=b7 x.Parts;omega
theorem RdS.atTFileIn{B:Nat}{w:World}{a:Option Addr}{c:Nat}{l:List D4}(h:RdS B w a c l){k:Nat}(hk:k<l.length) :
  ∃ b off x,∃ (a0:Option Addr) (c0:Nat),a=some ⟨b,off,none⟩∧LtN b w.heap.size∧Hid (l.drop k=x::l.drop (k+1))∧RdS B w a0 c0 x.Parts∧at7 x∧(∀ (W:World) [d5 w W],W.cell? ⟨b,off+k*4,none⟩=some (.int .i64 x.File))∧(∀ (W:World) [d5 w W],W.cell? ⟨b,off+k*4+1,none⟩=some (.int .i64 x.Size))∧(∀ (W:World) [d5 w W],W.cell? ⟨b,off+k*4+2,none⟩=some (.int .i64 x.Check))∧(∀ (W:World) [d5 w W],W.cell? ⟨b,off+k*4+3,none⟩=some (.slice a0 x.Parts.length c0)):=by
 obtain⟨b,off,x,vs,h0,h1,h2,⟨a0,c0,rfl,q0,hok⟩,hc⟩:=h.at hk
 exact⟨b,off,x,a0,c0,h0,h1,h2,q0,hok,j5 h1.out (hc 0 _ rfl),j5 h1.out (hc 1 _ rfl),j5 h1.out (hc 2 _ rfl),j5 h1.out (hc 3 _ rfl)⟩
structure j7 where
 File:Int
 Data:ByteArray
 Queue:List Int
 Done:Bool
def ac2(x:j7):Prop:=i64 x.File∧x.Data.size≤9223372036854775807∧True
instance:Enc j7 where
 size:=4
 Rd B w vs x:=∃ (a0:Option Addr) (c0:Nat),vs=[.int .i64 x.File,.string x.Data,.slice a0 x.Queue.length c0,.bool x.Done]∧RdS B w a0 c0 x.Queue∧ac2 x
 len:=by rintro _ _ _ _ ⟨a0,c0,rfl,q0,hok⟩;rfl
 keep:=by rintro _ _ _ _ _ ⟨a0,c0,rfl,q0,hok⟩ g;exact⟨a0,c0,rfl,q0.keep g,hok⟩
 mono:=by rintro _ _ _ _ _ ⟨a0,c0,rfl,q0,hok⟩ g;exact⟨a0,c0,rfl,q0.mono g,hok⟩
 tot x:=(x.Data.size:Int)+d7 x.Queue
 tot_nonneg x:=by have h0:=b7 x.Queue;omega
theorem RdS.atTFileOut{B:Nat}{w:World}{a:Option Addr}{c:Nat}{l:List j7}(h:RdS B w a c l){k:Nat}(hk:k<l.length) :
  ∃ b off x,∃ (a0:Option Addr) (c0:Nat),a=some ⟨b,off,none⟩∧LtN b w.heap.size∧Hid (l.drop k=x::l.drop (k+1))∧RdS B w a0 c0 x.Queue∧ac2 x∧(∀ (W:World) [d5 w W],W.cell? ⟨b,off+k*4,none⟩=some (.int .i64 x.File))∧(∀ (W:World) [d5 w W],W.cell? ⟨b,off+k*4+1,none⟩=some (.string x.Data))∧(∀ (W:World) [d5 w W],W.cell? ⟨b,off+k*4+2,none⟩=some (.slice a0 x.Queue.length c0))∧(∀ (W:World) [d5 w W],W.cell? ⟨b,off+k*4+3,none⟩=some (.bool x.Done)):=by
 obtain⟨b,off,x,vs,h0,h1,h2,⟨a0,c0,rfl,q0,hok⟩,hc⟩:=h.at hk
 exact⟨b,off,x,a0,c0,h0,h1,h2,q0,hok,j5 h1.out (hc 0 _ rfl),j5 h1.out (hc 1 _ rfl),j5 h1.out (hc 2 _ rfl),j5 h1.out (hc 3 _ rfl)⟩
structure aA8 where
 Rate:Int
 Offset:Int
def bk5(x:aA8):Prop:=i64 x.Rate∧i64 x.Offset∧True
instance:Enc aA8 where
 size:=2
 Rd B w vs x:=vs=[.int .i64 x.Rate,.int .i64 x.Offset]∧bk5 x
 len:=by rintro _ _ _ _ ⟨rfl,hok⟩;rfl
 keep:=by rintro _ _ _ _ _ ⟨rfl,hok⟩ g;exact⟨rfl,hok⟩
 mono:=by rintro _ _ _ _ _ ⟨rfl,hok⟩ g;exact⟨rfl,hok⟩
 tot x:=0
 tot_nonneg x:=by exact Int.le_refl _
def aX6(x:af2):Prop:=i64 x.Board∧i64 x.True∧True
instance:Enc af2 where
 size:=2
 Rd B w vs x:=vs=[.int .i64 x.Board,.int .i64 x.True]∧aX6 x
 len:=by rintro _ _ _ _ ⟨rfl,hok⟩;rfl
 keep:=by rintro _ _ _ _ _ ⟨rfl,hok⟩ g;exact⟨rfl,hok⟩
 mono:=by rintro _ _ _ _ _ ⟨rfl,hok⟩ g;exact⟨rfl,hok⟩
 tot x:=0
 tot_nonneg x:=by exact Int.le_refl _
theorem RdS.atPair{B:Nat}{w:World}{a:Option Addr}{c:Nat}{l:List af2}(h:RdS B w a c l){k:Nat}(hk:k<l.length) :
  ∃ b off x,a=some ⟨b,off,none⟩∧LtN b w.heap.size∧Hid (l.drop k=x::l.drop (k+1))∧aX6 x∧(∀ (W:World) [d5 w W],W.cell? ⟨b,off+k*2,none⟩=some (.int .i64 x.Board))∧(∀ (W:World) [d5 w W],W.cell? ⟨b,off+k*2+1,none⟩=some (.int .i64 x.True)):=by
 obtain⟨b,off,x,vs,h0,h1,h2,⟨rfl,hok⟩,hc⟩:=h.at hk
 exact⟨b,off,x,h0,h1,h2,hok,j5 h1.out (hc 0 _ rfl),j5 h1.out (hc 1 _ rfl)⟩
structure aA9 where
 Period:Int
 Start:Int
 Length:Int
def bk6(x:aA9):Prop:=i64 x.Period∧i64 x.Start∧i64 x.Length∧True
instance:Enc aA9 where
 size:=3
 Rd B w vs x:=vs=[.int .i64 x.Period,.int .i64 x.Start,.int .i64 x.Length]∧bk6 x
 len:=by rintro _ _ _ _ ⟨rfl,hok⟩;rfl
 keep:=by rintro _ _ _ _ _ ⟨rfl,hok⟩ g;exact⟨rfl,hok⟩
 mono:=by rintro _ _ _ _ _ ⟨rfl,hok⟩ g;exact⟨rfl,hok⟩
 tot x:=0
 tot_nonneg x:=by exact Int.le_refl _
def aX7(x:ao3):Prop:=i64 x.Time∧i64 x.Id∧True
instance:Enc ao3 where
 size:=2
 Rd B w vs x:=vs=[.int .i64 x.Time,.int .i64 x.Id]∧aX7 x
 len:=by rintro _ _ _ _ ⟨rfl,hok⟩;rfl
 keep:=by rintro _ _ _ _ _ ⟨rfl,hok⟩ g;exact⟨rfl,hok⟩
 mono:=by rintro _ _ _ _ _ ⟨rfl,hok⟩ g;exact⟨rfl,hok⟩
 tot x:=0
 tot_nonneg x:=by exact Int.le_refl _
theorem RdS.atSlot{B:Nat}{w:World}{a:Option Addr}{c:Nat}{l:List ao3}(h:RdS B w a c l){k:Nat}(hk:k<l.length) :
  ∃ b off x,a=some ⟨b,off,none⟩∧LtN b w.heap.size∧Hid (l.drop k=x::l.drop (k+1))∧aX7 x∧(∀ (W:World) [d5 w W],W.cell? ⟨b,off+k*2,none⟩=some (.int .i64 x.Time))∧(∀ (W:World) [d5 w W],W.cell? ⟨b,off+k*2+1,none⟩=some (.int .i64 x.Id)):=by
 obtain⟨b,off,x,vs,h0,h1,h2,⟨rfl,hok⟩,hc⟩:=h.at hk
 exact⟨b,off,x,h0,h1,h2,hok,j5 h1.out (hc 0 _ rfl),j5 h1.out (hc 1 _ rfl)⟩
structure s6 where
 At:Int
 Data:ByteArray
def ai0(x:s6):Prop:=i64 x.At∧x.Data.size≤9223372036854775807∧True
instance:Enc s6 where
 size:=2
 Rd B w vs x:=vs=[.int .i64 x.At,.string x.Data]∧ai0 x
 len:=by rintro _ _ _ _ ⟨rfl,hok⟩;rfl
 keep:=by rintro _ _ _ _ _ ⟨rfl,hok⟩ g;exact⟨rfl,hok⟩
 mono:=by rintro _ _ _ _ _ ⟨rfl,hok⟩ g;exact⟨rfl,hok⟩
 tot x:=(x.Data.size:Int)
 tot_nonneg x:=by omega
theorem RdS.atTFlight{B:Nat}{w:World}{a:Option Addr}{c:Nat}{l:List s6}(h:RdS B w a c l){k:Nat}(hk:k<l.length) :
  ∃ b off x,a=some ⟨b,off,none⟩∧LtN b w.heap.size∧Hid (l.drop k=x::l.drop (k+1))∧ai0 x∧(∀ (W:World) [d5 w W],W.cell? ⟨b,off+k*2,none⟩=some (.int .i64 x.At))∧(∀ (W:World) [d5 w W],W.cell? ⟨b,off+k*2+1,none⟩=some (.string x.Data)):=by
 obtain⟨b,off,x,vs,h0,h1,h2,⟨rfl,hok⟩,hc⟩:=h.at hk
 exact⟨b,off,x,h0,h1,h2,hok,j5 h1.out (hc 0 _ rfl),j5 h1.out (hc 1 _ rfl)⟩
structure I8 where
 Offers:List ByteArray
 Sender:R6
 Notice:aJ6
 Unpacker:ai4
 Pairs:List af2
 Records:List B4
 Files:List D4
 Told:List Bool
abbrev X0(x:I8)(a0:Option Addr)(c0:Nat)(a1:Option Addr)(c1:Nat)(a2:Option Addr)(c2:Nat)(a3:Option Addr)(c3:Nat)(a4:Option Addr)(c4:Nat)(a5:Option Addr)(c5:Nat):List Value:=[.slice a0 x.Offers.length c0,.int .i64 x.Sender.Next,.int .i64 x.Sender.Window,.slice a1 x.Sender.Waiting.length c1,.int .i64 x.Sender.Done,.int .i64 x.Notice.Expect,.bool x.Notice.Locked,.bool x.Notice.Again,.int .i64 x.Unpacker.Channel,.int .i64 x.Unpacker.Next,.bool x.Unpacker.Synced,.string x.Unpacker.Rest,.int .i64 x.Unpacker.Lost,.slice a2 x.Pairs.length c2,.slice a3 x.Records.length c3,.slice a4 x.Files.length c4,.slice a5 x.Told.length c5]
abbrev X2:List Value:=[.slice none 0 0,.int .i64 0,.int .i64 0,.slice none 0 0,.int .i64 0,.int .i64 0,.bool false,.bool false,.int .i64 0,.int .i64 0,.bool false,.string ⟨#[]⟩,.int .i64 0,.slice none 0 0,.slice none 0 0,.slice none 0 0,.slice none 0 0]
def at8(x:I8):Prop:=al0 x.Sender∧bd2 x.Notice∧aO0 x.Unpacker∧True
structure aa6 where
 a0:Option Addr
 c0:Nat
 a1:Option Addr
 c1:Nat
 a2:Option Addr
 c2:Nat
 a3:Option Addr
 c3:Nat
 a4:Option Addr
 c4:Nat
 a5:Option Addr
 c5:Nat
abbrev M8(x:I8)(A:aa6):List Value:=X0 x A.a0 A.c0 A.a1 A.c1 A.a2 A.c2 A.a3 A.c3 A.a4 A.c4 A.a5 A.c5
structure aj6(B:Nat)(w:World)(A:aa6)(x:I8):Prop where
 q0:RdS B w A.a0 A.c0 x.Offers
 q1:RdS B w A.a1 A.c1 x.Sender.Waiting
 q2:RdS B w A.a2 A.c2 x.Pairs
 q3:RdS B w A.a3 A.c3 x.Records
 q4:RdS B w A.a4 A.c4 x.Files
 q5:RdS B w A.a5 A.c5 x.Told
 ok:at8 x
theorem aj6.keep{B:Nat}{w w2:World}{A:aa6}{x:I8}(h:aj6 B w A x)(g:b8 B w w2):aj6 B w2 A x:=⟨h.q0.keep g,h.q1.keep g,h.q2.keep g,h.q3.keep g,h.q4.keep g,h.q5.keep g,h.ok⟩
theorem aj6.mono{B B2:Nat}{w:World}{A:aa6}{x:I8}(h:aj6 B w A x)(g:B2≤B):aj6 B2 w A x:=⟨h.q0.mono g,h.q1.mono g,h.q2.mono g,h.q3.mono g,h.q4.mono g,h.q5.mono g,h.ok⟩
instance:Enc I8 where
 size:=17
 Rd B w vs x:=∃ A:aa6,vs=[.slice A.a0 x.Offers.length A.c0,.int .i64 x.Sender.Next,.int .i64 x.Sender.Window,.slice A.a1 x.Sender.Waiting.length A.c1,.int .i64 x.Sender.Done,.int .i64 x.Notice.Expect,.bool x.Notice.Locked,.bool x.Notice.Again,.int .i64 x.Unpacker.Channel,.int .i64 x.Unpacker.Next,.bool x.Unpacker.Synced,.string x.Unpacker.Rest,.int .i64 x.Unpacker.Lost,.slice A.a2 x.Pairs.length A.c2,.slice A.a3 x.Records.length A.c3,.slice A.a4 x.Files.length A.c4,.slice A.a5 x.Told.length A.c5]∧aj6 B w A x
 len:=by rintro _ _ _ _ ⟨A,h,F⟩;rw[h];rfl
 keep:=by rintro _ _ _ _ _ ⟨A,h,F⟩ g;exact⟨A,h,F.keep g⟩
 mono:=by rintro _ _ _ _ _ ⟨A,h,F⟩ g;exact⟨A,h,F.mono g⟩
 tot x:=d7 x.Offers+Enc.tot x.Sender+Enc.tot x.Unpacker+d7 x.Pairs+d7 x.Records+d7 x.Files+d7 x.Told
 tot_nonneg x:=by have h0:=b7 x.Offers;have h1:=Enc.tot_nonneg x.Sender;have h2:=Enc.tot_nonneg x.Unpacker;have h3:=b7 x.Pairs;have h4:=b7 x.Records;have h5:=b7 x.Files;have h6:=b7 x.Told;omega
structure M7 where
 Receiver:M4
 Board:D5
 Packer:R5
 Seq:Int
 Files:List ByteArray
 Outs:List j7
 Begun:Int
 Sent:List B4
abbrev ad9(x:M7)(a0:Option Addr)(c0:Nat)(a1:Option Addr)(c1:Nat)(a2:Option Addr)(c2:Nat)(a3:Option Addr)(c3:Nat)(a4:Option Addr)(c4:Nat)(a5:Option Addr)(c5:Nat)(a6:Option Addr)(c6:Nat)(a7:Option Addr)(c7:Nat)(a8:Option Addr)(c8:Nat)(a9:Option Addr)(c9:Nat)(a10:Option Addr)(c10:Nat):List Value:=[.int .i64 x.Receiver.Expect,.bool x.Receiver.Locked,.bool x.Receiver.Again,.int .i64 x.Receiver.Taken,.int .i64 x.Board.Clock,.slice a0 x.Board.Params.length c0,.bool x.Board.Safe,.slice a1 x.Board.Limits.length c1,.slice a2 x.Board.Orders.length c2,.slice a3 x.Board.Done.length c3,.int .i64 x.Board.Recorder.Room,.slice a4 x.Board.Recorder.Records.length c4,.slice a5 x.Board.Recorder.Dropped.length c5,.int .i64 x.Board.Made,.int .i64 x.Board.Taken,.slice a6 x.Board.Asked.length c6,.int .i64 x.Packer.Channel,.int .i64 x.Packer.Count,.string x.Packer.Rest,.slice a7 x.Packer.Starts.length c7,.int .i64 x.Seq,.slice a8 x.Files.length c8,.slice a9 x.Outs.length c9,.int .i64 x.Begun,.slice a10 x.Sent.length c10]
abbrev ag8:List Value:=[.int .i64 0,.bool false,.bool false,.int .i64 0,.int .i64 0,.slice none 0 0,.bool false,.slice none 0 0,.slice none 0 0,.slice none 0 0,.int .i64 0,.slice none 0 0,.slice none 0 0,.int .i64 0,.int .i64 0,.slice none 0 0,.int .i64 0,.int .i64 0,.string ⟨#[]⟩,.slice none 0 0,.int .i64 0,.slice none 0 0,.slice none 0 0,.int .i64 0,.slice none 0 0]
def aw7(x:M7):Prop:=aN8 x.Receiver∧ar9 x.Board∧aJ2 x.Packer∧i64 x.Seq∧i64 x.Begun∧True
structure ag9 where
 a0:Option Addr
 c0:Nat
 a1:Option Addr
 c1:Nat
 a2:Option Addr
 c2:Nat
 a3:Option Addr
 c3:Nat
 a4:Option Addr
 c4:Nat
 a5:Option Addr
 c5:Nat
 a6:Option Addr
 c6:Nat
 a7:Option Addr
 c7:Nat
 a8:Option Addr
 c8:Nat
 a9:Option Addr
 c9:Nat
 a10:Option Addr
 c10:Nat
abbrev U3(x:M7)(A:ag9):List Value:=ad9 x A.a0 A.c0 A.a1 A.c1 A.a2 A.c2 A.a3 A.c3 A.a4 A.c4 A.a5 A.c5 A.a6 A.c6 A.a7 A.c7 A.a8 A.c8 A.a9 A.c9 A.a10 A.c10
structure ap0(B:Nat)(w:World)(A:ag9)(x:M7):Prop where
 q0:RdS B w A.a0 A.c0 x.Board.Params
 q1:RdS B w A.a1 A.c1 x.Board.Limits
 q2:RdS B w A.a2 A.c2 x.Board.Orders
 q3:RdS B w A.a3 A.c3 x.Board.Done
 q4:RdS B w A.a4 A.c4 x.Board.Recorder.Records
 q5:RdS B w A.a5 A.c5 x.Board.Recorder.Dropped
 q6:RdS B w A.a6 A.c6 x.Board.Asked
 q7:RdS B w A.a7 A.c7 x.Packer.Starts
 q8:RdS B w A.a8 A.c8 x.Files
 q9:RdS B w A.a9 A.c9 x.Outs
 q10:RdS B w A.a10 A.c10 x.Sent
 ok:aw7 x
theorem ap0.keep{B:Nat}{w w2:World}{A:ag9}{x:M7}(h:ap0 B w A x)(g:b8 B w w2):ap0 B w2 A x:=⟨h.q0.keep g,h.q1.keep g,h.q2.keep g,h.q3.keep g,h.q4.keep g,h.q5.keep g,h.q6.keep g,h.q7.keep g,h.q8.keep g,h.q9.keep g,h.q10.keep g,h.ok⟩
theorem ap0.mono{B B2:Nat}{w:World}{A:ag9}{x:M7}(h:ap0 B w A x)(g:B2≤B):ap0 B2 w A x:=⟨h.q0.mono g,h.q1.mono g,h.q2.mono g,h.q3.mono g,h.q4.mono g,h.q5.mono g,h.q6.mono g,h.q7.mono g,h.q8.mono g,h.q9.mono g,h.q10.mono g,h.ok⟩
instance:Enc M7 where
 size:=25
 Rd B w vs x:=∃ A:ag9,vs=[.int .i64 x.Receiver.Expect,.bool x.Receiver.Locked,.bool x.Receiver.Again,.int .i64 x.Receiver.Taken,.int .i64 x.Board.Clock,.slice A.a0 x.Board.Params.length A.c0,.bool x.Board.Safe,.slice A.a1 x.Board.Limits.length A.c1,.slice A.a2 x.Board.Orders.length A.c2,.slice A.a3 x.Board.Done.length A.c3,.int .i64 x.Board.Recorder.Room,.slice A.a4 x.Board.Recorder.Records.length A.c4,.slice A.a5 x.Board.Recorder.Dropped.length A.c5,.int .i64 x.Board.Made,.int .i64 x.Board.Taken,.slice A.a6 x.Board.Asked.length A.c6,.int .i64 x.Packer.Channel,.int .i64 x.Packer.Count,.string x.Packer.Rest,.slice A.a7 x.Packer.Starts.length A.c7,.int .i64 x.Seq,.slice A.a8 x.Files.length A.c8,.slice A.a9 x.Outs.length A.c9,.int .i64 x.Begun,.slice A.a10 x.Sent.length A.c10]∧ap0 B w A x
 len:=by rintro _ _ _ _ ⟨A,h,F⟩;rw[h];rfl
 keep:=by rintro _ _ _ _ _ ⟨A,h,F⟩ g;exact⟨A,h,F.keep g⟩
 mono:=by rintro _ _ _ _ _ ⟨A,h,F⟩ g;exact⟨A,h,F.mono g⟩
 tot x:=Enc.tot x.Board+Enc.tot x.Packer+d7 x.Files+d7 x.Outs+d7 x.Sent
 tot_nonneg x:=by have h0:=Enc.tot_nonneg x.Board;have h1:=Enc.tot_nonneg x.Packer;have h2:=b7 x.Files;have h3:=b7 x.Outs;have h4:=b7 x.Sent;omega
structure f5 where
 Time:Int
 Light:Int
 Drift:aA8
 Orbit:aA9
 Plan:List ao3
 Up:am2
 Down:am2
 Ups:List s6
 Downs:List s6
 Ground:I8
 Space:M7
 Offered:List ByteArray
 Took:List ByteArray
 Bad:Int
abbrev D1(x:f5)(a0:Option Addr)(c0:Nat)(a1:Option Addr)(c1:Nat)(a2:Option Addr)(c2:Nat)(a3:Option Addr)(c3:Nat)(a4:Option Addr)(c4:Nat)(a5:Option Addr)(c5:Nat)(a6:Option Addr)(c6:Nat)(a7:Option Addr)(c7:Nat)(a8:Option Addr)(c8:Nat)(a9:Option Addr)(c9:Nat)(a10:Option Addr)(c10:Nat)(a11:Option Addr)(c11:Nat)(a12:Option Addr)(c12:Nat)(a13:Option Addr)(c13:Nat)(a14:Option Addr)(c14:Nat)(a15:Option Addr)(c15:Nat)(a16:Option Addr)(c16:Nat)(a17:Option Addr)(c17:Nat)(a18:Option Addr)(c18:Nat)(a19:Option Addr)(c19:Nat)(a20:Option Addr)(c20:Nat)(a21:Option Addr)(c21:Nat):List Value:=[.int .i64 x.Time,.int .i64 x.Light,.int .i64 x.Drift.Rate,.int .i64 x.Drift.Offset,.int .i64 x.Orbit.Period,.int .i64 x.Orbit.Start,.int .i64 x.Orbit.Length,.slice a0 x.Plan.length c0,.int .i64 x.Up.Seed,.int .i64 x.Up.Burst,.int .i64 x.Up.Loss,.int .i64 x.Down.Seed,.int .i64 x.Down.Burst,.int .i64 x.Down.Loss,.slice a1 x.Ups.length c1,.slice a2 x.Downs.length c2,.slice a3 x.Ground.Offers.length c3,.int .i64 x.Ground.Sender.Next,.int .i64 x.Ground.Sender.Window,.slice a4 x.Ground.Sender.Waiting.length c4,.int .i64 x.Ground.Sender.Done,.int .i64 x.Ground.Notice.Expect,.bool x.Ground.Notice.Locked,.bool x.Ground.Notice.Again,.int .i64 x.Ground.Unpacker.Channel,.int .i64 x.Ground.Unpacker.Next,.bool x.Ground.Unpacker.Synced,.string x.Ground.Unpacker.Rest,.int .i64 x.Ground.Unpacker.Lost,.slice a5 x.Ground.Pairs.length c5,.slice a6 x.Ground.Records.length c6,.slice a7 x.Ground.Files.length c7,.slice a8 x.Ground.Told.length c8,.int .i64 x.Space.Receiver.Expect,.bool x.Space.Receiver.Locked,.bool x.Space.Receiver.Again,.int .i64 x.Space.Receiver.Taken,.int .i64 x.Space.Board.Clock,.slice a9 x.Space.Board.Params.length c9,.bool x.Space.Board.Safe,.slice a10 x.Space.Board.Limits.length c10,.slice a11 x.Space.Board.Orders.length c11,.slice a12 x.Space.Board.Done.length c12,.int .i64 x.Space.Board.Recorder.Room,.slice a13 x.Space.Board.Recorder.Records.length c13,.slice a14 x.Space.Board.Recorder.Dropped.length c14,.int .i64 x.Space.Board.Made,.int .i64 x.Space.Board.Taken,.slice a15 x.Space.Board.Asked.length c15,.int .i64 x.Space.Packer.Channel,.int .i64 x.Space.Packer.Count,.string x.Space.Packer.Rest,.slice a16 x.Space.Packer.Starts.length c16,.int .i64 x.Space.Seq,.slice a17 x.Space.Files.length c17,.slice a18 x.Space.Outs.length c18,.int .i64 x.Space.Begun,.slice a19 x.Space.Sent.length c19,.slice a20 x.Offered.length c20,.slice a21 x.Took.length c21,.int .i64 x.Bad]
abbrev A8:List Value:=[.int .i64 0,.int .i64 0,.int .i64 0,.int .i64 0,.int .i64 0,.int .i64 0,.int .i64 0,.slice none 0 0,.int .i64 0,.int .i64 0,.int .i64 0,.int .i64 0,.int .i64 0,.int .i64 0,.slice none 0 0,.slice none 0 0,.slice none 0 0,.int .i64 0,.int .i64 0,.slice none 0 0,.int .i64 0,.int .i64 0,.bool false,.bool false,.int .i64 0,.int .i64 0,.bool false,.string ⟨#[]⟩,.int .i64 0,.slice none 0 0,.slice none 0 0,.slice none 0 0,.slice none 0 0,.int .i64 0,.bool false,.bool false,.int .i64 0,.int .i64 0,.slice none 0 0,.bool false,.slice none 0 0,.slice none 0 0,.slice none 0 0,.int .i64 0,.slice none 0 0,.slice none 0 0,.int .i64 0,.int .i64 0,.slice none 0 0,.int .i64 0,.int .i64 0,.string ⟨#[]⟩,.slice none 0 0,.int .i64 0,.slice none 0 0,.slice none 0 0,.int .i64 0,.slice none 0 0,.slice none 0 0,.slice none 0 0,.int .i64 0]
abbrev bv3(x:f5)(a0:Option Addr)(n0 c0:Nat)(a1:Option Addr)(n1 c1:Nat)(a2:Option Addr)(n2 c2:Nat)(a3:Option Addr)(n3 c3:Nat)(a4:Option Addr)(n4 c4:Nat)(a5:Option Addr)(n5 c5:Nat)(a6:Option Addr)(n6 c6:Nat)(a7:Option Addr)(n7 c7:Nat)(a8:Option Addr)(n8 c8:Nat)(a9:Option Addr)(n9 c9:Nat)(a10:Option Addr)(n10 c10:Nat)(a11:Option Addr)(n11 c11:Nat)(a12:Option Addr)(n12 c12:Nat)(a13:Option Addr)(n13 c13:Nat)(a14:Option Addr)(n14 c14:Nat)(a15:Option Addr)(n15 c15:Nat)(a16:Option Addr)(n16 c16:Nat)(a17:Option Addr)(n17 c17:Nat)(a18:Option Addr)(n18 c18:Nat)(a19:Option Addr)(n19 c19:Nat)(a20:Option Addr)(n20 c20:Nat)(a21:Option Addr)(n21 c21:Nat):List Value:=[.int .i64 x.Time,.int .i64 x.Light,.int .i64 x.Drift.Rate,.int .i64 x.Drift.Offset,.int .i64 x.Orbit.Period,.int .i64 x.Orbit.Start,.int .i64 x.Orbit.Length,.slice a0 n0 c0,.int .i64 x.Up.Seed,.int .i64 x.Up.Burst,.int .i64 x.Up.Loss,.int .i64 x.Down.Seed,.int .i64 x.Down.Burst,.int .i64 x.Down.Loss,.slice a1 n1 c1,.slice a2 n2 c2,.slice a3 n3 c3,.int .i64 x.Ground.Sender.Next,.int .i64 x.Ground.Sender.Window,.slice a4 n4 c4,.int .i64 x.Ground.Sender.Done,.int .i64 x.Ground.Notice.Expect,.bool x.Ground.Notice.Locked,.bool x.Ground.Notice.Again,.int .i64 x.Ground.Unpacker.Channel,.int .i64 x.Ground.Unpacker.Next,.bool x.Ground.Unpacker.Synced,.string x.Ground.Unpacker.Rest,.int .i64 x.Ground.Unpacker.Lost,.slice a5 n5 c5,.slice a6 n6 c6,.slice a7 n7 c7,.slice a8 n8 c8,.int .i64 x.Space.Receiver.Expect,.bool x.Space.Receiver.Locked,.bool x.Space.Receiver.Again,.int .i64 x.Space.Receiver.Taken,.int .i64 x.Space.Board.Clock,.slice a9 n9 c9,.bool x.Space.Board.Safe,.slice a10 n10 c10,.slice a11 n11 c11,.slice a12 n12 c12,.int .i64 x.Space.Board.Recorder.Room,.slice a13 n13 c13,.slice a14 n14 c14,.int .i64 x.Space.Board.Made,.int .i64 x.Space.Board.Taken,.slice a15 n15 c15,.int .i64 x.Space.Packer.Channel,.int .i64 x.Space.Packer.Count,.string x.Space.Packer.Rest,.slice a16 n16 c16,.int .i64 x.Space.Seq,.slice a17 n17 c17,.slice a18 n18 c18,.int .i64 x.Space.Begun,.slice a19 n19 c19,.slice a20 n20 c20,.slice a21 n21 c21,.int .i64 x.Bad]
abbrev ae8(k:Nat)(x:f5)(a0:Option Addr:=none)(c0:Nat:=0)(a1:Option Addr:=none)(c1:Nat:=0)(a2:Option Addr:=none)(c2:Nat:=0)(a3:Option Addr:=none)(c3:Nat:=0)(a4:Option Addr:=none)(c4:Nat:=0)(a5:Option Addr:=none)(c5:Nat:=0)(a6:Option Addr:=none)(c6:Nat:=0)(a7:Option Addr:=none)(c7:Nat:=0)(a8:Option Addr:=none)(c8:Nat:=0)(a9:Option Addr:=none)(c9:Nat:=0)(a10:Option Addr:=none)(c10:Nat:=0)(a11:Option Addr:=none)(c11:Nat:=0)(a12:Option Addr:=none)(c12:Nat:=0)(a13:Option Addr:=none)(c13:Nat:=0)(a14:Option Addr:=none)(c14:Nat:=0)(a15:Option Addr:=none)(c15:Nat:=0)(a16:Option Addr:=none)(c16:Nat:=0)(a17:Option Addr:=none)(c17:Nat:=0)(a18:Option Addr:=none)(c18:Nat:=0)(a19:Option Addr:=none)(c19:Nat:=0)(a20:Option Addr:=none)(c20:Nat:=0)(a21:Option Addr:=none)(c21:Nat:=0):List Value:=(D1 x a0 c0 a1 c1 a2 c2 a3 c3 a4 c4 a5 c5 a6 c6 a7 c7 a8 c8 a9 c9 a10 c10 a11 c11 a12 c12 a13 c13 a14 c14 a15 c15 a16 c16 a17 c17 a18 c18 a19 c19 a20 c20 a21 c21).take k++A8.drop k
abbrev aJ4(k:Nat)(x:M7)(a0:Option Addr:=none)(c0:Nat:=0)(a1:Option Addr:=none)(c1:Nat:=0)(a2:Option Addr:=none)(c2:Nat:=0)(a3:Option Addr:=none)(c3:Nat:=0)(a4:Option Addr:=none)(c4:Nat:=0)(a5:Option Addr:=none)(c5:Nat:=0)(a6:Option Addr:=none)(c6:Nat:=0)(a7:Option Addr:=none)(c7:Nat:=0)(a8:Option Addr:=none)(c8:Nat:=0)(a9:Option Addr:=none)(c9:Nat:=0)(a10:Option Addr:=none)(c10:Nat:=0):List Value:=(ad9 x a0 c0 a1 c1 a2 c2 a3 c3 a4 c4 a5 c5 a6 c6 a7 c7 a8 c8 a9 c9 a10 c10).take k++ag8.drop k
abbrev az9(k:Nat)(x:I8)(a0:Option Addr:=none)(c0:Nat:=0)(a1:Option Addr:=none)(c1:Nat:=0)(a2:Option Addr:=none)(c2:Nat:=0)(a3:Option Addr:=none)(c3:Nat:=0)(a4:Option Addr:=none)(c4:Nat:=0)(a5:Option Addr:=none)(c5:Nat:=0):List Value:=(X0 x a0 c0 a1 c1 a2 c2 a3 c3 a4 c4 a5 c5).take k++X2.drop k
abbrev az8(k:Nat)(x:D5)(a0:Option Addr:=none)(c0:Nat:=0)(a1:Option Addr:=none)(c1:Nat:=0)(a2:Option Addr:=none)(c2:Nat:=0)(a3:Option Addr:=none)(c3:Nat:=0)(a4:Option Addr:=none)(c4:Nat:=0)(a5:Option Addr:=none)(c5:Nat:=0)(a6:Option Addr:=none)(c6:Nat:=0):List Value:=(S5 x a0 c0 a1 c1 a2 c2 a3 c3 a4 c4 a5 c5 a6 c6).take k++L6.drop k
def al6(x:f5):Prop:=i64 x.Time∧i64 x.Light∧bk5 x.Drift∧bk6 x.Orbit∧aD4 x.Up∧aD4 x.Down∧at8 x.Ground∧aw7 x.Space∧i64 x.Bad∧True
structure I9 where
 a0:Option Addr
 c0:Nat
 a1:Option Addr
 c1:Nat
 a2:Option Addr
 c2:Nat
 a3:Option Addr
 c3:Nat
 a4:Option Addr
 c4:Nat
 a5:Option Addr
 c5:Nat
 a6:Option Addr
 c6:Nat
 a7:Option Addr
 c7:Nat
 a8:Option Addr
 c8:Nat
 a9:Option Addr
 c9:Nat
 a10:Option Addr
 c10:Nat
 a11:Option Addr
 c11:Nat
 a12:Option Addr
 c12:Nat
 a13:Option Addr
 c13:Nat
 a14:Option Addr
 c14:Nat
 a15:Option Addr
 c15:Nat
 a16:Option Addr
 c16:Nat
 a17:Option Addr
 c17:Nat
 a18:Option Addr
 c18:Nat
 a19:Option Addr
 c19:Nat
 a20:Option Addr
 c20:Nat
 a21:Option Addr
 c21:Nat
abbrev A0(x:f5)(A:I9):List Value:=D1 x A.a0 A.c0 A.a1 A.c1 A.a2 A.c2 A.a3 A.c3 A.a4 A.c4 A.a5 A.c5 A.a6 A.c6 A.a7 A.c7 A.a8 A.c8 A.a9 A.c9 A.a10 A.c10 A.a11 A.c11 A.a12 A.c12 A.a13 A.c13 A.a14 A.c14 A.a15 A.c15 A.a16 A.c16 A.a17 A.c17 A.a18 A.c18 A.a19 A.c19 A.a20 A.c20 A.a21 A.c21
structure ad8(B:Nat)(w:World)(A:I9)(x:f5):Prop where
 q0:RdS B w A.a0 A.c0 x.Plan
 q1:RdS B w A.a1 A.c1 x.Ups
 q2:RdS B w A.a2 A.c2 x.Downs
 q3:RdS B w A.a3 A.c3 x.Ground.Offers
 q4:RdS B w A.a4 A.c4 x.Ground.Sender.Waiting
 q5:RdS B w A.a5 A.c5 x.Ground.Pairs
 q6:RdS B w A.a6 A.c6 x.Ground.Records
 q7:RdS B w A.a7 A.c7 x.Ground.Files
 q8:RdS B w A.a8 A.c8 x.Ground.Told
 q9:RdS B w A.a9 A.c9 x.Space.Board.Params
 q10:RdS B w A.a10 A.c10 x.Space.Board.Limits
 q11:RdS B w A.a11 A.c11 x.Space.Board.Orders
 q12:RdS B w A.a12 A.c12 x.Space.Board.Done
 q13:RdS B w A.a13 A.c13 x.Space.Board.Recorder.Records
 q14:RdS B w A.a14 A.c14 x.Space.Board.Recorder.Dropped
 q15:RdS B w A.a15 A.c15 x.Space.Board.Asked
 q16:RdS B w A.a16 A.c16 x.Space.Packer.Starts
 q17:RdS B w A.a17 A.c17 x.Space.Files
 q18:RdS B w A.a18 A.c18 x.Space.Outs
 q19:RdS B w A.a19 A.c19 x.Space.Sent
 q20:RdS B w A.a20 A.c20 x.Offered
 q21:RdS B w A.a21 A.c21 x.Took
 ok:al6 x
theorem ad8.keep{B:Nat}{w w2:World}{A:I9}{x:f5}(h:ad8 B w A x)(g:b8 B w w2):ad8 B w2 A x:=⟨h.q0.keep g,h.q1.keep g,h.q2.keep g,h.q3.keep g,h.q4.keep g,h.q5.keep g,h.q6.keep g,h.q7.keep g,h.q8.keep g,h.q9.keep g,h.q10.keep g,h.q11.keep g,h.q12.keep g,h.q13.keep g,h.q14.keep g,h.q15.keep g,h.q16.keep g,h.q17.keep g,h.q18.keep g,h.q19.keep g,h.q20.keep g,h.q21.keep g,h.ok⟩
theorem ad8.mono{B B2:Nat}{w:World}{A:I9}{x:f5}(h:ad8 B w A x)(g:B2≤B):ad8 B2 w A x:=⟨h.q0.mono g,h.q1.mono g,h.q2.mono g,h.q3.mono g,h.q4.mono g,h.q5.mono g,h.q6.mono g,h.q7.mono g,h.q8.mono g,h.q9.mono g,h.q10.mono g,h.q11.mono g,h.q12.mono g,h.q13.mono g,h.q14.mono g,h.q15.mono g,h.q16.mono g,h.q17.mono g,h.q18.mono g,h.q19.mono g,h.q20.mono g,h.q21.mono g,h.ok⟩
instance:Enc f5 where
 size:=61
 Rd B w vs x:=∃ A:I9,vs=[.int .i64 x.Time,.int .i64 x.Light,.int .i64 x.Drift.Rate,.int .i64 x.Drift.Offset,.int .i64 x.Orbit.Period,.int .i64 x.Orbit.Start,.int .i64 x.Orbit.Length,.slice A.a0 x.Plan.length A.c0,.int .i64 x.Up.Seed,.int .i64 x.Up.Burst,.int .i64 x.Up.Loss,.int .i64 x.Down.Seed,.int .i64 x.Down.Burst,.int .i64 x.Down.Loss,.slice A.a1 x.Ups.length A.c1,.slice A.a2 x.Downs.length A.c2,.slice A.a3 x.Ground.Offers.length A.c3,.int .i64 x.Ground.Sender.Next,.int .i64 x.Ground.Sender.Window,.slice A.a4 x.Ground.Sender.Waiting.length A.c4,.int .i64 x.Ground.Sender.Done,.int .i64 x.Ground.Notice.Expect,.bool x.Ground.Notice.Locked,.bool x.Ground.Notice.Again,.int .i64 x.Ground.Unpacker.Channel,.int .i64 x.Ground.Unpacker.Next,.bool x.Ground.Unpacker.Synced,.string x.Ground.Unpacker.Rest,.int .i64 x.Ground.Unpacker.Lost,.slice A.a5 x.Ground.Pairs.length A.c5,.slice A.a6 x.Ground.Records.length A.c6,.slice A.a7 x.Ground.Files.length A.c7,.slice A.a8 x.Ground.Told.length A.c8,.int .i64 x.Space.Receiver.Expect,.bool x.Space.Receiver.Locked,.bool x.Space.Receiver.Again,.int .i64 x.Space.Receiver.Taken,.int .i64 x.Space.Board.Clock,.slice A.a9 x.Space.Board.Params.length A.c9,.bool x.Space.Board.Safe,.slice A.a10 x.Space.Board.Limits.length A.c10,.slice A.a11 x.Space.Board.Orders.length A.c11,.slice A.a12 x.Space.Board.Done.length A.c12,.int .i64 x.Space.Board.Recorder.Room,.slice A.a13 x.Space.Board.Recorder.Records.length A.c13,.slice A.a14 x.Space.Board.Recorder.Dropped.length A.c14,.int .i64 x.Space.Board.Made,.int .i64 x.Space.Board.Taken,.slice A.a15 x.Space.Board.Asked.length A.c15,.int .i64 x.Space.Packer.Channel,.int .i64 x.Space.Packer.Count,.string x.Space.Packer.Rest,.slice A.a16 x.Space.Packer.Starts.length A.c16,.int .i64 x.Space.Seq,.slice A.a17 x.Space.Files.length A.c17,.slice A.a18 x.Space.Outs.length A.c18,.int .i64 x.Space.Begun,.slice A.a19 x.Space.Sent.length A.c19,.slice A.a20 x.Offered.length A.c20,.slice A.a21 x.Took.length A.c21,.int .i64 x.Bad]∧ad8 B w A x
 len:=by rintro _ _ _ _ ⟨A,h,F⟩;rw[h];rfl
 keep:=by rintro _ _ _ _ _ ⟨A,h,F⟩ g;exact⟨A,h,F.keep g⟩
 mono:=by rintro _ _ _ _ _ ⟨A,h,F⟩ g;exact⟨A,h,F.mono g⟩
 tot x:=d7 x.Plan+d7 x.Ups+d7 x.Downs+Enc.tot x.Ground+Enc.tot x.Space+d7 x.Offered+d7 x.Took
 tot_nonneg x:=by have h0:=b7 x.Plan;have h1:=b7 x.Ups;have h2:=b7 x.Downs;have h3:=Enc.tot_nonneg x.Ground;have h4:=Enc.tot_nonneg x.Space;have h5:=b7 x.Offered;have h6:=b7 x.Took;omega
theorem bL3(x:f5):Enc.tot x=d7 x.Plan+d7 x.Ups+d7 x.Downs+Enc.tot x.Ground+Enc.tot x.Space+d7 x.Offered+d7 x.Took∧0≤d7 x.Plan∧(x.Plan.length:Int)≤d7 x.Plan∧0≤d7 x.Ups∧(x.Ups.length:Int)≤d7 x.Ups∧0≤d7 x.Downs∧(x.Downs.length:Int)≤d7 x.Downs∧0≤Enc.tot x.Ground∧Enc.tot x.Ground=d7 x.Ground.Offers+Enc.tot x.Ground.Sender+Enc.tot x.Ground.Unpacker+d7 x.Ground.Pairs+d7 x.Ground.Records+d7 x.Ground.Files+d7 x.Ground.Told∧0≤d7 x.Ground.Offers∧(x.Ground.Offers.length:Int)≤d7 x.Ground.Offers∧0≤Enc.tot x.Ground.Sender∧Enc.tot x.Ground.Sender=d7 x.Ground.Sender.Waiting∧0≤d7 x.Ground.Sender.Waiting∧(x.Ground.Sender.Waiting.length:Int)≤d7 x.Ground.Sender.Waiting∧0≤Enc.tot x.Ground.Unpacker∧Enc.tot x.Ground.Unpacker=(x.Ground.Unpacker.Rest.size:Int)∧0≤d7 x.Ground.Pairs∧(x.Ground.Pairs.length:Int)≤d7 x.Ground.Pairs∧0≤d7 x.Ground.Records∧(x.Ground.Records.length:Int)≤d7 x.Ground.Records∧0≤d7 x.Ground.Files∧(x.Ground.Files.length:Int)≤d7 x.Ground.Files∧0≤d7 x.Ground.Told∧(x.Ground.Told.length:Int)≤d7 x.Ground.Told∧0≤Enc.tot x.Space∧Enc.tot x.Space=Enc.tot x.Space.Board+Enc.tot x.Space.Packer+d7 x.Space.Files+d7 x.Space.Outs+d7 x.Space.Sent∧0≤Enc.tot x.Space.Board∧Enc.tot x.Space.Board=d7 x.Space.Board.Params+d7 x.Space.Board.Limits+d7 x.Space.Board.Orders+d7 x.Space.Board.Done+Enc.tot x.Space.Board.Recorder+d7 x.Space.Board.Asked∧0≤d7 x.Space.Board.Params∧(x.Space.Board.Params.length:Int)≤d7 x.Space.Board.Params∧0≤d7 x.Space.Board.Limits∧(x.Space.Board.Limits.length:Int)≤d7 x.Space.Board.Limits∧0≤d7 x.Space.Board.Orders∧(x.Space.Board.Orders.length:Int)≤d7 x.Space.Board.Orders∧0≤d7 x.Space.Board.Done∧(x.Space.Board.Done.length:Int)≤d7 x.Space.Board.Done∧0≤Enc.tot x.Space.Board.Recorder∧Enc.tot x.Space.Board.Recorder=d7 x.Space.Board.Recorder.Records+d7 x.Space.Board.Recorder.Dropped∧0≤d7 x.Space.Board.Recorder.Records∧(x.Space.Board.Recorder.Records.length:Int)≤d7 x.Space.Board.Recorder.Records∧0≤d7 x.Space.Board.Recorder.Dropped∧(x.Space.Board.Recorder.Dropped.length:Int)≤d7 x.Space.Board.Recorder.Dropped∧0≤d7 x.Space.Board.Asked∧(x.Space.Board.Asked.length:Int)≤d7 x.Space.Board.Asked∧0≤Enc.tot x.Space.Packer∧Enc.tot x.Space.Packer=(x.Space.Packer.Rest.size:Int)+d7 x.Space.Packer.Starts∧0≤d7 x.Space.Packer.Starts∧(x.Space.Packer.Starts.length:Int)≤d7 x.Space.Packer.Starts∧0≤d7 x.Space.Files∧(x.Space.Files.length:Int)≤d7 x.Space.Files∧0≤d7 x.Space.Outs∧(x.Space.Outs.length:Int)≤d7 x.Space.Outs∧0≤d7 x.Space.Sent∧(x.Space.Sent.length:Int)≤d7 x.Space.Sent∧0≤d7 x.Offered∧(x.Offered.length:Int)≤d7 x.Offered∧0≤d7 x.Took∧(x.Took.length:Int)≤d7 x.Took :=
 ⟨rfl,b7 _,d9 _,b7 _,d9 _,b7 _,d9 _,Enc.tot_nonneg _,rfl,b7 _,d9 _,Enc.tot_nonneg _,rfl,b7 _,d9 _,Enc.tot_nonneg _,rfl,b7 _,d9 _,b7 _,d9 _,b7 _,d9 _,b7 _,d9 _,Enc.tot_nonneg _,rfl,Enc.tot_nonneg _,rfl,b7 _,d9 _,b7 _,d9 _,b7 _,d9 _,b7 _,d9 _,Enc.tot_nonneg _,rfl,b7 _,d9 _,b7 _,d9 _,b7 _,d9 _,Enc.tot_nonneg _,rfl,b7 _,d9 _,b7 _,d9 _,b7 _,d9 _,b7 _,d9 _,b7 _,d9 _,b7 _,d9 _⟩

theorem bC7{B:Nat}{vs:List Value}{x:aA8}{w:World}(h:Enc.Rd B w vs x)(ht:Enc.tot x≤1048576) :
  Calls Tryz.prog 24 #[.agg vs.toArray] w (ah3 w x):=by
 obtain⟨rfl,hok⟩:=h
 clear ht
 have HOK:=lH hok;clear hok
 go_enter Tryz.func24,Tryz.ntmps24
 go_wp2_with fail
 refine bodyPost_ret (v:=.agg #[.int .i64 x.Rate,.int .i64 x.Offset]) ?_ rfl ⟨[.int .i64 x.Rate,.int .i64 x.Offset],rfl,⟨rfl,HOK.out⟩,b5.of⟩
 simp[results,Tryz.results24,go_sem]
theorem bB2{B B2:Nat}{vs vs2:List Value}{x:aA8}{w:World}(h:Enc.Rd B w vs x)(h2:Enc.Rd B2 w vs2 x) :
  Calls Tryz.prog 40 #[.agg vs.toArray,.agg vs2.toArray] w (b4 w (.bool true)):=by
 obtain⟨rfl,hok⟩:=h
 obtain⟨rfl,-⟩:=h2
 have HOK:=lH hok;clear hok
 go_enter Tryz.func40,Tryz.ntmps40
 go_wp2_with fail
 go_ret
 exact b4.mk rfl
theorem bK5{B:Nat}{vs:List Value}{x:af2}{w:World}(h:Enc.Rd B w vs x)(ht:Enc.tot x≤1048576) :
  Calls Tryz.prog 187 #[.agg vs.toArray] w (ah3 w x):=by
 obtain⟨rfl,hok⟩:=h
 clear ht
 have HOK:=lH hok;clear hok
 go_enter Tryz.func187,Tryz.ntmps187
 go_wp2_with fail
 refine bodyPost_ret (v:=.agg #[.int .i64 x.Board,.int .i64 x.True]) ?_ rfl ⟨[.int .i64 x.Board,.int .i64 x.True],rfl,⟨rfl,HOK.out⟩,b5.of⟩
 simp[results,Tryz.results187,go_sem]
theorem bK0{B B2:Nat}{vs vs2:List Value}{x:af2}{w:World}(h:Enc.Rd B w vs x)(h2:Enc.Rd B2 w vs2 x) :
  Calls Tryz.prog 220 #[.agg vs.toArray,.agg vs2.toArray] w (b4 w (.bool true)):=by
 obtain⟨rfl,hok⟩:=h
 obtain⟨rfl,-⟩:=h2
 have HOK:=lH hok;clear hok
 go_enter Tryz.func220,Tryz.ntmps220
 go_wp2_with fail
 go_ret
 exact b4.mk rfl
theorem bC3{B:Nat}{a:Option Addr}{c:Nat}{l:List af2}{left:Int}{w:World}(hs:RdS B w a c l)(hl:0≤left)(hl2:left≤1048576) :
  Calls Tryz.prog 61 #[.slice a l.length c,.int .i64 left] w (b4 w (.int .i64 (szD left (d7 l)))):=by
 have hmx:=hs.max
 have hln:=d9 l
 obtain⟨n,hn⟩:∃ n,l.length=n:=⟨_,rfl⟩
 rw[hn]at hln hmx
 rw[hn]
 have HN:=lH hn;clear hn
 have htl:d7 l=n:=by rw[← HN.out];clear hs HN hmx hln;induction l with|nil=>rfl|cons x r ih=>simp only[d7,List.length_cons,ih];show 1+0+_=_;omega
 rw[htl];clear htl hln hs
 by_cases h:left - n<0
 ·rw[j8 h]
  go_enter Tryz.func61,Tryz.ntmps61
  go_wp2_with fail
  go_ret
  exact b4.mk rfl
 ·rw[B7 h]
  go_enter Tryz.func61,Tryz.ntmps61
  go_wp2_with fail
  go_ret
  exact b4.mk rfl
theorem bB6{B B2:Nat}{a a2:Option Addr}{c c2:Nat}{l:List af2}{w:World}(hs:RdS B w a c l)(hs2:RdS B2 w a2 c2 l) :
  Calls Tryz.prog 134 #[.slice a l.length c,.slice a2 l.length c2] w (b4 w (.bool true)):=by
 have hmx:=hs.max
 obtain⟨n,hn⟩:∃ n,l.length=n:=⟨_,rfl⟩
 rw[hn]at hmx
 rw[hn]
 have HN:=lH hn;clear hn
 have kn:((n:Int) != (n:Int))=false:=by simp
 go_enter Tryz.func134,Tryz.ntmps134
 go_wp2_with fail
 go_loopw [5] (fun v wr=>∃ k:Nat,v=.int .i64 k∧k≤n∧∃ x:b5 w,wr=x.w) (fun v _=>(n - intOf v).toNat)
 case atStart=>exact⟨0,rfl,by omega,b5.of⟩
 case round =>
  obtain⟨k,rfl,hk,x,rfl⟩:=hrel
  by_cases h:k<n
  ·have hlk:k<l.length:=by have:=HN.out;omega
   obtain⟨eb,eoff,ex,rfl,ehb,ehd,eok,eh0,eh1⟩:=hs.atPair (show k<l.length by omega)
   obtain⟨fb,foff,fx,rfl,fhb,fhd,fok,fh0,fh1⟩:=hs2.atPair (show k<l.length by omega)
   obtain rfl:ex=fx:=by have:=ehd.out.symm.trans fhd.out;simpa using this
   clear ehd fhd hlk hs hs2
   have ce:∀ {W:World} [d5 w W],Calls Tryz.prog 220 #[.agg #[.int .i64 ex.Board,.int .i64 ex.True],.agg #[.int .i64 ex.Board,.int .i64 ex.True]] W (b4 W (.bool true)):=fun {W} _=>bK0 (B:=0) (B2:=0) (x:=ex) ⟨rfl,eok⟩ ⟨rfl,fok⟩
   clear eok fok
   go_wp2_with (first|((with_reducible refine rl ?_);(repeat(first|go_big_quiet_step (first|(go_at_call 220;exact b4.quiet (ce)))));refine wpQuiet_nil ?_;intro x)|(go_at_call 220;refine gm (ce) ?_;intro x))
   go_roundw
   case rel=>exact⟨k+1,by go_num,by omega,b5.of⟩
   case measure=>simp[intOf];omega
  ·go_wp2_with fail
   go_ret
   exact b4.mk rfl
theorem bC9{B:Nat}{vs:List Value}{x:aA9}{w:World}(h:Enc.Rd B w vs x)(ht:Enc.tot x≤1048576) :
  Calls Tryz.prog 25 #[.agg vs.toArray] w (ah3 w x):=by
 obtain⟨rfl,hok⟩:=h
 clear ht
 have HOK:=lH hok;clear hok
 go_enter Tryz.func25,Tryz.ntmps25
 go_wp2_with fail
 refine bodyPost_ret (v:=.agg #[.int .i64 x.Period,.int .i64 x.Start,.int .i64 x.Length]) ?_ rfl ⟨[.int .i64 x.Period,.int .i64 x.Start,.int .i64 x.Length],rfl,⟨rfl,HOK.out⟩,b5.of⟩
 simp[results,Tryz.results25,go_sem]
theorem bB4{B B2:Nat}{vs vs2:List Value}{x:aA9}{w:World}(h:Enc.Rd B w vs x)(h2:Enc.Rd B2 w vs2 x) :
  Calls Tryz.prog 41 #[.agg vs.toArray,.agg vs2.toArray] w (b4 w (.bool true)):=by
 obtain⟨rfl,hok⟩:=h
 obtain⟨rfl,-⟩:=h2
 have HOK:=lH hok;clear hok
 go_enter Tryz.func41,Tryz.ntmps41
 go_wp2_with fail
 go_ret
 exact b4.mk rfl
theorem bK7{B:Nat}{vs:List Value}{x:ao3}{w:World}(h:Enc.Rd B w vs x)(ht:Enc.tot x≤1048576) :
  Calls Tryz.prog 88 #[.agg vs.toArray] w (ah3 w x):=by
 obtain⟨rfl,hok⟩:=h
 clear ht
 have HOK:=lH hok;clear hok
 go_enter Tryz.func88,Tryz.ntmps88
 go_wp2_with fail
 refine bodyPost_ret (v:=.agg #[.int .i64 x.Time,.int .i64 x.Id]) ?_ rfl ⟨[.int .i64 x.Time,.int .i64 x.Id],rfl,⟨rfl,HOK.out⟩,b5.of⟩
 simp[results,Tryz.results88,go_sem]
theorem bK2{B B2:Nat}{vs vs2:List Value}{x:ao3}{w:World}(h:Enc.Rd B w vs x)(h2:Enc.Rd B2 w vs2 x) :
  Calls Tryz.prog 129 #[.agg vs.toArray,.agg vs2.toArray] w (b4 w (.bool true)):=by
 obtain⟨rfl,hok⟩:=h
 obtain⟨rfl,-⟩:=h2
 have HOK:=lH hok;clear hok
 go_enter Tryz.func129,Tryz.ntmps129
 go_wp2_with fail
 go_ret
 exact b4.mk rfl
theorem bC5{B:Nat}{a:Option Addr}{c:Nat}{l:List ao3}{left:Int}{w:World}(hs:RdS B w a c l)(hl:0≤left)(hl2:left≤1048576) :
  Calls Tryz.prog 11 #[.slice a l.length c,.int .i64 left] w (b4 w (.int .i64 (szD left (d7 l)))):=by
 have hmx:=hs.max
 have hln:=d9 l
 obtain⟨n,hn⟩:∃ n,l.length=n:=⟨_,rfl⟩
 rw[hn]at hln hmx
 rw[hn]
 have HN:=lH hn;clear hn
 have htl:d7 l=n:=by rw[← HN.out];clear hs HN hmx hln;induction l with|nil=>rfl|cons x r ih=>simp only[d7,List.length_cons,ih];show 1+0+_=_;omega
 rw[htl];clear htl hln hs
 by_cases h:left - n<0
 ·rw[j8 h]
  go_enter Tryz.func11,Tryz.ntmps11
  go_wp2_with fail
  go_ret
  exact b4.mk rfl
 ·rw[B7 h]
  go_enter Tryz.func11,Tryz.ntmps11
  go_wp2_with fail
  go_ret
  exact b4.mk rfl
theorem bB8{B B2:Nat}{a a2:Option Addr}{c c2:Nat}{l:List ao3}{w:World}(hs:RdS B w a c l)(hs2:RdS B2 w a2 c2 l) :
  Calls Tryz.prog 42 #[.slice a l.length c,.slice a2 l.length c2] w (b4 w (.bool true)):=by
 have hmx:=hs.max
 obtain⟨n,hn⟩:∃ n,l.length=n:=⟨_,rfl⟩
 rw[hn]at hmx
 rw[hn]
 have HN:=lH hn;clear hn
 have kn:((n:Int) != (n:Int))=false:=by simp
 go_enter Tryz.func42,Tryz.ntmps42
 go_wp2_with fail
 go_loopw [5] (fun v wr=>∃ k:Nat,v=.int .i64 k∧k≤n∧∃ x:b5 w,wr=x.w) (fun v _=>(n - intOf v).toNat)
 case atStart=>exact⟨0,rfl,by omega,b5.of⟩
 case round =>
  obtain⟨k,rfl,hk,x,rfl⟩:=hrel
  by_cases h:k<n
  ·have hlk:k<l.length:=by have:=HN.out;omega
   obtain⟨eb,eoff,ex,rfl,ehb,ehd,eok,eh0,eh1⟩:=hs.atSlot (show k<l.length by omega)
   obtain⟨fb,foff,fx,rfl,fhb,fhd,fok,fh0,fh1⟩:=hs2.atSlot (show k<l.length by omega)
   obtain rfl:ex=fx:=by have:=ehd.out.symm.trans fhd.out;simpa using this
   clear ehd fhd hlk hs hs2
   have ce:∀ {W:World} [d5 w W],Calls Tryz.prog 129 #[.agg #[.int .i64 ex.Time,.int .i64 ex.Id],.agg #[.int .i64 ex.Time,.int .i64 ex.Id]] W (b4 W (.bool true)):=fun {W} _=>bK2 (B:=0) (B2:=0) (x:=ex) ⟨rfl,eok⟩ ⟨rfl,fok⟩
   clear eok fok
   go_wp2_with (first|((with_reducible refine rl ?_);(repeat(first|go_big_quiet_step (first|(go_at_call 129;exact b4.quiet (ce)))));refine wpQuiet_nil ?_;intro x)|(go_at_call 129;refine gm (ce) ?_;intro x))
   go_roundw
   case rel=>exact⟨k+1,by go_num,by omega,b5.of⟩
   case measure=>simp[intOf];omega
  ·go_wp2_with fail
   go_ret
   exact b4.mk rfl
theorem bu8{B:Nat}{vs:List Value}{x:s6}{w:World}(h:Enc.Rd B w vs x)(ht:Enc.tot x≤1048576) :
  Calls Tryz.prog 89 #[.agg vs.toArray] w (ah3 w x):=by
 obtain⟨rfl,hok⟩:=h
 clear ht
 have HOK:=lH hok;clear hok
 go_enter Tryz.func89,Tryz.ntmps89
 go_wp2_with fail
 refine bodyPost_ret (v:=.agg #[.int .i64 x.At,.string x.Data]) ?_ rfl ⟨[.int .i64 x.At,.string x.Data],rfl,⟨rfl,HOK.out⟩,b5.of⟩
 simp[results,Tryz.results89,go_sem]
theorem bu2{B:Nat}{vs:List Value}{x:s6}{left:Int}{w:World}(h:Enc.Rd B w vs x)(hl:0≤left)(hl2:left≤1048576) :
  Calls Tryz.prog 58 #[.agg vs.toArray,.int .i64 left] w (b4 w (.int .i64 (szD left (Enc.tot x)))):=by
 obtain⟨rfl,hok⟩:=h
 have n0:(0:Int)≤x.Data.size:=by omega
 have z0:x.Data.size≤9223372036854775807:=hok.2.1
 have HOK:=lH hok;clear hok
 have htot:Enc.tot x=(x.Data.size:Int):=rfl
 have HTOT:=lH htot;clear htot
 go_enter Tryz.func58,Tryz.ntmps58
 by_cases h0:left - (x.Data.size:Int)<0
 ·have HV:=lH (show szD left (Enc.tot x)=-1 from j8 (by rw[HTOT.out];omega))
  go_wp2_with fail
  go_ret
  exact b4.mk (by rw[HV.out];rfl)
 have HV:=lH (show szD left (Enc.tot x)=left - (x.Data.size:Int)by rw[B7 (by rw[HTOT.out];omega),HTOT.out]<;>omega)
 go_wp2_with fail
 go_ret
 exact b4.mk (by rw[HV.out];rfl)
theorem bt4{B B2:Nat}{vs vs2:List Value}{x:s6}{w:World}(h:Enc.Rd B w vs x)(h2:Enc.Rd B2 w vs2 x) :
  Calls Tryz.prog 130 #[.agg vs.toArray,.agg vs2.toArray] w (b4 w (.bool true)):=by
 obtain⟨rfl,hok⟩:=h
 obtain⟨rfl,-⟩:=h2
 have HOK:=lH hok;clear hok
 go_enter Tryz.func130,Tryz.ntmps130
 go_wp2_with fail
 go_ret
 exact b4.mk rfl
theorem aK8{B:Nat}{a:Option Addr}{c:Nat}{l:List s6}{left:Int}{w:World}(hs:RdS B w a c l)(hl:0≤left)(hl2:left≤1048576) :
  Calls Tryz.prog 12 #[.slice a l.length c,.int .i64 left] w (b4 w (.int .i64 (szD left (d7 l)))):=by
 have hmx:=hs.max
 have hln:=d9 l
 obtain⟨n,hn⟩:∃ n,l.length=n:=⟨_,rfl⟩
 rw[hn]at hln hmx
 rw[hn]
 have HN:=lH hn;clear hn
 by_cases h:left - n<0
 ·have HV:=lH (show szD left (d7 l)=-1 from j8 (by omega))
  go_enter Tryz.func12,Tryz.ntmps12
  go_wp2_with fail
  go_ret
  exact b4.mk (by rw[HV.out];rfl)
 ·go_enter Tryz.func12,Tryz.ntmps12
  go_wp2_with fail
  go_loopw [1,5] (fun u v wr=>∃ (k:Nat) (r:Int),v=.int .i64 k∧u=.int .i64 r∧k≤n∧0≤r∧r≤1048576∧Hid (r - d7 (l.drop k)+(n - k)=left - d7 l)∧∃ x:b5 w,wr=x.w) (fun _ v _=>(n - intOf v).toNat)
  case atStart=>exact⟨0,left - n,rfl,by go_num,by omega,by omega,by omega,by unfold Hid;rw[List.drop_zero];omega,b5.of⟩
  case round =>
   obtain⟨k,r,rfl,rfl,hk,hr,hr2,hf,x,rfl⟩:=hrel
   by_cases h2:k<n
   ·have hlk:k<l.length:=by have:=HN.out;omega
    obtain⟨eb,eoff,ex,rfl,ehb,ehd,eok,eh0,eh1⟩:=hs.atTFlight (show k<l.length by omega)
    have hd2:=d9 (l.drop (k+1))
    have HD2:=lH (show((n:Int) - k - 1≤d7 (l.drop (k+1)))by rw[List.length_drop,HN.out]at hd2;omega);clear hd2 hlk
    have ht0:=Enc.tot_nonneg ex
    obtain⟨t,htt⟩:∃ t,Enc.tot ex=t:=⟨_,rfl⟩
    have hf2:Hid (r - (1+t+d7 (l.drop (k+1)))+(n - k)=left - d7 l):=by
     have:=hf.out;rw[ehd.out]at this;rw[← htt];exact this
    rw[htt]at ht0
    have HTT:=lH htt;clear htt hf
    have HEOK:=lH eok;clear eok
    go_wp2_with fail
    refine gm (bu2 (B:=0) (x:=ex) ⟨rfl,HEOK.out⟩ (by omega) (by omega)) ?_
    intro y
    rw[HTT.out]
    by_cases h3:r - t<0
    ·have HV:=lH (show szD left (d7 l)=-1 from j8 (by have h7:=hf2.out;have h8:=HD2.out;omega))
     rw[j8 h3]
     go_wp2_with fail
     go_ret
     exact b4.mk (by rw[HV.out];rfl)
    ·rw[B7 h3]
     go_wp2_with fail
     go_roundw
     case rel=>exact⟨k+1,r - t,by go_num,by go_num,by omega,by omega,by omega,by have h7:=hf2.out;unfold Hid;omega,b5.of⟩
     case measure=>simp[intOf];omega
   ·have HV:=lH (show szD left (d7 l)=r by
     have h7:=hf.out
     rw[List.drop_of_length_le (by have:=HN.out;omega)]at h7
     simp only[d7]at h7
     rw[B7 (by omega)];omega)
    go_wp2_with fail
    go_ret
    exact b4.mk (by rw[HV.out];rfl)
theorem aK7{B B2:Nat}{a a2:Option Addr}{c c2:Nat}{l:List s6}{w:World}(hs:RdS B w a c l)(hs2:RdS B2 w a2 c2 l) :
  Calls Tryz.prog 44 #[.slice a l.length c,.slice a2 l.length c2] w (b4 w (.bool true)):=by
 have hmx:=hs.max
 obtain⟨n,hn⟩:∃ n,l.length=n:=⟨_,rfl⟩
 rw[hn]at hmx
 rw[hn]
 have HN:=lH hn;clear hn
 have kn:((n:Int) != (n:Int))=false:=by simp
 go_enter Tryz.func44,Tryz.ntmps44
 go_wp2_with fail
 go_loopw [5] (fun v wr=>∃ k:Nat,v=.int .i64 k∧k≤n∧∃ x:b5 w,wr=x.w) (fun v _=>(n - intOf v).toNat)
 case atStart=>exact⟨0,rfl,by omega,b5.of⟩
 case round =>
  obtain⟨k,rfl,hk,x,rfl⟩:=hrel
  by_cases h:k<n
  ·have hlk:k<l.length:=by have:=HN.out;omega
   obtain⟨eb,eoff,ex,rfl,ehb,ehd,eok,eh0,eh1⟩:=hs.atTFlight (show k<l.length by omega)
   obtain⟨fb,foff,fx,rfl,fhb,fhd,fok,fh0,fh1⟩:=hs2.atTFlight (show k<l.length by omega)
   obtain rfl:ex=fx:=by have:=ehd.out.symm.trans fhd.out;simpa using this
   clear ehd fhd hlk hs hs2
   have ce:∀ {W:World} [d5 w W],Calls Tryz.prog 130 #[.agg #[.int .i64 ex.At,.string ex.Data],.agg #[.int .i64 ex.At,.string ex.Data]] W (b4 W (.bool true)):=fun {W} _=>bt4 (B:=0) (B2:=0) (x:=ex) ⟨rfl,eok⟩ ⟨rfl,fok⟩
   clear eok fok
   go_wp2_with (first|((with_reducible refine rl ?_);(repeat(first|go_big_quiet_step (first|(go_at_call 130;exact b4.quiet (ce)))));refine wpQuiet_nil ?_;intro x)|(go_at_call 130;refine gm (ce) ?_;intro x))
   go_roundw
   case rel=>exact⟨k+1,by go_num,by omega,b5.of⟩
   case measure=>simp[intOf];omega
  ·go_wp2_with fail
   go_ret
   exact b4.mk rfl
theorem bg7{B:Nat}{vs:List Value}{x:ai4}{w:World}(h:Enc.Rd B w vs x)(ht:Enc.tot x≤1048576) :
  Calls Tryz.prog 92 #[.agg vs.toArray] w (ah3 w x):=by
 obtain⟨rfl,hok⟩:=h
 clear ht
 have HOK:=lH hok;clear hok
 go_enter Tryz.func92,Tryz.ntmps92
 go_wp2_with fail
 refine bodyPost_ret (v:=.agg #[.int .i64 x.Channel,.int .i64 x.Next,.bool x.Synced,.string x.Rest,.int .i64 x.Lost]) ?_ rfl ⟨[.int .i64 x.Channel,.int .i64 x.Next,.bool x.Synced,.string x.Rest,.int .i64 x.Lost],rfl,⟨rfl,HOK.out⟩,b5.of⟩
 simp[results,Tryz.results92,go_sem]
theorem bg4{B:Nat}{vs:List Value}{x:ai4}{left:Int}{w:World}(h:Enc.Rd B w vs x)(hl:0≤left)(hl2:left≤1048576) :
  Calls Tryz.prog 60 #[.agg vs.toArray,.int .i64 left] w (b4 w (.int .i64 (szD left (Enc.tot x)))):=by
 obtain⟨rfl,hok⟩:=h
 have n0:(0:Int)≤x.Rest.size:=by omega
 have z0:x.Rest.size≤9223372036854775807:=hok.2.2.1
 have HOK:=lH hok;clear hok
 have htot:Enc.tot x=(x.Rest.size:Int):=rfl
 have HTOT:=lH htot;clear htot
 go_enter Tryz.func60,Tryz.ntmps60
 by_cases h0:left - (x.Rest.size:Int)<0
 ·have HV:=lH (show szD left (Enc.tot x)=-1 from j8 (by rw[HTOT.out];omega))
  go_wp2_with fail
  go_ret
  exact b4.mk (by rw[HV.out];rfl)
 have HV:=lH (show szD left (Enc.tot x)=left - (x.Rest.size:Int)by rw[B7 (by rw[HTOT.out];omega),HTOT.out]<;>omega)
 go_wp2_with fail
 go_ret
 exact b4.mk (by rw[HV.out];rfl)
theorem bg0{B B2:Nat}{vs vs2:List Value}{x:ai4}{w:World}(h:Enc.Rd B w vs x)(h2:Enc.Rd B2 w vs2 x) :
  Calls Tryz.prog 133 #[.agg vs.toArray,.agg vs2.toArray] w (b4 w (.bool true)):=by
 obtain⟨rfl,hok⟩:=h
 obtain⟨rfl,-⟩:=h2
 have HOK:=lH hok;clear hok
 go_enter Tryz.func133,Tryz.ntmps133
 go_wp2_with fail
 go_ret
 exact b4.mk rfl
@[go_sem] theorem bF7(n:Int):(Z2 n).size=1:=rfl
@[go_sem] theorem bT6(n:Int):(aD9 n).size=2:=rfl
def bS2(m n:Int):ByteArray:=if m=1 then Z2 n else aD9 n
@[go_sem] theorem bU1(n:Int):bS2 1 n=Z2 n:=rfl
@[go_sem] theorem bU2(n:Int):bS2 2 n=aD9 n:=rfl
theorem ba5:∀ (k:Nat) {n:Int},0≤n→n≤65535→0≤af4 k n∧af4 k n≤65535
 | 0,n,h0,h1=>⟨h0,h1⟩
 | k+1,n,h0,h1=>ba5 k (aE3 h0 h1).1 (aE3 h0 h1).2
theorem bM7:∀ (l:List Int) {n:Int},(∀ b∈l,0≤b∧b≤255)→0≤n→n≤65535→0≤crc n l∧crc n l≤65535
 | [],n,_,h0,h1=>by rw[bn0];exact⟨h0,h1⟩
 | b::l,n,h,h0,h1=>by
  rw[ba6]
  have hb:=h b (by simp)
  have hx:=br6 h0 h1 (show 0≤256*b by omega) (show 256*b≤65535 by omega)
  have hc:=ba5 8 hx.1 hx.2
  exact bM7 l (fun c hc=>h c (by simp[hc])) hc.1 hc.2
theorem ba0(s:ByteArray):0≤ai7 s∧ai7 s≤65535:=by
 rw[aI9]
 refine bM7 _ (fun b hb=>?_) (by omega) (by omega)
 obtain⟨u,-,rfl⟩:=List.mem_map.1 hb
 have:=u.toNat_lt
 omega
def bW4(s:ByteArray)(k:Int):ByteArray:=if inB k 0 (L7 s.size - 1)=true then s.extract (24*k).toNat (min (24*k+24) s.size).toNat else⟨#[]⟩
/-! ### One time: who gets it, and when is the next one wanted -/
/-! ### One step -/
section
variable {P:Program} {ops:Array Oper} {C:World→Prop} {Q:Act→Prop} {o:Oper} {rest:List Oper} {a:Act}
end
