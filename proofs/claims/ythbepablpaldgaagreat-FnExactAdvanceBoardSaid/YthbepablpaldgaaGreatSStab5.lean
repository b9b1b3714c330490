/- Regions that draw their order: parts of slices, sums. No condition but on sizes. -/
import Derived.Test.YthbepablpaldgaaGreatSM20
import Derived.Test.YthbepablpaldgaaGreatSM38
namespace Go.Proofs.YthbepablpaldgaaGreat
set_option linter.unusedVariables false
open Go.ChangeShapes Go.WideShapes Go.ChangeAt Go.RowKit
theorem i64_wrap(n:Int)(h0:-9223372036854775808≤n)(h1:n≤9223372036854775807):IntKind.i64.wrap n=n:=by
 rw[IntKind.wrap_i64];omega
section
variable {P:Program} {ops:Array Oper} {b:Act} {w:World} {i:Nat}
def addIAt(ops:Array Oper)(b:Act)(i:Nat):Option (Int × Int) :=
 if Region.wanted (opAt ops i) (yielded ops b.tmps)then(match (opAt ops i).op with
  | .binOp .add _ x y _=>(match b.eval x,b.eval y with|.int .i64 s,.int .i64 t=>some (s,t)|_,_=>none)
  | _=>none)else none
theorem run_addI{s t:Int}(hk:addIAt ops b i=some (s,t))(h0:-9223372036854775808≤s+t)(h1:s+t≤9223372036854775807):runAt P ops b w i=some (.int .i64 (s+t),w):=by
 unfold addIAt at hk
 split at hk
 case isFalse=>cases hk
 rename_i hw
 split at hk
 case h_2=>cases hk
 rename_i ty x y ty2 hop
 split at hk
 case h_2=>cases hk
 rename_i s' t' hx hy
 simp only[Option.some.injEq,Prod.mk.injEq]at hk
 obtain⟨rfl,rfl⟩:=hk
 unfold runAt
 rw[if_pos hw]
 unfold execOp
 have he:eqGuard BinOp.add ty x y (Value.int .i64 s') (Value.int .i64 t')=pure ():=rfl
 have hq:IntKind.i64.wrap (s'+t')=s'+t':=i64_wrap _ h0 h1
 simp only[hop,hx,hy,he,Sem.run_bind,Sem.run_pure,Result.andThen_ok]
 simp only[go_sem,hq];rfl
theorem g_addI{s t:Int}{Fs:EntL Gr}{val:Nat→Value}{k:Nat}(he:(entAt Fs k).fix=some fun _=>.int .i64 (s+t))(hk:addIAt ops b i=some (s,t))(h0:-9223372036854775808≤s+t)(h1:s+t≤9223372036854775807) :
  gives P ops (opAt ops i) b w (fun v w'=>(∃ y:Later w,w'=y.w)∧entP Fs k val v w') :=
 g_fn (by rw[he];rfl) (by rw[run_addI hk h0 h1];unfold Ent.out;rw[he])
theorem g_from2{bb o n c j size:Nat}{t:TypeId}{Fs:EntL Gr}{val:Nat→Value}{k:Nat}(he:(entAt Fs k).fix=some fun _=>.slice (some ⟨bb,if c=j then o else o+j*size,none⟩) (n - j) (c - j))(hk:fromAt ops b i=some (t,.slice (some ⟨bb,o,none⟩) n c,.int .i64 j))(hu:P.underlying t=some (.slice (P.elem t)))(hz:(P.info? (P.elem t)).map (·.size)=some size)(hj:j≤n)(hc:n≤c) :
  gives P ops (opAt ops i) b w (fun v w'=>(∃ y:Later w,w'=y.w)∧entP Fs k val v w'):=by
 unfold fromAt at hk
 unfold gives
 split at hk
 case isFalse=>cases hk
 rename_i hw
 rw[if_pos hw]
 split at hk
 case h_2=>cases hk
 rename_i t' x y hop
 simp only[Option.some.injEq,Prod.mk.injEq]at hk
 obtain⟨rfl,hx,hy⟩:=hk
 obtain⟨ti,hti,hs⟩:=Option.map_eq_some_iff.1 hz
 have hsz:(sizeOf (P.elem t')).run P w=.ok size w:=by simp[sizeOf,typeInfo,hti,hs]
 have e:(if c=j then some (⟨bb,o,none⟩:Addr)else(some (⟨bb,o,none⟩:Addr)).map (·.add (j*size)))=some ⟨bb,if c=j then o else o+j*size,none⟩:=by
  split
  ·rfl
  ·rw[Option.map_some,addr_add]
 unfold execOp
 simp only[hop,Sem.run_bind,hx,hy,Option.map_some,Option.map_none,run_sliceAt_slice (h:=hu)]
 simp only[run_slice_l w t' (some (⟨bb,o,none⟩:Addr)) n c hu .i64 (j:Int) (by omega) (by omega),hsz,Result.andThen_ok,sliced,Int.toNat_natCast,e,Sem.run_pure,givesUpon]
 refine⟨Later.of,?_⟩
 unfold entP
 rw[he]
def uptoAt(ops:Array Oper)(b:Act)(i:Nat):Option (TypeId × Value × Value) :=
 if Region.wanted (opAt ops i) (yielded ops b.tmps)then(match (opAt ops i).op with|.slice t x none (some j) none=>some (t,b.eval x,b.eval j)|_=>none)else none
theorem g_upto{bb o n c j size:Nat}{t:TypeId}{Fs:EntL Gr}{val:Nat→Value}{k:Nat}(he:(entAt Fs k).fix=some fun _=>.slice (some ⟨bb,o,none⟩) j c)(hk:uptoAt ops b i=some (t,.slice (some ⟨bb,o,none⟩) n c,.int .i64 j))(hu:P.underlying t=some (.slice (P.elem t)))(hz:(P.info? (P.elem t)).map (·.size)=some size)(hj:j≤c) :
  gives P ops (opAt ops i) b w (fun v w'=>(∃ y:Later w,w'=y.w)∧entP Fs k val v w'):=by
 unfold uptoAt at hk
 unfold gives
 split at hk
 case isFalse=>cases hk
 rename_i hw
 rw[if_pos hw]
 split at hk
 case h_2=>cases hk
 rename_i t' x y hop
 simp only[Option.some.injEq,Prod.mk.injEq]at hk
 obtain⟨rfl,hx,hy⟩:=hk
 obtain⟨ti,hti,hs⟩:=Option.map_eq_some_iff.1 hz
 have hsz:(sizeOf (P.elem t')).run P w=.ok size w:=by simp[sizeOf,typeInfo,hti,hs]
 have e:(if c=0 then some (⟨bb,o,none⟩:Addr)else(some (⟨bb,o,none⟩:Addr)).map (·.add (0*size)))=some ⟨bb,o,none⟩:=by
  split
  ·rfl
  ·rw[Option.map_some,addr_add,Nat.zero_mul,Nat.add_zero]
 unfold execOp
 simp only[hop,Sem.run_bind,hx,hy,Option.map_some,Option.map_none,run_sliceAt_slice (h:=hu)]
 simp only[run_slice_h w t' (some (⟨bb,o,none⟩:Addr)) n c hu .i64 (j:Int) (by omega) (by omega),hsz,Result.andThen_ok,sliced,Int.toNat_natCast,e,Nat.sub_zero,Sem.run_pure,givesUpon]
 refine⟨Later.of,?_⟩
 unfold entP
 rw[he]
end
theorem Sl.take{α:Type}{enc:α→List Value}{w:World}{a:Option Addr}{l:List α}(h:Sl enc w a l)(k:Nat):Sl enc w a (l.take k):=fun i x hx=>h i x (by
 have hl:=(List.getElem?_eq_some_iff.1 hx).1
 rw[List.length_take]at hl
 rwa[List.getElem?_take_of_lt (by omega)]at hx)
theorem Sl.from2{α:Type}{enc:α→List Value}{w:World}{bb o c j size:Nat}{l:List α}(h:Sl enc w (some ⟨bb,o,none⟩) l)(hc:l.length≤c)(hs:∀ y,(enc y).length=size):Sl enc w (some ⟨bb,if c=j then o else o+j*size,none⟩) (l.drop j):=fun i x hx=>by
 rw[List.getElem?_drop]at hx
 have hl:=(List.getElem?_eq_some_iff.1 hx).1
 obtain⟨b,off,h1,h2,h3⟩:=h (j+i) x hx
 cases h1
 refine⟨bb,o+j*size,by rw[if_neg (by omega)],h2,fun q v hv=>?_⟩
 have:=h3 q v hv
 rw[hs,Nat.add_mul]at this
 rw[hs,show o+j*size+i*size+q=o+(j*size+i*size)+q by omega];exact this
section
variable {P:Program} {ops:Array Oper} {C:World→Prop} {Q:Act→Prop} {o:Oper} {rest:List Oper} {a:Act}
theorem quiet_load_rowW(hw:Region.wanted o (yielded ops a.tmps)=true)(ty:TypeId)(x:Operand)(ho:o.op=.load ty x)(b off:Nat)(hx:a.eval x=.pointer (some ⟨b,off,none⟩))(row:List Value)(d:TypeDesc)(hS:∀ w,C w→w.rangeAt b off row)
  (hu:P.underlying ty=some d) (hd:d.isRow=true) (hi:(P.info? ty).map (·.size)=some row.length)
  (h:wpQuiet P ops C Q rest (a.put o.dst (.agg row.toArray))):wpQuiet P ops C Q (o::rest) a :=
 BigFrame.wpQuiet_want hw fun K hK=>⟨.agg row.toArray,fun w hw=>by
  unfold Oper.quietAt execOp
  simp only[ho,hx,Instr.loadAt,Instr.sureAddr,Sem.run_bind,Sem.run_pure,Result.andThen_ok,run_loadVar_mid w b off ty row d (hS w hw) hu hd hi]
  exact⟨rfl,rfl⟩,hK _ h⟩
end
def isOw{α:Type}(enc:α→List Value)(T size B n:Nat)(l:List α)(v:Value)(w:World):Prop:=∃ (a:Option Addr) (c:Nat),v=.slice a n c∧Own enc T size B w a c l
def entOw{α:Type}(enc:α→List Value)(T size B n:Nat)(l:List α):Ent Gr:=.of (isOw enc T size B n l) (fun _ _ _ g ⟨a,c,e,h⟩=>⟨a,c,e,h.to ⟨g⟩⟩)
