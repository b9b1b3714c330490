/- Regions that draw their order, walked once: the operations that are shown one by one (calls, new memory, loads), and the tail. -/
import Derived.Test.YtdijmbipcgalfaaGreatHStab2
import Derived.Test.YtdijmbipcgalfaaGreatHM0
namespace Go.Proofs.YtdijmbipcgalfaaGreat
set_option linter.unusedVariables false
open Go.ChangeShapes Go.WideShapes Go.ChangeAt Go.RowKit
variable {cs:List Value}{bb j k o:Nat}{T ty:TypeId}
section
variable {P:Program} {ops:Array Oper} {Q:Exit→Act→World→Prop} {b:Act} {w:World} {i:Nat} {G:Value→World→Prop}
def bR3(ops:Array Oper)(b:Act)(i:Nat):Option (FuncId × List Value) :=
 if Region.wanted (ah4 ops i) (yielded ops b.tmps)then(match (ah4 ops i).op with|.call { callee:=.value (.func f),args:=xs,argTypes:=_ }=>some (f,xs.toList.map b.eval)|_=>none)else none
def loadAt(ops:Array Oper)(b:Act)(i:Nat):Option (TypeId × Value) :=
 if Region.wanted (ah4 ops i) (yielded ops b.tmps)then(match (ah4 ops i).op with|.load t x=>some (t,b.eval x)|_=>none)else none
theorem aR7{f:FuncId}{fn:Func}{args:List Value}(hf:P.funcs[f]?=some fn)(hk:bR3 ops b i=some (f,args))(hn:(fn.name == "runtime.NumGoroutine" || fn.body.isNone)=false)
  (hc:Calls P f args.toArray w fun e w'=>∃ v,e=.returned v∧G v w'):U0 P ops (ah4 ops i) b w G:=by
 rw[Bool.or_eq_false_iff]at hn
 unfold bR3 at hk
 unfold U0
 split at hk
 case isFalse=>cases hk
 rename_i hw
 rw[if_pos hw]
 split at hk
 case h_2=>cases hk
 rename_i f' xs ts hop
 simp only[Option.some.injEq,Prod.mk.injEq]at hk
 obtain⟨rfl,rfl⟩:=hk
 rw[bf6 hop hf hn.1 hn.2]
 have:xs.map b.eval=(xs.toList.map b.eval).toArray:=by apply Array.ext';simp
 rw[this]
 exact hc
theorem bR7{B:Nat}{Fs:ai2 Gr}{val:Nat→Value}(he:U9 Fs k=Ent.box B cs T)(hr:aQ2 P ops b w i=some (.pointer (some ⟨w.heap.size,0,none⟩),w.alloc (.cells cs.toArray T)))(hB:B≤w.heap.size) :
  U0 P ops (ah4 ops i) b w (fun v w'=>(∃ y:b7 w,w'=y.w)∧ai8 Fs k val v w') :=
 aF9 hr ⟨b7.of,by unfold ai8;rw[he];exact⟨_,rfl,hB,j5.new w cs T _ rfl⟩⟩
theorem ca4{B n:Nat}{Fs:ai2 Gr}{val:Nat→Value}(he:U9 Fs k=Ent.sl B n cs T)(hr:aQ2 P ops b w i=some (.slice (some ⟨w.heap.size,0,none⟩) n n,w.alloc (.cells cs.toArray T)))(hB:B≤w.heap.size) :
  U0 P ops (ah4 ops i) b w (fun v w'=>(∃ y:b7 w,w'=y.w)∧ai8 Fs k val v w') :=
 aF9 hr ⟨b7.of,by unfold ai8;rw[he];exact⟨_,rfl,hB,j5.new w cs T _ rfl⟩⟩
theorem bu8{row:List Value}(H:j5 w bb cs T)(d:TypeDesc)(hu:P.underlying ty=some d)(hd:d.isRow=true)(hi:(P.info? ty).map (·.size)=some row.length)(hr:(cs.drop o).take row.length=row) :
  (Instr.loadAt ty (.pointer (some ⟨bb,o,none⟩))).run P w=.ok (.agg row.toArray) w:=by
 simp only[Instr.loadAt,Instr.sureAddr,Sem.run_bind,Sem.run_pure,Result.andThen_ok,run_loadVar_mid w bb o ty row d (H.range hr) hu hd hi]
theorem bI4{x v:Value}(hk:loadAt ops b i=some (ty,x))(hr:(Instr.loadAt ty x).run P w=.ok v w)(hG:G v w):U0 P ops (ah4 ops i) b w G:=by
 unfold loadAt at hk
 unfold U0
 split at hk
 case isFalse=>cases hk
 rename_i hw
 rw[if_pos hw]
 split at hk
 case h_2=>cases hk
 rename_i t y hop
 simp only[Option.some.injEq,Prod.mk.injEq]at hk
 obtain⟨rfl,rfl⟩:=hk
 unfold execOp
 simp only[hop,Sem.run_bind,hr,Result.andThen_ok,Sem.run_pure,aa4]
 exact hG
theorem bd2{row:List Value}{Fs:ai2 Gr}{val:Nat→Value}(H:j5 w bb cs T)(he:(U9 Fs k).fix=some fun _=>.agg row.toArray)(hk:loadAt ops b i=some (ty,.pointer (some ⟨bb,o,none⟩)))(d:TypeDesc)(hu:P.underlying ty=some d)(hd:d.isRow=true)
  (hi:(P.info? ty).map (·.size)=some row.length) (hr:(cs.drop o).take row.length=row):U0 P ops (ah4 ops i) b w (fun v w'=>(∃ y:b7 w,w'=y.w)∧ai8 Fs k val v w') :=
 bI4 hk (bu8 H d hu hd hi hr) ⟨b7.of,by unfold ai8;rw[he]⟩
theorem am3{v:Value}{Fs:ai2 Gr}{val:Nat→Value}(hc:w.cell? ⟨bb,o,none⟩=some v)(he:(U9 Fs k).fix=some fun _=>v)(hk:loadAt ops b i=some (ty,.pointer (some ⟨bb,o,none⟩)))(d:TypeDesc)(hu:P.underlying ty=some d)(hd:d.isRow=false) :
  U0 P ops (ah4 ops i) b w (fun v w'=>(∃ y:b7 w,w'=y.w)∧ai8 Fs k val v w'):=by
 refine bI4 hk (v:=v) ?_ ⟨b7.of,by unfold ai8;rw[he]⟩
 have hagg:(isAgg ty).run P w=.ok false w:=by
  unfold isAgg
  rw[Sem.run_bind,run_underlying hu w]
  cases d<;>simp_all [TypeDesc.isRow]
 simp[Instr.loadAt,Instr.sureAddr,Sem.run_bind,loadVar,hagg,go_sem,hc]
def ca6(ops:Array Oper)(b:Act)(i:Nat):Option (TypeId × Value × Value) :=
 if Region.wanted (ah4 ops i) (yielded ops b.tmps)then(match (ah4 ops i).op with|.indexAddr t x j=>some (t,b.eval x,b.eval j)|_=>none)else none
theorem bI3{n c size:Nat}{t:TypeId}{Fs:ai2 Gr}{val:Nat→Value}(he:(U9 Fs k).fix=some fun _=>.pointer (some ⟨bb,o+j*size,none⟩))(hk:ca6 ops b i=some (t,.slice (some ⟨bb,o,none⟩) n c,I j))(hu:P.underlying t=some (.slice (P.elem t)))(hz:(P.info? (P.elem t)).map (·.size)=some size)(hj:j<n) :
  U0 P ops (ah4 ops i) b w (fun v w'=>(∃ y:b7 w,w'=y.w)∧ai8 Fs k val v w'):=by
 unfold ca6 at hk
 unfold U0
 split at hk
 case isFalse=>cases hk
 rename_i hw
 rw[if_pos hw]
 split at hk
 case h_2=>cases hk
 rename_i t' x y hop
 simp only[Option.some.injEq,Prod.mk.injEq]at hk
 obtain⟨rfl,hx,hy⟩:=hk
 obtain⟨ti,hti,hs⟩:=Option.map_eq_some_iff.1 hz
 have hsz:(sizeOf (P.elem t')).run P w=.ok size w:=by simp[sizeOf,typeInfo,hti,hs]
 have e:(⟨bb,o,none⟩:Addr).add (j*size)=⟨bb,o+j*size,none⟩:=by
  unfold Addr.add;split
  ·rename_i h;rw[h,Nat.add_zero]
  ·rfl
 unfold execOp
 have hj':(0:Int)≤j∧(j:Int)<n:=⟨by omega,by omega⟩
 simp only[hop,Sem.run_bind,hx,hy,run_indexAt_slice (h:=hu),if_pos hj',hsz,Int.toNat_natCast,e,Result.andThen_ok,Sem.run_pure,aa4]
 refine⟨b7.of,?_⟩
 unfold ai8
 rw[he]
theorem aF1{R:World→World→Prop}{Fs:ai2 R}{val:Nat→Value}{a:Act}{o:Oper}(ho:ops[i]?=some o)(h:wpList P ops Q [o] (aH4 Fs 0 val a) w):ak8 Fs w (fun val=>wpOps P ops Q [i] (aH4 Fs 0 val a) w) [] val:=by
 simpa only[ak8,wpOps,wpList,ho]using h
theorem bX8{R:World→World→Prop}{Fs:ai2 R}{val:Nat→Value}{a:Act}{o o':Oper}(ho:ops[i]?=some o)(ho':ops[j]?=some o')(h:wpList P ops Q [o,o'] (aH4 Fs 0 val a) w):ak8 Fs w (fun val=>wpOps P ops Q [i,j] (aH4 Fs 0 val a) w) [] val:=by
 simpa only[ak8,wpOps,wpList,ho,ho']using h
theorem cb2{R:World→World→Prop}{Fs:ai2 R}{val:Nat→Value}{a:Act}{l:Nat}{o o' o2 o3:Oper}(ho:ops[i]?=some o)(ho':ops[j]?=some o')(h2:ops[k]?=some o2)(h3:ops[l]?=some o3)(h:wpList P ops Q [o,o',o2,o3] (aH4 Fs 0 val a) w):ak8 Fs w (fun val=>wpOps P ops Q [i,j,k,l] (aH4 Fs 0 val a) w) [] val:=by
 simpa only[ak8,wpOps,wpList,ho,ho',h2,h3]using h
end
theorem ag8{R:World→World→Prop}:(∀ (k:Nat) (val:Nat→Value) (a:Act),aH4 (R:=R) [] k val a=a)∧(∀ (d:Option Tmp) (e:Ent R) (r:ai2 R) (k:Nat) (val:Nat→Value) (a:Act),aH4 ((d,e)::r) k val a=aH4 r (k+1) val (a.put d (e.out val k))) ∧
  (∀ (v:Value) (val:Nat→Value) (k:Nat),(Ent.v (R:=R) v).out val k=v)∧(∀ (js:List Nat) (g:List Value→Value) (val:Nat→Value) (k:Nat),(Ent.fn (R:=R) js g).out val k=g (js.map val)) ∧
  (∀ p h (val:Nat→Value) (k:Nat),(Ent.of (R:=R) p h).out val k=val k)∧(∀ (p:Value→Prop) (val:Nat→Value) (k:Nat),(Ent.is (R:=R) p).out val k=val k) :=
 ⟨fun _ _ _=>rfl,fun _ _ _ _ _ _=>rfl,fun _ _ _=>rfl,fun _ _ _ _=>rfl,fun _ _ _ _=>rfl,fun _ _ _=>rfl⟩
theorem ae9:(∀ B cs T (val:Nat→Value) (k:Nat),(Ent.box B cs T).out val k=val k)∧(∀ B n cs T (val:Nat→Value) (k:Nat),(Ent.sl B n cs T).out val k=val k) ∧
  (∀ (i:Nat) (v:Value) (val:Nat→Value) (k:Nat),upd i v val k=if k=i then v else val k) :=
 ⟨fun _ _ _ _ _=>rfl,fun _ _ _ _ _ _=>rfl,fun _ _ _ _=>rfl⟩
