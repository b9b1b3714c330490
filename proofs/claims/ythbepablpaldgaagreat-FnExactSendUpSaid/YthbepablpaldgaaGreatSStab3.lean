/- Regions that draw their order, walked once: the operations that are shown one by one (calls, new memory, loads), and the tail. -/
import Derived.Test.YthbepablpaldgaaGreatSStab2
import Derived.Test.YthbepablpaldgaaGreatSM7
namespace Go.Proofs.YthbepablpaldgaaGreat
set_option linter.unusedVariables false
open Go.ChangeShapes Go.WideShapes Go.ChangeAt Go.RowKit
section
variable {P:Program} {ops:Array Oper} {Q:Exit→Act→World→Prop} {b:Act} {w:World} {i:Nat} {G:Value→World→Prop}
def callAt(ops:Array Oper)(b:Act)(i:Nat):Option (FuncId × List Value) :=
 if Region.wanted (opAt ops i) (yielded ops b.tmps)then(match (opAt ops i).op with|.call { callee:=.value (.func f),args:=xs,argTypes:=_ }=>some (f,xs.toList.map b.eval)|_=>none)else none
def loadAt(ops:Array Oper)(b:Act)(i:Nat):Option (TypeId × Value) :=
 if Region.wanted (opAt ops i) (yielded ops b.tmps)then(match (opAt ops i).op with|.load t x=>some (t,b.eval x)|_=>none)else none
theorem g_call{f:FuncId}{fn:Func}{args:List Value}(hf:P.funcs[f]?=some fn)(hk:callAt ops b i=some (f,args))(hn:(fn.name == "runtime.NumGoroutine" || fn.body.isNone)=false)
  (hc:Calls P f args.toArray w fun e w'=>∃ v,e=.returned v∧G v w'):gives P ops (opAt ops i) b w G:=by
 rw[Bool.or_eq_false_iff]at hn
 unfold callAt at hk
 unfold gives
 split at hk
 case isFalse=>cases hk
 rename_i hw
 rw[if_pos hw]
 split at hk
 case h_2=>cases hk
 rename_i f' xs ts hop
 simp only[Option.some.injEq,Prod.mk.injEq]at hk
 obtain⟨rfl,rfl⟩:=hk
 rw[run_call hop hf hn.1 hn.2]
 have:xs.map b.eval=(xs.toList.map b.eval).toArray:=by apply Array.ext';simp
 rw[this]
 exact hc
theorem g_box{B:Nat}{cs:List Value}{T:TypeId}{Fs:EntL Gr}{val:Nat→Value}{k:Nat}(he:entAt Fs k=Ent.box B cs T)(hr:runAt P ops b w i=some (.pointer (some ⟨w.heap.size,0,none⟩),w.alloc (.cells cs.toArray T)))(hB:B≤w.heap.size) :
  gives P ops (opAt ops i) b w (fun v w'=>(∃ y:Later w,w'=y.w)∧entP Fs k val v w') :=
 gives_run hr ⟨Later.of,by unfold entP;rw[he];exact⟨_,rfl,hB,Held.new w cs T _ rfl⟩⟩
theorem g_sl{B n:Nat}{cs:List Value}{T:TypeId}{Fs:EntL Gr}{val:Nat→Value}{k:Nat}(he:entAt Fs k=Ent.sl B n cs T)(hr:runAt P ops b w i=some (.slice (some ⟨w.heap.size,0,none⟩) n n,w.alloc (.cells cs.toArray T)))(hB:B≤w.heap.size) :
  gives P ops (opAt ops i) b w (fun v w'=>(∃ y:Later w,w'=y.w)∧entP Fs k val v w') :=
 gives_run hr ⟨Later.of,by unfold entP;rw[he];exact⟨_,rfl,hB,Held.new w cs T _ rfl⟩⟩
theorem run_loadHeld{bb o:Nat}{cs row:List Value}{T ty:TypeId}(H:Held w bb cs T)(d:TypeDesc)(hu:P.underlying ty=some d)(hd:d.isRow=true)(hi:(P.info? ty).map (·.size)=some row.length)(hr:(cs.drop o).take row.length=row) :
  (Instr.loadAt ty (.pointer (some ⟨bb,o,none⟩))).run P w=.ok (.agg row.toArray) w:=by
 simp only[Instr.loadAt,Instr.sureAddr,Sem.run_bind,Sem.run_pure,Result.andThen_ok,run_loadVar_mid w bb o ty row d (H.range hr) hu hd hi]
theorem run_loadOne{bb o:Nat}{cs:List Value}{v:Value}{T ty:TypeId}(H:Held w bb cs T)(hv:cs[o]?=some v)(d:TypeDesc)(hu:P.underlying ty=some d)(hd:d.isRow=false) :
  (Instr.loadAt ty (.pointer (some ⟨bb,o,none⟩))).run P w=.ok v w:=by
 have hagg:(isAgg ty).run P w=.ok false w:=by
  unfold isAgg
  rw[Sem.run_bind,run_underlying hu w]
  cases d<;>simp_all [TypeDesc.isRow]
 have hc:=H.cell o
 rw[hv]at hc
 simp[Instr.loadAt,Instr.sureAddr,Sem.run_bind,loadVar,hagg,go_sem,hc]
theorem g_load{x v:Value}{ty:TypeId}(hk:loadAt ops b i=some (ty,x))(hr:(Instr.loadAt ty x).run P w=.ok v w)(hG:G v w):gives P ops (opAt ops i) b w G:=by
 unfold loadAt at hk
 unfold gives
 split at hk
 case isFalse=>cases hk
 rename_i hw
 rw[if_pos hw]
 split at hk
 case h_2=>cases hk
 rename_i t y hop
 simp only[Option.some.injEq,Prod.mk.injEq]at hk
 obtain⟨rfl,rfl⟩:=hk
 unfold execOp
 simp only[hop,Sem.run_bind,hr,Result.andThen_ok,Sem.run_pure,givesUpon]
 exact hG
theorem g_row{bb o:Nat}{cs row:List Value}{T ty:TypeId}{Fs:EntL Gr}{val:Nat→Value}{k:Nat}(H:Held w bb cs T)(he:(entAt Fs k).fix=some fun _=>.agg row.toArray)(hk:loadAt ops b i=some (ty,.pointer (some ⟨bb,o,none⟩)))(d:TypeDesc)(hu:P.underlying ty=some d)(hd:d.isRow=true)
  (hi:(P.info? ty).map (·.size)=some row.length) (hr:(cs.drop o).take row.length=row):gives P ops (opAt ops i) b w (fun v w'=>(∃ y:Later w,w'=y.w)∧entP Fs k val v w') :=
 g_load hk (run_loadHeld H d hu hd hi hr) ⟨Later.of,by unfold entP;rw[he]⟩
theorem g_one{bb o:Nat}{cs:List Value}{v:Value}{T ty:TypeId}{Fs:EntL Gr}{val:Nat→Value}{k:Nat}(H:Held w bb cs T)(he:(entAt Fs k).fix=some fun _=>v)(hk:loadAt ops b i=some (ty,.pointer (some ⟨bb,o,none⟩)))(hv:cs[o]?=some v)(d:TypeDesc)(hu:P.underlying ty=some d)(hd:d.isRow=false) :
  gives P ops (opAt ops i) b w (fun v w'=>(∃ y:Later w,w'=y.w)∧entP Fs k val v w') :=
 g_load hk (run_loadOne H hv d hu hd) ⟨Later.of,by unfold entP;rw[he]⟩
theorem g_cell{bb o:Nat}{v:Value}{ty:TypeId}{Fs:EntL Gr}{val:Nat→Value}{k:Nat}(hc:w.cell? ⟨bb,o,none⟩=some v)(he:(entAt Fs k).fix=some fun _=>v)(hk:loadAt ops b i=some (ty,.pointer (some ⟨bb,o,none⟩)))(d:TypeDesc)(hu:P.underlying ty=some d)(hd:d.isRow=false) :
  gives P ops (opAt ops i) b w (fun v w'=>(∃ y:Later w,w'=y.w)∧entP Fs k val v w'):=by
 refine g_load hk (v:=v) ?_ ⟨Later.of,by unfold entP;rw[he]⟩
 have hagg:(isAgg ty).run P w=.ok false w:=by
  unfold isAgg
  rw[Sem.run_bind,run_underlying hu w]
  cases d<;>simp_all [TypeDesc.isRow]
 simp[Instr.loadAt,Instr.sureAddr,Sem.run_bind,loadVar,hagg,go_sem,hc]
def ixAt(ops:Array Oper)(b:Act)(i:Nat):Option (TypeId × Value × Value) :=
 if Region.wanted (opAt ops i) (yielded ops b.tmps)then(match (opAt ops i).op with|.indexAddr t x j=>some (t,b.eval x,b.eval j)|_=>none)else none
theorem g_ix{bb o n c j size:Nat}{t:TypeId}{Fs:EntL Gr}{val:Nat→Value}{k:Nat}(he:(entAt Fs k).fix=some fun _=>.pointer (some ⟨bb,o+j*size,none⟩))(hk:ixAt ops b i=some (t,.slice (some ⟨bb,o,none⟩) n c,.int .i64 j))(hu:P.underlying t=some (.slice (P.elem t)))(hz:(P.info? (P.elem t)).map (·.size)=some size)(hj:j<n) :
  gives P ops (opAt ops i) b w (fun v w'=>(∃ y:Later w,w'=y.w)∧entP Fs k val v w'):=by
 unfold ixAt at hk
 unfold gives
 split at hk
 case isFalse=>cases hk
 rename_i hw
 rw[if_pos hw]
 split at hk
 case h_2=>cases hk
 rename_i t' x y hop
 simp only[Option.some.injEq,Prod.mk.injEq]at hk
 obtain⟨rfl,hx,hy⟩:=hk
 obtain⟨ti,hti,hs⟩:=Option.map_eq_some_iff.1 hz
 have hsz:(sizeOf (P.elem t')).run P w=.ok size w:=by simp[sizeOf,typeInfo,hti,hs]
 have e:(⟨bb,o,none⟩:Addr).add (j*size)=⟨bb,o+j*size,none⟩:=by
  unfold Addr.add;split
  ·rename_i h;rw[h,Nat.add_zero]
  ·rfl
 unfold execOp
 have hj':(0:Int)≤j∧(j:Int)<n:=⟨by omega,by omega⟩
 simp only[hop,Sem.run_bind,hx,hy,run_indexAt_slice (h:=hu),if_pos hj',hsz,Int.toNat_natCast,e,Result.andThen_ok,Sem.run_pure,givesUpon]
 refine⟨Later.of,?_⟩
 unfold entP
 rw[he]
theorem g_fn{Fs:EntL Gr}{val:Nat→Value}{k:Nat}(he:(entAt Fs k).fix.isSome=true)(hr:runAt P ops b w i=some ((entAt Fs k).out val k,w)):gives P ops (opAt ops i) b w (fun v w'=>(∃ y:Later w,w'=y.w)∧entP Fs k val v w') :=
 gives_run hr ⟨Later.of,by
  unfold entP Ent.out
  cases hf:(entAt Fs k).fix with
  | none=>rw[hf]at he;cases he
  | some g=>rfl⟩
theorem tail1{R:World→World→Prop}{Fs:EntL R}{val:Nat→Value}{a:Act}{o:Oper}(ho:ops[i]?=some o)(h:wpList P ops Q [o] (putE Fs 0 val a) w):chain Fs w (fun val=>wpOps P ops Q [i] (putE Fs 0 val a) w) [] val:=by
 simpa only[chain,wpOps,wpList,ho]using h
theorem tail2{R:World→World→Prop}{Fs:EntL R}{val:Nat→Value}{a:Act}{j:Nat}{o o':Oper}(ho:ops[i]?=some o)(ho':ops[j]?=some o')(h:wpList P ops Q [o,o'] (putE Fs 0 val a) w):chain Fs w (fun val=>wpOps P ops Q [i,j] (putE Fs 0 val a) w) [] val:=by
 simpa only[chain,wpOps,wpList,ho,ho']using h
theorem tail3{R:World→World→Prop}{Fs:EntL R}{val:Nat→Value}{a:Act}{j k:Nat}{o o' o2:Oper}(ho:ops[i]?=some o)(ho':ops[j]?=some o')(h2:ops[k]?=some o2)(h:wpList P ops Q [o,o',o2] (putE Fs 0 val a) w):chain Fs w (fun val=>wpOps P ops Q [i,j,k] (putE Fs 0 val a) w) [] val:=by
 simpa only[chain,wpOps,wpList,ho,ho',h2]using h
end
theorem put_nrm{R:World→World→Prop}:(∀ (k:Nat) (val:Nat→Value) (a:Act),putE (R:=R) [] k val a=a)∧(∀ (d:Option Tmp) (e:Ent R) (r:EntL R) (k:Nat) (val:Nat→Value) (a:Act),putE ((d,e)::r) k val a=putE r (k+1) val (a.put d (e.out val k))) ∧
  (∀ (v:Value) (val:Nat→Value) (k:Nat),(Ent.v (R:=R) v).out val k=v)∧(∀ (js:List Nat) (g:List Value→Value) (val:Nat→Value) (k:Nat),(Ent.fn (R:=R) js g).out val k=g (js.map val)) ∧
  (∀ p h (val:Nat→Value) (k:Nat),(Ent.of (R:=R) p h).out val k=val k)∧(∀ (p:Value→Prop) (val:Nat→Value) (k:Nat),(Ent.is (R:=R) p).out val k=val k) :=
 ⟨fun _ _ _=>rfl,fun _ _ _ _ _ _=>rfl,fun _ _ _=>rfl,fun _ _ _ _=>rfl,fun _ _ _ _=>rfl,fun _ _ _=>rfl⟩
theorem put_nrm2:(∀ B cs T (val:Nat→Value) (k:Nat),(Ent.box B cs T).out val k=val k)∧(∀ B n cs T (val:Nat→Value) (k:Nat),(Ent.sl B n cs T).out val k=val k) ∧
  (∀ (i:Nat) (v:Value) (val:Nat→Value) (k:Nat),upd i v val k=if k=i then v else val k) :=
 ⟨fun _ _ _ _ _=>rfl,fun _ _ _ _ _ _=>rfl,fun _ _ _ _=>rfl⟩
