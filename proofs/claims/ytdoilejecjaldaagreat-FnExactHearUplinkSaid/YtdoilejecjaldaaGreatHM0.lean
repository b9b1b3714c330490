/- Words for walks: 'Later W' is a world that has grown out of W (below W's size nothing has turned); a contract that gives one value and a later world. -/
import Derived.Test.YtdoilejecjaldaaGreatRows
import Derived.WalkKit
import Derived.ProofKit
import Derived.OpenShut
import Derived.WalkLawsBesides
import Derived.WalkSpells
import Derived.Outline
import Derived.Deep.QuietTactic
import Derived.BigQuiet
import Derived.Lib.Hide
import Derived.Lib.SmallJoins
import Derived.Deep.Slices
import Derived.Laws.AppendOwnNone
import Derived.Deep.RegionLaw
import Derived.Lib.LazyBuf
import Derived.Deep.RegionHeld3
namespace Go.Proofs.YtdoilejecjaldaaGreat
set_option linter.unusedVariables false
open Go.ChangeShapes Go.WideShapes Go.ChangeAt Go.RowKit
structure b5(W:World) where
 w:World
 h:Below W.heap.size W w
namespace b5
variable {W:World}
def here(W:World):b5 W:=⟨W,Below.refl _ _⟩
instance:Nonempty (b5 W):=⟨here W⟩
def draw(x:b5 W):b5 W:=⟨x.w.drew,x.h.drew⟩
def andThen(x:b5 W)(y:b5 x.w):b5 W:=⟨y.w,x.h.trans (y.h.mono x.h.size)⟩
theorem bJ4{B:Nat}{w w':World}(h:Below B w w')(a:Addr)(v:Value):Below B (w.setCell a v) (w'.setCell a v):=by
 refine⟨h.os,h.tape,h.output,by simpa[World.setCell]using h.size,fun k hk=>?_⟩
 have:=h.block k hk
 simp only[World.setCell,Array.getElem?_modify,this]
def set(x:b5 W)(a:Addr)(v:Value):b5 (W.setCell a v):=⟨x.w.setCell a v,by
 have:=bJ4 x.h a v
 rwa[show(W.setCell a v).heap.size=W.heap.size from by simp]⟩
@[go_sem] theorem bV7(x:b5 W):x.w.drew=x.draw.w:=rfl
@[go_sem] theorem bS5(x:b5 W)(y:b5 x.w):y.w=(x.andThen y).w:=rfl
@[go_sem] theorem bT3(x:b5 W)(a:Addr)(v:Value):x.w.setCell a v=(x.set a v).w:=rfl
theorem size_le(x:b5 W):W.heap.size≤x.w.heap.size:=x.h.size
end b5
/-! ### Facts that are found by their form: by instances, not by simp's own side goals (which go two deep alone) -/
class LeN(a b:Nat):Prop where
 out:a≤b
class LtN(a b:Nat):Prop where
 out:a<b
instance(priority:=50) LeN.ofLt (a b:Nat)[h:LtN a b]:LeN a b:=⟨Nat.le_of_lt h.out⟩
instance LeN.same(a:Nat):LeN a a:=⟨Nat.le_refl _⟩
instance LeN.succ(a b:Nat)[h:LeN a b]:LeN a (b+1):=⟨Nat.le_succ_of_le h.out⟩
instance LeN.later(a:Nat){W:World}(x:b5 W)[h:LeN a W.heap.size]:LeN a x.w.heap.size:=⟨Nat.le_trans h.out x.size_le⟩
instance LeN.alloc(a:Nat)(W:World)(o:Obj)[h:LeN a W.heap.size]:LeN a (W.alloc o).heap.size:=⟨by have:=h.out;simp;omega⟩
instance LeN.setCell(a:Nat)(W:World)(p:Addr)(v:Value)[h:LeN a W.heap.size]:LeN a (W.setCell p v).heap.size:=⟨by simpa using h.out⟩
instance(priority:=900) LeN.andThen (a:Nat){W:World}(x:b5 W)(y:b5 x.w)[h:LeN a x.w.heap.size]:LeN a (x.andThen y).w.heap.size:=⟨Nat.le_trans h.out y.size_le⟩
instance LeN.allocS(a:Nat)(W:World)(o:Obj)[h:LeN a W.heap.size]:LeN (a+1) (W.alloc o).heap.size:=⟨by have:=h.out;simp;omega⟩
instance LeN.succS(a b:Nat)[h:LeN a b]:LeN (a+1) (b+1):=⟨Nat.succ_le_succ h.out⟩
instance LtN.allocS(a:Nat)(W:World)(o:Obj)[h:LtN a W.heap.size]:LtN (a+1) (W.alloc o).heap.size:=⟨by have:=h.out;simp;omega⟩
instance LtN.succS(a b:Nat)[h:LtN a b]:LtN (a+1) (b+1):=⟨Nat.succ_lt_succ h.out⟩
instance LtN.succ(a b:Nat)[h:LeN a b]:LtN a (b+1):=⟨Nat.lt_succ_of_le h.out⟩
instance LtN.later(a:Nat){W:World}(x:b5 W)[h:LtN a W.heap.size]:LtN a x.w.heap.size:=⟨Nat.lt_of_lt_of_le h.out x.size_le⟩
instance LtN.alloc(a:Nat)(W:World)(o:Obj)[h:LeN a W.heap.size]:LtN a (W.alloc o).heap.size:=⟨by have:=h.out;simp;omega⟩
instance LtN.setCell(a:Nat)(W:World)(p:Addr)(v:Value)[h:LtN a W.heap.size]:LtN a (W.setCell p v).heap.size:=⟨by simpa using h.out⟩
instance(priority:=900) LtN.andThen (a:Nat){W:World}(x:b5 W)(y:b5 x.w)[h:LtN a x.w.heap.size]:LtN a (x.andThen y).w.heap.size:=⟨Nat.lt_of_lt_of_le h.out y.size_le⟩
instance(priority:=800) LtN.andThen2 (a:Nat){W:World}(x:b5 W)(y:b5 x.w)[h:LtN a y.w.heap.size]:LtN a (x.andThen y).w.heap.size:=h
instance(priority:=800) LeN.andThen2 (a:Nat){W:World}(x:b5 W)(y:b5 x.w)[h:LeN a y.w.heap.size]:LeN a (x.andThen y).w.heap.size:=h
namespace b5
variable {W:World}
@[go_sem] theorem bV6(x:b5 W)(b o:Nat)[h:LtN b W.heap.size]:x.w.cell? ⟨b,o,none⟩=W.cell? ⟨b,o,none⟩:=x.h.cell (p:=⟨b,o,none⟩) h.out
@[go_sem] theorem bU0(x:b5 W)(b o:Nat)[h:LtN b W.heap.size]:x.w.frozen? ⟨b,o,none⟩=W.frozen? ⟨b,o,none⟩:=x.h.frozen (p:=⟨b,o,none⟩) h.out
@[go_sem] theorem cell_past(w:World)(o:Obj)(n i:Nat)[h:LtN n w.heap.size]:(w.alloc o).cell? ⟨n,i,none⟩=w.cell? ⟨n,i,none⟩:=World.cell?_alloc_past o n i h.out
@[go_sem] theorem frozen_past(w:World)(o:Obj)(n i:Nat)[h:LtN n w.heap.size]:(w.alloc o).frozen? ⟨n,i,none⟩=w.frozen? ⟨n,i,none⟩:=World.frozen?_alloc_past o n i h.out
@[go_sem] theorem bV1(w:World)(o:Obj)(n i:Nat)(v:Value)[h:LtN n w.heap.size]:(w.alloc o).setCell ⟨n,i,none⟩ v=(w.setCell ⟨n,i,none⟩ v).alloc o:=World.setCell_alloc_past o n i v h.out
@[go_sem] theorem bV9(x:b5 W)(b:Nat)[h:LtN b W.heap.size]:(b<x.w.heap.size)=True:=eq_true (Nat.lt_of_lt_of_le h.out x.h.size)
@[go_sem] theorem bV8(x:b5 W)(b:Nat)[h:LeN b W.heap.size]:(b≤x.w.heap.size)=True:=eq_true (Nat.le_trans h.out x.h.size)
end b5
class d5(w W:World):Prop where
 out:Below w.heap.size w W
instance d5.same(w:World):d5 w w:=⟨Below.refl _ _⟩
instance d5.alloc(w W:World)(o:Obj)[h:d5 w W]:d5 w (W.alloc o):=⟨h.out.alloc h.out.size o⟩
instance d5.later(w W:World)[h:d5 w W](x:b5 W):d5 w x.w:=⟨h.out.trans (x.h.mono h.out.size)⟩
instance d5.drew(w W:World)[h:d5 w W]:d5 w W.drew:=⟨h.out.drew⟩
instance d5.set(w W:World)(b i:Nat)(v:Value)[h:d5 w W][k:LeN w.heap.size b]:d5 w (W.setCell ⟨b,i,none⟩ v):=⟨h.out.setCell k.out v⟩
instance(priority:=900) d5.andThen (a:World){W:World}(x:b5 W)(y:b5 x.w)[h:d5 a x.w]:d5 a (x.andThen y).w:=⟨h.out.trans (y.h.mono h.out.size)⟩
instance(priority:=950) d5.andThenSelf {W:World}(x:b5 W)(y:b5 x.w):d5 y.w (x.andThen y).w:=⟨Below.refl _ _⟩
instance(priority:=50) LeN.grows (w W:World)[h:d5 w W]:LeN w.heap.size W.heap.size:=⟨h.out.size⟩
theorem b5.of{w W:World}[h:d5 w W]:∃ x:b5 w,W=x.w:=⟨⟨W,h.out⟩,rfl⟩
theorem j5{w:World}{b o:Nat}{v:Value}(hb:b<w.heap.size)(h:w.cell? ⟨b,o,none⟩=some v)(W:World)[g:d5 w W]:W.cell? ⟨b,o,none⟩=some v:=by
 rw[g.out.cell (p:=⟨b,o,none⟩) hb];exact h
def b4(w:World)(v:Value):Ending→World→Prop:=fun e w'=>e=.returned v∧∃ x:b5 w,w'=x.w
theorem b4.mk{w:World}{v u:Value}{w':World}(hv:u=v)[h:d5 w w']:b4 w v (.returned u) w':=⟨by rw[hv],⟨w',h.out⟩,rfl⟩
theorem b4.below{P:Program}{f:FuncId}{args:Array Value}{w:World}{v:Value}(h:Calls P f args w (b4 w v)) :
  Calls P f args w fun e w'=>e=.returned v∧Below w.heap.size w w' :=
 h.mono fun _ _ ⟨he,x,hx⟩=>⟨he,by rw[hx];exact x.h⟩
theorem b4.quiet{P:Program}{f:FuncId}{args:Array Value}{W:World}{x:b5 W}{v:Value}(h:Calls P f args x.w (b4 x.w v)) :
  Calls P f args x.w fun e w'=>e=.returned v∧∃ y:b5 W,w'=y.w :=
 h.mono fun _ _ ⟨he,y,hy⟩=>⟨he,x.andThen y,hy⟩
theorem bM3{P:Program}{id:Nat}{Q:Exit→Act→World→Prop}{a:Act}{W:World}{l:List Oper}(hm:P.follows .mixedOrders=true)(hB:Region.lexB .any l.toArray=true)
  (h:wpQuiet P l.toArray (fun w'=>∃ x:b5 W,w'=x.w) (fun a'=>∀ w',(∃ x:b5 W,w'=x.w)→Q .normal a' w') l a):(Code.region id l.toArray true).wp P Q a W :=
 wp_region_quiet (C:=fun w'=>∃ x:b5 W,w'=x.w) hm hB ⟨⟨_,(Below.refl _ W).drew⟩,rfl⟩ (by simpa using h)
theorem lH{p:Prop}(h:p):Hid p:=h
theorem nrm:(∀ (a:Act) (d:Nat) (v:Value),a.put (some d) v={ a with tmps:=a.tmps.setIfInBounds d v })∧(∀ (a:Act) (v:Value),a.put none v=a)∧(∀ (l:List Value) (i:Nat) (v:Value),l.toArray.setIfInBounds i v=(l.set i v).toArray)∧(∀ (l:List Bool) (i:Nat) (v:Bool),l.toArray.setIfInBounds i v=(l.set i v).toArray)∧(∀ (x:Value) (l:List Value) (i:Nat) (v:Value),(x::l).set (i+1) v=x::l.set i v)∧(∀ (x:Value) (l:List Value) (v:Value),(x::l).set 0 v=v::l)∧(∀ (x:Bool) (l:List Bool) (i:Nat) (v:Bool),(x::l).set (i+1) v=x::l.set i v)∧(∀ (x:Bool) (l:List Bool) (v:Bool),(x::l).set 0 v=v::l) :=
 ⟨fun _ _ _=>rfl,fun _ _=>rfl,fun _ _ _=>List.setIfInBounds_toArray ..,fun _ _ _=>List.setIfInBounds_toArray ..,fun _ _ _ _=>rfl,fun _ _ _=>rfl,fun _ _ _ _=>rfl,fun _ _ _=>rfl⟩
theorem kr{p:Prop}(h:p:=by kernel_rfl):p:=h
theorem sd{p:Prop}(h:p:=by first|assumption|(apply Sl.to<;>first|assumption|infer_instance)|omega):p:=h
theorem bk{p:Prop}(h:p:=by first|(refine W9 _ _ _ ?_;(first|rfl|(simp;done)))|(refine blk_past (W9 _ _ _ ?_);(first|rfl|(simp;done)))|(refine blk_later _ (W9 _ _ _ ?_);(first|rfl|(simp;done)))|(refine blk_later _ (blk_past (W9 _ _ _ ?_));(first|rfl|(simp;done)))|(refine blk_past (blk_past (W9 _ _ _ ?_));(first|rfl|(simp;done)))|assumption):p:=h
theorem kg{p:Prop}(h:p:=by first|kernel_rfl|go_simp):p:=h
theorem nl{n:Nat}:n≤n:=Nat.le_refl n
theorem nb{n m:Nat}(h:Nat.ble n m=true:=by exact rfl):n≤m:=Nat.le_of_ble_eq_true h
theorem dt{α:Type}{l:List α}:(l.drop 0).take l.length=l:=by rw[List.drop_zero,List.take_length]
abbrev ii:=@inferInstance.{0}
theorem rl{P:Program}{id:Nat}{Q:Exit→Act→World→Prop}{a:Act}{W:World}{l:List Oper}(h:wpQuiet P l.toArray (fun w'=>∃ x:b5 W,w'=x.w) (fun a'=>∀ x:b5 W,Q .normal a' x.w) l a)(hm:P.follows .mixedOrders=true:=by kernel_rfl)(hB:Region.lexB .any l.toArray=true:=by kernel_rfl):(Code.region id l.toArray true).wp P Q a W:=wp_region_quiet (C:=fun w'=>∃ x:b5 W,w'=x.w) hm hB ⟨⟨_,(Below.refl _ W).drew⟩,rfl⟩ (by
 have h2:(fun a'=>∀ x:b5 W,Q .normal a' x.w)=(fun a'=>∀ w',(∃ x:b5 W,w'=x.w)→Q .normal a' w'):=funext fun a'=>propext ⟨fun h w' ⟨x,e⟩=>e▸h x,fun h x=>h _ ⟨x,rfl⟩⟩
 rw[h2]at h
 simpa using h)
theorem rq{P:Program}{ops:Array Oper}{C:World→Prop}{Q:Act→Prop}{l:List Oper}{a:Act}{R:Prop}(k:R)(h:R→wpQuiet P ops C Q l a:=by intro K;(repeat(first|go_big_quiet_step (first|fail)));refine wpQuiet_nil ?_;exact K):wpQuiet P ops C Q l a:=h k
theorem gm{P:Program}{f:FuncId}{args:Array Value}{w:World}{v:Value}{R:Ending→World→Prop}(h:Calls P f args w (b4 w v))(k:∀ x:b5 w,R (.returned v) x.w):Calls P f args w R:=h.mono fun _ _ ⟨e,x,hx⟩=>by rw[e,hx];exact k x
theorem own:ownKnob Tryz.prog.godebug=none:=by kernel_rfl
theorem bH3:laidOutB Tryz.prog=true:=by kernel_rfl
theorem aI7{H:Type}{enc:TypeId × Value→H}{P:Program}(hl:laidOutB P=true){W W':World}(hb:Below W.heap.size W W') :
  ∀ {ts:List TypeId} {vs:List Value} {ds:List (DataW H)} {ps:List MemPlace},(∀ t∈ts,P.readableRec t=true∧t<P.types.size) →
  DataW.TrodAll enc P W 0 (fun _=>true) true ts vs ds ps→(∀ x∈ps,x.block<W.heap.size) →
  DataW.TrodAll enc P W' 0 (fun b=>decide (b<W.heap.size)) true ts vs ds ps
 | [],_,_,_,_,h,_=>by
  obtain⟨rfl,rfl,rfl⟩:=trodAll_nil h
  exact trodAll_mk0
 | t::ts,vs,ds,ps,ht,h,hp=>by
  obtain⟨v,vs',d,ds',p,q,rfl,rfl,rfl,h1,h2⟩:=trodAll_cons h
  have a:=ht t (by simp)
  exact trodAll_cons_mk (Below.trod hl a.1 a.2 h1 hb (fun x hx=>hp x (by simp[hx]))) (aI7 hl hb (fun u hu=>ht u (by simp[hu])) h2 (fun x hx=>hp x (by simp[hx])))
theorem bN3{H:Type}{enc:TypeId × Value→H}{P:Program}{f:Func}{s:ChangeSpec}{fresh:Bool}{W W':World}{args:Array Value}{ds:List (DataW H)}{before:List MemPlace}{bt:TypeId}
  (hl:laidOutB P=true) (hts0:(f.params.toList.all fun t=>P.readableRec t && decide (t<P.types.size))=true)
  (hv:s.vars=[]) (hfn:s.fn H (ds++[])={ results:=[.lit (.bool true)],args:=ds }) (hr:f.resultTypes=#[bt]) (hbt:P.underlying bt=some .bool)
  (hW:DataW.Whole enc P f.params.toList s.vars false W args.toList ds [] before) (hb:Below W.heap.size W W') :
  s.post enc P f false fresh false false W args (.bool true) W':=by
 have hts:∀ t∈f.params.toList,P.readableRec t=true∧t<P.types.size:=fun t ht=>by
  have:=List.all_eq_true.1 hts0 t ht
  simpa using this
 have hW':=hW
 obtain⟨p,q,hA,hV,rfl,hfz,hnd⟩:=hW
 rw[hv]at hV
 obtain⟨_,rfl⟩:=trodVars_none hV
 refine⟨ds,[],p++[],[],p,[],hW',?_,?_,?_,hb.frame _,fun h=>by cases h⟩
 ·rw[hfn,hr]
  exact trodAll_cons_mk (shut_bool hbt _) trodAll_mk0
 ·rw[hfn]
  exact aI7 hl hb hts hA (DataW.TrodAll.lt hA)
 ·rw[hv,hfn]
  rfl
def i64(n:Int):Prop:=-9223372036854775808≤n∧n≤9223372036854775807
theorem bS7{n:Int}(h:(Lit.int .i64 n).wf=true):i64 n:=by
 simp[Lit.wf,IntKind.min,IntKind.max,IntKind.signed,IntKind.bits]at h
 exact h
def Sl{α:Type}(enc:α→List Value)(w:World)(a:Option Addr)(l:List α):Prop :=
 ∀ (i:Nat) (x:α),l[i]?=some x→∃ b off,a=some ⟨b,off,none⟩∧b<w.heap.size∧∀ (j:Nat) (v:Value),(enc x)[j]?=some v→w.cell? ⟨b,off+i*(enc x).length+j,none⟩=some v
theorem Sl.later{α:Type}{enc:α→List Value}{W:World}{a:Option Addr}{l:List α}(h:Sl enc W a l)(x:b5 W):Sl enc x.w a l:=fun i y hy=>by
 obtain⟨b,off,rfl,hb,hc⟩:=h i y hy
 exact⟨b,off,rfl,Nat.lt_of_lt_of_le hb x.size_le,fun j v hv=>by rw[x.h.cell (p:=⟨b,_,none⟩) hb];exact hc j v hv⟩
theorem Sl.alloc{α:Type}{enc:α→List Value}{W:World}{a:Option Addr}{l:List α}(h:Sl enc W a l)(o:Obj):Sl enc (W.alloc o) a l:=fun i y hy=>by
 obtain⟨b,off,rfl,hb,hc⟩:=h i y hy
 exact⟨b,off,rfl,by simp;omega,fun j v hv=>by rw[World.cell?_alloc_past o b _ hb];exact hc j v hv⟩
theorem ah0{α:Type}{l:List α}{k:Nat}(hk:k<l.length):∃ x,l[k]?=some x∧Hid (l.drop k=x::l.drop (k+1)):=⟨l[k],List.getElem?_eq_getElem hk,List.drop_eq_getElem_cons hk⟩
theorem b5.cast{W W':World}(h:W=W')(x:b5 W):∃ y:b5 W',x.w=y.w:=by subst h;exact⟨x,rfl⟩
theorem b5.set_at{W:World}{C:Array Value}{T:TypeId}(x:b5 (W.alloc (.cells C T)))(i:Nat)(v:Value) :
  ∃ y:b5 (W.alloc (.cells (C.setIfInBounds i v) T)),(x.set ⟨W.heap.size,i,none⟩ v).w=y.w :=
 b5.cast (World.setCell_alloc_at C T _ i v rfl) _
theorem b5.set2_at{W:World}{C:Array Value}{T:TypeId}(x:b5 (W.alloc (.cells C T)))(i i':Nat)(v v':Value) :
  ∃ y:b5 (W.alloc (.cells ((C.setIfInBounds i v).setIfInBounds i' v') T)),((x.set ⟨W.heap.size,i,none⟩ v).set ⟨W.heap.size,i',none⟩ v').w=y.w :=
 b5.cast (by rw[World.setCell_alloc_at C T _ i v rfl,World.setCell_alloc_at _ T _ i' v' rfl]) _
theorem ao8{P:Program}{t e size bytes:Nat}{z:Value}(h1:P.underlying t=some (.slice e))(h2:(P.info? e).map (fun i=>(i.zero,i.size,i.bytes))=some (some z,size,bytes))(n:Nat)
  (hb:bytes*n≤281474976710656) (hn:n≤1000000000000) :
  ∃ C:Array Value,C=madeCells z.cells (n*size)∧∀ w:World,(Instr.makeSlice t (.int .i64 n) (.int .i64 n)).run P w=.ok (.slice (some ⟨w.heap.size,0,none⟩) n n) (w.alloc (.cells C e)):=by
 refine⟨_,rfl,fun w=>?_⟩
 obtain⟨i,hi,h3⟩:=Option.map_eq_some_iff.1 h2
 simp only[Prod.mk.injEq]at h3
 obtain⟨h4,h5,h6⟩:=h3
 have:=run_make (P:=P) w t e i z h1 hi h4 .i64 .i64 (n:Int) (n:Int) (by omega) (by omega) (by rw[h6];omega) (by omega)
 simpa[h5]using this
theorem L9{C:Array Value}{i m:Nat}(h:C.size=m)(hi:i<m):∃ v,C[i]?=some v:=⟨C[i],Array.getElem?_eq_getElem (by omega)⟩
def Own{α:Type}(enc:α→List Value)(T size B:Nat)(w:World)(a:Option Addr)(c:Nat)(l:List α):Prop :=
 (∀ x:α,(enc x).length=size)∧w.ownsRow B T size (.slice a l.length c) l.length (l.flatMap enc)
theorem F8{α:Type}{enc:α→List Value}{size:Nat}(h:∀ x:α,(enc x).length=size)(l:List α):(l.flatMap enc).length=l.length*size:=by
 induction l with
 | nil=>simp
 | cons x l ih=>simp[List.flatMap_cons,h,ih,Nat.add_mul];omega
theorem af6{α:Type}{enc:α→List Value}{size:Nat}(h:∀ x:α,(enc x).length=size):∀ (l:List α) (i j:Nat) (x:α) (v:Value),l[i]?=some x→(enc x)[j]?=some v→(l.flatMap enc)[i*size+j]?=some v
 | [],i,j,x,v,hi,_=>by simp at hi
 | y::l,0,j,x,v,hi,hj=>by
  simp only[List.getElem?_cons_zero,Option.some.injEq]at hi
  subst hi
  have:j<(enc y).length:=(List.getElem?_eq_some_iff.1 hj).1
  rw[List.flatMap_cons,Nat.zero_mul,Nat.zero_add,List.getElem?_append_left this,hj]
 | y::l,i+1,j,x,v,hi,hj=>by
  have hh:=af6 h l i j x v (by simpa using hi) hj
  rw[List.flatMap_cons,List.getElem?_append_right (by rw[h];rw[Nat.add_mul];omega),h]
  rw[show(i+1)*size+j - size=i*size+j from by rw[Nat.add_mul];omega,hh]
theorem Own.sl{α:Type}{enc:α→List Value}{T size B:Nat}{w:World}{a:Option Addr}{c:Nat}{l:List α}(h:Own enc T size B w a c l):Sl enc w a l:=by
 intro i x hx
 obtain⟨hsz,hlen,h1|⟨g,cap,cur,hv,hg,hh,hn,hc,hcs,ht⟩⟩:=h
 ·have:i<l.length:=(List.getElem?_eq_some_iff.1 hx).1
  omega
 ·simp only[Value.slice.injEq]at hv
  obtain⟨rfl,-,rfl⟩:=hv
  have hi:i<l.length:=(List.getElem?_eq_some_iff.1 hx).1
  have hlt:g<w.heap.size:=by
   have:=(Array.getElem?_eq_some_iff.1 hh).1
   exact this
  refine⟨g,0,rfl,hlt,fun j v hj=>?_⟩
  have h3:=af6 hsz l i j x v hx hj
  rw[← ht,List.getElem?_take]at h3
  split at h3
  ·have h4:cur[i*size+j]?=some v:=by rw[← Array.getElem?_toList];exact h3
   simp only[World.cell?,hh,hsz,Nat.zero_add]
   simpa using h4
  ·cases h3
theorem Own.cap{α:Type}{enc:α→List Value}{T size B:Nat}{w:World}{a:Option Addr}{c:Nat}{l:List α}(h:Own enc T size B w a c l):l.length≤c:=by
 obtain⟨-,-,⟨h1,h2⟩|⟨g,cap,cur,hv,-,-,hn,-⟩⟩:=h
 ·omega
 ·simp only[Value.slice.injEq]at hv;omega
theorem aF1{W:World}{B e size n:Nat}{v:Value}{xs:List Value}(h:W.ownsRow B e size v n xs)(x:b5 W):x.w.ownsRow B e size v n xs:=by
 obtain⟨h1,h2⟩:=h
 refine⟨h1,?_⟩
 rcases h2 with h2|⟨g,cap,cur,hv,hg,hh,r⟩
 ·exact .inl h2
 ·exact .inr ⟨g,cap,cur,hv,hg,by rw[x.h.block g (Array.getElem?_eq_some_iff.1 hh).1];exact hh,r⟩
theorem Own.later{α:Type}{enc:α→List Value}{T size B:Nat}{W:World}{a:Option Addr}{c:Nat}{l:List α}(h:Own enc T size B W a c l)(x:b5 W):Own enc T size B x.w a c l:=⟨h.1,aF1 h.2 x⟩
theorem Own.alloc{α:Type}{enc:α→List Value}{T size B:Nat}{W:World}{a:Option Addr}{c:Nat}{l:List α}(h:Own enc T size B W a c l)(o:Obj):Own enc T size B (W.alloc o) a c l :=
 h.later ⟨W.alloc o,(Below.refl _ _).alloc nl o⟩
theorem Own.mono{α:Type}{enc:α→List Value}{T size B B':Nat}{W:World}{a:Option Addr}{c:Nat}{l:List α}(h:Own enc T size B W a c l)(hB:B'≤B):Own enc T size B' W a c l:=by
 obtain⟨h0,h1,h2|⟨g,cap,cur,hv,hg,r⟩⟩:=h
 ·exact⟨h0,h1,.inl h2⟩
 ·exact⟨h0,h1,.inr ⟨g,cap,cur,hv,Nat.le_trans hB hg,r⟩⟩
def N0{α:Type}(enc:α→List Value)(T size:Nat)(w:World)(l:List α):Ending→World→Prop:=fun e w'=>∃ a c,e=.returned (.slice a l.length c)∧Own enc T size w.heap.size w' a c l∧∃ x:b5 w,w'=x.w
theorem bk7{α:Type}{enc:α→List Value}{T size n B:Nat}{W:World}{D:Array Value}{l:List α}(hsz:∀ x:α,(enc x).length=size)(hn:l.length=n)(hm:n≤1000000000000)(hB:B≤W.heap.size)
  (hD:D.size=n*size) (ht:D.toList=l.flatMap enc) (x:b5 (W.alloc (.cells D T))):Own enc T size B x.w (some ⟨W.heap.size,0,none⟩) n l:=by
 refine⟨hsz,by rw[F8 hsz],.inr ⟨W.heap.size,n,D,by rw[hn],hB,?_,by omega,by unfold maxLen;omega,hD,?_⟩⟩
 ·rw[x.h.block _ (by simp)]
  show(W.heap.push _)[W.heap.size]?=_
  simp
 ·rw[← ht,List.take_of_length_le (by simp[hD,hn])]
theorem Sl.to{α:Type}{enc:α→List Value}{W W':World}{a:Option Addr}{l:List α}(h:Sl enc W a l)(g:d5 W W'):Sl enc W' a l:=h.later ⟨W',g.out⟩
theorem Own.to{α:Type}{enc:α→List Value}{T size B:Nat}{W W':World}{a:Option Addr}{c:Nat}{l:List α}(h:Own enc T size B W a c l)(g:d5 W W'):Own enc T size B W' a c l:=h.later ⟨W',g.out⟩
theorem b5.set1_at{W:World}{C:Array Value}{T:TypeId}(x:b5 (W.alloc (.cells C T)))(i:Nat)(v:Value) :
  ∃ y:b5 (W.alloc (.cells (C.setIfInBounds i v) T)),(x.set ⟨W.heap.size,i,none⟩ v).w=y.w:=x.set_at i v
theorem b5.set3_at{W:World}{C:Array Value}{T:TypeId}(x:b5 (W.alloc (.cells C T)))(i i' i2:Nat)(v v' v2:Value) :
  ∃ y:b5 (W.alloc (.cells (((C.setIfInBounds i v).setIfInBounds i' v').setIfInBounds i2 v2) T)),(((x.set ⟨W.heap.size,i,none⟩ v).set ⟨W.heap.size,i',none⟩ v').set ⟨W.heap.size,i2,none⟩ v2).w=y.w :=
 b5.cast (by rw[World.setCell_alloc_at C T _ i v rfl,World.setCell_alloc_at _ T _ i' v' rfl,World.setCell_alloc_at _ T _ i2 v2 rfl]) _
theorem b5.set4_at{W:World}{C:Array Value}{T:TypeId}(x:b5 (W.alloc (.cells C T)))(i i' i2 i3:Nat)(v v' v2 v3:Value) :
  ∃ y:b5 (W.alloc (.cells ((((C.setIfInBounds i v).setIfInBounds i' v').setIfInBounds i2 v2).setIfInBounds i3 v3) T)),((((x.set ⟨W.heap.size,i,none⟩ v).set ⟨W.heap.size,i',none⟩ v').set ⟨W.heap.size,i2,none⟩ v2).set ⟨W.heap.size,i3,none⟩ v3).w=y.w :=
 b5.cast (by rw[World.setCell_alloc_at C T _ i v rfl,World.setCell_alloc_at _ T _ i' v' rfl,World.setCell_alloc_at _ T _ i2 v2 rfl,World.setCell_alloc_at _ T _ i3 v3 rfl]) _
def inB(x lo hi:Int):Bool:=decide (lo≤x) && decide (x≤hi)
theorem D6{x lo hi:Int}:inB x lo hi=true↔lo≤x∧x≤hi:=by simp[inB]
theorem d8{x lo hi:Int}{w:World} :
  Calls Tryz.prog 73 #[.int .i64 x,.int .i64 lo,.int .i64 hi] w (b4 w (.bool (inB x lo hi))):=by
 by_cases h1:lo≤x
 ·go_enter Tryz.func73,Tryz.ntmps73
  go_wp2
  go_ret
  exact b4.mk (by simp[inB,h1])
 ·have h2:decide (lo≤x)=false:=by simpa using h1
  go_enter Tryz.func73,Tryz.ntmps73
  go_wp2
  go_ret
  exact b4.mk (by simp[inB,h2])
theorem d6{x lo hi:Int}{w:World} :
  Calls Tryz.prog 114 #[.int .i64 x,.int .i64 lo,.int .i64 hi] w (b4 w (.bool (inB x lo hi))):=by
 by_cases h1:lo≤x
 ·go_enter Tryz.func114,Tryz.ntmps114
  go_wp2
  go_ret
  exact b4.mk (by simp[inB,h1])
 ·have h2:decide (lo≤x)=false:=by simpa using h1
  go_enter Tryz.func114,Tryz.ntmps114
  go_wp2
  go_ret
  exact b4.mk (by simp[inB,h2])
/-! ### Drift, BoardTime -/
def au8(r o:Int):Bool:=inB r (-100) 100 && inB o 0 1000
theorem bA2{r o:Int}{w:World} :
  Calls Tryz.prog 74 #[.agg #[.int .i64 r,.int .i64 o]] w (b4 w (.bool (au8 r o))):=by
 cases h1:inB r (-100) 100
 all_goals
  go_enter Tryz.func74,Tryz.ntmps74
  go_wp2_with (first|(go_at_call 73;refine gm (d8) ?_;intro x))
  go_ret
  exact b4.mk (by simp[au8,h1])
theorem bz8{r o:Int}{w:World} :
  Calls Tryz.prog 115 #[.agg #[.int .i64 r,.int .i64 o]] w (b4 w (.bool (au8 r o))):=by
 cases h1:inB r (-100) 100
 all_goals
  go_enter Tryz.func115,Tryz.ntmps115
  go_wp2_with (first|(go_at_call 114;refine gm (d6) ?_;intro x))
  go_ret
  exact b4.mk (by simp[au8,h1])
def aE1(r o t:Int):Int:=if (au8 r o && inB t 0 1000000)=true then t+o+t*r / 1000 else -1
theorem bW0{t r:Int}(h:0≤t)(h':t≤1000000)(k:-100≤r)(k':r≤100):-100000000≤t*r∧t*r≤100000000:=by
 constructor
 ·have:=Int.mul_le_mul_of_nonneg_left k h
  omega
 ·have:=Int.mul_le_mul_of_nonneg_left k' h
  omega
/-! ### TicksDue -/
def bV2(r o t:Int):Int:=if (inB t 0 999999 && au8 r o)=true then aE1 r o (t+1) - aE1 r o t else 0
def az3(p s l:Int):Bool:=inB p 1 1000 && (inB s 0 (p - 1) && inB l 1 p)
theorem bA3{p s l:Int}{w:World} :
  Calls Tryz.prog 75 #[.agg #[.int .i64 p,.int .i64 s,.int .i64 l]] w (b4 w (.bool (az3 p s l))):=by
 cases h1:inB p 1 1000
 ·go_enter Tryz.func75,Tryz.ntmps75
  go_wp2_with (first|(go_at_call 73;refine gm (d8) ?_;intro x))
  go_ret
  exact b4.mk (by simp[az3,h1])
 ·have⟨k1,k2⟩:=D6.1 h1
  cases h2:inB s 0 (p - 1)
  all_goals
   go_enter Tryz.func75,Tryz.ntmps75
   go_wp2_with (first|(go_at_call 73;refine gm (d8) ?_;intro x))
   go_ret
   exact b4.mk (by simp[az3,h1,h2])
theorem bz9{p s l:Int}{w:World} :
  Calls Tryz.prog 116 #[.agg #[.int .i64 p,.int .i64 s,.int .i64 l]] w (b4 w (.bool (az3 p s l))):=by
 cases h1:inB p 1 1000
 ·go_enter Tryz.func116,Tryz.ntmps116
  go_wp2_with (first|(go_at_call 114;refine gm (d6) ?_;intro x))
  go_ret
  exact b4.mk (by simp[az3,h1])
 ·have⟨k1,k2⟩:=D6.1 h1
  cases h2:inB s 0 (p - 1)
  all_goals
   go_enter Tryz.func116,Tryz.ntmps116
   go_wp2_with (first|(go_at_call 114;refine gm (d6) ?_;intro x))
   go_ret
   exact b4.mk (by simp[az3,h1,h2])
inductive Cd where
 | int|byte|bool|str
 | sl (es:List Cd)
inductive RdC (w:World):Cd→Value→Prop
 | int {n:Int}:i64 n→RdC w .int (.int .i64 n)
 | byte {n:Int}:0≤n→n≤255→RdC w .byte (.int .u8 n)
 | bool {b:Bool}:RdC w .bool (.bool b)
 | str {s:ByteArray}:s.size≤maxLen→RdC w .str (.string s)
 | nil {es:List Cd}:RdC w (.sl es) (.slice none 0 0)
 | sl {es:List Cd} {a:Addr} {n c:Nat} (U:Nat→Nat→Value):0<es.length→n≤c→c≤maxLen →
   (∀ i,i<n→∀ j,j<es.length→∃ b off,a=⟨b,off,none⟩∧b<w.heap.size∧w.cell? ⟨b,off+(i*es.length+j),none⟩=some (U i j)) →
   (∀ i,i<n→∀ (j:Nat) (e:Cd),es[j]?=some e→RdC w e (U i j))→RdC w (.sl es) (.slice (some a) n c)
def ba2(f:TypeId→Option (List Cd))(P:Program):List Field→Nat→Option (List Cd)
 | [],_=>some []
 | x::r,off =>
  if x.offset=off then
   match f x.type with
   | some L=>if P.cellsOf x.type=L.length then(ba2 f P r (off+L.length)).map (L++·)else none
   | none=>none
  else none
def ba1(P:Program):Nat→TypeId→Option (List Cd)
 | 0,_=>none
 | k+1,t =>
  match P.underlying t with
  | some .bool=>some [.bool]
  | some (.int .i64)=>some [.int]
  | some (.int .u8)=>some [.byte]
  | some .string=>some [.str]
  | some (.slice e) =>
   match ba1 P k e with
   | some (c::es)=>if P.cellsOf e=es.length+1 then some [.sl (c::es)]else none
   | _=>none
  | some (.struct fs) =>
   match ba2 (ba1 P k) P fs.toList 0 with
   | some L=>if P.cellsOf t=L.length then some L else none
   | none=>none
  | _=>none
section
variable {H:Type} {enc:TypeId × Value→H} {P:Program} {w:World} {base:Nat} {spare:Nat→Bool} {held:Bool}
def RdL(w:World)(L:List Cd)(cs:List Value):Prop:=∀ (j:Nat) (c:Cd),L[j]?=some c→∃ u,cs[j]?=some u∧RdC w c u
theorem aK5{f:TypeId→Option (List Cd)}{n:Nat}(hf:∀ t L cs x,f t=some L→DataW.trod enc P w base spare held n t cs=some x→cs.length=L.length∧RdL w L cs) :
  ∀ (r:List Field) (off:Nat) (L:List Cd) (cs:List Value),ba2 f P r off=some L →
   (∀ (i:Nat) (fl:Field),r[i]?=some fl→∃ y,DataW.trod enc P w base spare held n fl.type ((cs.drop fl.offset).take (P.cellsOf fl.type))=some y)→RdL w L (cs.drop off)
 | [],off,L,cs,h,_=>by
  simp only[ba2,Option.some.injEq]at h
  subst h
  intro j c hj;simp at hj
 | x::r,off,L,cs,h,hy=>by
  simp only[ba2]at h
  split at h
  ·rename_i ho
   split at h
   ·rename_i L1 hL1
    split at h
    ·rename_i hc
     obtain⟨L2,hL2,rfl⟩:=Option.map_eq_some_iff.1 h
     obtain⟨y,hy0⟩:=hy 0 x (by simp)
     have h1:=hf _ _ _ _ hL1 hy0
     have h2:=aK5 hf r _ _ cs hL2 (fun i fl hi=>hy (i+1) fl (by simpa using hi))
     intro j c hj
     by_cases hlt:j<L1.length
     ·rw[List.getElem?_append_left hlt]at hj
      obtain⟨u,hu,hr⟩:=h1.2 j c hj
      refine⟨u,?_,hr⟩
      rw[List.getElem?_take]at hu
      split at hu
      ·rw[ho]at hu;exact hu
      ·cases hu
     ·rw[List.getElem?_append_right (by omega)]at hj
      obtain⟨u,hu,hr⟩:=h2 _ c hj
      refine⟨u,?_,hr⟩
      rw[List.getElem?_drop]at hu ⊢
      rw[← hu];congr 1;omega
    ·cases h
   ·cases h
  ·cases h
theorem aB4:∀ (k fuel:Nat) (t:TypeId) (L:List Cd) (cs:List Value) (x:DataW H × List MemPlace),ba1 P k t=some L→DataW.trod enc P w base spare held fuel t cs=some x→cs.length=L.length∧RdL w L cs
 | 0,_,_,_,_,_,h,_=>by simp[ba1]at h
 | k+1,fuel,t,L,cs,x,h,ht=>by
  have one:∀ (c:Cd) (u:Value),L=[c]→cs=[u]→RdC w c u→cs.length=L.length∧RdL w L cs:=fun c u hL hc hr=>by
   subst hL;subst hc
   refine⟨rfl,fun j d hj=>?_⟩
   match j,hj with
   | 0,hj=>simp only[List.getElem?_cons_zero,Option.some.injEq]at hj;subst hj;exact⟨u,rfl,hr⟩
  simp only[ba1]at h
  split at h
  ·rename_i hu
   obtain⟨b,hb,-⟩:=DataW.trod_bool hu ht
   exact one .bool _ (by simpa using h.symm) hb .bool
  ·rename_i hu
   obtain⟨n,hn,-,hw⟩:=DataW.trod_int hu ht
   exact one .int _ (by simpa using h.symm) hn (.int (bS7 hw))
  ·rename_i hu
   obtain⟨n,hn,-,hw⟩:=DataW.trod_int hu ht
   have:0≤n∧n≤255:=by simpa[Lit.wf,IntKind.min,IntKind.max,IntKind.signed,IntKind.bits]using hw
   exact one .byte _ (by simpa using h.symm) hn (.byte this.1 this.2)
  ·rename_i hu
   obtain⟨s,hs,-,hw⟩:=DataW.trod_string hu ht
   exact one .str _ (by simpa using h.symm) hs (.str hw)
  ·rename_i e hu
   split at h
   ·rename_i c es hc
    split at h
    ·rename_i hsz
     rcases Deep.open_slice hu ht with⟨h1,-⟩|⟨a,len,cap,m,n,D,Pl,hcs,hb,hl,hm,hmm,hx,hi⟩
     ·exact one _ _ (by simpa using h.symm) h1 .nil
     ·have main:∀ i,i<len→∀ (j:Nat) (e':Cd),(c::es)[j]?=some e'→∃ u,a=⟨a.block,a.off,none⟩∧a.block<w.heap.size∧w.cell? ⟨a.block,a.off+(i*(c::es).length+j),none⟩=some u∧RdC w e' u:=?_
      ·refine one _ _ (by simpa using h.symm) hcs (.sl (fun i j=>(w.cell? ⟨a.block,a.off+(i*(c::es).length+j),none⟩).getD undef) (by simp) hl hm (fun i hi j hj=>?_) (fun i hi j e' hj=>?_))
       ·obtain⟨u,h7,h8,h9,-⟩:=main i hi j _ (List.getElem?_eq_getElem hj)
        exact⟨_,_,h7,h8,by rw[h9];rfl⟩
       ·obtain⟨u,-,-,h9,h10⟩:=main i hi j e' hj
        rw[h9];exact h10
      intro i hil j e' hj
      obtain⟨cs',hc1,hc2⟩:=hi i (by rw[hmm];split<;>omega)
      obtain⟨-,hlen,hat⟩:=World.cells?_some hc1
      obtain⟨h3,h4⟩:=aB4 k n e _ cs' _ hc hc2
      obtain⟨u,hu1,hu2⟩:=h4 j e' hj
      have hj':j<P.cellsOf e:=by rw[← hlen];exact(List.getElem?_eq_some_iff.1 hu1).1
      have h5:=hat j hj'
      rw[Deep.add_add,hu1,hsz]at h5
      have hsp:a.spot=none:=by
       obtain⟨cs0,hc3,-⟩:=hi 0 (by rw[hmm];split<;>omega)
       obtain⟨-,hlen0,hat0⟩:=World.cells?_some hc3
       have h6:=hat0 0 (by rw[hsz];omega)
       simp only[Nat.zero_mul,Addr.add,if_true]at h6
       have:0<cs0.length:=by rw[hlen0,hsz];omega
       rw[List.getElem?_eq_getElem this]at h6
       unfold World.cell? at h6
       split at h6
       ·split at h6
        ·cases h6
        ·rename_i hns;simpa using hns
       ·cases h6
      have ha:a.add (i*(es.length+1)+j)=⟨a.block,a.off+(i*(es.length+1)+j),none⟩:=by
       unfold Addr.add
       split
       ·rename_i h0;rw[h0];cases a;simp only at hsp;subst hsp;rfl
       ·cases a;simp only at hsp;subst hsp;rfl
      rw[ha]at h5
      exact⟨u,by cases a;simp only at hsp;subst hsp;rfl,World.block_lt_of_cell? w ⟨a.block,_,none⟩ h5,by simpa using h5,hu2⟩
    ·cases h
   ·cases h
  ·rename_i fs hu
   split at h
   ·rename_i L1 hL1
    split at h
    ·rename_i hsz
     simp only[Option.some.injEq]at h
     subst h
     obtain⟨xs,n,-,-,hlen,hxl,hf⟩:=DataW.trod_struct hu ht
     refine⟨by rw[hlen,hsz],?_⟩
     have:=aK5 (enc:=enc) (base:=base) (spare:=spare) (held:=held) (f:=ba1 P k) (n:=n) (fun t L cs x h h'=>aB4 k n t L cs x h h') fs.toList 0 L1 cs hL1 (fun i fl hi=>by
      have h1:fs[i]?=some fl:=by rw[← Array.getElem?_toList];exact hi
      have hi':i<xs.length:=by rw[hxl];exact(Array.getElem?_eq_some_iff.1 h1).1
      exact⟨_,(hf i fl h1).trans (List.getElem?_eq_getElem hi')⟩)
     simpa using this
    ·cases h
   ·cases h
  ·cases h
end
theorem aS5{α:Type}:∀ (n:Nat) {p:Nat→α→Prop},(∀ i,i<n→∃ x,p i x)→∃ l:List α,l.length=n∧∀ i x,l[i]?=some x→p i x
 | 0,p,_=>⟨[],rfl,fun i x h=>by simp at h⟩
 | n+1,p,h=>by
  obtain⟨l,hl,hp⟩:=aS5 n (p:=p) (fun i hi=>h i (by omega))
  obtain⟨x,hx⟩:=h n (by omega)
  refine⟨l++[x],by simp[hl],fun i y hy=>?_⟩
  by_cases hi:i<n
  ·rw[List.getElem?_append_left (by omega)]at hy;exact hp i y hy
  ·rw[List.getElem?_append_right (by omega),hl]at hy
   have:i=n:=by
    have:=(List.getElem?_eq_some_iff.1 hy).1
    simp at this;omega
   subst this
   simp at hy;subst hy;exact hx
theorem RdL.at{w:World}{L:List Cd}{cs:List Value}(h:RdL w L cs){j:Nat}{c:Cd}(hj:L[j]?=some c):∃ u,cs[j]?=some u∧RdC w c u:=h j c hj
theorem RdC.int_inv{w:World}{v:Value}(h:RdC w .int v):∃ n,v=.int .i64 n∧i64 n:=by cases h with|int h=>exact⟨_,rfl,h⟩
theorem RdC.bool_inv{w:World}{v:Value}(h:RdC w .bool v):∃ b,v=.bool b:=by cases h with|bool=>exact⟨_,rfl⟩
theorem RdC.str_inv{w:World}{v:Value}(h:RdC w .str v):∃ s,v=.string s∧s.size≤maxLen:=by cases h with|str h=>exact⟨_,rfl,h⟩
theorem Y6{α:Type}:∀ {l m:List α},l.length=m.length→(∀ (j:Nat) (x:α),m[j]?=some x→l[j]?=some x)→l=m
 | [],[],_,_=>rfl
 | x::l,y::m,h,hj=>by
  have h0:=hj 0 y rfl
  simp only[List.getElem?_cons_zero,Option.some.injEq]at h0
  subst h0
  exact congrArg (x::·) (Y6 (l:=l) (m:=m) (by simpa using h) (fun j z hz=>by have:=hj (j+1) z (by simpa using hz);simpa using this))
section
variable {α:Type} {enc:α→List Value} {T size:Nat}
theorem Own.nil{B:Nat}{w:World}(hsz:∀ x:α,(enc x).length=size):Own enc T size B w none 0 []:=⟨hsz,by simp,.inl ⟨rfl,rfl⟩⟩
theorem Own.empty{W:World}(hsz:∀ x:α,(enc x).length=size)(x:b5 (W.alloc (.cells #[] T))){B:Nat}(hB:B≤W.heap.size):Own enc T size B x.w (some ⟨W.heap.size,0,none⟩) 0 []:=by
 refine⟨hsz,by simp,.inr ⟨W.heap.size,0,#[],rfl,hB,?_,Nat.le_refl _,by unfold maxLen;omega,by simp,by simp⟩⟩
 rw[x.h.block _ (by simp)]
 show(W.heap.push _)[W.heap.size]?=_
 simp
theorem Own.empty0{W:World}(hsz:∀ x:α,(enc x).length=size){B:Nat}(hB:B≤W.heap.size):Own enc T size B (W.alloc (.cells #[] T)) (some ⟨W.heap.size,0,none⟩) 0 []:=Own.empty hsz (b5.here _) hB
theorem bJ6(W:World)(cs:Array Value)(T1:TypeId)(j:Nat):(W.alloc (.cells cs T1)).cell? ((⟨W.heap.size,0,none⟩:Addr).add j)=cs[j]?:=by
 have e:(⟨W.heap.size,0,none⟩:Addr).add j=⟨W.heap.size,j,none⟩:=by
  unfold Addr.add;split
  ·rename_i h;rw[h]
  ·simp
 rw[e,World.cell?_alloc_at _ _ _ _ rfl]
def aP0(v:Value)(n:Nat):Prop:=∃ a c,v=.slice a n c
theorem aE0{P:Program}{ops:Array Oper}{rest:List Oper}{o:Oper}{a:Act}{Q:Exit→Act→World→Prop}{w0 W:World}{T1:TypeId}{cs:Array Value}{t:TypeId}{bytes:Nat}{z:Value}(y:α)
  (hgd:o.guard=none) (s x:Operand) (ho:o.op=.call { callee:=.builtin .append,args:=#[s,x],argTypes:=#[t,t] })
  (ht:P.underlying t=some (.slice T)) (hinfo:(P.info? T).map (fun i=>(i.zero,i.size,i.bytes))=some (some z,size,bytes)) (hzs:z.cells.size=size) (hsz:0<size) (hby:bytes≤1000)
  {l:List α} {n:Nat} {sa:Option Addr} {sc:Nat} (hs:a.eval s=.slice sa n sc) (hx:a.eval x=.slice (some ⟨W.heap.size,0,none⟩) 1 1) (hn:l.length=n) (hown:Own enc T size w0.heap.size W sa sc l)
  (hy:cs.toList=enc y) (h1:∀ u∈enc y,u.oneCell'=true) (hb:n≤1000000000) [g:d5 w0 W]
  (h:∀ (sa':Option Addr) (sc':Nat) (x':b5 w0),Own enc T size w0.heap.size x'.w sa' sc' (l++[y])→W.grownBy x'.w (Value.ownBlock (.slice sa n sc))→wpList P ops Q rest (a.put o.dst (.slice sa' (n+1) sc')) x'.w) :
  wpList P ops Q (o::rest) a (W.alloc (.cells cs T1)):=by
 obtain⟨i,hi,h3⟩:=Option.map_eq_some_iff.1 hinfo
 simp only[Prod.mk.injEq]at h3
 obtain⟨h4,h5,h6⟩:=h3
 subst hn
 have hb':(l.length+1)*bytes≤140737488355328:=by
  have:(l.length+1)*bytes≤(l.length+1)*1000:=Nat.mul_le_mul_left _ hby
  omega
 have hnl:(enc y).length=1*size:=by rw[hown.1];omega
 refine wpList_append_own (a:=a) (w:=W.alloc (.cells cs T1)) hgd s x t ho w0.heap.size T i z size bytes ht hi h4 h5 h6 hzs hsz _ l.length (l.flatMap enc) hs (hown.2.alloc _) ⟨W.heap.size,0,none⟩ 1 1 (enc y) hx hnl
  (fun j u hj=>by rw[bJ6,← Array.getElem?_toList,hy];exact hj) h1 (by unfold maxLen;omega) hb' (Nat.le_trans g.out.size (by simp)) ?_
 intro v' w' ho' hg' _
 have hlt:=hown.2.lt
 have hbel:Below w0.heap.size w0 w':=by
  refine(g.out.alloc g.out.size _).grown hg' (Nat.le_trans g.out.size (by simp)) (fun k hk=>?_)
  exact(hlt k hk).1
 have hf:aP0 v' (l.length+1):=by
  rcases ho'.2 with⟨hv,hn0⟩|⟨g',cap,cur,hv,-⟩
  ·omega
  ·exact⟨_,_,hv⟩
 obtain⟨sa',sc',rfl⟩:=hf
 refine h sa' sc' ⟨w',hbel⟩ ⟨hown.1,?_⟩ ⟨hg'.os,hg'.tape,hg'.output,Nat.le_trans (by simp) hg'.size,fun k hk hr=>?_⟩
 ·rw[List.flatMap_append,List.flatMap_singleton,List.length_append,List.length_singleton];exact ho'
 ·rw[hg'.block k (by simp;omega) hr];exact Below.heap_alloc _ _ _ hk
theorem J9{P:Program}{ops:Array Oper}{rest:List Oper}{o:Oper}{a:Act}{Q:Exit→Act→World→Prop}{w0 W:World}{t:TypeId}{bytes:Nat}{z:Value}
  (hgd:o.guard=none) (s x:Operand) (ho:o.op=.call { callee:=.builtin .append,args:=#[s,x],argTypes:=#[t,t] })
  (ht:P.underlying t=some (.slice T)) (hinfo:(P.info? T).map (fun i=>(i.zero,i.size,i.bytes))=some (some z,size,bytes)) (hzs:z.cells.size=size) (hsz:0<size) (hby:bytes≤1000)
  {l r:List α} {n m c:Nat} {sa ra:Option Addr} {sc:Nat} (hs:a.eval s=.slice sa n sc) (hx:a.eval x=.slice ra m c) (hnil:ra=none→c=0) (hn:l.length=n) (hm:r.length=m) (hown:Own enc T size w0.heap.size W sa sc l)
  (hr:Sl enc W ra r) (h1:∀ y,∀ u∈enc y,u.oneCell'=true) (hb:n+m≤1000000000) [g:d5 w0 W]
  (h:∀ (sa':Option Addr) (sc':Nat) (x':b5 w0),Own enc T size w0.heap.size x'.w sa' sc' (l++r)→W.grownBy x'.w (Value.ownBlock (.slice sa n sc))→wpList P ops Q rest (a.put o.dst (.slice sa' (n+m) sc')) x'.w) :
  wpList P ops Q (o::rest) a W:=by
 obtain⟨i,hi,h3⟩:=Option.map_eq_some_iff.1 hinfo
 simp only[Prod.mk.injEq]at h3
 obtain⟨h4,h5,h6⟩:=h3
 subst hn;subst hm
 cases ra with
 | none =>
  obtain rfl:=hnil rfl
  have hr0:r=[]:=by
   cases r with
   | nil=>rfl
   | cons y r=>obtain⟨b,off,h0,-⟩:=hr 0 y rfl;cases h0
  subst hr0
  refine wpList_append_own_none (a:=a) (w:=W) hgd s x t ho w0.heap.size T i size ht hi _ l.length (l.flatMap enc) hs hown.2 hx ?_
  exact h sa sc ⟨W,g.out⟩ (by rw[List.append_nil];exact hown) ⟨rfl,rfl,rfl,Nat.le_refl _,fun k hk hr=>rfl⟩
 | some ad =>
  have hb':(l.length+r.length)*bytes≤140737488355328:=by
   have:(l.length+r.length)*bytes≤(l.length+r.length)*1000:=Nat.mul_le_mul_left _ hby
   omega
  refine wpList_append_own (a:=a) (w:=W) hgd s x t ho w0.heap.size T i z size bytes ht hi h4 h5 h6 hzs hsz _ l.length (l.flatMap enc) hs hown.2 ad r.length c (r.flatMap enc) hx (F8 hown.1 r)
   (fun j u hj=>?_) (fun u hu=>?_) (by unfold maxLen;omega) hb' g.out.size ?_
  ·have hlt:j<r.length*size:=by rw[← F8 hown.1 r];exact(List.getElem?_eq_some_iff.1 hj).1
   have hq:j / size<r.length:=Nat.div_lt_of_lt_mul (by rw[Nat.mul_comm];exact hlt)
   have hy:=List.getElem?_eq_getElem hq
   have hmod:j % size<(enc r[j / size]).length:=by rw[hown.1];exact Nat.mod_lt _ hsz
   have hu:=List.getElem?_eq_getElem hmod
   have h8:=af6 hown.1 r _ _ _ _ hy hu
   have hj':j / size*size+j % size=j:=by rw[Nat.mul_comm];exact Nat.div_add_mod _ _
   rw[hj',hj]at h8
   obtain⟨b,off,hbo,-,hc⟩:=hr _ _ hy
   simp only[Option.some.injEq]at hbo
   subst hbo
   have h9:=hc _ _ hu
   rw[hown.1,Nat.add_assoc,hj']at h9
   simp only[Option.some.injEq]at h8
   rw[h8]
   have e:(⟨b,off,none⟩:Addr).add j=⟨b,off+j,none⟩:=by
    unfold Addr.add;split
    ·rename_i h;rw[h,Nat.add_zero]
    ·rfl
   rw[e];exact h9
  ·obtain⟨y,-,hy⟩:=List.mem_flatMap.1 hu
   exact h1 y u hy
  ·intro v' w' ho' hg' hnil'
   have hlt:=hown.2.lt
   have hbel:Below w0.heap.size w0 w':=g.out.grown hg' g.out.size (fun k hk=>(hlt k hk).1)
   have hf:aP0 v' (l.length+r.length):=by
    rcases ho'.2 with⟨hv,hn0⟩|⟨g',cap,cur,hv,-⟩
    ·exact⟨none,0,by rw[hn0];exact hv⟩
    ·exact⟨_,_,hv⟩
   obtain⟨sa',sc',rfl⟩:=hf
   refine h sa' sc' ⟨w',hbel⟩ ⟨hown.1,?_⟩ hg'
   rw[List.flatMap_append,List.length_append];exact ho'
theorem Own.lt{B:Nat}{w:World}{a:Option Addr}{c:Nat}{l:List α}(h:Own enc T size B w a c l){n:Nat}:∀ k,Value.ownBlock (.slice a n c)=some k→B≤k∧k<w.heap.size:=fun k hk=>h.2.lt k (by cases a with
 | none=>simp[Value.ownBlock]at hk
 | some a=>simpa[Value.ownBlock]using hk)
theorem Own.kept{B:Nat}{w w':World}{a:Option Addr}{c:Nat}{l:List α}{row:Option Nat}(h:Own enc T size B w a c l)(hg:w.grownBy w' row)(hne:∀ k,row=some k→k<B∨w.heap.size≤k):Own enc T size B w' a c l:=by
 refine⟨h.1,h.2.kept hg ?_⟩
 cases ha:Value.ownBlock (.slice a l.length c)with
 | none=>exact .inl rfl
 | some k =>
  right
  intro he
  have:=h.2.lt k ha
  rcases hne k he.symm with h1|h1<;>omega
end
def K0(n:Int):List Value:=[.int .i64 n]
theorem ak9(n:Int):(K0 n).length=1:=rfl
theorem af5(n:Int):∀ u∈K0 n,u.oneCell'=true:=by intro u hu;simp[K0]at hu;subst hu;rfl
theorem Sl.int{w:World}{a:Option Addr}{l:List Int}(h:Sl K0 w a l){k:Nat}(hk:k<l.length) :
  ∃ b off s,a=some ⟨b,off,none⟩∧LtN b w.heap.size∧Hid (l.drop k=s::l.drop (k+1))∧(∀ (W:World) [d5 w W],W.cell? ⟨b,off+k,none⟩=some (.int .i64 s)):=by
 obtain⟨s,hs,hd⟩:=ah0 hk
 obtain⟨b,off,ha,hb,hc⟩:=h k s hs
 exact⟨b,off,s,ha,⟨hb⟩,hd,j5 hb (by simpa[K0]using hc 0 _ rfl)⟩
theorem B3{w w1 w2:World}{row:Option Nat}(h:w.grownBy w1 row)(k:w1.grownBy w2 row):w.grownBy w2 row :=
 ⟨k.os.trans h.os,k.tape.trans h.tape,k.output.trans h.output,Nat.le_trans h.size k.size,fun i hi hr=>(k.block i (Nat.lt_of_lt_of_le hi h.size) hr).trans (h.block i hi hr)⟩
theorem U8(w:World)(row:Option Nat):w.grownBy w row:=⟨rfl,rfl,rfl,Nat.le_refl _,fun _ _ _=>rfl⟩
def V7(n:Int):List Value:=[.int .u8 n]
theorem Sl.byte{w:World}{a:Option Addr}{l:List Int}(h:Sl V7 w a l){k:Nat}(hk:k<l.length) :
  ∃ b off s,a=some ⟨b,off,none⟩∧LtN b w.heap.size∧Hid (l.drop k=s::l.drop (k+1))∧(∀ (W:World) [d5 w W],W.cell? ⟨b,off+k,none⟩=some (.int .u8 s)):=by
 obtain⟨s,hs,hd⟩:=ah0 hk
 obtain⟨b,off,ha,hb,hc⟩:=h k s hs
 exact⟨b,off,s,ha,⟨hb⟩,hd,j5 hb (by simpa[V7]using hc 0 _ rfl)⟩
def bS8(n:Int):Prop:=0≤n∧n≤255
@[go_sem] theorem bS6(n:Int):bits .and .i64 n 255=n % 256:=by
 have h255:(BitVec.ofInt 64 255).toNat=2 ^ 8 - 1:=by decide
 have key:(BitVec.ofInt 64 n &&& BitVec.ofInt 64 255).toNat=(n % ((2 ^ 64:Nat):Int)).toNat % 2 ^ 8:=by
  rw[BitVec.toNat_and,BitVec.toNat_ofInt,h255,Nat.and_two_pow_sub_one_eq_mod]
 show IntKind.i64.wrap ((BitVec.ofInt 64 n &&& BitVec.ofInt 64 255).toNat:Nat)=n % 256
 rw[key,IntKind.wrap_i64]
 omega
structure bj3(w:World)(p:Nat)(a:Option Addr)(n c:Nat)(l:List Int)(i:Nat):Prop where
 lt:LtN p w.heap.size
 c0:w.cell? ⟨p,0,none⟩=some (.slice a n c)
 c1:w.cell? ⟨p,1,none⟩=some (.int .i64 i)
 c2:∃ h:Int,w.cell? ⟨p,2,none⟩=some (.int .i64 h)
 f1:w.frozen? ⟨p,1,none⟩=false
 f2:w.frozen? ⟨p,2,none⟩=false
 le:i≤n
 len:l.length=n
 small:n≤1048576
 sl:Sl V7 w a l
 bytes:∀ x∈l,bS8 x
 apart:∀ b off,a=some ⟨b,off,none⟩→0<l.length→b<p
theorem bj3.alloc{w:World}{p:Nat}{a:Option Addr}{n c:Nat}{l:List Int}{i:Nat}(h:bj3 w p a n c l i)(o:Obj):bj3 (w.alloc o) p a n c l i:=by
 obtain⟨hlt,hc0,hc1,⟨hh,hc2⟩,hf1,hf2,hle,hlen,hsm,hsl,hby,hap⟩:=h
 exact⟨ii,by rw[b5.cell_past];exact hc0,by rw[b5.cell_past];exact hc1,⟨hh,by rw[b5.cell_past];exact hc2⟩,by rw[b5.frozen_past];exact hf1,by rw[b5.frozen_past];exact hf2,hle,hlen,hsm,hsl.alloc o,hby,hap⟩
theorem Sl.lit{α:Type}{enc:α→List Value}{W:World}{cs:Array Value}{T size:Nat}{l:List α}(hsz:∀ x:α,(enc x).length=size)(h:cs.toList=l.flatMap enc):Sl enc (W.alloc (.cells cs T)) (some ⟨W.heap.size,0,none⟩) l:=fun k y hy=>by
 refine⟨W.heap.size,0,rfl,by simp,fun j v hv=>?_⟩
 rw[World.cell?_alloc_at _ _ _ _ rfl,← Array.getElem?_toList,h,hsz,Nat.zero_add]
 exact af6 hsz l k j y v hy hv
theorem bj3.kept{w W:World}{p:Nat}{a:Option Addr}{n c:Nat}{l:List Int}{i:Nat}(h:bj3 w p a n c l i)(hs:w.heap.size≤W.heap.size)(hb:∀ k,k≤p→W.heap[k]?=w.heap[k]?):bj3 W p a n c l i:=by
 obtain⟨hlt,hc0,hc1,⟨hh,hc2⟩,hf1,hf2,hle,hlen,hsm,hsl,hby,hap⟩:=h
 have hp:=hb p nl
 refine⟨⟨Nat.lt_of_lt_of_le hlt.out hs⟩,by rw[World.cell?_of_block (w:=w) hp];exact hc0,by rw[World.cell?_of_block (w:=w) hp];exact hc1,⟨hh,by rw[World.cell?_of_block (w:=w) hp];exact hc2⟩,
  by simp only[World.frozen?,hp];exact hf1,by simp only[World.frozen?,hp];exact hf2,hle,hlen,hsm,fun k y hy=>?_,hby,hap⟩
 obtain⟨b,off,ha,hblt,hcell⟩:=hsl k y hy
 have hlt':=hap b off ha (Nat.lt_of_le_of_lt (Nat.zero_le k) (List.getElem?_eq_some_iff.1 hy).1)
 exact⟨b,off,ha,Nat.lt_of_lt_of_le hblt hs,fun j v hv=>by rw[World.cell?_of_block (w:=w) (hb b (Nat.le_of_lt hlt'))];exact hcell j v hv⟩
theorem FnExactHearUplink_inPlace:(Rows.fnExactHearUplinkRow.inPlace == Tryz.pinned.checked.prog.inPlace 3)=true:=by kernel_rfl
theorem FnExactHearUplink_unfollowed:(Rows.fnExactHearUplinkRow.unfollowed == Tryz.pinned.checked.prog.unfollowed 3)=true:=by kernel_rfl
theorem FnExactHearUplink_recurses:(Rows.fnExactHearUplinkRow.recurses == Tryz.pinned.checked.prog.recurses 3)=true:=by kernel_rfl
theorem FnExactHearUplink_varsNamed:(Rows.fnExactHearUplinkRow.named == Tryz.pinned.checked.prog.varsNamed 3)=true:=by kernel_rfl
instance(priority:=800) d5.andThen2 (a:World){W:World}(x:b5 W)(y:b5 x.w)[h:d5 a y.w]:d5 a (x.andThen y).w:=⟨h.out⟩
instance(priority:=850) d5.drawn (a:World){W:World}(x:b5 W)[h:d5 a x.w]:d5 a x.draw.w:=⟨h.out.drew⟩
instance LtN.drew(a:Nat)(W:World)[h:LtN a W.heap.size]:LtN a W.drew.heap.size:=⟨h.out⟩
instance LeN.drew(a:Nat)(W:World)[h:LeN a W.heap.size]:LeN a W.drew.heap.size:=⟨h.out⟩
section
variable {P:Program} {ops:Array Oper} {o:Oper} {a:Act} {w:World} {K:Act→World→Prop} {Q:Exit→Act→World→Prop} {E:Prop}
theorem bI5(hg:o.guard=none)(h:Oper.wp P o a w K Q):if Region.wanted o (yielded ops a.tmps)=true then Oper.wp P o a w K Q else E:=by
 rw[if_pos (by simp[Region.wanted,hg])];exact h
theorem be0{f:FuncId}{fn:Func}{xs:Array Operand}{ts:Array TypeId}(hop:o.op=.call { callee:=.value (.func f),args:=xs,argTypes:=ts })(hf:P.funcs[f]?=some fn)(hname:(fn.name == "runtime.NumGoroutine")=false)(hb:fn.body.isNone=false) :
  (execOp a.eval o).run P w=.ok (.enter f (xs.map a.eval)) w:=by
 have h1:fn.name≠ "runtime.NumGoroutine":=by simpa using hname
 have h2:fn.body≠none:=by intro h;rw[h]at hb;simp at hb
 unfold execOp
 simp only[hop]
 simp[go_sem,resolve,invoke,callFunc,hf,h1,h2]
theorem aF6(hg:o.guard=none){f:FuncId}{fn:Func}{xs:Array Operand}{ts:Array TypeId}(hop:o.op=.call { callee:=.value (.func f),args:=xs,argTypes:=ts })(hf:P.funcs[f]?=some fn)(hname:(fn.name == "runtime.NumGoroutine")=false)(hb:fn.body.isNone=false)
  (args:List Value) (hv:xs.toList.map a.eval=args) (hc:Calls P f args.toArray w fun e w'=>∃ v,e=.returned v∧K (a.put o.dst v) w') :
  if Region.wanted o (yielded ops a.tmps)=true then Oper.wp P o a w K Q else E:=by
 refine bI5 hg ?_
 unfold Oper.wp
 have hv':xs.map a.eval=args.toArray:=by apply Array.ext';rw[Array.toList_map,hv]
 rw[be0 hop hf hname hb,hv',Oper.upon_enter]
 exact hc.mono fun e w' ⟨v,he,hk⟩=>by subst he;exact hk
theorem bF4(hw:Region.wanted o (yielded ops a.tmps)=true){f:FuncId}{fn:Func}{xs:Array Operand}{ts:Array TypeId}(hop:o.op=.call { callee:=.value (.func f),args:=xs,argTypes:=ts })(hf:P.funcs[f]?=some fn)(hname:(fn.name == "runtime.NumGoroutine")=false)(hb:fn.body.isNone=false)
  (args:List Value) (hv:xs.toList.map a.eval=args) (hc:Calls P f args.toArray w fun e w'=>∃ v,e=.returned v∧K (a.put o.dst v) w') :
  if Region.wanted o (yielded ops a.tmps)=true then Oper.wp P o a w K Q else E:=by
 rw[if_pos hw]
 unfold Oper.wp
 have hv':xs.map a.eval=args.toArray:=by apply Array.ext';rw[Array.toList_map,hv]
 rw[be0 hop hf hname hb,hv',Oper.upon_enter]
 exact hc.mono fun e w' ⟨v,he,hk⟩=>by subst he;exact hk
variable {α:Type} {enc:α→List Value} {T size:Nat}
theorem bI9{w0:World}{T1:TypeId}{cs:Array Value}{t:TypeId}{bytes:Nat}{z:Value}(y:α)
  (s x:Operand) (ho:o.op=.call { callee:=.builtin .append,args:=#[s,x],argTypes:=#[t,t] })
  (ht:P.underlying t=some (.slice T)) (hinfo:(P.info? T).map (fun i=>(i.zero,i.size,i.bytes))=some (some z,size,bytes)) (hzs:z.cells.size=size) (hsz:0<size) (hby:bytes≤1000)
  {l:List α} {n:Nat} {sa:Option Addr} {sc:Nat} (hs:a.eval s=.slice sa n sc) {xb:Nat} (hx:a.eval x=.slice (some ⟨xb,0,none⟩) 1 1) (hn:l.length=n) {B:Nat} (hown:Own enc T size B w sa sc l)
  (hxc:w.heap[xb]?=some (.cells cs T1 (0,0))) (hy:cs.toList=enc y) (h1:∀ u∈enc y,u.oneCell'=true) (hb:n≤1000000000) (hB:B≤w.heap.size) (g:d5 w0 w) (hB0:w0.heap.size≤B)
  (h:∀ (sa':Option Addr) (sc':Nat) (x':b5 w0),Own enc T size B x'.w sa' sc' (l++[y])→w.grownBy x'.w (Value.ownBlock (.slice sa n sc))→K (a.put o.dst (.slice sa' (n+1) sc')) x'.w) :
  Oper.wp P o a w K Q:=by
 obtain⟨i,hi,h3⟩:=Option.map_eq_some_iff.1 hinfo
 simp only[Prod.mk.injEq]at h3
 obtain⟨h4,h5,h6⟩:=h3
 subst hn
 have hb':(l.length+1)*bytes≤140737488355328:=by
  have:(l.length+1)*bytes≤(l.length+1)*1000:=Nat.mul_le_mul_left _ hby
  omega
 have hnl:(enc y).length=1*size:=by rw[hown.1];omega
 refine wp_append_own (a:=a) (w:=w) s x t ho B T i z size bytes ht hi h4 h5 h6 hzs hsz _ l.length (l.flatMap enc) hs hown.2 ⟨xb,0,none⟩ 1 1 (enc y) hx hnl
  (fun j u hj=>?_) h1 (by unfold maxLen;omega) hb' hB ?_
 ·have e:(⟨xb,0,none⟩:Addr).add j=⟨xb,j,none⟩:=by
   unfold Addr.add;split
   ·rename_i h;rw[h]
   ·simp
  rw[e]
  rw[← hy,Array.getElem?_toList]at hj
  simp[World.cell?,hxc,hj]
 ·intro v' w' ho' hg' _
  have hlt:=hown.2.lt
  have hbel:Below w0.heap.size w0 w':=g.out.grown hg' g.out.size (fun k hk=>Nat.le_trans hB0 (hlt k hk).1)
  have hf:aP0 v' (l.length+1):=by
   rcases ho'.2 with⟨hv,hn0⟩|⟨g',cap,cur,hv,-⟩
   ·omega
   ·exact⟨_,_,hv⟩
  obtain⟨sa',sc',rfl⟩:=hf
  refine h sa' sc' ⟨w',hbel⟩ ⟨hown.1,?_⟩ hg'
  rw[List.flatMap_append,List.flatMap_singleton,List.length_append,List.length_singleton];exact ho'
theorem V0{ops':Array Oper}{rest:List Oper}{w0:World}{T1:TypeId}{cs:Array Value}{t:TypeId}{bytes:Nat}{z:Value}(y:α)(hgd:o.guard=none)
  (s x:Operand) (ho:o.op=.call { callee:=.builtin .append,args:=#[s,x],argTypes:=#[t,t] })
  (ht:P.underlying t=some (.slice T)) (hinfo:(P.info? T).map (fun i=>(i.zero,i.size,i.bytes))=some (some z,size,bytes)) (hzs:z.cells.size=size) (hsz:0<size) (hby:bytes≤1000)
  {l:List α} {n:Nat} {sa:Option Addr} {sc:Nat} (hs:a.eval s=.slice sa n sc) {xb:Nat} (hx:a.eval x=.slice (some ⟨xb,0,none⟩) 1 1) (hn:l.length=n) {B:Nat} (hown:Own enc T size B w sa sc l)
  (hxc:w.heap[xb]?=some (.cells cs T1 (0,0))) (hy:cs.toList=enc y) (h1:∀ u∈enc y,u.oneCell'=true) (hb:n≤1000000000) (hB:B≤w.heap.size) (g:d5 w0 w) (hB0:w0.heap.size≤B)
  (h:∀ (sa':Option Addr) (sc':Nat) (x':b5 w0),Own enc T size B x'.w sa' sc' (l++[y])→w.grownBy x'.w (Value.ownBlock (.slice sa n sc))→wpList P ops' Q rest (a.put o.dst (.slice sa' (n+1) sc')) x'.w) :
  wpList P ops' Q (o::rest) a w :=
 wpList_plain hgd fun _ hK=>bI9 (w0:=w0) y s x ho ht hinfo hzs hsz hby hs hx hn hown hxc hy h1 hb hB g hB0 fun sa' sc' x' h2 h3=>hK _ _ (h sa' sc' x' h2 h3)
end
theorem W9(w:World)(o:Obj)(g:Nat)(h:w.heap.size=g):(w.alloc o).heap[g]?=some o:=by
 subst h
 show(w.heap.push _)[w.heap.size]?=_
 simp
theorem bJ5{w W:World}[gr:d5 w W]{o':Obj}{g:Nat}(h:w.heap[g]?=some o'):W.heap[g]?=some o':=by
 rw[gr.out.block _ (Array.getElem?_eq_some_iff.1 h).1];exact h
theorem Own.emptyAt{α:Type}{enc:α→List Value}{T size g:Nat}{W:World}(hsz:∀ x:α,(enc x).length=size){B:Nat}(hB:B≤W.heap.size)(hg:W.heap.size=g):Own enc T size B (W.alloc (.cells #[] T)) (some ⟨g,0,none⟩) 0 []:=hg▸Own.empty (T:=T) (size:=size) (B:=B) hsz (b5.here (W.alloc (.cells #[] T))) hB
theorem N5{w w':World}{row:Option Nat}{o':Obj}{g:Nat}(hg:w.grownBy w' row)(h:w.heap[g]?=some o')(hne:some g≠row):w'.heap[g]?=some o':=by
 rw[hg.block _ (Array.getElem?_eq_some_iff.1 h).1 hne];exact h
theorem N0.nilOf{α:Type}{enc:α→List Value}{T size:Nat}{w w':World}{l:List α}(hsz:∀ x:α,(enc x).length=size)(hl:l=[])[h:d5 w w']:N0 enc T size w l (.returned (.slice none 0 0)) w' :=
 ⟨none,0,by rw[hl];rfl,by rw[hl];exact Own.nil hsz,⟨w',h.out⟩,rfl⟩
structure ao3 where
 Time:Int
 Id:Int
def ak3(s:ao3):List Value:=[.int .i64 s.Time,.int .i64 s.Id]
theorem aS7(s:ao3):(ak3 s).length=2:=rfl
theorem Sl.slot{w:World}{a:Option Addr}{l:List ao3}(h:Sl ak3 w a l){k:Nat}(hk:k<l.length) :
  ∃ b off s,a=some ⟨b,off,none⟩∧LtN b w.heap.size∧Hid (l.drop k=s::l.drop (k+1))∧(∀ (W:World) [d5 w W],W.cell? ⟨b,off+k*2,none⟩=some (.int .i64 s.Time))∧(∀ (W:World) [d5 w W],W.cell? ⟨b,off+k*2+1,none⟩=some (.int .i64 s.Id)):=by
 obtain⟨s,hs,hd⟩:=ah0 hk
 obtain⟨b,off,ha,hb,hc⟩:=h k s hs
 exact⟨b,off,s,ha,⟨hb⟩,hd,j5 hb (hc 0 _ rfl),j5 hb (hc 1 _ rfl)⟩
structure af2 where
 Board:Int
 True:Int
def Y8(s:af2):List Value:=[.int .i64 s.Board,.int .i64 s.True]
theorem aS6(s:af2):(Y8 s).length=2:=rfl
theorem Sl.pair{w:World}{a:Option Addr}{l:List af2}(h:Sl Y8 w a l){k:Nat}(hk:k<l.length) :
  ∃ b off s,a=some ⟨b,off,none⟩∧LtN b w.heap.size∧Hid (l.drop k=s::l.drop (k+1))∧(∀ (W:World) [d5 w W],W.cell? ⟨b,off+k*2,none⟩=some (.int .i64 s.Board))∧(∀ (W:World) [d5 w W],W.cell? ⟨b,off+k*2+1,none⟩=some (.int .i64 s.True)):=by
 obtain⟨s,hs,hd⟩:=ah0 hk
 obtain⟨b,off,ha,hb,hc⟩:=h k s hs
 exact⟨b,off,s,ha,⟨hb⟩,hd,j5 hb (hc 0 _ rfl),j5 hb (hc 1 _ rfl)⟩
theorem bR6{α:Type}{enc:α→List Value}(hsz:∀ x:α,(enc x).length=1){y:α}{v0:Value}(hy:enc y=[v0]):∀ (l:List α) (j:Nat),j<l.length→(l.flatMap enc).set (j) v0=(l.set j y).flatMap enc
 | [],j,h=>by simp at h
 | x::l,0,_=>by
  have hx:=hsz x
  match he:enc x,hx with
  | [u0],_=>simp[List.flatMap_cons,he,hy]
 | x::l,j+1,h=>by
  have ih:=bR6 hsz hy l j (by simpa using h)
  rw[List.flatMap_cons,List.set_cons_succ,List.flatMap_cons,← ih]
  have hx:=hsz x
  match he:enc x,hx with
  | [u0],_ =>
   simp
theorem bG7{α:Type}{enc:α→List Value}(hsz:∀ x:α,(enc x).length=2){y:α}{v0 v1:Value}(hy:enc y=[v0,v1]):∀ (l:List α) (j:Nat),j<l.length→((l.flatMap enc).set (j*2) v0).set (j*2+1) v1=(l.set j y).flatMap enc
 | [],j,h=>by simp at h
 | x::l,0,_=>by
  have hx:=hsz x
  match he:enc x,hx with
  | [u0,u1],_=>simp[List.flatMap_cons,he,hy]
 | x::l,j+1,h=>by
  have ih:=bG7 hsz hy l j (by simpa using h)
  rw[List.flatMap_cons,List.set_cons_succ,List.flatMap_cons,← ih]
  have hx:=hsz x
  match he:enc x,hx with
  | [u0,u1],_ =>
   rw[show(j+1)*2=j*2+2 from by omega];simp
theorem bR7{α:Type}{enc:α→List Value}(hsz:∀ x:α,(enc x).length=3){y:α}{v0 v1 v2:Value}(hy:enc y=[v0,v1,v2]):∀ (l:List α) (j:Nat),j<l.length→(((l.flatMap enc).set (j*3) v0).set (j*3+1) v1).set (j*3+2) v2=(l.set j y).flatMap enc
 | [],j,h=>by simp at h
 | x::l,0,_=>by
  have hx:=hsz x
  match he:enc x,hx with
  | [u0,u1,u2],_=>simp[List.flatMap_cons,he,hy]
 | x::l,j+1,h=>by
  have ih:=bR7 hsz hy l j (by simpa using h)
  rw[List.flatMap_cons,List.set_cons_succ,List.flatMap_cons,← ih]
  have hx:=hsz x
  match he:enc x,hx with
  | [u0,u1,u2],_ =>
   rw[show(j+1)*3=j*3+3 from by omega];simp
theorem bG8{α:Type}{enc:α→List Value}(hsz:∀ x:α,(enc x).length=4){y:α}{v0 v1 v2 v3:Value}(hy:enc y=[v0,v1,v2,v3]):∀ (l:List α) (j:Nat),j<l.length→((((l.flatMap enc).set (j*4) v0).set (j*4+1) v1).set (j*4+2) v2).set (j*4+3) v3=(l.set j y).flatMap enc
 | [],j,h=>by simp at h
 | x::l,0,_=>by
  have hx:=hsz x
  match he:enc x,hx with
  | [u0,u1,u2,u3],_=>simp[List.flatMap_cons,he,hy]
 | x::l,j+1,h=>by
  have ih:=bG8 hsz hy l j (by simpa using h)
  rw[List.flatMap_cons,List.set_cons_succ,List.flatMap_cons,← ih]
  have hx:=hsz x
  match he:enc x,hx with
  | [u0,u1,u2,u3],_ =>
   rw[show(j+1)*4=j*4+4 from by omega];simp
def ag5{α:Type}(mk:Nat→α)(l:List α)(j:Nat):List α:=(List.range j).map mk++l.drop j
theorem s7{α:Type}{mk:Nat→α}{l:List α}{j:Nat}(hj:j≤l.length):(ag5 mk l j).length=l.length:=by simp[ag5];omega
theorem ae4{α:Type}{mk:Nat→α}{l:List α}{j:Nat}(hj:j<l.length):(ag5 mk l j).set j (mk j)=ag5 mk l (j+1):=by
 have e:∀ y:α,(l.drop j).set 0 y=y::l.drop (j+1):=fun y=>by rw[List.drop_eq_getElem_cons hj];rfl
 unfold ag5
 rw[List.set_append_right _ _ (by simp),List.range_succ,List.map_append]
 simp[e]
theorem Y7{α:Type}{mk:Nat→α}{l:List α}:ag5 mk l 0=l:=by simp[ag5]
theorem ae3{α:Type}{mk:Nat→α}{l:List α}:ag5 mk l l.length=(List.range l.length).map mk:=by simp[ag5]
theorem Own.open{α:Type}{enc:α→List Value}{T size B n:Nat}{w:World}{a:Option Addr}{c:Nat}{l:List α}(h:Own enc T size B w a c l)(hn:0<l.length) :
  ∃ g,a=some ⟨g,0,none⟩∧B≤g∧g<w.heap.size:=by
 obtain⟨hsz,hlen,h1|⟨g,cap,cur,hv,hg,hh,-⟩⟩:=h
 ·omega
 ·simp only[Value.slice.injEq]at hv
  exact⟨g,hv.1,hg,(Array.getElem?_eq_some_iff.1 hh).1⟩
theorem Own.cells{α:Type}{enc:α→List Value}{T size B g:Nat}{w:World}{c:Nat}{l:List α}(h:Own enc T size B w (some ⟨g,0,none⟩) c l){j:Nat}(hj:j<l.length*size):∃ v,w.cell? ⟨g,j,none⟩=some v:=by
 have h1:=h.2.cellAt (n:=l.length) j hj
 exact⟨_,h1.trans (List.getElem?_eq_getElem (by rw[F8 h.1];exact hj))⟩
theorem Own.free{α:Type}{enc:α→List Value}{T size B g:Nat}{w:World}{c:Nat}{l:List α}(h:Own enc T size B w (some ⟨g,0,none⟩) c l)(j:Nat):w.frozen? ⟨g,j,none⟩=false:=h.2.frozenAt j
def ag0{α:Type}(enc:α→List Value)(T size B:Nat)(w:World)(a:Option Addr)(n c:Nat)(l':List α)(k:Int):Ending→World→Prop:=fun e w' =>
 e=.returned (.int .i64 k)∧w.grownBy w' (Value.ownBlock (.slice a n c))∧Own enc T size B w' a c l'
theorem Own.put1{α:Type}{enc:α→List Value}{T B g:Nat}{w:World}{c:Nat}{l:List α}(h:Own enc T 1 B w (some ⟨g,0,none⟩) c l){j:Nat}(hj:j<l.length){y:α}{v0:Value}(hy:enc y=[v0]) :
  Own enc T 1 B ((w).setCell ⟨g,j,none⟩ v0) (some ⟨g,0,none⟩) c (l.set j y)∧w.grownBy ((w).setCell ⟨g,j,none⟩ v0) (some g):=by
 have s0:=(h.2).stored (j) v0
 refine⟨⟨h.1,?_⟩,s0.2⟩
 rw[← bR6 h.1 hy l j hj,List.length_set]
 exact s0.1
theorem Own.put2{α:Type}{enc:α→List Value}{T B g:Nat}{w:World}{c:Nat}{l:List α}(h:Own enc T 2 B w (some ⟨g,0,none⟩) c l){j:Nat}(hj:j<l.length){y:α}{v0 v1:Value}(hy:enc y=[v0,v1]) :
  Own enc T 2 B (((w).setCell ⟨g,j*2,none⟩ v0).setCell ⟨g,j*2+1,none⟩ v1) (some ⟨g,0,none⟩) c (l.set j y)∧w.grownBy (((w).setCell ⟨g,j*2,none⟩ v0).setCell ⟨g,j*2+1,none⟩ v1) (some g):=by
 have s0:=(h.2).stored (j*2) v0
 have s1:=(s0.1).stored (j*2+1) v1
 refine⟨⟨h.1,?_⟩,(B3 s0.2 s1.2)⟩
 rw[← bG7 h.1 hy l j hj,List.length_set]
 exact s1.1
theorem Own.put3{α:Type}{enc:α→List Value}{T B g:Nat}{w:World}{c:Nat}{l:List α}(h:Own enc T 3 B w (some ⟨g,0,none⟩) c l){j:Nat}(hj:j<l.length){y:α}{v0 v1 v2:Value}(hy:enc y=[v0,v1,v2]) :
  Own enc T 3 B ((((w).setCell ⟨g,j*3,none⟩ v0).setCell ⟨g,j*3+1,none⟩ v1).setCell ⟨g,j*3+2,none⟩ v2) (some ⟨g,0,none⟩) c (l.set j y)∧w.grownBy ((((w).setCell ⟨g,j*3,none⟩ v0).setCell ⟨g,j*3+1,none⟩ v1).setCell ⟨g,j*3+2,none⟩ v2) (some g):=by
 have s0:=(h.2).stored (j*3) v0
 have s1:=(s0.1).stored (j*3+1) v1
 have s2:=(s1.1).stored (j*3+2) v2
 refine⟨⟨h.1,?_⟩,(B3 (B3 s0.2 s1.2) s2.2)⟩
 rw[← bR7 h.1 hy l j hj,List.length_set]
 exact s2.1
theorem Own.put4{α:Type}{enc:α→List Value}{T B g:Nat}{w:World}{c:Nat}{l:List α}(h:Own enc T 4 B w (some ⟨g,0,none⟩) c l){j:Nat}(hj:j<l.length){y:α}{v0 v1 v2 v3:Value}(hy:enc y=[v0,v1,v2,v3]) :
  Own enc T 4 B (((((w).setCell ⟨g,j*4,none⟩ v0).setCell ⟨g,j*4+1,none⟩ v1).setCell ⟨g,j*4+2,none⟩ v2).setCell ⟨g,j*4+3,none⟩ v3) (some ⟨g,0,none⟩) c (l.set j y)∧w.grownBy (((((w).setCell ⟨g,j*4,none⟩ v0).setCell ⟨g,j*4+1,none⟩ v1).setCell ⟨g,j*4+2,none⟩ v2).setCell ⟨g,j*4+3,none⟩ v3) (some g):=by
 have s0:=(h.2).stored (j*4) v0
 have s1:=(s0.1).stored (j*4+1) v1
 have s2:=(s1.1).stored (j*4+2) v2
 have s3:=(s2.1).stored (j*4+3) v3
 refine⟨⟨h.1,?_⟩,(B3 (B3 (B3 s0.2 s1.2) s2.2) s3.2)⟩
 rw[← bG8 h.1 hy l j hj,List.length_set]
 exact s3.1
def bR1(a:Option Addr)(B U:Nat):Prop:=∀ k,Value.ownBlock (.slice a 0 0)=some k→B≤k∧k<U
theorem Own.keep{α:Type}{enc:α→List Value}{T size B B1 U1 B2 U2 n2 c2:Nat}{V w1:World}{a a2:Option Addr}{c:Nat}{l:List α}(h:Own enc T size B V a c l)(hg:V.grownBy w1 (Value.ownBlock (.slice a2 n2 c2)))
  (i1:bR1 a B1 U1) (i2:bR1 a2 B2 U2) (hd:LeN U1 B2∨LeN U2 B1):Own enc T size B w1 a c l:=by
 refine⟨h.1,h.2.kept hg ?_⟩
 cases a with
 | none=>exact .inl rfl
 | some a =>
  right
  cases a2 with
  | none=>simp[Value.ownBlock]
  | some b =>
   have h1:=i1 _ rfl
   have h2:=i2 _ rfl
   intro he
   simp only[Value.ownBlock,Option.some.injEq]at he
   rcases hd with hd|hd
   ·have:=hd.out;omega
   ·have:=hd.out;omega
def av9(k0:Int)(i:Nat):ao3:=(⟨k0+i*2,k0+i*2+1⟩:ao3)
theorem bm7{a:Option Addr}{n c B:Nat}{k0:Int}{l:List ao3}{w:World}(hown0:Own ak3 178 2 B w a c l)(hn:l.length=n)(hm:n≤100000000)(h1:0≤k0)(h2:k0≤1000000000000) :
  Calls Tryz.prog 48 #[.slice a n c,.int .i64 k0] w (ag0 ak3 178 2 B w a n c ((List.range n).map (av9 k0)) (k0+n*2)):=by
 go_enter Tryz.func48,Tryz.ntmps48
 go_wp2_with (fail)
 go_loopw [1,5] (fun u v wr=>∃ j:Nat,v=.int .i64 j∧u=.int .i64 (k0+j*2)∧j≤n∧w.grownBy wr (Value.ownBlock (.slice a n c))∧Own ak3 178 2 B wr a c (ag5 (av9 k0) l j)) (fun _ v _=>(n - intOf v).toNat)
 case atStart=>exact⟨0,rfl,by simp,by omega,U8 _ _,by rw[Y7];exact hown0⟩
 case round =>
  obtain⟨j,rfl,rfl,hj,hgr,hown⟩:=hrel
  by_cases h:j<n
  ·obtain⟨g,rfl,hB,hlt⟩:=hown.open (n:=n) (by rw[s7 (by omega)];omega)
   obtain⟨o0,g0⟩:=hown.cells (j:=j*2) (by rw[s7 (by omega)];omega);obtain⟨o1,g1⟩:=hown.cells (j:=j*2+1) (by rw[s7 (by omega)];omega);
   have f0:=hown.free (j*2);have f1:=hown.free (j*2+1);
   have HG:=lH hgr;clear hgr
   go_wp2_with (fail)
   go_roundw
   case rel =>
    have hp:=hown.put2 (j:=j) (y:=av9 k0 j) (by rw[s7 (by omega)];omega) rfl
    exact⟨j+1,by go_num,by go_num,by omega,B3 HG.out hp.2,by rw[← ae4 (by omega)];exact hp.1⟩
   case measure=>simp[intOf];omega
  ·go_wp2_with (fail)
   go_ret
   obtain rfl:j=n:=by omega
   refine⟨rfl,hgr,?_⟩
   rw[← hn,ae3]at hown
   rw[← hn];exact hown
theorem bm5{a:Option Addr}{n c:Nat}{k0:Int}{w:World}(hs:Sl ak3 w a ((List.range n).map (av9 k0)))(hm:n≤100000000)(h1:0≤k0)(h2:k0≤1000000000000) :
  Calls Tryz.prog 53 #[.slice a n c,.int .i64 k0] w (b4 w (.int .i64 (k0+n*2))):=by
 go_enter Tryz.func53,Tryz.ntmps53
 go_wp2_with (fail)
 go_loopw [1,5] (fun u v wr=>∃ j:Nat,v=.int .i64 j∧u=.int .i64 (k0+j*2)∧j≤n∧∃ x:b5 w,wr=x.w) (fun _ v _=>(n - intOf v).toNat)
 case atStart=>exact⟨0,rfl,by simp,by omega,b5.of⟩
 case round =>
  obtain⟨j,rfl,rfl,hj,x0,rfl⟩:=hrel
  by_cases h:j<n
  ·obtain⟨b,off,s,rfl,hb,hd,e0,e1⟩:=hs.slot (k:=j) (by simpa using h)
   obtain rfl:s=av9 k0 j:=by
    have:=congrArg (fun m=>m[0]?) hd.out
    simpa[h]using this.symm
   simp only[av9]at e0 e1
   clear hd
   go_wp2_with (fail)
   go_roundw
   case rel=>exact⟨j+1,by go_num,by go_num,by omega,b5.of⟩
   case measure=>simp[intOf];omega
  ·go_wp2_with (fail)
   go_ret
   obtain rfl:j=n:=by omega
   exact b4.mk rfl
def av8(k0:Int)(i:Nat):af2:=(⟨k0+i*2,k0+i*2+1⟩:af2)
theorem bm6{a:Option Addr}{n c B:Nat}{k0:Int}{l:List af2}{w:World}(hown0:Own Y8 198 2 B w a c l)(hn:l.length=n)(hm:n≤100000000)(h1:0≤k0)(h2:k0≤1000000000000) :
  Calls Tryz.prog 144 #[.slice a n c,.int .i64 k0] w (ag0 Y8 198 2 B w a n c ((List.range n).map (av8 k0)) (k0+n*2)):=by
 go_enter Tryz.func144,Tryz.ntmps144
 go_wp2_with (fail)
 go_loopw [1,5] (fun u v wr=>∃ j:Nat,v=.int .i64 j∧u=.int .i64 (k0+j*2)∧j≤n∧w.grownBy wr (Value.ownBlock (.slice a n c))∧Own Y8 198 2 B wr a c (ag5 (av8 k0) l j)) (fun _ v _=>(n - intOf v).toNat)
 case atStart=>exact⟨0,rfl,by simp,by omega,U8 _ _,by rw[Y7];exact hown0⟩
 case round =>
  obtain⟨j,rfl,rfl,hj,hgr,hown⟩:=hrel
  by_cases h:j<n
  ·obtain⟨g,rfl,hB,hlt⟩:=hown.open (n:=n) (by rw[s7 (by omega)];omega)
   obtain⟨o0,g0⟩:=hown.cells (j:=j*2) (by rw[s7 (by omega)];omega);obtain⟨o1,g1⟩:=hown.cells (j:=j*2+1) (by rw[s7 (by omega)];omega);
   have f0:=hown.free (j*2);have f1:=hown.free (j*2+1);
   have HG:=lH hgr;clear hgr
   go_wp2_with (fail)
   go_roundw
   case rel =>
    have hp:=hown.put2 (j:=j) (y:=av8 k0 j) (by rw[s7 (by omega)];omega) rfl
    exact⟨j+1,by go_num,by go_num,by omega,B3 HG.out hp.2,by rw[← ae4 (by omega)];exact hp.1⟩
   case measure=>simp[intOf];omega
  ·go_wp2_with (fail)
   go_ret
   obtain rfl:j=n:=by omega
   refine⟨rfl,hgr,?_⟩
   rw[← hn,ae3]at hown
   rw[← hn];exact hown
theorem bm4{a:Option Addr}{n c:Nat}{k0:Int}{w:World}(hs:Sl Y8 w a ((List.range n).map (av8 k0)))(hm:n≤100000000)(h1:0≤k0)(h2:k0≤1000000000000) :
  Calls Tryz.prog 152 #[.slice a n c,.int .i64 k0] w (b4 w (.int .i64 (k0+n*2))):=by
 go_enter Tryz.func152,Tryz.ntmps152
 go_wp2_with (fail)
 go_loopw [1,5] (fun u v wr=>∃ j:Nat,v=.int .i64 j∧u=.int .i64 (k0+j*2)∧j≤n∧∃ x:b5 w,wr=x.w) (fun _ v _=>(n - intOf v).toNat)
 case atStart=>exact⟨0,rfl,by simp,by omega,b5.of⟩
 case round =>
  obtain⟨j,rfl,rfl,hj,x0,rfl⟩:=hrel
  by_cases h:j<n
  ·obtain⟨b,off,s,rfl,hb,hd,e0,e1⟩:=hs.pair (k:=j) (by simpa using h)
   obtain rfl:s=av8 k0 j:=by
    have:=congrArg (fun m=>m[0]?) hd.out
    simpa[h]using this.symm
   simp only[av8]at e0 e1
   clear hd
   go_wp2_with (fail)
   go_roundw
   case rel=>exact⟨j+1,by go_num,by go_num,by omega,b5.of⟩
   case measure=>simp[intOf];omega
  ·go_wp2_with (fail)
   go_ret
   obtain rfl:j=n:=by omega
   exact b4.mk rfl
def bb7(k0:Int)(i:Nat):Int:=(k0+i)
theorem bs9{a:Option Addr}{n c B:Nat}{k0:Int}{l:List Int}{w:World}(hown0:Own K0 3 1 B w a c l)(hn:l.length=n)(hm:n≤100000000)(h1:0≤k0)(h2:k0≤1000000000000) :
  Calls Tryz.prog 230 #[.slice a n c,.int .i64 k0] w (ag0 K0 3 1 B w a n c ((List.range n).map (bb7 k0)) (k0+n*1)):=by
 go_enter Tryz.func230,Tryz.ntmps230
 go_wp2_with (fail)
 go_loopw [1,5] (fun u v wr=>∃ j:Nat,v=.int .i64 j∧u=.int .i64 (k0+j*1)∧j≤n∧w.grownBy wr (Value.ownBlock (.slice a n c))∧Own K0 3 1 B wr a c (ag5 (bb7 k0) l j)) (fun _ v _=>(n - intOf v).toNat)
 case atStart=>exact⟨0,rfl,by simp,by omega,U8 _ _,by rw[Y7];exact hown0⟩
 case round =>
  obtain⟨j,rfl,rfl,hj,hgr,hown⟩:=hrel
  by_cases h:j<n
  ·obtain⟨g,rfl,hB,hlt⟩:=hown.open (n:=n) (by rw[s7 (by omega)];omega)
   obtain⟨o0,g0⟩:=hown.cells (j:=j) (by rw[s7 (by omega)];omega);
   have f0:=hown.free (j);
   have HG:=lH hgr;clear hgr
   go_wp2_with (fail)
   go_roundw
   case rel =>
    have hp:=hown.put1 (j:=j) (y:=bb7 k0 j) (by rw[s7 (by omega)];omega) rfl
    exact⟨j+1,by go_num,by go_num,by omega,B3 HG.out hp.2,by rw[← ae4 (by omega)];exact hp.1⟩
   case measure=>simp[intOf];omega
  ·go_wp2_with (fail)
   go_ret
   obtain rfl:j=n:=by omega
   refine⟨rfl,hgr,?_⟩
   rw[← hn,ae3]at hown
   rw[← hn];exact hown
theorem bs7{a:Option Addr}{n c:Nat}{k0:Int}{w:World}(hs:Sl K0 w a ((List.range n).map (bb7 k0)))(hm:n≤100000000)(h1:0≤k0)(h2:k0≤1000000000000) :
  Calls Tryz.prog 236 #[.slice a n c,.int .i64 k0] w (b4 w (.int .i64 (k0+n*1))):=by
 go_enter Tryz.func236,Tryz.ntmps236
 go_wp2_with (fail)
 go_loopw [1,5] (fun u v wr=>∃ j:Nat,v=.int .i64 j∧u=.int .i64 (k0+j*1)∧j≤n∧∃ x:b5 w,wr=x.w) (fun _ v _=>(n - intOf v).toNat)
 case atStart=>exact⟨0,rfl,by simp,by omega,b5.of⟩
 case round =>
  obtain⟨j,rfl,rfl,hj,x0,rfl⟩:=hrel
  by_cases h:j<n
  ·obtain⟨b,off,s,rfl,hb,hd,e0⟩:=hs.int (k:=j) (by simpa using h)
   obtain rfl:s=bb7 k0 j:=by
    have:=congrArg (fun m=>m[0]?) hd.out
    simpa[h]using this.symm
   simp only[bb7]at e0
   clear hd
   go_wp2_with (fail)
   go_roundw
   case rel=>exact⟨j+1,by go_num,by go_num,by omega,b5.of⟩
   case measure=>simp[intOf];omega
  ·go_wp2_with (fail)
   go_ret
   obtain rfl:j=n:=by omega
   exact b4.mk rfl
def i9(w:World)(b:Nat)(cs:List Value)(T:TypeId):Prop:=w.heap[b]?=some (.cells cs.toArray T (0,0))
theorem i9.new(W:World)(cs:List Value)(T g:Nat)(hg:W.heap.size=g):i9 (W.alloc (.cells cs.toArray T)) g cs T:=W9 W _ g hg
theorem i9.to{w W:World}{b:Nat}{cs:List Value}{T:TypeId}(h:i9 w b cs T)(g:d5 w W):i9 W b cs T:=bJ5 (gr:=g) h
theorem i9.lt{w:World}{b:Nat}{cs:List Value}{T:TypeId}(h:i9 w b cs T):b<w.heap.size:=(Array.getElem?_eq_some_iff.1 h).1
theorem i9.ltN{w:World}{b:Nat}{cs:List Value}{T:TypeId}(h:i9 w b cs T):LtN b w.heap.size:=⟨h.lt⟩
theorem i9.cell{w:World}{b:Nat}{cs:List Value}{T:TypeId}(h:i9 w b cs T)(i:Nat):w.cell? ⟨b,i,none⟩=cs[i]?:=by simp[World.cell?,show w.heap[b]?=_ from h]
theorem i9.free{w:World}{b:Nat}{cs:List Value}{T:TypeId}(h:i9 w b cs T)(i:Nat):w.frozen? ⟨b,i,none⟩=false:=by simp[World.frozen?,show w.heap[b]?=_ from h]
theorem i9.set{w:World}{b:Nat}{cs:List Value}{T:TypeId}(h:i9 w b cs T)(i:Nat)(v:Value):i9 (w.setCell ⟨b,i,none⟩ v) b (cs.set i v) T:=by
 have h':w.heap[b]?=some (.cells cs.toArray T (0,0)):=h
 unfold i9 World.setCell
 simp[Array.getElem?_modify,h']
theorem Own.notHeld{α:Type}{enc:α→List Value}{T T' size B n:Nat}{w:World}{a:Option Addr}{c b:Nat}{l:List α}{cs:List Value}(h:Own enc T size B w a c l)(hb:i9 w b cs T')(hT:T≠T'):some b≠Value.ownBlock (.slice a n c):=by
 obtain⟨-,-,⟨h1,-⟩|⟨g,cap,cur,hv,-,hh,-⟩⟩:=h
 ·simp only[Value.slice.injEq]at h1;obtain⟨rfl,-⟩:=h1;simp[Value.ownBlock]
 ·simp only[Value.slice.injEq]at hv;obtain⟨rfl,-⟩:=hv
  simp only[Value.ownBlock,ne_eq,Option.some.injEq]
  rintro rfl
  have hb':w.heap[b]?=some (.cells cs.toArray T' (0,0)):=hb
  rw[hb']at hh
  simp only[Option.some.injEq,Obj.cells.injEq]at hh
  exact hT hh.2.1.symm
theorem i9.kept{α:Type}{enc:α→List Value}{T T' size B n:Nat}{w w':World}{a:Option Addr}{c b:Nat}{l:List α}{cs:List Value}(hb:i9 w b cs T')(h:Own enc T size B w a c l)(hT:T≠T')(hg:w.grownBy w' (Value.ownBlock (.slice a n c))):i9 w' b cs T' :=
 N5 hg hb (h.notHeld hb hT)
theorem Own.set{α:Type}{enc:α→List Value}{T T' size B:Nat}{w:World}{a:Option Addr}{c b:Nat}{l:List α}{cs:List Value}(h:Own enc T size B w a c l)(hb:i9 w b cs T')(hT:T≠T')(i:Nat)(v:Value):Own enc T size B (w.setCell ⟨b,i,none⟩ v) a c l:=by
 refine⟨h.1,h.2.kept (row:=some b) ⟨rfl,rfl,rfl,by simp,fun k hk hr=>?_⟩ (.inr (fun e=>h.notHeld (n:=l.length) hb hT e.symm))⟩
 rw[Below.heap_setCell _ _ _ _ (fun e=>hr (by simp only at e;rw[e]))]
theorem Own.low{α:Type}{enc:α→List Value}{T size B:Nat}{w:World}{a:Option Addr}{c b:Nat}{l:List α}(h:Own enc T size B w a c l)(hb:b<B)(i:Nat)(v:Value):Own enc T size B (w.setCell ⟨b,i,none⟩ v) a c l:=by
 refine⟨h.1,h.2.kept (row:=some b) ⟨rfl,rfl,rfl,by simp,fun k hk hr=>?_⟩ ?_⟩
 ·rw[Below.heap_setCell _ _ _ _ (fun e=>hr (by simp only at e;rw[e]))]
 ·cases ha:Value.ownBlock (.slice a l.length c)with
  | none=>exact .inl rfl
  | some k =>
   right
   have:=h.2.lt k ha
   intro e
   simp only[Option.some.injEq]at e
   omega
theorem Own.lowS{α:Type}{enc:α→List Value}{T size B:Nat}{w:World}{x:b5 w}{a:Option Addr}{c b:Nat}{l:List α}(h:Own enc T size B x.w a c l)(hb:b<B)(i:Nat)(v:Value):Own enc T size B (x.set ⟨b,i,none⟩ v).w a c l:=h.low hb i v
theorem i9.cellG{w:World}{b:Nat}{cs:List Value}{T:TypeId}(h:i9 w b cs T)(i:Nat)(v:Value)(hv:cs[i]?=some v):∀ (W:World) [d5 w W],W.cell? ⟨b,i,none⟩=some v:=fun W g=>by rw[(h.to g).cell i];exact hv
theorem i9.freeG{w:World}{b:Nat}{cs:List Value}{T:TypeId}(h:i9 w b cs T)(i:Nat):∀ (W:World) [d5 w W],W.frozen? ⟨b,i,none⟩=false:=fun W g=>(h.to g).free i
theorem i9.four{w:World}{b:Nat}{v0 v1 v2 v3:Value}{T:TypeId}(h:i9 w b [v0,v1,v2,v3] T) :
  (∀ (W:World) [d5 w W],W.cell? ⟨b,0,none⟩=some v0)∧(∀ (W:World) [d5 w W],W.cell? ⟨b,1,none⟩=some v1)∧(∀ (W:World) [d5 w W],W.cell? ⟨b,2,none⟩=some v2)∧(∀ (W:World) [d5 w W],W.cell? ⟨b,3,none⟩=some v3) ∧
  (∀ (W:World) [d5 w W],W.frozen? ⟨b,0,none⟩=false)∧(∀ (W:World) [d5 w W],W.frozen? ⟨b,1,none⟩=false)∧(∀ (W:World) [d5 w W],W.frozen? ⟨b,2,none⟩=false)∧(∀ (W:World) [d5 w W],W.frozen? ⟨b,3,none⟩=false) :=
 ⟨h.cellG 0 _ rfl,h.cellG 1 _ rfl,h.cellG 2 _ rfl,h.cellG 3 _ rfl,h.freeG 0,h.freeG 1,h.freeG 2,h.freeG 3⟩
theorem bi9{P:Program}{w:World}{r:Reach}{base:Nat}{t:TypeId}{v:Value}{fs:Array Field}(ht:P.underlying t=some (.struct fs))(h:Value.okWide P w r base t v):∃ cs,v=.agg cs∧cs.size=P.cellsOf t:=by
 simp only[Value.okWide,ht]at h
 obtain⟨cs,h1,h2,-⟩:=h
 exact⟨cs,h1,h2⟩
/-! ### Slices of numbers -/
theorem aY3{a:Option Addr}{n c:Nat}{l:List Int}{w:World}(hs:Sl K0 w a l)(hn:l.length=n)(hm:n≤100000000) :
  Calls Tryz.prog 197 #[.slice a n c] w (N0 K0 3 1 w l):=by
 cases a with
 | none =>
  have hl:l=[]:=by
   cases l with
   | nil=>rfl
   | cons y r=>obtain⟨b,off,h0,-⟩:=hs 0 y rfl;cases h0
  have hq:=fun(w:World)=>run_eql_slice_nil (P:=Tryz.prog) w 46 3 none n c Tryz.underlying46
  simp only[Option.isNone]at hq
  have HL:=lH hl;clear hl
  go_enter Tryz.func197,Tryz.ntmps197
  go_wp2_with (fail)
  go_ret
  exact N0.nilOf ak9 HL.out
 | some ad =>
  have hq:=fun(w:World)=>run_eql_slice_nil (P:=Tryz.prog) w 46 3 (some ad) n c Tryz.underlying46
  simp only[Option.isNone]at hq
  go_enter Tryz.func197,Tryz.ntmps197
  go_wp2_with (first|(at_builtin;refine J9 (enc:=K0) (w0:=w) (z:=.int .i64 0) (size:=1) (bytes:=8) (n:=0) (l:=[]) rfl (.tmp 5) (.tmp 6) rfl Tryz.underlying46 kr rfl (by decide) (by decide) rfl rfl (fun h=>by cases h) rfl hn (Own.emptyAt ak9 nl rfl) (hs.to ii) af5 (by omega) ?_;intro sa1 sc1 x1 hown1 hgr1))
  go_ret
  rw[List.nil_append]at hown1
  exact⟨sa1,sc1,by rw[hn];first|rfl|simp,hown1,b5.of⟩
class NeN(a b:Nat):Prop where
 out:a≠b
instance(priority:=60) NeN.ofLt (a b:Nat)[h:LtN a b]:NeN a b:=⟨Nat.ne_of_lt h.out⟩
instance(priority:=55) NeN.ofGt (a b:Nat)[h:LtN b a]:NeN a b:=⟨Nat.ne_of_gt h.out⟩
theorem bj6(W:World)(b i b' j:Nat)(v:Value)(h:b≠b'):(W.setCell ⟨b,i,none⟩ v).cell? ⟨b',j,none⟩=W.cell? ⟨b',j,none⟩:=World.cell?_setCell_far W ⟨b,i,none⟩ ⟨b',j,none⟩ v h
@[go_sem] theorem bT8(W:World)(b i b' j:Nat)(v:Value)[h:NeN b b']:(W.setCell ⟨b,i,none⟩ v).cell? ⟨b',j,none⟩=W.cell? ⟨b',j,none⟩:=bj6 W b i b' j v h.out
namespace b5
variable {W:World}
@[go_sem] theorem bQ9(x:b5 W)(b i b' j:Nat)(v:Value)[h:NeN b b']:(x.set ⟨b,i,none⟩ v).w.cell? ⟨b',j,none⟩=x.w.cell? ⟨b',j,none⟩:=bj6 x.w b i b' j v h.out
@[go_sem] theorem bT4(x:b5 W)(b i:Nat)(v:Value)(p:Addr):(x.set ⟨b,i,none⟩ v).w.frozen? p=x.w.frozen? p:=by simp[b5.set]
end b5
instance d5.setL(a:World){W:World}(x:b5 W)(b i:Nat)(v:Value)[h:d5 a x.w][k:LeN a.heap.size b]:d5 a (x.set ⟨b,i,none⟩ v).w:=⟨h.out.setCell k.out v⟩
class SzN(g:Nat)(W:World):Prop where
 out:W.heap.size=g
instance SzN.same(W:World):SzN W.heap.size W:=⟨rfl⟩
instance SzN.set(g:Nat){W:World}(x:b5 W)(p:Addr)(v:Value)[h:SzN g x.w]:SzN g (x.set p v).w:=⟨by have:=h.out;simpa[b5.set]using this⟩
instance SzN.setCell(g:Nat)(W:World)(p:Addr)(v:Value)[h:SzN g W]:SzN g (W.setCell p v):=⟨by have:=h.out;simpa using this⟩
instance SzN.drew(g:Nat)(W:World)[h:SzN g W]:SzN g W.drew:=⟨h.out⟩
@[go_sem] theorem bT9(W:World)(C:Array Value)(T:TypeId)(g i:Nat)[h:SzN g W]:(W.alloc (.cells C T)).cell? ⟨g,i,none⟩=C[i]?:=by
 have:=W9 W (.cells C T) g h.out
 simp[World.cell?,this]
@[go_sem] theorem bR5(W:World)(C:Array Value)(T:TypeId)(g i:Nat)[h:SzN g W]:(W.alloc (.cells C T)).frozen? ⟨g,i,none⟩=false:=by
 have:=W9 W (.cells C T) g h.out
 simp[World.frozen?,this]
def R3(s:ByteArray):List Value:=[.string s]
theorem aJ1(n:ByteArray):(R3 n).length=1:=rfl
theorem as6(n:ByteArray):∀ u∈R3 n,u.oneCell'=true:=by intro u hu;simp[R3]at hu;subst hu;rfl
theorem Sl.str{w:World}{a:Option Addr}{l:List ByteArray}(h:Sl R3 w a l){k:Nat}(hk:k<l.length) :
  ∃ b off s,a=some ⟨b,off,none⟩∧LtN b w.heap.size∧Hid (l.drop k=s::l.drop (k+1))∧(∀ (W:World) [d5 w W],W.cell? ⟨b,off+k,none⟩=some (.string s)):=by
 obtain⟨s,hs,hd⟩:=ah0 hk
 obtain⟨b,off,ha,hb,hc⟩:=h k s hs
 exact⟨b,off,s,ha,⟨hb⟩,hd,j5 hb (by simpa[R3]using hc 0 _ rfl)⟩
theorem bz6{a:Option Addr}{n c:Nat}{l:List ByteArray}{w:World}(hs:Sl R3 w a l)(hn:l.length=n)(hm:n≤100000000) :
  Calls Tryz.prog 103 #[.slice a n c] w (N0 R3 9 1 w l):=by
 cases a with
 | none =>
  have hl:l=[]:=by
   cases l with
   | nil=>rfl
   | cons y r=>obtain⟨b,off,h0,-⟩:=hs 0 y rfl;cases h0
  have hq:=fun(w:World)=>run_eql_slice_nil (P:=Tryz.prog) w 30 9 none n c Tryz.underlying30
  simp only[Option.isNone]at hq
  have HL:=lH hl;clear hl
  go_enter Tryz.func103,Tryz.ntmps103
  go_wp2_with (fail)
  go_ret
  exact N0.nilOf aJ1 HL.out
 | some ad =>
  have hq:=fun(w:World)=>run_eql_slice_nil (P:=Tryz.prog) w 30 9 (some ad) n c Tryz.underlying30
  simp only[Option.isNone]at hq
  go_enter Tryz.func103,Tryz.ntmps103
  go_wp2_with (first|(at_builtin;refine J9 (enc:=R3) (w0:=w) (z:=.string ByteArray.empty) (size:=1) (bytes:=16) (n:=0) (l:=[]) rfl (.tmp 5) (.tmp 6) rfl Tryz.underlying30 kr rfl (by decide) (by decide) rfl rfl (fun h=>by cases h) rfl hn (Own.emptyAt aJ1 nl rfl) (hs.to ii) as6 (by omega) ?_;intro sa1 sc1 x1 hown1 hgr1))
  go_ret
  rw[List.nil_append]at hown1
  exact⟨sa1,sc1,by rw[hn];first|rfl|simp,hown1,b5.of⟩
