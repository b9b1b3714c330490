/- Words for walks: 'Later W' is a world that has grown out of W (below W's size nothing has turned); a contract that gives one value and a later world. -/
import Derived.Test.YthbepablpaldgaaGreatRows
import Derived.WalkKit
import Derived.ProofKit
import Derived.OpenShut
import Derived.WalkLawsBesides
import Derived.WalkSpells
import Derived.Outline
import Derived.Deep.QuietTactic
import Derived.BigQuiet
import Derived.Lib.Hide
import Derived.Lib.SmallJoins
import Derived.Deep.Slices
import Derived.Laws.AppendOwnNone
import Derived.Deep.RegionLaw
import Derived.Lib.LazyBuf
namespace Go.Proofs.YthbepablpaldgaaGreat
set_option maxRecDepth 100000
set_option maxHeartbeats 2000000
set_option linter.unusedVariables false
open Go.ChangeShapes Go.WideShapes Go.ChangeAt Go.RowKit
structure Later(W:World) where
 w:World
 h:Below W.heap.size W w
namespace Later
variable {W:World}
def here(W:World):Later W:=⟨W,Below.refl _ _⟩
instance:Nonempty (Later W):=⟨here W⟩
def draw(x:Later W):Later W:=⟨x.w.drew,x.h.drew⟩
def andThen(x:Later W)(y:Later x.w):Later W:=⟨y.w,x.h.trans (y.h.mono x.h.size)⟩
theorem below_set{B:Nat}{w w':World}(h:Below B w w')(a:Addr)(v:Value):Below B (w.setCell a v) (w'.setCell a v):=by
 refine⟨h.os,h.tape,h.output,by simpa[World.setCell]using h.size,fun k hk=>?_⟩
 have:=h.block k hk
 simp only[World.setCell,Array.getElem?_modify,this]
def set(x:Later W)(a:Addr)(v:Value):Later (W.setCell a v):=⟨x.w.setCell a v,by
 have:=below_set x.h a v
 rwa[show(W.setCell a v).heap.size=W.heap.size from by simp]⟩
@[go_sem] theorem drew_eq(x:Later W):x.w.drew=x.draw.w:=rfl
@[go_sem] theorem andThen_eq(x:Later W)(y:Later x.w):y.w=(x.andThen y).w:=rfl
@[go_sem] theorem setCell_eq(x:Later W)(a:Addr)(v:Value):x.w.setCell a v=(x.set a v).w:=rfl
theorem size_le(x:Later W):W.heap.size≤x.w.heap.size:=x.h.size
end Later
/-! ### Facts that are found by their form: by instances, not by simp's own side goals (which go two deep alone) -/
class LeN(a b:Nat):Prop where
 out:a≤b
class LtN(a b:Nat):Prop where
 out:a<b
instance(priority:=50) LeN.ofLt (a b:Nat)[h:LtN a b]:LeN a b:=⟨Nat.le_of_lt h.out⟩
instance LeN.same(a:Nat):LeN a a:=⟨Nat.le_refl _⟩
instance LeN.succ(a b:Nat)[h:LeN a b]:LeN a (b+1):=⟨Nat.le_succ_of_le h.out⟩
instance LeN.later(a:Nat){W:World}(x:Later W)[h:LeN a W.heap.size]:LeN a x.w.heap.size:=⟨Nat.le_trans h.out x.size_le⟩
instance LeN.alloc(a:Nat)(W:World)(o:Obj)[h:LeN a W.heap.size]:LeN a (W.alloc o).heap.size:=⟨by have:=h.out;simp;omega⟩
instance LeN.setCell(a:Nat)(W:World)(p:Addr)(v:Value)[h:LeN a W.heap.size]:LeN a (W.setCell p v).heap.size:=⟨by simpa using h.out⟩
instance(priority:=900) LeN.andThen (a:Nat){W:World}(x:Later W)(y:Later x.w)[h:LeN a x.w.heap.size]:LeN a (x.andThen y).w.heap.size:=⟨Nat.le_trans h.out y.size_le⟩
instance LeN.allocS(a:Nat)(W:World)(o:Obj)[h:LeN a W.heap.size]:LeN (a+1) (W.alloc o).heap.size:=⟨by have:=h.out;simp;omega⟩
instance LeN.succS(a b:Nat)[h:LeN a b]:LeN (a+1) (b+1):=⟨Nat.succ_le_succ h.out⟩
instance LtN.allocS(a:Nat)(W:World)(o:Obj)[h:LtN a W.heap.size]:LtN (a+1) (W.alloc o).heap.size:=⟨by have:=h.out;simp;omega⟩
instance LtN.succS(a b:Nat)[h:LtN a b]:LtN (a+1) (b+1):=⟨Nat.succ_lt_succ h.out⟩
instance LtN.succ(a b:Nat)[h:LeN a b]:LtN a (b+1):=⟨Nat.lt_succ_of_le h.out⟩
instance LtN.later(a:Nat){W:World}(x:Later W)[h:LtN a W.heap.size]:LtN a x.w.heap.size:=⟨Nat.lt_of_lt_of_le h.out x.size_le⟩
instance LtN.alloc(a:Nat)(W:World)(o:Obj)[h:LeN a W.heap.size]:LtN a (W.alloc o).heap.size:=⟨by have:=h.out;simp;omega⟩
instance LtN.setCell(a:Nat)(W:World)(p:Addr)(v:Value)[h:LtN a W.heap.size]:LtN a (W.setCell p v).heap.size:=⟨by simpa using h.out⟩
instance(priority:=900) LtN.andThen (a:Nat){W:World}(x:Later W)(y:Later x.w)[h:LtN a x.w.heap.size]:LtN a (x.andThen y).w.heap.size:=⟨Nat.lt_of_lt_of_le h.out y.size_le⟩
instance(priority:=800) LtN.andThen2 (a:Nat){W:World}(x:Later W)(y:Later x.w)[h:LtN a y.w.heap.size]:LtN a (x.andThen y).w.heap.size:=h
instance(priority:=800) LeN.andThen2 (a:Nat){W:World}(x:Later W)(y:Later x.w)[h:LeN a y.w.heap.size]:LeN a (x.andThen y).w.heap.size:=h
namespace Later
variable {W:World}
@[go_sem] theorem cell_eq(x:Later W)(b o:Nat)[h:LtN b W.heap.size]:x.w.cell? ⟨b,o,none⟩=W.cell? ⟨b,o,none⟩:=x.h.cell (p:=⟨b,o,none⟩) h.out
@[go_sem] theorem frozen_eq(x:Later W)(b o:Nat)[h:LtN b W.heap.size]:x.w.frozen? ⟨b,o,none⟩=W.frozen? ⟨b,o,none⟩:=x.h.frozen (p:=⟨b,o,none⟩) h.out
@[go_sem] theorem cell_past(w:World)(o:Obj)(n i:Nat)[h:LtN n w.heap.size]:(w.alloc o).cell? ⟨n,i,none⟩=w.cell? ⟨n,i,none⟩:=World.cell?_alloc_past o n i h.out
@[go_sem] theorem frozen_past(w:World)(o:Obj)(n i:Nat)[h:LtN n w.heap.size]:(w.alloc o).frozen? ⟨n,i,none⟩=w.frozen? ⟨n,i,none⟩:=World.frozen?_alloc_past o n i h.out
@[go_sem] theorem set_past(w:World)(o:Obj)(n i:Nat)(v:Value)[h:LtN n w.heap.size]:(w.alloc o).setCell ⟨n,i,none⟩ v=(w.setCell ⟨n,i,none⟩ v).alloc o:=World.setCell_alloc_past o n i v h.out
@[go_sem] theorem lt_size(x:Later W)(b:Nat)[h:LtN b W.heap.size]:(b<x.w.heap.size)=True:=eq_true (Nat.lt_of_lt_of_le h.out x.h.size)
@[go_sem] theorem le_size(x:Later W)(b:Nat)[h:LeN b W.heap.size]:(b≤x.w.heap.size)=True:=eq_true (Nat.le_trans h.out x.h.size)
end Later
class Grows(w W:World):Prop where
 out:Below w.heap.size w W
instance Grows.same(w:World):Grows w w:=⟨Below.refl _ _⟩
instance Grows.alloc(w W:World)(o:Obj)[h:Grows w W]:Grows w (W.alloc o):=⟨h.out.alloc h.out.size o⟩
instance Grows.later(w W:World)[h:Grows w W](x:Later W):Grows w x.w:=⟨h.out.trans (x.h.mono h.out.size)⟩
instance Grows.drew(w W:World)[h:Grows w W]:Grows w W.drew:=⟨h.out.drew⟩
instance Grows.set(w W:World)(b i:Nat)(v:Value)[h:Grows w W][k:LeN w.heap.size b]:Grows w (W.setCell ⟨b,i,none⟩ v):=⟨h.out.setCell k.out v⟩
instance(priority:=900) Grows.andThen (a:World){W:World}(x:Later W)(y:Later x.w)[h:Grows a x.w]:Grows a (x.andThen y).w:=⟨h.out.trans (y.h.mono h.out.size)⟩
instance(priority:=950) Grows.andThenSelf {W:World}(x:Later W)(y:Later x.w):Grows y.w (x.andThen y).w:=⟨Below.refl _ _⟩
instance(priority:=50) LeN.grows (w W:World)[h:Grows w W]:LeN w.heap.size W.heap.size:=⟨h.out.size⟩
theorem Later.of{w W:World}[h:Grows w W]:∃ x:Later w,W=x.w:=⟨⟨W,h.out⟩,rfl⟩
theorem cell_grown{w:World}{b o:Nat}{v:Value}(hb:b<w.heap.size)(h:w.cell? ⟨b,o,none⟩=some v)(W:World)[g:Grows w W]:W.cell? ⟨b,o,none⟩=some v:=by
 rw[g.out.cell (p:=⟨b,o,none⟩) hb];exact h
def Gives(w:World)(v:Value):Ending→World→Prop:=fun e w'=>e=.returned v∧∃ x:Later w,w'=x.w
theorem Gives.mk{w:World}{v u:Value}{w':World}(hv:u=v)[h:Grows w w']:Gives w v (.returned u) w':=⟨by rw[hv],⟨w',h.out⟩,rfl⟩
theorem Gives.below{P:Program}{f:FuncId}{args:Array Value}{w:World}{v:Value}(h:Calls P f args w (Gives w v)) :
  Calls P f args w fun e w'=>e=.returned v∧Below w.heap.size w w' :=
 h.mono fun _ _ ⟨he,x,hx⟩=>⟨he,by rw[hx];exact x.h⟩
theorem Gives.quiet{P:Program}{f:FuncId}{args:Array Value}{W:World}{x:Later W}{v:Value}(h:Calls P f args x.w (Gives x.w v)) :
  Calls P f args x.w fun e w'=>e=.returned v∧∃ y:Later W,w'=y.w :=
 h.mono fun _ _ ⟨he,y,hy⟩=>⟨he,x.andThen y,hy⟩
theorem wp_region_later{P:Program}{id:Nat}{Q:Exit→Act→World→Prop}{a:Act}{W:World}{l:List Oper}(hm:P.follows .mixedOrders=true)(hB:Region.lexB .any l.toArray=true)
  (h:wpQuiet P l.toArray (fun w'=>∃ x:Later W,w'=x.w) (fun a'=>∀ w',(∃ x:Later W,w'=x.w)→Q .normal a' w') l a):(Code.region id l.toArray true).wp P Q a W :=
 wp_region_quiet (C:=fun w'=>∃ x:Later W,w'=x.w) hm hB ⟨⟨_,(Below.refl _ W).drew⟩,rfl⟩ (by simpa using h)
theorem lH{p:Prop}(h:p):Hid p:=h
theorem nrm:(∀ (a:Act) (d:Nat) (v:Value),a.put (some d) v={ a with tmps:=a.tmps.setIfInBounds d v })∧(∀ (a:Act) (v:Value),a.put none v=a)∧(∀ (l:List Value) (i:Nat) (v:Value),l.toArray.setIfInBounds i v=(l.set i v).toArray)∧(∀ (l:List Bool) (i:Nat) (v:Bool),l.toArray.setIfInBounds i v=(l.set i v).toArray)∧(∀ (x:Value) (l:List Value) (i:Nat) (v:Value),(x::l).set (i+1) v=x::l.set i v)∧(∀ (x:Value) (l:List Value) (v:Value),(x::l).set 0 v=v::l)∧(∀ (x:Bool) (l:List Bool) (i:Nat) (v:Bool),(x::l).set (i+1) v=x::l.set i v)∧(∀ (x:Bool) (l:List Bool) (v:Bool),(x::l).set 0 v=v::l) :=
 ⟨fun _ _ _=>rfl,fun _ _=>rfl,fun _ _ _=>List.setIfInBounds_toArray ..,fun _ _ _=>List.setIfInBounds_toArray ..,fun _ _ _ _=>rfl,fun _ _ _=>rfl,fun _ _ _ _=>rfl,fun _ _ _=>rfl⟩
theorem kr{p:Prop}(h:p:=by kernel_rfl):p:=h
theorem sd{p:Prop}(h:p:=by first|assumption|(apply Sl.to<;>first|assumption|infer_instance)|omega):p:=h
theorem bk{p:Prop}(h:p:=by first|(refine blk_alloc _ _ _ ?_;(first|rfl|(simp;done)))|(refine blk_past (blk_alloc _ _ _ ?_);(first|rfl|(simp;done)))|(refine blk_later _ (blk_alloc _ _ _ ?_);(first|rfl|(simp;done)))|(refine blk_later _ (blk_past (blk_alloc _ _ _ ?_));(first|rfl|(simp;done)))|(refine blk_past (blk_past (blk_alloc _ _ _ ?_));(first|rfl|(simp;done)))|assumption):p:=h
theorem kg{p:Prop}(h:p:=by first|kernel_rfl|go_simp):p:=h
theorem nl{n:Nat}:n≤n:=Nat.le_refl n
theorem nb{n m:Nat}(h:Nat.ble n m=true:=by exact rfl):n≤m:=Nat.le_of_ble_eq_true h
theorem dt{α:Type}{l:List α}:(l.drop 0).take l.length=l:=by rw[List.drop_zero,List.take_length]
abbrev ii:=@inferInstance.{0}
theorem rl{P:Program}{id:Nat}{Q:Exit→Act→World→Prop}{a:Act}{W:World}{l:List Oper}(h:wpQuiet P l.toArray (fun w'=>∃ x:Later W,w'=x.w) (fun a'=>∀ x:Later W,Q .normal a' x.w) l a)(hm:P.follows .mixedOrders=true:=by kernel_rfl)(hB:Region.lexB .any l.toArray=true:=by kernel_rfl):(Code.region id l.toArray true).wp P Q a W:=wp_region_quiet (C:=fun w'=>∃ x:Later W,w'=x.w) hm hB ⟨⟨_,(Below.refl _ W).drew⟩,rfl⟩ (by
 have h2:(fun a'=>∀ x:Later W,Q .normal a' x.w)=(fun a'=>∀ w',(∃ x:Later W,w'=x.w)→Q .normal a' w'):=funext fun a'=>propext ⟨fun h w' ⟨x,e⟩=>e▸h x,fun h x=>h _ ⟨x,rfl⟩⟩
 rw[h2]at h
 simpa using h)
theorem rq{P:Program}{ops:Array Oper}{C:World→Prop}{Q:Act→Prop}{l:List Oper}{a:Act}{R:Prop}(k:R)(h:R→wpQuiet P ops C Q l a:=by intro K;(repeat(first|go_big_quiet_step (first|fail)));refine wpQuiet_nil ?_;exact K):wpQuiet P ops C Q l a:=h k
theorem gm{P:Program}{f:FuncId}{args:Array Value}{w:World}{v:Value}{R:Ending→World→Prop}(h:Calls P f args w (Gives w v))(k:∀ x:Later w,R (.returned v) x.w):Calls P f args w R:=h.mono fun _ _ ⟨e,x,hx⟩=>by rw[e,hx];exact k x
theorem own:ownKnob Tryz.prog.godebug=none:=by kernel_rfl
theorem laidOut:laidOutB Tryz.prog=true:=by kernel_rfl
theorem trodAll_below{H:Type}{enc:TypeId × Value→H}{P:Program}(hl:laidOutB P=true){W W':World}(hb:Below W.heap.size W W') :
  ∀ {ts:List TypeId} {vs:List Value} {ds:List (DataW H)} {ps:List MemPlace},(∀ t∈ts,P.readableRec t=true∧t<P.types.size) →
  DataW.TrodAll enc P W 0 (fun _=>true) true ts vs ds ps→(∀ x∈ps,x.block<W.heap.size) →
  DataW.TrodAll enc P W' 0 (fun b=>decide (b<W.heap.size)) true ts vs ds ps
 | [],_,_,_,_,h,_=>by
  obtain⟨rfl,rfl,rfl⟩:=trodAll_nil h
  exact trodAll_mk0
 | t::ts,vs,ds,ps,ht,h,hp=>by
  obtain⟨v,vs',d,ds',p,q,rfl,rfl,rfl,h1,h2⟩:=trodAll_cons h
  have a:=ht t (by simp)
  exact trodAll_cons_mk (Below.trod hl a.1 a.2 h1 hb (fun x hx=>hp x (by simp[hx]))) (trodAll_below hl hb (fun u hu=>ht u (by simp[hu])) h2 (fun x hx=>hp x (by simp[hx])))
theorem law_post{H:Type}{enc:TypeId × Value→H}{P:Program}{f:Func}{s:ChangeSpec}{fresh:Bool}{W W':World}{args:Array Value}{ds:List (DataW H)}{before:List MemPlace}{bt:TypeId}
  (hl:laidOutB P=true) (hts0:(f.params.toList.all fun t=>P.readableRec t && decide (t<P.types.size))=true)
  (hv:s.vars=[]) (hfn:s.fn H (ds++[])={ results:=[.lit (.bool true)],args:=ds }) (hr:f.resultTypes=#[bt]) (hbt:P.underlying bt=some .bool)
  (hW:DataW.Whole enc P f.params.toList s.vars false W args.toList ds [] before) (hb:Below W.heap.size W W') :
  s.post enc P f false fresh false false W args (.bool true) W':=by
 have hts:∀ t∈f.params.toList,P.readableRec t=true∧t<P.types.size:=fun t ht=>by
  have:=List.all_eq_true.1 hts0 t ht
  simpa using this
 have hW':=hW
 obtain⟨p,q,hA,hV,rfl,hfz,hnd⟩:=hW
 rw[hv]at hV
 obtain⟨_,rfl⟩:=trodVars_none hV
 refine⟨ds,[],p++[],[],p,[],hW',?_,?_,?_,hb.frame _,fun h=>by cases h⟩
 ·rw[hfn,hr]
  exact trodAll_cons_mk (shut_bool hbt _) trodAll_mk0
 ·rw[hfn]
  exact trodAll_below hl hb hts hA (DataW.TrodAll.lt hA)
 ·rw[hv,hfn]
  rfl
def i64(n:Int):Prop:=-9223372036854775808≤n∧n≤9223372036854775807
theorem i64_wf{n:Int}(h:(Lit.int .i64 n).wf=true):i64 n:=by
 simp[Lit.wf,IntKind.min,IntKind.max,IntKind.signed,IntKind.bits]at h
 exact h
def Sl{α:Type}(enc:α→List Value)(w:World)(a:Option Addr)(l:List α):Prop :=
 ∀ (i:Nat) (x:α),l[i]?=some x→∃ b off,a=some ⟨b,off,none⟩∧b<w.heap.size∧∀ (j:Nat) (v:Value),(enc x)[j]?=some v→w.cell? ⟨b,off+i*(enc x).length+j,none⟩=some v
theorem Sl.later{α:Type}{enc:α→List Value}{W:World}{a:Option Addr}{l:List α}(h:Sl enc W a l)(x:Later W):Sl enc x.w a l:=fun i y hy=>by
 obtain⟨b,off,rfl,hb,hc⟩:=h i y hy
 exact⟨b,off,rfl,Nat.lt_of_lt_of_le hb x.size_le,fun j v hv=>by rw[x.h.cell (p:=⟨b,_,none⟩) hb];exact hc j v hv⟩
theorem Sl.alloc{α:Type}{enc:α→List Value}{W:World}{a:Option Addr}{l:List α}(h:Sl enc W a l)(o:Obj):Sl enc (W.alloc o) a l:=fun i y hy=>by
 obtain⟨b,off,rfl,hb,hc⟩:=h i y hy
 exact⟨b,off,rfl,by simp;omega,fun j v hv=>by rw[World.cell?_alloc_past o b _ hb];exact hc j v hv⟩
theorem drop_at{α:Type}{l:List α}{k:Nat}(hk:k<l.length):∃ x,l[k]?=some x∧Hid (l.drop k=x::l.drop (k+1)):=⟨l[k],List.getElem?_eq_getElem hk,List.drop_eq_getElem_cons hk⟩
theorem Later.cast{W W':World}(h:W=W')(x:Later W):∃ y:Later W',x.w=y.w:=by subst h;exact⟨x,rfl⟩
theorem Later.set_at{W:World}{C:Array Value}{T:TypeId}(x:Later (W.alloc (.cells C T)))(i:Nat)(v:Value) :
  ∃ y:Later (W.alloc (.cells (C.setIfInBounds i v) T)),(x.set ⟨W.heap.size,i,none⟩ v).w=y.w :=
 Later.cast (World.setCell_alloc_at C T _ i v rfl) _
theorem Later.set2_at{W:World}{C:Array Value}{T:TypeId}(x:Later (W.alloc (.cells C T)))(i i':Nat)(v v':Value) :
  ∃ y:Later (W.alloc (.cells ((C.setIfInBounds i v).setIfInBounds i' v') T)),((x.set ⟨W.heap.size,i,none⟩ v).set ⟨W.heap.size,i',none⟩ v').w=y.w :=
 Later.cast (by rw[World.setCell_alloc_at C T _ i v rfl,World.setCell_alloc_at _ T _ i' v' rfl]) _
theorem run_mk{P:Program}{t e size bytes:Nat}{z:Value}(h1:P.underlying t=some (.slice e))(h2:(P.info? e).map (fun i=>(i.zero,i.size,i.bytes))=some (some z,size,bytes))(n:Nat)
  (hb:bytes*n≤281474976710656) (hn:n≤1000000000000) :
  ∃ C:Array Value,C=madeCells z.cells (n*size)∧∀ w:World,(Instr.makeSlice t (.int .i64 n) (.int .i64 n)).run P w=.ok (.slice (some ⟨w.heap.size,0,none⟩) n n) (w.alloc (.cells C e)):=by
 refine⟨_,rfl,fun w=>?_⟩
 obtain⟨i,hi,h3⟩:=Option.map_eq_some_iff.1 h2
 simp only[Prod.mk.injEq]at h3
 obtain⟨h4,h5,h6⟩:=h3
 have:=run_make (P:=P) w t e i z h1 hi h4 .i64 .i64 (n:Int) (n:Int) (by omega) (by omega) (by rw[h6];omega) (by omega)
 simpa[h5]using this
theorem getD_lt{C:Array Value}{i m:Nat}(h:C.size=m)(hi:i<m):∃ v,C[i]?=some v:=⟨C[i],Array.getElem?_eq_getElem (by omega)⟩
theorem take_snoc'{α:Type}{l:List α}{k:Nat}{x:α}{r:List α}(h:l.drop k=x::r):l.take (k+1)=l.take k++[x]:=by
 have:l[k]?=some x:=by
  have:=congrArg (fun m=>m[0]?) h
  simpa using this
 rw[List.take_add_one,this];rfl
def Own{α:Type}(enc:α→List Value)(T size B:Nat)(w:World)(a:Option Addr)(c:Nat)(l:List α):Prop :=
 (∀ x:α,(enc x).length=size)∧w.ownsRow B T size (.slice a l.length c) l.length (l.flatMap enc)
theorem flatMap_length{α:Type}{enc:α→List Value}{size:Nat}(h:∀ x:α,(enc x).length=size)(l:List α):(l.flatMap enc).length=l.length*size:=by
 induction l with
 | nil=>simp
 | cons x l ih=>simp[List.flatMap_cons,h,ih,Nat.add_mul];omega
theorem flatMap_at{α:Type}{enc:α→List Value}{size:Nat}(h:∀ x:α,(enc x).length=size):∀ (l:List α) (i j:Nat) (x:α) (v:Value),l[i]?=some x→(enc x)[j]?=some v→(l.flatMap enc)[i*size+j]?=some v
 | [],i,j,x,v,hi,_=>by simp at hi
 | y::l,0,j,x,v,hi,hj=>by
  simp only[List.getElem?_cons_zero,Option.some.injEq]at hi
  subst hi
  have:j<(enc y).length:=(List.getElem?_eq_some_iff.1 hj).1
  rw[List.flatMap_cons,Nat.zero_mul,Nat.zero_add,List.getElem?_append_left this,hj]
 | y::l,i+1,j,x,v,hi,hj=>by
  have hh:=flatMap_at h l i j x v (by simpa using hi) hj
  rw[List.flatMap_cons,List.getElem?_append_right (by rw[h];rw[Nat.add_mul];omega),h]
  rw[show(i+1)*size+j - size=i*size+j from by rw[Nat.add_mul];omega,hh]
theorem Own.sl{α:Type}{enc:α→List Value}{T size B:Nat}{w:World}{a:Option Addr}{c:Nat}{l:List α}(h:Own enc T size B w a c l):Sl enc w a l:=by
 intro i x hx
 obtain⟨hsz,hlen,h1|⟨g,cap,cur,hv,hg,hh,hn,hc,hcs,ht⟩⟩:=h
 ·have:i<l.length:=(List.getElem?_eq_some_iff.1 hx).1
  omega
 ·simp only[Value.slice.injEq]at hv
  obtain⟨rfl,-,rfl⟩:=hv
  have hi:i<l.length:=(List.getElem?_eq_some_iff.1 hx).1
  have hlt:g<w.heap.size:=by
   have:=(Array.getElem?_eq_some_iff.1 hh).1
   exact this
  refine⟨g,0,rfl,hlt,fun j v hj=>?_⟩
  have h3:=flatMap_at hsz l i j x v hx hj
  rw[← ht,List.getElem?_take]at h3
  split at h3
  ·have h4:cur[i*size+j]?=some v:=by rw[← Array.getElem?_toList];exact h3
   simp only[World.cell?,hh,hsz,Nat.zero_add]
   simpa using h4
  ·cases h3
theorem Own.cap{α:Type}{enc:α→List Value}{T size B:Nat}{w:World}{a:Option Addr}{c:Nat}{l:List α}(h:Own enc T size B w a c l):l.length≤c:=by
 obtain⟨-,-,⟨h1,h2⟩|⟨g,cap,cur,hv,-,-,hn,-⟩⟩:=h
 ·omega
 ·simp only[Value.slice.injEq]at hv;omega
theorem own_later{W:World}{B e size n:Nat}{v:Value}{xs:List Value}(h:W.ownsRow B e size v n xs)(x:Later W):x.w.ownsRow B e size v n xs:=by
 obtain⟨h1,h2⟩:=h
 refine⟨h1,?_⟩
 rcases h2 with h2|⟨g,cap,cur,hv,hg,hh,r⟩
 ·exact .inl h2
 ·exact .inr ⟨g,cap,cur,hv,hg,by rw[x.h.block g (Array.getElem?_eq_some_iff.1 hh).1];exact hh,r⟩
theorem Own.later{α:Type}{enc:α→List Value}{T size B:Nat}{W:World}{a:Option Addr}{c:Nat}{l:List α}(h:Own enc T size B W a c l)(x:Later W):Own enc T size B x.w a c l:=⟨h.1,own_later h.2 x⟩
theorem Own.alloc{α:Type}{enc:α→List Value}{T size B:Nat}{W:World}{a:Option Addr}{c:Nat}{l:List α}(h:Own enc T size B W a c l)(o:Obj):Own enc T size B (W.alloc o) a c l :=
 h.later ⟨W.alloc o,(Below.refl _ _).alloc nl o⟩
theorem Own.mono{α:Type}{enc:α→List Value}{T size B B':Nat}{W:World}{a:Option Addr}{c:Nat}{l:List α}(h:Own enc T size B W a c l)(hB:B'≤B):Own enc T size B' W a c l:=by
 obtain⟨h0,h1,h2|⟨g,cap,cur,hv,hg,r⟩⟩:=h
 ·exact⟨h0,h1,.inl h2⟩
 ·exact⟨h0,h1,.inr ⟨g,cap,cur,hv,Nat.le_trans hB hg,r⟩⟩
def GivesSl{α:Type}(enc:α→List Value)(T size:Nat)(w:World)(l:List α):Ending→World→Prop:=fun e w'=>∃ a c,e=.returned (.slice a l.length c)∧Own enc T size w.heap.size w' a c l∧∃ x:Later w,w'=x.w
theorem own_block{α:Type}{enc:α→List Value}{T size n B:Nat}{W:World}{D:Array Value}{l:List α}(hsz:∀ x:α,(enc x).length=size)(hn:l.length=n)(hm:n≤1000000000000)(hB:B≤W.heap.size)
  (hD:D.size=n*size) (ht:D.toList=l.flatMap enc) (x:Later (W.alloc (.cells D T))):Own enc T size B x.w (some ⟨W.heap.size,0,none⟩) n l:=by
 refine⟨hsz,by rw[flatMap_length hsz],.inr ⟨W.heap.size,n,D,by rw[hn],hB,?_,by omega,by unfold maxLen;omega,hD,?_⟩⟩
 ·rw[x.h.block _ (by simp)]
  show(W.heap.push _)[W.heap.size]?=_
  simp
 ·rw[← ht,List.take_of_length_le (by simp[hD,hn])]
theorem Sl.to{α:Type}{enc:α→List Value}{W W':World}{a:Option Addr}{l:List α}(h:Sl enc W a l)(g:Grows W W'):Sl enc W' a l:=h.later ⟨W',g.out⟩
theorem Own.to{α:Type}{enc:α→List Value}{T size B:Nat}{W W':World}{a:Option Addr}{c:Nat}{l:List α}(h:Own enc T size B W a c l)(g:Grows W W'):Own enc T size B W' a c l:=h.later ⟨W',g.out⟩
theorem Later.set1_at{W:World}{C:Array Value}{T:TypeId}(x:Later (W.alloc (.cells C T)))(i:Nat)(v:Value) :
  ∃ y:Later (W.alloc (.cells (C.setIfInBounds i v) T)),(x.set ⟨W.heap.size,i,none⟩ v).w=y.w:=x.set_at i v
theorem Later.set3_at{W:World}{C:Array Value}{T:TypeId}(x:Later (W.alloc (.cells C T)))(i i' i2:Nat)(v v' v2:Value) :
  ∃ y:Later (W.alloc (.cells (((C.setIfInBounds i v).setIfInBounds i' v').setIfInBounds i2 v2) T)),(((x.set ⟨W.heap.size,i,none⟩ v).set ⟨W.heap.size,i',none⟩ v').set ⟨W.heap.size,i2,none⟩ v2).w=y.w :=
 Later.cast (by rw[World.setCell_alloc_at C T _ i v rfl,World.setCell_alloc_at _ T _ i' v' rfl,World.setCell_alloc_at _ T _ i2 v2 rfl]) _
theorem Later.set4_at{W:World}{C:Array Value}{T:TypeId}(x:Later (W.alloc (.cells C T)))(i i' i2 i3:Nat)(v v' v2 v3:Value) :
  ∃ y:Later (W.alloc (.cells ((((C.setIfInBounds i v).setIfInBounds i' v').setIfInBounds i2 v2).setIfInBounds i3 v3) T)),((((x.set ⟨W.heap.size,i,none⟩ v).set ⟨W.heap.size,i',none⟩ v').set ⟨W.heap.size,i2,none⟩ v2).set ⟨W.heap.size,i3,none⟩ v3).w=y.w :=
 Later.cast (by rw[World.setCell_alloc_at C T _ i v rfl,World.setCell_alloc_at _ T _ i' v' rfl,World.setCell_alloc_at _ T _ i2 v2 rfl,World.setCell_alloc_at _ T _ i3 v3 rfl]) _
def inB(x lo hi:Int):Bool:=decide (lo≤x) && decide (x≤hi)
theorem inB_iff{x lo hi:Int}:inB x lo hi=true↔lo≤x∧x≤hi:=by simp[inB]
theorem c_sl01In{x lo hi:Int}{w:World} :
  Calls Tryz.prog 82 #[.int .i64 x,.int .i64 lo,.int .i64 hi] w (Gives w (.bool (inB x lo hi))):=by
 by_cases h1:lo≤x
 ·go_enter Tryz.func82,Tryz.ntmps82
  go_wp2
  go_ret
  exact Gives.mk (by simp[inB,h1])
 ·have h2:decide (lo≤x)=false:=by simpa using h1
  go_enter Tryz.func82,Tryz.ntmps82
  go_wp2
  go_ret
  exact Gives.mk (by simp[inB,h2])
theorem c_ibetween{x lo hi:Int}{w:World} :
  Calls Tryz.prog 120 #[.int .i64 x,.int .i64 lo,.int .i64 hi] w (Gives w (.bool (inB x lo hi))):=by
 by_cases h1:lo≤x
 ·go_enter Tryz.func120,Tryz.ntmps120
  go_wp2
  go_ret
  exact Gives.mk (by simp[inB,h1])
 ·have h2:decide (lo≤x)=false:=by simpa using h1
  go_enter Tryz.func120,Tryz.ntmps120
  go_wp2
  go_ret
  exact Gives.mk (by simp[inB,h2])
/-! ### Drift, BoardTime -/
def driftOk(r o:Int):Bool:=inB r (-100) 100 && inB o 0 1000
theorem c_sDriftOk{r o:Int}{w:World} :
  Calls Tryz.prog 83 #[.agg #[.int .i64 r,.int .i64 o]] w (Gives w (.bool (driftOk r o))):=by
 cases h1:inB r (-100) 100
 all_goals
  go_enter Tryz.func83,Tryz.ntmps83
  go_wp2_with (first|(go_at_call 82;refine gm (c_sl01In) ?_;intro x))
  go_ret
  exact Gives.mk (by simp[driftOk,h1])
theorem c_iDriftOk{r o:Int}{w:World} :
  Calls Tryz.prog 121 #[.agg #[.int .i64 r,.int .i64 o]] w (Gives w (.bool (driftOk r o))):=by
 cases h1:inB r (-100) 100
 all_goals
  go_enter Tryz.func121,Tryz.ntmps121
  go_wp2_with (first|(go_at_call 120;refine gm (c_ibetween) ?_;intro x))
  go_ret
  exact Gives.mk (by simp[driftOk,h1])
def boardTime(r o t:Int):Int:=if (driftOk r o && inB t 0 1000000)=true then t+o+t*r / 1000 else -1
theorem bd_mul{t r:Int}(h:0≤t)(h':t≤1000000)(k:-100≤r)(k':r≤100):-100000000≤t*r∧t*r≤100000000:=by
 constructor
 ·have:=Int.mul_le_mul_of_nonneg_left k h
  omega
 ·have:=Int.mul_le_mul_of_nonneg_left k' h
  omega
def ticksDue(r o t:Int):Int:=if (inB t 0 999999 && driftOk r o)=true then boardTime r o (t+1) - boardTime r o t else 0
def orbitOk(p s l:Int):Bool:=inB p 1 1000 && (inB s 0 (p - 1) && inB l 1 p)
theorem orbitOk_iff{p s l:Int}:orbitOk p s l=true↔(1≤p∧p≤1000)∧(0≤s∧s≤p - 1)∧1≤l∧l≤p:=by simp[orbitOk,inB]
theorem c_sOrbitOk{p s l:Int}{w:World} :
  Calls Tryz.prog 84 #[.agg #[.int .i64 p,.int .i64 s,.int .i64 l]] w (Gives w (.bool (orbitOk p s l))):=by
 cases h1:inB p 1 1000
 ·go_enter Tryz.func84,Tryz.ntmps84
  go_wp2_with (first|(go_at_call 82;refine gm (c_sl01In) ?_;intro x))
  go_ret
  exact Gives.mk (by simp[orbitOk,h1])
 ·have⟨k1,k2⟩:=inB_iff.1 h1
  cases h2:inB s 0 (p - 1)
  all_goals
   go_enter Tryz.func84,Tryz.ntmps84
   go_wp2_with (first|(go_at_call 82;refine gm (c_sl01In) ?_;intro x))
   go_ret
   exact Gives.mk (by simp[orbitOk,h1,h2])
theorem c_iOrbitOk{p s l:Int}{w:World} :
  Calls Tryz.prog 122 #[.agg #[.int .i64 p,.int .i64 s,.int .i64 l]] w (Gives w (.bool (orbitOk p s l))):=by
 cases h1:inB p 1 1000
 ·go_enter Tryz.func122,Tryz.ntmps122
  go_wp2_with (first|(go_at_call 120;refine gm (c_ibetween) ?_;intro x))
  go_ret
  exact Gives.mk (by simp[orbitOk,h1])
 ·have⟨k1,k2⟩:=inB_iff.1 h1
  cases h2:inB s 0 (p - 1)
  all_goals
   go_enter Tryz.func122,Tryz.ntmps122
   go_wp2_with (first|(go_at_call 120;refine gm (c_ibetween) ?_;intro x))
   go_ret
   exact Gives.mk (by simp[orbitOk,h1,h2])
def visible(p s l t:Int):Bool:=orbitOk p s l && (inB t s 1000000 && decide ((t - s) % p<l))
theorem c_sVisible{p s l t:Int}{w:World} :
  Calls Tryz.prog 56 #[.agg #[.int .i64 p,.int .i64 s,.int .i64 l],.int .i64 t] w (Gives w (.bool (visible p s l t))):=by
 cases h1:orbitOk p s l
 ·go_enter Tryz.func56,Tryz.ntmps56
  go_wp2_with (first|((with_reducible refine rl ?_);(repeat(first|go_big_quiet_step (first|(go_at_call 84;exact Gives.quiet (c_sOrbitOk))|(go_at_call 82;exact Gives.quiet (c_sl01In)))|simp only[h1]));refine wpQuiet_nil ?_;intro x)|(go_at_call 84;refine gm (c_sOrbitOk) ?_;intro x)|(go_at_call 82;refine gm (c_sl01In) ?_;intro x))
  go_ret
  exact Gives.mk (by simp[visible,h1])
 ·have⟨k1,k2,k3⟩:=orbitOk_iff.1 h1
  cases h2:inB t s 1000000
  ·go_enter Tryz.func56,Tryz.ntmps56
   go_wp2_with (first|((with_reducible refine rl ?_);(repeat(first|go_big_quiet_step (first|(go_at_call 84;exact Gives.quiet (c_sOrbitOk))|(go_at_call 82;exact Gives.quiet (c_sl01In)))|simp only[h1]|simp only[h2]));refine wpQuiet_nil ?_;intro x)|(go_at_call 84;refine gm (c_sOrbitOk) ?_;intro x)|(go_at_call 82;refine gm (c_sl01In) ?_;intro x))
   go_ret
   exact Gives.mk (by simp[visible,h1,h2])
  ·have⟨k4,k5⟩:=inB_iff.1 h2
   go_enter Tryz.func56,Tryz.ntmps56
   go_wp2_with (first|((with_reducible refine rl ?_);(repeat(first|go_big_quiet_step (first|(go_at_call 84;exact Gives.quiet (c_sOrbitOk))|(go_at_call 82;exact Gives.quiet (c_sl01In)))|simp only[h1]|simp only[h2]));refine wpQuiet_nil ?_;intro x)|(go_at_call 84;refine gm (c_sOrbitOk) ?_;intro x)|(go_at_call 82;refine gm (c_sl01In) ?_;intro x))
   go_ret
   exact Gives.mk (by simp[visible,h1,h2])
theorem c_iVisible{p s l t:Int}{w:World} :
  Calls Tryz.prog 63 #[.agg #[.int .i64 p,.int .i64 s,.int .i64 l],.int .i64 t] w (Gives w (.bool (visible p s l t))):=by
 cases h1:orbitOk p s l
 ·go_enter Tryz.func63,Tryz.ntmps63
  go_wp2_with (first|((with_reducible refine rl ?_);(repeat(first|go_big_quiet_step (first|(go_at_call 122;exact Gives.quiet (c_iOrbitOk))|(go_at_call 120;exact Gives.quiet (c_ibetween)))|simp only[h1]));refine wpQuiet_nil ?_;intro x)|(go_at_call 122;refine gm (c_iOrbitOk) ?_;intro x)|(go_at_call 120;refine gm (c_ibetween) ?_;intro x))
  go_ret
  exact Gives.mk (by simp[visible,h1])
 ·have⟨k1,k2,k3⟩:=orbitOk_iff.1 h1
  cases h2:inB t 0 1000000
  ·go_enter Tryz.func63,Tryz.ntmps63
   go_wp2_with (first|((with_reducible refine rl ?_);(repeat(first|go_big_quiet_step (first|(go_at_call 122;exact Gives.quiet (c_iOrbitOk))|(go_at_call 120;exact Gives.quiet (c_ibetween)))|simp only[h1]|simp only[h2]));refine wpQuiet_nil ?_;intro x)|(go_at_call 122;refine gm (c_iOrbitOk) ?_;intro x)|(go_at_call 120;refine gm (c_ibetween) ?_;intro x))
   go_ret
   refine Gives.mk ?_
   have h3:inB t s 1000000=false:=by simp[inB]at h2 ⊢;omega
   simp[visible,h1,h3]
  ·have⟨k4,k5⟩:=inB_iff.1 h2
   by_cases h3:s≤t
   ·have h4:inB t s 1000000=true:=inB_iff.2 ⟨h3,k5⟩
    have h6:decide (s≤t)=true:=by simpa using h3
    go_enter Tryz.func63,Tryz.ntmps63
    go_wp2_with (first|((with_reducible refine rl ?_);(repeat(first|go_big_quiet_step (first|(go_at_call 122;exact Gives.quiet (c_iOrbitOk))|(go_at_call 120;exact Gives.quiet (c_ibetween)))|simp only[h1]|simp only[h2]|simp only[h6]));refine wpQuiet_nil ?_;intro x)|(go_at_call 122;refine gm (c_iOrbitOk) ?_;intro x)|(go_at_call 120;refine gm (c_ibetween) ?_;intro x))
    go_ret
    exact Gives.mk (by simp[visible,h1,h4])
   ·have h4:inB t s 1000000=false:=by simp[inB];omega
    have h6:decide (s≤t)=false:=by simpa using h3
    go_enter Tryz.func63,Tryz.ntmps63
    go_wp2_with (first|((with_reducible refine rl ?_);(repeat(first|go_big_quiet_step (first|(go_at_call 122;exact Gives.quiet (c_iOrbitOk))|(go_at_call 120;exact Gives.quiet (c_ibetween)))|simp only[h1]|simp only[h2]|simp only[h6]));refine wpQuiet_nil ?_;intro x)|(go_at_call 122;refine gm (c_iOrbitOk) ?_;intro x)|(go_at_call 120;refine gm (c_ibetween) ?_;intro x))
    go_ret
    exact Gives.mk (by simp[visible,h1,h4])
inductive Cd where
 | int|byte|bool|str
 | sl (es:List Cd)
inductive RdC (w:World):Cd→Value→Prop
 | int {n:Int}:i64 n→RdC w .int (.int .i64 n)
 | byte {n:Int}:0≤n→n≤255→RdC w .byte (.int .u8 n)
 | bool {b:Bool}:RdC w .bool (.bool b)
 | str {s:ByteArray}:s.size≤maxLen→RdC w .str (.string s)
 | nil {es:List Cd}:RdC w (.sl es) (.slice none 0 0)
 | sl {es:List Cd} {a:Addr} {n c:Nat} (U:Nat→Nat→Value):0<es.length→n≤c→c≤maxLen →
   (∀ i,i<n→∀ j,j<es.length→∃ b off,a=⟨b,off,none⟩∧b<w.heap.size∧w.cell? ⟨b,off+(i*es.length+j),none⟩=some (U i j)) →
   (∀ i,i<n→∀ (j:Nat) (e:Cd),es[j]?=some e→RdC w e (U i j))→RdC w (.sl es) (.slice (some a) n c)
def codesF(f:TypeId→Option (List Cd))(P:Program):List Field→Nat→Option (List Cd)
 | [],_=>some []
 | x::r,off =>
  if x.offset=off then
   match f x.type with
   | some L=>if P.cellsOf x.type=L.length then(codesF f P r (off+L.length)).map (L++·)else none
   | none=>none
  else none
def codes(P:Program):Nat→TypeId→Option (List Cd)
 | 0,_=>none
 | k+1,t =>
  match P.underlying t with
  | some .bool=>some [.bool]
  | some (.int .i64)=>some [.int]
  | some (.int .u8)=>some [.byte]
  | some .string=>some [.str]
  | some (.slice e) =>
   match codes P k e with
   | some (c::es)=>if P.cellsOf e=es.length+1 then some [.sl (c::es)]else none
   | _=>none
  | some (.struct fs) =>
   match codesF (codes P k) P fs.toList 0 with
   | some L=>if P.cellsOf t=L.length then some L else none
   | none=>none
  | _=>none
section
variable {H:Type} {enc:TypeId × Value→H} {P:Program} {w:World} {base:Nat} {spare:Nat→Bool} {held:Bool}
def RdL(w:World)(L:List Cd)(cs:List Value):Prop:=∀ (j:Nat) (c:Cd),L[j]?=some c→∃ u,cs[j]?=some u∧RdC w c u
theorem codesF_sound{f:TypeId→Option (List Cd)}{n:Nat}(hf:∀ t L cs x,f t=some L→DataW.trod enc P w base spare held n t cs=some x→cs.length=L.length∧RdL w L cs) :
  ∀ (r:List Field) (off:Nat) (L:List Cd) (cs:List Value),codesF f P r off=some L →
   (∀ (i:Nat) (fl:Field),r[i]?=some fl→∃ y,DataW.trod enc P w base spare held n fl.type ((cs.drop fl.offset).take (P.cellsOf fl.type))=some y)→RdL w L (cs.drop off)
 | [],off,L,cs,h,_=>by
  simp only[codesF,Option.some.injEq]at h
  subst h
  intro j c hj;simp at hj
 | x::r,off,L,cs,h,hy=>by
  simp only[codesF]at h
  split at h
  ·rename_i ho
   split at h
   ·rename_i L1 hL1
    split at h
    ·rename_i hc
     obtain⟨L2,hL2,rfl⟩:=Option.map_eq_some_iff.1 h
     obtain⟨y,hy0⟩:=hy 0 x (by simp)
     have h1:=hf _ _ _ _ hL1 hy0
     have h2:=codesF_sound hf r _ _ cs hL2 (fun i fl hi=>hy (i+1) fl (by simpa using hi))
     intro j c hj
     by_cases hlt:j<L1.length
     ·rw[List.getElem?_append_left hlt]at hj
      obtain⟨u,hu,hr⟩:=h1.2 j c hj
      refine⟨u,?_,hr⟩
      rw[List.getElem?_take]at hu
      split at hu
      ·rw[ho]at hu;exact hu
      ·cases hu
     ·rw[List.getElem?_append_right (by omega)]at hj
      obtain⟨u,hu,hr⟩:=h2 _ c hj
      refine⟨u,?_,hr⟩
      rw[List.getElem?_drop]at hu ⊢
      rw[← hu];congr 1;omega
    ·cases h
   ·cases h
  ·cases h
theorem codes_sound:∀ (k fuel:Nat) (t:TypeId) (L:List Cd) (cs:List Value) (x:DataW H × List MemPlace),codes P k t=some L→DataW.trod enc P w base spare held fuel t cs=some x→cs.length=L.length∧RdL w L cs
 | 0,_,_,_,_,_,h,_=>by simp[codes]at h
 | k+1,fuel,t,L,cs,x,h,ht=>by
  have one:∀ (c:Cd) (u:Value),L=[c]→cs=[u]→RdC w c u→cs.length=L.length∧RdL w L cs:=fun c u hL hc hr=>by
   subst hL;subst hc
   refine⟨rfl,fun j d hj=>?_⟩
   match j,hj with
   | 0,hj=>simp only[List.getElem?_cons_zero,Option.some.injEq]at hj;subst hj;exact⟨u,rfl,hr⟩
  simp only[codes]at h
  split at h
  ·rename_i hu
   obtain⟨b,hb,-⟩:=DataW.trod_bool hu ht
   exact one .bool _ (by simpa using h.symm) hb .bool
  ·rename_i hu
   obtain⟨n,hn,-,hw⟩:=DataW.trod_int hu ht
   exact one .int _ (by simpa using h.symm) hn (.int (i64_wf hw))
  ·rename_i hu
   obtain⟨n,hn,-,hw⟩:=DataW.trod_int hu ht
   have:0≤n∧n≤255:=by simpa[Lit.wf,IntKind.min,IntKind.max,IntKind.signed,IntKind.bits]using hw
   exact one .byte _ (by simpa using h.symm) hn (.byte this.1 this.2)
  ·rename_i hu
   obtain⟨s,hs,-,hw⟩:=DataW.trod_string hu ht
   exact one .str _ (by simpa using h.symm) hs (.str hw)
  ·rename_i e hu
   split at h
   ·rename_i c es hc
    split at h
    ·rename_i hsz
     rcases Deep.open_slice hu ht with⟨h1,-⟩|⟨a,len,cap,m,n,D,Pl,hcs,hb,hl,hm,hmm,hx,hi⟩
     ·exact one _ _ (by simpa using h.symm) h1 .nil
     ·have main:∀ i,i<len→∀ (j:Nat) (e':Cd),(c::es)[j]?=some e'→∃ u,a=⟨a.block,a.off,none⟩∧a.block<w.heap.size∧w.cell? ⟨a.block,a.off+(i*(c::es).length+j),none⟩=some u∧RdC w e' u:=?_
      ·refine one _ _ (by simpa using h.symm) hcs (.sl (fun i j=>(w.cell? ⟨a.block,a.off+(i*(c::es).length+j),none⟩).getD undef) (by simp) hl hm (fun i hi j hj=>?_) (fun i hi j e' hj=>?_))
       ·obtain⟨u,h7,h8,h9,-⟩:=main i hi j _ (List.getElem?_eq_getElem hj)
        exact⟨_,_,h7,h8,by rw[h9];rfl⟩
       ·obtain⟨u,-,-,h9,h10⟩:=main i hi j e' hj
        rw[h9];exact h10
      intro i hil j e' hj
      obtain⟨cs',hc1,hc2⟩:=hi i (by rw[hmm];split<;>omega)
      obtain⟨-,hlen,hat⟩:=World.cells?_some hc1
      obtain⟨h3,h4⟩:=codes_sound k n e _ cs' _ hc hc2
      obtain⟨u,hu1,hu2⟩:=h4 j e' hj
      have hj':j<P.cellsOf e:=by rw[← hlen];exact(List.getElem?_eq_some_iff.1 hu1).1
      have h5:=hat j hj'
      rw[Deep.add_add,hu1,hsz]at h5
      have hsp:a.spot=none:=by
       obtain⟨cs0,hc3,-⟩:=hi 0 (by rw[hmm];split<;>omega)
       obtain⟨-,hlen0,hat0⟩:=World.cells?_some hc3
       have h6:=hat0 0 (by rw[hsz];omega)
       simp only[Nat.zero_mul,Addr.add,if_true]at h6
       have:0<cs0.length:=by rw[hlen0,hsz];omega
       rw[List.getElem?_eq_getElem this]at h6
       unfold World.cell? at h6
       split at h6
       ·split at h6
        ·cases h6
        ·rename_i hns;simpa using hns
       ·cases h6
      have ha:a.add (i*(es.length+1)+j)=⟨a.block,a.off+(i*(es.length+1)+j),none⟩:=by
       unfold Addr.add
       split
       ·rename_i h0;rw[h0];cases a;simp only at hsp;subst hsp;rfl
       ·cases a;simp only at hsp;subst hsp;rfl
      rw[ha]at h5
      exact⟨u,by cases a;simp only at hsp;subst hsp;rfl,World.block_lt_of_cell? w ⟨a.block,_,none⟩ h5,by simpa using h5,hu2⟩
    ·cases h
   ·cases h
  ·rename_i fs hu
   split at h
   ·rename_i L1 hL1
    split at h
    ·rename_i hsz
     simp only[Option.some.injEq]at h
     subst h
     obtain⟨xs,n,-,-,hlen,hxl,hf⟩:=DataW.trod_struct hu ht
     refine⟨by rw[hlen,hsz],?_⟩
     have:=codesF_sound (enc:=enc) (base:=base) (spare:=spare) (held:=held) (f:=codes P k) (n:=n) (fun t L cs x h h'=>codes_sound k n t L cs x h h') fs.toList 0 L1 cs hL1 (fun i fl hi=>by
      have h1:fs[i]?=some fl:=by rw[← Array.getElem?_toList];exact hi
      have hi':i<xs.length:=by rw[hxl];exact(Array.getElem?_eq_some_iff.1 h1).1
      exact⟨_,(hf i fl h1).trans (List.getElem?_eq_getElem hi')⟩)
     simpa using this
    ·cases h
   ·cases h
  ·cases h
end
theorem choose_list{α:Type}:∀ (n:Nat) {p:Nat→α→Prop},(∀ i,i<n→∃ x,p i x)→∃ l:List α,l.length=n∧∀ i x,l[i]?=some x→p i x
 | 0,p,_=>⟨[],rfl,fun i x h=>by simp at h⟩
 | n+1,p,h=>by
  obtain⟨l,hl,hp⟩:=choose_list n (p:=p) (fun i hi=>h i (by omega))
  obtain⟨x,hx⟩:=h n (by omega)
  refine⟨l++[x],by simp[hl],fun i y hy=>?_⟩
  by_cases hi:i<n
  ·rw[List.getElem?_append_left (by omega)]at hy;exact hp i y hy
  ·rw[List.getElem?_append_right (by omega),hl]at hy
   have:i=n:=by
    have:=(List.getElem?_eq_some_iff.1 hy).1
    simp at this;omega
   subst this
   simp at hy;subst hy;exact hx
theorem RdL.at{w:World}{L:List Cd}{cs:List Value}(h:RdL w L cs){j:Nat}{c:Cd}(hj:L[j]?=some c):∃ u,cs[j]?=some u∧RdC w c u:=h j c hj
theorem RdC.int_inv{w:World}{v:Value}(h:RdC w .int v):∃ n,v=.int .i64 n∧i64 n:=by cases h with|int h=>exact⟨_,rfl,h⟩
theorem RdC.bool_inv{w:World}{v:Value}(h:RdC w .bool v):∃ b,v=.bool b:=by cases h with|bool=>exact⟨_,rfl⟩
theorem RdC.str_inv{w:World}{v:Value}(h:RdC w .str v):∃ s,v=.string s∧s.size≤maxLen:=by cases h with|str h=>exact⟨_,rfl,h⟩
theorem list_all{α:Type}:∀ {l m:List α},l.length=m.length→(∀ (j:Nat) (x:α),m[j]?=some x→l[j]?=some x)→l=m
 | [],[],_,_=>rfl
 | x::l,y::m,h,hj=>by
  have h0:=hj 0 y rfl
  simp only[List.getElem?_cons_zero,Option.some.injEq]at h0
  subst h0
  exact congrArg (x::·) (list_all (l:=l) (m:=m) (by simpa using h) (fun j z hz=>by have:=hj (j+1) z (by simpa using hz);simpa using this))
section
variable {α:Type} {enc:α→List Value} {T size:Nat}
theorem Own.nil{B:Nat}{w:World}(hsz:∀ x:α,(enc x).length=size):Own enc T size B w none 0 []:=⟨hsz,by simp,.inl ⟨rfl,rfl⟩⟩
theorem Own.empty{W:World}(hsz:∀ x:α,(enc x).length=size)(x:Later (W.alloc (.cells #[] T))){B:Nat}(hB:B≤W.heap.size):Own enc T size B x.w (some ⟨W.heap.size,0,none⟩) 0 []:=by
 refine⟨hsz,by simp,.inr ⟨W.heap.size,0,#[],rfl,hB,?_,Nat.le_refl _,by unfold maxLen;omega,by simp,by simp⟩⟩
 rw[x.h.block _ (by simp)]
 show(W.heap.push _)[W.heap.size]?=_
 simp
theorem Own.empty0{W:World}(hsz:∀ x:α,(enc x).length=size){B:Nat}(hB:B≤W.heap.size):Own enc T size B (W.alloc (.cells #[] T)) (some ⟨W.heap.size,0,none⟩) 0 []:=Own.empty hsz (Later.here _) hB
def xs_form(v:Value)(n:Nat):Prop:=∃ a c,v=.slice a n c
theorem wpList_appS{P:Program}{ops:Array Oper}{rest:List Oper}{o:Oper}{a:Act}{Q:Exit→Act→World→Prop}{w0 W:World}{t:TypeId}{bytes:Nat}{z:Value}
  (hgd:o.guard=none) (s x:Operand) (ho:o.op=.call { callee:=.builtin .append,args:=#[s,x],argTypes:=#[t,t] })
  (ht:P.underlying t=some (.slice T)) (hinfo:(P.info? T).map (fun i=>(i.zero,i.size,i.bytes))=some (some z,size,bytes)) (hzs:z.cells.size=size) (hsz:0<size) (hby:bytes≤1000)
  {l r:List α} {n m c:Nat} {sa ra:Option Addr} {sc:Nat} (hs:a.eval s=.slice sa n sc) (hx:a.eval x=.slice ra m c) (hnil:ra=none→c=0) (hn:l.length=n) (hm:r.length=m) (hown:Own enc T size w0.heap.size W sa sc l)
  (hr:Sl enc W ra r) (h1:∀ y,∀ u∈enc y,u.oneCell'=true) (hb:n+m≤1000000000) [g:Grows w0 W]
  (h:∀ (sa':Option Addr) (sc':Nat) (x':Later w0),Own enc T size w0.heap.size x'.w sa' sc' (l++r)→W.grownBy x'.w (Value.ownBlock (.slice sa n sc))→wpList P ops Q rest (a.put o.dst (.slice sa' (n+m) sc')) x'.w) :
  wpList P ops Q (o::rest) a W:=by
 obtain⟨i,hi,h3⟩:=Option.map_eq_some_iff.1 hinfo
 simp only[Prod.mk.injEq]at h3
 obtain⟨h4,h5,h6⟩:=h3
 subst hn;subst hm
 cases ra with
 | none =>
  obtain rfl:=hnil rfl
  have hr0:r=[]:=by
   cases r with
   | nil=>rfl
   | cons y r=>obtain⟨b,off,h0,-⟩:=hr 0 y rfl;cases h0
  subst hr0
  refine wpList_append_own_none (a:=a) (w:=W) hgd s x t ho w0.heap.size T i size ht hi _ l.length (l.flatMap enc) hs hown.2 hx ?_
  exact h sa sc ⟨W,g.out⟩ (by rw[List.append_nil];exact hown) ⟨rfl,rfl,rfl,Nat.le_refl _,fun k hk hr=>rfl⟩
 | some ad =>
  have hb':(l.length+r.length)*bytes≤140737488355328:=by
   have:(l.length+r.length)*bytes≤(l.length+r.length)*1000:=Nat.mul_le_mul_left _ hby
   omega
  refine wpList_append_own (a:=a) (w:=W) hgd s x t ho w0.heap.size T i z size bytes ht hi h4 h5 h6 hzs hsz _ l.length (l.flatMap enc) hs hown.2 ad r.length c (r.flatMap enc) hx (flatMap_length hown.1 r)
   (fun j u hj=>?_) (fun u hu=>?_) (by unfold maxLen;omega) hb' g.out.size ?_
  ·have hlt:j<r.length*size:=by rw[← flatMap_length hown.1 r];exact(List.getElem?_eq_some_iff.1 hj).1
   have hq:j / size<r.length:=Nat.div_lt_of_lt_mul (by rw[Nat.mul_comm];exact hlt)
   have hy:=List.getElem?_eq_getElem hq
   have hmod:j % size<(enc r[j / size]).length:=by rw[hown.1];exact Nat.mod_lt _ hsz
   have hu:=List.getElem?_eq_getElem hmod
   have h8:=flatMap_at hown.1 r _ _ _ _ hy hu
   have hj':j / size*size+j % size=j:=by rw[Nat.mul_comm];exact Nat.div_add_mod _ _
   rw[hj',hj]at h8
   obtain⟨b,off,hbo,-,hc⟩:=hr _ _ hy
   simp only[Option.some.injEq]at hbo
   subst hbo
   have h9:=hc _ _ hu
   rw[hown.1,Nat.add_assoc,hj']at h9
   simp only[Option.some.injEq]at h8
   rw[h8]
   have e:(⟨b,off,none⟩:Addr).add j=⟨b,off+j,none⟩:=by
    unfold Addr.add;split
    ·rename_i h;rw[h,Nat.add_zero]
    ·rfl
   rw[e];exact h9
  ·obtain⟨y,-,hy⟩:=List.mem_flatMap.1 hu
   exact h1 y u hy
  ·intro v' w' ho' hg' hnil'
   have hlt:=hown.2.lt
   have hbel:Below w0.heap.size w0 w':=g.out.grown hg' g.out.size (fun k hk=>(hlt k hk).1)
   have hf:xs_form v' (l.length+r.length):=by
    rcases ho'.2 with⟨hv,hn0⟩|⟨g',cap,cur,hv,-⟩
    ·exact⟨none,0,by rw[hn0];exact hv⟩
    ·exact⟨_,_,hv⟩
   obtain⟨sa',sc',rfl⟩:=hf
   refine h sa' sc' ⟨w',hbel⟩ ⟨hown.1,?_⟩ hg'
   rw[List.flatMap_append,List.length_append];exact ho'
theorem Own.lt{B:Nat}{w:World}{a:Option Addr}{c:Nat}{l:List α}(h:Own enc T size B w a c l){n:Nat}:∀ k,Value.ownBlock (.slice a n c)=some k→B≤k∧k<w.heap.size:=fun k hk=>h.2.lt k (by cases a with
 | none=>simp[Value.ownBlock]at hk
 | some a=>simpa[Value.ownBlock]using hk)
theorem Own.kept{B:Nat}{w w':World}{a:Option Addr}{c:Nat}{l:List α}{row:Option Nat}(h:Own enc T size B w a c l)(hg:w.grownBy w' row)(hne:∀ k,row=some k→k<B∨w.heap.size≤k):Own enc T size B w' a c l:=by
 refine⟨h.1,h.2.kept hg ?_⟩
 cases ha:Value.ownBlock (.slice a l.length c)with
 | none=>exact .inl rfl
 | some k =>
  right
  intro he
  have:=h.2.lt k ha
  rcases hne k he.symm with h1|h1<;>omega
end
def encInt(n:Int):List Value:=[.int .i64 n]
theorem encInt_len(n:Int):(encInt n).length=1:=rfl
theorem encInt_one(n:Int):∀ u∈encInt n,u.oneCell'=true:=by intro u hu;simp[encInt]at hu;subst hu;rfl
theorem Sl.int{w:World}{a:Option Addr}{l:List Int}(h:Sl encInt w a l){k:Nat}(hk:k<l.length) :
  ∃ b off s,a=some ⟨b,off,none⟩∧LtN b w.heap.size∧Hid (l.drop k=s::l.drop (k+1))∧(∀ (W:World) [Grows w W],W.cell? ⟨b,off+k,none⟩=some (.int .i64 s)):=by
 obtain⟨s,hs,hd⟩:=drop_at hk
 obtain⟨b,off,ha,hb,hc⟩:=h k s hs
 exact⟨b,off,s,ha,⟨hb⟩,hd,cell_grown hb (by simpa[encInt]using hc 0 _ rfl)⟩
theorem grownBy_trans{w w1 w2:World}{row:Option Nat}(h:w.grownBy w1 row)(k:w1.grownBy w2 row):w.grownBy w2 row :=
 ⟨k.os.trans h.os,k.tape.trans h.tape,k.output.trans h.output,Nat.le_trans h.size k.size,fun i hi hr=>(k.block i (Nat.lt_of_lt_of_le hi h.size) hr).trans (h.block i hi hr)⟩
theorem grownBy_refl(w:World)(row:Option Nat):w.grownBy w row:=⟨rfl,rfl,rfl,Nat.le_refl _,fun _ _ _=>rfl⟩
def encByte(n:Int):List Value:=[.int .u8 n]
theorem Sl.byte{w:World}{a:Option Addr}{l:List Int}(h:Sl encByte w a l){k:Nat}(hk:k<l.length) :
  ∃ b off s,a=some ⟨b,off,none⟩∧LtN b w.heap.size∧Hid (l.drop k=s::l.drop (k+1))∧(∀ (W:World) [Grows w W],W.cell? ⟨b,off+k,none⟩=some (.int .u8 s)):=by
 obtain⟨s,hs,hd⟩:=drop_at hk
 obtain⟨b,off,ha,hb,hc⟩:=h k s hs
 exact⟨b,off,s,ha,⟨hb⟩,hd,cell_grown hb (by simpa[encByte]using hc 0 _ rfl)⟩
def isByte(n:Int):Prop:=0≤n∧n≤255
@[go_sem] theorem i64_and255(n:Int):bits .and .i64 n 255=n % 256:=by
 have h255:(BitVec.ofInt 64 255).toNat=2 ^ 8 - 1:=by decide
 have key:(BitVec.ofInt 64 n &&& BitVec.ofInt 64 255).toNat=(n % ((2 ^ 64:Nat):Int)).toNat % 2 ^ 8:=by
  rw[BitVec.toNat_and,BitVec.toNat_ofInt,h255,Nat.and_two_pow_sub_one_eq_mod]
 show IntKind.i64.wrap ((BitVec.ofInt 64 n &&& BitVec.ofInt 64 255).toNat:Nat)=n % 256
 rw[key,IntKind.wrap_i64]
 omega
structure IsCur(w:World)(p:Nat)(a:Option Addr)(n c:Nat)(l:List Int)(i:Nat):Prop where
 lt:LtN p w.heap.size
 c0:w.cell? ⟨p,0,none⟩=some (.slice a n c)
 c1:w.cell? ⟨p,1,none⟩=some (.int .i64 i)
 c2:∃ h:Int,w.cell? ⟨p,2,none⟩=some (.int .i64 h)
 f1:w.frozen? ⟨p,1,none⟩=false
 f2:w.frozen? ⟨p,2,none⟩=false
 le:i≤n
 len:l.length=n
 small:n≤1048576
 sl:Sl encByte w a l
 bytes:∀ x∈l,isByte x
 apart:∀ b off,a=some ⟨b,off,none⟩→0<l.length→b<p
theorem IsCur.alloc{w:World}{p:Nat}{a:Option Addr}{n c:Nat}{l:List Int}{i:Nat}(h:IsCur w p a n c l i)(o:Obj):IsCur (w.alloc o) p a n c l i:=by
 obtain⟨hlt,hc0,hc1,⟨hh,hc2⟩,hf1,hf2,hle,hlen,hsm,hsl,hby,hap⟩:=h
 exact⟨ii,by rw[Later.cell_past];exact hc0,by rw[Later.cell_past];exact hc1,⟨hh,by rw[Later.cell_past];exact hc2⟩,by rw[Later.frozen_past];exact hf1,by rw[Later.frozen_past];exact hf2,hle,hlen,hsm,hsl.alloc o,hby,hap⟩
theorem Sl.lit{α:Type}{enc:α→List Value}{W:World}{cs:Array Value}{T size:Nat}{l:List α}(hsz:∀ x:α,(enc x).length=size)(h:cs.toList=l.flatMap enc):Sl enc (W.alloc (.cells cs T)) (some ⟨W.heap.size,0,none⟩) l:=fun k y hy=>by
 refine⟨W.heap.size,0,rfl,by simp,fun j v hv=>?_⟩
 rw[World.cell?_alloc_at _ _ _ _ rfl,← Array.getElem?_toList,h,hsz,Nat.zero_add]
 exact flatMap_at hsz l k j y v hy hv
theorem IsCur.kept{w W:World}{p:Nat}{a:Option Addr}{n c:Nat}{l:List Int}{i:Nat}(h:IsCur w p a n c l i)(hs:w.heap.size≤W.heap.size)(hb:∀ k,k≤p→W.heap[k]?=w.heap[k]?):IsCur W p a n c l i:=by
 obtain⟨hlt,hc0,hc1,⟨hh,hc2⟩,hf1,hf2,hle,hlen,hsm,hsl,hby,hap⟩:=h
 have hp:=hb p nl
 refine⟨⟨Nat.lt_of_lt_of_le hlt.out hs⟩,by rw[World.cell?_of_block (w:=w) hp];exact hc0,by rw[World.cell?_of_block (w:=w) hp];exact hc1,⟨hh,by rw[World.cell?_of_block (w:=w) hp];exact hc2⟩,
  by simp only[World.frozen?,hp];exact hf1,by simp only[World.frozen?,hp];exact hf2,hle,hlen,hsm,fun k y hy=>?_,hby,hap⟩
 obtain⟨b,off,ha,hblt,hcell⟩:=hsl k y hy
 have hlt':=hap b off ha (Nat.lt_of_le_of_lt (Nat.zero_le k) (List.getElem?_eq_some_iff.1 hy).1)
 exact⟨b,off,ha,Nat.lt_of_lt_of_le hblt hs,fun j v hv=>by rw[World.cell?_of_block (w:=w) (hb b (Nat.le_of_lt hlt'))];exact hcell j v hv⟩
theorem FnExactSendUp_inPlace:(Rows.fnExactSendUpRow.inPlace == Tryz.pinned.checked.prog.inPlace 4)=true:=by kernel_rfl
theorem FnExactSendUp_unfollowed:(Rows.fnExactSendUpRow.unfollowed == Tryz.pinned.checked.prog.unfollowed 4)=true:=by kernel_rfl
theorem FnExactSendUp_recurses:(Rows.fnExactSendUpRow.recurses == Tryz.pinned.checked.prog.recurses 4)=true:=by kernel_rfl
theorem FnExactSendUp_varsNamed:(Rows.fnExactSendUpRow.named == Tryz.pinned.checked.prog.varsNamed 4)=true:=by kernel_rfl
instance(priority:=800) Grows.andThen2 (a:World){W:World}(x:Later W)(y:Later x.w)[h:Grows a y.w]:Grows a (x.andThen y).w:=⟨h.out⟩
instance(priority:=850) Grows.drawn (a:World){W:World}(x:Later W)[h:Grows a x.w]:Grows a x.draw.w:=⟨h.out.drew⟩
instance LtN.drew(a:Nat)(W:World)[h:LtN a W.heap.size]:LtN a W.drew.heap.size:=⟨h.out⟩
instance LeN.drew(a:Nat)(W:World)[h:LeN a W.heap.size]:LeN a W.drew.heap.size:=⟨h.out⟩
section
variable {P:Program} {ops:Array Oper} {o:Oper} {a:Act} {w:World} {K:Act→World→Prop} {Q:Exit→Act→World→Prop} {E:Prop}
theorem step_of(hg:o.guard=none)(h:Oper.wp P o a w K Q):if Region.wanted o (yielded ops a.tmps)=true then Oper.wp P o a w K Q else E:=by
 rw[if_pos (by simp[Region.wanted,hg])];exact h
theorem run_call{f:FuncId}{fn:Func}{xs:Array Operand}{ts:Array TypeId}(hop:o.op=.call { callee:=.value (.func f),args:=xs,argTypes:=ts })(hf:P.funcs[f]?=some fn)(hname:(fn.name == "runtime.NumGoroutine")=false)(hb:fn.body.isNone=false) :
  (execOp a.eval o).run P w=.ok (.enter f (xs.map a.eval)) w:=by
 have h1:fn.name≠ "runtime.NumGoroutine":=by simpa using hname
 have h2:fn.body≠none:=by intro h;rw[h]at hb;simp at hb
 unfold execOp
 simp only[hop]
 simp[go_sem,resolve,invoke,callFunc,hf,h1,h2]
theorem step_call(hg:o.guard=none){f:FuncId}{fn:Func}{xs:Array Operand}{ts:Array TypeId}(hop:o.op=.call { callee:=.value (.func f),args:=xs,argTypes:=ts })(hf:P.funcs[f]?=some fn)(hname:(fn.name == "runtime.NumGoroutine")=false)(hb:fn.body.isNone=false)
  (args:List Value) (hv:xs.toList.map a.eval=args) (hc:Calls P f args.toArray w fun e w'=>∃ v,e=.returned v∧K (a.put o.dst v) w') :
  if Region.wanted o (yielded ops a.tmps)=true then Oper.wp P o a w K Q else E:=by
 refine step_of hg ?_
 unfold Oper.wp
 have hv':xs.map a.eval=args.toArray:=by apply Array.ext';rw[Array.toList_map,hv]
 rw[run_call hop hf hname hb,hv',Oper.upon_enter]
 exact hc.mono fun e w' ⟨v,he,hk⟩=>by subst he;exact hk
theorem step_callw(hw:Region.wanted o (yielded ops a.tmps)=true){f:FuncId}{fn:Func}{xs:Array Operand}{ts:Array TypeId}(hop:o.op=.call { callee:=.value (.func f),args:=xs,argTypes:=ts })(hf:P.funcs[f]?=some fn)(hname:(fn.name == "runtime.NumGoroutine")=false)(hb:fn.body.isNone=false)
  (args:List Value) (hv:xs.toList.map a.eval=args) (hc:Calls P f args.toArray w fun e w'=>∃ v,e=.returned v∧K (a.put o.dst v) w') :
  if Region.wanted o (yielded ops a.tmps)=true then Oper.wp P o a w K Q else E:=by
 rw[if_pos hw]
 unfold Oper.wp
 have hv':xs.map a.eval=args.toArray:=by apply Array.ext';rw[Array.toList_map,hv]
 rw[run_call hop hf hname hb,hv',Oper.upon_enter]
 exact hc.mono fun e w' ⟨v,he,hk⟩=>by subst he;exact hk
variable {α:Type} {enc:α→List Value} {T size:Nat}
theorem wp_app1{w0:World}{T1:TypeId}{cs:Array Value}{t:TypeId}{bytes:Nat}{z:Value}(y:α)
  (s x:Operand) (ho:o.op=.call { callee:=.builtin .append,args:=#[s,x],argTypes:=#[t,t] })
  (ht:P.underlying t=some (.slice T)) (hinfo:(P.info? T).map (fun i=>(i.zero,i.size,i.bytes))=some (some z,size,bytes)) (hzs:z.cells.size=size) (hsz:0<size) (hby:bytes≤1000)
  {l:List α} {n:Nat} {sa:Option Addr} {sc:Nat} (hs:a.eval s=.slice sa n sc) {xb:Nat} (hx:a.eval x=.slice (some ⟨xb,0,none⟩) 1 1) (hn:l.length=n) {B:Nat} (hown:Own enc T size B w sa sc l)
  (hxc:w.heap[xb]?=some (.cells cs T1 (0,0))) (hy:cs.toList=enc y) (h1:∀ u∈enc y,u.oneCell'=true) (hb:n≤1000000000) (hB:B≤w.heap.size) (g:Grows w0 w) (hB0:w0.heap.size≤B)
  (h:∀ (sa':Option Addr) (sc':Nat) (x':Later w0),Own enc T size B x'.w sa' sc' (l++[y])→w.grownBy x'.w (Value.ownBlock (.slice sa n sc))→K (a.put o.dst (.slice sa' (n+1) sc')) x'.w) :
  Oper.wp P o a w K Q:=by
 obtain⟨i,hi,h3⟩:=Option.map_eq_some_iff.1 hinfo
 simp only[Prod.mk.injEq]at h3
 obtain⟨h4,h5,h6⟩:=h3
 subst hn
 have hb':(l.length+1)*bytes≤140737488355328:=by
  have:(l.length+1)*bytes≤(l.length+1)*1000:=Nat.mul_le_mul_left _ hby
  omega
 have hnl:(enc y).length=1*size:=by rw[hown.1];omega
 refine wp_append_own (a:=a) (w:=w) s x t ho B T i z size bytes ht hi h4 h5 h6 hzs hsz _ l.length (l.flatMap enc) hs hown.2 ⟨xb,0,none⟩ 1 1 (enc y) hx hnl
  (fun j u hj=>?_) h1 (by unfold maxLen;omega) hb' hB ?_
 ·have e:(⟨xb,0,none⟩:Addr).add j=⟨xb,j,none⟩:=by
   unfold Addr.add;split
   ·rename_i h;rw[h]
   ·simp
  rw[e]
  rw[← hy,Array.getElem?_toList]at hj
  simp[World.cell?,hxc,hj]
 ·intro v' w' ho' hg' _
  have hlt:=hown.2.lt
  have hbel:Below w0.heap.size w0 w':=g.out.grown hg' g.out.size (fun k hk=>Nat.le_trans hB0 (hlt k hk).1)
  have hf:xs_form v' (l.length+1):=by
   rcases ho'.2 with⟨hv,hn0⟩|⟨g',cap,cur,hv,-⟩
   ·omega
   ·exact⟨_,_,hv⟩
  obtain⟨sa',sc',rfl⟩:=hf
  refine h sa' sc' ⟨w',hbel⟩ ⟨hown.1,?_⟩ hg'
  rw[List.flatMap_append,List.flatMap_singleton,List.length_append,List.length_singleton];exact ho'
theorem wpList_app1X{ops':Array Oper}{rest:List Oper}{w0:World}{T1:TypeId}{cs:Array Value}{t:TypeId}{bytes:Nat}{z:Value}(y:α)(hgd:o.guard=none)
  (s x:Operand) (ho:o.op=.call { callee:=.builtin .append,args:=#[s,x],argTypes:=#[t,t] })
  (ht:P.underlying t=some (.slice T)) (hinfo:(P.info? T).map (fun i=>(i.zero,i.size,i.bytes))=some (some z,size,bytes)) (hzs:z.cells.size=size) (hsz:0<size) (hby:bytes≤1000)
  {l:List α} {n:Nat} {sa:Option Addr} {sc:Nat} (hs:a.eval s=.slice sa n sc) {xb:Nat} (hx:a.eval x=.slice (some ⟨xb,0,none⟩) 1 1) (hn:l.length=n) {B:Nat} (hown:Own enc T size B w sa sc l)
  (hxc:w.heap[xb]?=some (.cells cs T1 (0,0))) (hy:cs.toList=enc y) (h1:∀ u∈enc y,u.oneCell'=true) (hb:n≤1000000000) (hB:B≤w.heap.size) (g:Grows w0 w) (hB0:w0.heap.size≤B)
  (h:∀ (sa':Option Addr) (sc':Nat) (x':Later w0),Own enc T size B x'.w sa' sc' (l++[y])→w.grownBy x'.w (Value.ownBlock (.slice sa n sc))→wpList P ops' Q rest (a.put o.dst (.slice sa' (n+1) sc')) x'.w) :
  wpList P ops' Q (o::rest) a w :=
 wpList_plain hgd fun _ hK=>wp_app1 (w0:=w0) y s x ho ht hinfo hzs hsz hby hs hx hn hown hxc hy h1 hb hB g hB0 fun sa' sc' x' h2 h3=>hK _ _ (h sa' sc' x' h2 h3)
end
theorem blk_alloc(w:World)(o:Obj)(g:Nat)(h:w.heap.size=g):(w.alloc o).heap[g]?=some o:=by
 subst h
 show(w.heap.push _)[w.heap.size]?=_
 simp
theorem blk_grows{w W:World}[gr:Grows w W]{o':Obj}{g:Nat}(h:w.heap[g]?=some o'):W.heap[g]?=some o':=by
 rw[gr.out.block _ (Array.getElem?_eq_some_iff.1 h).1];exact h
theorem Own.emptyAt{α:Type}{enc:α→List Value}{T size g:Nat}{W:World}(hsz:∀ x:α,(enc x).length=size){B:Nat}(hB:B≤W.heap.size)(hg:W.heap.size=g):Own enc T size B (W.alloc (.cells #[] T)) (some ⟨g,0,none⟩) 0 []:=hg▸Own.empty (T:=T) (size:=size) (B:=B) hsz (Later.here (W.alloc (.cells #[] T))) hB
theorem blk_grown{w w':World}{row:Option Nat}{o':Obj}{g:Nat}(hg:w.grownBy w' row)(h:w.heap[g]?=some o')(hne:some g≠row):w'.heap[g]?=some o':=by
 rw[hg.block _ (Array.getElem?_eq_some_iff.1 h).1 hne];exact h
theorem GivesSl.nilOf{α:Type}{enc:α→List Value}{T size:Nat}{w w':World}{l:List α}(hsz:∀ x:α,(enc x).length=size)(hl:l=[])[h:Grows w w']:GivesSl enc T size w l (.returned (.slice none 0 0)) w' :=
 ⟨none,0,by rw[hl];rfl,by rw[hl];exact Own.nil hsz,⟨w',h.out⟩,rfl⟩
structure Slot where
 Time:Int
 Id:Int
def encSlot(s:Slot):List Value:=[.int .i64 s.Time,.int .i64 s.Id]
theorem encSlot_len(s:Slot):(encSlot s).length=2:=rfl
theorem Sl.slot{w:World}{a:Option Addr}{l:List Slot}(h:Sl encSlot w a l){k:Nat}(hk:k<l.length) :
  ∃ b off s,a=some ⟨b,off,none⟩∧LtN b w.heap.size∧Hid (l.drop k=s::l.drop (k+1))∧(∀ (W:World) [Grows w W],W.cell? ⟨b,off+k*2,none⟩=some (.int .i64 s.Time))∧(∀ (W:World) [Grows w W],W.cell? ⟨b,off+k*2+1,none⟩=some (.int .i64 s.Id)):=by
 obtain⟨s,hs,hd⟩:=drop_at hk
 obtain⟨b,off,ha,hb,hc⟩:=h k s hs
 exact⟨b,off,s,ha,⟨hb⟩,hd,cell_grown hb (hc 0 _ rfl),cell_grown hb (hc 1 _ rfl)⟩
structure Pair where
 Board:Int
 True:Int
def encPair(s:Pair):List Value:=[.int .i64 s.Board,.int .i64 s.True]
theorem encPair_len(s:Pair):(encPair s).length=2:=rfl
theorem Sl.pair{w:World}{a:Option Addr}{l:List Pair}(h:Sl encPair w a l){k:Nat}(hk:k<l.length) :
  ∃ b off s,a=some ⟨b,off,none⟩∧LtN b w.heap.size∧Hid (l.drop k=s::l.drop (k+1))∧(∀ (W:World) [Grows w W],W.cell? ⟨b,off+k*2,none⟩=some (.int .i64 s.Board))∧(∀ (W:World) [Grows w W],W.cell? ⟨b,off+k*2+1,none⟩=some (.int .i64 s.True)):=by
 obtain⟨s,hs,hd⟩:=drop_at hk
 obtain⟨b,off,ha,hb,hc⟩:=h k s hs
 exact⟨b,off,s,ha,⟨hb⟩,hd,cell_grown hb (hc 0 _ rfl),cell_grown hb (hc 1 _ rfl)⟩
theorem fset1{α:Type}{enc:α→List Value}(hsz:∀ x:α,(enc x).length=1){y:α}{v0:Value}(hy:enc y=[v0]):∀ (l:List α) (j:Nat),j<l.length→(l.flatMap enc).set (j) v0=(l.set j y).flatMap enc
 | [],j,h=>by simp at h
 | x::l,0,_=>by
  have hx:=hsz x
  match he:enc x,hx with
  | [u0],_=>simp[List.flatMap_cons,he,hy]
 | x::l,j+1,h=>by
  have ih:=fset1 hsz hy l j (by simpa using h)
  rw[List.flatMap_cons,List.set_cons_succ,List.flatMap_cons,← ih]
  have hx:=hsz x
  match he:enc x,hx with
  | [u0],_ =>
   simp
theorem fset2{α:Type}{enc:α→List Value}(hsz:∀ x:α,(enc x).length=2){y:α}{v0 v1:Value}(hy:enc y=[v0,v1]):∀ (l:List α) (j:Nat),j<l.length→((l.flatMap enc).set (j*2) v0).set (j*2+1) v1=(l.set j y).flatMap enc
 | [],j,h=>by simp at h
 | x::l,0,_=>by
  have hx:=hsz x
  match he:enc x,hx with
  | [u0,u1],_=>simp[List.flatMap_cons,he,hy]
 | x::l,j+1,h=>by
  have ih:=fset2 hsz hy l j (by simpa using h)
  rw[List.flatMap_cons,List.set_cons_succ,List.flatMap_cons,← ih]
  have hx:=hsz x
  match he:enc x,hx with
  | [u0,u1],_ =>
   rw[show(j+1)*2=j*2+2 from by omega];simp
theorem fset3{α:Type}{enc:α→List Value}(hsz:∀ x:α,(enc x).length=3){y:α}{v0 v1 v2:Value}(hy:enc y=[v0,v1,v2]):∀ (l:List α) (j:Nat),j<l.length→(((l.flatMap enc).set (j*3) v0).set (j*3+1) v1).set (j*3+2) v2=(l.set j y).flatMap enc
 | [],j,h=>by simp at h
 | x::l,0,_=>by
  have hx:=hsz x
  match he:enc x,hx with
  | [u0,u1,u2],_=>simp[List.flatMap_cons,he,hy]
 | x::l,j+1,h=>by
  have ih:=fset3 hsz hy l j (by simpa using h)
  rw[List.flatMap_cons,List.set_cons_succ,List.flatMap_cons,← ih]
  have hx:=hsz x
  match he:enc x,hx with
  | [u0,u1,u2],_ =>
   rw[show(j+1)*3=j*3+3 from by omega];simp
theorem fset4{α:Type}{enc:α→List Value}(hsz:∀ x:α,(enc x).length=4){y:α}{v0 v1 v2 v3:Value}(hy:enc y=[v0,v1,v2,v3]):∀ (l:List α) (j:Nat),j<l.length→((((l.flatMap enc).set (j*4) v0).set (j*4+1) v1).set (j*4+2) v2).set (j*4+3) v3=(l.set j y).flatMap enc
 | [],j,h=>by simp at h
 | x::l,0,_=>by
  have hx:=hsz x
  match he:enc x,hx with
  | [u0,u1,u2,u3],_=>simp[List.flatMap_cons,he,hy]
 | x::l,j+1,h=>by
  have ih:=fset4 hsz hy l j (by simpa using h)
  rw[List.flatMap_cons,List.set_cons_succ,List.flatMap_cons,← ih]
  have hx:=hsz x
  match he:enc x,hx with
  | [u0,u1,u2,u3],_ =>
   rw[show(j+1)*4=j*4+4 from by omega];simp
def mixed{α:Type}(mk:Nat→α)(l:List α)(j:Nat):List α:=(List.range j).map mk++l.drop j
theorem mixed_length{α:Type}{mk:Nat→α}{l:List α}{j:Nat}(hj:j≤l.length):(mixed mk l j).length=l.length:=by simp[mixed];omega
theorem mixed_set{α:Type}{mk:Nat→α}{l:List α}{j:Nat}(hj:j<l.length):(mixed mk l j).set j (mk j)=mixed mk l (j+1):=by
 have e:∀ y:α,(l.drop j).set 0 y=y::l.drop (j+1):=fun y=>by rw[List.drop_eq_getElem_cons hj];rfl
 unfold mixed
 rw[List.set_append_right _ _ (by simp),List.range_succ,List.map_append]
 simp[e]
theorem mixed_zero{α:Type}{mk:Nat→α}{l:List α}:mixed mk l 0=l:=by simp[mixed]
theorem mixed_all{α:Type}{mk:Nat→α}{l:List α}:mixed mk l l.length=(List.range l.length).map mk:=by simp[mixed]
theorem Own.open{α:Type}{enc:α→List Value}{T size B n:Nat}{w:World}{a:Option Addr}{c:Nat}{l:List α}(h:Own enc T size B w a c l)(hn:0<l.length) :
  ∃ g,a=some ⟨g,0,none⟩∧B≤g∧g<w.heap.size:=by
 obtain⟨hsz,hlen,h1|⟨g,cap,cur,hv,hg,hh,-⟩⟩:=h
 ·omega
 ·simp only[Value.slice.injEq]at hv
  exact⟨g,hv.1,hg,(Array.getElem?_eq_some_iff.1 hh).1⟩
theorem Own.cells{α:Type}{enc:α→List Value}{T size B g:Nat}{w:World}{c:Nat}{l:List α}(h:Own enc T size B w (some ⟨g,0,none⟩) c l){j:Nat}(hj:j<l.length*size):∃ v,w.cell? ⟨g,j,none⟩=some v:=by
 have h1:=h.2.cellAt (n:=l.length) j hj
 exact⟨_,h1.trans (List.getElem?_eq_getElem (by rw[flatMap_length h.1];exact hj))⟩
theorem Own.free{α:Type}{enc:α→List Value}{T size B g:Nat}{w:World}{c:Nat}{l:List α}(h:Own enc T size B w (some ⟨g,0,none⟩) c l)(j:Nat):w.frozen? ⟨g,j,none⟩=false:=h.2.frozenAt j
def Marks{α:Type}(enc:α→List Value)(T size B:Nat)(w:World)(a:Option Addr)(n c:Nat)(l':List α)(k:Int):Ending→World→Prop:=fun e w' =>
 e=.returned (.int .i64 k)∧w.grownBy w' (Value.ownBlock (.slice a n c))∧Own enc T size B w' a c l'
theorem Own.put1{α:Type}{enc:α→List Value}{T B g:Nat}{w:World}{c:Nat}{l:List α}(h:Own enc T 1 B w (some ⟨g,0,none⟩) c l){j:Nat}(hj:j<l.length){y:α}{v0:Value}(hy:enc y=[v0]) :
  Own enc T 1 B ((w).setCell ⟨g,j,none⟩ v0) (some ⟨g,0,none⟩) c (l.set j y)∧w.grownBy ((w).setCell ⟨g,j,none⟩ v0) (some g):=by
 have s0:=(h.2).stored (j) v0
 refine⟨⟨h.1,?_⟩,s0.2⟩
 rw[← fset1 h.1 hy l j hj,List.length_set]
 exact s0.1
theorem Own.put2{α:Type}{enc:α→List Value}{T B g:Nat}{w:World}{c:Nat}{l:List α}(h:Own enc T 2 B w (some ⟨g,0,none⟩) c l){j:Nat}(hj:j<l.length){y:α}{v0 v1:Value}(hy:enc y=[v0,v1]) :
  Own enc T 2 B (((w).setCell ⟨g,j*2,none⟩ v0).setCell ⟨g,j*2+1,none⟩ v1) (some ⟨g,0,none⟩) c (l.set j y)∧w.grownBy (((w).setCell ⟨g,j*2,none⟩ v0).setCell ⟨g,j*2+1,none⟩ v1) (some g):=by
 have s0:=(h.2).stored (j*2) v0
 have s1:=(s0.1).stored (j*2+1) v1
 refine⟨⟨h.1,?_⟩,(grownBy_trans s0.2 s1.2)⟩
 rw[← fset2 h.1 hy l j hj,List.length_set]
 exact s1.1
theorem Own.put3{α:Type}{enc:α→List Value}{T B g:Nat}{w:World}{c:Nat}{l:List α}(h:Own enc T 3 B w (some ⟨g,0,none⟩) c l){j:Nat}(hj:j<l.length){y:α}{v0 v1 v2:Value}(hy:enc y=[v0,v1,v2]) :
  Own enc T 3 B ((((w).setCell ⟨g,j*3,none⟩ v0).setCell ⟨g,j*3+1,none⟩ v1).setCell ⟨g,j*3+2,none⟩ v2) (some ⟨g,0,none⟩) c (l.set j y)∧w.grownBy ((((w).setCell ⟨g,j*3,none⟩ v0).setCell ⟨g,j*3+1,none⟩ v1).setCell ⟨g,j*3+2,none⟩ v2) (some g):=by
 have s0:=(h.2).stored (j*3) v0
 have s1:=(s0.1).stored (j*3+1) v1
 have s2:=(s1.1).stored (j*3+2) v2
 refine⟨⟨h.1,?_⟩,(grownBy_trans (grownBy_trans s0.2 s1.2) s2.2)⟩
 rw[← fset3 h.1 hy l j hj,List.length_set]
 exact s2.1
theorem Own.put4{α:Type}{enc:α→List Value}{T B g:Nat}{w:World}{c:Nat}{l:List α}(h:Own enc T 4 B w (some ⟨g,0,none⟩) c l){j:Nat}(hj:j<l.length){y:α}{v0 v1 v2 v3:Value}(hy:enc y=[v0,v1,v2,v3]) :
  Own enc T 4 B (((((w).setCell ⟨g,j*4,none⟩ v0).setCell ⟨g,j*4+1,none⟩ v1).setCell ⟨g,j*4+2,none⟩ v2).setCell ⟨g,j*4+3,none⟩ v3) (some ⟨g,0,none⟩) c (l.set j y)∧w.grownBy (((((w).setCell ⟨g,j*4,none⟩ v0).setCell ⟨g,j*4+1,none⟩ v1).setCell ⟨g,j*4+2,none⟩ v2).setCell ⟨g,j*4+3,none⟩ v3) (some g):=by
 have s0:=(h.2).stored (j*4) v0
 have s1:=(s0.1).stored (j*4+1) v1
 have s2:=(s1.1).stored (j*4+2) v2
 have s3:=(s2.1).stored (j*4+3) v3
 refine⟨⟨h.1,?_⟩,(grownBy_trans (grownBy_trans (grownBy_trans s0.2 s1.2) s2.2) s3.2)⟩
 rw[← fset4 h.1 hy l j hj,List.length_set]
 exact s3.1
def Among(a:Option Addr)(B U:Nat):Prop:=∀ k,Value.ownBlock (.slice a 0 0)=some k→B≤k∧k<U
theorem Own.keep{α:Type}{enc:α→List Value}{T size B B1 U1 B2 U2 n2 c2:Nat}{V w1:World}{a a2:Option Addr}{c:Nat}{l:List α}(h:Own enc T size B V a c l)(hg:V.grownBy w1 (Value.ownBlock (.slice a2 n2 c2)))
  (i1:Among a B1 U1) (i2:Among a2 B2 U2) (hd:LeN U1 B2∨LeN U2 B1):Own enc T size B w1 a c l:=by
 refine⟨h.1,h.2.kept hg ?_⟩
 cases a with
 | none=>exact .inl rfl
 | some a =>
  right
  cases a2 with
  | none=>simp[Value.ownBlock]
  | some b =>
   have h1:=i1 _ rfl
   have h2:=i2 _ rfl
   intro he
   simp only[Value.ownBlock,Option.some.injEq]at he
   rcases hd with hd|hd
   ·have:=hd.out;omega
   ·have:=hd.out;omega
def mkSlot(k0:Int)(i:Nat):Slot:=(⟨k0+i*2,k0+i*2+1⟩:Slot)
theorem c_lmarkSlotS{a:Option Addr}{n c B:Nat}{k0:Int}{l:List Slot}{w:World}(hown0:Own encSlot 174 2 B w a c l)(hn:l.length=n)(hm:n≤100000000)(h1:0≤k0)(h2:k0≤1000000000000) :
  Calls Tryz.prog 45 #[.slice a n c,.int .i64 k0] w (Marks encSlot 174 2 B w a n c ((List.range n).map (mkSlot k0)) (k0+n*2)):=by
 go_enter Tryz.func45,Tryz.ntmps45
 go_wp2_with (fail)
 go_loopw [1,5] (fun u v wr=>∃ j:Nat,v=.int .i64 j∧u=.int .i64 (k0+j*2)∧j≤n∧w.grownBy wr (Value.ownBlock (.slice a n c))∧Own encSlot 174 2 B wr a c (mixed (mkSlot k0) l j)) (fun _ v _=>(n - intOf v).toNat)
 case atStart=>exact⟨0,rfl,by simp,by omega,grownBy_refl _ _,by rw[mixed_zero];exact hown0⟩
 case round =>
  obtain⟨j,rfl,rfl,hj,hgr,hown⟩:=hrel
  by_cases h:j<n
  ·obtain⟨g,rfl,hB,hlt⟩:=hown.open (n:=n) (by rw[mixed_length (by omega)];omega)
   obtain⟨o0,g0⟩:=hown.cells (j:=j*2) (by rw[mixed_length (by omega)];omega);obtain⟨o1,g1⟩:=hown.cells (j:=j*2+1) (by rw[mixed_length (by omega)];omega);
   have f0:=hown.free (j*2);have f1:=hown.free (j*2+1);
   have HG:=lH hgr;clear hgr
   go_wp2_with (fail)
   go_roundw
   case rel =>
    have hp:=hown.put2 (j:=j) (y:=mkSlot k0 j) (by rw[mixed_length (by omega)];omega) rfl
    exact⟨j+1,by go_num,by go_num,by omega,grownBy_trans HG.out hp.2,by rw[← mixed_set (by omega)];exact hp.1⟩
   case measure=>simp[intOf];omega
  ·go_wp2_with (fail)
   go_ret
   obtain rfl:j=n:=by omega
   refine⟨rfl,hgr,?_⟩
   rw[← hn,mixed_all]at hown
   rw[← hn];exact hown
theorem c_lheldSlotS{a:Option Addr}{n c:Nat}{k0:Int}{w:World}(hs:Sl encSlot w a ((List.range n).map (mkSlot k0)))(hm:n≤100000000)(h1:0≤k0)(h2:k0≤1000000000000) :
  Calls Tryz.prog 50 #[.slice a n c,.int .i64 k0] w (Gives w (.int .i64 (k0+n*2))):=by
 go_enter Tryz.func50,Tryz.ntmps50
 go_wp2_with (fail)
 go_loopw [1,5] (fun u v wr=>∃ j:Nat,v=.int .i64 j∧u=.int .i64 (k0+j*2)∧j≤n∧∃ x:Later w,wr=x.w) (fun _ v _=>(n - intOf v).toNat)
 case atStart=>exact⟨0,rfl,by simp,by omega,Later.of⟩
 case round =>
  obtain⟨j,rfl,rfl,hj,x0,rfl⟩:=hrel
  by_cases h:j<n
  ·obtain⟨b,off,s,rfl,hb,hd,e0,e1⟩:=hs.slot (k:=j) (by simpa using h)
   obtain rfl:s=mkSlot k0 j:=by
    have:=congrArg (fun m=>m[0]?) hd.out
    simpa[h]using this.symm
   simp only[mkSlot]at e0 e1
   clear hd
   go_wp2_with (fail)
   go_roundw
   case rel=>exact⟨j+1,by go_num,by go_num,by omega,Later.of⟩
   case measure=>simp[intOf];omega
  ·go_wp2_with (fail)
   go_ret
   obtain rfl:j=n:=by omega
   exact Gives.mk rfl
def mkPair(k0:Int)(i:Nat):Pair:=(⟨k0+i*2,k0+i*2+1⟩:Pair)
theorem c_lmarkPairS{a:Option Addr}{n c B:Nat}{k0:Int}{l:List Pair}{w:World}(hown0:Own encPair 194 2 B w a c l)(hn:l.length=n)(hm:n≤100000000)(h1:0≤k0)(h2:k0≤1000000000000) :
  Calls Tryz.prog 148 #[.slice a n c,.int .i64 k0] w (Marks encPair 194 2 B w a n c ((List.range n).map (mkPair k0)) (k0+n*2)):=by
 go_enter Tryz.func148,Tryz.ntmps148
 go_wp2_with (fail)
 go_loopw [1,5] (fun u v wr=>∃ j:Nat,v=.int .i64 j∧u=.int .i64 (k0+j*2)∧j≤n∧w.grownBy wr (Value.ownBlock (.slice a n c))∧Own encPair 194 2 B wr a c (mixed (mkPair k0) l j)) (fun _ v _=>(n - intOf v).toNat)
 case atStart=>exact⟨0,rfl,by simp,by omega,grownBy_refl _ _,by rw[mixed_zero];exact hown0⟩
 case round =>
  obtain⟨j,rfl,rfl,hj,hgr,hown⟩:=hrel
  by_cases h:j<n
  ·obtain⟨g,rfl,hB,hlt⟩:=hown.open (n:=n) (by rw[mixed_length (by omega)];omega)
   obtain⟨o0,g0⟩:=hown.cells (j:=j*2) (by rw[mixed_length (by omega)];omega);obtain⟨o1,g1⟩:=hown.cells (j:=j*2+1) (by rw[mixed_length (by omega)];omega);
   have f0:=hown.free (j*2);have f1:=hown.free (j*2+1);
   have HG:=lH hgr;clear hgr
   go_wp2_with (fail)
   go_roundw
   case rel =>
    have hp:=hown.put2 (j:=j) (y:=mkPair k0 j) (by rw[mixed_length (by omega)];omega) rfl
    exact⟨j+1,by go_num,by go_num,by omega,grownBy_trans HG.out hp.2,by rw[← mixed_set (by omega)];exact hp.1⟩
   case measure=>simp[intOf];omega
  ·go_wp2_with (fail)
   go_ret
   obtain rfl:j=n:=by omega
   refine⟨rfl,hgr,?_⟩
   rw[← hn,mixed_all]at hown
   rw[← hn];exact hown
theorem c_lheldPairS{a:Option Addr}{n c:Nat}{k0:Int}{w:World}(hs:Sl encPair w a ((List.range n).map (mkPair k0)))(hm:n≤100000000)(h1:0≤k0)(h2:k0≤1000000000000) :
  Calls Tryz.prog 156 #[.slice a n c,.int .i64 k0] w (Gives w (.int .i64 (k0+n*2))):=by
 go_enter Tryz.func156,Tryz.ntmps156
 go_wp2_with (fail)
 go_loopw [1,5] (fun u v wr=>∃ j:Nat,v=.int .i64 j∧u=.int .i64 (k0+j*2)∧j≤n∧∃ x:Later w,wr=x.w) (fun _ v _=>(n - intOf v).toNat)
 case atStart=>exact⟨0,rfl,by simp,by omega,Later.of⟩
 case round =>
  obtain⟨j,rfl,rfl,hj,x0,rfl⟩:=hrel
  by_cases h:j<n
  ·obtain⟨b,off,s,rfl,hb,hd,e0,e1⟩:=hs.pair (k:=j) (by simpa using h)
   obtain rfl:s=mkPair k0 j:=by
    have:=congrArg (fun m=>m[0]?) hd.out
    simpa[h]using this.symm
   simp only[mkPair]at e0 e1
   clear hd
   go_wp2_with (fail)
   go_roundw
   case rel=>exact⟨j+1,by go_num,by go_num,by omega,Later.of⟩
   case measure=>simp[intOf];omega
  ·go_wp2_with (fail)
   go_ret
   obtain rfl:j=n:=by omega
   exact Gives.mk rfl
def mkInt(k0:Int)(i:Nat):Int:=(k0+i)
theorem c_lmarkIntS{a:Option Addr}{n c B:Nat}{k0:Int}{l:List Int}{w:World}(hown0:Own encInt 3 1 B w a c l)(hn:l.length=n)(hm:n≤100000000)(h1:0≤k0)(h2:k0≤1000000000000) :
  Calls Tryz.prog 238 #[.slice a n c,.int .i64 k0] w (Marks encInt 3 1 B w a n c ((List.range n).map (mkInt k0)) (k0+n*1)):=by
 go_enter Tryz.func238,Tryz.ntmps238
 go_wp2_with (fail)
 go_loopw [1,5] (fun u v wr=>∃ j:Nat,v=.int .i64 j∧u=.int .i64 (k0+j*1)∧j≤n∧w.grownBy wr (Value.ownBlock (.slice a n c))∧Own encInt 3 1 B wr a c (mixed (mkInt k0) l j)) (fun _ v _=>(n - intOf v).toNat)
 case atStart=>exact⟨0,rfl,by simp,by omega,grownBy_refl _ _,by rw[mixed_zero];exact hown0⟩
 case round =>
  obtain⟨j,rfl,rfl,hj,hgr,hown⟩:=hrel
  by_cases h:j<n
  ·obtain⟨g,rfl,hB,hlt⟩:=hown.open (n:=n) (by rw[mixed_length (by omega)];omega)
   obtain⟨o0,g0⟩:=hown.cells (j:=j) (by rw[mixed_length (by omega)];omega);
   have f0:=hown.free (j);
   have HG:=lH hgr;clear hgr
   go_wp2_with (fail)
   go_roundw
   case rel =>
    have hp:=hown.put1 (j:=j) (y:=mkInt k0 j) (by rw[mixed_length (by omega)];omega) rfl
    exact⟨j+1,by go_num,by go_num,by omega,grownBy_trans HG.out hp.2,by rw[← mixed_set (by omega)];exact hp.1⟩
   case measure=>simp[intOf];omega
  ·go_wp2_with (fail)
   go_ret
   obtain rfl:j=n:=by omega
   refine⟨rfl,hgr,?_⟩
   rw[← hn,mixed_all]at hown
   rw[← hn];exact hown
theorem c_lheldIntS{a:Option Addr}{n c:Nat}{k0:Int}{w:World}(hs:Sl encInt w a ((List.range n).map (mkInt k0)))(hm:n≤100000000)(h1:0≤k0)(h2:k0≤1000000000000) :
  Calls Tryz.prog 244 #[.slice a n c,.int .i64 k0] w (Gives w (.int .i64 (k0+n*1))):=by
 go_enter Tryz.func244,Tryz.ntmps244
 go_wp2_with (fail)
 go_loopw [1,5] (fun u v wr=>∃ j:Nat,v=.int .i64 j∧u=.int .i64 (k0+j*1)∧j≤n∧∃ x:Later w,wr=x.w) (fun _ v _=>(n - intOf v).toNat)
 case atStart=>exact⟨0,rfl,by simp,by omega,Later.of⟩
 case round =>
  obtain⟨j,rfl,rfl,hj,x0,rfl⟩:=hrel
  by_cases h:j<n
  ·obtain⟨b,off,s,rfl,hb,hd,e0⟩:=hs.int (k:=j) (by simpa using h)
   obtain rfl:s=mkInt k0 j:=by
    have:=congrArg (fun m=>m[0]?) hd.out
    simpa[h]using this.symm
   simp only[mkInt]at e0
   clear hd
   go_wp2_with (fail)
   go_roundw
   case rel=>exact⟨j+1,by go_num,by go_num,by omega,Later.of⟩
   case measure=>simp[intOf];omega
  ·go_wp2_with (fail)
   go_ret
   obtain rfl:j=n:=by omega
   exact Gives.mk rfl
def Held(w:World)(b:Nat)(cs:List Value)(T:TypeId):Prop:=w.heap[b]?=some (.cells cs.toArray T (0,0))
theorem Held.new(W:World)(cs:List Value)(T g:Nat)(hg:W.heap.size=g):Held (W.alloc (.cells cs.toArray T)) g cs T:=blk_alloc W _ g hg
theorem Held.to{w W:World}{b:Nat}{cs:List Value}{T:TypeId}(h:Held w b cs T)(g:Grows w W):Held W b cs T:=blk_grows (gr:=g) h
theorem Held.lt{w:World}{b:Nat}{cs:List Value}{T:TypeId}(h:Held w b cs T):b<w.heap.size:=(Array.getElem?_eq_some_iff.1 h).1
theorem Held.ltN{w:World}{b:Nat}{cs:List Value}{T:TypeId}(h:Held w b cs T):LtN b w.heap.size:=⟨h.lt⟩
theorem Held.cell{w:World}{b:Nat}{cs:List Value}{T:TypeId}(h:Held w b cs T)(i:Nat):w.cell? ⟨b,i,none⟩=cs[i]?:=by simp[World.cell?,show w.heap[b]?=_ from h]
theorem Held.free{w:World}{b:Nat}{cs:List Value}{T:TypeId}(h:Held w b cs T)(i:Nat):w.frozen? ⟨b,i,none⟩=false:=by simp[World.frozen?,show w.heap[b]?=_ from h]
theorem Held.set{w:World}{b:Nat}{cs:List Value}{T:TypeId}(h:Held w b cs T)(i:Nat)(v:Value):Held (w.setCell ⟨b,i,none⟩ v) b (cs.set i v) T:=by
 have h':w.heap[b]?=some (.cells cs.toArray T (0,0)):=h
 unfold Held World.setCell
 simp[Array.getElem?_modify,h']
theorem Own.notHeld{α:Type}{enc:α→List Value}{T T' size B n:Nat}{w:World}{a:Option Addr}{c b:Nat}{l:List α}{cs:List Value}(h:Own enc T size B w a c l)(hb:Held w b cs T')(hT:T≠T'):some b≠Value.ownBlock (.slice a n c):=by
 obtain⟨-,-,⟨h1,-⟩|⟨g,cap,cur,hv,-,hh,-⟩⟩:=h
 ·simp only[Value.slice.injEq]at h1;obtain⟨rfl,-⟩:=h1;simp[Value.ownBlock]
 ·simp only[Value.slice.injEq]at hv;obtain⟨rfl,-⟩:=hv
  simp only[Value.ownBlock,ne_eq,Option.some.injEq]
  rintro rfl
  have hb':w.heap[b]?=some (.cells cs.toArray T' (0,0)):=hb
  rw[hb']at hh
  simp only[Option.some.injEq,Obj.cells.injEq]at hh
  exact hT hh.2.1.symm
theorem Held.kept{α:Type}{enc:α→List Value}{T T' size B n:Nat}{w w':World}{a:Option Addr}{c b:Nat}{l:List α}{cs:List Value}(hb:Held w b cs T')(h:Own enc T size B w a c l)(hT:T≠T')(hg:w.grownBy w' (Value.ownBlock (.slice a n c))):Held w' b cs T' :=
 blk_grown hg hb (h.notHeld hb hT)
theorem Own.set{α:Type}{enc:α→List Value}{T T' size B:Nat}{w:World}{a:Option Addr}{c b:Nat}{l:List α}{cs:List Value}(h:Own enc T size B w a c l)(hb:Held w b cs T')(hT:T≠T')(i:Nat)(v:Value):Own enc T size B (w.setCell ⟨b,i,none⟩ v) a c l:=by
 refine⟨h.1,h.2.kept (row:=some b) ⟨rfl,rfl,rfl,by simp,fun k hk hr=>?_⟩ (.inr (fun e=>h.notHeld (n:=l.length) hb hT e.symm))⟩
 rw[Below.heap_setCell _ _ _ _ (fun e=>hr (by simp only at e;rw[e]))]
theorem Held.cellG{w:World}{b:Nat}{cs:List Value}{T:TypeId}(h:Held w b cs T)(i:Nat)(v:Value)(hv:cs[i]?=some v):∀ (W:World) [Grows w W],W.cell? ⟨b,i,none⟩=some v:=fun W g=>by rw[(h.to g).cell i];exact hv
theorem okWide_struct{P:Program}{w:World}{r:Reach}{base:Nat}{t:TypeId}{v:Value}{fs:Array Field}(ht:P.underlying t=some (.struct fs))(h:Value.okWide P w r base t v):∃ cs,v=.agg cs∧cs.size=P.cellsOf t:=by
 simp only[Value.okWide,ht]at h
 obtain⟨cs,h1,h2,-⟩:=h
 exact⟨cs,h1,h2⟩
/-! ### Slices of numbers -/
theorem c_cloneInt{a:Option Addr}{n c:Nat}{l:List Int}{w:World}(hs:Sl encInt w a l)(hn:l.length=n)(hm:n≤100000000) :
  Calls Tryz.prog 208 #[.slice a n c] w (GivesSl encInt 3 1 w l):=by
 cases a with
 | none =>
  have hl:l=[]:=by
   cases l with
   | nil=>rfl
   | cons y r=>obtain⟨b,off,h0,-⟩:=hs 0 y rfl;cases h0
  have hq:=fun(w:World)=>run_eql_slice_nil (P:=Tryz.prog) w 46 3 none n c Tryz.underlying46
  simp only[Option.isNone]at hq
  have HL:=lH hl;clear hl
  go_enter Tryz.func208,Tryz.ntmps208
  go_wp2_with (fail)
  go_ret
  exact GivesSl.nilOf encInt_len HL.out
 | some ad =>
  have hq:=fun(w:World)=>run_eql_slice_nil (P:=Tryz.prog) w 46 3 (some ad) n c Tryz.underlying46
  simp only[Option.isNone]at hq
  go_enter Tryz.func208,Tryz.ntmps208
  go_wp2_with (first|(at_builtin;refine wpList_appS (enc:=encInt) (w0:=w) (z:=.int .i64 0) (size:=1) (bytes:=8) (n:=0) (l:=[]) rfl (.tmp 5) (.tmp 6) rfl Tryz.underlying46 kr rfl (by decide) (by decide) rfl rfl (fun h=>by cases h) rfl hn (Own.emptyAt encInt_len nl rfl) (hs.to ii) encInt_one (by omega) ?_;intro sa1 sc1 x1 hown1 hgr1))
  go_ret
  rw[List.nil_append]at hown1
  exact⟨sa1,sc1,by rw[hn];first|rfl|simp,hown1,Later.of⟩
