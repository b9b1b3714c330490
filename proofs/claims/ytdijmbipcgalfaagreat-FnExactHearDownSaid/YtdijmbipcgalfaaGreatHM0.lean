/- Words for walks: 'Later W' is a world that has grown out of W (below W's size nothing has turned); a contract that gives one value and a later world. -/
import Derived.Test.YtdijmbipcgalfaaGreatRows
import Derived.WalkKit
import Derived.ProofKit
import Derived.OpenShut
import Derived.WalkLawsBesides
import Derived.WalkSpells
import Derived.Outline
import Derived.Deep.QuietTactic
import Derived.BigQuiet
import Derived.Lib.Hide
import Derived.Lib.SmallJoins
import Derived.Deep.Slices
import Derived.Laws.AppendOwnNone
import Derived.Deep.RegionLaw
import Derived.Lib.LazyBuf
import Derived.Deep.RegionHeld3
import Derived.Deep.MidRow
namespace Go.Proofs.YtdijmbipcgalfaaGreat
set_option linter.unusedVariables false
open Go.ChangeShapes Go.WideShapes Go.ChangeAt Go.RowKit
variable {hi k0 l lo r x:Int}{cs:List Value}{B b bytes c g m n sc size:Nat}{a sa:Option Addr}{T t:TypeId}{v v0 v1 z:Value}{W w w0:World}
structure b7(W:World) where
 w:World
 h:Below W.heap.size W w
namespace b7
variable {W:World}
def here(W:World):b7 W:=⟨W,Below.refl _ _⟩
instance:Nonempty (b7 W):=⟨here W⟩
def draw(x:b7 W):b7 W:=⟨x.w.drew,x.h.drew⟩
def andThen(x:b7 W)(y:b7 x.w):b7 W:=⟨y.w,x.h.trans (y.h.mono x.h.size)⟩
theorem bN8{w':World}(h:Below B w w')(a:Addr)(v:Value):Below B (w.setCell a v) (w'.setCell a v):=by
 refine⟨h.os,h.tape,h.output,by simpa[World.setCell]using h.size,fun k hk=>?_⟩
 have:=h.block k hk
 simp only[World.setCell,Array.getElem?_modify,this]
def set(x:b7 W)(a:Addr)(v:Value):b7 (W.setCell a v):=⟨x.w.setCell a v,by
 have:=bN8 x.h a v
 rwa[show(W.setCell a v).heap.size=W.heap.size from by simp]⟩
@[go_sem] theorem cb9(x:b7 W):x.w.drew=x.draw.w:=rfl
@[go_sem] theorem bY1(x:b7 W)(y:b7 x.w):y.w=(x.andThen y).w:=rfl
@[go_sem] theorem bZ1(x:b7 W)(a:Addr)(v:Value):x.w.setCell a v=(x.set a v).w:=rfl
theorem size_le(x:b7 W):W.heap.size≤x.w.heap.size:=x.h.size
end b7
/-! ### Facts that are found by their form: by instances, not by simp's own side goals (which go two deep alone) -/
class LeN(a b:Nat):Prop where
 out:a≤b
class LtN(a b:Nat):Prop where
 out:a<b
instance(priority:=50) LeN.ofLt (a b:Nat)[h:LtN a b]:LeN a b:=⟨Nat.le_of_lt h.out⟩
instance LeN.same(a:Nat):LeN a a:=⟨Nat.le_refl _⟩
instance LeN.succ(a b:Nat)[h:LeN a b]:LeN a (b+1):=⟨Nat.le_succ_of_le h.out⟩
instance LeN.later(a:Nat){W:World}(x:b7 W)[h:LeN a W.heap.size]:LeN a x.w.heap.size:=⟨Nat.le_trans h.out x.size_le⟩
instance LeN.alloc(a:Nat)(W:World)(o:Obj)[h:LeN a W.heap.size]:LeN a (W.alloc o).heap.size:=⟨by have:=h.out;simp;omega⟩
instance LeN.setCell(a:Nat)(W:World)(p:Addr)(v:Value)[h:LeN a W.heap.size]:LeN a (W.setCell p v).heap.size:=⟨by simpa using h.out⟩
instance(priority:=900) LeN.andThen (a:Nat){W:World}(x:b7 W)(y:b7 x.w)[h:LeN a x.w.heap.size]:LeN a (x.andThen y).w.heap.size:=⟨Nat.le_trans h.out y.size_le⟩
instance LeN.allocS(a:Nat)(W:World)(o:Obj)[h:LeN a W.heap.size]:LeN (a+1) (W.alloc o).heap.size:=⟨by have:=h.out;simp;omega⟩
instance LeN.succS(a b:Nat)[h:LeN a b]:LeN (a+1) (b+1):=⟨Nat.succ_le_succ h.out⟩
instance LtN.allocS(a:Nat)(W:World)(o:Obj)[h:LtN a W.heap.size]:LtN (a+1) (W.alloc o).heap.size:=⟨by have:=h.out;simp;omega⟩
instance LtN.succS(a b:Nat)[h:LtN a b]:LtN (a+1) (b+1):=⟨Nat.succ_lt_succ h.out⟩
instance LtN.succ(a b:Nat)[h:LeN a b]:LtN a (b+1):=⟨Nat.lt_succ_of_le h.out⟩
instance LtN.later(a:Nat){W:World}(x:b7 W)[h:LtN a W.heap.size]:LtN a x.w.heap.size:=⟨Nat.lt_of_lt_of_le h.out x.size_le⟩
instance LtN.alloc(a:Nat)(W:World)(o:Obj)[h:LeN a W.heap.size]:LtN a (W.alloc o).heap.size:=⟨by have:=h.out;simp;omega⟩
instance LtN.setCell(a:Nat)(W:World)(p:Addr)(v:Value)[h:LtN a W.heap.size]:LtN a (W.setCell p v).heap.size:=⟨by simpa using h.out⟩
instance(priority:=900) LtN.andThen (a:Nat){W:World}(x:b7 W)(y:b7 x.w)[h:LtN a x.w.heap.size]:LtN a (x.andThen y).w.heap.size:=⟨Nat.lt_of_lt_of_le h.out y.size_le⟩
instance(priority:=800) LtN.andThen2 (a:Nat){W:World}(x:b7 W)(y:b7 x.w)[h:LtN a y.w.heap.size]:LtN a (x.andThen y).w.heap.size:=h
instance(priority:=800) LeN.andThen2 (a:Nat){W:World}(x:b7 W)(y:b7 x.w)[h:LeN a y.w.heap.size]:LeN a (x.andThen y).w.heap.size:=h
namespace b7
variable {W:World}
@[go_sem] theorem cb8(x:b7 W)(b o:Nat)[h:LtN b W.heap.size]:x.w.cell? ⟨b,o,none⟩=W.cell? ⟨b,o,none⟩:=x.h.cell (p:=⟨b,o,none⟩) h.out
@[go_sem] theorem bZ8(x:b7 W)(b o:Nat)[h:LtN b W.heap.size]:x.w.frozen? ⟨b,o,none⟩=W.frozen? ⟨b,o,none⟩:=x.h.frozen (p:=⟨b,o,none⟩) h.out
@[go_sem] theorem cell_past(w:World)(o:Obj)(n i:Nat)[h:LtN n w.heap.size]:(w.alloc o).cell? ⟨n,i,none⟩=w.cell? ⟨n,i,none⟩:=World.cell?_alloc_past o n i h.out
@[go_sem] theorem frozen_past(w:World)(o:Obj)(n i:Nat)[h:LtN n w.heap.size]:(w.alloc o).frozen? ⟨n,i,none⟩=w.frozen? ⟨n,i,none⟩:=World.frozen?_alloc_past o n i h.out
@[go_sem] theorem cb1(w:World)(o:Obj)(n i:Nat)(v:Value)[h:LtN n w.heap.size]:(w.alloc o).setCell ⟨n,i,none⟩ v=(w.setCell ⟨n,i,none⟩ v).alloc o:=World.setCell_alloc_past o n i v h.out
@[go_sem] theorem cc1(x:b7 W)(b:Nat)[h:LtN b W.heap.size]:(b<x.w.heap.size)=True:=eq_true (Nat.lt_of_lt_of_le h.out x.h.size)
@[go_sem] theorem cc0(x:b7 W)(b:Nat)[h:LeN b W.heap.size]:(b≤x.w.heap.size)=True:=eq_true (Nat.le_trans h.out x.h.size)
end b7
class b8(w W:World):Prop where
 out:Below w.heap.size w W
instance b8.same(w:World):b8 w w:=⟨Below.refl _ _⟩
instance b8.alloc(w W:World)(o:Obj)[h:b8 w W]:b8 w (W.alloc o):=⟨h.out.alloc h.out.size o⟩
instance b8.later(w W:World)[h:b8 w W](x:b7 W):b8 w x.w:=⟨h.out.trans (x.h.mono h.out.size)⟩
instance b8.drew(w W:World)[h:b8 w W]:b8 w W.drew:=⟨h.out.drew⟩
instance b8.set(w W:World)(b i:Nat)(v:Value)[h:b8 w W][k:LeN w.heap.size b]:b8 w (W.setCell ⟨b,i,none⟩ v):=⟨h.out.setCell k.out v⟩
instance(priority:=900) b8.andThen (a:World){W:World}(x:b7 W)(y:b7 x.w)[h:b8 a x.w]:b8 a (x.andThen y).w:=⟨h.out.trans (y.h.mono h.out.size)⟩
instance(priority:=950) b8.andThenSelf {W:World}(x:b7 W)(y:b7 x.w):b8 y.w (x.andThen y).w:=⟨Below.refl _ _⟩
instance(priority:=50) LeN.grows (w W:World)[h:b8 w W]:LeN w.heap.size W.heap.size:=⟨h.out.size⟩
theorem b7.of{w W:World}[h:b8 w W]:∃ x:b7 w,W=x.w:=⟨⟨W,h.out⟩,rfl⟩
theorem j4{o:Nat}(hb:b<w.heap.size)(h:w.cell? ⟨b,o,none⟩=some v)(W:World)[g:b8 w W]:W.cell? ⟨b,o,none⟩=some v:=by
 rw[g.out.cell (p:=⟨b,o,none⟩) hb];exact h
def b5(w:World)(v:Value):Ending→World→Prop:=fun e w'=>e=.returned v∧∃ x:b7 w,w'=x.w
theorem b5.mk{w:World}{v u:Value}{w':World}(hv:u=v)[h:b8 w w']:b5 w v (.returned u) w':=⟨by rw[hv],⟨w',h.out⟩,rfl⟩
theorem b5.below{P:Program}{f:FuncId}{args:Array Value}{w:World}{v:Value}(h:Calls P f args w (b5 w v)) :
  Calls P f args w fun e w'=>e=.returned v∧Below w.heap.size w w' :=
 h.mono fun _ _ ⟨he,x,hx⟩=>⟨he,by rw[hx];exact x.h⟩
theorem b5.quiet{P:Program}{f:FuncId}{args:Array Value}{W:World}{x:b7 W}{v:Value}(h:Calls P f args x.w (b5 x.w v)) :
  Calls P f args x.w fun e w'=>e=.returned v∧∃ y:b7 W,w'=y.w :=
 h.mono fun _ _ ⟨he,y,hy⟩=>⟨he,x.andThen y,hy⟩
theorem bR2{P:Program}{id:Nat}{Q:Exit→Act→World→Prop}{a:Act}{l:List Oper}(hm:P.follows .mixedOrders=true)(hB:Region.lexB .any l.toArray=true)
  (h:wpQuiet P l.toArray (fun w'=>∃ x:b7 W,w'=x.w) (fun a'=>∀ w',(∃ x:b7 W,w'=x.w)→Q .normal a' w') l a):(Code.region id l.toArray true).wp P Q a W :=
 wp_region_quiet (C:=fun w'=>∃ x:b7 W,w'=x.w) hm hB ⟨⟨_,(Below.refl _ W).drew⟩,rfl⟩ (by simpa using h)
theorem lH{p:Prop}(h:p):Hid p:=h
theorem nrm:(∀ (a:Act) (d:Nat) (v:Value),a.put (some d) v={ a with tmps:=a.tmps.setIfInBounds d v })∧(∀ (a:Act) (v:Value),a.put none v=a)∧(∀ (l:List Value) (i:Nat) (v:Value),l.toArray.setIfInBounds i v=(l.set i v).toArray)∧(∀ (l:List Bool) (i:Nat) (v:Bool),l.toArray.setIfInBounds i v=(l.set i v).toArray)∧(∀ (x:Value) (l:List Value) (i:Nat) (v:Value),(x::l).set (i+1) v=x::l.set i v)∧(∀ (x:Value) (l:List Value) (v:Value),(x::l).set 0 v=v::l)∧(∀ (x:Bool) (l:List Bool) (i:Nat) (v:Bool),(x::l).set (i+1) v=x::l.set i v)∧(∀ (x:Bool) (l:List Bool) (v:Bool),(x::l).set 0 v=v::l) :=
 ⟨fun _ _ _=>rfl,fun _ _=>rfl,fun _ _ _=>List.setIfInBounds_toArray ..,fun _ _ _=>List.setIfInBounds_toArray ..,fun _ _ _ _=>rfl,fun _ _ _=>rfl,fun _ _ _ _=>rfl,fun _ _ _=>rfl⟩
theorem kr{p:Prop}(h:p:=by kernel_rfl):p:=h
theorem sd{p:Prop}(h:p:=by first|assumption|(apply Sl.to<;>first|assumption|infer_instance)|omega):p:=h
theorem bk{p:Prop}(h:p:=by first|(refine S5 _ _ _ ?_;(first|rfl|(simp;done)))|(refine aC0 (S5 _ _ _ ?_);(first|rfl|(simp;done)))|(refine bk7 _ (S5 _ _ _ ?_);(first|rfl|(simp;done)))|(refine bk7 _ (aC0 (S5 _ _ _ ?_));(first|rfl|(simp;done)))|(refine aC0 (aC0 (S5 _ _ _ ?_));(first|rfl|(simp;done)))|assumption):p:=h
theorem kg{p:Prop}(h:p:=by first|kernel_rfl|go_simp):p:=h
theorem nl:n≤n:=Nat.le_refl n
theorem nb(h:Nat.ble n m=true:=by exact rfl):n≤m:=Nat.le_of_ble_eq_true h
theorem dt{α:Type}{l:List α}:(l.drop 0).take l.length=l:=by rw[List.drop_zero,List.take_length]
abbrev ii:=@inferInstance.{0}
theorem rl{P:Program}{id:Nat}{Q:Exit→Act→World→Prop}{a:Act}{l:List Oper}(h:wpQuiet P l.toArray (fun w'=>∃ x:b7 W,w'=x.w) (fun a'=>∀ x:b7 W,Q .normal a' x.w) l a)(hm:P.follows .mixedOrders=true:=by kernel_rfl)(hB:Region.lexB .any l.toArray=true:=by kernel_rfl):(Code.region id l.toArray true).wp P Q a W:=wp_region_quiet (C:=fun w'=>∃ x:b7 W,w'=x.w) hm hB ⟨⟨_,(Below.refl _ W).drew⟩,rfl⟩ (by
 have h2:(fun a'=>∀ x:b7 W,Q .normal a' x.w)=(fun a'=>∀ w',(∃ x:b7 W,w'=x.w)→Q .normal a' w'):=funext fun a'=>propext ⟨fun h w' ⟨x,e⟩=>e▸h x,fun h x=>h _ ⟨x,rfl⟩⟩
 rw[h2]at h
 simpa using h)
theorem rq{P:Program}{ops:Array Oper}{C:World→Prop}{Q:Act→Prop}{l:List Oper}{a:Act}{R:Prop}(k:R)(h:R→wpQuiet P ops C Q l a:=by intro K;(repeat(first|go_big_quiet_step (first|fail)));refine wpQuiet_nil ?_;exact K):wpQuiet P ops C Q l a:=h k
theorem gm{P:Program}{f:FuncId}{args:Array Value}{R:Ending→World→Prop}(h:Calls P f args w (b5 w v))(k:∀ x:b7 w,R (.returned v) x.w):Calls P f args w R:=h.mono fun _ _ ⟨e,x,hx⟩=>by rw[e,hx];exact k x
theorem om{p:Prop}(h:p:=by omega):p:=h
theorem si{p:Prop}(h:p:=by simp):p:=h
theorem de{p:Prop}(h:p:=by decide):p:=h
abbrev I(n:Int):Value:=.int .i64 n
theorem own:ownKnob Tryz.prog.godebug=none:=by kernel_rfl
theorem bM3:laidOutB Tryz.prog=true:=by kernel_rfl
theorem aK0{H:Type}{enc:TypeId × Value→H}{P:Program}(hl:laidOutB P=true){W':World}(hb:Below W.heap.size W W') :
  ∀ {ts:List TypeId} {vs:List Value} {ds:List (DataW H)} {ps:List MemPlace},(∀ t∈ts,P.readableRec t=true∧t<P.types.size) →
  DataW.TrodAll enc P W 0 (fun _=>true) true ts vs ds ps→(∀ x∈ps,x.block<W.heap.size) →
  DataW.TrodAll enc P W' 0 (fun b=>decide (b<W.heap.size)) true ts vs ds ps
 | [],_,_,_,_,h,_=>by
  obtain⟨rfl,rfl,rfl⟩:=trodAll_nil h
  exact trodAll_mk0
 | t::ts,vs,ds,ps,ht,h,hp=>by
  obtain⟨v,vs',d,ds',p,q,rfl,rfl,rfl,h1,h2⟩:=trodAll_cons h
  have a:=ht t si
  exact trodAll_cons_mk (Below.trod hl a.1 a.2 h1 hb (fun x hx=>hp x (by simp[hx]))) (aK0 hl hb (fun u hu=>ht u (by simp[hu])) h2 (fun x hx=>hp x (by simp[hx])))
theorem bS1{H:Type}{enc:TypeId × Value→H}{P:Program}{f:Func}{s:ChangeSpec}{fresh:Bool}{W':World}{args:Array Value}{ds:List (DataW H)}{before:List MemPlace}{bt:TypeId}
  (hl:laidOutB P=true) (hts0:(f.params.toList.all fun t=>P.readableRec t && decide (t<P.types.size))=true)
  (hv:s.vars=[]) (hfn:s.fn H (ds++[])={ results:=[.lit (.bool true)],args:=ds }) (hr:f.resultTypes=#[bt]) (hbt:P.underlying bt=some .bool)
  (hW:DataW.Whole enc P f.params.toList s.vars false W args.toList ds [] before) (hb:Below W.heap.size W W') :
  s.post enc P f false fresh false false W args (.bool true) W':=by
 have hts:∀ t∈f.params.toList,P.readableRec t=true∧t<P.types.size:=fun t ht=>by
  have:=List.all_eq_true.1 hts0 t ht
  simpa using this
 have hW':=hW
 obtain⟨p,q,hA,hV,rfl,hfz,hnd⟩:=hW
 rw[hv]at hV
 obtain⟨_,rfl⟩:=trodVars_none hV
 refine⟨ds,[],p++[],[],p,[],hW',?_,?_,?_,hb.frame _,fun h=>by cases h⟩
 ·rw[hfn,hr]
  exact trodAll_cons_mk (shut_bool hbt _) trodAll_mk0
 ·rw[hfn]
  exact aK0 hl hb hts hA (DataW.TrodAll.lt hA)
 ·rw[hv,hfn]
  rfl
def i64(n:Int):Prop:=-9223372036854775808≤n∧n≤9223372036854775807
theorem bY4{n:Int}(h:(Lit.int .i64 n).wf=true):i64 n:=by
 simp[Lit.wf,IntKind.min,IntKind.max,IntKind.signed,IntKind.bits]at h
 exact h
def Sl{α:Type}(enc:α→List Value)(w:World)(a:Option Addr)(l:List α):Prop :=
 ∀ (i:Nat) (x:α),l[i]?=some x→∃ b off,a=some ⟨b,off,none⟩∧b<w.heap.size∧∀ (j:Nat) (v:Value),(enc x)[j]?=some v→w.cell? ⟨b,off+i*(enc x).length+j,none⟩=some v
theorem Sl.later{α:Type}{enc:α→List Value}{W:World}{a:Option Addr}{l:List α}(h:Sl enc W a l)(x:b7 W):Sl enc x.w a l:=fun i y hy=>by
 obtain⟨b,off,rfl,hb,hc⟩:=h i y hy
 exact⟨b,off,rfl,Nat.lt_of_lt_of_le hb x.size_le,fun j v hv=>by rw[x.h.cell (p:=⟨b,_,none⟩) hb];exact hc j v hv⟩
theorem Sl.alloc{α:Type}{enc:α→List Value}{W:World}{a:Option Addr}{l:List α}(h:Sl enc W a l)(o:Obj):Sl enc (W.alloc o) a l:=fun i y hy=>by
 obtain⟨b,off,rfl,hb,hc⟩:=h i y hy
 exact⟨b,off,rfl,by simp;omega,fun j v hv=>by rw[World.cell?_alloc_past o b _ hb];exact hc j v hv⟩
theorem ag2{α:Type}{l:List α}{k:Nat}(hk:k<l.length):∃ x,l[k]?=some x∧Hid (l.drop k=x::l.drop (k+1)):=⟨l[k],List.getElem?_eq_getElem hk,List.drop_eq_getElem_cons hk⟩
theorem b7.cast{W W':World}(h:W=W')(x:b7 W):∃ y:b7 W',x.w=y.w:=by subst h;exact⟨x,rfl⟩
theorem b7.set_at{W:World}{C:Array Value}{T:TypeId}(x:b7 (W.alloc (.cells C T)))(i:Nat)(v:Value) :
  ∃ y:b7 (W.alloc (.cells (C.setIfInBounds i v) T)),(x.set ⟨W.heap.size,i,none⟩ v).w=y.w :=
 b7.cast (World.setCell_alloc_at C T _ i v rfl) _
theorem b7.set2_at{W:World}{C:Array Value}{T:TypeId}(x:b7 (W.alloc (.cells C T)))(i i':Nat)(v v':Value) :
  ∃ y:b7 (W.alloc (.cells ((C.setIfInBounds i v).setIfInBounds i' v') T)),((x.set ⟨W.heap.size,i,none⟩ v).set ⟨W.heap.size,i',none⟩ v').w=y.w :=
 b7.cast (by rw[World.setCell_alloc_at C T _ i v rfl,World.setCell_alloc_at _ T _ i' v' rfl]) _
theorem aq6{P:Program}{t e:Nat}(h1:P.underlying t=some (.slice e))(h2:(P.info? e).map (fun i=>(i.zero,i.size,i.bytes))=some (some z,size,bytes))(n:Nat)
  (hb:bytes*n≤281474976710656) (hn:n≤1000000000000) :
  ∃ C:Array Value,C=madeCells z.cells (n*size)∧∀ w:World,(Instr.makeSlice t (I n) (I n)).run P w=.ok (.slice (some ⟨w.heap.size,0,none⟩) n n) (w.alloc (.cells C e)):=by
 refine⟨_,rfl,fun w=>?_⟩
 obtain⟨i,hi,h3⟩:=Option.map_eq_some_iff.1 h2
 simp only[Prod.mk.injEq]at h3
 obtain⟨h4,h5,h6⟩:=h3
 have:=run_make (P:=P) w t e i z h1 hi h4 .i64 .i64 (n:Int) (n:Int) om om (by rw[h6];omega) om
 simpa[h5]using this
theorem J8{C:Array Value}{i:Nat}(h:C.size=m)(hi:i<m):∃ v,C[i]?=some v:=⟨C[i],Array.getElem?_eq_getElem om⟩
def Own{α:Type}(enc:α→List Value)(T size B:Nat)(w:World)(a:Option Addr)(c:Nat)(l:List α):Prop :=
 (∀ x:α,(enc x).length=size)∧w.ownsRow B T size (.slice a l.length c) l.length (l.flatMap enc)
theorem N4{α:Type}{enc:α→List Value}(h:∀ x:α,(enc x).length=size)(l:List α):(l.flatMap enc).length=l.length*size:=by
 induction l with
 | nil=>simp
 | cons x l ih=>simp[List.flatMap_cons,h,ih,Nat.add_mul];omega
theorem ag3{α:Type}{enc:α→List Value}(h:∀ x:α,(enc x).length=size):∀ (l:List α) (i j:Nat) (x:α) (v:Value),l[i]?=some x→(enc x)[j]?=some v→(l.flatMap enc)[i*size+j]?=some v
 | [],i,j,x,v,hi,_=>by simp at hi
 | y::l,0,j,x,v,hi,hj=>by
  simp only[List.getElem?_cons_zero,Option.some.injEq]at hi
  subst hi
  have:j<(enc y).length:=(List.getElem?_eq_some_iff.1 hj).1
  rw[List.flatMap_cons,Nat.zero_mul,Nat.zero_add,List.getElem?_append_left this,hj]
 | y::l,i+1,j,x,v,hi,hj=>by
  have hh:=ag3 h l i j x v (by simpa using hi) hj
  rw[List.flatMap_cons,List.getElem?_append_right (by rw[h];rw[Nat.add_mul];omega),h]
  rw[show(i+1)*size+j - size=i*size+j from by rw[Nat.add_mul];omega,hh]
theorem Own.sl{α:Type}{enc:α→List Value}{T size B:Nat}{w:World}{a:Option Addr}{c:Nat}{l:List α}(h:Own enc T size B w a c l):Sl enc w a l:=by
 intro i x hx
 obtain⟨hsz,hlen,h1|⟨g,cap,cur,hv,hg,hh,hn,hc,hcs,ht⟩⟩:=h
 ·have:i<l.length:=(List.getElem?_eq_some_iff.1 hx).1
  omega
 ·simp only[Value.slice.injEq]at hv
  obtain⟨rfl,-,rfl⟩:=hv
  have hi:i<l.length:=(List.getElem?_eq_some_iff.1 hx).1
  have hlt:g<w.heap.size:=by
   have:=(Array.getElem?_eq_some_iff.1 hh).1
   exact this
  refine⟨g,0,rfl,hlt,fun j v hj=>?_⟩
  have h3:=ag3 hsz l i j x v hx hj
  rw[← ht,List.getElem?_take]at h3
  split at h3
  ·have h4:cur[i*size+j]?=some v:=by rw[← Array.getElem?_toList];exact h3
   simp only[World.cell?,hh,hsz,Nat.zero_add]
   simpa using h4
  ·cases h3
theorem aG8{e:Nat}{xs:List Value}(h:W.ownsRow B e size v n xs)(x:b7 W):x.w.ownsRow B e size v n xs:=by
 obtain⟨h1,h2⟩:=h
 refine⟨h1,?_⟩
 rcases h2 with h2|⟨g,cap,cur,hv,hg,hh,r⟩
 ·exact .inl h2
 ·exact .inr ⟨g,cap,cur,hv,hg,by rw[x.h.block g (Array.getElem?_eq_some_iff.1 hh).1];exact hh,r⟩
theorem Own.later{α:Type}{enc:α→List Value}{T size B:Nat}{W:World}{a:Option Addr}{c:Nat}{l:List α}(h:Own enc T size B W a c l)(x:b7 W):Own enc T size B x.w a c l:=⟨h.1,aG8 h.2 x⟩
theorem Own.alloc{α:Type}{enc:α→List Value}{T size B:Nat}{W:World}{a:Option Addr}{c:Nat}{l:List α}(h:Own enc T size B W a c l)(o:Obj):Own enc T size B (W.alloc o) a c l :=
 h.later ⟨W.alloc o,(Below.refl _ _).alloc nl o⟩
theorem Own.mono{α:Type}{enc:α→List Value}{T size B B':Nat}{W:World}{a:Option Addr}{c:Nat}{l:List α}(h:Own enc T size B W a c l)(hB:B'≤B):Own enc T size B' W a c l:=by
 obtain⟨h0,h1,h2|⟨g,cap,cur,hv,hg,r⟩⟩:=h
 ·exact⟨h0,h1,.inl h2⟩
 ·exact⟨h0,h1,.inr ⟨g,cap,cur,hv,Nat.le_trans hB hg,r⟩⟩
def L3{α:Type}(enc:α→List Value)(T size:Nat)(w:World)(l:List α):Ending→World→Prop:=fun e w'=>∃ a c,e=.returned (.slice a l.length c)∧Own enc T size w.heap.size w' a c l∧∃ x:b7 w,w'=x.w
theorem bm6{α:Type}{enc:α→List Value}{T:Nat}{D:Array Value}{l:List α}(hsz:∀ x:α,(enc x).length=size)(hn:l.length=n)(hm:n≤1000000000000)(hB:B≤W.heap.size)
  (hD:D.size=n*size) (ht:D.toList=l.flatMap enc) (x:b7 (W.alloc (.cells D T))):Own enc T size B x.w (some ⟨W.heap.size,0,none⟩) n l:=by
 refine⟨hsz,by rw[N4 hsz],.inr ⟨W.heap.size,n,D,by rw[hn],hB,?_,by omega,by unfold maxLen;omega,hD,?_⟩⟩
 ·rw[x.h.block _ si]
  show(W.heap.push _)[W.heap.size]?=_
  simp
 ·rw[← ht,List.take_of_length_le (by simp[hD,hn])]
theorem Sl.to{α:Type}{enc:α→List Value}{W W':World}{a:Option Addr}{l:List α}(h:Sl enc W a l)(g:b8 W W'):Sl enc W' a l:=h.later ⟨W',g.out⟩
theorem Own.to{α:Type}{enc:α→List Value}{T size B:Nat}{W W':World}{a:Option Addr}{c:Nat}{l:List α}(h:Own enc T size B W a c l)(g:b8 W W'):Own enc T size B W' a c l:=h.later ⟨W',g.out⟩
theorem b7.set1_at{W:World}{C:Array Value}{T:TypeId}(x:b7 (W.alloc (.cells C T)))(i:Nat)(v:Value) :
  ∃ y:b7 (W.alloc (.cells (C.setIfInBounds i v) T)),(x.set ⟨W.heap.size,i,none⟩ v).w=y.w:=x.set_at i v
theorem b7.set3_at{W:World}{C:Array Value}{T:TypeId}(x:b7 (W.alloc (.cells C T)))(i i' i2:Nat)(v v' v2:Value) :
  ∃ y:b7 (W.alloc (.cells (((C.setIfInBounds i v).setIfInBounds i' v').setIfInBounds i2 v2) T)),(((x.set ⟨W.heap.size,i,none⟩ v).set ⟨W.heap.size,i',none⟩ v').set ⟨W.heap.size,i2,none⟩ v2).w=y.w :=
 b7.cast (by rw[World.setCell_alloc_at C T _ i v rfl,World.setCell_alloc_at _ T _ i' v' rfl,World.setCell_alloc_at _ T _ i2 v2 rfl]) _
theorem b7.set4_at{W:World}{C:Array Value}{T:TypeId}(x:b7 (W.alloc (.cells C T)))(i i' i2 i3:Nat)(v v' v2 v3:Value) :
  ∃ y:b7 (W.alloc (.cells ((((C.setIfInBounds i v).setIfInBounds i' v').setIfInBounds i2 v2).setIfInBounds i3 v3) T)),((((x.set ⟨W.heap.size,i,none⟩ v).set ⟨W.heap.size,i',none⟩ v').set ⟨W.heap.size,i2,none⟩ v2).set ⟨W.heap.size,i3,none⟩ v3).w=y.w :=
 b7.cast (by rw[World.setCell_alloc_at C T _ i v rfl,World.setCell_alloc_at _ T _ i' v' rfl,World.setCell_alloc_at _ T _ i2 v2 rfl,World.setCell_alloc_at _ T _ i3 v3 rfl]) _
def inB(x lo hi:Int):Bool:=decide (lo≤x) && decide (x≤hi)
theorem D8:inB x lo hi=true↔lo≤x∧x≤hi:=by simp[inB]
theorem f5 :
  Calls Tryz.prog 101 #[.int .i64 x,.int .i64 lo,.int .i64 hi] w (b5 w (.bool (inB x lo hi))):=by
 by_cases h1:lo≤x
 ·go_enter Tryz.func101,Tryz.ntmps101
  go_wp2
  go_ret
  exact b5.mk (by simp[inB,h1])
 ·have h2:decide (lo≤x)=false:=by simpa using h1
  go_enter Tryz.func101,Tryz.ntmps101
  go_wp2
  go_ret
  exact b5.mk (by simp[inB,h2])
theorem d8 :
  Calls Tryz.prog 146 #[.int .i64 x,.int .i64 lo,.int .i64 hi] w (b5 w (.bool (inB x lo hi))):=by
 by_cases h1:lo≤x
 ·go_enter Tryz.func146,Tryz.ntmps146
  go_wp2
  go_ret
  exact b5.mk (by simp[inB,h1])
 ·have h2:decide (lo≤x)=false:=by simpa using h1
  go_enter Tryz.func146,Tryz.ntmps146
  go_wp2
  go_ret
  exact b5.mk (by simp[inB,h2])
/-! ### Drift, BoardTime -/
def av9(r o:Int):Bool:=inB r (-100) 100 && inB o 0 1000
theorem bF3{o:Int} :
  Calls Tryz.prog 102 #[.agg #[.int .i64 r,.int .i64 o]] w (b5 w (.bool (av9 r o))):=by
 cases h1:inB r (-100) 100
 all_goals
  go_enter Tryz.func102,Tryz.ntmps102
  go_wp2_with (first|(go_at_call 101;refine gm (f5) ?_;intro x))
  go_ret
  exact b5.mk (by simp[av9,h1])
theorem bE9{o:Int} :
  Calls Tryz.prog 147 #[.agg #[.int .i64 r,.int .i64 o]] w (b5 w (.bool (av9 r o))):=by
 cases h1:inB r (-100) 100
 all_goals
  go_enter Tryz.func147,Tryz.ntmps147
  go_wp2_with (first|(go_at_call 146;refine gm (d8) ?_;intro x))
  go_ret
  exact b5.mk (by simp[av9,h1])
def aF5(r o t:Int):Int:=if (av9 r o && inB t 0 1000000)=true then t+o+t*r / 1000 else -1
theorem cc2{t:Int}(h:0≤t)(h':t≤1000000)(k:-100≤r)(k':r≤100):-100000000≤t*r∧t*r≤100000000:=by
 constructor
 ·have:=Int.mul_le_mul_of_nonneg_left k h
  omega
 ·have:=Int.mul_le_mul_of_nonneg_left k' h
  omega
/-! ### TicksDue -/
def cb4(r o t:Int):Int:=if (inB t 0 999999 && av9 r o)=true then aF5 r o (t+1) - aF5 r o t else 0
def az9(p s l:Int):Bool:=inB p 1 1000 && (inB s 0 (p - 1) && inB l 1 p)
theorem bF4{p s:Int} :
  Calls Tryz.prog 103 #[.agg #[.int .i64 p,.int .i64 s,.int .i64 l]] w (b5 w (.bool (az9 p s l))):=by
 cases h1:inB p 1 1000
 ·go_enter Tryz.func103,Tryz.ntmps103
  go_wp2_with (first|(go_at_call 101;refine gm (f5) ?_;intro x))
  go_ret
  exact b5.mk (by simp[az9,h1])
 ·have⟨k1,k2⟩:=D8.1 h1
  cases h2:inB s 0 (p - 1)
  all_goals
   go_enter Tryz.func103,Tryz.ntmps103
   go_wp2_with (first|(go_at_call 101;refine gm (f5) ?_;intro x))
   go_ret
   exact b5.mk (by simp[az9,h1,h2])
theorem bF0{p s:Int} :
  Calls Tryz.prog 148 #[.agg #[.int .i64 p,.int .i64 s,.int .i64 l]] w (b5 w (.bool (az9 p s l))):=by
 cases h1:inB p 1 1000
 ·go_enter Tryz.func148,Tryz.ntmps148
  go_wp2_with (first|(go_at_call 146;refine gm (d8) ?_;intro x))
  go_ret
  exact b5.mk (by simp[az9,h1])
 ·have⟨k1,k2⟩:=D8.1 h1
  cases h2:inB s 0 (p - 1)
  all_goals
   go_enter Tryz.func148,Tryz.ntmps148
   go_wp2_with (first|(go_at_call 146;refine gm (d8) ?_;intro x))
   go_ret
   exact b5.mk (by simp[az9,h1,h2])
inductive Cd where
 | int|byte|bool|str
 | sl (es:List Cd)
inductive RdC (w:World):Cd→Value→Prop
 | int {n:Int}:i64 n→RdC w .int (.int .i64 n)
 | byte {n:Int}:0≤n→n≤255→RdC w .byte (.int .u8 n)
 | bool {b:Bool}:RdC w .bool (.bool b)
 | str {s:ByteArray}:s.size≤maxLen→RdC w .str (.string s)
 | nil {es:List Cd}:RdC w (.sl es) (.slice none 0 0)
 | sl {es:List Cd} {a:Addr} {n c:Nat} (U:Nat→Nat→Value):0<es.length→n≤c→c≤maxLen →
   (∀ i,i<n→∀ j,j<es.length→∃ b off,a=⟨b,off,none⟩∧b<w.heap.size∧w.cell? ⟨b,off+(i*es.length+j),none⟩=some (U i j)) →
   (∀ i,i<n→∀ (j:Nat) (e:Cd),es[j]?=some e→RdC w e (U i j))→RdC w (.sl es) (.slice (some a) n c)
def bc0(f:TypeId→Option (List Cd))(P:Program):List Field→Nat→Option (List Cd)
 | [],_=>some []
 | x::r,off =>
  if x.offset=off then
   match f x.type with
   | some L=>if P.cellsOf x.type=L.length then(bc0 f P r (off+L.length)).map (L++·)else none
   | none=>none
  else none
def bb9(P:Program):Nat→TypeId→Option (List Cd)
 | 0,_=>none
 | k+1,t =>
  match P.underlying t with
  | some .bool=>some [.bool]
  | some (.int .i64)=>some [.int]
  | some (.int .u8)=>some [.byte]
  | some .string=>some [.str]
  | some (.slice e) =>
   match bb9 P k e with
   | some (c::es)=>if P.cellsOf e=es.length+1 then some [.sl (c::es)]else none
   | _=>none
  | some (.struct fs) =>
   match bc0 (bb9 P k) P fs.toList 0 with
   | some L=>if P.cellsOf t=L.length then some L else none
   | none=>none
  | _=>none
section
variable {H:Type} {enc:TypeId × Value→H} {P:Program} {w:World} {base:Nat} {spare:Nat→Bool} {held:Bool}
def RdL(w:World)(L:List Cd)(cs:List Value):Prop:=∀ (j:Nat) (c:Cd),L[j]?=some c→∃ u,cs[j]?=some u∧RdC w c u
theorem aL8{f:TypeId→Option (List Cd)}(hf:∀ t L cs x,f t=some L→DataW.trod enc P w base spare held n t cs=some x→cs.length=L.length∧RdL w L cs) :
  ∀ (r:List Field) (off:Nat) (L:List Cd) (cs:List Value),bc0 f P r off=some L →
   (∀ (i:Nat) (fl:Field),r[i]?=some fl→∃ y,DataW.trod enc P w base spare held n fl.type ((cs.drop fl.offset).take (P.cellsOf fl.type))=some y)→RdL w L (cs.drop off)
 | [],off,L,cs,h,_=>by
  simp only[bc0,Option.some.injEq]at h
  subst h
  intro j c hj;simp at hj
 | x::r,off,L,cs,h,hy=>by
  simp only[bc0]at h
  split at h
  ·rename_i ho
   split at h
   ·rename_i L1 hL1
    split at h
    ·rename_i hc
     obtain⟨L2,hL2,rfl⟩:=Option.map_eq_some_iff.1 h
     obtain⟨y,hy0⟩:=hy 0 x si
     have h1:=hf _ _ _ _ hL1 hy0
     have h2:=aL8 hf r _ _ cs hL2 (fun i fl hi=>hy (i+1) fl (by simpa using hi))
     intro j c hj
     by_cases hlt:j<L1.length
     ·rw[List.getElem?_append_left hlt]at hj
      obtain⟨u,hu,hr⟩:=h1.2 j c hj
      refine⟨u,?_,hr⟩
      rw[List.getElem?_take]at hu
      split at hu
      ·rw[ho]at hu;exact hu
      ·cases hu
     ·rw[List.getElem?_append_right om]at hj
      obtain⟨u,hu,hr⟩:=h2 _ c hj
      refine⟨u,?_,hr⟩
      rw[List.getElem?_drop]at hu ⊢
      rw[← hu];congr 1;omega
    ·cases h
   ·cases h
  ·cases h
theorem aC3:∀ (k fuel:Nat) (t:TypeId) (L:List Cd) (cs:List Value) (x:DataW H × List MemPlace),bb9 P k t=some L→DataW.trod enc P w base spare held fuel t cs=some x→cs.length=L.length∧RdL w L cs
 | 0,_,_,_,_,_,h,_=>by simp[bb9]at h
 | k+1,fuel,t,L,cs,x,h,ht=>by
  have one:∀ (c:Cd) (u:Value),L=[c]→cs=[u]→RdC w c u→cs.length=L.length∧RdL w L cs:=fun c u hL hc hr=>by
   subst hL;subst hc
   refine⟨rfl,fun j d hj=>?_⟩
   match j,hj with
   | 0,hj=>simp only[List.getElem?_cons_zero,Option.some.injEq]at hj;subst hj;exact⟨u,rfl,hr⟩
  simp only[bb9]at h
  split at h
  ·rename_i hu
   obtain⟨b,hb,-⟩:=DataW.trod_bool hu ht
   exact one .bool _ (by simpa using h.symm) hb .bool
  ·rename_i hu
   obtain⟨n,hn,-,hw⟩:=DataW.trod_int hu ht
   exact one .int _ (by simpa using h.symm) hn (.int (bY4 hw))
  ·rename_i hu
   obtain⟨n,hn,-,hw⟩:=DataW.trod_int hu ht
   have:0≤n∧n≤255:=by simpa[Lit.wf,IntKind.min,IntKind.max,IntKind.signed,IntKind.bits]using hw
   exact one .byte _ (by simpa using h.symm) hn (.byte this.1 this.2)
  ·rename_i hu
   obtain⟨s,hs,-,hw⟩:=DataW.trod_string hu ht
   exact one .str _ (by simpa using h.symm) hs (.str hw)
  ·rename_i e hu
   split at h
   ·rename_i c es hc
    split at h
    ·rename_i hsz
     rcases Deep.open_slice hu ht with⟨h1,-⟩|⟨a,len,cap,m,n,D,Pl,hcs,hb,hl,hm,hmm,hx,hi⟩
     ·exact one _ _ (by simpa using h.symm) h1 .nil
     ·have main:∀ i,i<len→∀ (j:Nat) (e':Cd),(c::es)[j]?=some e'→∃ u,a=⟨a.block,a.off,none⟩∧a.block<w.heap.size∧w.cell? ⟨a.block,a.off+(i*(c::es).length+j),none⟩=some u∧RdC w e' u:=?_
      ·refine one _ _ (by simpa using h.symm) hcs (.sl (fun i j=>(w.cell? ⟨a.block,a.off+(i*(c::es).length+j),none⟩).getD undef) si hl hm (fun i hi j hj=>?_) (fun i hi j e' hj=>?_))
       ·obtain⟨u,h7,h8,h9,-⟩:=main i hi j _ (List.getElem?_eq_getElem hj)
        exact⟨_,_,h7,h8,by rw[h9];rfl⟩
       ·obtain⟨u,-,-,h9,h10⟩:=main i hi j e' hj
        rw[h9];exact h10
      intro i hil j e' hj
      obtain⟨cs',hc1,hc2⟩:=hi i (by rw[hmm];split<;>omega)
      obtain⟨-,hlen,hat⟩:=World.cells?_some hc1
      obtain⟨h3,h4⟩:=aC3 k n e _ cs' _ hc hc2
      obtain⟨u,hu1,hu2⟩:=h4 j e' hj
      have hj':j<P.cellsOf e:=by rw[← hlen];exact(List.getElem?_eq_some_iff.1 hu1).1
      have h5:=hat j hj'
      rw[Deep.add_add,hu1,hsz]at h5
      have hsp:a.spot=none:=by
       obtain⟨cs0,hc3,-⟩:=hi 0 (by rw[hmm];split<;>omega)
       obtain⟨-,hlen0,hat0⟩:=World.cells?_some hc3
       have h6:=hat0 0 (by rw[hsz];omega)
       simp only[Nat.zero_mul,Addr.add,if_true]at h6
       have:0<cs0.length:=by rw[hlen0,hsz];omega
       rw[List.getElem?_eq_getElem this]at h6
       unfold World.cell? at h6
       split at h6
       ·split at h6
        ·cases h6
        ·rename_i hns;simpa using hns
       ·cases h6
      have ha:a.add (i*(es.length+1)+j)=⟨a.block,a.off+(i*(es.length+1)+j),none⟩:=by
       unfold Addr.add
       split
       ·rename_i h0;rw[h0];cases a;simp only at hsp;subst hsp;rfl
       ·cases a;simp only at hsp;subst hsp;rfl
      rw[ha]at h5
      exact⟨u,by cases a;simp only at hsp;subst hsp;rfl,World.block_lt_of_cell? w ⟨a.block,_,none⟩ h5,by simpa using h5,hu2⟩
    ·cases h
   ·cases h
  ·rename_i fs hu
   split at h
   ·rename_i L1 hL1
    split at h
    ·rename_i hsz
     simp only[Option.some.injEq]at h
     subst h
     obtain⟨xs,n,-,-,hlen,hxl,hf⟩:=DataW.trod_struct hu ht
     refine⟨by rw[hlen,hsz],?_⟩
     have:=aL8 (enc:=enc) (base:=base) (spare:=spare) (held:=held) (f:=bb9 P k) (n:=n) (fun t L cs x h h'=>aC3 k n t L cs x h h') fs.toList 0 L1 cs hL1 (fun i fl hi=>by
      have h1:fs[i]?=some fl:=by rw[← Array.getElem?_toList];exact hi
      have hi':i<xs.length:=by rw[hxl];exact(Array.getElem?_eq_some_iff.1 h1).1
      exact⟨_,(hf i fl h1).trans (List.getElem?_eq_getElem hi')⟩)
     simpa using this
    ·cases h
   ·cases h
  ·cases h
end
theorem aU2{α:Type}:∀ (n:Nat) {p:Nat→α→Prop},(∀ i,i<n→∃ x,p i x)→∃ l:List α,l.length=n∧∀ i x,l[i]?=some x→p i x
 | 0,p,_=>⟨[],rfl,fun i x h=>by simp at h⟩
 | n+1,p,h=>by
  obtain⟨l,hl,hp⟩:=aU2 n (p:=p) (fun i hi=>h i om)
  obtain⟨x,hx⟩:=h n om
  refine⟨l++[x],by simp[hl],fun i y hy=>?_⟩
  by_cases hi:i<n
  ·rw[List.getElem?_append_left om]at hy;exact hp i y hy
  ·rw[List.getElem?_append_right om,hl]at hy
   have:i=n:=by
    have:=(List.getElem?_eq_some_iff.1 hy).1
    simp at this;omega
   subst this
   simp at hy;subst hy;exact hx
theorem RdL.at{w:World}{L:List Cd}{cs:List Value}(h:RdL w L cs){j:Nat}{c:Cd}(hj:L[j]?=some c):∃ u,cs[j]?=some u∧RdC w c u:=h j c hj
theorem RdC.int_inv{w:World}{v:Value}(h:RdC w .int v):∃ n,v=I n∧i64 n:=by cases h with|int h=>exact⟨_,rfl,h⟩
theorem RdC.bool_inv{w:World}{v:Value}(h:RdC w .bool v):∃ b,v=.bool b:=by cases h with|bool=>exact⟨_,rfl⟩
theorem RdC.str_inv{w:World}{v:Value}(h:RdC w .str v):∃ s,v=.string s∧s.size≤maxLen:=by cases h with|str h=>exact⟨_,rfl,h⟩
theorem Z1{α:Type}:∀ {l m:List α},l.length=m.length→(∀ (j:Nat) (x:α),m[j]?=some x→l[j]?=some x)→l=m
 | [],[],_,_=>rfl
 | x::l,y::m,h,hj=>by
  have h0:=hj 0 y rfl
  simp only[List.getElem?_cons_zero,Option.some.injEq]at h0
  subst h0
  exact congrArg (x::·) (Z1 (l:=l) (m:=m) (by simpa using h) (fun j z hz=>by have:=hj (j+1) z (by simpa using hz);simpa using this))
section
variable {α:Type} {enc:α→List Value} {T size:Nat}
theorem Own.nil{B:Nat}{w:World}(hsz:∀ x:α,(enc x).length=size):Own enc T size B w none 0 []:=⟨hsz,by simp,.inl ⟨rfl,rfl⟩⟩
theorem Own.empty{W:World}(hsz:∀ x:α,(enc x).length=size)(x:b7 (W.alloc (.cells #[] T))){B:Nat}(hB:B≤W.heap.size):Own enc T size B x.w (some ⟨W.heap.size,0,none⟩) 0 []:=by
 refine⟨hsz,by simp,.inr ⟨W.heap.size,0,#[],rfl,hB,?_,Nat.le_refl _,by unfold maxLen;omega,by simp,by simp⟩⟩
 rw[x.h.block _ si]
 show(W.heap.push _)[W.heap.size]?=_
 simp
theorem Own.empty0{W:World}(hsz:∀ x:α,(enc x).length=size){B:Nat}(hB:B≤W.heap.size):Own enc T size B (W.alloc (.cells #[] T)) (some ⟨W.heap.size,0,none⟩) 0 []:=Own.empty hsz (b7.here _) hB
def ba3(v:Value)(n:Nat):Prop:=∃ a c,v=.slice a n c
theorem I0{P:Program}{ops:Array Oper}{rest:List Oper}{o:Oper}{a:Act}{Q:Exit→Act→World→Prop}
  (hgd:o.guard=none) (s x:Operand) (ho:o.op=.call { callee:=.builtin .append,args:=#[s,x],argTypes:=#[t,t] })
  (ht:P.underlying t=some (.slice T)) (hinfo:(P.info? T).map (fun i=>(i.zero,i.size,i.bytes))=some (some z,size,bytes)) (hzs:z.cells.size=size) (hsz:0<size) (hby:bytes≤1000)
  {l r:List α}  {ra:Option Addr}  (hs:a.eval s=.slice sa n sc) (hx:a.eval x=.slice ra m c) (hnil:ra=none→c=0) (hn:l.length=n) (hm:r.length=m) (hown:Own enc T size w0.heap.size W sa sc l)
  (hr:Sl enc W ra r) (h1:∀ y,∀ u∈enc y,u.oneCell'=true) (hb:n+m≤1000000000) [g:b8 w0 W]
  (h:∀ (sa':Option Addr) (sc':Nat) (x':b7 w0),Own enc T size w0.heap.size x'.w sa' sc' (l++r)→W.grownBy x'.w (Value.ownBlock (.slice sa n sc))→wpList P ops Q rest (a.put o.dst (.slice sa' (n+m) sc')) x'.w) :
  wpList P ops Q (o::rest) a W:=by
 obtain⟨i,hi,h3⟩:=Option.map_eq_some_iff.1 hinfo
 simp only[Prod.mk.injEq]at h3
 obtain⟨h4,h5,h6⟩:=h3
 subst hn;subst hm
 cases ra with
 | none =>
  obtain rfl:=hnil rfl
  have hr0:r=[]:=by
   cases r with
   | nil=>rfl
   | cons y r=>obtain⟨b,off,h0,-⟩:=hr 0 y rfl;cases h0
  subst hr0
  refine wpList_append_own_none (a:=a) (w:=W) hgd s x t ho w0.heap.size T i size ht hi _ l.length (l.flatMap enc) hs hown.2 hx ?_
  exact h sa sc ⟨W,g.out⟩ (by rw[List.append_nil];exact hown) ⟨rfl,rfl,rfl,Nat.le_refl _,fun k hk hr=>rfl⟩
 | some ad =>
  have hb':(l.length+r.length)*bytes≤140737488355328:=by
   have:(l.length+r.length)*bytes≤(l.length+r.length)*1000:=Nat.mul_le_mul_left _ hby
   omega
  refine wpList_append_own (a:=a) (w:=W) hgd s x t ho w0.heap.size T i z size bytes ht hi h4 h5 h6 hzs hsz _ l.length (l.flatMap enc) hs hown.2 ad r.length c (r.flatMap enc) hx (N4 hown.1 r)
   (fun j u hj=>?_) (fun u hu=>?_) (by unfold maxLen;omega) hb' g.out.size ?_
  ·have hlt:j<r.length*size:=by rw[← N4 hown.1 r];exact(List.getElem?_eq_some_iff.1 hj).1
   have hq:j / size<r.length:=Nat.div_lt_of_lt_mul (by rw[Nat.mul_comm];exact hlt)
   have hy:=List.getElem?_eq_getElem hq
   have hmod:j % size<(enc r[j / size]).length:=by rw[hown.1];exact Nat.mod_lt _ hsz
   have hu:=List.getElem?_eq_getElem hmod
   have h8:=ag3 hown.1 r _ _ _ _ hy hu
   have hj':j / size*size+j % size=j:=by rw[Nat.mul_comm];exact Nat.div_add_mod _ _
   rw[hj',hj]at h8
   obtain⟨b,off,hbo,-,hc⟩:=hr _ _ hy
   simp only[Option.some.injEq]at hbo
   subst hbo
   have h9:=hc _ _ hu
   rw[hown.1,Nat.add_assoc,hj']at h9
   simp only[Option.some.injEq]at h8
   rw[h8]
   have e:(⟨b,off,none⟩:Addr).add j=⟨b,off+j,none⟩:=by
    unfold Addr.add;split
    ·rename_i h;rw[h,Nat.add_zero]
    ·rfl
   rw[e];exact h9
  ·obtain⟨y,-,hy⟩:=List.mem_flatMap.1 hu
   exact h1 y u hy
  ·intro v' w' ho' hg' hnil'
   have hlt:=hown.2.lt
   have hbel:Below w0.heap.size w0 w':=g.out.grown hg' g.out.size (fun k hk=>(hlt k hk).1)
   have hf:ba3 v' (l.length+r.length):=by
    rcases ho'.2 with⟨hv,hn0⟩|⟨g',cap,cur,hv,-⟩
    ·exact⟨none,0,by rw[hn0];exact hv⟩
    ·exact⟨_,_,hv⟩
   obtain⟨sa',sc',rfl⟩:=hf
   refine h sa' sc' ⟨w',hbel⟩ ⟨hown.1,?_⟩ hg'
   rw[List.flatMap_append,List.length_append];exact ho'
theorem Own.lt{B:Nat}{w:World}{a:Option Addr}{c:Nat}{l:List α}(h:Own enc T size B w a c l){n:Nat}:∀ k,Value.ownBlock (.slice a n c)=some k→B≤k∧k<w.heap.size:=fun k hk=>h.2.lt k (by cases a with
 | none=>simp[Value.ownBlock]at hk
 | some a=>simpa[Value.ownBlock]using hk)
theorem Own.kept{B:Nat}{w w':World}{a:Option Addr}{c:Nat}{l:List α}{row:Option Nat}(h:Own enc T size B w a c l)(hg:w.grownBy w' row)(hne:∀ k,row=some k→k<B∨w.heap.size≤k):Own enc T size B w' a c l:=by
 refine⟨h.1,h.2.kept hg ?_⟩
 cases ha:Value.ownBlock (.slice a l.length c)with
 | none=>exact .inl rfl
 | some k =>
  right
  intro he
  have:=h.2.lt k ha
  rcases hne k he.symm with h1|h1<;>omega
end
def ae0(n:Int):List Value:=[.int .i64 n]
theorem bc7(n:Int):(ae0 n).length=1:=rfl
theorem bc8(n:Int):∀ u∈ae0 n,u.oneCell'=true:=by intro u hu;simp[ae0]at hu;subst hu;rfl
theorem Sl.int{w:World}{a:Option Addr}{l:List Int}(h:Sl ae0 w a l){k:Nat}(hk:k<l.length) :
  ∃ b off s,a=some ⟨b,off,none⟩∧LtN b w.heap.size∧Hid (l.drop k=s::l.drop (k+1))∧(∀ (W:World) [b8 w W],W.cell? ⟨b,off+k,none⟩=some (I s)):=by
 obtain⟨s,hs,hd⟩:=ag2 hk
 obtain⟨b,off,ha,hb,hc⟩:=h k s hs
 exact⟨b,off,s,ha,⟨hb⟩,hd,j4 hb (by simpa[ae0]using hc 0 _ rfl)⟩
theorem A9{w1 w2:World}{row:Option Nat}(h:w.grownBy w1 row)(k:w1.grownBy w2 row):w.grownBy w2 row :=
 ⟨k.os.trans h.os,k.tape.trans h.tape,k.output.trans h.output,Nat.le_trans h.size k.size,fun i hi hr=>(k.block i (Nat.lt_of_lt_of_le hi h.size) hr).trans (h.block i hi hr)⟩
theorem V0(w:World)(row:Option Nat):w.grownBy w row:=⟨rfl,rfl,rfl,Nat.le_refl _,fun _ _ _=>rfl⟩
def Y1(n:Int):List Value:=[.int .u8 n]
theorem Sl.byte{w:World}{a:Option Addr}{l:List Int}(h:Sl Y1 w a l){k:Nat}(hk:k<l.length) :
  ∃ b off s,a=some ⟨b,off,none⟩∧LtN b w.heap.size∧Hid (l.drop k=s::l.drop (k+1))∧(∀ (W:World) [b8 w W],W.cell? ⟨b,off+k,none⟩=some (.int .u8 s)):=by
 obtain⟨s,hs,hd⟩:=ag2 hk
 obtain⟨b,off,ha,hb,hc⟩:=h k s hs
 exact⟨b,off,s,ha,⟨hb⟩,hd,j4 hb (by simpa[Y1]using hc 0 _ rfl)⟩
def bY5(n:Int):Prop:=0≤n∧n≤255
@[go_sem] theorem bY3(n:Int):bits .and .i64 n 255=n % 256:=by
 have h255:(BitVec.ofInt 64 255).toNat=2 ^ 8 - 1:=by decide
 have key:(BitVec.ofInt 64 n &&& BitVec.ofInt 64 255).toNat=(n % ((2 ^ 64:Nat):Int)).toNat % 2 ^ 8:=by
  rw[BitVec.toNat_and,BitVec.toNat_ofInt,h255,Nat.and_two_pow_sub_one_eq_mod]
 show IntKind.i64.wrap ((BitVec.ofInt 64 n &&& BitVec.ofInt 64 255).toNat:Nat)=n % 256
 rw[key,IntKind.wrap_i64]
 omega
structure bk5(w:World)(p:Nat)(a:Option Addr)(n c:Nat)(l:List Int)(i:Nat):Prop where
 lt:LtN p w.heap.size
 c0:w.cell? ⟨p,0,none⟩=some (.slice a n c)
 c1:w.cell? ⟨p,1,none⟩=some (I i)
 c2:∃ h:Int,w.cell? ⟨p,2,none⟩=some (I h)
 f1:w.frozen? ⟨p,1,none⟩=false
 f2:w.frozen? ⟨p,2,none⟩=false
 le:i≤n
 len:l.length=n
 small:n≤1048576
 sl:Sl Y1 w a l
 bytes:∀ x∈l,bY5 x
 apart:∀ b off,a=some ⟨b,off,none⟩→0<l.length→b<p
theorem bk5.alloc{w:World}{p:Nat}{a:Option Addr}{n c:Nat}{l:List Int}{i:Nat}(h:bk5 w p a n c l i)(o:Obj):bk5 (w.alloc o) p a n c l i:=by
 obtain⟨hlt,hc0,hc1,⟨hh,hc2⟩,hf1,hf2,hle,hlen,hsm,hsl,hby,hap⟩:=h
 exact⟨ii,by rw[b7.cell_past];exact hc0,by rw[b7.cell_past];exact hc1,⟨hh,by rw[b7.cell_past];exact hc2⟩,by rw[b7.frozen_past];exact hf1,by rw[b7.frozen_past];exact hf2,hle,hlen,hsm,hsl.alloc o,hby,hap⟩
theorem Sl.lit{α:Type}{enc:α→List Value}{W:World}{cs:Array Value}{T size:Nat}{l:List α}(hsz:∀ x:α,(enc x).length=size)(h:cs.toList=l.flatMap enc):Sl enc (W.alloc (.cells cs T)) (some ⟨W.heap.size,0,none⟩) l:=fun k y hy=>by
 refine⟨W.heap.size,0,rfl,by simp,fun j v hv=>?_⟩
 rw[World.cell?_alloc_at _ _ _ _ rfl,← Array.getElem?_toList,h,hsz,Nat.zero_add]
 exact ag3 hsz l k j y v hy hv
theorem bk5.kept{w W:World}{p:Nat}{a:Option Addr}{n c:Nat}{l:List Int}{i:Nat}(h:bk5 w p a n c l i)(hs:w.heap.size≤W.heap.size)(hb:∀ k,k≤p→W.heap[k]?=w.heap[k]?):bk5 W p a n c l i:=by
 obtain⟨hlt,hc0,hc1,⟨hh,hc2⟩,hf1,hf2,hle,hlen,hsm,hsl,hby,hap⟩:=h
 have hp:=hb p nl
 refine⟨⟨Nat.lt_of_lt_of_le hlt.out hs⟩,by rw[World.cell?_of_block (w:=w) hp];exact hc0,by rw[World.cell?_of_block (w:=w) hp];exact hc1,⟨hh,by rw[World.cell?_of_block (w:=w) hp];exact hc2⟩,
  by simp only[World.frozen?,hp];exact hf1,by simp only[World.frozen?,hp];exact hf2,hle,hlen,hsm,fun k y hy=>?_,hby,hap⟩
 obtain⟨b,off,ha,hblt,hcell⟩:=hsl k y hy
 have hlt':=hap b off ha (Nat.lt_of_le_of_lt (Nat.zero_le k) (List.getElem?_eq_some_iff.1 hy).1)
 exact⟨b,off,ha,Nat.lt_of_lt_of_le hblt hs,fun j v hv=>by rw[World.cell?_of_block (w:=w) (hb b (Nat.le_of_lt hlt'))];exact hcell j v hv⟩
theorem FnExactHearDown_inPlace:(Rows.fnExactHearDownRow.inPlace == Tryz.pinned.checked.prog.inPlace 3)=true:=by kernel_rfl
theorem FnExactHearDown_unfollowed:(Rows.fnExactHearDownRow.unfollowed == Tryz.pinned.checked.prog.unfollowed 3)=true:=by kernel_rfl
theorem FnExactHearDown_recurses:(Rows.fnExactHearDownRow.recurses == Tryz.pinned.checked.prog.recurses 3)=true:=by kernel_rfl
theorem FnExactHearDown_varsNamed:(Rows.fnExactHearDownRow.named == Tryz.pinned.checked.prog.varsNamed 3)=true:=by kernel_rfl
instance(priority:=800) b8.andThen2 (a:World){W:World}(x:b7 W)(y:b7 x.w)[h:b8 a y.w]:b8 a (x.andThen y).w:=⟨h.out⟩
instance(priority:=850) b8.drawn (a:World){W:World}(x:b7 W)[h:b8 a x.w]:b8 a x.draw.w:=⟨h.out.drew⟩
instance LtN.drew(a:Nat)(W:World)[h:LtN a W.heap.size]:LtN a W.drew.heap.size:=⟨h.out⟩
instance LeN.drew(a:Nat)(W:World)[h:LeN a W.heap.size]:LeN a W.drew.heap.size:=⟨h.out⟩
section
variable {P:Program} {ops:Array Oper} {o:Oper} {a:Act} {w:World} {K:Act→World→Prop} {Q:Exit→Act→World→Prop} {E:Prop}
theorem ba1(hg:o.guard=none)(h:Oper.wp P o a w K Q):if Region.wanted o (yielded ops a.tmps)=true then Oper.wp P o a w K Q else E:=by
 rw[if_pos (by simp[Region.wanted,hg])];exact h
theorem bf6{f:FuncId}{fn:Func}{xs:Array Operand}{ts:Array TypeId}(hop:o.op=.call { callee:=.value (.func f),args:=xs,argTypes:=ts })(hf:P.funcs[f]?=some fn)(hname:(fn.name == "runtime.NumGoroutine")=false)(hb:fn.body.isNone=false) :
  (execOp a.eval o).run P w=.ok (.enter f (xs.map a.eval)) w:=by
 have h1:fn.name≠ "runtime.NumGoroutine":=by simpa using hname
 have h2:fn.body≠none:=by intro h;rw[h]at hb;simp at hb
 unfold execOp
 simp only[hop]
 simp[go_sem,resolve,invoke,callFunc,hf,h1,h2]
theorem ax9(hg:o.guard=none){f:FuncId}{fn:Func}{xs:Array Operand}{ts:Array TypeId}(hop:o.op=.call { callee:=.value (.func f),args:=xs,argTypes:=ts })(hf:P.funcs[f]?=some fn)(hname:(fn.name == "runtime.NumGoroutine")=false)(hb:fn.body.isNone=false)
  (args:List Value) (hv:xs.toList.map a.eval=args) (hc:Calls P f args.toArray w fun e w'=>∃ v,e=.returned v∧K (a.put o.dst v) w') :
  if Region.wanted o (yielded ops a.tmps)=true then Oper.wp P o a w K Q else E:=by
 refine ba1 hg ?_
 unfold Oper.wp
 have hv':xs.map a.eval=args.toArray:=by apply Array.ext';rw[Array.toList_map,hv]
 rw[bf6 hop hf hname hb,hv',Oper.upon_enter]
 exact hc.mono fun e w' ⟨v,he,hk⟩=>by subst he;exact hk
theorem bK7(hw:Region.wanted o (yielded ops a.tmps)=true){f:FuncId}{fn:Func}{xs:Array Operand}{ts:Array TypeId}(hop:o.op=.call { callee:=.value (.func f),args:=xs,argTypes:=ts })(hf:P.funcs[f]?=some fn)(hname:(fn.name == "runtime.NumGoroutine")=false)(hb:fn.body.isNone=false)
  (args:List Value) (hv:xs.toList.map a.eval=args) (hc:Calls P f args.toArray w fun e w'=>∃ v,e=.returned v∧K (a.put o.dst v) w') :
  if Region.wanted o (yielded ops a.tmps)=true then Oper.wp P o a w K Q else E:=by
 rw[if_pos hw]
 unfold Oper.wp
 have hv':xs.map a.eval=args.toArray:=by apply Array.ext';rw[Array.toList_map,hv]
 rw[bf6 hop hf hname hb,hv',Oper.upon_enter]
 exact hc.mono fun e w' ⟨v,he,hk⟩=>by subst he;exact hk
variable {α:Type} {enc:α→List Value} {T size:Nat}
theorem bv5{T1:TypeId}{cs:Array Value}(y:α)
  (s x:Operand) (ho:o.op=.call { callee:=.builtin .append,args:=#[s,x],argTypes:=#[t,t] })
  (ht:P.underlying t=some (.slice T)) (hinfo:(P.info? T).map (fun i=>(i.zero,i.size,i.bytes))=some (some z,size,bytes)) (hzs:z.cells.size=size) (hsz:0<size) (hby:bytes≤1000)
  {l:List α}    (hs:a.eval s=.slice sa n sc) {xb:Nat} (hx:a.eval x=.slice (some ⟨xb,0,none⟩) 1 1) (hn:l.length=n)  (hown:Own enc T size B w sa sc l)
  (hxc:w.heap[xb]?=some (.cells cs T1 (0,0))) (hy:cs.toList=enc y) (h1:∀ u∈enc y,u.oneCell'=true) (hb:n≤1000000000) (hB:B≤w.heap.size) (g:b8 w0 w) (hB0:w0.heap.size≤B)
  (h:∀ (sa':Option Addr) (sc':Nat) (x':b7 w0),Own enc T size B x'.w sa' sc' (l++[y])→w.grownBy x'.w (Value.ownBlock (.slice sa n sc))→K (a.put o.dst (.slice sa' (n+1) sc')) x'.w) :
  Oper.wp P o a w K Q:=by
 obtain⟨i,hi,h3⟩:=Option.map_eq_some_iff.1 hinfo
 simp only[Prod.mk.injEq]at h3
 obtain⟨h4,h5,h6⟩:=h3
 subst hn
 have hb':(l.length+1)*bytes≤140737488355328:=by
  have:(l.length+1)*bytes≤(l.length+1)*1000:=Nat.mul_le_mul_left _ hby
  omega
 have hnl:(enc y).length=1*size:=by rw[hown.1];omega
 refine wp_append_own (a:=a) (w:=w) s x t ho B T i z size bytes ht hi h4 h5 h6 hzs hsz _ l.length (l.flatMap enc) hs hown.2 ⟨xb,0,none⟩ 1 1 (enc y) hx hnl
  (fun j u hj=>?_) h1 (by unfold maxLen;omega) hb' hB ?_
 ·have e:(⟨xb,0,none⟩:Addr).add j=⟨xb,j,none⟩:=by
   unfold Addr.add;split
   ·rename_i h;rw[h]
   ·simp
  rw[e]
  rw[← hy,Array.getElem?_toList]at hj
  simp[World.cell?,hxc,hj]
 ·intro v' w' ho' hg' _
  have hlt:=hown.2.lt
  have hbel:Below w0.heap.size w0 w':=g.out.grown hg' g.out.size (fun k hk=>Nat.le_trans hB0 (hlt k hk).1)
  have hf:ba3 v' (l.length+1):=by
   rcases ho'.2 with⟨hv,hn0⟩|⟨g',cap,cur,hv,-⟩
   ·omega
   ·exact⟨_,_,hv⟩
  obtain⟨sa',sc',rfl⟩:=hf
  refine h sa' sc' ⟨w',hbel⟩ ⟨hown.1,?_⟩ hg'
  rw[List.flatMap_append,List.flatMap_singleton,List.length_append,List.length_singleton];exact ho'
theorem ak7{ops':Array Oper}{rest:List Oper}{T1:TypeId}{cs:Array Value}(y:α)(hgd:o.guard=none)
  (s x:Operand) (ho:o.op=.call { callee:=.builtin .append,args:=#[s,x],argTypes:=#[t,t] })
  (ht:P.underlying t=some (.slice T)) (hinfo:(P.info? T).map (fun i=>(i.zero,i.size,i.bytes))=some (some z,size,bytes)) (hzs:z.cells.size=size) (hsz:0<size) (hby:bytes≤1000)
  {l:List α}    (hs:a.eval s=.slice sa n sc) {xb:Nat} (hx:a.eval x=.slice (some ⟨xb,0,none⟩) 1 1) (hn:l.length=n)  (hown:Own enc T size B w sa sc l)
  (hxc:w.heap[xb]?=some (.cells cs T1 (0,0))) (hy:cs.toList=enc y) (h1:∀ u∈enc y,u.oneCell'=true) (hb:n≤1000000000) (hB:B≤w.heap.size) (g:b8 w0 w) (hB0:w0.heap.size≤B)
  (h:∀ (sa':Option Addr) (sc':Nat) (x':b7 w0),Own enc T size B x'.w sa' sc' (l++[y])→w.grownBy x'.w (Value.ownBlock (.slice sa n sc))→wpList P ops' Q rest (a.put o.dst (.slice sa' (n+1) sc')) x'.w) :
  wpList P ops' Q (o::rest) a w :=
 wpList_plain hgd fun _ hK=>bv5 (w0:=w0) y s x ho ht hinfo hzs hsz hby hs hx hn hown hxc hy h1 hb hB g hB0 fun sa' sc' x' h2 h3=>hK _ _ (h sa' sc' x' h2 h3)
theorem bW6
  (s x:Operand) (ho:o.op=.call { callee:=.builtin .append,args:=#[s,x],argTypes:=#[t,t] })
  (ht:P.underlying t=some (.slice T)) (hinfo:(P.info? T).map (fun i=>(i.zero,i.size,i.bytes))=some (some z,size,bytes)) (hzs:z.cells.size=size) (hsz:0<size) (hby:bytes≤1000)
  {l r:List α}  {ra:Option Addr}  (hs:a.eval s=.slice sa n sc) (hx:a.eval x=.slice ra m c) (hnil:ra=none→c=0) (hn:l.length=n) (hm:r.length=m)  (hown:Own enc T size B w sa sc l)
  (hr:Sl enc w ra r) (h1:∀ y,∀ u∈enc y,u.oneCell'=true) (hb:n+m≤1000000000) (hB:B≤w.heap.size) (g:b8 w0 w) (hB0:w0.heap.size≤B)
  (h:∀ (sa':Option Addr) (sc':Nat) (x':b7 w0),Own enc T size B x'.w sa' sc' (l++r)→w.grownBy x'.w (Value.ownBlock (.slice sa n sc))→K (a.put o.dst (.slice sa' (n+m) sc')) x'.w) :
  Oper.wp P o a w K Q:=by
 obtain⟨i,hi,h3⟩:=Option.map_eq_some_iff.1 hinfo
 simp only[Prod.mk.injEq]at h3
 obtain⟨h4,h5,h6⟩:=h3
 subst hn;subst hm
 cases ra with
 | none =>
  obtain rfl:=hnil rfl
  have hr0:r=[]:=by
   cases r with
   | nil=>rfl
   | cons y r=>obtain⟨b,off,h0,-⟩:=hr 0 y rfl;cases h0
  subst hr0
  have hrun:=run_append_owned_none (P:=P) (w:=w) B t o.type T i size ht hi _ l.length (l.flatMap enc) hown.2
  unfold Oper.wp
  simp[execOp,ho,resolve,invoke,builtin,hs,hx,hrun,Result.andThen]
  exact h sa sc ⟨w,g.out⟩ (by rw[List.append_nil];exact hown) ⟨rfl,rfl,rfl,Nat.le_refl _,fun k hk hr=>rfl⟩
 | some ad =>
  have hb':(l.length+r.length)*bytes≤140737488355328:=by
   have:(l.length+r.length)*bytes≤(l.length+r.length)*1000:=Nat.mul_le_mul_left _ hby
   omega
  refine wp_append_own (a:=a) (w:=w) s x t ho B T i z size bytes ht hi h4 h5 h6 hzs hsz _ l.length (l.flatMap enc) hs hown.2 ad r.length c (r.flatMap enc) hx (N4 hown.1 r)
   (fun j u hj=>?_) (fun u hu=>?_) (by unfold maxLen;omega) hb' hB ?_
  ·have hlt:j<r.length*size:=by rw[← N4 hown.1 r];exact(List.getElem?_eq_some_iff.1 hj).1
   have hq:j / size<r.length:=Nat.div_lt_of_lt_mul (by rw[Nat.mul_comm];exact hlt)
   have hy:=List.getElem?_eq_getElem hq
   have hmod:j % size<(enc r[j / size]).length:=by rw[hown.1];exact Nat.mod_lt _ hsz
   have hu:=List.getElem?_eq_getElem hmod
   have h8:=ag3 hown.1 r _ _ _ _ hy hu
   have hj':j / size*size+j % size=j:=by rw[Nat.mul_comm];exact Nat.div_add_mod _ _
   rw[hj',hj]at h8
   obtain⟨b,off,hbo,-,hc⟩:=hr _ _ hy
   simp only[Option.some.injEq]at hbo
   subst hbo
   have h9:=hc _ _ hu
   rw[hown.1,Nat.add_assoc,hj']at h9
   simp only[Option.some.injEq]at h8
   rw[h8]
   have e:(⟨b,off,none⟩:Addr).add j=⟨b,off+j,none⟩:=by
    unfold Addr.add;split
    ·rename_i h;rw[h,Nat.add_zero]
    ·rfl
   rw[e];exact h9
  ·obtain⟨y,-,hy⟩:=List.mem_flatMap.1 hu
   exact h1 y u hy
  ·intro v' w' ho' hg' hnil'
   have hlt:=hown.2.lt
   have hbel:Below w0.heap.size w0 w':=g.out.grown hg' g.out.size (fun k hk=>Nat.le_trans hB0 (hlt k hk).1)
   have hf:ba3 v' (l.length+r.length):=by
    rcases ho'.2 with⟨hv,hn0⟩|⟨g',cap,cur,hv,-⟩
    ·exact⟨none,0,by rw[hn0];exact hv⟩
    ·exact⟨_,_,hv⟩
   obtain⟨sa',sc',rfl⟩:=hf
   refine h sa' sc' ⟨w',hbel⟩ ⟨hown.1,?_⟩ hg'
   rw[List.flatMap_append,List.length_append];exact ho'
end
theorem S5(w:World)(o:Obj)(g:Nat)(h:w.heap.size=g):(w.alloc o).heap[g]?=some o:=by
 subst h
 show(w.heap.push _)[w.heap.size]?=_
 simp
theorem aC0{o o':Obj}(h:w.heap[g]?=some o'):(w.alloc o).heap[g]?=some o':=by
 rw[Below.heap_alloc _ _ _ (Array.getElem?_eq_some_iff.1 h).1];exact h
theorem bk7(x:b7 w){o':Obj}(h:w.heap[g]?=some o'):x.w.heap[g]?=some o':=by
 rw[x.h.block _ (Array.getElem?_eq_some_iff.1 h).1];exact h
theorem bN9[gr:b8 w W]{o':Obj}(h:w.heap[g]?=some o'):W.heap[g]?=some o':=by
 rw[gr.out.block _ (Array.getElem?_eq_some_iff.1 h).1];exact h
theorem Own.emptyAt{α:Type}{enc:α→List Value}{T size g:Nat}{W:World}(hsz:∀ x:α,(enc x).length=size){B:Nat}(hB:B≤W.heap.size)(hg:W.heap.size=g):Own enc T size B (W.alloc (.cells #[] T)) (some ⟨g,0,none⟩) 0 []:=hg▸Own.empty (T:=T) (size:=size) (B:=B) hsz (b7.here (W.alloc (.cells #[] T))) hB
theorem L6{w':World}{row:Option Nat}{o':Obj}(hg:w.grownBy w' row)(h:w.heap[g]?=some o')(hne:some g≠row):w'.heap[g]?=some o':=by
 rw[hg.block _ (Array.getElem?_eq_some_iff.1 h).1 hne];exact h
theorem Own.emptyBlk{α:Type}{enc:α→List Value}{T size g:Nat}{W:World}(hsz:∀ x:α,(enc x).length=size){B:Nat}(hB:B≤g)(hg:W.heap[g]?=some (.cells #[] T (0,0))):Own enc T size B W (some ⟨g,0,none⟩) 0 [] :=
 ⟨hsz,by simp,.inr ⟨g,0,#[],rfl,hB,hg,Nat.le_refl _,by unfold maxLen;omega,by simp,by simp⟩⟩
theorem L3.nilOf{α:Type}{enc:α→List Value}{T size:Nat}{w w':World}{l:List α}(hsz:∀ x:α,(enc x).length=size)(hl:l=[])[h:b8 w w']:L3 enc T size w l (.returned (.slice none 0 0)) w' :=
 ⟨none,0,by rw[hl];rfl,by rw[hl];exact Own.nil hsz,⟨w',h.out⟩,rfl⟩
structure ap8 where
 Time:Int
 Id:Int
def am1(s:ap8):List Value:=[.int .i64 s.Time,.int .i64 s.Id]
theorem aU5(s:ap8):(am1 s).length=2:=rfl
theorem Sl.slot{w:World}{a:Option Addr}{l:List ap8}(h:Sl am1 w a l){k:Nat}(hk:k<l.length) :
  ∃ b off s,a=some ⟨b,off,none⟩∧LtN b w.heap.size∧Hid (l.drop k=s::l.drop (k+1))∧(∀ (W:World) [b8 w W],W.cell? ⟨b,off+k*2,none⟩=some (I s.Time))∧(∀ (W:World) [b8 w W],W.cell? ⟨b,off+k*2+1,none⟩=some (I s.Id)):=by
 obtain⟨s,hs,hd⟩:=ag2 hk
 obtain⟨b,off,ha,hb,hc⟩:=h k s hs
 exact⟨b,off,s,ha,⟨hb⟩,hd,j4 hb (hc 0 _ rfl),j4 hb (hc 1 _ rfl)⟩
structure X1 where
 Board:Int
 True:Int
def M4(s:X1):List Value:=[.int .i64 s.Board,.int .i64 s.True]
theorem aw0(s:X1):(M4 s).length=2:=rfl
theorem Sl.pair{w:World}{a:Option Addr}{l:List X1}(h:Sl M4 w a l){k:Nat}(hk:k<l.length) :
  ∃ b off s,a=some ⟨b,off,none⟩∧LtN b w.heap.size∧Hid (l.drop k=s::l.drop (k+1))∧(∀ (W:World) [b8 w W],W.cell? ⟨b,off+k*2,none⟩=some (I s.Board))∧(∀ (W:World) [b8 w W],W.cell? ⟨b,off+k*2+1,none⟩=some (I s.True)):=by
 obtain⟨s,hs,hd⟩:=ag2 hk
 obtain⟨b,off,ha,hb,hc⟩:=h k s hs
 exact⟨b,off,s,ha,⟨hb⟩,hd,j4 hb (hc 0 _ rfl),j4 hb (hc 1 _ rfl)⟩
def bu4(s:X1):Prop:=i64 s.Board∧i64 s.True∧True
theorem bX4{α:Type}{enc:α→List Value}(hsz:∀ x:α,(enc x).length=1){y:α}(hy:enc y=[v0]):∀ (l:List α) (j:Nat),j<l.length→(l.flatMap enc).set (j) v0=(l.set j y).flatMap enc
 | [],j,h=>by simp at h
 | x::l,0,_=>by
  have hx:=hsz x
  match he:enc x,hx with
  | [u0],_=>simp[List.flatMap_cons,he,hy]
 | x::l,j+1,h=>by
  have ih:=bX4 hsz hy l j (by simpa using h)
  rw[List.flatMap_cons,List.set_cons_succ,List.flatMap_cons,← ih]
  have hx:=hsz x
  match he:enc x,hx with
  | [u0],_ =>
   simp
theorem bL9{α:Type}{enc:α→List Value}(hsz:∀ x:α,(enc x).length=2){y:α}(hy:enc y=[v0,v1]):∀ (l:List α) (j:Nat),j<l.length→((l.flatMap enc).set (j*2) v0).set (j*2+1) v1=(l.set j y).flatMap enc
 | [],j,h=>by simp at h
 | x::l,0,_=>by
  have hx:=hsz x
  match he:enc x,hx with
  | [u0,u1],_=>simp[List.flatMap_cons,he,hy]
 | x::l,j+1,h=>by
  have ih:=bL9 hsz hy l j (by simpa using h)
  rw[List.flatMap_cons,List.set_cons_succ,List.flatMap_cons,← ih]
  have hx:=hsz x
  match he:enc x,hx with
  | [u0,u1],_ =>
   rw[show(j+1)*2=j*2+2 from by omega];simp
theorem bX5{α:Type}{enc:α→List Value}(hsz:∀ x:α,(enc x).length=3){y:α}{v2:Value}(hy:enc y=[v0,v1,v2]):∀ (l:List α) (j:Nat),j<l.length→(((l.flatMap enc).set (j*3) v0).set (j*3+1) v1).set (j*3+2) v2=(l.set j y).flatMap enc
 | [],j,h=>by simp at h
 | x::l,0,_=>by
  have hx:=hsz x
  match he:enc x,hx with
  | [u0,u1,u2],_=>simp[List.flatMap_cons,he,hy]
 | x::l,j+1,h=>by
  have ih:=bX5 hsz hy l j (by simpa using h)
  rw[List.flatMap_cons,List.set_cons_succ,List.flatMap_cons,← ih]
  have hx:=hsz x
  match he:enc x,hx with
  | [u0,u1,u2],_ =>
   rw[show(j+1)*3=j*3+3 from by omega];simp
theorem bM0{α:Type}{enc:α→List Value}(hsz:∀ x:α,(enc x).length=4){y:α}{v2 v3:Value}(hy:enc y=[v0,v1,v2,v3]):∀ (l:List α) (j:Nat),j<l.length→((((l.flatMap enc).set (j*4) v0).set (j*4+1) v1).set (j*4+2) v2).set (j*4+3) v3=(l.set j y).flatMap enc
 | [],j,h=>by simp at h
 | x::l,0,_=>by
  have hx:=hsz x
  match he:enc x,hx with
  | [u0,u1,u2,u3],_=>simp[List.flatMap_cons,he,hy]
 | x::l,j+1,h=>by
  have ih:=bM0 hsz hy l j (by simpa using h)
  rw[List.flatMap_cons,List.set_cons_succ,List.flatMap_cons,← ih]
  have hx:=hsz x
  match he:enc x,hx with
  | [u0,u1,u2,u3],_ =>
   rw[show(j+1)*4=j*4+4 from by omega];simp
def ah8{α:Type}(mk:Nat→α)(l:List α)(j:Nat):List α:=(List.range j).map mk++l.drop j
theorem k7{α:Type}{mk:Nat→α}{l:List α}{j:Nat}(hj:j≤l.length):(ah8 mk l j).length=l.length:=by simp[ah8];omega
theorem ae5{α:Type}{mk:Nat→α}{l:List α}{j:Nat}(hj:j<l.length):(ah8 mk l j).set j (mk j)=ah8 mk l (j+1):=by
 have e:∀ y:α,(l.drop j).set 0 y=y::l.drop (j+1):=fun y=>by rw[List.drop_eq_getElem_cons hj];rfl
 unfold ah8
 rw[List.set_append_right _ _ si,List.range_succ,List.map_append]
 simp[e]
theorem Z2{α:Type}{mk:Nat→α}{l:List α}:ah8 mk l 0=l:=by simp[ah8]
theorem ae4{α:Type}{mk:Nat→α}{l:List α}:ah8 mk l l.length=(List.range l.length).map mk:=by simp[ah8]
theorem Own.open{α:Type}{enc:α→List Value}{T size B n:Nat}{w:World}{a:Option Addr}{c:Nat}{l:List α}(h:Own enc T size B w a c l)(hn:0<l.length) :
  ∃ g,a=some ⟨g,0,none⟩∧B≤g∧g<w.heap.size:=by
 obtain⟨hsz,hlen,h1|⟨g,cap,cur,hv,hg,hh,-⟩⟩:=h
 ·omega
 ·simp only[Value.slice.injEq]at hv
  exact⟨g,hv.1,hg,(Array.getElem?_eq_some_iff.1 hh).1⟩
theorem Own.cells{α:Type}{enc:α→List Value}{T size B g:Nat}{w:World}{c:Nat}{l:List α}(h:Own enc T size B w (some ⟨g,0,none⟩) c l){j:Nat}(hj:j<l.length*size):∃ v,w.cell? ⟨g,j,none⟩=some v:=by
 have h1:=h.2.cellAt (n:=l.length) j hj
 exact⟨_,h1.trans (List.getElem?_eq_getElem (by rw[N4 h.1];exact hj))⟩
theorem Own.free{α:Type}{enc:α→List Value}{T size B g:Nat}{w:World}{c:Nat}{l:List α}(h:Own enc T size B w (some ⟨g,0,none⟩) c l)(j:Nat):w.frozen? ⟨g,j,none⟩=false:=h.2.frozenAt j
def ah6{α:Type}(enc:α→List Value)(T size B:Nat)(w:World)(a:Option Addr)(n c:Nat)(l':List α)(k:Int):Ending→World→Prop:=fun e w' =>
 e=.returned (I k)∧w.grownBy w' (Value.ownBlock (.slice a n c))∧Own enc T size B w' a c l'
theorem Own.put1{α:Type}{enc:α→List Value}{T B g:Nat}{w:World}{c:Nat}{l:List α}(h:Own enc T 1 B w (some ⟨g,0,none⟩) c l){j:Nat}(hj:j<l.length){y:α}{v0:Value}(hy:enc y=[v0]) :
  Own enc T 1 B ((w).setCell ⟨g,j,none⟩ v0) (some ⟨g,0,none⟩) c (l.set j y)∧w.grownBy ((w).setCell ⟨g,j,none⟩ v0) (some g):=by
 have s0:=(h.2).stored (j) v0
 refine⟨⟨h.1,?_⟩,s0.2⟩
 rw[← bX4 h.1 hy l j hj,List.length_set]
 exact s0.1
theorem Own.put2{α:Type}{enc:α→List Value}{T B g:Nat}{w:World}{c:Nat}{l:List α}(h:Own enc T 2 B w (some ⟨g,0,none⟩) c l){j:Nat}(hj:j<l.length){y:α}{v0 v1:Value}(hy:enc y=[v0,v1]) :
  Own enc T 2 B (((w).setCell ⟨g,j*2,none⟩ v0).setCell ⟨g,j*2+1,none⟩ v1) (some ⟨g,0,none⟩) c (l.set j y)∧w.grownBy (((w).setCell ⟨g,j*2,none⟩ v0).setCell ⟨g,j*2+1,none⟩ v1) (some g):=by
 have s0:=(h.2).stored (j*2) v0
 have s1:=(s0.1).stored (j*2+1) v1
 refine⟨⟨h.1,?_⟩,(A9 s0.2 s1.2)⟩
 rw[← bL9 h.1 hy l j hj,List.length_set]
 exact s1.1
theorem Own.put3{α:Type}{enc:α→List Value}{T B g:Nat}{w:World}{c:Nat}{l:List α}(h:Own enc T 3 B w (some ⟨g,0,none⟩) c l){j:Nat}(hj:j<l.length){y:α}{v0 v1 v2:Value}(hy:enc y=[v0,v1,v2]) :
  Own enc T 3 B ((((w).setCell ⟨g,j*3,none⟩ v0).setCell ⟨g,j*3+1,none⟩ v1).setCell ⟨g,j*3+2,none⟩ v2) (some ⟨g,0,none⟩) c (l.set j y)∧w.grownBy ((((w).setCell ⟨g,j*3,none⟩ v0).setCell ⟨g,j*3+1,none⟩ v1).setCell ⟨g,j*3+2,none⟩ v2) (some g):=by
 have s0:=(h.2).stored (j*3) v0
 have s1:=(s0.1).stored (j*3+1) v1
 have s2:=(s1.1).stored (j*3+2) v2
 refine⟨⟨h.1,?_⟩,(A9 (A9 s0.2 s1.2) s2.2)⟩
 rw[← bX5 h.1 hy l j hj,List.length_set]
 exact s2.1
theorem Own.put4{α:Type}{enc:α→List Value}{T B g:Nat}{w:World}{c:Nat}{l:List α}(h:Own enc T 4 B w (some ⟨g,0,none⟩) c l){j:Nat}(hj:j<l.length){y:α}{v0 v1 v2 v3:Value}(hy:enc y=[v0,v1,v2,v3]) :
  Own enc T 4 B (((((w).setCell ⟨g,j*4,none⟩ v0).setCell ⟨g,j*4+1,none⟩ v1).setCell ⟨g,j*4+2,none⟩ v2).setCell ⟨g,j*4+3,none⟩ v3) (some ⟨g,0,none⟩) c (l.set j y)∧w.grownBy (((((w).setCell ⟨g,j*4,none⟩ v0).setCell ⟨g,j*4+1,none⟩ v1).setCell ⟨g,j*4+2,none⟩ v2).setCell ⟨g,j*4+3,none⟩ v3) (some g):=by
 have s0:=(h.2).stored (j*4) v0
 have s1:=(s0.1).stored (j*4+1) v1
 have s2:=(s1.1).stored (j*4+2) v2
 have s3:=(s2.1).stored (j*4+3) v3
 refine⟨⟨h.1,?_⟩,(A9 (A9 (A9 s0.2 s1.2) s2.2) s3.2)⟩
 rw[← bM0 h.1 hy l j hj,List.length_set]
 exact s3.1
def bW7(a:Option Addr)(B U:Nat):Prop:=∀ k,Value.ownBlock (.slice a 0 0)=some k→B≤k∧k<U
theorem Own.keep{α:Type}{enc:α→List Value}{T size B B1 U1 B2 U2 n2 c2:Nat}{V w1:World}{a a2:Option Addr}{c:Nat}{l:List α}(h:Own enc T size B V a c l)(hg:V.grownBy w1 (Value.ownBlock (.slice a2 n2 c2)))
  (i1:bW7 a B1 U1) (i2:bW7 a2 B2 U2) (hd:LeN U1 B2∨LeN U2 B1):Own enc T size B w1 a c l:=by
 refine⟨h.1,h.2.kept hg ?_⟩
 cases a with
 | none=>exact .inl rfl
 | some a =>
  right
  cases a2 with
  | none=>simp[Value.ownBlock]
  | some b =>
   have h1:=i1 _ rfl
   have h2:=i2 _ rfl
   intro he
   simp only[Value.ownBlock,Option.some.injEq]at he
   rcases hd with hd|hd
   ·have:=hd.out;omega
   ·have:=hd.out;omega
def ax1(k0:Int)(i:Nat):ap8:=(⟨k0+i*2,k0+i*2+1⟩:ap8)
theorem bp0{l:List ap8}(hown0:Own am1 211 2 B w a c l)(hn:l.length=n)(hm:n≤100000000)(h1:0≤k0)(h2:k0≤1000000000000) :
  Calls Tryz.prog 51 #[.slice a n c,I k0] w (ah6 am1 211 2 B w a n c ((List.range n).map (ax1 k0)) (k0+n*2)):=by
 go_enter Tryz.func51,Tryz.ntmps51
 go_wp2_with (fail)
 go_loopw [1,5] (fun u v wr=>∃ j:Nat,v=I j∧u=I (k0+j*2)∧j≤n∧w.grownBy wr (Value.ownBlock (.slice a n c))∧Own am1 211 2 B wr a c (ah8 (ax1 k0) l j)) (fun _ v _=>(n - intOf v).toNat)
 case atStart=>exact⟨0,rfl,by simp,by omega,V0 _ _,by rw[Z2];exact hown0⟩
 case round =>
  obtain⟨j,rfl,rfl,hj,hgr,hown⟩:=hrel
  by_cases h:j<n
  ·obtain⟨g,rfl,hB,hlt⟩:=hown.open (n:=n) (by rw[k7 om];omega)
   obtain⟨o0,g0⟩:=hown.cells (j:=j*2) (by rw[k7 om];omega);obtain⟨o1,g1⟩:=hown.cells (j:=j*2+1) (by rw[k7 om];omega);
   have f0:=hown.free (j*2);have f1:=hown.free (j*2+1);
   have HG:=lH hgr;clear hgr
   go_wp2_with (fail)
   go_roundw
   case rel =>
    have hp:=hown.put2 (j:=j) (y:=ax1 k0 j) (by rw[k7 om];omega) rfl
    exact⟨j+1,by go_num,by go_num,by omega,A9 HG.out hp.2,by rw[← ae5 om];exact hp.1⟩
   case measure=>simp[intOf];omega
  ·go_wp2_with (fail)
   go_ret
   obtain rfl:j=n:=by omega
   refine⟨rfl,hgr,?_⟩
   rw[← hn,ae4]at hown
   rw[← hn];exact hown
theorem bo8(hs:Sl am1 w a ((List.range n).map (ax1 k0)))(hm:n≤100000000)(h1:0≤k0)(h2:k0≤1000000000000) :
  Calls Tryz.prog 56 #[.slice a n c,I k0] w (b5 w (I (k0+n*2))):=by
 go_enter Tryz.func56,Tryz.ntmps56
 go_wp2_with (fail)
 go_loopw [1,5] (fun u v wr=>∃ j:Nat,v=I j∧u=I (k0+j*2)∧j≤n∧∃ x:b7 w,wr=x.w) (fun _ v _=>(n - intOf v).toNat)
 case atStart=>exact⟨0,rfl,by simp,by omega,b7.of⟩
 case round =>
  obtain⟨j,rfl,rfl,hj,x0,rfl⟩:=hrel
  by_cases h:j<n
  ·obtain⟨b,off,s,rfl,hb,hd,e0,e1⟩:=hs.slot (k:=j) (by simpa using h)
   obtain rfl:s=ax1 k0 j:=by
    have:=congrArg (fun m=>m[0]?) hd.out
    simpa[h]using this.symm
   simp only[ax1]at e0 e1
   clear hd
   go_wp2_with (fail)
   go_roundw
   case rel=>exact⟨j+1,by go_num,by go_num,by omega,b7.of⟩
   case measure=>simp[intOf];omega
  ·go_wp2_with (fail)
   go_ret
   obtain rfl:j=n:=by omega
   exact b5.mk rfl
def ax0(k0:Int)(i:Nat):X1:=(⟨k0+i*2,k0+i*2+1⟩:X1)
theorem bo9{l:List X1}(hown0:Own M4 206 2 B w a c l)(hn:l.length=n)(hm:n≤100000000)(h1:0≤k0)(h2:k0≤1000000000000) :
  Calls Tryz.prog 181 #[.slice a n c,I k0] w (ah6 M4 206 2 B w a n c ((List.range n).map (ax0 k0)) (k0+n*2)):=by
 go_enter Tryz.func181,Tryz.ntmps181
 go_wp2_with (fail)
 go_loopw [1,5] (fun u v wr=>∃ j:Nat,v=I j∧u=I (k0+j*2)∧j≤n∧w.grownBy wr (Value.ownBlock (.slice a n c))∧Own M4 206 2 B wr a c (ah8 (ax0 k0) l j)) (fun _ v _=>(n - intOf v).toNat)
 case atStart=>exact⟨0,rfl,by simp,by omega,V0 _ _,by rw[Z2];exact hown0⟩
 case round =>
  obtain⟨j,rfl,rfl,hj,hgr,hown⟩:=hrel
  by_cases h:j<n
  ·obtain⟨g,rfl,hB,hlt⟩:=hown.open (n:=n) (by rw[k7 om];omega)
   obtain⟨o0,g0⟩:=hown.cells (j:=j*2) (by rw[k7 om];omega);obtain⟨o1,g1⟩:=hown.cells (j:=j*2+1) (by rw[k7 om];omega);
   have f0:=hown.free (j*2);have f1:=hown.free (j*2+1);
   have HG:=lH hgr;clear hgr
   go_wp2_with (fail)
   go_roundw
   case rel =>
    have hp:=hown.put2 (j:=j) (y:=ax0 k0 j) (by rw[k7 om];omega) rfl
    exact⟨j+1,by go_num,by go_num,by omega,A9 HG.out hp.2,by rw[← ae5 om];exact hp.1⟩
   case measure=>simp[intOf];omega
  ·go_wp2_with (fail)
   go_ret
   obtain rfl:j=n:=by omega
   refine⟨rfl,hgr,?_⟩
   rw[← hn,ae4]at hown
   rw[← hn];exact hown
theorem bo7(hs:Sl M4 w a ((List.range n).map (ax0 k0)))(hm:n≤100000000)(h1:0≤k0)(h2:k0≤1000000000000) :
  Calls Tryz.prog 189 #[.slice a n c,I k0] w (b5 w (I (k0+n*2))):=by
 go_enter Tryz.func189,Tryz.ntmps189
 go_wp2_with (fail)
 go_loopw [1,5] (fun u v wr=>∃ j:Nat,v=I j∧u=I (k0+j*2)∧j≤n∧∃ x:b7 w,wr=x.w) (fun _ v _=>(n - intOf v).toNat)
 case atStart=>exact⟨0,rfl,by simp,by omega,b7.of⟩
 case round =>
  obtain⟨j,rfl,rfl,hj,x0,rfl⟩:=hrel
  by_cases h:j<n
  ·obtain⟨b,off,s,rfl,hb,hd,e0,e1⟩:=hs.pair (k:=j) (by simpa using h)
   obtain rfl:s=ax0 k0 j:=by
    have:=congrArg (fun m=>m[0]?) hd.out
    simpa[h]using this.symm
   simp only[ax0]at e0 e1
   clear hd
   go_wp2_with (fail)
   go_roundw
   case rel=>exact⟨j+1,by go_num,by go_num,by omega,b7.of⟩
   case measure=>simp[intOf];omega
  ·go_wp2_with (fail)
   go_ret
   obtain rfl:j=n:=by omega
   exact b5.mk rfl
def bd5(k0:Int)(i:Nat):Int:=(k0+i)
theorem bx1{l:List Int}(hown0:Own ae0 3 1 B w a c l)(hn:l.length=n)(hm:n≤100000000)(h1:0≤k0)(h2:k0≤1000000000000) :
  Calls Tryz.prog 284 #[.slice a n c,I k0] w (ah6 ae0 3 1 B w a n c ((List.range n).map (bd5 k0)) (k0+n*1)):=by
 go_enter Tryz.func284,Tryz.ntmps284
 go_wp2_with (fail)
 go_loopw [1,5] (fun u v wr=>∃ j:Nat,v=I j∧u=I (k0+j*1)∧j≤n∧w.grownBy wr (Value.ownBlock (.slice a n c))∧Own ae0 3 1 B wr a c (ah8 (bd5 k0) l j)) (fun _ v _=>(n - intOf v).toNat)
 case atStart=>exact⟨0,rfl,by simp,by omega,V0 _ _,by rw[Z2];exact hown0⟩
 case round =>
  obtain⟨j,rfl,rfl,hj,hgr,hown⟩:=hrel
  by_cases h:j<n
  ·obtain⟨g,rfl,hB,hlt⟩:=hown.open (n:=n) (by rw[k7 om];omega)
   obtain⟨o0,g0⟩:=hown.cells (j:=j) (by rw[k7 om];omega);
   have f0:=hown.free (j);
   have HG:=lH hgr;clear hgr
   go_wp2_with (fail)
   go_roundw
   case rel =>
    have hp:=hown.put1 (j:=j) (y:=bd5 k0 j) (by rw[k7 om];omega) rfl
    exact⟨j+1,by go_num,by go_num,by omega,A9 HG.out hp.2,by rw[← ae5 om];exact hp.1⟩
   case measure=>simp[intOf];omega
  ·go_wp2_with (fail)
   go_ret
   obtain rfl:j=n:=by omega
   refine⟨rfl,hgr,?_⟩
   rw[← hn,ae4]at hown
   rw[← hn];exact hown
theorem bw9(hs:Sl ae0 w a ((List.range n).map (bd5 k0)))(hm:n≤100000000)(h1:0≤k0)(h2:k0≤1000000000000) :
  Calls Tryz.prog 290 #[.slice a n c,I k0] w (b5 w (I (k0+n*1))):=by
 go_enter Tryz.func290,Tryz.ntmps290
 go_wp2_with (fail)
 go_loopw [1,5] (fun u v wr=>∃ j:Nat,v=I j∧u=I (k0+j*1)∧j≤n∧∃ x:b7 w,wr=x.w) (fun _ v _=>(n - intOf v).toNat)
 case atStart=>exact⟨0,rfl,by simp,by omega,b7.of⟩
 case round =>
  obtain⟨j,rfl,rfl,hj,x0,rfl⟩:=hrel
  by_cases h:j<n
  ·obtain⟨b,off,s,rfl,hb,hd,e0⟩:=hs.int (k:=j) (by simpa using h)
   obtain rfl:s=bd5 k0 j:=by
    have:=congrArg (fun m=>m[0]?) hd.out
    simpa[h]using this.symm
   simp only[bd5]at e0
   clear hd
   go_wp2_with (fail)
   go_roundw
   case rel=>exact⟨j+1,by go_num,by go_num,by omega,b7.of⟩
   case measure=>simp[intOf];omega
  ·go_wp2_with (fail)
   go_ret
   obtain rfl:j=n:=by omega
   exact b5.mk rfl
def j5(w:World)(b:Nat)(cs:List Value)(T:TypeId):Prop:=w.heap[b]?=some (.cells cs.toArray T (0,0))
theorem j5.new(W:World)(cs:List Value)(T g:Nat)(hg:W.heap.size=g):j5 (W.alloc (.cells cs.toArray T)) g cs T:=S5 W _ g hg
theorem j5.to{w W:World}{b:Nat}{cs:List Value}{T:TypeId}(h:j5 w b cs T)(g:b8 w W):j5 W b cs T:=bN9 (gr:=g) h
theorem j5.lt{w:World}{b:Nat}{cs:List Value}{T:TypeId}(h:j5 w b cs T):b<w.heap.size:=(Array.getElem?_eq_some_iff.1 h).1
theorem j5.cell{w:World}{b:Nat}{cs:List Value}{T:TypeId}(h:j5 w b cs T)(i:Nat):w.cell? ⟨b,i,none⟩=cs[i]?:=by simp[World.cell?,show w.heap[b]?=_ from h]
theorem j5.free{w:World}{b:Nat}{cs:List Value}{T:TypeId}(h:j5 w b cs T)(i:Nat):w.frozen? ⟨b,i,none⟩=false:=by simp[World.frozen?,show w.heap[b]?=_ from h]
theorem j5.set{w:World}{b:Nat}{cs:List Value}{T:TypeId}(h:j5 w b cs T)(i:Nat)(v:Value):j5 (w.setCell ⟨b,i,none⟩ v) b (cs.set i v) T:=by
 have h':w.heap[b]?=some (.cells cs.toArray T (0,0)):=h
 unfold j5 World.setCell
 simp[Array.getElem?_modify,h']
theorem Own.notHeld{α:Type}{enc:α→List Value}{T T' size B n:Nat}{w:World}{a:Option Addr}{c b:Nat}{l:List α}{cs:List Value}(h:Own enc T size B w a c l)(hb:j5 w b cs T')(hT:T≠T'):some b≠Value.ownBlock (.slice a n c):=by
 obtain⟨-,-,⟨h1,-⟩|⟨g,cap,cur,hv,-,hh,-⟩⟩:=h
 ·simp only[Value.slice.injEq]at h1;obtain⟨rfl,-⟩:=h1;simp[Value.ownBlock]
 ·simp only[Value.slice.injEq]at hv;obtain⟨rfl,-⟩:=hv
  simp only[Value.ownBlock,ne_eq,Option.some.injEq]
  rintro rfl
  have hb':w.heap[b]?=some (.cells cs.toArray T' (0,0)):=hb
  rw[hb']at hh
  simp only[Option.some.injEq,Obj.cells.injEq]at hh
  exact hT hh.2.1.symm
theorem j5.kept{α:Type}{enc:α→List Value}{T T' size B n:Nat}{w w':World}{a:Option Addr}{c b:Nat}{l:List α}{cs:List Value}(hb:j5 w b cs T')(h:Own enc T size B w a c l)(hT:T≠T')(hg:w.grownBy w' (Value.ownBlock (.slice a n c))):j5 w' b cs T' :=
 L6 hg hb (h.notHeld hb hT)
theorem Own.set{α:Type}{enc:α→List Value}{T T' size B:Nat}{w:World}{a:Option Addr}{c b:Nat}{l:List α}{cs:List Value}(h:Own enc T size B w a c l)(hb:j5 w b cs T')(hT:T≠T')(i:Nat)(v:Value):Own enc T size B (w.setCell ⟨b,i,none⟩ v) a c l:=by
 refine⟨h.1,h.2.kept (row:=some b) ⟨rfl,rfl,rfl,by simp,fun k hk hr=>?_⟩ (.inr (fun e=>h.notHeld (n:=l.length) hb hT e.symm))⟩
 rw[Below.heap_setCell _ _ _ _ (fun e=>hr (by simp only at e;rw[e]))]
theorem Own.low{α:Type}{enc:α→List Value}{T size B:Nat}{w:World}{a:Option Addr}{c b:Nat}{l:List α}(h:Own enc T size B w a c l)(hb:b<B)(i:Nat)(v:Value):Own enc T size B (w.setCell ⟨b,i,none⟩ v) a c l:=by
 refine⟨h.1,h.2.kept (row:=some b) ⟨rfl,rfl,rfl,by simp,fun k hk hr=>?_⟩ ?_⟩
 ·rw[Below.heap_setCell _ _ _ _ (fun e=>hr (by simp only at e;rw[e]))]
 ·cases ha:Value.ownBlock (.slice a l.length c)with
  | none=>exact .inl rfl
  | some k =>
   right
   have:=h.2.lt k ha
   intro e
   simp only[Option.some.injEq]at e
   omega
theorem Own.lowS{α:Type}{enc:α→List Value}{T size B:Nat}{w:World}{x:b7 w}{a:Option Addr}{c b:Nat}{l:List α}(h:Own enc T size B x.w a c l)(hb:b<B)(i:Nat)(v:Value):Own enc T size B (x.set ⟨b,i,none⟩ v).w a c l:=h.low hb i v
theorem j5.cellG{w:World}{b:Nat}{cs:List Value}{T:TypeId}(h:j5 w b cs T)(i:Nat)(v:Value)(hv:cs[i]?=some v):∀ (W:World) [b8 w W],W.cell? ⟨b,i,none⟩=some v:=fun W g=>by rw[(h.to g).cell i];exact hv
theorem bk4{P:Program}{r:Reach}{base:Nat}{fs:Array Field}(ht:P.underlying t=some (.struct fs))(h:Value.okWide P w r base t v):∃ cs,v=.agg cs∧cs.size=P.cellsOf t:=by
 simp only[Value.okWide,ht]at h
 obtain⟨cs,h1,h2,-⟩:=h
 exact⟨cs,h1,h2⟩
/-! ### Slices of numbers -/
theorem bE6{l:List Int}(hs:Sl ae0 w a l)(hn:l.length=n)(hm:n≤100000000) :
  Calls Tryz.prog 254 #[.slice a n c] w (L3 ae0 3 1 w l):=by
 cases a with
 | none =>
  have hl:l=[]:=by
   cases l with
   | nil=>rfl
   | cons y r=>obtain⟨b,off,h0,-⟩:=hs 0 y rfl;cases h0
  have hq:=fun(w:World)=>run_eql_slice_nil (P:=Tryz.prog) w 46 3 none n c Tryz.underlying46
  simp only[Option.isNone]at hq
  have HL:=lH hl;clear hl
  go_enter Tryz.func254,Tryz.ntmps254
  go_wp2_with (fail)
  go_ret
  exact L3.nilOf bc7 HL.out
 | some ad =>
  have hq:=fun(w:World)=>run_eql_slice_nil (P:=Tryz.prog) w 46 3 (some ad) n c Tryz.underlying46
  simp only[Option.isNone]at hq
  go_enter Tryz.func254,Tryz.ntmps254
  go_wp2_with (first|(at_builtin;refine I0 (enc:=ae0) (w0:=w) (z:=I 0) (size:=1) (bytes:=8) (n:=0) (l:=[]) rfl (.tmp 5) (.tmp 6) rfl Tryz.underlying46 kr rfl de de rfl rfl (fun h=>by cases h) rfl hn (Own.emptyAt bc7 nl rfl) (hs.to ii) bc8 om ?_;intro sa1 sc1 x1 hown1 hgr1))
  go_ret
  rw[List.nil_append]at hown1
  exact⟨sa1,sc1,by rw[hn];first|rfl|simp,hown1,b7.of⟩
class NeN(a b:Nat):Prop where
 out:a≠b
instance(priority:=60) NeN.ofLt (a b:Nat)[h:LtN a b]:NeN a b:=⟨Nat.ne_of_lt h.out⟩
instance(priority:=55) NeN.ofGt (a b:Nat)[h:LtN b a]:NeN a b:=⟨Nat.ne_of_gt h.out⟩
theorem bk8(W:World)(b i b' j:Nat)(v:Value)(h:b≠b'):(W.setCell ⟨b,i,none⟩ v).cell? ⟨b',j,none⟩=W.cell? ⟨b',j,none⟩:=World.cell?_setCell_far W ⟨b,i,none⟩ ⟨b',j,none⟩ v h
@[go_sem] theorem bZ6(W:World)(b i b' j:Nat)(v:Value)[h:NeN b b']:(W.setCell ⟨b,i,none⟩ v).cell? ⟨b',j,none⟩=W.cell? ⟨b',j,none⟩:=bk8 W b i b' j v h.out
namespace b7
variable {W:World}
@[go_sem] theorem bW3(x:b7 W)(b i b' j:Nat)(v:Value)[h:NeN b b']:(x.set ⟨b,i,none⟩ v).w.cell? ⟨b',j,none⟩=x.w.cell? ⟨b',j,none⟩:=bk8 x.w b i b' j v h.out
@[go_sem] theorem bZ2(x:b7 W)(b i:Nat)(v:Value)(p:Addr):(x.set ⟨b,i,none⟩ v).w.frozen? p=x.w.frozen? p:=by simp[b7.set]
end b7
instance b8.setL(a:World){W:World}(x:b7 W)(b i:Nat)(v:Value)[h:b8 a x.w][k:LeN a.heap.size b]:b8 a (x.set ⟨b,i,none⟩ v).w:=⟨h.out.setCell k.out v⟩
class SzN(g:Nat)(W:World):Prop where
 out:W.heap.size=g
instance SzN.same(W:World):SzN W.heap.size W:=⟨rfl⟩
instance SzN.set(g:Nat){W:World}(x:b7 W)(p:Addr)(v:Value)[h:SzN g x.w]:SzN g (x.set p v).w:=⟨by have:=h.out;simpa[b7.set]using this⟩
instance SzN.setCell(g:Nat)(W:World)(p:Addr)(v:Value)[h:SzN g W]:SzN g (W.setCell p v):=⟨by have:=h.out;simpa using this⟩
instance SzN.drew(g:Nat)(W:World)[h:SzN g W]:SzN g W.drew:=⟨h.out⟩
@[go_sem] theorem bZ7(W:World)(C:Array Value)(T:TypeId)(g i:Nat)[h:SzN g W]:(W.alloc (.cells C T)).cell? ⟨g,i,none⟩=C[i]?:=by
 have:=S5 W (.cells C T) g h.out
 simp[World.cell?,this]
@[go_sem] theorem bX3(W:World)(C:Array Value)(T:TypeId)(g i:Nat)[h:SzN g W]:(W.alloc (.cells C T)).frozen? ⟨g,i,none⟩=false:=by
 have:=S5 W (.cells C T) g h.out
 simp[World.frozen?,this]
class d7(B:Nat)(w w':World):Prop where
 size:w.heap.size≤w'.heap.size
 block:∀ b,B≤b→b<w.heap.size→w'.heap[b]?=w.heap[b]?
instance(priority:=2000) d7.same (B:Nat)(w:World):d7 B w w:=⟨Nat.le_refl _,fun _ _ _=>rfl⟩
theorem d7.trans{B:Nat}{a b c:World}(h:d7 B a b)(k:d7 B b c):d7 B a c:=⟨Nat.le_trans h.size k.size,fun i h1 h2=>(k.block i h1 (Nat.lt_of_lt_of_le h2 h.size)).trans (h.block i h1 h2)⟩
theorem d7.later'{B:Nat}{w W:World}(h:d7 B w W)(x:b7 W):d7 B w x.w:=h.trans ⟨x.h.size,fun b _ h2=>x.h.block b h2⟩
instance(priority:=1500) d7.andThenSelf (B:Nat){W:World}(x:b7 W)(y:b7 x.w):d7 B y.w (x.andThen y).w:=⟨Nat.le_refl _,fun _ _ _=>rfl⟩
instance(priority:=1400) d7.andThenMid (B:Nat){W:World}(x:b7 W)(y:b7 x.w):d7 B x.w (x.andThen y).w:=⟨y.h.size,fun b _ h2=>y.h.block b h2⟩
instance(priority:=1300) d7.andThen (B:Nat)(a:World){W:World}(x:b7 W)(y:b7 x.w)[h:d7 B a x.w]:d7 B a (x.andThen y).w:=h.later' y
instance(priority:=1200) d7.drawn (B:Nat)(a:World){W:World}(x:b7 W)[h:d7 B a x.w]:d7 B a x.draw.w:=⟨h.size,h.block⟩
instance(priority:=1200) d7.drew (B:Nat)(a w:World)[h:d7 B a w]:d7 B a w.drew:=⟨h.size,h.block⟩
theorem d7.set'{B:Nat}{a w:World}(h:d7 B a w)(b i:Nat)(v:Value)(k:b<B):d7 B a (w.setCell ⟨b,i,none⟩ v):=⟨by simpa using h.size,fun c h1 h2=>by
 rw[Below.heap_setCell _ _ _ _ (fun e=>by simp only at e;omega)];exact h.block c h1 h2⟩
instance(priority:=1200) d7.setCell (B:Nat)(a w:World)(b i:Nat)(v:Value)[h:d7 B a w][k:LtN b B]:d7 B a (w.setCell ⟨b,i,none⟩ v):=h.set' b i v k.out
instance(priority:=1200) d7.setL (B:Nat)(a:World){W:World}(x:b7 W)(b i:Nat)(v:Value)[h:d7 B a x.w][k:LtN b B]:d7 B a (x.set ⟨b,i,none⟩ v).w:=h.set' b i v k.out
instance(priority:=1250) d7.setL8 (B:Nat)(a:World){W:World}(x:b7 W)(b i0 i1 i2 i3 i4 i5 i6 i7:Nat)(v0 v1 v2 v3 v4 v5 v6 v7:Value)[h:d7 B a x.w][k:LtN b B]:d7 B a ((((((((x.set ⟨b,i0,none⟩ v0).set ⟨b,i1,none⟩ v1).set ⟨b,i2,none⟩ v2).set ⟨b,i3,none⟩ v3).set ⟨b,i4,none⟩ v4).set ⟨b,i5,none⟩ v5).set ⟨b,i6,none⟩ v6).set ⟨b,i7,none⟩ v7).w :=
 (((((((h.set' b i0 v0 k.out).set' b i1 v1 k.out).set' b i2 v2 k.out).set' b i3 v3 k.out).set' b i4 v4 k.out).set' b i5 v5 k.out).set' b i6 v6 k.out).set' b i7 v7 k.out
instance(priority:=1200) d7.alloc (B:Nat)(a w:World)(o:Obj)[h:d7 B a w]:d7 B a (w.alloc o):=⟨by have:=h.size;simp;omega,fun b h1 h2=>by rw[Below.heap_alloc _ _ _ (Nat.lt_of_lt_of_le h2 h.size)];exact h.block b h1 h2⟩
instance(priority:=1000) d7.later (B:Nat)(a:World){W:World}(x:b7 W)[h:d7 B a W]:d7 B a x.w:=h.later' x
instance(priority:=100) d7.grows (B:Nat)(w W:World)[h:b8 w W]:d7 B w W:=⟨h.out.size,fun b _ h2=>h.out.block b h2⟩
class Enc(α:Type) where
 size:Nat
 Rd:Nat→World→List Value→α→Prop
 len:∀ {B w vs x},Rd B w vs x→vs.length=size
 keep:∀ {B w w' vs x},Rd B w vs x→d7 B w w'→Rd B w' vs x
 mono:∀ {B B' w vs x},Rd B w vs x→B'≤B→Rd B' w vs x
 tot:α→Int
 tot_nonneg:∀ x,0≤tot x
def d9{α:Type}[Enc α]:List α→Int
 | []=>0
 | x::r=>1+Enc.tot x+d9 r
theorem f6{α:Type}[Enc α](l:List α):(l.length:Int)≤d9 l:=by
 induction l with
 | nil=>simp[d9]
 | cons x r ih=>have:=Enc.tot_nonneg x;simp only[d9,List.length_cons];omega
theorem d6{α:Type}[Enc α](l:List α):0≤d9 l:=by have:=f6 l;omega
theorem af1{α:Type}[Enc α]{l:List α}{x:α}(h:x∈l):Enc.tot x≤d9 l:=by
 induction l with
 | nil=>cases h
 | cons y r ih =>
  have h1:=d6 r;have h2:=Enc.tot_nonneg y
  simp only[d9]
  rcases List.mem_cons.1 h with rfl|h
  ·omega
  ·have:=ih h;omega
def RdS{α:Type}[E:Enc α](B:Nat)(w:World)(a:Option Addr)(c:Nat)(l:List α):Prop :=
 l.length≤c∧c≤maxLen∧(a=none→c=0)∧∀ (i:Nat) (x:α),l[i]?=some x→∃ b off vs,a=some ⟨b,off,none⟩∧B≤b∧b<w.heap.size∧E.Rd B w vs x∧∀ (j:Nat) (u:Value),vs[j]?=some u→w.cell? ⟨b,off+i*E.size+j,none⟩=some u
section
variable {α:Type} [E:Enc α] {B:Nat} {w:World} {a:Option Addr} {c:Nat} {l:List α}
theorem RdS.cap(h:RdS B w a c l):l.length≤c:=h.1
theorem RdS.max(h:RdS B w a c l):l.length≤9223372036854775807:=by have h1:=h.1;have h2:=h.2.1;unfold maxLen at h2;omega
theorem RdS.nilcap(h:RdS B w a c l):a=none→c=0:=h.2.2.1
theorem RdS.keep{w':World}(h:RdS B w a c l)(k:d7 B w w'):RdS B w' a c l:=by
 refine⟨h.1,h.2.1,h.2.2.1,fun i x hx=>?_⟩
 obtain⟨b,off,vs,rfl,h1,h2,h3,h4⟩:=h.2.2.2 i x hx
 exact⟨b,off,vs,rfl,h1,Nat.lt_of_lt_of_le h2 k.size,E.keep h3 k,fun j u hu=>by rw[World.cell?_of_block (w:=w) (k.block b h1 h2)];exact h4 j u hu⟩
theorem RdS.mono{B':Nat}(h:RdS B w a c l)(k:B'≤B):RdS B' w a c l:=by
 refine⟨h.1,h.2.1,h.2.2.1,fun i x hx=>?_⟩
 obtain⟨b,off,vs,rfl,h1,h2,h3,h4⟩:=h.2.2.2 i x hx
 exact⟨b,off,vs,rfl,by omega,h2,E.mono h3 k,h4⟩
theorem RdS.to{w':World}(h:RdS B w a c l)(g:d7 B w w'):RdS B w' a c l:=h.keep g
theorem RdS.nil:RdS B w none 0 ([]:List α):=⟨Nat.le_refl _,by unfold maxLen;omega,fun _=>rfl,fun i x h=>by simp at h⟩
theorem RdS.at(h:RdS B w a c l){k:Nat}(hk:k<l.length):∃ b off x vs,a=some ⟨b,off,none⟩∧LtN b w.heap.size∧Hid (l.drop k=x::l.drop (k+1))∧E.Rd B w vs x∧∀ (j:Nat) (u:Value),vs[j]?=some u→w.cell? ⟨b,off+k*E.size+j,none⟩=some u:=by
 obtain⟨x,hx,hd⟩:=ag2 hk
 obtain⟨b,off,vs,h0,-,h2,h3,h4⟩:=h.2.2.2 k x hx
 exact⟨b,off,x,vs,h0,⟨h2⟩,hd,h3,h4⟩
end
def ai3{α:Type}[E:Enc α](w:World)(x:α):Ending→World→Prop:=fun e w'=>∃ vs:List Value,e=.returned (.agg vs.toArray)∧E.Rd w.heap.size w' vs x∧∃ y:b7 w,w'=y.w
instance Enc.int:Enc Int where
 size:=1
 Rd _ _ vs n:=vs=[I n]∧i64 n
 len h:=by rw[h.1];rfl
 keep h _:=h
 mono h _:=h
 tot _:=0
 tot_nonneg _:=Int.le_refl _
instance Enc.bool:Enc Bool where
 size:=1
 Rd _ _ vs b:=vs=[.bool b]
 len h:=by rw[h];rfl
 keep h _:=h
 mono h _:=h
 tot _:=0
 tot_nonneg _:=Int.le_refl _
instance Enc.str:Enc ByteArray where
 size:=1
 Rd _ _ vs s:=vs=[.string s]∧s.size≤9223372036854775807
 len h:=by rw[h.1];rfl
 keep h _:=h
 mono h _:=h
 tot s:=s.size
 tot_nonneg _:=by omega
/-! ### A block that is filled row by row -/
def F7{α:Type}[E:Enc α](B:Nat)(w:World)(D:Array Value)(l:List α):Prop:=∀ (i:Nat) (x:α),l[i]?=some x→∃ vs,E.Rd B w vs x∧∀ (j:Nat) (u:Value),vs[j]?=some u→D[i*E.size+j]?=some u
def aV4(D:Array Value)(p j:Nat):List Value→Array Value
 | []=>D
 | v::r=>aV4 (D.setIfInBounds (p+j) v) p (j+1) r
theorem aH0:∀ (vs:List Value) (D:Array Value) (p j i:Nat),i<p+j→(aV4 D p j vs)[i]?=D[i]?
 | [],D,p,j,i,h=>rfl
 | v::r,D,p,j,i,h=>by
  rw[aV4,aH0 r _ _ _ _ om,Array.getElem?_setIfInBounds_ne om]
theorem aS2:∀ (vs:List Value) (D:Array Value) (p j:Nat),p+j+vs.length≤D.size→∀ (i:Nat) (u:Value),vs[i]?=some u→(aV4 D p j vs)[p+j+i]?=some u
 | [],D,p,j,h,i,u,hu=>by simp at hu
 | v::r,D,p,j,h,0,u,hu=>by
  simp only[List.getElem?_cons_zero,Option.some.injEq]at hu
  subst hu
  simp only[List.length_cons]at h
  show(aV4 (D.setIfInBounds (p+j) v) p (j+1) r)[p+j]?=some v
  rw[aH0 r _ _ _ _ om,Array.getElem?_setIfInBounds_self_of_lt om]
 | v::r,D,p,j,h,i+1,u,hu=>by
  simp only[List.length_cons]at h
  have:=aS2 r (D.setIfInBounds (p+j) v) p (j+1) (by simp;omega) i u (by simpa using hu)
  rw[aV4,← this];congr 1;omega
theorem F7.nil{α:Type}[E:Enc α]{B:Nat}{w:World}{D:Array Value}:F7 B w D ([]:List α):=fun i x h=>by simp at h
theorem F7.put{α:Type}[E:Enc α]{B n k:Nat}{W W':World}{D:Array Value}{l r:List α}{x:α}{vs:List Value}(h:F7 B W D (l.take k))(hd:l.drop k=x::r)(hk:k<n)(hl:l.length=n)(hD:D.size=n*E.size)(hR:E.Rd B W' vs x)(g:d7 B W W') :
  F7 B W' (aV4 D (k*E.size) 0 vs) (l.take (k+1)):=by
 have hkx:l[k]?=some x:=by
  have:=congrArg (fun m=>m[0]?) hd
  simpa using this
 have hle:k*E.size+E.size≤n*E.size:=by rw[← Nat.succ_mul];exact Nat.mul_le_mul_right _ hk
 intro i y hy
 by_cases hi:i<k
 ·obtain⟨us,h1,h2⟩:=h i y (by rw[List.getElem?_take_of_lt om]at hy;rw[List.getElem?_take_of_lt hi];exact hy)
  refine⟨us,E.keep h1 g,fun j u hu=>?_⟩
  have hj:j<E.size:=by rw[← E.len h1];exact(List.getElem?_eq_some_iff.1 hu).1
  have:(i+1)*E.size≤k*E.size:=Nat.mul_le_mul_right _ hi
  rw[Nat.succ_mul]at this
  rw[aH0 _ _ _ _ _ om];exact h2 j u hu
 ·have hik:i=k:=by
   have:=(List.getElem?_eq_some_iff.1 hy).1
   simp at this;omega
  subst hik
  rw[List.getElem?_take_of_lt om,hkx]at hy
  cases hy
  refine⟨vs,hR,fun j u hu=>?_⟩
  exact aS2 vs D _ 0 (by rw[E.len hR];omega) j u hu
theorem b7.set5_at{W:World}{C:Array Value}{T:TypeId}(x:b7 (W.alloc (.cells C T)))(i i' i2 i3 i4:Nat)(v v' v2 v3 v4:Value) :
  ∃ y:b7 (W.alloc (.cells (((((C.setIfInBounds i v).setIfInBounds i' v').setIfInBounds i2 v2).setIfInBounds i3 v3).setIfInBounds i4 v4) T)),(((((x.set ⟨W.heap.size,i,none⟩ v).set ⟨W.heap.size,i',none⟩ v').set ⟨W.heap.size,i2,none⟩ v2).set ⟨W.heap.size,i3,none⟩ v3).set ⟨W.heap.size,i4,none⟩ v4).w=y.w :=
 b7.cast (by rw[World.setCell_alloc_at C T _ i v rfl,World.setCell_alloc_at _ T _ i' v' rfl,World.setCell_alloc_at _ T _ i2 v2 rfl,World.setCell_alloc_at _ T _ i3 v3 rfl,World.setCell_alloc_at _ T _ i4 v4 rfl]) _
theorem ai0{α:Type}[E:Enc α]{es:List Cd}(hs:E.size=es.length)(hf:∀ vs,vs.length=es.length→RdL w es vs→∃ x:α,E.Rd 0 w vs x)(h:RdC w (.sl es) v) :
  ∃ a c l,v=.slice a l.length c∧RdS (α:=α) 0 w a c l:=by
 cases h with
 | nil=>exact⟨none,0,[],rfl,RdS.nil⟩
 | @sl _ a n c U h0 h1 h2 h3 h4 =>
  have:∀ i,i<n→∃ x:α,∃ vs,E.Rd 0 w vs x∧vs=(List.range es.length).map (U i):=fun i hi=>by
   obtain⟨x,hx⟩:=hf ((List.range es.length).map (U i)) si (fun j e hj=>by
    have hj':j<es.length:=(List.getElem?_eq_some_iff.1 hj).1
    exact⟨U i j,by simp[hj'],h4 i hi j e hj⟩)
   exact⟨x,_,hx,rfl⟩
  obtain⟨l,hl,hp⟩:=aU2 n this
  refine⟨some a,c,l,by rw[hl],by rw[hl];exact h1,h2,(by intro e;cases e),fun i x hx=>?_⟩
  obtain⟨vs,hR,rfl⟩:=hp i x hx
  have hi:i<n:=by rw[← hl];exact(List.getElem?_eq_some_iff.1 hx).1
  obtain⟨b,off,rfl,hb,-⟩:=h3 i hi 0 h0
  refine⟨b,off,_,rfl,Nat.zero_le _,hb,hR,fun j u hu=>?_⟩
  have hj:j<es.length:=by have:=(List.getElem?_eq_some_iff.1 hu).1;simpa using this
  simp[hj]at hu
  subst hu
  obtain⟨b',off',hbo,-,h6⟩:=h3 i hi j hj
  simp only[Addr.mk.injEq,and_true]at hbo
  obtain⟨rfl,rfl⟩:=hbo
  rw[hs,Nat.add_assoc];exact h6
theorem aP8(vs:List Value)(hl:vs.length=1)(h:RdL w [.int] vs):∃ x:Int,Enc.Rd 0 w vs x:=by
 obtain⟨u0,g0,r0⟩:=h.at (j:=0) rfl
 obtain⟨x0,rfl,p0⟩:=r0.int_inv
 refine⟨x0,Z1 hl ?_,p0⟩
 intro j y hy
 match j,hy with
 | 0,hy=>cases hy;exact g0
theorem bT0(vs:List Value)(hl:vs.length=1)(h:RdL w [.bool] vs):∃ x:Bool,Enc.Rd 0 w vs x:=by
 obtain⟨u0,g0,r0⟩:=h.at (j:=0) rfl
 obtain⟨x0,rfl⟩:=r0.bool_inv
 refine⟨x0,Z1 hl ?_⟩
 intro j y hy
 match j,hy with
 | 0,hy=>cases hy;exact g0
theorem aP9(vs:List Value)(hl:vs.length=1)(h:RdL w [.str] vs):∃ x:ByteArray,Enc.Rd 0 w vs x:=by
 obtain⟨u0,g0,r0⟩:=h.at (j:=0) rfl
 obtain⟨x0,rfl,p0⟩:=r0.str_inv
 refine⟨x0,Z1 hl ?_,by unfold maxLen at p0;omega⟩
 intro j y hy
 match j,hy with
 | 0,hy=>cases hy;exact g0
def szD(left:Int)(t:Int):Int:=if left - t<0 then -1 else left - t
theorem j8{t:Int}(h:l - t<0):szD l t=-1:=if_pos h
theorem B5{t:Int}(h:¬ l - t<0):szD l t=l - t:=if_neg h
theorem tm{α:Type}[Enc α]{l:List α}{b:Int}(h:d9 l≤b):∀ x∈l,Enc.tot x≤b:=fun _ hx=>Int.le_trans (af1 hx) h
def ak0:List Value→Nat→List Value→List Value
 | cs,_,[]=>cs
 | cs,o,v::r=>ak0 (cs.set o v) (o+1) r
theorem j5.setCells{b:Nat}{T:TypeId}:∀ (us:List Value) {w:World} {cs:List Value} (o:Nat),j5 w b cs T→j5 (w.setCells b o us) b (ak0 cs o us) T
 | [],_,_,_,h=>h
 | v::r,_,_,o,h=>(h.set o v).setCells r (o+1)
theorem d7.setCells{B b:Nat}(hb:b<B):∀ (us:List Value) {a w:World} (o:Nat),d7 B a w→d7 B a (w.setCells b o us)
 | [],_,_,_,h=>h
 | v::r,_,_,o,h=>d7.setCells hb r (o+1) (h.set' b o v hb)
theorem ad8(hb:B≤b):∀ (us:List Value) {a w:World} (o:Nat),Below B a w→Below B a (w.setCells b o us)
 | [],_,_,_,h=>h
 | v::r,_,_,o,h=>ad8 hb r (o+1) (h.setCell hb v)
theorem j5.range{w:World}{b:Nat}{cs row:List Value}{T:TypeId}(h:j5 w b cs T){o n:Nat}(hr:(cs.drop o).take n=row):w.rangeAt b o row:=fun j v hv=>by
 rw[h.cell,← hv,← hr]
 have hj:j<n:=by
  have:=(List.getElem?_eq_some_iff.1 hv).1
  rw[← hr]at this
  simp at this;omega
 rw[List.getElem?_take_of_lt hj,List.getElem?_drop]
theorem j5.there{w:World}{b:Nat}{cs:List Value}{T:TypeId}(h:j5 w b cs T){o n:Nat}(hn:o+n≤cs.length):w.there b o n:=fun j hj=>by
 rw[h.cell,h.free,List.getElem?_eq_getElem om]
 exact⟨rfl,rfl⟩
section
variable {P:Program} {ops:Array Oper} {rest:List Oper} {op:Oper} {a:Act} {w:World} {Q:Exit→Act→World→Prop}
theorem ac4{o ty:Nat}{us:List Value}(hv:v.cells.toList=us)(ht:w.there b o us.length)(hi:(P.info? ty).map (·.size)=some us.length)(h1:∀ u∈us,u.oneCell'=true) :
  (storeVar ty ⟨b,o,none⟩ v).run P w=.ok () (w.setCells b o us):=by
 have:=run_storeCells_cells (P:=P) b o us 0 w (fun j hj=>by simpa using(ht j hj).1) (fun j hj=>by simpa using(ht j hj).2) h1
 have hvs:v.cells.size=us.length:=by rw[← hv,Array.length_toList]
 cases hq:P.info? ty with
 | none=>simp[hq]at hi
 | some i =>
  have hs:us.length=i.size:=by simp[hq]at hi;omega
  simp only[Nat.add_zero]at this
  simp[storeVar,sizeOf,typeInfo,hq,hvs,hs,hv,this]
theorem aH1(hgd:op.guard=none)(ty:TypeId)(x y:Operand)(ho:op.op=.store ty x y)(b o:Nat)(hx:a.eval x=.pointer (some ⟨b,o,none⟩)){us cs2:List Value}(H:j5 w b cs T)
  (hv:(a.eval y).cells.toList=us) (hi:(P.info? ty).map (·.size)=some us.length) (h1:us.all (·.oneCell')=true) (hl:o+us.length≤cs.length) (hcs:ak0 cs o us=cs2)  (g:b8 w0 w) (hb:w0.heap.size≤b)
  (h:∀ z:b7 w0,j5 z.w b cs2 T→d7 (b+1) w z.w→wpList P ops Q rest (a.put op.dst undef) z.w):wpList P ops Q (op::rest) a w:=by
 subst hcs
 refine wpList_plain hgd fun _ hK=>?_
 unfold Oper.wp execOp
 simp only[ho,hx,Instr.storeAt,Instr.sureAddr,Sem.run_bind,Sem.run_pure,Result.andThen_ok,ac4 hv (H.there hl) hi (fun u hu=>List.all_eq_true.1 h1 u hu)]
 exact hK _ _ (h ⟨_,ad8 hb us o g.out⟩ (H.setCells us o) (d7.setCells om us o (d7.same _ _)))
theorem al8(hgd:op.guard=none)(ty:TypeId)(x:Operand)(ho:op.op=.load ty x)(b o:Nat)(hx:a.eval x=.pointer (some ⟨b,o,none⟩)){row:List Value}(H:j5 w b cs T)
  (d:TypeDesc) (hu:P.underlying ty=some d) (hd:d.isRow=true) (hi:(P.info? ty).map (·.size)=some row.length) (hr:(cs.drop o).take row.length=row)
  (h:wpList P ops Q rest (a.put op.dst (.agg row.toArray)) w):wpList P ops Q (op::rest) a w :=
 wpList_load_mid hgd ty x ho b o hx row d (H.range hr) hu hd hi h
theorem A7{fn:Func}{p t:Nat}(hf:fn.results=#[.cell p t]){tmps:Array Value}(hp:tmps.getD p undef=.pointer (some ⟨b,0,none⟩))(H:j5 w b cs T)
  (d:TypeDesc) (hu:P.underlying t=some d) (hd:d.isRow=true) (hi:(P.info? t).map (·.size)=some cs.length):(results fn tmps).run P w=.ok (.agg cs.toArray) w:=by
 have:=run_loadVar_mid w b 0 t cs d (H.range (o:=0) (n:=cs.length) si) hu hd hi
 have hp2:tmps[p]?.getD undef=.pointer (some ⟨b,0,none⟩):=by rw[← hp];simp[Array.getD_eq_getD_getElem?]
 simp[results,hf,hp2,asAddr,this]
end
def L4(s:ByteArray):List Value:=[.string s]
theorem az0(n:ByteArray):(L4 n).length=1:=rfl
theorem az1(n:ByteArray):∀ u∈L4 n,u.oneCell'=true:=by intro u hu;simp[L4]at hu;subst hu;rfl
theorem Sl.str{w:World}{a:Option Addr}{l:List ByteArray}(h:Sl L4 w a l){k:Nat}(hk:k<l.length) :
  ∃ b off s,a=some ⟨b,off,none⟩∧LtN b w.heap.size∧Hid (l.drop k=s::l.drop (k+1))∧(∀ (W:World) [b8 w W],W.cell? ⟨b,off+k,none⟩=some (.string s)):=by
 obtain⟨s,hs,hd⟩:=ag2 hk
 obtain⟨b,off,ha,hb,hc⟩:=h k s hs
 exact⟨b,off,s,ha,⟨hb⟩,hd,j4 hb (by simpa[L4]using hc 0 _ rfl)⟩
theorem ba6{l:List ByteArray}(hs:Sl L4 w a l)(hn:l.length=n)(hm:n≤100000000) :
  Calls Tryz.prog 135 #[.slice a n c] w (L3 L4 9 1 w l):=by
 cases a with
 | none =>
  have hl:l=[]:=by
   cases l with
   | nil=>rfl
   | cons y r=>obtain⟨b,off,h0,-⟩:=hs 0 y rfl;cases h0
  have hq:=fun(w:World)=>run_eql_slice_nil (P:=Tryz.prog) w 30 9 none n c Tryz.underlying30
  simp only[Option.isNone]at hq
  have HL:=lH hl;clear hl
  go_enter Tryz.func135,Tryz.ntmps135
  go_wp2_with (fail)
  go_ret
  exact L3.nilOf az0 HL.out
 | some ad =>
  have hq:=fun(w:World)=>run_eql_slice_nil (P:=Tryz.prog) w 30 9 (some ad) n c Tryz.underlying30
  simp only[Option.isNone]at hq
  go_enter Tryz.func135,Tryz.ntmps135
  go_wp2_with (first|(at_builtin;refine I0 (enc:=L4) (w0:=w) (z:=.string ByteArray.empty) (size:=1) (bytes:=16) (n:=0) (l:=[]) rfl (.tmp 5) (.tmp 6) rfl Tryz.underlying30 kr rfl de de rfl rfl (fun h=>by cases h) rfl hn (Own.emptyAt az0 nl rfl) (hs.to ii) az1 om ?_;intro sa1 sc1 x1 hown1 hgr1))
  go_ret
  rw[List.nil_append]at hown1
  exact⟨sa1,sc1,by rw[hn];first|rfl|simp,hown1,b7.of⟩
