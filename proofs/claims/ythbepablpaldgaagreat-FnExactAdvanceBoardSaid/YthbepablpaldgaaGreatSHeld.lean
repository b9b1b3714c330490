/- Blocks known whole, and what is kept while they are written. -/
import Derived.Test.YthbepablpaldgaaGreatSM0
namespace Go.Proofs.YthbepablpaldgaaGreat
set_option linter.unusedVariables false
open Go.ChangeShapes Go.WideShapes Go.ChangeAt Go.RowKit
def Held(w:World)(b:Nat)(cs:List Value)(T:TypeId):Prop:=w.heap[b]?=some (.cells cs.toArray T (0,0))
theorem Held.new(W:World)(cs:List Value)(T g:Nat)(hg:W.heap.size=g):Held (W.alloc (.cells cs.toArray T)) g cs T:=blk_alloc W _ g hg
theorem Held.to{w W:World}{b:Nat}{cs:List Value}{T:TypeId}(h:Held w b cs T)(g:Grows w W):Held W b cs T:=blk_grows (gr:=g) h
theorem Held.lt{w:World}{b:Nat}{cs:List Value}{T:TypeId}(h:Held w b cs T):b<w.heap.size:=(Array.getElem?_eq_some_iff.1 h).1
theorem Held.cell{w:World}{b:Nat}{cs:List Value}{T:TypeId}(h:Held w b cs T)(i:Nat):w.cell? ⟨b,i,none⟩=cs[i]?:=by simp[World.cell?,show w.heap[b]?=_ from h]
theorem Held.free{w:World}{b:Nat}{cs:List Value}{T:TypeId}(h:Held w b cs T)(i:Nat):w.frozen? ⟨b,i,none⟩=false:=by simp[World.frozen?,show w.heap[b]?=_ from h]
theorem Held.set{w:World}{b:Nat}{cs:List Value}{T:TypeId}(h:Held w b cs T)(i:Nat)(v:Value):Held (w.setCell ⟨b,i,none⟩ v) b (cs.set i v) T:=by
 have h':w.heap[b]?=some (.cells cs.toArray T (0,0)):=h
 unfold Held World.setCell
 simp[Array.getElem?_modify,h']
theorem Own.notHeld{α:Type}{enc:α→List Value}{T T' size B n:Nat}{w:World}{a:Option Addr}{c b:Nat}{l:List α}{cs:List Value}(h:Own enc T size B w a c l)(hb:Held w b cs T')(hT:T≠T'):some b≠Value.ownBlock (.slice a n c):=by
 obtain⟨-,-,⟨h1,-⟩|⟨g,cap,cur,hv,-,hh,-⟩⟩:=h
 ·simp only[Value.slice.injEq]at h1;obtain⟨rfl,-⟩:=h1;simp[Value.ownBlock]
 ·simp only[Value.slice.injEq]at hv;obtain⟨rfl,-⟩:=hv
  simp only[Value.ownBlock,ne_eq,Option.some.injEq]
  rintro rfl
  have hb':w.heap[b]?=some (.cells cs.toArray T' (0,0)):=hb
  rw[hb']at hh
  simp only[Option.some.injEq,Obj.cells.injEq]at hh
  exact hT hh.2.1.symm
theorem Held.kept{α:Type}{enc:α→List Value}{T T' size B n:Nat}{w w':World}{a:Option Addr}{c b:Nat}{l:List α}{cs:List Value}(hb:Held w b cs T')(h:Own enc T size B w a c l)(hT:T≠T')(hg:w.grownBy w' (Value.ownBlock (.slice a n c))):Held w' b cs T' :=
 blk_grown hg hb (h.notHeld hb hT)
theorem Own.set{α:Type}{enc:α→List Value}{T T' size B:Nat}{w:World}{a:Option Addr}{c b:Nat}{l:List α}{cs:List Value}(h:Own enc T size B w a c l)(hb:Held w b cs T')(hT:T≠T')(i:Nat)(v:Value):Own enc T size B (w.setCell ⟨b,i,none⟩ v) a c l:=by
 refine⟨h.1,h.2.kept (row:=some b) ⟨rfl,rfl,rfl,by simp,fun k hk hr=>?_⟩ (.inr (fun e=>h.notHeld (n:=l.length) hb hT e.symm))⟩
 rw[Below.heap_setCell _ _ _ _ (fun e=>hr (by simp only at e;rw[e]))]
theorem Held.cellG{w:World}{b:Nat}{cs:List Value}{T:TypeId}(h:Held w b cs T)(i:Nat)(v:Value)(hv:cs[i]?=some v):∀ (W:World) [Grows w W],W.cell? ⟨b,i,none⟩=some v:=fun W g=>by rw[(h.to g).cell i];exact hv
theorem okWide_struct{P:Program}{w:World}{r:Reach}{base:Nat}{t:TypeId}{v:Value}{fs:Array Field}(ht:P.underlying t=some (.struct fs))(h:Value.okWide P w r base t v):∃ cs,v=.agg cs∧cs.size=P.cellsOf t:=by
 simp only[Value.okWide,ht]at h
 obtain⟨cs,h1,h2,-⟩:=h
 exact⟨cs,h1,h2⟩
/-! ### Slices of numbers -/
theorem c_cloneInt{a:Option Addr}{n c:Nat}{l:List Int}{w:World}(hs:Sl encInt w a l)(hn:l.length=n)(hm:n≤100000000) :
  Calls Tryz.prog 208 #[.slice a n c] w (GivesSl encInt 3 1 w l):=by
 cases a with
 | none =>
  have hl:l=[]:=by
   cases l with
   | nil=>rfl
   | cons y r=>obtain⟨b,off,h0,-⟩:=hs 0 y rfl;cases h0
  have hq:=fun(w:World)=>run_eql_slice_nil (P:=Tryz.prog) w 46 3 none n c Tryz.underlying46
  simp only[Option.isNone]at hq
  have HL:=lH hl;clear hl
  go_enter Tryz.func208,Tryz.ntmps208
  go_wp2_with (fail)
  go_ret
  exact GivesSl.nilOf encInt_len HL.out
 | some ad =>
  have hq:=fun(w:World)=>run_eql_slice_nil (P:=Tryz.prog) w 46 3 (some ad) n c Tryz.underlying46
  simp only[Option.isNone]at hq
  go_enter Tryz.func208,Tryz.ntmps208
  go_wp2_with (first|(at_builtin;refine wpList_appS (enc:=encInt) (w0:=w) (z:=.int .i64 0) (size:=1) (bytes:=8) (n:=0) (l:=[]) rfl (.tmp 5) (.tmp 6) rfl Tryz.underlying46 kr rfl (by decide) (by decide) rfl rfl (fun h=>by cases h) rfl hn (Own.emptyAt encInt_len nl rfl) (hs.to ii) encInt_one (by omega) ?_;intro sa1 sc1 x1 hown1 hgr1))
  go_ret
  rw[List.nil_append]at hown1
  exact⟨sa1,sc1,by rw[hn];first|rfl|simp,hown1,Later.of⟩
