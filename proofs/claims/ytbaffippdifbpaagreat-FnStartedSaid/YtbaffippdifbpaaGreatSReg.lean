/- Steps of regions that draw their order: a call by its contract, an append to a slice of the call's own. No condition. -/
import Derived.Test.YtbaffippdifbpaaGreatSOwn
import Derived.Deep.RegionLaw
import Derived.Lib.LazyBuf
namespace Go.Proofs.YtbaffippdifbpaaGreat
set_option linter.unusedVariables false
open Go.ChangeShapes Go.WideShapes Go.ChangeAt Go.RowKit
instance(priority:=800) Grows.andThen2 (a:World){W:World}(x:Later W)(y:Later x.w)[h:Grows a y.w]:Grows a (x.andThen y).w:=⟨h.out⟩
instance(priority:=850) Grows.drawn (a:World){W:World}(x:Later W)[h:Grows a x.w]:Grows a x.draw.w:=⟨h.out.drew⟩
instance LtN.drew(a:Nat)(W:World)[h:LtN a W.heap.size]:LtN a W.drew.heap.size:=⟨h.out⟩
instance LeN.drew(a:Nat)(W:World)[h:LeN a W.heap.size]:LeN a W.drew.heap.size:=⟨h.out⟩
section
variable {P:Program} {ops:Array Oper} {o:Oper} {a:Act} {w:World} {K:Act→World→Prop} {Q:Exit→Act→World→Prop} {E:Prop}
theorem run_call{f:FuncId}{fn:Func}{xs:Array Operand}{ts:Array TypeId}(hop:o.op=.call { callee:=.value (.func f),args:=xs,argTypes:=ts })(hf:P.funcs[f]?=some fn)(hname:(fn.name == "runtime.NumGoroutine")=false)(hb:fn.body.isNone=false) :
  (execOp a.eval o).run P w=.ok (.enter f (xs.map a.eval)) w:=by
 have h1:fn.name≠ "runtime.NumGoroutine":=by simpa using hname
 have h2:fn.body≠none:=by intro h;rw[h]at hb;simp at hb
 unfold execOp
 simp only[hop]
 simp[go_sem,resolve,invoke,callFunc,hf,h1,h2]
variable {α:Type} {enc:α→List Value} {T size:Nat}
theorem wp_app1{w0:World}{T1:TypeId}{cs:Array Value}{t:TypeId}{bytes:Nat}{z:Value}(y:α)
  (s x:Operand) (ho:o.op=.call { callee:=.builtin .append,args:=#[s,x],argTypes:=#[t,t] })
  (ht:P.underlying t=some (.slice T)) (hinfo:(P.info? T).map (fun i=>(i.zero,i.size,i.bytes))=some (some z,size,bytes)) (hzs:z.cells.size=size) (hsz:0<size) (hby:bytes≤1000)
  {l:List α} {n:Nat} {sa:Option Addr} {sc:Nat} (hs:a.eval s=.slice sa n sc) {xb:Nat} (hx:a.eval x=.slice (some ⟨xb,0,none⟩) 1 1) (hn:l.length=n) {B:Nat} (hown:Own enc T size B w sa sc l)
  (hxc:w.heap[xb]?=some (.cells cs T1 (0,0))) (hy:cs.toList=enc y) (h1:∀ u∈enc y,u.oneCell'=true) (hb:n≤1000000000) (hB:B≤w.heap.size) (g:Grows w0 w) (hB0:w0.heap.size≤B)
  (h:∀ (sa':Option Addr) (sc':Nat) (x':Later w0),Own enc T size B x'.w sa' sc' (l++[y])→w.grownBy x'.w (Value.ownBlock (.slice sa n sc))→K (a.put o.dst (.slice sa' (n+1) sc')) x'.w) :
  Oper.wp P o a w K Q:=by
 obtain⟨i,hi,h3⟩:=Option.map_eq_some_iff.1 hinfo
 simp only[Prod.mk.injEq]at h3
 obtain⟨h4,h5,h6⟩:=h3
 subst hn
 have hb':(l.length+1)*bytes≤140737488355328:=by
  have:(l.length+1)*bytes≤(l.length+1)*1000:=Nat.mul_le_mul_left _ hby
  omega
 have hnl:(enc y).length=1*size:=by rw[hown.1];omega
 refine wp_append_own (a:=a) (w:=w) s x t ho B T i z size bytes ht hi h4 h5 h6 hzs hsz _ l.length (l.flatMap enc) hs hown.2 ⟨xb,0,none⟩ 1 1 (enc y) hx hnl
  (fun j u hj=>?_) h1 (by unfold maxLen;omega) hb' hB ?_
 ·have e:(⟨xb,0,none⟩:Addr).add j=⟨xb,j,none⟩:=by
   unfold Addr.add;split
   ·rename_i h;rw[h]
   ·simp
  rw[e]
  rw[← hy,Array.getElem?_toList]at hj
  simp[World.cell?,hxc,hj]
 ·intro v' w' ho' hg' _
  have hlt:=hown.2.lt
  have hbel:Below w0.heap.size w0 w':=g.out.grown hg' g.out.size (fun k hk=>Nat.le_trans hB0 (hlt k hk).1)
  have hf:xs_form v' (l.length+1):=by
   rcases ho'.2 with⟨hv,hn0⟩|⟨g',cap,cur,hv,-⟩
   ·omega
   ·exact⟨_,_,hv⟩
  obtain⟨sa',sc',rfl⟩:=hf
  refine h sa' sc' ⟨w',hbel⟩ ⟨hown.1,?_⟩ hg'
  rw[List.flatMap_append,List.flatMap_singleton,List.length_append,List.length_singleton];exact ho'
theorem wpList_app1X{ops':Array Oper}{rest:List Oper}{w0:World}{T1:TypeId}{cs:Array Value}{t:TypeId}{bytes:Nat}{z:Value}(y:α)(hgd:o.guard=none)
  (s x:Operand) (ho:o.op=.call { callee:=.builtin .append,args:=#[s,x],argTypes:=#[t,t] })
  (ht:P.underlying t=some (.slice T)) (hinfo:(P.info? T).map (fun i=>(i.zero,i.size,i.bytes))=some (some z,size,bytes)) (hzs:z.cells.size=size) (hsz:0<size) (hby:bytes≤1000)
  {l:List α} {n:Nat} {sa:Option Addr} {sc:Nat} (hs:a.eval s=.slice sa n sc) {xb:Nat} (hx:a.eval x=.slice (some ⟨xb,0,none⟩) 1 1) (hn:l.length=n) {B:Nat} (hown:Own enc T size B w sa sc l)
  (hxc:w.heap[xb]?=some (.cells cs T1 (0,0))) (hy:cs.toList=enc y) (h1:∀ u∈enc y,u.oneCell'=true) (hb:n≤1000000000) (hB:B≤w.heap.size) (g:Grows w0 w) (hB0:w0.heap.size≤B)
  (h:∀ (sa':Option Addr) (sc':Nat) (x':Later w0),Own enc T size B x'.w sa' sc' (l++[y])→w.grownBy x'.w (Value.ownBlock (.slice sa n sc))→wpList P ops' Q rest (a.put o.dst (.slice sa' (n+1) sc')) x'.w) :
  wpList P ops' Q (o::rest) a w :=
 wpList_plain hgd fun _ hK=>wp_app1 (w0:=w0) y s x ho ht hinfo hzs hsz hby hs hx hn hown hxc hy h1 hb hB g hB0 fun sa' sc' x' h2 h3=>hK _ _ (h sa' sc' x' h2 h3)
end
theorem blk_alloc(w:World)(o:Obj)(g:Nat)(h:w.heap.size=g):(w.alloc o).heap[g]?=some o:=by
 subst h
 show(w.heap.push _)[w.heap.size]?=_
 simp
theorem blk_grows{w W:World}[gr:Grows w W]{o':Obj}{g:Nat}(h:w.heap[g]?=some o'):W.heap[g]?=some o':=by
 rw[gr.out.block _ (Array.getElem?_eq_some_iff.1 h).1];exact h
theorem Own.emptyAt{α:Type}{enc:α→List Value}{T size g:Nat}{W:World}(hsz:∀ x:α,(enc x).length=size){B:Nat}(hB:B≤W.heap.size)(hg:W.heap.size=g):Own enc T size B (W.alloc (.cells #[] T)) (some ⟨g,0,none⟩) 0 []:=hg▸Own.empty (T:=T) (size:=size) (B:=B) hsz (Later.here (W.alloc (.cells #[] T))) hB
theorem blk_grown{w w':World}{row:Option Nat}{o':Obj}{g:Nat}(hg:w.grownBy w' row)(h:w.heap[g]?=some o')(hne:some g≠row):w'.heap[g]?=some o':=by
 rw[hg.block _ (Array.getElem?_eq_some_iff.1 h).1 hne];exact h
theorem Own.emptyBlk{α:Type}{enc:α→List Value}{T size g:Nat}{W:World}(hsz:∀ x:α,(enc x).length=size){B:Nat}(hB:B≤g)(hg:W.heap[g]?=some (.cells #[] T (0,0))):Own enc T size B W (some ⟨g,0,none⟩) 0 [] :=
 ⟨hsz,by simp,.inr ⟨g,0,#[],rfl,hB,hg,Nat.le_refl _,by unfold maxLen;omega,by simp,by simp⟩⟩
theorem GivesSl.nilOf{α:Type}{enc:α→List Value}{T size:Nat}{w w':World}{l:List α}(hsz:∀ x:α,(enc x).length=size)(hl:l=[])[h:Grows w w']:GivesSl enc T size w l (.returned (.slice none 0 0)) w' :=
 ⟨none,0,by rw[hl];rfl,by rw[hl];exact Own.nil hsz,⟨w',h.out⟩,rfl⟩
end Go.Proofs.YtbaffippdifbpaaGreat
