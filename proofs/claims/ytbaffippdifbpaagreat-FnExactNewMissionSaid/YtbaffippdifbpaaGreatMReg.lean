/- Steps of regions that draw their order: a call by its contract, an append to a slice of the call's own. No condition. -/
import Derived.Test.YtbaffippdifbpaaGreatMM0
import Derived.Deep.RegionLaw
import Derived.Lib.LazyBuf
namespace Go.Proofs.YtbaffippdifbpaaGreat
set_option linter.unusedVariables false
open Go.ChangeShapes Go.WideShapes Go.ChangeAt Go.RowKit
instance(priority:=800) Grows.andThen2 (a:World){W:World}(x:Later W)(y:Later x.w)[h:Grows a y.w]:Grows a (x.andThen y).w:=⟨h.out⟩
instance(priority:=850) Grows.drawn (a:World){W:World}(x:Later W)[h:Grows a x.w]:Grows a x.draw.w:=⟨h.out.drew⟩
instance LtN.drew(a:Nat)(W:World)[h:LtN a W.heap.size]:LtN a W.drew.heap.size:=⟨h.out⟩
instance LeN.drew(a:Nat)(W:World)[h:LeN a W.heap.size]:LeN a W.drew.heap.size:=⟨h.out⟩
section
variable {P:Program} {ops:Array Oper} {o:Oper} {a:Act} {w:World} {K:Act→World→Prop} {Q:Exit→Act→World→Prop} {E:Prop}
theorem run_call{f:FuncId}{fn:Func}{xs:Array Operand}{ts:Array TypeId}(hop:o.op=.call { callee:=.value (.func f),args:=xs,argTypes:=ts })(hf:P.funcs[f]?=some fn)(hname:(fn.name == "runtime.NumGoroutine")=false)(hb:fn.body.isNone=false) :
  (execOp a.eval o).run P w=.ok (.enter f (xs.map a.eval)) w:=by
 have h1:fn.name≠ "runtime.NumGoroutine":=by simpa using hname
 have h2:fn.body≠none:=by intro h;rw[h]at hb;simp at hb
 unfold execOp
 simp only[hop]
 simp[go_sem,resolve,invoke,callFunc,hf,h1,h2]
variable {α:Type} {enc:α→List Value} {T size:Nat}
end
theorem blk_alloc(w:World)(o:Obj)(g:Nat)(h:w.heap.size=g):(w.alloc o).heap[g]?=some o:=by
 subst h
 show(w.heap.push _)[w.heap.size]?=_
 simp
theorem blk_grows{w W:World}[gr:Grows w W]{o':Obj}{g:Nat}(h:w.heap[g]?=some o'):W.heap[g]?=some o':=by
 rw[gr.out.block _ (Array.getElem?_eq_some_iff.1 h).1];exact h
theorem Own.emptyAt{α:Type}{enc:α→List Value}{T size g:Nat}{W:World}(hsz:∀ x:α,(enc x).length=size){B:Nat}(hB:B≤W.heap.size)(hg:W.heap.size=g):Own enc T size B (W.alloc (.cells #[] T)) (some ⟨g,0,none⟩) 0 []:=hg▸Own.empty (T:=T) (size:=size) (B:=B) hsz (Later.here (W.alloc (.cells #[] T))) hB
theorem blk_grown{w w':World}{row:Option Nat}{o':Obj}{g:Nat}(hg:w.grownBy w' row)(h:w.heap[g]?=some o')(hne:some g≠row):w'.heap[g]?=some o':=by
 rw[hg.block _ (Array.getElem?_eq_some_iff.1 h).1 hne];exact h
theorem Own.emptyBlk{α:Type}{enc:α→List Value}{T size g:Nat}{W:World}(hsz:∀ x:α,(enc x).length=size){B:Nat}(hB:B≤g)(hg:W.heap[g]?=some (.cells #[] T (0,0))):Own enc T size B W (some ⟨g,0,none⟩) 0 [] :=
 ⟨hsz,by simp,.inr ⟨g,0,#[],rfl,hB,hg,Nat.le_refl _,by unfold maxLen;omega,by simp,by simp⟩⟩
theorem GivesSl.nilOf{α:Type}{enc:α→List Value}{T size:Nat}{w w':World}{l:List α}(hsz:∀ x:α,(enc x).length=size)(hl:l=[])[h:Grows w w']:GivesSl enc T size w l (.returned (.slice none 0 0)) w' :=
 ⟨none,0,by rw[hl];rfl,by rw[hl];exact Own.nil hsz,⟨w',h.out⟩,rfl⟩
end Go.Proofs.YtbaffippdifbpaaGreat
