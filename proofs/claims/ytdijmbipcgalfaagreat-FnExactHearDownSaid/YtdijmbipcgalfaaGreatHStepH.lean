/- Steps of drawn regions at boxes known whole: loads and stores of one cell or many. -/
import Derived.Test.YtdijmbipcgalfaaGreatHBox2
namespace Go.Proofs.YtdijmbipcgalfaaGreat
set_option linter.unusedVariables false
open Go.ChangeShapes Go.WideShapes Go.ChangeAt Go.RowKit
variable {cs:List Value}{T:TypeId}
theorem But.grown1{b:Nat}{w0 w:World}{z:b7 w0}(h:But b w z.w)(g:b8 w0 w):w.grownBy z.w (some b) :=
 ⟨z.h.os.trans g.out.os.symm,z.h.tape.trans g.out.tape.symm,z.h.output.trans g.out.output.symm,h.size,fun k hk hr=>h.block k (fun e=>hr (by rw[e])) hk⟩
theorem j5.at{w w':World}{b b2:Nat}{cs:List Value}{T:TypeId}(h:j5 w b cs T)(hg:w.grownBy w' (some b2))(hne:b≠b2):j5 w' b cs T:=L6 hg h (by simpa using hne)
section
variable {P:Program} {ops:Array Oper} {op:Oper} {a:Act} {w:World} {Q:Exit→Act→World→Prop} {K:Act→World→Prop} {E:Prop}
theorem bU8(hw:Region.wanted op (yielded ops a.tmps)=true)(ty:TypeId)(x:Operand)(ho:op.op=.load ty x)(b o:Nat)(hx:a.eval x=.pointer (some ⟨b,o,none⟩)){row:List Value}(H:j5 w b cs T)
  (d:TypeDesc) (hu:P.underlying ty=some d) (hd:d.isRow=true) (hi:(P.info? ty).map (·.size)=some row.length) (hr:(cs.drop o).take row.length=row)
  (h:K (a.put op.dst (.agg row.toArray)) w):if Region.wanted op (yielded ops a.tmps)=true then Oper.wp P op a w K Q else E:=by
 rw[if_pos hw]
 exact wp_load_mid ty x ho b o hx row d (H.range hr) hu hd hi h
theorem bU7(hw:Region.wanted op (yielded ops a.tmps)=true)(ty:TypeId)(x:Operand)(ho:op.op=.load ty x)(b o:Nat)(hx:a.eval x=.pointer (some ⟨b,o,none⟩))(H:j5 w b cs T)(v:Value)(hv:cs[o]?=some v)
  (d:TypeDesc) (hu:P.underlying ty=some d) (hd:d.isRow=false)
  (h:K (a.put op.dst v) w):if Region.wanted op (yielded ops a.tmps)=true then Oper.wp P op a w K Q else E:=by
 rw[if_pos hw]
 have hagg:(isAgg ty).run P w=.ok false w:=by
  unfold isAgg
  rw[Sem.run_bind,run_underlying hu w]
  cases d<;>simp_all [TypeDesc.isRow]
 have hl:(loadVar ty ⟨b,o,none⟩).run P w=.ok v w:=by
  have hc:=H.cell o
  rw[hv]at hc
  simp[loadVar,Sem.run_bind,hagg,go_sem,hc]
 unfold Oper.wp execOp
 simp only[ho,hx,Instr.loadAt,Instr.sureAddr,Sem.run_bind,Sem.run_pure,Result.andThen_ok,hl]
 exact h
theorem bQ6(hw:Region.wanted op (yielded ops a.tmps)=true)(ty:TypeId)(x y:Operand)(ho:op.op=.store ty x y)(b o:Nat)(hx:a.eval x=.pointer (some ⟨b,o,none⟩)){us cs2:List Value}(H:j5 w b cs T)
  (hv:(a.eval y).cells.toList=us) (hi:(P.info? ty).map (·.size)=some us.length) (h1:us.all (·.oneCell')=true) (hl:o+us.length≤cs.length) (hcs:ak0 cs o us=cs2) {w0:World} (g:b8 w0 w) (hb:w0.heap.size≤b)
  (h:∀ z:b7 w0,j5 z.w b cs2 T→w.grownBy z.w (some b)→K (a.put op.dst undef) z.w):if Region.wanted op (yielded ops a.tmps)=true then Oper.wp P op a w K Q else E:=by
 subst hcs
 rw[if_pos hw]
 unfold Oper.wp execOp
 simp only[ho,hx,Instr.storeAt,Instr.sureAddr,Sem.run_bind,Sem.run_pure,Result.andThen_ok,ac4 hv (H.there hl) hi (fun u hu=>List.all_eq_true.1 h1 u hu)]
 have bt:But b w (w.setCells b o us):=But.setCells us o ⟨Nat.le_refl _,fun _ _ _=>rfl⟩
 exact h ⟨_,ad8 hb us o g.out⟩ (H.setCells us o) (But.grown1 (z:=⟨_,ad8 hb us o g.out⟩) bt g)
end
theorem A0{P:Program}{w:World}{fn:Func}{p t q:Nat}(hf:fn.results=#[.cell p t,.tmp q]){tmps:Array Value}{b:Nat}(hp:tmps.getD p undef=.pointer (some ⟨b,0,none⟩))(H:j5 w b cs T)
  (d:TypeDesc) (hu:P.underlying t=some d) (hd:d.isRow=true) (hi:(P.info? t).map (·.size)=some cs.length) {u:Value} (hq:tmps.getD q undef=u):(results fn tmps).run P w=.ok (.tuple #[.agg cs.toArray,u]) w:=by
 have:=run_loadVar_mid w b 0 t cs d (H.range (o:=0) (n:=cs.length) si) hu hd hi
 have hp2:tmps[p]?.getD undef=.pointer (some ⟨b,0,none⟩):=by rw[← hp];simp[Array.getD_eq_getD_getElem?]
 have hq2:tmps[q]?.getD undef=u:=by rw[← hq];simp[Array.getD_eq_getD_getElem?]
 simp[results,hf,hp2,hq2,asAddr,this]
