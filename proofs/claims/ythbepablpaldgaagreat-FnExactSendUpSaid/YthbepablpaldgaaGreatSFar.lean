/- A store into one block and the cells of another, by instances. -/
import Derived.Test.YthbepablpaldgaaGreatSM0
import Derived.Deep.RegionHeld3
namespace Go.Proofs.YthbepablpaldgaaGreat
set_option linter.unusedVariables false
open Go.ChangeShapes Go.WideShapes Go.ChangeAt Go.RowKit
class NeN(a b:Nat):Prop where
 out:a≠b
instance(priority:=60) NeN.ofLt (a b:Nat)[h:LtN a b]:NeN a b:=⟨Nat.ne_of_lt h.out⟩
instance(priority:=55) NeN.ofGt (a b:Nat)[h:LtN b a]:NeN a b:=⟨Nat.ne_of_gt h.out⟩
theorem cell_farH(W:World)(b i b' j:Nat)(v:Value)(h:b≠b'):(W.setCell ⟨b,i,none⟩ v).cell? ⟨b',j,none⟩=W.cell? ⟨b',j,none⟩:=World.cell?_setCell_far W ⟨b,i,none⟩ ⟨b',j,none⟩ v h
@[go_sem] theorem cell_farN(W:World)(b i b' j:Nat)(v:Value)[h:NeN b b']:(W.setCell ⟨b,i,none⟩ v).cell? ⟨b',j,none⟩=W.cell? ⟨b',j,none⟩:=cell_farH W b i b' j v h.out
namespace Later
variable {W:World}
@[go_sem] theorem set_cell_far(x:Later W)(b i b' j:Nat)(v:Value)[h:NeN b b']:(x.set ⟨b,i,none⟩ v).w.cell? ⟨b',j,none⟩=x.w.cell? ⟨b',j,none⟩:=cell_farH x.w b i b' j v h.out
@[go_sem] theorem set_frozen(x:Later W)(b i:Nat)(v:Value)(p:Addr):(x.set ⟨b,i,none⟩ v).w.frozen? p=x.w.frozen? p:=by simp[Later.set]
end Later
instance Grows.setL(a:World){W:World}(x:Later W)(b i:Nat)(v:Value)[h:Grows a x.w][k:LeN a.heap.size b]:Grows a (x.set ⟨b,i,none⟩ v).w:=⟨h.out.setCell k.out v⟩
class SzN(g:Nat)(W:World):Prop where
 out:W.heap.size=g
instance SzN.same(W:World):SzN W.heap.size W:=⟨rfl⟩
instance SzN.set(g:Nat){W:World}(x:Later W)(p:Addr)(v:Value)[h:SzN g x.w]:SzN g (x.set p v).w:=⟨by have:=h.out;simpa[Later.set]using this⟩
instance SzN.setCell(g:Nat)(W:World)(p:Addr)(v:Value)[h:SzN g W]:SzN g (W.setCell p v):=⟨by have:=h.out;simpa using this⟩
instance SzN.drew(g:Nat)(W:World)[h:SzN g W]:SzN g W.drew:=⟨h.out⟩
@[go_sem] theorem cell_newN(W:World)(C:Array Value)(T:TypeId)(g i:Nat)[h:SzN g W]:(W.alloc (.cells C T)).cell? ⟨g,i,none⟩=C[i]?:=by
 have:=blk_alloc W (.cells C T) g h.out
 simp[World.cell?,this]
@[go_sem] theorem frozen_newN(W:World)(C:Array Value)(T:TypeId)(g i:Nat)[h:SzN g W]:(W.alloc (.cells C T)).frozen? ⟨g,i,none⟩=false:=by
 have:=blk_alloc W (.cells C T) g h.out
 simp[World.frozen?,this]
