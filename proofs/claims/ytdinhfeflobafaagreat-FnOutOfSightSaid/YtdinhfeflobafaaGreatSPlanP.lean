/- The contracts of PlanPasses, and of the reference's own best. No condition but on lengths. -/
import Derived.Test.YtdinhfeflobafaaGreatSM5
import Derived.Test.YtdinhfeflobafaaGreatSPlanF
import Derived.Test.YtdinhfeflobafaaGreatSM0
namespace Go.Proofs.YtdinhfeflobafaaGreat
set_option linter.unusedVariables false
open Go.ChangeShapes Go.WideShapes Go.ChangeAt Go.RowKit
theorem encSlot_one(x:Slot):∀ u∈encSlot x,u.oneCell'=true:=by
 intro u hu
 simp only[encSlot,List.mem_cons,List.not_mem_nil,or_false]at hu
 rcases hu with rfl|rfl<;>rfl
/-! ### Two slices of the call's own, of different types, lie apart -/
theorem Own.apart{α β:Type}{enc:α→List Value}{enc':β→List Value}{T T' size size' B B' n n':Nat}{w:World}{a a':Option Addr}{c c':Nat}{l:List α}{l':List β}(h:Own enc T size B w a c l)(h':Own enc' T' size' B' w a' c' l')(hT:T≠T') :
  Value.ownBlock (.slice a n c)=none∨Value.ownBlock (.slice a n c)≠Value.ownBlock (.slice a' n' c'):=by
 obtain⟨-,-,⟨h1,-⟩|⟨g,cap,cur,hv,-,hh,-⟩⟩:=h
 ·simp only[Value.slice.injEq]at h1;obtain⟨rfl,-⟩:=h1;exact .inl rfl
 ·simp only[Value.slice.injEq]at hv;obtain⟨rfl,-⟩:=hv
  obtain⟨-,-,⟨h1,-⟩|⟨g',cap',cur',hv',-,hh',-⟩⟩:=h'
  ·simp only[Value.slice.injEq]at h1;obtain⟨rfl,-⟩:=h1;right;simp[Value.ownBlock]
  ·simp only[Value.slice.injEq]at hv';obtain⟨rfl,-⟩:=hv'
   right
   simp only[Value.ownBlock,ne_eq,Option.some.injEq]
   rintro rfl
   rw[hh]at hh'
   simp only[Option.some.injEq,Obj.cells.injEq]at hh'
   exact hT hh'.2.1
theorem Own.keepT{α β:Type}{enc:α→List Value}{enc':β→List Value}{T T' size size' B B' n':Nat}{w w':World}{a a':Option Addr}{c c':Nat}{l:List α}{l':List β}(h:Own enc T size B w a c l)(h':Own enc' T' size' B' w a' c' l')(hT:T≠T')
  (hg:w.grownBy w' (Value.ownBlock (.slice a' n' c'))):Own enc T size B w' a c l :=
 ⟨h.1,h.2.kept hg (h.apart h' hT)⟩
def toCome(p s l:Int)(list:List Request)(t:Int)(gs:List Int):List Slot:=if t<0 then[]else planFrom p s l list (1000001 - t).toNat t gs
theorem toCome_next{p s l u:Int}{list:List Request}{gs:List Int}(hm:∀ r∈list,r.Ready≤1000000∧r.Deadline≤1000000)(hu:0≤u)(hu':u≤1000001) :
  planFrom p s l list (1000001 - u).toNat u gs=toCome p s l list (nextW u (-1) list gs) gs∧(nextW u (-1) list gs=-1∨u≤nextW u (-1) list gs)∧nextW u (-1) list gs≤1000000:=by
 rcases nextW_spec hu (rs:=list) (gs:=gs) (n:=-1) (.inl rfl)with⟨h1,-,h3⟩|⟨h1,-,h3,h4⟩
 ·rw[h1]
  exact⟨by rw[toCome,if_pos (by omega)];exact planFrom_none _ (fun v hv _=>.inr (h3 v hv)),.inl rfl,by omega⟩
 ·have hle:nextW u (-1) list gs≤1000000:=by
   obtain⟨r,hr,hr2⟩:=h4 (by omega)
   have:=hm r hr;omega
  refine⟨?_,.inr h1,hle⟩
  rw[toCome,if_neg (by omega)]
  have:=planFrom_skip (p:=p) (s:=s) (l:=l) (list:=list) (gs:=gs) (nextW u (-1) list gs - u).toNat (1000001 - nextW u (-1) list gs).toNat (t:=u) (fun v hv hv'=>.inr (h3 v hv (by omega)))
  rw[show(1000001 - nextW u (-1) list gs).toNat+(nextW u (-1) list gs - u).toNat=(1000001 - u).toNat by omega,show u+((nextW u (-1) list gs - u).toNat:Int)=nextW u (-1) list gs by omega]at this
  exact this
theorem planFrom_miss{p s l v:Int}{list:List Request}{gs:List Int}(h:visible p s l v=false∨best v none 0 list gs=none)(hv:v≤1000000) :
  planFrom p s l list (1000001 - v).toNat v gs=planFrom p s l list (1000001 - (v+1)).toNat (v+1) gs:=by
 rw[show(1000001 - v).toNat=(1000001 - (v+1)).toNat+1 by omega,planFrom]
 rcases h with h|h
 ·rw[if_neg (by rw[h];simp)]
 ·rw[h];split<;>rfl
theorem planFrom_got{p s l v:Int}{list:List Request}{gs:List Int}{k:Nat}{r:Request}{g:Int}(hv:visible p s l v=true)(hp:best v none 0 list gs=some (k,r))(hg:gs[k]?=some g)(hv':v≤1000000) :
  planFrom p s l list (1000001 - v).toNat v gs=⟨v,r.Id⟩::planFrom p s l list (1000001 - (v+1)).toNat (v+1) (gs.set k (g - 1)):=by
 rw[show(1000001 - v).toNat=(1000001 - (v+1)).toNat+1 by omega,planFrom_hit hv hp,lowered,hg];rfl
end Go.Proofs.YtdinhfeflobafaaGreat
