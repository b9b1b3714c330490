/- What a plan keeps to: it is a plan, counts as it should, and misses nothing exactly if it could be done. No program in sight. -/
import Derived.Test.YtdinhfeflobafaaGreatSM5
namespace Go.Proofs.YtdinhfeflobafaaGreat
set_option linter.unusedVariables false
open Go.ChangeShapes Go.WideShapes Go.ChangeAt Go.RowKit
/-! ### One step -/
def stepLeft(p s l:Int)(list:List Request)(t:Int)(gs:List Int):List Int :=
 if visible p s l t=true then(match best t none 0 list gs with|some (k,_)=>lowered gs k|none=>gs)else gs
def stepSlot(p s l:Int)(list:List Request)(t:Int)(gs:List Int):List Slot :=
 if visible p s l t=true then(match best t none 0 list gs with|some (_,r)=>[⟨t,r.Id⟩]|none=>[])else[]
def planEnd(p s l:Int)(list:List Request):Nat→Int→List Int→List Int
 | 0,_,gs=>gs
 | f+1,t,gs=>planEnd p s l list f (t+1) (stepLeft p s l list t gs)
theorem planFrom_step{p s l t:Int}{list:List Request}{gs:List Int}{f:Nat}:planFrom p s l list (f+1) t gs=stepSlot p s l list t gs++planFrom p s l list f (t+1) (stepLeft p s l list t gs):=by
 rw[planFrom,stepSlot,stepLeft]
 split
 ·cases best t none 0 list gs with
  | none=>rfl
  | some kr=>obtain⟨k,r⟩:=kr;rfl
 ·rfl
theorem step_cases(p s l t:Int)(list:List Request)(gs:List Int) :
  (stepSlot p s l list t gs=[]∧stepLeft p s l list t gs=gs∧(visible p s l t=true→∀ (i:Nat) r g,list[i]?=some r→gs[i]?=some g→wants t r g=false)) ∨
  (visible p s l t=true∧∃ (k:Nat) (r:Request) (g:Int),list[k]?=some r∧gs[k]?=some g∧wants t r g=true∧stepSlot p s l list t gs=[⟨t,r.Id⟩]∧stepLeft p s l list t gs=gs.set k (g - 1) ∧
   ∀ (i:Nat) r' g',list[i]?=some r'→gs[i]?=some g'→wants t r' g'=true→r.Deadline≤r'.Deadline):=by
 unfold stepSlot stepLeft
 cases hv:visible p s l t
 ·exact .inl ⟨by simp,by simp,by simp⟩
 ·cases hp:best t none 0 list gs with
  | none=>exact .inl ⟨by simp,by simp,fun _=>best_none hp⟩
  | some kr =>
   obtain⟨k,r⟩:=kr
   obtain⟨g,h1,h2,h3⟩:=best_some hp
   refine .inr ⟨rfl,k,r,g,h1,h2,h3,by simp,by simp[lowered,h2],fun i r' g' h4 h5 h6=>?_⟩
   obtain⟨j,b,h7,h8⟩:=(best_least (t:=t) (rs:=list) (gs:=gs) (o:=none) (k:=0)).1 i r' g' h4 h5 h6
   rw[hp]at h7
   simp only[Option.some.injEq,Prod.mk.injEq]at h7
   rw[h7.2];exact h8
def okLeft(list:List Request)(gs:List Int):Prop:=gs.length=list.length∧∀ g∈gs,0≤g
theorem okLeft_step{p s l t:Int}{list:List Request}{gs:List Int}(h:okLeft list gs):okLeft list (stepLeft p s l list t gs):=by
 rcases step_cases p s l t list gs with⟨-,h2,-⟩|⟨-,k,r,g,h1,h2,h3,-,h5,-⟩
 ·rw[h2];exact h
 ·rw[h5]
  refine⟨by simpa using h.1,fun x hx=>?_⟩
  rcases List.mem_or_eq_of_mem_set hx with hx|hx
  ·exact h.2 x hx
  ·have:=h.2 g (List.mem_of_getElem? h2)
   simp only[wants,Bool.and_eq_true,Bool.not_eq_true',beq_eq_false_iff_ne]at h3
   have:=h3.1
   omega
theorem wants_iff{t:Int}{r:Request}{g:Int}:wants t r g=true↔g≠0∧r.Ready≤t∧t≤r.Deadline:=by simp[wants,inB]
/-! ### The slots -/
theorem planFrom_mem{p s l:Int}{list:List Request}:∀ {f:Nat} {t:Int} {gs:List Int},∀ x∈planFrom p s l list f t gs,t≤x.Time∧x.Time<t+f∧visible p s l x.Time=true∧∃ r∈list,r.Id=x.Id∧inB x.Time r.Ready r.Deadline=true
 | 0,t,gs,x,hx=>by simp[planFrom]at hx
 | f+1,t,gs,x,hx=>by
  rw[planFrom_step,List.mem_append]at hx
  rcases hx with hx|hx
  ·rcases step_cases p s l t list gs with⟨h1,-,-⟩|⟨hv,k,r,g,h1,h2,h3,h4,-,-⟩
   ·rw[h1]at hx;simp at hx
   ·rw[h4,List.mem_singleton]at hx
    subst hx
    simp only[wants,Bool.and_eq_true]at h3
    exact⟨Int.le_refl _,by simp only;omega,hv,r,List.mem_of_getElem? h1,rfl,h3.2⟩
  ·obtain⟨h1,h2,h3⟩:=planFrom_mem x hx
   exact⟨by omega,by omega,h3⟩
def idsApart(list:List Request):Prop:=∀ (i j:Nat) r r',list[i]?=some r→list[j]?=some r'→r.Id=r'.Id→i=j
theorem slotsOf_append(id:Int):∀ (a b:List Slot),slotsOf id (a++b)=slotsOf id a+slotsOf id b
 | [],b=>by simp[slotsOf]
 | x::a,b=>by rw[List.cons_append,slotsOf,slotsOf,slotsOf_append id a b];omega
theorem count_step{p s l t:Int}{list:List Request}{gs:List Int}(ha:idsApart list){k:Nat}{r:Request}{g:Int}(h1:list[k]?=some r)(h2:gs[k]?=some g) :
  ∃ e,(stepLeft p s l list t gs)[k]?=some e∧(slotsOf r.Id (stepSlot p s l list t gs):Int)=g - e:=by
 rcases step_cases p s l t list gs with⟨h3,h4,-⟩|⟨-,j,r',g',h3,h4,-,h5,h6,-⟩
 ·exact⟨g,by rw[h4];exact h2,by rw[h3];simp[slotsOf]⟩
 ·rw[h5,h6]
  by_cases hj:j=k
  ·subst hj
   rw[h1]at h3;rw[h2]at h4
   cases h3;cases h4
   exact⟨g - 1,by rw[List.getElem?_set_self (List.getElem?_eq_some_iff.1 h2).1],by simp[slotsOf];omega⟩
  ·refine⟨g,by rw[List.getElem?_set_ne hj];exact h2,?_⟩
   have:¬ (r'.Id == r.Id)=true:=by
    intro h;exact hj (ha _ _ _ _ h3 h1 (by simpa using h))
   simp only[slotsOf,if_neg this];omega
theorem planEnd_count{p s l:Int}{list:List Request}(ha:idsApart list):∀ {f:Nat} {t:Int} {gs:List Int},okLeft list gs→∀ {k:Nat} {r:Request} {g:Int},list[k]?=some r→gs[k]?=some g →
  ∃ e,(planEnd p s l list f t gs)[k]?=some e∧(slotsOf r.Id (planFrom p s l list f t gs):Int)=g - e∧0≤e∧e≤g
 | 0,t,gs,ho,k,r,g,h1,h2=>⟨g,h2,by simp[planFrom,slotsOf],ho.2 g (List.mem_of_getElem? h2),Int.le_refl _⟩
 | f+1,t,gs,ho,k,r,g,h1,h2=>by
  obtain⟨e1,h3,h4⟩:=count_step (p:=p) (s:=s) (l:=l) (t:=t) ha h1 h2
  obtain⟨e,h5,h6,h7,h8⟩:=planEnd_count ha (f:=f) (t:=t+1) (okLeft_step (p:=p) (s:=s) (l:=l) (t:=t) ho) h1 h3
  refine⟨e,h5,?_,h7,?_⟩
  ·rw[planFrom_step,slotsOf_append];omega
  ·omega
theorem reqs_apart:∀ {l b:List Request},reqsFrom b l=true→idsApart l
 | [],_,_,i,j,r,r',h,_,_=>by simp at h
 | x::l,b,h,i,j,r,r',h1,h2,he=>by
  simp only[reqsFrom,Bool.and_eq_true]at h
  have hfr:=reqsFrom_free h.2.2.2.2.2
  match i,j with
  | 0,0=>rfl
  | 0,j+1 =>
   simp only[List.getElem?_cons_zero,Option.some.injEq]at h1
   subst h1
   exact absurd he (hfr r' (List.mem_of_getElem? (by simpa using h2)) x (by simp))
  | i+1,0 =>
   simp only[List.getElem?_cons_zero,Option.some.injEq]at h2
   subst h2
   exact absurd he.symm (hfr r (List.mem_of_getElem? (by simpa using h1)) x (by simp))
  | i+1,j+1=>rw[reqs_apart h.2.2.2.2.2 i j r r' (by simpa using h1) (by simpa using h2) he]
theorem requestsOk_apart{l:List Request}(h:requestsOk l=true):idsApart l:=by
 simp only[requestsOk,Bool.and_eq_true]at h
 exact reqs_apart h.2
theorem okLeft_needs{l:List Request}(h:requestsOk l=true):okLeft l (l.map (·.Need)):=by
 refine⟨by simp,fun g hg=>?_⟩
 obtain⟨r,hr,rfl⟩:=List.mem_map.1 hg
 have:=((requestsOk_mem h).2 r hr).2.2.2
 omega
def slotSum(plan:List Slot):List Request→Nat
 | []=>0
 | r::rs=>slotsOf r.Id plan+slotSum plan rs
theorem slotSum_none(x:Slot)(pl:List Slot):∀ {l:List Request},(∀ r∈l,r.Id≠x.Id)→slotSum (x::pl) l=slotSum pl l
 | [],_=>rfl
 | r::l,h=>by
  have h1:=h r (by simp)
  have:¬ (x.Id == r.Id)=true:=by simp;exact fun e=>h1 e.symm
  rw[slotSum,slotSum,slotSum_none x pl (fun q hq=>h q (by simp[hq])),slotsOf,if_neg this];omega
theorem slotSum_one(x:Slot)(pl:List Slot):∀ {l b:List Request},reqsFrom b l=true→(∃ r∈l,r.Id=x.Id)→slotSum (x::pl) l=slotSum pl l+1
 | [],_,_,h=>by obtain⟨r,hr,-⟩:=h;simp at hr
 | r::l,b,h,hx=>by
  have h':=h
  simp only[reqsFrom,Bool.and_eq_true]at h
  have hfr:=reqsFrom_free h.2.2.2.2.2
  by_cases he:r.Id=x.Id
  ·have:(x.Id == r.Id)=true:=by simp[he]
   rw[slotSum,slotSum,slotSum_none x pl (fun q hq hq2=>hfr q hq r (by simp) (by rw[he,hq2])),slotsOf,if_pos this];omega
  ·have:¬ (x.Id == r.Id)=true:=by simp;exact fun e=>he e.symm
   obtain⟨q,hq,hq2⟩:=hx
   rcases List.mem_cons.1 hq with rfl|hq
   ·exact absurd hq2 he
   ·rw[slotSum,slotSum,slotSum_one x pl h.2.2.2.2.2 ⟨q,hq,hq2⟩,slotsOf,if_neg this];omega
theorem slotSum_nil:∀ {l:List Request},slotSum [] l=0
 | []=>rfl
 | r::l=>by rw[slotSum,slotSum_nil];simp[slotsOf]
theorem slotSum_all{l:List Request}(h:requestsOk l=true):∀ {pl:List Slot},(∀ x∈pl,∃ r∈l,r.Id=x.Id)→slotSum pl l=pl.length
 | [],_=>slotSum_nil
 | x::pl,hx=>by
  simp only[requestsOk,Bool.and_eq_true]at h
  rw[slotSum_one x pl h.2 (hx x (by simp)),slotSum_all (by simp[requestsOk,h]) (fun y hy=>hx y (by simp[hy]))]
  rfl
end Go.Proofs.YtdinhfeflobafaaGreat
