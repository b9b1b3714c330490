/- Slices that the call itself makes: append, and what is kept while another one is written. No condition. -/
import Derived.Test.YtbaffippdifbpaaGreatSM0
import Derived.Laws.AppendOwnNone
namespace Go.Proofs.YtbaffippdifbpaaGreat
set_option linter.unusedVariables false
open Go.ChangeShapes Go.WideShapes Go.ChangeAt Go.RowKit
section
variable {α:Type} {enc:α→List Value} {T size:Nat}
theorem Own.nil{B:Nat}{w:World}(hsz:∀ x:α,(enc x).length=size):Own enc T size B w none 0 []:=⟨hsz,by simp,.inl ⟨rfl,rfl⟩⟩
theorem Own.empty{W:World}(hsz:∀ x:α,(enc x).length=size)(x:Later (W.alloc (.cells #[] T))){B:Nat}(hB:B≤W.heap.size):Own enc T size B x.w (some ⟨W.heap.size,0,none⟩) 0 []:=by
 refine⟨hsz,by simp,.inr ⟨W.heap.size,0,#[],rfl,hB,?_,Nat.le_refl _,by unfold maxLen;omega,by simp,by simp⟩⟩
 rw[x.h.block _ (by simp)]
 show(W.heap.push _)[W.heap.size]?=_
 simp
theorem Own.empty0{W:World}(hsz:∀ x:α,(enc x).length=size){B:Nat}(hB:B≤W.heap.size):Own enc T size B (W.alloc (.cells #[] T)) (some ⟨W.heap.size,0,none⟩) 0 []:=Own.empty hsz (Later.here _) hB
theorem cells_new(W:World)(cs:Array Value)(T1:TypeId)(j:Nat):(W.alloc (.cells cs T1)).cell? ((⟨W.heap.size,0,none⟩:Addr).add j)=cs[j]?:=by
 have e:(⟨W.heap.size,0,none⟩:Addr).add j=⟨W.heap.size,j,none⟩:=by
  unfold Addr.add;split
  ·rename_i h;rw[h]
  ·simp
 rw[e,World.cell?_alloc_at _ _ _ _ rfl]
def xs_form(v:Value)(n:Nat):Prop:=∃ a c,v=.slice a n c
theorem wpList_app1{P:Program}{ops:Array Oper}{rest:List Oper}{o:Oper}{a:Act}{Q:Exit→Act→World→Prop}{w0 W:World}{T1:TypeId}{cs:Array Value}{t:TypeId}{bytes:Nat}{z:Value}(y:α)
  (hgd:o.guard=none) (s x:Operand) (ho:o.op=.call { callee:=.builtin .append,args:=#[s,x],argTypes:=#[t,t] })
  (ht:P.underlying t=some (.slice T)) (hinfo:(P.info? T).map (fun i=>(i.zero,i.size,i.bytes))=some (some z,size,bytes)) (hzs:z.cells.size=size) (hsz:0<size) (hby:bytes≤1000)
  {l:List α} {n:Nat} {sa:Option Addr} {sc:Nat} (hs:a.eval s=.slice sa n sc) (hx:a.eval x=.slice (some ⟨W.heap.size,0,none⟩) 1 1) (hn:l.length=n) (hown:Own enc T size w0.heap.size W sa sc l)
  (hy:cs.toList=enc y) (h1:∀ u∈enc y,u.oneCell'=true) (hb:n≤1000000000) [g:Grows w0 W]
  (h:∀ (sa':Option Addr) (sc':Nat) (x':Later w0),Own enc T size w0.heap.size x'.w sa' sc' (l++[y])→W.grownBy x'.w (Value.ownBlock (.slice sa n sc))→wpList P ops Q rest (a.put o.dst (.slice sa' (n+1) sc')) x'.w) :
  wpList P ops Q (o::rest) a (W.alloc (.cells cs T1)):=by
 obtain⟨i,hi,h3⟩:=Option.map_eq_some_iff.1 hinfo
 simp only[Prod.mk.injEq]at h3
 obtain⟨h4,h5,h6⟩:=h3
 subst hn
 have hb':(l.length+1)*bytes≤140737488355328:=by
  have:(l.length+1)*bytes≤(l.length+1)*1000:=Nat.mul_le_mul_left _ hby
  omega
 have hnl:(enc y).length=1*size:=by rw[hown.1];omega
 refine wpList_append_own (a:=a) (w:=W.alloc (.cells cs T1)) hgd s x t ho w0.heap.size T i z size bytes ht hi h4 h5 h6 hzs hsz _ l.length (l.flatMap enc) hs (hown.2.alloc _) ⟨W.heap.size,0,none⟩ 1 1 (enc y) hx hnl
  (fun j u hj=>by rw[cells_new,← Array.getElem?_toList,hy];exact hj) h1 (by unfold maxLen;omega) hb' (Nat.le_trans g.out.size (by simp)) ?_
 intro v' w' ho' hg' _
 have hlt:=hown.2.lt
 have hbel:Below w0.heap.size w0 w':=by
  refine(g.out.alloc g.out.size _).grown hg' (Nat.le_trans g.out.size (by simp)) (fun k hk=>?_)
  exact(hlt k hk).1
 have hf:xs_form v' (l.length+1):=by
  rcases ho'.2 with⟨hv,hn0⟩|⟨g',cap,cur,hv,-⟩
  ·omega
  ·exact⟨_,_,hv⟩
 obtain⟨sa',sc',rfl⟩:=hf
 refine h sa' sc' ⟨w',hbel⟩ ⟨hown.1,?_⟩ ⟨hg'.os,hg'.tape,hg'.output,Nat.le_trans (by simp) hg'.size,fun k hk hr=>?_⟩
 ·rw[List.flatMap_append,List.flatMap_singleton,List.length_append,List.length_singleton];exact ho'
 ·rw[hg'.block k (by simp;omega) hr];exact Below.heap_alloc _ _ _ hk
theorem wpList_appS{P:Program}{ops:Array Oper}{rest:List Oper}{o:Oper}{a:Act}{Q:Exit→Act→World→Prop}{w0 W:World}{t:TypeId}{bytes:Nat}{z:Value}
  (hgd:o.guard=none) (s x:Operand) (ho:o.op=.call { callee:=.builtin .append,args:=#[s,x],argTypes:=#[t,t] })
  (ht:P.underlying t=some (.slice T)) (hinfo:(P.info? T).map (fun i=>(i.zero,i.size,i.bytes))=some (some z,size,bytes)) (hzs:z.cells.size=size) (hsz:0<size) (hby:bytes≤1000)
  {l r:List α} {n m c:Nat} {sa ra:Option Addr} {sc:Nat} (hs:a.eval s=.slice sa n sc) (hx:a.eval x=.slice ra m c) (hnil:ra=none→c=0) (hn:l.length=n) (hm:r.length=m) (hown:Own enc T size w0.heap.size W sa sc l)
  (hr:Sl enc W ra r) (h1:∀ y,∀ u∈enc y,u.oneCell'=true) (hb:n+m≤1000000000) [g:Grows w0 W]
  (h:∀ (sa':Option Addr) (sc':Nat) (x':Later w0),Own enc T size w0.heap.size x'.w sa' sc' (l++r)→W.grownBy x'.w (Value.ownBlock (.slice sa n sc))→wpList P ops Q rest (a.put o.dst (.slice sa' (n+m) sc')) x'.w) :
  wpList P ops Q (o::rest) a W:=by
 obtain⟨i,hi,h3⟩:=Option.map_eq_some_iff.1 hinfo
 simp only[Prod.mk.injEq]at h3
 obtain⟨h4,h5,h6⟩:=h3
 subst hn;subst hm
 cases ra with
 | none =>
  obtain rfl:=hnil rfl
  have hr0:r=[]:=by
   cases r with
   | nil=>rfl
   | cons y r=>obtain⟨b,off,h0,-⟩:=hr 0 y rfl;cases h0
  subst hr0
  refine wpList_append_own_none (a:=a) (w:=W) hgd s x t ho w0.heap.size T i size ht hi _ l.length (l.flatMap enc) hs hown.2 hx ?_
  exact h sa sc ⟨W,g.out⟩ (by rw[List.append_nil];exact hown) ⟨rfl,rfl,rfl,Nat.le_refl _,fun k hk hr=>rfl⟩
 | some ad =>
  have hb':(l.length+r.length)*bytes≤140737488355328:=by
   have:(l.length+r.length)*bytes≤(l.length+r.length)*1000:=Nat.mul_le_mul_left _ hby
   omega
  refine wpList_append_own (a:=a) (w:=W) hgd s x t ho w0.heap.size T i z size bytes ht hi h4 h5 h6 hzs hsz _ l.length (l.flatMap enc) hs hown.2 ad r.length c (r.flatMap enc) hx (flatMap_length hown.1 r)
   (fun j u hj=>?_) (fun u hu=>?_) (by unfold maxLen;omega) hb' g.out.size ?_
  ·have hlt:j<r.length*size:=by rw[← flatMap_length hown.1 r];exact(List.getElem?_eq_some_iff.1 hj).1
   have hq:j / size<r.length:=Nat.div_lt_of_lt_mul (by rw[Nat.mul_comm];exact hlt)
   have hy:=List.getElem?_eq_getElem hq
   have hmod:j % size<(enc r[j / size]).length:=by rw[hown.1];exact Nat.mod_lt _ hsz
   have hu:=List.getElem?_eq_getElem hmod
   have h8:=flatMap_at hown.1 r _ _ _ _ hy hu
   have hj':j / size*size+j % size=j:=by rw[Nat.mul_comm];exact Nat.div_add_mod _ _
   rw[hj',hj]at h8
   obtain⟨b,off,hbo,-,hc⟩:=hr _ _ hy
   simp only[Option.some.injEq]at hbo
   subst hbo
   have h9:=hc _ _ hu
   rw[hown.1,Nat.add_assoc,hj']at h9
   simp only[Option.some.injEq]at h8
   rw[h8]
   have e:(⟨b,off,none⟩:Addr).add j=⟨b,off+j,none⟩:=by
    unfold Addr.add;split
    ·rename_i h;rw[h,Nat.add_zero]
    ·rfl
   rw[e];exact h9
  ·obtain⟨y,-,hy⟩:=List.mem_flatMap.1 hu
   exact h1 y u hy
  ·intro v' w' ho' hg' hnil'
   have hlt:=hown.2.lt
   have hbel:Below w0.heap.size w0 w':=g.out.grown hg' g.out.size (fun k hk=>(hlt k hk).1)
   have hf:xs_form v' (l.length+r.length):=by
    rcases ho'.2 with⟨hv,hn0⟩|⟨g',cap,cur,hv,-⟩
    ·exact⟨none,0,by rw[hn0];exact hv⟩
    ·exact⟨_,_,hv⟩
   obtain⟨sa',sc',rfl⟩:=hf
   refine h sa' sc' ⟨w',hbel⟩ ⟨hown.1,?_⟩ hg'
   rw[List.flatMap_append,List.length_append];exact ho'
theorem Own.lt{B:Nat}{w:World}{a:Option Addr}{c:Nat}{l:List α}(h:Own enc T size B w a c l){n:Nat}:∀ k,Value.ownBlock (.slice a n c)=some k→B≤k∧k<w.heap.size:=fun k hk=>h.2.lt k (by cases a with
 | none=>simp[Value.ownBlock]at hk
 | some a=>simpa[Value.ownBlock]using hk)
theorem Own.kept{B:Nat}{w w':World}{a:Option Addr}{c:Nat}{l:List α}{row:Option Nat}(h:Own enc T size B w a c l)(hg:w.grownBy w' row)(hne:∀ k,row=some k→k<B∨w.heap.size≤k):Own enc T size B w' a c l:=by
 refine⟨h.1,h.2.kept hg ?_⟩
 cases ha:Value.ownBlock (.slice a l.length c)with
 | none=>exact .inl rfl
 | some k =>
  right
  intro he
  have:=h.2.lt k ha
  rcases hne k he.symm with h1|h1<;>omega
end
def encInt(n:Int):List Value:=[.int .i64 n]
theorem encInt_len(n:Int):(encInt n).length=1:=rfl
theorem encInt_one(n:Int):∀ u∈encInt n,u.oneCell'=true:=by intro u hu;simp[encInt]at hu;subst hu;rfl
theorem Sl.int{w:World}{a:Option Addr}{l:List Int}(h:Sl encInt w a l){k:Nat}(hk:k<l.length) :
  ∃ b off s,a=some ⟨b,off,none⟩∧LtN b w.heap.size∧Hid (l.drop k=s::l.drop (k+1))∧(∀ (W:World) [Grows w W],W.cell? ⟨b,off+k,none⟩=some (.int .i64 s)):=by
 obtain⟨s,hs,hd⟩:=drop_at hk
 obtain⟨b,off,ha,hb,hc⟩:=h k s hs
 exact⟨b,off,s,ha,⟨hb⟩,hd,cell_grown hb (by simpa[encInt]using hc 0 _ rfl)⟩
theorem grownBy_trans{w w1 w2:World}{row:Option Nat}(h:w.grownBy w1 row)(k:w1.grownBy w2 row):w.grownBy w2 row :=
 ⟨k.os.trans h.os,k.tape.trans h.tape,k.output.trans h.output,Nat.le_trans h.size k.size,fun i hi hr=>(k.block i (Nat.lt_of_lt_of_le hi h.size) hr).trans (h.block i hi hr)⟩
theorem grownBy_refl(w:World)(row:Option Nat):w.grownBy w row:=⟨rfl,rfl,rfl,Nat.le_refl _,fun _ _ _=>rfl⟩
end Go.Proofs.YtbaffippdifbpaaGreat
