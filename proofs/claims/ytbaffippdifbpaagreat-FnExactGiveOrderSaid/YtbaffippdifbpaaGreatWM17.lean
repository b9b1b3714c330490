/- Steps for functions that copy structs: single loads out of boxes, the colours of what is made one after the other. No condition. Appends to slices of the call's own: the block is the old one or a new one. No condition but on lengths. Slices of files: what their copies leave, one after the other. No condition but on lengths. laws.toXS of flat elements: slices of the call's own. No condition but on sizes. The contracts of valid senders and receivers of files, for their Lean types, both sides. No condition but on sizes. -/
import Derived.Test.YtbaffippdifbpaaGreatWOwnS
import Derived.Test.YtbaffippdifbpaaGreatWDF1
import Derived.Test.YtbaffippdifbpaaGreatWM9
import Derived.Test.YtbaffippdifbpaaGreatWM13
import Derived.Test.YtbaffippdifbpaaGreatWOkR
import Derived.Test.YtbaffippdifbpaaGreatWSlots2
namespace Go.Proofs.YtbaffippdifbpaaGreat
set_option linter.unusedVariables false
open Go.ChangeShapes Go.WideShapes Go.ChangeAt Go.RowKit
section
variable {P:Program} {ops:Array Oper} {rest:List Oper} {op:Oper} {a:Act} {w:World} {Q:Exit→Act→World→Prop}
theorem stepLoad1(hgd:op.guard=none)(ty:TypeId)(x:Operand)(ho:op.op=.load ty x)(b o:Nat)(hx:a.eval x=.pointer (some ⟨b,o,none⟩)){cs:List Value}{T:TypeId}(H:Held w b cs T)(v:Value)(hv:cs[o]?=some v)
  (d:TypeDesc) (hu:P.underlying ty=some d) (hd:d.isRow=false) (h:wpList P ops Q rest (a.put op.dst v) w):wpList P ops Q (op::rest) a w:=by
 refine wpList_plain hgd fun _ hK=>?_
 have hagg:(isAgg ty).run P w=.ok false w:=by
  unfold isAgg
  rw[Sem.run_bind,run_underlying hu w]
  cases d<;>simp_all [TypeDesc.isRow]
 have hl:(loadVar ty ⟨b,o,none⟩).run P w=.ok v w:=by
  have hc:=H.cell o
  rw[hv]at hc
  simp[loadVar,Sem.run_bind,hagg,go_sem,hc]
 unfold Oper.wp execOp
 simp only[ho,hx,Instr.loadAt,Instr.sureAddr,Sem.run_bind,Sem.run_pure,Result.andThen_ok,hl]
 exact hK _ _ h
end
def pick:List (Nat × Nat × (Nat→Col))→Nat→Col
 | [],_=>(0,0)
 | (s,d,χ)::r,b=>if b<s then shift d (χ b)else pick r b
theorem pick_skip{s d:Nat}{χ:Nat→Col}{r:List (Nat × Nat × (Nat→Col))}{b:Nat}(h:s≤b):pick ((s,d,χ)::r) b=pick r b:=by rw[pick,if_neg (by omega)]
theorem pick_here{s d:Nat}{χ:Nat→Col}{r:List (Nat × Nat × (Nat→Col))}{b:Nat}(h:b<s):pick ((s,d,χ)::r) b=shift d (χ b):=by rw[pick,if_pos h]
theorem pick_skipD{D:List (Nat × Nat × (Nat→Col))}{j s d:Nat}{χ:Nat→Col}{b:Nat}(e:D[j]?=some (s,d,χ))(h:s≤b):pick (D.drop j) b=pick (D.drop (j+1)) b:=by
 obtain⟨hj,hx⟩:=List.getElem?_eq_some_iff.1 e
 rw[List.drop_eq_getElem_cons hj,hx,pick_skip h]
theorem pick_hereD{D:List (Nat × Nat × (Nat→Col))}{j s d:Nat}{χ:Nat→Col}{b:Nat}(e:D[j]?=some (s,d,χ))(h:b<s):pick (D.drop j) b=shift d (χ b):=by
 obtain⟨hj,hx⟩:=List.getElem?_eq_some_iff.1 e
 rw[List.drop_eq_getElem_cons hj,hx,pick_here h]
theorem But.keeps{b B:Nat}{w w':World}(h:But b w w')(hB:b<B):Keeps B w w':=⟨h.size,fun k h1 h2=>h.block k (by omega) h2⟩
theorem OwnC.re{α:Type}[E:Flat α]{B d:Nat}{χ χ2:Nat→Col}{w:World}{a:Option Addr}{c:Nat}{l:List α}(h:OwnC B χ2 (0,0) w a c l)(hc:∀ b,B≤b→b<w.heap.size→χ b=shift d (χ2 b)):OwnC B χ (d,0) w a c l :=
 h.recol fun k h1 h2 h3=>by rw[hc k h1 h2,h3];simp[shift]
theorem OwnC.reAt{α:Type}[E:Flat α]{B d j k:Nat}{χ χ2:Nat→Col}{w:World}{a:Option Addr}{c:Nat}{l:List α}(h:OwnC B χ2 (j,k) w a c l)(hc:∀ b,B≤b→b<w.heap.size→χ b=shift d (χ2 b)):OwnC B χ (d+j,k) w a c l :=
 h.recol fun k h1 h2 h3=>by rw[hc k h1 h2,h3];simp[shift,Nat.add_comm]
theorem OwnN.re{α β:Type}[N:Nest α β][F:Flat β]{B d:Nat}{χ χ2:Nat→Col}{w:World}{a:Option Addr}{c:Nat}{rows:List (NRow α)}(h:OwnN B χ2 0 w a c rows)(hc:∀ b,B≤b→b<w.heap.size→χ b=shift d (χ2 b)):OwnN B χ d w a c rows :=
 h.recol fun k j h1 h2 h3=>by rw[hc k h1 h2,h3];simp[shift]
theorem OwnN.reAt{α β:Type}[N:Nest α β][F:Flat β]{B d j:Nat}{χ χ2:Nat→Col}{w:World}{a:Option Addr}{c:Nat}{rows:List (NRow α)}(h:OwnN B χ2 j w a c rows)(hc:∀ b,B≤b→b<w.heap.size→χ b=shift d (χ2 b)):OwnN B χ (d+j) w a c rows :=
 h.recol fun k i h1 h2 h3=>by rw[hc k h1 h2,h3];simp[shift,Nat.add_comm]
--STRUCTS
theorem OwnN.oc{α β:Type}[N:Nest α β][F:Flat β]{B o o2:Nat}{χ:Nat→Col}{w:World}{a:Option Addr}{c:Nat}{rows:List (NRow α)}(h:OwnN B χ o w a c rows)(e:o=o2):OwnN B χ o2 w a c rows:=e▸h
theorem TPackerO.re{B d:Nat}{χ χ2:Nat→Col}{w:World}{a0:Option Addr}{c0:Nat}{x:TPacker}(h:TPackerO B χ2 0 w a0 c0 x)(hc:∀ b,B≤b→b<w.heap.size→χ b=shift d (χ2 b)):TPackerO B χ d w a0 c0 x:=⟨h.o0.re hc,h.ok⟩
theorem TSenderO.re{B d:Nat}{χ χ2:Nat→Col}{w:World}{a0:Option Addr}{c0:Nat}{x:TSender}(h:TSenderO B χ2 0 w a0 c0 x)(hc:∀ b,B≤b→b<w.heap.size→χ b=shift d (χ2 b)):TSenderO B χ d w a0 c0 x:=⟨h.o0.re hc,h.ok⟩
theorem TRecorderO.re{B d:Nat}{χ χ2:Nat→Col}{w:World}{a0:Option Addr}{c0:Nat}{a1:Option Addr}{c1:Nat}{x:TRecorder}(h:TRecorderO B χ2 0 w a0 c0 a1 c1 x)(hc:∀ b,B≤b→b<w.heap.size→χ b=shift d (χ2 b)):TRecorderO B χ d w a0 c0 a1 c1 x:=⟨h.o0.re hc,(h.o1.reAt (j:=0+1) hc).ic (by simp),h.ok⟩
theorem TBoardO.re{B d:Nat}{χ χ2:Nat→Col}{w:World}{A:TBoardA}{x:TBoard}(h:TBoardO B χ2 0 w A x)(hc:∀ b,B≤b→b<w.heap.size→χ b=shift d (χ2 b)):TBoardO B χ d w A x:=⟨h.o0.re hc,(h.o1.reAt (j:=0+1) hc).ic (by simp),(h.o2.reAt (j:=0+2) hc).ic (by simp),(h.o3.reAt (j:=0+3) hc).ic (by simp),(h.o4.reAt (j:=0+4) hc).ic (by simp),(h.o5.reAt (j:=0+5) hc).ic (by simp),(h.o6.reAt (j:=0+6) hc).ic (by simp),h.ok⟩
theorem TGroundO.re{B d:Nat}{χ χ2:Nat→Col}{w:World}{A:TGroundA}{x:TGround}(h:TGroundO B χ2 0 w A x)(hc:∀ b,B≤b→b<w.heap.size→χ b=shift d (χ2 b)):TGroundO B χ d w A x:=⟨h.o0.re hc,(h.o1.reAt (j:=0+1) hc).ic (by simp),(h.o2.reAt (j:=0+2) hc).ic (by simp),(h.o3.reAt (j:=0+3) hc).ic (by simp),h.o4.elim fun r hr=>⟨r,hr.1,(hr.2.reAt (j:=0+4) hc).oc (by omega)⟩,(h.o5.reAt (j:=0+5) hc).ic (by simp),h.ok⟩
theorem TSpaceO.re{B d:Nat}{χ χ2:Nat→Col}{w:World}{A:TSpaceA}{x:TSpace}(h:TSpaceO B χ2 0 w A x)(hc:∀ b,B≤b→b<w.heap.size→χ b=shift d (χ2 b)):TSpaceO B χ d w A x:=⟨h.o0.re hc,(h.o1.reAt (j:=0+1) hc).ic (by simp),(h.o2.reAt (j:=0+2) hc).ic (by simp),(h.o3.reAt (j:=0+3) hc).ic (by simp),(h.o4.reAt (j:=0+4) hc).ic (by simp),(h.o5.reAt (j:=0+5) hc).ic (by simp),(h.o6.reAt (j:=0+6) hc).ic (by simp),(h.o7.reAt (j:=0+7) hc).ic (by simp),(h.o8.reAt (j:=0+8) hc).ic (by simp),h.o9.elim fun r hr=>⟨r,hr.1,(hr.2.reAt (j:=0+9) hc).oc (by omega)⟩,(h.o10.reAt (j:=0+10) hc).ic (by simp),h.ok⟩
end Go.Proofs.YtbaffippdifbpaaGreat
namespace Go.Proofs.YtbaffippdifbpaaGreat
set_option linter.unusedVariables false
open Go.ChangeShapes Go.WideShapes Go.ChangeAt Go.RowKit
section
variable {P:Program} {w:World}
theorem append_block(base:Nat)(t ty e:TypeId)(i:TypeInfo)(z:Value)(size bytes:Nat)(ht:P.underlying t=some (.slice e))(hi:P.info? e=some i)(hz:i.zero=some z)
  (hsize:i.size=size) (hby:i.bytes=bytes)
  (v:Value) (n:Nat) (xs:List Value) (hown:w.ownsRow base e size v n xs)
  (a:Addr) (m c:Nat) (news:List Value) (hl:news.length=m*size) (hnews:∀ j u,news[j]?=some u→w.cell? (a.add j)=some u) (h1:∀ u∈news,u.oneCell'=true)
  (h63:n+m≤maxLen) (hbytes:(n+m)*bytes≤140737488355328) {v':Value} {w':World}
  (hr:(Builtin.append_ #[t,t] ty #[v,.slice (some a) m c]).run P w=.ok v' w'):v'.ownBlock=v.ownBlock∨v'.ownBlock=some w.heap.size:=by
 subst hsize
 subst hby
 have hsmall:n+m≤9223372036854775807:=by simp only[maxLen]at h63;omega
 rcases hown.2 with⟨rfl,rfl⟩|⟨g,cap,cur,rfl,hbg,hg,hnc,hcm,hcs,htake⟩
 ·by_cases hm:m=0
  ·subst hm
   have hn:news=[]:=List.eq_nil_of_length_eq_zero (by simpa using hl)
   subst hn
   have hr2:(Builtin.append_ #[t,t] ty #[.slice none 0 0,.slice (some a) 0 c]).run P w=.ok (.slice none 0 0) w:=by
    simp[Builtin.append_,run_underlying ht,sizeOf,typeInfo,hi,Builtin.lenOf,Builtin.firstCells,loadCells,loadCellsFrom]
   have:=hr.symm.trans hr2
   injection this with e1 _
   exact .inl (by rw[e1])
  ·have hr2:=run_append_nil (P:=P) w t ty e i z ht hi hz a m c news hl hnews (by omega) (by omega) (by have hb:=hbytes;simp only[Nat.zero_add]at hb;omega)
   have:=hr.symm.trans hr2
   injection this with e1 _
   exact .inr (by rw[e1];rfl)
 ·by_cases hroom:n+m≤cap
  ·have hfit:n*i.size+news.length≤cur.size:=by rw[hl,hcs,← Nat.add_mul];exact Nat.mul_le_mul_right _ hroom
   have hr2:=run_append_room (P:=P) w t ty e i ht hi g n cap cur hg a m c news hl hnews h1 hroom hfit
   have:=hr.symm.trans hr2
   injection this with e1 _
   exact .inl (by rw[e1];rfl)
  ·have holds:∀ j u,xs[j]?=some u→w.cell? ((⟨g,0,none⟩:Addr).add j)=some u:=hown.cells (g:=g) rfl
   have hr2:=run_append_grow (P:=P) w t ty e i z ht hi hz ⟨g,0,none⟩ n cap xs hown.1 holds a m c news hl hnews (by omega) (by omega) (growslice_fits (by omega) hbytes)
   have:=hr.symm.trans hr2
   injection this with e1 _
   exact .inr (by rw[e1];rfl)
variable {o:Oper} {a:Act} {K:Act→World→Prop} {Q:Exit→Act→World→Prop} {α:Type} {enc:α→List Value} {T size:Nat}
theorem wp_app1F{w0:World}{T1:TypeId}{cs:Array Value}{t:TypeId}{bytes:Nat}{z:Value}(y:α)
  (s x:Operand) (ho:o.op=.call { callee:=.builtin .append,args:=#[s,x],argTypes:=#[t,t] })
  (ht:P.underlying t=some (.slice T)) (hinfo:(P.info? T).map (fun i=>(i.zero,i.size,i.bytes))=some (some z,size,bytes)) (hzs:z.cells.size=size) (hsz:0<size) (hby:bytes≤1000)
  {l:List α} {n:Nat} {sa:Option Addr} {sc:Nat} (hs:a.eval s=.slice sa n sc) {xb:Nat} (hx:a.eval x=.slice (some ⟨xb,0,none⟩) 1 1) (hn:l.length=n) {B:Nat} (hown:Own enc T size B w sa sc l)
  (hxc:w.heap[xb]?=some (.cells cs T1 (0,0))) (hy:cs.toList=enc y) (h1:∀ u∈enc y,u.oneCell'=true) (hb:n≤1000000000) (hB:B≤w.heap.size) (g:Grows w0 w) (hB0:w0.heap.size≤B)
  (h:∀ (sa':Option Addr) (sc':Nat) (x':Later w0),Own enc T size B x'.w sa' sc' (l++[y])→w.grownBy x'.w (Value.ownBlock (.slice sa n sc))→(blkOf sa'=blkOf sa∨blkOf sa'=some w.heap.size)→K (a.put o.dst (.slice sa' (n+1) sc')) x'.w) :
  Oper.wp P o a w K Q:=by
 obtain⟨i,hi,h3⟩:=Option.map_eq_some_iff.1 hinfo
 simp only[Prod.mk.injEq]at h3
 obtain⟨h4,h5,h6⟩:=h3
 subst hn
 have hb':(l.length+1)*bytes≤140737488355328:=by
  have:(l.length+1)*bytes≤(l.length+1)*1000:=Nat.mul_le_mul_left _ hby
  omega
 have hnl:(enc y).length=1*size:=by rw[hown.1];omega
 have hnews:∀ (j:Nat) (u:Value),(enc y)[j]?=some u→w.cell? ((⟨xb,0,none⟩:Addr).add j)=some u:=fun j u hj=>by
  have e:(⟨xb,0,none⟩:Addr).add j=⟨xb,j,none⟩:=by
   unfold Addr.add;split
   ·rename_i h;rw[h]
   ·simp
  rw[e]
  rw[← hy,Array.getElem?_toList]at hj
  simp[World.cell?,hxc,hj]
 obtain⟨v',w',hr,ho',hg',-⟩:=run_append_own (P:=P) w B t o.type T i z size bytes ht hi h4 h5 h6 hzs hsz _ l.length (l.flatMap enc) hown.2 ⟨xb,0,none⟩ 1 1 (enc y) hnl hnews h1 (by unfold maxLen;omega) hb' hB
 have hblk:=append_block B t o.type T i z size bytes ht hi h4 h5 h6 _ l.length (l.flatMap enc) hown.2 ⟨xb,0,none⟩ 1 1 (enc y) hnl hnews h1 (by unfold maxLen;omega) hb' hr
 have hlt:=hown.2.lt
 have hbel:Below w0.heap.size w0 w':=g.out.grown hg' g.out.size (fun k hk=>Nat.le_trans hB0 (hlt k hk).1)
 have hf:xs_form v' (l.length+1):=by
  rcases ho'.2 with⟨hv,hn0⟩|⟨g',cap,cur,hv,-⟩
  ·omega
  ·exact⟨_,_,hv⟩
 obtain⟨sa',sc',rfl⟩:=hf
 rw[ownBlock_eq,ownBlock_eq]at hblk
 unfold Oper.wp execOp
 simp only[ho,resolve,invoke,builtin,Sem.run_bind,Sem.run_pure,Result.andThen_ok,List.map_toArray,List.map_cons,List.map_nil,hs,hx,hr]
 refine h sa' sc' ⟨w',hbel⟩ ⟨hown.1,?_⟩ hg' hblk
 rw[List.flatMap_append,List.flatMap_singleton,List.length_append,List.length_singleton];exact ho'
theorem st_app1F{ops:Array Oper}(hw:Region.wanted o (yielded ops a.tmps)=true){E:Prop}{w0:World}{T1:TypeId}{cs:Array Value}{t:TypeId}{bytes:Nat}{z:Value}(y:α)
  (s x:Operand) (ho:o.op=.call { callee:=.builtin .append,args:=#[s,x],argTypes:=#[t,t] })
  (ht:P.underlying t=some (.slice T)) (hinfo:(P.info? T).map (fun i=>(i.zero,i.size,i.bytes))=some (some z,size,bytes)) (hzs:z.cells.size=size) (hsz:0<size) (hby:bytes≤1000)
  {l:List α} {n:Nat} {sa:Option Addr} {sc:Nat} (hs:a.eval s=.slice sa n sc) {xb:Nat} (hx:a.eval x=.slice (some ⟨xb,0,none⟩) 1 1) (hn:l.length=n) {B:Nat} (hown:Own enc T size B w sa sc l)
  (hxc:w.heap[xb]?=some (.cells cs T1 (0,0))) (hy:cs.toList=enc y) (h1:∀ u∈enc y,u.oneCell'=true) (hb:n≤1000000000) (hB:B≤w.heap.size) (g:Grows w0 w) (hB0:w0.heap.size≤B)
  (h:∀ (sa':Option Addr) (sc':Nat) (x':Later w0),Own enc T size B x'.w sa' sc' (l++[y])→w.grownBy x'.w (Value.ownBlock (.slice sa n sc))→(blkOf sa'=blkOf sa∨blkOf sa'=some w.heap.size)→K (a.put o.dst (.slice sa' (n+1) sc')) x'.w) :
  if Region.wanted o (yielded ops a.tmps)=true then Oper.wp P o a w K Q else E:=by
 rw[if_pos hw]
 exact wp_app1F (w0:=w0) y s x ho ht hinfo hzs hsz hby hs hx hn hown hxc hy h1 hb hB g hB0 h
end
end Go.Proofs.YtbaffippdifbpaaGreat
namespace Go.Proofs.YtbaffippdifbpaaGreat
set_option linter.unusedVariables false
open Go.ChangeShapes Go.WideShapes Go.ChangeAt Go.RowKit
theorem encN_one{α β:Type}[N:Nest α β](r:NRow α):∀ u∈encN r,u.oneCell'=true:=N.one _ _ _
class NestInv(α:Type){β:Type}[N:Nest α β][F:Flat β]:Prop where
 inv:∀ {B w vs x},N.Rd B w vs x→∃ a c,vs=N.cells x a c∧N.good x∧RdS B w a c (N.inner x)
section
variable {α β:Type} [N:Nest α β] [F:Flat β]
theorem RdS.rows[I:NestInv α]{B:Nat}{w:World}{a:Option Addr}{c:Nat}{l:List α}(h:RdS B w a c l):∃ rows:List (NRow α),rows.length=l.length∧rows.map (·.x)=l∧Sl (encN (α:=α)) w a rows∧∀ (i:Nat) (r:NRow α),rows[i]?=some r→N.good r.x∧RdS B w r.a r.c (N.inner r.x):=by
 have hp:∀ i,i<l.length→∃ r:NRow α,some r.x=l[i]?∧(∃ b off,a=some ⟨b,off,none⟩∧b<w.heap.size∧∀ (j:Nat) (v:Value),(encN r)[j]?=some v→w.cell? ⟨b,off+i*(encN r).length+j,none⟩=some v)∧N.good r.x∧RdS B w r.a r.c (N.inner r.x):=fun i hi=>by
  obtain⟨b,off,vs,h0,-,h2,h3,h4⟩:=h.2.2.2 i l[i] (List.getElem?_eq_getElem hi)
  obtain⟨a1,c1,rfl,h5,h6⟩:=I.inv h3
  exact⟨⟨l[i],a1,c1⟩,(List.getElem?_eq_getElem hi).symm,⟨b,off,h0,h2,fun j v hv=>by rw[encN_len];exact h4 j v hv⟩,h5,h6⟩
 have key:∀ n,(∀ i,i<n→∃ r:NRow α,some r.x=l[i]?∧(∃ b off,a=some ⟨b,off,none⟩∧b<w.heap.size∧∀ (j:Nat) (v:Value),(encN r)[j]?=some v→w.cell? ⟨b,off+i*(encN r).length+j,none⟩=some v)∧N.good r.x∧RdS B w r.a r.c (N.inner r.x)) →
   ∃ rows:List (NRow α),rows.length=n∧∀ (i:Nat) (r:NRow α),rows[i]?=some r→some r.x=l[i]?∧(∃ b off,a=some ⟨b,off,none⟩∧b<w.heap.size∧∀ (j:Nat) (v:Value),(encN r)[j]?=some v→w.cell? ⟨b,off+i*(encN r).length+j,none⟩=some v)∧N.good r.x∧RdS B w r.a r.c (N.inner r.x):=by
  intro n
  induction n with
  | zero=>exact fun _=>⟨[],rfl,fun i r h=>by simp at h⟩
  | succ n ih =>
   intro hq
   obtain⟨rows,h1,h2⟩:=ih (fun i hi=>hq i (by omega))
   obtain⟨r,h3⟩:=hq n (by omega)
   refine⟨rows++[r],by simp[h1],fun i s hs=>?_⟩
   by_cases hi:i<n
   ·exact h2 i s (by rwa[List.getElem?_append_left (by omega)]at hs)
   ·have hlt:=(List.getElem?_eq_some_iff.1 hs).1
    simp at hlt
    obtain rfl:i=n:=by omega
    rw[List.getElem?_append_right (by omega)]at hs
    simp[h1]at hs
    subst hs;exact h3
 obtain⟨rows,h1,h2⟩:=key l.length hp
 refine⟨rows,h1,?_,fun i r hr=>(h2 i r hr).2.1,fun i r hr=>(h2 i r hr).2.2⟩
 refine List.ext_getElem? fun i=>?_
 rw[List.getElem?_map]
 cases hr:rows[i]? with
 | none=>rw[Option.map_none];exact(List.getElem?_eq_none_iff.2 (by rw[← h1];exact List.getElem?_eq_none_iff.1 hr)).symm
 | some r=>exact(h2 i r hr).1
structure NPart(B:Nat)(χ:Nat→Col)(w:World)(a:Option Addr)(c:Nat)(rows0 rows:List (NRow α))(k:Nat):Prop where
 own:Own (encN (α:=α)) N.ty N.size B w a c rows
 col:∀ b,blkOf a=some b→χ b=(0,0)
 done:∀ i r,i<k→rows[i]?=some r→N.good r.x∧OwnC B χ (0,i+1) w r.a r.c (N.inner r.x)
 left:∀ i,k≤i→rows[i]?=rows0[i]?
 xs:rows.map (·.x)=rows0.map (·.x)
variable {B k:Nat} {χ χ2:Nat→Col} {w W1 W2 Z:World} {a ra:Option Addr} {c rc:Nat} {rows0 rows:List (NRow α)} {x:α}
theorem NPart.start(h:Own (encN (α:=α)) N.ty N.size B w a c rows):NPart B (fun _=>(0,0)) w a c rows rows 0:=⟨h,fun _ _=>rfl,fun i r h=>by omega,fun _ _=>rfl,rfl⟩
theorem NPart.but{b:Nat}{w':World}(h:NPart B χ w a c rows0 rows k)(g:But b w w')(hb:b<B):NPart B χ w' a c rows0 rows k :=
 ⟨h.own.same (fun q _ h1 h2=>g.block q (by omega) h2),h.col,fun i r hi hr=>⟨(h.done i r hi hr).1,(h.done i r hi hr).2.keep (g.keeps hb)⟩,h.left,h.xs⟩
theorem NPart.len(h:NPart B χ w a c rows0 rows k):rows.length=rows0.length:=by have:=congrArg List.length h.xs;simpa using this
theorem NPart.step(h:NPart B χ w a c rows0 rows k)(g:Grows w W1)(hB:B≤W1.heap.size){i0:Col}(hi:OwnC W1.heap.size χ2 i0 W2 ra rc (N.inner x))(g2:Grows W1 W2){r0:NRow α}(h0:rows0[k]?=some r0)(hx:r0.x=x)(hgd:N.good x)
  (hown:Own (encN (α:=α)) N.ty N.size B Z a c (rows.set k ⟨x,ra,rc⟩)) (hg:W2.grownBy Z (blkOf a)):NPart B (paint W1.heap.size χ χ2 (fun _=>(0,k+1))) Z a c rows0 (rows.set k ⟨x,ra,rc⟩) (k+1):=by
 have hblk:=h.own.blk
 have hcol:∀ b,blkOf a=some b→paint W1.heap.size χ χ2 (fun _=>(0,k+1)) b=(0,0):=fun b hb=>by
  rw[paint,if_pos (Nat.lt_of_lt_of_le (hblk b hb).2 g.out.size)];exact h.col b hb
 have hfr:Fr B (paint W1.heap.size χ χ2 (fun _=>(0,k+1))) (·=(0,0)) W2 Z:=⟨hg.os,hg.tape,hg.output,hg.size,fun b h2 h3=>hg.block b h2 (fun e=>h3 ⟨(hblk b e.symm).1,hcol b e.symm⟩)⟩
 have hk:k<rows.length:=by rw[h.len];exact(List.getElem?_eq_some_iff.1 h0).1
 refine⟨hown,hcol,fun i r hik hr=>?_,fun i hik=>?_,?_⟩
 ·by_cases hi2:i<k
  ·rw[List.getElem?_set_ne (by omega)]at hr
   obtain⟨h1,h2⟩:=h.done i r hi2 hr
   refine⟨h1,((h2.old g.out.size).to ⟨g.out.trans (g2.out.mono g.out.size)⟩).fr hfr ?_⟩
   intro e;simp at e
  ·obtain rfl:i=k:=by omega
   rw[List.getElem?_set_self hk]at hr
   cases hr
   refine⟨hgd,((hi.new (B:=W1.heap.size) (Nat.le_refl _)).mono hB).fr hfr ?_⟩
   intro e;simp at e
 ·rw[List.getElem?_set_ne (by omega)];exact h.left i (by omega)
 ·rw[← h.xs]
  refine List.ext_getElem? fun i=>?_
  rw[List.getElem?_map,List.getElem?_map,List.getElem?_set]
  split
  ·rename_i e
   subst e
   have:=h.left k (Nat.le_refl _)
   rw[h0]at this
   first|(rw[if_pos hk,this];simp[hx])|(rw[this];simp[hx])
  ·rfl
theorem NPart.fin(h:NPart B χ w a c rows0 rows k)(hk:rows.length≤k):OwnN B χ 0 w a c rows:=⟨h.own,h.col,fun i r hr=>h.done i r (by have:=(List.getElem?_eq_some_iff.1 hr).1;omega) hr⟩
def grown(U V:Nat)(χ:Nat→Col)(n:Nat):Nat→Col:=paint U χ (paint V (fun _=>(0,n)) (fun _=>(0,0)) id) id
theorem OwnN.grow{χ2:Nat→Col}{W2:World}{ra:Option Addr}{rc:Nat}{x:α}(h:OwnN B χ 0 w a c rows)(g:Grows w W1)(hB:B≤W1.heap.size){i0:Col}(hi:OwnC W1.heap.size χ2 i0 W2 ra rc (N.inner x))(g2:Grows W1 W2)(hgd:N.good x){a':Option Addr}{c':Nat}{W3:World}(g3:Grows W2 W3)
  (hown:Own (encN (α:=α)) N.ty N.size B Z a' c' (rows++[⟨x,ra,rc⟩])) (hg:W3.grownBy Z (blkOf a)) (hb:blkOf a'=blkOf a∨blkOf a'=some W3.heap.size) :
  OwnN B (grown W1.heap.size W3.heap.size χ (rows.length+1)) 0 Z a' c' (rows++[⟨x,ra,rc⟩]):=by
 have hblk:=h.own.blk
 have l1:=g.out.size
 have l2:=g2.out.size
 have l3:=g3.out.size
 have hcol:∀ b,blkOf a=some b→grown W1.heap.size W3.heap.size χ (rows.length+1) b=(0,0):=fun b hb=>by
  have:=(hblk b hb).2
  rw[grown,paint,if_pos (by omega)];exact h.col b hb
 have hfr:Fr B (grown W1.heap.size W3.heap.size χ (rows.length+1)) (·=(0,0)) W3 Z:=⟨hg.os,hg.tape,hg.output,hg.size,fun b h2 h3=>hg.block b h2 (fun e=>h3 ⟨(hblk b e.symm).1,hcol b e.symm⟩)⟩
 refine⟨hown,fun k hk=>?_,fun i r hr=>?_⟩
 ·rcases hb with hb|hb
  ·exact hcol k (by rw[← hb];exact hk)
  ·rw[hb]at hk
   cases hk
   rw[grown,paint,if_neg (by omega),paint,if_neg (by omega)];rfl
 ·by_cases hi2:i<rows.length
  ·rw[List.getElem?_append_left hi2]at hr
   obtain⟨h1,h2⟩:=h.each i r hr
   refine⟨h1,((h2.old l1).to ⟨g.out.trans ((g2.out.trans (g3.out.mono l2)).mono l1)⟩).fr hfr ?_⟩
   intro e;simp at e
  ·have hlt:=(List.getElem?_eq_some_iff.1 hr).1
   simp at hlt
   obtain rfl:i=rows.length:=by omega
   rw[List.getElem?_append_right (Nat.le_refl _)]at hr
   simp at hr
   subst hr
   refine⟨hgd,(((hi.recol (χ':=grown W1.heap.size W3.heap.size χ (rows.length+1)) (i':=(0,rows.length+1)) (fun k h1 h2 _=>?_)).mono hB).to g3).fr hfr ?_⟩
   ·rw[grown,paint,if_neg (by omega),paint,if_pos (by omega)];rfl
   ·intro e;simp at e
end
instance NestInv.iTFileIn:NestInv TFileIn where
 inv:=by rintro _ _ _ _ ⟨a0,c0,rfl,q0,hok⟩;exact⟨a0,c0,rfl,hok,q0⟩
theorem Sl.nFileIn{w:World}{a:Option Addr}{l:List (NRow TFileIn)}(h:Sl (encN (α:=TFileIn)) w a l){k:Nat}(hk:k<l.length) :
  ∃ b off r,a=some ⟨b,off,none⟩∧LtN b w.heap.size∧Hid (l.drop k=r::l.drop (k+1))∧(∀ (W:World) [Grows w W],W.cell? ⟨b,off+k*4,none⟩=some (.int .i64 r.x.File))∧(∀ (W:World) [Grows w W],W.cell? ⟨b,off+k*4+1,none⟩=some (.int .i64 r.x.Size))∧(∀ (W:World) [Grows w W],W.cell? ⟨b,off+k*4+2,none⟩=some (.int .i64 r.x.Check))∧(∀ (W:World) [Grows w W],W.cell? ⟨b,off+k*4+3,none⟩=some (.slice r.a r.x.Parts.length r.c)):=by
 obtain⟨r,hs,hd⟩:=drop_at hk
 obtain⟨b,off,ha,hb,hc⟩:=h k r hs
 exact⟨b,off,r,ha,⟨hb⟩,hd,cell_grown hb (hc 0 _ rfl),cell_grown hb (hc 1 _ rfl),cell_grown hb (hc 2 _ rfl),cell_grown hb (hc 3 _ rfl)⟩
theorem c_cloneNTFileIn{a:Option Addr}{n c:Nat}{l:List (NRow TFileIn)}{w:World}(hs:Sl (encN (α:=TFileIn)) w a l)(hn:l.length=n)(hm:n≤100000000) :
  Calls Tryz.prog 220 #[.slice a n c] w (GivesSl (encN (α:=TFileIn)) 140 4 w l):=by
 cases a with
 | none =>
  have hl:l=[]:=by
   cases l with
   | nil=>rfl
   | cons y r=>obtain⟨b,off,h0,-⟩:=hs 0 y rfl;cases h0
  have hq:=fun(w:World)=>run_eql_slice_nil (P:=Tryz.prog) w 42 140 none n c Tryz.underlying42
  simp only[Option.isNone]at hq
  have HL:=lH hl;clear hl
  go_enter Tryz.func220,Tryz.ntmps220
  go_wp2_with fail
  go_ret
  exact GivesSl.nilOf (encN_len (α:=TFileIn)) HL.out
 | some ad =>
  have hq:=fun(w:World)=>run_eql_slice_nil (P:=Tryz.prog) w 42 140 (some ad) n c Tryz.underlying42
  simp only[Option.isNone]at hq
  go_enter Tryz.func220,Tryz.ntmps220
  go_wp2_with (first|(at_builtin;refine wpList_appS (enc:=(encN (α:=TFileIn))) (w0:=w) (z:=.agg #[.int .i64 0,.int .i64 0,.int .i64 0,.slice none 0 0]) (size:=4) (bytes:=48) (n:=0) (l:=[]) rfl (.tmp 5) (.tmp 6) rfl Tryz.underlying42 (by kernel_rfl) rfl (by decide) (by decide) rfl rfl (fun h=>by cases h) rfl hn (Own.emptyAt (encN_len (α:=TFileIn)) (Nat.le_refl _) rfl) (hs.to inferInstance) (encN_one (α:=TFileIn)) (by omega) ?_;intro sa1 sc1 x1 hown1 hgr1))
  go_ret
  rw[List.nil_append]at hown1
  exact⟨sa1,sc1,by rw[hn];first|rfl|simp,hown1,Later.of⟩
instance NestInv.iTFileOut:NestInv TFileOut where
 inv:=by rintro _ _ _ _ ⟨a0,c0,rfl,q0,hok⟩;exact⟨a0,c0,rfl,hok,q0⟩
theorem Sl.nFileOut{w:World}{a:Option Addr}{l:List (NRow TFileOut)}(h:Sl (encN (α:=TFileOut)) w a l){k:Nat}(hk:k<l.length) :
  ∃ b off r,a=some ⟨b,off,none⟩∧LtN b w.heap.size∧Hid (l.drop k=r::l.drop (k+1))∧(∀ (W:World) [Grows w W],W.cell? ⟨b,off+k*4,none⟩=some (.int .i64 r.x.File))∧(∀ (W:World) [Grows w W],W.cell? ⟨b,off+k*4+1,none⟩=some (.string r.x.Data))∧(∀ (W:World) [Grows w W],W.cell? ⟨b,off+k*4+2,none⟩=some (.slice r.a r.x.Queue.length r.c))∧(∀ (W:World) [Grows w W],W.cell? ⟨b,off+k*4+3,none⟩=some (.bool r.x.Done)):=by
 obtain⟨r,hs,hd⟩:=drop_at hk
 obtain⟨b,off,ha,hb,hc⟩:=h k r hs
 exact⟨b,off,r,ha,⟨hb⟩,hd,cell_grown hb (hc 0 _ rfl),cell_grown hb (hc 1 _ rfl),cell_grown hb (hc 2 _ rfl),cell_grown hb (hc 3 _ rfl)⟩
theorem c_cloneNTFileOut{a:Option Addr}{n c:Nat}{l:List (NRow TFileOut)}{w:World}(hs:Sl (encN (α:=TFileOut)) w a l)(hn:l.length=n)(hm:n≤100000000) :
  Calls Tryz.prog 225 #[.slice a n c] w (GivesSl (encN (α:=TFileOut)) 143 4 w l):=by
 cases a with
 | none =>
  have hl:l=[]:=by
   cases l with
   | nil=>rfl
   | cons y r=>obtain⟨b,off,h0,-⟩:=hs 0 y rfl;cases h0
  have hq:=fun(w:World)=>run_eql_slice_nil (P:=Tryz.prog) w 58 143 none n c Tryz.underlying58
  simp only[Option.isNone]at hq
  have HL:=lH hl;clear hl
  go_enter Tryz.func225,Tryz.ntmps225
  go_wp2_with fail
  go_ret
  exact GivesSl.nilOf (encN_len (α:=TFileOut)) HL.out
 | some ad =>
  have hq:=fun(w:World)=>run_eql_slice_nil (P:=Tryz.prog) w 58 143 (some ad) n c Tryz.underlying58
  simp only[Option.isNone]at hq
  go_enter Tryz.func225,Tryz.ntmps225
  go_wp2_with (first|(at_builtin;refine wpList_appS (enc:=(encN (α:=TFileOut))) (w0:=w) (z:=.agg #[.int .i64 0,.string ByteArray.empty,.slice none 0 0,.bool false]) (size:=4) (bytes:=56) (n:=0) (l:=[]) rfl (.tmp 5) (.tmp 6) rfl Tryz.underlying58 (by kernel_rfl) rfl (by decide) (by decide) rfl rfl (fun h=>by cases h) rfl hn (Own.emptyAt (encN_len (α:=TFileOut)) (Nat.le_refl _) rfl) (hs.to inferInstance) (encN_one (α:=TFileOut)) (by omega) ?_;intro sa1 sc1 x1 hown1 hgr1))
  go_ret
  rw[List.nil_append]at hown1
  exact⟨sa1,sc1,by rw[hn];first|rfl|simp,hown1,Later.of⟩
theorem wp_abs{P:Program}{c:Code}{Q:Exit→Act→World→Prop}{a:Act}{w:World}(hp:∀ c a d v w,Q (.panic c) (a.put (some d) v) w→Q (.panic c) a w)(h:∀ K:Exit→Act→World→Prop,Hid (∀ c a d v w,K (.panic c) (a.put (some d) v) w→K (.panic c) a w)→Hid (∀ e a w,Q e a w→K e a w)→c.wp P K a w):c.wp P Q a w:=h Q (lH hp) (lH fun _ _ _ h=>h)
theorem yieldsIf_load1{P:Program}{ops:Array Oper}{S:World→Prop}{op:Oper}{a:Act}(hw:Region.wanted op (yielded ops a.tmps)=true)(ty:TypeId)(x:Operand)(ho:op.op=.load ty x)
  (b o:Nat) (hx:a.eval x=.pointer (some ⟨b,o,none⟩)) (v:Value) (d:TypeDesc) (hS:∀ w,S w→w.cell? ⟨b,o,none⟩=some v) (hu:P.underlying ty=some d) (hd:d.isRow=false):YieldsIf P ops S op v a :=
 .inl ⟨hw,fun w hw'=>by
  have hagg:(isAgg ty).run P w=.ok false w:=by
   unfold isAgg
   rw[Sem.run_bind,run_underlying hu w]
   cases d<;>simp_all [TypeDesc.isRow]
  have hl:(loadVar ty ⟨b,o,none⟩).run P w=.ok v w:=by
   have hc:=hS w hw'
   simp[loadVar,Sem.run_bind,hagg,go_sem,hc]
  unfold execOp
  simp only[ho,hx,Instr.loadAt,Instr.sureAddr,Sem.run_bind,Sem.run_pure,Result.andThen_ok,hl]⟩
theorem But.pre{b:Nat}{w0 w w':World}(h:But b w w')(g:Grows w0 w):But b w0 w':=⟨Nat.le_trans g.out.size h.size,fun k h1 h2=>(h.block k h1 (Nat.lt_of_lt_of_le h2 g.out.size)).trans (g.out.block k h2)⟩
theorem But.post{b:Nat}{w0 w w':World}(h:But b w0 w)(g:Grows w w'):But b w0 w':=⟨Nat.le_trans h.size g.out.size,fun k h1 h2=>(g.out.block k (Nat.lt_of_lt_of_le h2 h.size)).trans (h.block k h1 h2)⟩
theorem But.far{b q:Nat}{w0 w w':World}(h:But b w0 w)(g:w.grownBy w' (some q))(hq:w0.heap.size≤q):But b w0 w':=⟨Nat.le_trans h.size g.size,fun k h1 h2=>(g.block k (Nat.lt_of_lt_of_le h2 h.size) (by simp only[ne_eq,Option.some.injEq];omega)).trans (h.block k h1 h2)⟩
section
variable {P:Program} {ops:Array Oper} {op:Oper} {a:Act} {w:World} {Q:Exit→Act→World→Prop} {K:Act→World→Prop} {E:Prop} {α:Type} {enc:α→List Value} {T B g:Nat} {c:Nat} {l:List α}
theorem st_storeOwn4(hw:Region.wanted op (yielded ops a.tmps)=true)(ty:TypeId)(x y:Operand)(ho:op.op=.store ty x y)(j:Nat)(hx:a.eval x=.pointer (some ⟨g,j*4,none⟩))(h:Own enc T 4 B w (some ⟨g,0,none⟩) c l)(hj:j<l.length)(r:α){v0 v1 v2 v3:Value}(hr:enc r=[v0,v1,v2,v3])
  (hv:(a.eval y).cells.toList=[v0,v1,v2,v3]) (hi:(P.info? ty).map (·.size)=some 4) (h1:[v0,v1,v2,v3].all (·.oneCell')=true) {w0:World} (gr:Grows w0 w) (hb:w0.heap.size≤B)
  (k:∀ z:Later w0,Own enc T 4 B z.w (some ⟨g,0,none⟩) c (l.set j r)→w.grownBy z.w (some g)→K (a.put op.dst undef) z.w):if Region.wanted op (yielded ops a.tmps)=true then Oper.wp P op a w K Q else E:=by
 rw[if_pos hw]
 have ht:w.there g (j*4) [v0,v1,v2,v3].length:=fun q hq=>by
  refine⟨?_,h.free _⟩
  obtain⟨v,hv⟩:=h.cells (j:=j*4+q) (by simp at hq;omega)
  rw[hv];rfl
 have hp:=h.put4 (j:=j) hj hr
 have hB:=(h.blk g rfl).1
 unfold Oper.wp execOp
 simp only[ho,hx,Instr.storeAt,Instr.sureAddr,Sem.run_bind,Sem.run_pure,Result.andThen_ok,run_storeVar_held hv ht hi (fun u hu=>List.all_eq_true.1 h1 u hu)]
 exact k ⟨_,below_setCells (Nat.le_trans hb hB) [v0,v1,v2,v3] (j*4) gr.out⟩ hp.1 hp.2
theorem wpAnyH_storeEnd4{S:World→Prop}{md:Region.Mode}{fuel:Nat}{listed:Array Bool}(i:Nat)(ho1:ops[i]?=some op)(hr:Region.ready md ops listed=[i])(hr2:Region.ready md ops (listed.setIfInBounds i true)=[])
  (hw:Region.wanted op (yielded ops a.tmps)=true) (ty:TypeId) (x y:Operand) (ho:op.op=.store ty x y) (j:Nat) (hx:a.eval x=.pointer (some ⟨g,j*4,none⟩)) (h:Own enc T 4 B w (some ⟨g,0,none⟩) c l) (hj:j<l.length) (r:α) {v0 v1 v2 v3:Value} (hr0:enc r=[v0,v1,v2,v3])
  (hv:(a.eval y).cells.toList=[v0,v1,v2,v3]) (hi:(P.info? ty).map (·.size)=some 4) (h1:[v0,v1,v2,v3].all (·.oneCell')=true) {w0:World} (gr:Grows w0 w) (hb:w0.heap.size≤B)
  (k:∀ z:Later w0,Own enc T 4 B z.w (some ⟨g,0,none⟩) c (l.set j r)→w.grownBy z.w (some g)→S z.w∧Q .normal (a.put op.dst undef) z.w):wpAnyH P md ops Q S (fuel+1) listed a w :=
 wpAnyH_ready hr (by simp) (AllReadyH.cons ho1 (fun K hK=>st_storeOwn4 hw ty x y ho j hx h hj r hr0 hv hi h1 gr hb fun z h2 h3=>hK.out _ _ (k z h2 h3).1 fun _=>wpAnyH_done hr2 (k z h2 h3).2 _) AllReadyH.nil)
end
end Go.Proofs.YtbaffippdifbpaaGreat
namespace Go.Proofs.YtbaffippdifbpaaGreat
set_option linter.unusedVariables false
open Go.ChangeShapes Go.WideShapes Go.ChangeAt Go.RowKit
theorem RowsIn.list{α:Type}[E:Flat α]{B n:Nat}{w:World}{D:Array Value}{l:List α}(h:RowsIn B w D l)(hl:l.length=n)(hD:D.size=n*E.size):D.toList=l.flatMap E.enc:=by
 have hfl:(l.flatMap E.enc).length=n*E.size:=by rw[flatMap_length E.encLen,hl]
 refine List.ext_getElem? fun j=>?_
 by_cases hj:j<n*E.size
 ·have hs:0<E.size:=by
   rcases Nat.eq_zero_or_pos E.size with h0|h0
   ·rw[h0]at hj;omega
   ·exact h0
  have hq:j / E.size<l.length:=by rw[hl];exact Nat.div_lt_of_lt_mul (by rw[Nat.mul_comm];exact hj)
  have hx:=List.getElem?_eq_getElem hq
  obtain⟨vs,h1,h2⟩:=h _ _ hx
  obtain⟨rfl,-⟩:=E.inv h1
  have hm:j % E.size<(E.enc l[j / E.size]).length:=by rw[E.encLen];exact Nat.mod_lt _ hs
  have hu:=List.getElem?_eq_getElem hm
  have h3:=h2 _ _ hu
  have h4:=flatMap_at E.encLen l _ _ _ _ hx hu
  have hj':j / E.size*E.size+j % E.size=j:=by rw[Nat.mul_comm];exact Nat.div_add_mod _ _
  rw[hj']at h3 h4
  rw[h4,Array.getElem?_toList,h3]
 ·rw[List.getElem?_eq_none (by rw[Array.length_toList];omega),List.getElem?_eq_none (by omega)]
theorem RowsIn.own{α:Type}[E:Flat α]{B n:Nat}{W:World}{D:Array Value}{l:List α}(x:Later (W.alloc (.cells D E.ty)))(h:RowsIn B x.w D l)(hl:l.length=n)(hm:n≤1048576)(hD:D.size=n*E.size):Own E.enc E.ty E.size W.heap.size x.w (some ⟨W.heap.size,0,none⟩) n l :=
 own_block E.encLen hl (by omega) (Nat.le_refl _) hD (h.list hl hD) x
theorem o_ltoIntS{B:Nat}{a:Option Addr}{c:Nat}{l:List Int}{w:World}(hs:RdS B w a c l)(ht:totL l≤1048576) :
  Calls Tryz.prog 286 #[.slice a l.length c] w (GivesOS w l):=by
 have hln:=totL_len l
 have HT:=lH (show ∀ x∈l,Enc.tot x≤1048576 from fun x hx=>Int.le_trans (totL_mem hx) ht)
 obtain⟨n,hn⟩:∃ n,l.length=n:=⟨_,rfl⟩
 have HN:=lH hn
 have hm:n≤1048576:=by omega
 rw[hn];clear ht hln hn
 obtain⟨C,hC,hmk⟩:=run_mk (P:=Tryz.prog) Tryz.underlying48 (e:=3) (z:=.int .i64 0) (size:=1) (bytes:=8) (by kernel_rfl) n (by omega) (by omega)
 have hCz:C.size=n:=by rw[hC,size_madeCells,Nat.mul_one]
 clear hC
 go_enter Tryz.func286,Tryz.ntmps286
 go_wp2_with fail
 clear hmk
 go_loopw [4] (fun v wr=>∃ k:Nat,v=.int .i64 k∧k≤n∧∃ (D:Array Value) (x:Later (w.alloc (.cells D 3))),D.size=n∧Hid (RowsIn (w.heap.size+1) x.w D (l.take k))∧wr=x.w) (fun v _=>(n - intOf v).toNat)
 case atStart=>exact⟨0,rfl,by omega,C,Later.here _,hCz,by rw[List.take_zero];exact RowsIn.nil,rfl⟩
 case round =>
  obtain⟨k,rfl,hk,D,x,hDz,hf,rfl⟩:=hrel
  by_cases h:k<n
  ·have hlk:k<l.length:=by have:=HN.out;omega
   obtain⟨eb,eoff,ex,rfl,ehb,ehd,eok,eh0⟩:=hs.atInt (show k<l.length by omega)
   obtain⟨o0,g0⟩:=getD_lt hDz (show k<n by omega)
   go_wp2_with fail
   go_roundw
   case rel =>
    obtain⟨x2,hx2⟩:=Later.set1_at x k (.int .i64 ex)
    rw[hx2]
    have hP:=RowsIn.put (W':=x2.w) hf.out ehd.out h HN.out (show D.size=n*1 by omega) (vs:=[.int .i64 ex]) ⟨rfl,eok⟩ (by rw[← hx2];infer_instance)
    rw[show k*Enc.size Int=k from Nat.mul_one k]at hP
    exact⟨k+1,by go_num,by omega,D.setIfInBounds k _,x2,by simpa using hDz,hP,rfl⟩
   case measure=>simp[intOf];omega
  ·go_wp2_with fail
   go_ret
   have hf2:=hf.out
   rw[List.take_of_length_le (by have:=HN.out;omega)]at hf2
   exact⟨_,n,by rw[HN.out];rfl,OwnC.of (E:=Flat.iInt) (RowsIn.own (E:=Flat.iInt) x hf2 HN.out hm (by rw[hDz];exact(Nat.mul_one n).symm)) (RdS.goods (E:=Flat.iInt) hs) _,⟨x.w,Grows.out⟩,rfl⟩
theorem o_ltoBoolS{B:Nat}{a:Option Addr}{c:Nat}{l:List Bool}{w:World}(hs:RdS B w a c l)(ht:totL l≤1048576) :
  Calls Tryz.prog 210 #[.slice a l.length c] w (GivesOS w l):=by
 have hln:=totL_len l
 have HT:=lH (show ∀ x∈l,Enc.tot x≤1048576 from fun x hx=>Int.le_trans (totL_mem hx) ht)
 obtain⟨n,hn⟩:∃ n,l.length=n:=⟨_,rfl⟩
 have HN:=lH hn
 have hm:n≤1048576:=by omega
 rw[hn];clear ht hln hn
 obtain⟨C,hC,hmk⟩:=run_mk (P:=Tryz.prog) Tryz.underlying43 (e:=4) (z:=.bool false) (size:=1) (bytes:=1) (by kernel_rfl) n (by omega) (by omega)
 have hCz:C.size=n:=by rw[hC,size_madeCells,Nat.mul_one]
 clear hC
 go_enter Tryz.func210,Tryz.ntmps210
 go_wp2_with fail
 clear hmk
 go_loopw [4] (fun v wr=>∃ k:Nat,v=.int .i64 k∧k≤n∧∃ (D:Array Value) (x:Later (w.alloc (.cells D 4))),D.size=n∧Hid (RowsIn (w.heap.size+1) x.w D (l.take k))∧wr=x.w) (fun v _=>(n - intOf v).toNat)
 case atStart=>exact⟨0,rfl,by omega,C,Later.here _,hCz,by rw[List.take_zero];exact RowsIn.nil,rfl⟩
 case round =>
  obtain⟨k,rfl,hk,D,x,hDz,hf,rfl⟩:=hrel
  by_cases h:k<n
  ·have hlk:k<l.length:=by have:=HN.out;omega
   obtain⟨eb,eoff,ex,rfl,ehb,ehd,eh0⟩:=hs.atBool (show k<l.length by omega)
   obtain⟨o0,g0⟩:=getD_lt hDz (show k<n by omega)
   go_wp2_with fail
   go_roundw
   case rel =>
    obtain⟨x2,hx2⟩:=Later.set1_at x k (.bool ex)
    rw[hx2]
    have hP:=RowsIn.put (W':=x2.w) hf.out ehd.out h HN.out (show D.size=n*1 by omega) (vs:=[.bool ex]) rfl (by rw[← hx2];infer_instance)
    rw[show k*Enc.size Bool=k from Nat.mul_one k]at hP
    exact⟨k+1,by go_num,by omega,D.setIfInBounds k _,x2,by simpa using hDz,hP,rfl⟩
   case measure=>simp[intOf];omega
  ·go_wp2_with fail
   go_ret
   have hf2:=hf.out
   rw[List.take_of_length_le (by have:=HN.out;omega)]at hf2
   exact⟨_,n,by rw[HN.out];rfl,OwnC.of (E:=Flat.iBool) (RowsIn.own (E:=Flat.iBool) x hf2 HN.out hm (by rw[hDz];exact(Nat.mul_one n).symm)) (RdS.goods (E:=Flat.iBool) hs) _,⟨x.w,Grows.out⟩,rfl⟩
theorem o_ltoStringS{B:Nat}{a:Option Addr}{c:Nat}{l:List ByteArray}{w:World}(hs:RdS B w a c l)(ht:totL l≤1048576) :
  Calls Tryz.prog 23 #[.slice a l.length c] w (GivesOS w l):=by
 have hln:=totL_len l
 have HT:=lH (show ∀ x∈l,Enc.tot x≤1048576 from fun x hx=>Int.le_trans (totL_mem hx) ht)
 obtain⟨n,hn⟩:∃ n,l.length=n:=⟨_,rfl⟩
 have HN:=lH hn
 have hm:n≤1048576:=by omega
 rw[hn];clear ht hln hn
 obtain⟨C,hC,hmk⟩:=run_mk (P:=Tryz.prog) Tryz.underlying32 (e:=9) (z:=.string ByteArray.empty) (size:=1) (bytes:=16) (by kernel_rfl) n (by omega) (by omega)
 have hCz:C.size=n:=by rw[hC,size_madeCells,Nat.mul_one]
 clear hC
 go_enter Tryz.func23,Tryz.ntmps23
 go_wp2_with fail
 clear hmk
 go_loopw [4] (fun v wr=>∃ k:Nat,v=.int .i64 k∧k≤n∧∃ (D:Array Value) (x:Later (w.alloc (.cells D 9))),D.size=n∧Hid (RowsIn (w.heap.size+1) x.w D (l.take k))∧wr=x.w) (fun v _=>(n - intOf v).toNat)
 case atStart=>exact⟨0,rfl,by omega,C,Later.here _,hCz,by rw[List.take_zero];exact RowsIn.nil,rfl⟩
 case round =>
  obtain⟨k,rfl,hk,D,x,hDz,hf,rfl⟩:=hrel
  by_cases h:k<n
  ·have hlk:k<l.length:=by have:=HN.out;omega
   obtain⟨eb,eoff,ex,rfl,ehb,ehd,eok,eh0⟩:=hs.atStr (show k<l.length by omega)
   obtain⟨o0,g0⟩:=getD_lt hDz (show k<n by omega)
   go_wp2_with fail
   go_roundw
   case rel =>
    obtain⟨x2,hx2⟩:=Later.set1_at x k (.string ex)
    rw[hx2]
    have hP:=RowsIn.put (W':=x2.w) hf.out ehd.out h HN.out (show D.size=n*1 by omega) (vs:=[.string ex]) ⟨rfl,eok⟩ (by rw[← hx2];infer_instance)
    rw[show k*Enc.size ByteArray=k from Nat.mul_one k]at hP
    exact⟨k+1,by go_num,by omega,D.setIfInBounds k _,x2,by simpa using hDz,hP,rfl⟩
   case measure=>simp[intOf];omega
  ·go_wp2_with fail
   go_ret
   have hf2:=hf.out
   rw[List.take_of_length_le (by have:=HN.out;omega)]at hf2
   exact⟨_,n,by rw[HN.out];rfl,OwnC.of (E:=Flat.iByteArray) (RowsIn.own (E:=Flat.iByteArray) x hf2 HN.out hm (by rw[hDz];exact(Nat.mul_one n).symm)) (RdS.goods (E:=Flat.iByteArray) hs) _,⟨x.w,Grows.out⟩,rfl⟩
theorem o_ltoSlotS{B:Nat}{a:Option Addr}{c:Nat}{l:List Slot}{w:World}(hs:RdS B w a c l)(ht:totL l≤1048576) :
  Calls Tryz.prog 94 #[.slice a l.length c] w (GivesOS w l):=by
 have hln:=totL_len l
 have HT:=lH (show ∀ x∈l,Enc.tot x≤1048576 from fun x hx=>Int.le_trans (totL_mem hx) ht)
 obtain⟨n,hn⟩:∃ n,l.length=n:=⟨_,rfl⟩
 have HN:=lH hn
 have hm:n≤1048576:=by omega
 rw[hn];clear ht hln hn
 obtain⟨C,hC,hmk⟩:=run_mk (P:=Tryz.prog) Tryz.underlying28 (e:=205) (z:=.agg #[.int .i64 0,.int .i64 0]) (size:=2) (bytes:=16) (by kernel_rfl) n (by omega) (by omega)
 have hCz:C.size=n*2:=by rw[hC,size_madeCells]
 clear hC
 go_enter Tryz.func94,Tryz.ntmps94
 go_wp2_with fail
 clear hmk
 go_loopw [4] (fun v wr=>∃ k:Nat,v=.int .i64 k∧k≤n∧∃ (D:Array Value) (x:Later (w.alloc (.cells D 205))),D.size=n*2∧Hid (RowsIn (w.heap.size+1) x.w D (l.take k))∧wr=x.w) (fun v _=>(n - intOf v).toNat)
 case atStart=>exact⟨0,rfl,by omega,C,Later.here _,hCz,by rw[List.take_zero];exact RowsIn.nil,rfl⟩
 case round =>
  obtain⟨k,rfl,hk,D,x,hDz,hf,rfl⟩:=hrel
  by_cases h:k<n
  ·have hlk:k<l.length:=by have:=HN.out;omega
   obtain⟨eb,eoff,ex,rfl,ehb,ehd,eok,eh0,eh1⟩:=hs.atSlot (show k<l.length by omega)
   obtain⟨o0,g0⟩:=getD_lt hDz (show k*2<n*2 by omega)
   obtain⟨o1,g1⟩:=getD_lt hDz (show k*2+1<n*2 by omega)
   have hte:=HT.out ex (List.mem_of_mem_drop (by rw[ehd.out];exact List.mem_cons_self ..))
   have HEOK:=lH eok;clear eok
   go_wp2_with fail
   refine(d_ltoSlot (B:=0) (x:=ex) ⟨rfl,HEOK.out⟩ hte).mono ?_
   rintro _ _ ⟨_,rfl,⟨rfl,-⟩,y,rfl⟩
   clear hte
   go_wp2_with fail
   go_roundw
   case rel =>
    obtain⟨x2,hx2⟩:=Later.set2_at (x.andThen y) (k*2) (k*2+1) (.int .i64 ex.Time) (.int .i64 ex.Id)
    rw[hx2]
    have hP:=RowsIn.put (W':=x2.w) hf.out ehd.out h HN.out hDz (vs:=[.int .i64 ex.Time,.int .i64 ex.Id]) ⟨rfl,HEOK.out⟩ (by rw[← hx2];infer_instance)
    exact⟨k+1,by go_num,by omega,_,x2,by simpa using hDz,hP,rfl⟩
   case measure=>simp[intOf];omega
  ·go_wp2_with fail
   go_ret
   have hf2:=hf.out
   rw[List.take_of_length_le (by have:=HN.out;omega)]at hf2
   exact⟨_,n,by rw[HN.out];rfl,OwnC.of (E:=Flat.iSlot) (RowsIn.own (E:=Flat.iSlot) x hf2 HN.out hm (by rw[hDz];rfl)) (RdS.goods (E:=Flat.iSlot) hs) _,⟨x.w,Grows.out⟩,rfl⟩
theorem o_ltoPairS{B:Nat}{a:Option Addr}{c:Nat}{l:List Pair}{w:World}(hs:RdS B w a c l)(ht:totL l≤1048576) :
  Calls Tryz.prog 207 #[.slice a l.length c] w (GivesOS w l):=by
 have hln:=totL_len l
 have HT:=lH (show ∀ x∈l,Enc.tot x≤1048576 from fun x hx=>Int.le_trans (totL_mem hx) ht)
 obtain⟨n,hn⟩:∃ n,l.length=n:=⟨_,rfl⟩
 have HN:=lH hn
 have hm:n≤1048576:=by omega
 rw[hn];clear ht hln hn
 obtain⟨C,hC,hmk⟩:=run_mk (P:=Tryz.prog) Tryz.underlying40 (e:=221) (z:=.agg #[.int .i64 0,.int .i64 0]) (size:=2) (bytes:=16) (by kernel_rfl) n (by omega) (by omega)
 have hCz:C.size=n*2:=by rw[hC,size_madeCells]
 clear hC
 go_enter Tryz.func207,Tryz.ntmps207
 go_wp2_with fail
 clear hmk
 go_loopw [4] (fun v wr=>∃ k:Nat,v=.int .i64 k∧k≤n∧∃ (D:Array Value) (x:Later (w.alloc (.cells D 221))),D.size=n*2∧Hid (RowsIn (w.heap.size+1) x.w D (l.take k))∧wr=x.w) (fun v _=>(n - intOf v).toNat)
 case atStart=>exact⟨0,rfl,by omega,C,Later.here _,hCz,by rw[List.take_zero];exact RowsIn.nil,rfl⟩
 case round =>
  obtain⟨k,rfl,hk,D,x,hDz,hf,rfl⟩:=hrel
  by_cases h:k<n
  ·have hlk:k<l.length:=by have:=HN.out;omega
   obtain⟨eb,eoff,ex,rfl,ehb,ehd,eok,eh0,eh1⟩:=hs.atPair (show k<l.length by omega)
   obtain⟨o0,g0⟩:=getD_lt hDz (show k*2<n*2 by omega)
   obtain⟨o1,g1⟩:=getD_lt hDz (show k*2+1<n*2 by omega)
   have hte:=HT.out ex (List.mem_of_mem_drop (by rw[ehd.out];exact List.mem_cons_self ..))
   have HEOK:=lH eok;clear eok
   go_wp2_with fail
   refine(d_ltoPair (B:=0) (x:=ex) ⟨rfl,HEOK.out⟩ hte).mono ?_
   rintro _ _ ⟨_,rfl,⟨rfl,-⟩,y,rfl⟩
   clear hte
   go_wp2_with fail
   go_roundw
   case rel =>
    obtain⟨x2,hx2⟩:=Later.set2_at (x.andThen y) (k*2) (k*2+1) (.int .i64 ex.Board) (.int .i64 ex.True)
    rw[hx2]
    have hP:=RowsIn.put (W':=x2.w) hf.out ehd.out h HN.out hDz (vs:=[.int .i64 ex.Board,.int .i64 ex.True]) ⟨rfl,HEOK.out⟩ (by rw[← hx2];infer_instance)
    exact⟨k+1,by go_num,by omega,_,x2,by simpa using hDz,hP,rfl⟩
   case measure=>simp[intOf];omega
  ·go_wp2_with fail
   go_ret
   have hf2:=hf.out
   rw[List.take_of_length_le (by have:=HN.out;omega)]at hf2
   exact⟨_,n,by rw[HN.out];rfl,OwnC.of (E:=Flat.iPair) (RowsIn.own (E:=Flat.iPair) x hf2 HN.out hm (by rw[hDz];rfl)) (RdS.goods (E:=Flat.iPair) hs) _,⟨x.w,Grows.out⟩,rfl⟩
theorem o_ltoFlightS{B:Nat}{a:Option Addr}{c:Nat}{l:List TFlight}{w:World}(hs:RdS B w a c l)(ht:totL l≤1048576) :
  Calls Tryz.prog 95 #[.slice a l.length c] w (GivesOS w l):=by
 have hln:=totL_len l
 have HT:=lH (show ∀ x∈l,Enc.tot x≤1048576 from fun x hx=>Int.le_trans (totL_mem hx) ht)
 obtain⟨n,hn⟩:∃ n,l.length=n:=⟨_,rfl⟩
 have HN:=lH hn
 have hm:n≤1048576:=by omega
 rw[hn];clear ht hln hn
 obtain⟨C,hC,hmk⟩:=run_mk (P:=Tryz.prog) Tryz.underlying31 (e:=230) (z:=.agg #[.int .i64 0,.string ByteArray.empty]) (size:=2) (bytes:=24) (by kernel_rfl) n (by omega) (by omega)
 have hCz:C.size=n*2:=by rw[hC,size_madeCells]
 clear hC
 go_enter Tryz.func95,Tryz.ntmps95
 go_wp2_with fail
 clear hmk
 go_loopw [4] (fun v wr=>∃ k:Nat,v=.int .i64 k∧k≤n∧∃ (D:Array Value) (x:Later (w.alloc (.cells D 230))),D.size=n*2∧Hid (RowsIn (w.heap.size+1) x.w D (l.take k))∧wr=x.w) (fun v _=>(n - intOf v).toNat)
 case atStart=>exact⟨0,rfl,by omega,C,Later.here _,hCz,by rw[List.take_zero];exact RowsIn.nil,rfl⟩
 case round =>
  obtain⟨k,rfl,hk,D,x,hDz,hf,rfl⟩:=hrel
  by_cases h:k<n
  ·have hlk:k<l.length:=by have:=HN.out;omega
   obtain⟨eb,eoff,ex,rfl,ehb,ehd,eok,eh0,eh1⟩:=hs.atTFlight (show k<l.length by omega)
   obtain⟨o0,g0⟩:=getD_lt hDz (show k*2<n*2 by omega)
   obtain⟨o1,g1⟩:=getD_lt hDz (show k*2+1<n*2 by omega)
   have hte:=HT.out ex (List.mem_of_mem_drop (by rw[ehd.out];exact List.mem_cons_self ..))
   have HEOK:=lH eok;clear eok
   go_wp2_with fail
   refine(d_ltoFlight (B:=0) (x:=ex) ⟨rfl,HEOK.out⟩ hte).mono ?_
   rintro _ _ ⟨_,rfl,⟨rfl,-⟩,y,rfl⟩
   clear hte
   go_wp2_with fail
   go_roundw
   case rel =>
    obtain⟨x2,hx2⟩:=Later.set2_at (x.andThen y) (k*2) (k*2+1) (.int .i64 ex.At) (.string ex.Data)
    rw[hx2]
    have hP:=RowsIn.put (W':=x2.w) hf.out ehd.out h HN.out hDz (vs:=[.int .i64 ex.At,.string ex.Data]) ⟨rfl,HEOK.out⟩ (by rw[← hx2];infer_instance)
    exact⟨k+1,by go_num,by omega,_,x2,by simpa using hDz,hP,rfl⟩
   case measure=>simp[intOf];omega
  ·go_wp2_with fail
   go_ret
   have hf2:=hf.out
   rw[List.take_of_length_le (by have:=HN.out;omega)]at hf2
   exact⟨_,n,by rw[HN.out];rfl,OwnC.of (E:=Flat.iTFlight) (RowsIn.own (E:=Flat.iTFlight) x hf2 HN.out hm (by rw[hDz];rfl)) (RdS.goods (E:=Flat.iTFlight) hs) _,⟨x.w,Grows.out⟩,rfl⟩
theorem o_ltoRecordS{B:Nat}{a:Option Addr}{c:Nat}{l:List TRecord}{w:World}(hs:RdS B w a c l)(ht:totL l≤1048576) :
  Calls Tryz.prog 208 #[.slice a l.length c] w (GivesOS w l):=by
 have hln:=totL_len l
 have HT:=lH (show ∀ x∈l,Enc.tot x≤1048576 from fun x hx=>Int.le_trans (totL_mem hx) ht)
 obtain⟨n,hn⟩:∃ n,l.length=n:=⟨_,rfl⟩
 have HN:=lH hn
 have hm:n≤1048576:=by omega
 rw[hn];clear ht hln hn
 obtain⟨C,hC,hmk⟩:=run_mk (P:=Tryz.prog) Tryz.underlying41 (e:=218) (z:=.agg #[.int .i64 0,.int .i64 0,.int .i64 0,.string ByteArray.empty]) (size:=4) (bytes:=40) (by kernel_rfl) n (by omega) (by omega)
 have hCz:C.size=n*4:=by rw[hC,size_madeCells]
 clear hC
 go_enter Tryz.func208,Tryz.ntmps208
 go_wp2_with fail
 clear hmk
 go_loopw [4] (fun v wr=>∃ k:Nat,v=.int .i64 k∧k≤n∧∃ (D:Array Value) (x:Later (w.alloc (.cells D 218))),D.size=n*4∧Hid (RowsIn (w.heap.size+1) x.w D (l.take k))∧wr=x.w) (fun v _=>(n - intOf v).toNat)
 case atStart=>exact⟨0,rfl,by omega,C,Later.here _,hCz,by rw[List.take_zero];exact RowsIn.nil,rfl⟩
 case round =>
  obtain⟨k,rfl,hk,D,x,hDz,hf,rfl⟩:=hrel
  by_cases h:k<n
  ·have hlk:k<l.length:=by have:=HN.out;omega
   obtain⟨eb,eoff,ex,rfl,ehb,ehd,eok,eh0,eh1,eh2,eh3⟩:=hs.atTRecord (show k<l.length by omega)
   obtain⟨o0,g0⟩:=getD_lt hDz (show k*4<n*4 by omega)
   obtain⟨o1,g1⟩:=getD_lt hDz (show k*4+1<n*4 by omega)
   obtain⟨o2,g2⟩:=getD_lt hDz (show k*4+2<n*4 by omega)
   obtain⟨o3,g3⟩:=getD_lt hDz (show k*4+3<n*4 by omega)
   have hte:=HT.out ex (List.mem_of_mem_drop (by rw[ehd.out];exact List.mem_cons_self ..))
   have HEOK:=lH eok;clear eok
   go_wp2_with fail
   refine(d_ltoRecord (B:=0) (x:=ex) ⟨rfl,HEOK.out⟩ hte).mono ?_
   rintro _ _ ⟨_,rfl,⟨rfl,-⟩,y,rfl⟩
   clear hte
   go_wp2_with fail
   go_roundw
   case rel =>
    obtain⟨x2,hx2⟩:=Later.set4_at (x.andThen y) (k*4) (k*4+1) (k*4+2) (k*4+3) (.int .i64 ex.Id) (.int .i64 ex.Priority) (.int .i64 ex.Time) (.string ex.Data)
    rw[hx2]
    have hP:=RowsIn.put (W':=x2.w) hf.out ehd.out h HN.out hDz (vs:=[.int .i64 ex.Id,.int .i64 ex.Priority,.int .i64 ex.Time,.string ex.Data]) ⟨rfl,HEOK.out⟩ (by rw[← hx2];infer_instance)
    exact⟨k+1,by go_num,by omega,_,x2,by simpa using hDz,hP,rfl⟩
   case measure=>simp[intOf];omega
  ·go_wp2_with fail
   go_ret
   have hf2:=hf.out
   rw[List.take_of_length_le (by have:=HN.out;omega)]at hf2
   exact⟨_,n,by rw[HN.out];rfl,OwnC.of (E:=Flat.iTRecord) (RowsIn.own (E:=Flat.iTRecord) x hf2 HN.out hm (by rw[hDz];rfl)) (RdS.goods (E:=Flat.iTRecord) hs) _,⟨x.w,Grows.out⟩,rfl⟩
theorem o_ltoWaitingS{B:Nat}{a:Option Addr}{c:Nat}{l:List TWaiting}{w:World}(hs:RdS B w a c l)(ht:totL l≤1048576) :
  Calls Tryz.prog 287 #[.slice a l.length c] w (GivesOS w l):=by
 have hln:=totL_len l
 have HT:=lH (show ∀ x∈l,Enc.tot x≤1048576 from fun x hx=>Int.le_trans (totL_mem hx) ht)
 obtain⟨n,hn⟩:∃ n,l.length=n:=⟨_,rfl⟩
 have HN:=lH hn
 have hm:n≤1048576:=by omega
 rw[hn];clear ht hln hn
 obtain⟨C,hC,hmk⟩:=run_mk (P:=Tryz.prog) Tryz.underlying50 (e:=212) (z:=.agg #[.int .i64 0,.int .i64 0,.int .i64 0,.int .i64 0,.int .i64 0]) (size:=5) (bytes:=40) (by kernel_rfl) n (by omega) (by omega)
 have hCz:C.size=n*5:=by rw[hC,size_madeCells]
 clear hC
 go_enter Tryz.func287,Tryz.ntmps287
 go_wp2_with fail
 clear hmk
 go_loopw [4] (fun v wr=>∃ k:Nat,v=.int .i64 k∧k≤n∧∃ (D:Array Value) (x:Later (w.alloc (.cells D 212))),D.size=n*5∧Hid (RowsIn (w.heap.size+1) x.w D (l.take k))∧wr=x.w) (fun v _=>(n - intOf v).toNat)
 case atStart=>exact⟨0,rfl,by omega,C,Later.here _,hCz,by rw[List.take_zero];exact RowsIn.nil,rfl⟩
 case round =>
  obtain⟨k,rfl,hk,D,x,hDz,hf,rfl⟩:=hrel
  by_cases h:k<n
  ·have hlk:k<l.length:=by have:=HN.out;omega
   obtain⟨eb,eoff,ex,rfl,ehb,ehd,eok,eh0,eh1,eh2,eh3,eh4⟩:=hs.atTWaiting (show k<l.length by omega)
   obtain⟨o0,g0⟩:=getD_lt hDz (show k*5<n*5 by omega)
   obtain⟨o1,g1⟩:=getD_lt hDz (show k*5+1<n*5 by omega)
   obtain⟨o2,g2⟩:=getD_lt hDz (show k*5+2<n*5 by omega)
   obtain⟨o3,g3⟩:=getD_lt hDz (show k*5+3<n*5 by omega)
   obtain⟨o4,g4⟩:=getD_lt hDz (show k*5+4<n*5 by omega)
   have hte:=HT.out ex (List.mem_of_mem_drop (by rw[ehd.out];exact List.mem_cons_self ..))
   have HEOK:=lH eok;clear eok
   go_wp2_with fail
   refine(d_ltoWaiting (B:=0) (x:=ex) ⟨rfl,HEOK.out⟩ hte).mono ?_
   rintro _ _ ⟨_,rfl,⟨rfl,-⟩,y,rfl⟩
   clear hte
   go_wp2_with fail
   go_roundw
   case rel =>
    obtain⟨x2,hx2⟩:=Later.set5_at (x.andThen y) (k*5) (k*5+1) (k*5+2) (k*5+3) (k*5+4) (.int .i64 ex.Number) (.int .i64 ex.Order.Kind) (.int .i64 ex.Order.At) (.int .i64 ex.Order.A) (.int .i64 ex.Order.B)
    rw[hx2]
    have hP:=RowsIn.put (W':=x2.w) hf.out ehd.out h HN.out hDz (vs:=[.int .i64 ex.Number,.int .i64 ex.Order.Kind,.int .i64 ex.Order.At,.int .i64 ex.Order.A,.int .i64 ex.Order.B]) ⟨rfl,HEOK.out⟩ (by rw[← hx2];infer_instance)
    exact⟨k+1,by go_num,by omega,_,x2,by simpa using hDz,hP,rfl⟩
   case measure=>simp[intOf];omega
  ·go_wp2_with fail
   go_ret
   have hf2:=hf.out
   rw[List.take_of_length_le (by have:=HN.out;omega)]at hf2
   exact⟨_,n,by rw[HN.out];rfl,OwnC.of (E:=Flat.iTWaiting) (RowsIn.own (E:=Flat.iTWaiting) x hf2 HN.out hm (by rw[hDz];rfl)) (RdS.goods (E:=Flat.iTWaiting) hs) _,⟨x.w,Grows.out⟩,rfl⟩
theorem o_ltoLimitS{B:Nat}{a:Option Addr}{c:Nat}{l:List TLimit}{w:World}(hs:RdS B w a c l)(ht:totL l≤1048576) :
  Calls Tryz.prog 22 #[.slice a l.length c] w (GivesOS w l):=by
 have hln:=totL_len l
 have HT:=lH (show ∀ x∈l,Enc.tot x≤1048576 from fun x hx=>Int.le_trans (totL_mem hx) ht)
 obtain⟨n,hn⟩:∃ n,l.length=n:=⟨_,rfl⟩
 have HN:=lH hn
 have hm:n≤1048576:=by omega
 rw[hn];clear ht hln hn
 obtain⟨C,hC,hmk⟩:=run_mk (P:=Tryz.prog) Tryz.underlying49 (e:=149) (z:=.agg #[.int .i64 0,.int .i64 0,.int .i64 0]) (size:=3) (bytes:=24) (by kernel_rfl) n (by omega) (by omega)
 have hCz:C.size=n*3:=by rw[hC,size_madeCells]
 clear hC
 go_enter Tryz.func22,Tryz.ntmps22
 go_wp2_with fail
 clear hmk
 go_loopw [4] (fun v wr=>∃ k:Nat,v=.int .i64 k∧k≤n∧∃ (D:Array Value) (x:Later (w.alloc (.cells D 149))),D.size=n*3∧Hid (RowsIn (w.heap.size+1) x.w D (l.take k))∧wr=x.w) (fun v _=>(n - intOf v).toNat)
 case atStart=>exact⟨0,rfl,by omega,C,Later.here _,hCz,by rw[List.take_zero];exact RowsIn.nil,rfl⟩
 case round =>
  obtain⟨k,rfl,hk,D,x,hDz,hf,rfl⟩:=hrel
  by_cases h:k<n
  ·have hlk:k<l.length:=by have:=HN.out;omega
   obtain⟨eb,eoff,ex,rfl,ehb,ehd,eok,eh0,eh1,eh2⟩:=hs.atTLimit (show k<l.length by omega)
   obtain⟨o0,g0⟩:=getD_lt hDz (show k*3<n*3 by omega)
   obtain⟨o1,g1⟩:=getD_lt hDz (show k*3+1<n*3 by omega)
   obtain⟨o2,g2⟩:=getD_lt hDz (show k*3+2<n*3 by omega)
   have hte:=HT.out ex (List.mem_of_mem_drop (by rw[ehd.out];exact List.mem_cons_self ..))
   have HEOK:=lH eok;clear eok
   go_wp2_with fail
   refine(d_ltoLimit (B:=0) (x:=ex) ⟨rfl,HEOK.out⟩ hte).mono ?_
   rintro _ _ ⟨_,rfl,⟨rfl,-⟩,y,rfl⟩
   clear hte
   go_wp2_with fail
   go_roundw
   case rel =>
    obtain⟨x2,hx2⟩:=Later.set3_at (x.andThen y) (k*3) (k*3+1) (k*3+2) (.int .i64 ex.Param) (.int .i64 ex.Low) (.int .i64 ex.High)
    rw[hx2]
    have hP:=RowsIn.put (W':=x2.w) hf.out ehd.out h HN.out hDz (vs:=[.int .i64 ex.Param,.int .i64 ex.Low,.int .i64 ex.High]) ⟨rfl,HEOK.out⟩ (by rw[← hx2];infer_instance)
    exact⟨k+1,by go_num,by omega,_,x2,by simpa using hDz,hP,rfl⟩
   case measure=>simp[intOf];omega
  ·go_wp2_with fail
   go_ret
   have hf2:=hf.out
   rw[List.take_of_length_le (by have:=HN.out;omega)]at hf2
   exact⟨_,n,by rw[HN.out];rfl,OwnC.of (E:=Flat.iTLimit) (RowsIn.own (E:=Flat.iTLimit) x hf2 HN.out hm (by rw[hDz];rfl)) (RdS.goods (E:=Flat.iTLimit) hs) _,⟨x.w,Grows.out⟩,rfl⟩
theorem o_ltoDoneS{B:Nat}{a:Option Addr}{c:Nat}{l:List TDone}{w:World}(hs:RdS B w a c l)(ht:totL l≤1048576) :
  Calls Tryz.prog 288 #[.slice a l.length c] w (GivesOS w l):=by
 have hln:=totL_len l
 have HT:=lH (show ∀ x∈l,Enc.tot x≤1048576 from fun x hx=>Int.le_trans (totL_mem hx) ht)
 obtain⟨n,hn⟩:∃ n,l.length=n:=⟨_,rfl⟩
 have HN:=lH hn
 have hm:n≤1048576:=by omega
 rw[hn];clear ht hln hn
 obtain⟨C,hC,hmk⟩:=run_mk (P:=Tryz.prog) Tryz.underlying51 (e:=214) (z:=.agg #[.int .i64 0,.int .i64 0,.int .i64 0]) (size:=3) (bytes:=24) (by kernel_rfl) n (by omega) (by omega)
 have hCz:C.size=n*3:=by rw[hC,size_madeCells]
 clear hC
 go_enter Tryz.func288,Tryz.ntmps288
 go_wp2_with fail
 clear hmk
 go_loopw [4] (fun v wr=>∃ k:Nat,v=.int .i64 k∧k≤n∧∃ (D:Array Value) (x:Later (w.alloc (.cells D 214))),D.size=n*3∧Hid (RowsIn (w.heap.size+1) x.w D (l.take k))∧wr=x.w) (fun v _=>(n - intOf v).toNat)
 case atStart=>exact⟨0,rfl,by omega,C,Later.here _,hCz,by rw[List.take_zero];exact RowsIn.nil,rfl⟩
 case round =>
  obtain⟨k,rfl,hk,D,x,hDz,hf,rfl⟩:=hrel
  by_cases h:k<n
  ·have hlk:k<l.length:=by have:=HN.out;omega
   obtain⟨eb,eoff,ex,rfl,ehb,ehd,eok,eh0,eh1,eh2⟩:=hs.atTDone (show k<l.length by omega)
   obtain⟨o0,g0⟩:=getD_lt hDz (show k*3<n*3 by omega)
   obtain⟨o1,g1⟩:=getD_lt hDz (show k*3+1<n*3 by omega)
   obtain⟨o2,g2⟩:=getD_lt hDz (show k*3+2<n*3 by omega)
   have hte:=HT.out ex (List.mem_of_mem_drop (by rw[ehd.out];exact List.mem_cons_self ..))
   have HEOK:=lH eok;clear eok
   go_wp2_with fail
   refine(d_ltoDone (B:=0) (x:=ex) ⟨rfl,HEOK.out⟩ hte).mono ?_
   rintro _ _ ⟨_,rfl,⟨rfl,-⟩,y,rfl⟩
   clear hte
   go_wp2_with fail
   go_roundw
   case rel =>
    obtain⟨x2,hx2⟩:=Later.set3_at (x.andThen y) (k*3) (k*3+1) (k*3+2) (.int .i64 ex.Number) (.int .i64 ex.Time) (.int .i64 ex.Result)
    rw[hx2]
    have hP:=RowsIn.put (W':=x2.w) hf.out ehd.out h HN.out hDz (vs:=[.int .i64 ex.Number,.int .i64 ex.Time,.int .i64 ex.Result]) ⟨rfl,HEOK.out⟩ (by rw[← hx2];infer_instance)
    exact⟨k+1,by go_num,by omega,_,x2,by simpa using hDz,hP,rfl⟩
   case measure=>simp[intOf];omega
  ·go_wp2_with fail
   go_ret
   have hf2:=hf.out
   rw[List.take_of_length_le (by have:=HN.out;omega)]at hf2
   exact⟨_,n,by rw[HN.out];rfl,OwnC.of (E:=Flat.iTDone) (RowsIn.own (E:=Flat.iTDone) x hf2 HN.out hm (by rw[hDz];rfl)) (RdS.goods (E:=Flat.iTDone) hs) _,⟨x.w,Grows.out⟩,rfl⟩
theorem o_ltoSentS{B:Nat}{a:Option Addr}{c:Nat}{l:List TSent}{w:World}(hs:RdS B w a c l)(ht:totL l≤1048576) :
  Calls Tryz.prog 282 #[.slice a l.length c] w (GivesOS w l):=by
 have hln:=totL_len l
 have HT:=lH (show ∀ x∈l,Enc.tot x≤1048576 from fun x hx=>Int.le_trans (totL_mem hx) ht)
 obtain⟨n,hn⟩:∃ n,l.length=n:=⟨_,rfl⟩
 have HN:=lH hn
 have hm:n≤1048576:=by omega
 rw[hn];clear ht hln hn
 obtain⟨C,hC,hmk⟩:=run_mk (P:=Tryz.prog) Tryz.underlying33 (e:=295) (z:=.agg #[.int .i64 0,.string ByteArray.empty]) (size:=2) (bytes:=24) (by kernel_rfl) n (by omega) (by omega)
 have hCz:C.size=n*2:=by rw[hC,size_madeCells]
 clear hC
 go_enter Tryz.func282,Tryz.ntmps282
 go_wp2_with fail
 clear hmk
 go_loopw [4] (fun v wr=>∃ k:Nat,v=.int .i64 k∧k≤n∧∃ (D:Array Value) (x:Later (w.alloc (.cells D 295))),D.size=n*2∧Hid (RowsIn (w.heap.size+1) x.w D (l.take k))∧wr=x.w) (fun v _=>(n - intOf v).toNat)
 case atStart=>exact⟨0,rfl,by omega,C,Later.here _,hCz,by rw[List.take_zero];exact RowsIn.nil,rfl⟩
 case round =>
  obtain⟨k,rfl,hk,D,x,hDz,hf,rfl⟩:=hrel
  by_cases h:k<n
  ·have hlk:k<l.length:=by have:=HN.out;omega
   obtain⟨eb,eoff,ex,rfl,ehb,ehd,eok,eh0,eh1⟩:=hs.atTSent (show k<l.length by omega)
   obtain⟨o0,g0⟩:=getD_lt hDz (show k*2<n*2 by omega)
   obtain⟨o1,g1⟩:=getD_lt hDz (show k*2+1<n*2 by omega)
   have hte:=HT.out ex (List.mem_of_mem_drop (by rw[ehd.out];exact List.mem_cons_self ..))
   have HEOK:=lH eok;clear eok
   go_wp2_with fail
   refine(d_ltoSent (B:=0) (x:=ex) ⟨rfl,HEOK.out⟩ hte).mono ?_
   rintro _ _ ⟨_,rfl,⟨rfl,-⟩,y,rfl⟩
   clear hte
   go_wp2_with fail
   go_roundw
   case rel =>
    obtain⟨x2,hx2⟩:=Later.set2_at (x.andThen y) (k*2) (k*2+1) (.int .i64 ex.Seq) (.string ex.Data)
    rw[hx2]
    have hP:=RowsIn.put (W':=x2.w) hf.out ehd.out h HN.out hDz (vs:=[.int .i64 ex.Seq,.string ex.Data]) ⟨rfl,HEOK.out⟩ (by rw[← hx2];infer_instance)
    exact⟨k+1,by go_num,by omega,_,x2,by simpa using hDz,hP,rfl⟩
   case measure=>simp[intOf];omega
  ·go_wp2_with fail
   go_ret
   have hf2:=hf.out
   rw[List.take_of_length_le (by have:=HN.out;omega)]at hf2
   exact⟨_,n,by rw[HN.out];rfl,OwnC.of (E:=Flat.iTSent) (RowsIn.own (E:=Flat.iTSent) x hf2 HN.out hm (by rw[hDz];rfl)) (RdS.goods (E:=Flat.iTSent) hs) _,⟨x.w,Grows.out⟩,rfl⟩
end Go.Proofs.YtbaffippdifbpaaGreat
namespace Go.Proofs.YtbaffippdifbpaaGreat
set_option linter.unusedVariables false
open Go.ChangeShapes Go.WideShapes Go.ChangeAt Go.RowKit
theorem RdS.slStr{B:Nat}{w:World}{a:Option Addr}{c:Nat}{l:List ByteArray}(h:RdS B w a c l):Sl encStr w a l:=fun i s hx=>by
 obtain⟨b,off,vs,h0,-,h2,h3,h4⟩:=h.2.2.2 i s hx
 exact⟨b,off,h0,h2,fun j v hv=>by
  obtain⟨rfl,-⟩:=h3
  have:=h4 j v hv
  rw[show Enc.size ByteArray=(encStr s).length from rfl]at this
  exact this⟩
def fileOutOkT(f:TFileOut):Bool:=fileOutOk f.File f.Data.size f.Queue
def fileInOkT(f:TFileIn):Bool:=fileInOk f.File f.Size f.Check f.Parts
theorem k_iFileOutOk{B n:Nat}{a:Option Addr}{c:Nat}{f:TFileOut}{w0 w:World}(hs0:RdS B w0 a c f.Queue:=by first|assumption|(apply Sl.to<;>first|assumption|infer_instance)|omega)[g:Keeps B w0 w](hn:f.Queue.length=n:=by first|assumption|(apply Sl.to<;>first|assumption|infer_instance)|omega)(hm:n≤100000000:=by first|assumption|(apply Sl.to<;>first|assumption|infer_instance)|omega)(hz:f.Data.size≤100000000:=by first|assumption|(apply Sl.to<;>first|assumption|infer_instance)|omega) :
  Calls Tryz.prog 238 #[.agg #[.int .i64 f.File,.string f.Data,.slice a n c,.bool f.Done]] w (Gives w (.bool (fileOutOkT f))) :=
 c_iFileOutOk (hs0.to g).toSlInt hn (by omega) hz
theorem k_sFileOutOk{B n:Nat}{a:Option Addr}{c:Nat}{f:TFileOut}{w0 w:World}(hs0:RdS B w0 a c f.Queue:=by first|assumption|(apply Sl.to<;>first|assumption|infer_instance)|omega)[g:Keeps B w0 w](hn:f.Queue.length=n:=by first|assumption|(apply Sl.to<;>first|assumption|infer_instance)|omega)(hm:n≤100000000:=by first|assumption|(apply Sl.to<;>first|assumption|infer_instance)|omega)(hz:f.Data.size≤100000000:=by first|assumption|(apply Sl.to<;>first|assumption|infer_instance)|omega) :
  Calls Tryz.prog 235 #[.agg #[.int .i64 f.File,.string f.Data,.slice a n c,.bool f.Done]] w (Gives w (.bool (fileOutOkT f))) :=
 c_sFileOutOk (hs0.to g).toSlInt hn (by omega) hz
theorem k_iFileInOk{B n:Nat}{a:Option Addr}{c:Nat}{f:TFileIn}{w0 w:World}(hs0:RdS B w0 a c f.Parts:=by first|assumption|(apply Sl.to<;>first|assumption|infer_instance)|omega)[g:Keeps B w0 w](hn:f.Parts.length=n:=by first|assumption|(apply Sl.to<;>first|assumption|infer_instance)|omega)(hm:n≤100000000:=by first|assumption|(apply Sl.to<;>first|assumption|infer_instance)|omega)(hz:∀ s∈f.Parts,s.size≤100000000:=by first|assumption|(apply Sl.to<;>first|assumption|infer_instance)|omega) :
  Calls Tryz.prog 230 #[.agg #[.int .i64 f.File,.int .i64 f.Size,.int .i64 f.Check,.slice a n c]] w (Gives w (.bool (fileInOkT f))) :=
 c_iFileInOk (hs0.to g).slStr hn (by omega) hz
theorem k_sFileInOk{B n:Nat}{a:Option Addr}{c:Nat}{f:TFileIn}{w0 w:World}(hs0:RdS B w0 a c f.Parts:=by first|assumption|(apply Sl.to<;>first|assumption|infer_instance)|omega)[g:Keeps B w0 w](hn:f.Parts.length=n:=by first|assumption|(apply Sl.to<;>first|assumption|infer_instance)|omega)(hm:n≤100000000:=by first|assumption|(apply Sl.to<;>first|assumption|infer_instance)|omega)(hz:∀ s∈f.Parts,s.size≤100000000:=by first|assumption|(apply Sl.to<;>first|assumption|infer_instance)|omega) :
  Calls Tryz.prog 227 #[.agg #[.int .i64 f.File,.int .i64 f.Size,.int .i64 f.Check,.slice a n c]] w (Gives w (.bool (fileInOkT f))) :=
 c_sFileInOk (hs0.to g).slStr hn (by omega) hz
end Go.Proofs.YtbaffippdifbpaaGreat
namespace Go.Proofs.YtbaffippdifbpaaGreat
set_option linter.unusedVariables false
open Go.ChangeShapes Go.WideShapes Go.ChangeAt Go.RowKit
theorem RdS.toSlPair{B:Nat}{w:World}{a:Option Addr}{c:Nat}{l:List Pair}(h:RdS B w a c l):Sl encPair w a l:=fun i s hx=>by
 obtain⟨b,off,vs,h0,-,h2,h3,h4⟩:=h.2.2.2 i s hx
 exact⟨b,off,h0,h2,fun j v hv=>by
  obtain⟨rfl,-⟩:=h3
  have:=h4 j v hv
  rw[show Enc.size Pair=(encPair s).length from rfl]at this
  exact this⟩
def driftOkT(x:TDrift):Bool:=driftOk x.Rate x.Offset
def orbitOkT(x:TOrbit):Bool:=orbitOk x.Period x.Start x.Length
theorem k_iDriftOk{x:TDrift}{w:World}:Calls Tryz.prog 126 #[.agg #[.int .i64 x.Rate,.int .i64 x.Offset]] w (Gives w (.bool (driftOkT x))):=c_iDriftOk
theorem k_iOrbitOk{x:TOrbit}{w:World}:Calls Tryz.prog 129 #[.agg #[.int .i64 x.Period,.int .i64 x.Start,.int .i64 x.Length]] w (Gives w (.bool (orbitOkT x))):=c_iOrbitOk
theorem k_iPairsOk{B n:Nat}{a:Option Addr}{c:Nat}{l:List Pair}{w0 w:World}(hs0:RdS B w0 a c l:=by first|assumption|(apply Sl.to<;>first|assumption|infer_instance)|omega)[g:Keeps B w0 w](hn:l.length=n:=by first|assumption|(apply Sl.to<;>first|assumption|infer_instance)|omega)(hm:n≤100000000:=by first|assumption|(apply Sl.to<;>first|assumption|infer_instance)|omega) :
  Calls Tryz.prog 242 #[.slice a n c] w (Gives w (.bool (pairsOk l))):=c_iPairsOk (hs0.to g).toSlPair hn (by omega)
theorem k_iflightsOkN{B n:Nat}{a:Option Addr}{c:Nat}{l:List TFlight}{w0 w:World}(hs0:RdS B w0 a c l)[g:Keeps B w0 w](hn:l.length=n)(hm:n≤100000000) :
  Calls Tryz.prog 136 #[.slice a n c] w (Gives w (.bool (flightsOk l))):=by
 subst hn;exact k_iflightsOk (hs0.to g) hm
theorem k_irecordsOkN{B n:Nat}{a:Option Addr}{c:Nat}{l:List TRecord}{w0 w:World}(hs0:RdS B w0 a c l:=by first|assumption|(apply Sl.to<;>first|assumption|infer_instance)|omega)[g:Keeps B w0 w](hn:l.length=n:=by first|assumption|(apply Sl.to<;>first|assumption|infer_instance)|omega)(hm:n≤100000000:=by first|assumption|(apply Sl.to<;>first|assumption|infer_instance)|omega) :
  Calls Tryz.prog 243 #[.slice a n c] w (Gives w (.bool (recordsOk l))):=by
 subst hn;exact k_irecordsOk (hs0.to g) hm
theorem k_iSenderOkN{B n:Nat}{a:Option Addr}{c:Nat}{sd:TSender}{w0 w:World}(hs0:RdS B w0 a c sd.Waiting:=by first|assumption|(apply Sl.to<;>first|assumption|infer_instance)|omega)[g:Keeps B w0 w](hn:sd.Waiting.length=n:=by first|assumption|(apply Sl.to<;>first|assumption|infer_instance)|omega)(hm:n≤100000000:=by first|assumption|(apply Sl.to<;>first|assumption|infer_instance)|omega)(hi:okDTSender sd:=by first|assumption|(apply Sl.to<;>first|assumption|infer_instance)|omega) :
  Calls Tryz.prog 134 #[.agg #[.int .i64 sd.Next,.int .i64 sd.Window,.slice a n c,.int .i64 sd.Done]] w (Gives w (.bool (senderOk sd))):=by
 subst hn;exact k_iSenderOk (hs0.to g) hm hi
theorem k_iPackerOkN{B n:Nat}{a:Option Addr}{c:Nat}{p:TPacker}{w0 w:World}(hs0:RdS B w0 a c p.Starts:=by first|assumption|(apply Sl.to<;>first|assumption|infer_instance)|omega)[g:Keeps B w0 w](hn:p.Starts.length=n:=by first|assumption|(apply Sl.to<;>first|assumption|infer_instance)|omega)(hm:n≤100000000:=by first|assumption|(apply Sl.to<;>first|assumption|infer_instance)|omega)(hz:p.Rest.size≤100000000:=by first|assumption|(apply Sl.to<;>first|assumption|infer_instance)|omega) :
  Calls Tryz.prog 245 #[.agg #[.int .i64 p.Channel,.int .i64 p.Count,.string p.Rest,.slice a n c]] w (Gives w (.bool (packerOk p))):=by
 subst hn;exact k_iPackerOk (hs0.to g) hm hz
theorem k_sDriftOk{x:TDrift}{w:World}:Calls Tryz.prog 150 #[.agg #[.int .i64 x.Rate,.int .i64 x.Offset]] w (Gives w (.bool (driftOkT x))):=c_sDriftOk
theorem k_sOrbitOk{x:TOrbit}{w:World}:Calls Tryz.prog 145 #[.agg #[.int .i64 x.Period,.int .i64 x.Start,.int .i64 x.Length]] w (Gives w (.bool (orbitOkT x))):=c_sOrbitOk
theorem k_sPairsOk{B n:Nat}{a:Option Addr}{c:Nat}{l:List Pair}{w0 w:World}(hs0:RdS B w0 a c l:=by first|assumption|(apply Sl.to<;>first|assumption|infer_instance)|omega)[g:Keeps B w0 w](hn:l.length=n:=by first|assumption|(apply Sl.to<;>first|assumption|infer_instance)|omega)(hm:n≤100000000:=by first|assumption|(apply Sl.to<;>first|assumption|infer_instance)|omega) :
  Calls Tryz.prog 249 #[.slice a n c] w (Gives w (.bool (pairsOk l))):=c_sPairsOk (hs0.to g).toSlPair hn (by omega)
theorem k_sflightsOkN{B n:Nat}{a:Option Addr}{c:Nat}{l:List TFlight}{w0 w:World}(hs0:RdS B w0 a c l)[g:Keeps B w0 w](hn:l.length=n)(hm:n≤100000000) :
  Calls Tryz.prog 155 #[.slice a n c] w (Gives w (.bool (flightsOk l))):=by
 subst hn;exact k_sflightsOk (hs0.to g) hm
theorem k_srecordsOkN{B n:Nat}{a:Option Addr}{c:Nat}{l:List TRecord}{w0 w:World}(hs0:RdS B w0 a c l:=by first|assumption|(apply Sl.to<;>first|assumption|infer_instance)|omega)[g:Keeps B w0 w](hn:l.length=n:=by first|assumption|(apply Sl.to<;>first|assumption|infer_instance)|omega)(hm:n≤100000000:=by first|assumption|(apply Sl.to<;>first|assumption|infer_instance)|omega) :
  Calls Tryz.prog 250 #[.slice a n c] w (Gives w (.bool (recordsOk l))):=by
 subst hn;exact k_srecordsOk (hs0.to g) hm
theorem k_sSenderOkN{B n:Nat}{a:Option Addr}{c:Nat}{sd:TSender}{w0 w:World}(hs0:RdS B w0 a c sd.Waiting:=by first|assumption|(apply Sl.to<;>first|assumption|infer_instance)|omega)[g:Keeps B w0 w](hn:sd.Waiting.length=n:=by first|assumption|(apply Sl.to<;>first|assumption|infer_instance)|omega)(hm:n≤100000000:=by first|assumption|(apply Sl.to<;>first|assumption|infer_instance)|omega)(hi:okDTSender sd:=by first|assumption|(apply Sl.to<;>first|assumption|infer_instance)|omega) :
  Calls Tryz.prog 153 #[.agg #[.int .i64 sd.Next,.int .i64 sd.Window,.slice a n c,.int .i64 sd.Done]] w (Gives w (.bool (senderOk sd))):=by
 subst hn;exact k_sSenderOk (hs0.to g) hm hi
theorem k_sPackerOkN{B n:Nat}{a:Option Addr}{c:Nat}{p:TPacker}{w0 w:World}(hs0:RdS B w0 a c p.Starts:=by first|assumption|(apply Sl.to<;>first|assumption|infer_instance)|omega)[g:Keeps B w0 w](hn:p.Starts.length=n:=by first|assumption|(apply Sl.to<;>first|assumption|infer_instance)|omega)(hm:n≤100000000:=by first|assumption|(apply Sl.to<;>first|assumption|infer_instance)|omega)(hz:p.Rest.size≤100000000:=by first|assumption|(apply Sl.to<;>first|assumption|infer_instance)|omega) :
  Calls Tryz.prog 252 #[.agg #[.int .i64 p.Channel,.int .i64 p.Count,.string p.Rest,.slice a n c]] w (Gives w (.bool (packerOk p))):=by
 subst hn;exact k_sPackerOk (hs0.to g) hm hz
end Go.Proofs.YtbaffippdifbpaaGreat
namespace Go.Proofs.YtbaffippdifbpaaGreat
set_option linter.unusedVariables false
open Go.ChangeShapes Go.WideShapes Go.ChangeAt Go.RowKit
def firstAt(q:Int):Nat→List TWaiting→Int
 | _,[]=>-1
 | k,s::r=>if s.Number=q then(k:Int)else firstAt q (k+1) r
theorem firstAt_is{q:Int}{s:TWaiting}{r:List TWaiting}(hs:s.Number=q):∀ (l:List TWaiting) (k j:Nat),l.drop j=s::r→(firstAt q k l=((k+j:Nat):Int)↔∀ y∈l.take j,y.Number≠q)
 | [],_,j,h=>by simp at h
 | y::t,k,0,h=>by
  rw[List.drop_zero]at h
  injection h with h1 h2
  rw[firstAt,h1,if_pos hs]
  simp
 | y::t,k,j+1,h=>by
  rw[List.drop_succ_cons]at h
  rw[firstAt,List.take_succ_cons]
  by_cases hy:y.Number=q
  ·rw[if_pos hy]
   constructor
   ·intro e;omega
   ·intro e;exact absurd hy (e y (by simp))
  ·rw[if_neg hy,show((k+(j+1):Nat):Int)=((k+1+j:Nat):Int)from by omega,firstAt_is hs t (k+1) j h]
   constructor
   ·intro e z hz
    rcases List.mem_cons.1 hz with h1|h1
    ·rw[h1];exact hy
    ·exact e z h1
   ·intro e z hz
    exact e z (List.mem_cons_of_mem _ hz)
theorem k_iindexOfOrder{B n:Nat}{a:Option Addr}{c:Nat}{q:Int}{l:List TWaiting}{w0 w:World}(hs0:RdS B w0 a c l:=by first|assumption|(apply Sl.to<;>first|assumption|infer_instance)|omega)[g:Keeps B w0 w](hn:l.length=n:=by first|assumption|(apply Sl.to<;>first|assumption|infer_instance)|omega)(hm:n≤100000000:=by first|assumption|(apply Sl.to<;>first|assumption|infer_instance)|omega) :
  Calls Tryz.prog 297 #[.slice a n c,.int .i64 q] w (Gives w (.int .i64 (firstAt q 0 l))):=by
 have HN:=lH hn
 have hs:=hs0.to g;clear hs0
 clear hn
 go_enter Tryz.func297,Tryz.ntmps297
 go_wp2_with fail
 go_loopw [9] (fun v wr=>∃ k:Nat,v=.int .i64 k∧k≤n∧Hid (firstAt q k (l.drop k)=firstAt q 0 l)∧∃ y:Later w,wr=y.w) (fun v _=>(n - intOf v).toNat)
 case atStart=>exact⟨0,rfl,by omega,rfl,Later.of⟩
 case round =>
  obtain⟨k,rfl,hk,HV,y,rfl⟩:=hrel
  by_cases h:k<n
  ·have hkl:k<l.length:=by have:=HN.out;omega
   obtain⟨eb,eoff,es,rfl,ehb,ehd,eok,eh0,eh1,eh2,eh3,eh4⟩:=hs.atTWaiting hkl
   have EOK:=lH eok;clear eok hkl
   by_cases hq:es.Number=q
   ·have kq:(es.Number == q)=true:=by simp[hq]
    have HF:=lH (show(k:Int)=firstAt q 0 l by have:=HV.out;rw[ehd.out,firstAt,if_pos hq]at this;exact this)
    clear hq
    go_wp2_with (first|((with_reducible refine wp_region_later (by kernel_rfl) (by kernel_rfl) ?_);(repeat(first|go_big_quiet_step (first|fail)|simp only[kq]));refine wpQuiet_nil ?_;rintro _ ⟨x,rfl⟩))
    go_ret
    exact Gives.mk (by rw[← HF.out];rfl)
   ·have kq:(es.Number == q)=false:=by simp[hq]
    have HF:=lH (show firstAt q (k+1) (l.drop (k+1))=firstAt q 0 l by have:=HV.out;rw[ehd.out,firstAt,if_neg hq]at this;exact this)
    clear hq
    go_wp2_with (first|((with_reducible refine wp_region_later (by kernel_rfl) (by kernel_rfl) ?_);(repeat(first|go_big_quiet_step (first|fail)|simp only[kq]));refine wpQuiet_nil ?_;rintro _ ⟨x,rfl⟩))
    go_roundw
    case rel=>exact⟨k+1,by go_num,by omega,HF,Later.of⟩
    case measure=>simp[intOf];omega
  ·have HF:=lH (show -1=firstAt q 0 l by have:=HV.out;rw[List.drop_of_length_le (by have:=HN.out;omega),firstAt]at this;exact this)
   go_wp2_with fail
   go_ret
   exact Gives.mk (by rw[← HF.out];rfl)
end Go.Proofs.YtbaffippdifbpaaGreat
namespace Go.Proofs.YtbaffippdifbpaaGreat
set_option linter.unusedVariables false
open Go.ChangeShapes Go.WideShapes Go.ChangeAt Go.RowKit
def waitAsc(s:TWaiting):Option TWaiting→Bool
 | none=>true
 | some q=>!(decide (s.Order.At<q.Order.At) || (s.Order.At == q.Order.At && decide (s.Number<q.Number)))
def waitOk(taken:Int)(L:List TWaiting)(k:Nat)(s:TWaiting):Bool :=
 orderOk s.Order && (inB s.Number 0 (taken - 1) && ((L.take k).all (fun y=>y.Number != s.Number) && waitAsc s (prevOf L k)))
def ordersFrom(taken:Int)(L:List TWaiting):Nat→List TWaiting→Bool
 | _,[]=>true
 | k,s::r=>waitOk taken L k s && ordersFrom taken L (k+1) r
def ordersOk(taken:Int)(L:List TWaiting):Bool:=decide ((L.length:Int)≤40) && ordersFrom taken L 0 L
theorem firstAt_no{L r:List TWaiting}{s:TWaiting}{k:Nat}(h:L.drop k=s::r):(firstAt s.Number 0 L=(k:Int))↔(L.take k).all (fun y=>y.Number != s.Number)=true:=by
 have:=firstAt_is (q:=s.Number) rfl L 0 k h
 rw[Nat.zero_add]at this
 rw[this,List.all_eq_true]
 simp
set_option maxRecDepth 100000 in
set_option maxHeartbeats 2000000 in
theorem k_iordersOk{B n:Nat}{a:Option Addr}{c:Nat}{taken:Int}{l:List TWaiting}{w0 w:World}(hs0:RdS B w0 a c l:=by first|assumption|(apply Sl.to<;>first|assumption|infer_instance)|omega)[g:Keeps B w0 w](hn:l.length=n:=by first|assumption|(apply Sl.to<;>first|assumption|infer_instance)|omega)(hm:n≤100000000:=by first|assumption|(apply Sl.to<;>first|assumption|infer_instance)|omega)(ht0:0≤taken:=by first|assumption|(apply Sl.to<;>first|assumption|infer_instance)|omega)(ht1:taken≤65535:=by first|assumption|(apply Sl.to<;>first|assumption|infer_instance)|omega) :
  Calls Tryz.prog 239 #[.slice a n c,.int .i64 taken] w (Gives w (.bool (ordersOk taken l))):=by
 have HN:=lH hn
 have hs:=hs0.to g;clear hs0
 have HD:=lH (show ordersOk taken l=(decide ((n:Int)≤40) && ordersFrom taken l 0 l)by rw[ordersOk,hn])
 by_cases h40:n≤40
 ·have k40:decide (40<(n:Int))=false:=by simp;omega
  have HD2:=lH (show ordersOk taken l=ordersFrom taken l 0 l by rw[HD.out,decide_eq_true (by omega)];rfl)
  clear HD
  go_enter Tryz.func239,Tryz.ntmps239
  go_wp2_with fail
  go_loopw [13] (fun v wr=>∃ k:Nat,v=.int .i64 k∧k≤n∧Hid (ordersFrom taken l k (l.drop k)=ordersFrom taken l 0 l)∧∃ y:Later w,wr=y.w) (fun v _=>(n - intOf v).toNat)
  case atStart=>exact⟨0,rfl,by omega,rfl,Later.of⟩
  case round =>
   obtain⟨k,rfl,hk,HV,y,rfl⟩:=hrel
   by_cases h:k<n
   ·have hkl:k<l.length:=by have:=HN.out;omega
    obtain⟨eb,eoff,es,rfl,ehb,ehd,eok,eh0,eh1,eh2,eh3,eh4⟩:=hs.atTWaiting hkl
    have EOK:=lH eok;clear eok hkl
    cases d1:orderOk es.Order
    ·have HF:=lH (show ordersOk taken l=false by have:=HV.out;rw[ehd.out,ordersFrom,waitOk,d1]at this;rw[HD2.out,← this];rfl)
     go_wp2_with (first|(go_at_call 102;refine(k_iOrderOk).mono ?_;rintro _ _ ⟨rfl,x,rfl⟩))
     go_ret
     exact Gives.mk (by rw[HF.out];rfl)
    cases d2:inB es.Number 0 (taken - 1)
    ·have HF:=lH (show ordersOk taken l=false by have:=HV.out;rw[ehd.out,ordersFrom,waitOk,d1,d2]at this;rw[HD2.out,← this];rfl)
     go_wp2_with (first|(go_at_call 127;refine(c_ibetween).mono ?_;rintro _ _ ⟨rfl,x,rfl⟩)|(go_at_call 102;refine(k_iOrderOk).mono ?_;rintro _ _ ⟨rfl,x,rfl⟩))
     go_ret
     exact Gives.mk (by rw[HF.out];rfl)
    cases d3:(l.take k).all (fun y=>y.Number != es.Number)
    ·have HF:=lH (show ordersOk taken l=false by have:=HV.out;rw[ehd.out,ordersFrom,waitOk,d1,d2,d3]at this;rw[HD2.out,← this];rfl)
     have e3:(firstAt es.Number 0 l == (k:Int))=false:=by
      have:=(not_congr (firstAt_no ehd.out)).2 (by rw[d3];simp)
      simp[this]
     have e4:(firstAt es.Number 0 l != (k:Int))=true:=by rw[bne,e3];rfl
     clear d3
     go_wp2_with (first|(go_at_call 127;refine(c_ibetween).mono ?_;rintro _ _ ⟨rfl,x,rfl⟩)|(go_at_call 102;refine(k_iOrderOk).mono ?_;rintro _ _ ⟨rfl,x,rfl⟩)|(go_at_call 297;refine(k_iindexOfOrder).mono ?_;rintro _ _ ⟨rfl,x,rfl⟩))
     go_ret
     exact Gives.mk (by rw[HF.out];rfl)
    have e3:(firstAt es.Number 0 l == (k:Int))=true:=by
     have:=(firstAt_no ehd.out).2 d3
     simp[this]
    have e4:(firstAt es.Number 0 l != (k:Int))=false:=by rw[bne,e3];rfl
    by_cases hz0:k=0
    ·have HF:=lH (show ordersFrom taken l (k+1) (l.drop (k+1))=ordersFrom taken l 0 l by have:=HV.out;rw[ehd.out,ordersFrom,waitOk,d1,d2,d3]at this;rw[← this];simp[prevOf,hz0,waitAsc])
     have hz':((k:Int) == 0)=true:=by simp[hz0]
     clear d3 hz0
     go_wp2_with (first|(go_at_call 127;refine(c_ibetween).mono ?_;rintro _ _ ⟨rfl,x,rfl⟩)|(go_at_call 102;refine(k_iOrderOk).mono ?_;rintro _ _ ⟨rfl,x,rfl⟩)|(go_at_call 297;refine(k_iindexOfOrder).mono ?_;rintro _ _ ⟨rfl,x,rfl⟩))
     go_roundw
     case rel=>exact⟨k+1,by go_num,by omega,HF,Later.of⟩
     case measure=>simp[intOf];omega
    ·obtain⟨fb,foff,fs,hbo,fhb,fhd,fok,fh0,fh1,fh2,fh3,fh4⟩:=hs.atTWaiting (show k - 1<l.length by have:=HN.out;omega)
     simp only[Option.some.injEq,Addr.mk.injEq,and_true]at hbo
     obtain⟨rfl,rfl⟩:=hbo
     have FOK:=lH fok;clear fok
     have hz':((k:Int) == 0)=false:=by simp;omega
     have hp:prevOf l k=some fs:=by have:=prevOf_succ fhd.out;rwa[show k - 1+1=k from by omega]at this
     have HP:=lH hp;clear hp
     cases f1:decide (es.Order.At<fs.Order.At)
     ·cases f2:(es.Order.At == fs.Order.At)
      ·have HF:=lH (show ordersFrom taken l (k+1) (l.drop (k+1))=ordersFrom taken l 0 l by have:=HV.out;rw[ehd.out,ordersFrom,waitOk,d1,d2,d3,HP.out,waitAsc,f1,f2]at this;exact this)
       clear d3
       go_wp2_with (first|(go_at_call 127;refine(c_ibetween).mono ?_;rintro _ _ ⟨rfl,x,rfl⟩)|(go_at_call 102;refine(k_iOrderOk).mono ?_;rintro _ _ ⟨rfl,x,rfl⟩)|(go_at_call 297;refine(k_iindexOfOrder).mono ?_;rintro _ _ ⟨rfl,x,rfl⟩))
       go_roundw
       case rel=>exact⟨k+1,by go_num,by omega,HF,Later.of⟩
       case measure=>simp[intOf];omega
      ·cases f3:decide (es.Number<fs.Number)
       ·have HF:=lH (show ordersFrom taken l (k+1) (l.drop (k+1))=ordersFrom taken l 0 l by have:=HV.out;rw[ehd.out,ordersFrom,waitOk,d1,d2,d3,HP.out,waitAsc,f1,f2,f3]at this;exact this)
        have F2:=lH f2
        clear d3
        go_wp2_with (first|(go_at_call 127;refine(c_ibetween).mono ?_;rintro _ _ ⟨rfl,x,rfl⟩)|(go_at_call 102;refine(k_iOrderOk).mono ?_;rintro _ _ ⟨rfl,x,rfl⟩)|(go_at_call 297;refine(k_iindexOfOrder).mono ?_;rintro _ _ ⟨rfl,x,rfl⟩))
        go_roundw
        case rel=>exact⟨k+1,by go_num,by omega,HF,Later.of⟩
        case measure=>simp[intOf];omega
       ·have HF:=lH (show ordersOk taken l=false by have:=HV.out;rw[ehd.out,ordersFrom,waitOk,d1,d2,d3,HP.out,waitAsc,f1,f2,f3]at this;rw[HD2.out,← this];rfl)
        clear d3
        go_wp2_with (first|(go_at_call 127;refine(c_ibetween).mono ?_;rintro _ _ ⟨rfl,x,rfl⟩)|(go_at_call 102;refine(k_iOrderOk).mono ?_;rintro _ _ ⟨rfl,x,rfl⟩)|(go_at_call 297;refine(k_iindexOfOrder).mono ?_;rintro _ _ ⟨rfl,x,rfl⟩))
        go_ret
        exact Gives.mk (by rw[HF.out];rfl)
     ·have HF:=lH (show ordersOk taken l=false by have:=HV.out;rw[ehd.out,ordersFrom,waitOk,d1,d2,d3,HP.out,waitAsc,f1]at this;rw[HD2.out,← this];rfl)
      clear d3
      go_wp2_with (first|(go_at_call 127;refine(c_ibetween).mono ?_;rintro _ _ ⟨rfl,x,rfl⟩)|(go_at_call 102;refine(k_iOrderOk).mono ?_;rintro _ _ ⟨rfl,x,rfl⟩)|(go_at_call 297;refine(k_iindexOfOrder).mono ?_;rintro _ _ ⟨rfl,x,rfl⟩))
      go_ret
      exact Gives.mk (by rw[HF.out];rfl)
   ·have HF:=lH (show ordersOk taken l=true by have:=HV.out;rw[List.drop_of_length_le (by have:=HN.out;omega),ordersFrom]at this;rw[HD2.out,← this])
    go_wp2_with fail
    go_ret
    exact Gives.mk (by rw[HF.out];rfl)
 ·have k40:decide (40<(n:Int))=true:=by simp;omega
  have HD2:=lH (show ordersOk taken l=false by rw[HD.out,decide_eq_false (by omega)];rfl)
  go_enter Tryz.func239,Tryz.ntmps239
  go_wp2_with fail
  go_ret
  exact Gives.mk (by rw[HD2.out];rfl)
end Go.Proofs.YtbaffippdifbpaaGreat
namespace Go.Proofs.YtbaffippdifbpaaGreat
set_option linter.unusedVariables false
open Go.ChangeShapes Go.WideShapes Go.ChangeAt Go.RowKit
set_option maxRecDepth 100000 in
set_option maxHeartbeats 2000000 in
theorem k_sl05Orders{B:Nat}{A:TBoardA}{bd:TBoard}{w0 w:World}(F0:TBoardF B w0 A bd)[g:Keeps B w0 w](hm:bd.Orders.length≤100000000)(ht0:0≤bd.Taken)(ht1:bd.Taken≤65535) :
  Calls Tryz.prog 247 #[.agg #[.int .i64 bd.Clock,.slice A.a0 bd.Params.length A.c0,.bool bd.Safe,.slice A.a1 bd.Limits.length A.c1,.slice A.a2 bd.Orders.length A.c2,.slice A.a3 bd.Done.length A.c3,.int .i64 bd.Recorder.Room,.slice A.a4 bd.Recorder.Records.length A.c4,.slice A.a5 bd.Recorder.Dropped.length A.c5,.int .i64 bd.Made,.int .i64 bd.Taken,.slice A.a6 bd.Asked.length A.c6]] w (Gives w (.bool (ordersOk bd.Taken bd.Orders))):=by
 have hs:=F0.q2.to g;clear F0
 obtain⟨l,hl⟩:∃ l,bd.Orders=l:=⟨_,rfl⟩
 obtain⟨taken,htk⟩:∃ t,bd.Taken=t:=⟨_,rfl⟩
 obtain⟨a,ha⟩:∃ a,A.a2=a:=⟨_,rfl⟩
 obtain⟨n,hn⟩:∃ n,l.length=n:=⟨_,rfl⟩
 rw[hl,ha]at hs
 rw[hl,hn]at hm
 rw[htk]at ht0 ht1
 rw[hl,htk,ha,hn]
 have HN:=lH hn
 clear hl htk ha hn
 have HD:=lH (show ordersOk taken l=(decide ((n:Int)≤40) && ordersFrom taken l 0 l)by rw[ordersOk,HN.out])
 by_cases h40:n≤40
 ·have k40:decide (40<(n:Int))=false:=by simp;omega
  have HD2:=lH (show ordersOk taken l=ordersFrom taken l 0 l by rw[HD.out,decide_eq_true (by omega)];rfl)
  clear HD
  go_enter Tryz.func247,Tryz.ntmps247
  go_wp2_with fail
  go_loopw [3] (fun v wr=>∃ k:Nat,v=.int .i64 k∧k≤n∧Hid (ordersFrom taken l k (l.drop k)=ordersFrom taken l 0 l)∧∃ y:Later (w.alloc (.cells #[.int .i64 bd.Clock,.slice A.a0 bd.Params.length A.c0,.bool bd.Safe,.slice A.a1 bd.Limits.length A.c1,.slice a n A.c2,.slice A.a3 bd.Done.length A.c3,.int .i64 bd.Recorder.Room,.slice A.a4 bd.Recorder.Records.length A.c4,.slice A.a5 bd.Recorder.Dropped.length A.c5,.int .i64 bd.Made,.int .i64 taken,.slice A.a6 bd.Asked.length A.c6] 55)),wr=y.w) (fun v _=>(n - intOf v).toNat)
  case atStart=>exact⟨0,rfl,by omega,rfl,Later.of⟩
  case round =>
   obtain⟨k,rfl,hk,HV,y,rfl⟩:=hrel
   by_cases h:k<n
   ·have hkl:k<l.length:=by have:=HN.out;omega
    obtain⟨eb,eoff,es,rfl,ehb,ehd,eok,eh0,eh1,eh2,eh3,eh4⟩:=hs.atTWaiting hkl
    have EOK:=lH eok;clear eok hkl
    cases d1:orderOk es.Order
    ·have HF:=lH (show ordersOk taken l=false by have:=HV.out;rw[ehd.out,ordersFrom,waitOk,d1]at this;rw[HD2.out,← this];rfl)
     go_wp2_with (first|(go_at_call 99;refine(k_sOrderOk).mono ?_;rintro _ _ ⟨rfl,x,rfl⟩))
     go_ret
     exact Gives.mk (by rw[HF.out];rfl)
    cases d2:inB es.Number 0 (taken - 1)
    ·have HF:=lH (show ordersOk taken l=false by have:=HV.out;rw[ehd.out,ordersFrom,waitOk,d1,d2]at this;rw[HD2.out,← this];rfl)
     go_wp2_with (first|(go_at_call 151;refine(c_sl01In).mono ?_;rintro _ _ ⟨rfl,x,rfl⟩)|(go_at_call 99;refine(k_sOrderOk).mono ?_;rintro _ _ ⟨rfl,x,rfl⟩))
     go_ret
     exact Gives.mk (by rw[HF.out];rfl)
    go_wp2_with (first|(go_at_call 151;refine(c_sl01In).mono ?_;rintro _ _ ⟨rfl,x,rfl⟩)|(go_at_call 99;refine(k_sOrderOk).mono ?_;rintro _ _ ⟨rfl,x,rfl⟩))
    go_loopw [5] (fun v wr=>∃ j:Nat,v=.int .i64 j∧j≤k∧Hid ((l.take j).all (fun z=>z.Number != es.Number)=true)∧∃ z:Later (y.w.alloc (.cells #[.int .i64 es.Number,.int .i64 es.Order.Kind,.int .i64 es.Order.At,.int .i64 es.Order.A,.int .i64 es.Order.B] 212)),wr=z.w) (fun v _=>(k - intOf v).toNat)
    case atStart=>exact⟨0,rfl,by omega,by rw[Hid];rfl,Later.of⟩
    case round =>
     obtain⟨j,rfl,hj,HJ,z,rfl⟩:=hrel
     by_cases hjk:j<k
     ·obtain⟨gb,goff,gs,hbo,ghb,ghd,gok,gh0,gh1,gh2,gh3,gh4⟩:=hs.atTWaiting (show j<l.length by have:=HN.out;omega)
      simp only[Option.some.injEq,Addr.mk.injEq,and_true]at hbo
      obtain⟨rfl,rfl⟩:=hbo
      have GOK:=lH gok;clear gok
      have hT:=lH (show l.take (j+1)=l.take j++[gs]by rw[List.take_succ_eq_append_getElem (by have:=HN.out;omega)];congr 1;have h0:(l.drop j)[0]?=some gs:=(by rw[ghd.out];rfl);rw[List.getElem?_drop]at h0;simp at h0;obtain⟨_,h0⟩:=List.getElem?_eq_some_iff.1 h0;rw[h0])
      cases e1:(gs.Number == es.Number)
      ·have HJ2:=lH (show(l.take (j+1)).all (fun z=>z.Number != es.Number)=true by rw[hT.out,List.all_append,HJ.out];simp only[List.all_cons,List.all_nil,bne,e1];rfl)
       go_wp2_with (first|((with_reducible refine wp_region_later (by kernel_rfl) (by kernel_rfl) ?_);(repeat(first|go_big_quiet_step (first|fail)|simp only[e1]));refine wpQuiet_nil ?_;rintro _ ⟨x,rfl⟩))
       go_roundw
       case rel=>exact⟨j+1,by go_num,by omega,HJ2,Later.of⟩
       case measure=>simp[intOf];omega
      ·have HJ2:=lH (show(l.take k).all (fun z=>z.Number != es.Number)=false by have h1:gs∈l.take k:=(List.take_subset_take_left _ (show j+1≤k by omega)) (by rw[hT.out];simp);rw[Bool.eq_false_iff];intro hh;have:=List.all_eq_true.1 hh gs h1;rw[bne,e1]at this;cases this)
       have HF:=lH (show ordersOk taken l=false by have:=HV.out;rw[ehd.out,ordersFrom,waitOk,d1,d2,HJ2.out]at this;rw[HD2.out,← this];rfl)
       go_wp2_with (first|((with_reducible refine wp_region_later (by kernel_rfl) (by kernel_rfl) ?_);(repeat(first|go_big_quiet_step (first|fail)|simp only[e1]));refine wpQuiet_nil ?_;rintro _ ⟨x,rfl⟩))
       go_ret
       exact Gives.mk (by rw[HF.out];rfl)
     have ejk:j=k:=by omega
     subst ejk
     have d3:(l.take j).all (fun z=>z.Number != es.Number)=true:=HJ.out
     have EK:=lH d1
     by_cases hz0:j=0
     ·have HF:=lH (show ordersFrom taken l (j+1) (l.drop (j+1))=ordersFrom taken l 0 l by have:=HV.out;rw[ehd.out,ordersFrom,waitOk,d1,d2,d3]at this;rw[← this];simp[prevOf,hz0,waitAsc])
      have hz':decide (0<(j:Int))=false:=by simp;omega
      have hz2:decide (0<j)=false:=by simp;omega
      clear d3 hz0
      go_wp2_with (first|((with_reducible refine wp_region_later (by kernel_rfl) (by kernel_rfl) ?_);(repeat(first|go_big_quiet_step (first|fail)|simp only[hz']|simp only[hz2]));refine wpQuiet_nil ?_;rintro _ ⟨x,rfl⟩))
      go_roundw
      case rel=>exact⟨j+1,by go_num,by omega,HF,Later.of⟩
      case measure=>simp[intOf];omega
     ·obtain⟨fb,foff,fs,hbo,fhb,fhd,fok,fh0,fh1,fh2,fh3,fh4⟩:=hs.atTWaiting (show j - 1<l.length by have:=HN.out;omega)
      simp only[Option.some.injEq,Addr.mk.injEq,and_true]at hbo
      obtain⟨rfl,rfl⟩:=hbo
      have FOK:=lH fok;clear fok
      have hz':decide (0<(j:Int))=true:=by simp;omega
      have hz2:decide (0<j)=true:=by simp;omega
      have hp:prevOf l j=some fs:=by have:=prevOf_succ fhd.out;rwa[show j - 1+1=j from by omega]at this
      have HP:=lH hp;clear hp
      cases f1:decide (es.Order.At<fs.Order.At)
      ·cases f2:(es.Order.At == fs.Order.At)
       ·have HF:=lH (show ordersFrom taken l (j+1) (l.drop (j+1))=ordersFrom taken l 0 l by have:=HV.out;rw[ehd.out,ordersFrom,waitOk,d1,d2,d3,HP.out,waitAsc,f1,f2]at this;exact this)
        clear d3
        go_wp2_with (first|((with_reducible refine wp_region_later (by kernel_rfl) (by kernel_rfl) ?_);(repeat(first|go_big_quiet_step (first|fail)|simp only[hz']|simp only[hz2]|simp only[f1]|simp only[f2]));refine wpQuiet_nil ?_;rintro _ ⟨x,rfl⟩))
        go_roundw
        case rel=>exact⟨j+1,by go_num,by omega,HF,Later.of⟩
        case measure=>simp[intOf];omega
       ·cases f3:decide (es.Number<fs.Number)
        ·have HF:=lH (show ordersFrom taken l (j+1) (l.drop (j+1))=ordersFrom taken l 0 l by have:=HV.out;rw[ehd.out,ordersFrom,waitOk,d1,d2,d3,HP.out,waitAsc,f1,f2,f3]at this;exact this)
         have F2:=lH f2
         clear d3
         go_wp2_with (first|((with_reducible refine wp_region_later (by kernel_rfl) (by kernel_rfl) ?_);(repeat(first|go_big_quiet_step (first|fail)|simp only[hz']|simp only[hz2]|simp only[f1]|simp only[f2]|simp only[f3]));refine wpQuiet_nil ?_;rintro _ ⟨x,rfl⟩))
         go_roundw
         case rel=>exact⟨j+1,by go_num,by omega,HF,Later.of⟩
         case measure=>simp[intOf];omega
        ·have HF:=lH (show ordersOk taken l=false by have:=HV.out;rw[ehd.out,ordersFrom,waitOk,d1,d2,d3,HP.out,waitAsc,f1,f2,f3]at this;rw[HD2.out,← this];rfl)
         clear d3
         go_wp2_with (first|((with_reducible refine wp_region_later (by kernel_rfl) (by kernel_rfl) ?_);(repeat(first|go_big_quiet_step (first|fail)|simp only[hz']|simp only[hz2]|simp only[f1]|simp only[f2]|simp only[f3]));refine wpQuiet_nil ?_;rintro _ ⟨x,rfl⟩))
         go_ret
         exact Gives.mk (by rw[HF.out];rfl)
      ·have HF:=lH (show ordersOk taken l=false by have:=HV.out;rw[ehd.out,ordersFrom,waitOk,d1,d2,d3,HP.out,waitAsc,f1]at this;rw[HD2.out,← this];rfl)
       clear d3
       go_wp2_with (first|((with_reducible refine wp_region_later (by kernel_rfl) (by kernel_rfl) ?_);(repeat(first|go_big_quiet_step (first|fail)|simp only[hz']|simp only[hz2]|simp only[f1]));refine wpQuiet_nil ?_;rintro _ ⟨x,rfl⟩))
       go_ret
       exact Gives.mk (by rw[HF.out];rfl)
   ·have HF:=lH (show ordersOk taken l=true by have:=HV.out;rw[List.drop_of_length_le (by have:=HN.out;omega),ordersFrom]at this;rw[HD2.out,← this])
    go_wp2_with fail
    go_ret
    exact Gives.mk (by rw[HF.out];rfl)
 ·have k40:decide (40<(n:Int))=true:=by simp;omega
  have HD2:=lH (show ordersOk taken l=false by rw[HD.out,decide_eq_false (by omega)];rfl)
  go_enter Tryz.func247,Tryz.ntmps247
  go_wp2_with fail
  go_ret
  exact Gives.mk (by rw[HD2.out];rfl)
end Go.Proofs.YtbaffippdifbpaaGreat
