/- Steps for functions that copy structs: single loads out of boxes, the colours of what is made one after the other. -/
import Derived.Test.YtdijmbipcgalfaaGreatHOwnS
import Derived.Test.YtdijmbipcgalfaaGreatHLnk0
import Derived.Deep.CutRange
import Derived.Test.YtdijmbipcgalfaaGreatHM0
import Derived.Test.YtdijmbipcgalfaaGreatHBox2
import Derived.Test.YtdijmbipcgalfaaGreatHStepH
import Derived.Test.YtdijmbipcgalfaaGreatHOkF
import Derived.Test.YtdijmbipcgalfaaGreatHM7
import Derived.Test.YtdijmbipcgalfaaGreatHM23
import Derived.Test.YtdijmbipcgalfaaGreatHM18
namespace Go.Proofs.YtdijmbipcgalfaaGreat
set_option maxRecDepth 100000
set_option maxHeartbeats 4000000
set_option linter.unusedVariables false
open Go.ChangeShapes Go.WideShapes Go.ChangeAt Go.RowKit
variable {vs:List Value}{B b bytes c d n s sc xb:Nat}{sa:Option Addr}{T1 t:TypeId}{z:Value}{w w0:World}
private abbrev aK9:=Tryz.underlying46
private abbrev bR1:=Tryz.underlying82
section
variable {P:Program} {ops:Array Oper} {rest:List Oper} {op:Oper} {a:Act} {w:World} {Q:Exit→Act→World→Prop}
theorem bQ7(hgd:op.guard=none)(ty:TypeId)(x:Operand)(ho:op.op=.load ty x)(b o:Nat)(hx:a.eval x=.pointer (some ⟨b,o,none⟩)){cs:List Value}{T:TypeId}(H:j5 w b cs T)(v:Value)(hv:cs[o]?=some v)
  (d:TypeDesc) (hu:P.underlying ty=some d) (hd:d.isRow=false) (h:wpList P ops Q rest (a.put op.dst v) w):wpList P ops Q (op::rest) a w:=by
 refine wpList_plain hgd fun _ hK=>?_
 have hagg:(isAgg ty).run P w=.ok false w:=by
  unfold isAgg
  rw[Sem.run_bind,run_underlying hu w]
  cases d<;>simp_all [TypeDesc.isRow]
 have hl:(loadVar ty ⟨b,o,none⟩).run P w=.ok v w:=by
  have hc:=H.cell o
  rw[hv]at hc
  simp[loadVar,Sem.run_bind,hagg,go_sem,hc]
 unfold Oper.wp execOp
 simp only[ho,hx,Instr.loadAt,Instr.sureAddr,Sem.run_bind,Sem.run_pure,Result.andThen_ok,hl]
 exact hK _ _ h
end
def j9:List (Nat × Nat × (Nat→Col))→Nat→Col
 | [],_=>(0,0)
 | (s,d,χ)::r,b=>if b<s then B9 d (χ b)else j9 r b
theorem bm7{χ:Nat→Col}{r:List (Nat × Nat × (Nat→Col))}(h:s≤b):j9 ((s,d,χ)::r) b=j9 r b:=by rw[j9,if_neg om]
theorem aq5{χ:Nat→Col}{r:List (Nat × Nat × (Nat→Col))}(h:b<s):j9 ((s,d,χ)::r) b=B9 d (χ b):=by rw[j9,if_pos h]
theorem f8{D:List (Nat × Nat × (Nat→Col))}{j:Nat}{χ:Nat→Col}(e:D[j]?=some (s,d,χ))(h:s≤b):j9 (D.drop j) b=j9 (D.drop (j+1)) b:=by
 obtain⟨hj,hx⟩:=List.getElem?_eq_some_iff.1 e
 rw[List.drop_eq_getElem_cons hj,hx,bm7 h]
theorem i9{D:List (Nat × Nat × (Nat→Col))}{j:Nat}{χ:Nat→Col}(e:D[j]?=some (s,d,χ))(h:b<s):j9 (D.drop j) b=B9 d (χ b):=by
 obtain⟨hj,hx⟩:=List.getElem?_eq_some_iff.1 e
 rw[List.drop_eq_getElem_cons hj,hx,aq5 h]
theorem But.keeps{b B:Nat}{w w':World}(h:But b w w')(hB:b<B):d7 B w w':=⟨h.size,fun k h1 h2=>h.block k om h2⟩
theorem B6.re{α:Type}[E:D7 α]{B d:Nat}{χ χ2:Nat→Col}{w:World}{a:Option Addr}{c:Nat}{l:List α}(h:B6 B χ2 (0,0) w a c l)(hc:∀ b,B≤b→b<w.heap.size→χ b=B9 d (χ2 b)):B6 B χ (d,0) w a c l :=
 h.recol fun k h1 h2 h3=>by rw[hc k h1 h2,h3];simp[B9]
theorem B6.reAt{α:Type}[E:D7 α]{B d j k:Nat}{χ χ2:Nat→Col}{w:World}{a:Option Addr}{c:Nat}{l:List α}(h:B6 B χ2 (j,k) w a c l)(hc:∀ b,B≤b→b<w.heap.size→χ b=B9 d (χ2 b)):B6 B χ (d+j,k) w a c l :=
 h.recol fun k h1 h2 h3=>by rw[hc k h1 h2,h3];simp[B9,Nat.add_comm]
theorem M3.re{α β:Type}[N:ap4 α β][F:D7 β]{B d:Nat}{χ χ2:Nat→Col}{w:World}{a:Option Addr}{c:Nat}{rows:List (N2 α)}(h:M3 B χ2 0 w a c rows)(hc:∀ b,B≤b→b<w.heap.size→χ b=B9 d (χ2 b)):M3 B χ d w a c rows :=
 h.recol fun k j h1 h2 h3=>by rw[hc k h1 h2,h3];simp[B9]
theorem M3.reAt{α β:Type}[N:ap4 α β][F:D7 β]{B d j:Nat}{χ χ2:Nat→Col}{w:World}{a:Option Addr}{c:Nat}{rows:List (N2 α)}(h:M3 B χ2 j w a c rows)(hc:∀ b,B≤b→b<w.heap.size→χ b=B9 d (χ2 b)):M3 B χ (d+j) w a c rows :=
 h.recol fun k i h1 h2 h3=>by rw[hc k h1 h2,h3];simp[B9,Nat.add_comm]
--STRUCTS
theorem M3.oc{α β:Type}[N:ap4 α β][F:D7 β]{B o o2:Nat}{χ:Nat→Col}{w:World}{a:Option Addr}{c:Nat}{rows:List (N2 α)}(h:M3 B χ o w a c rows)(e:o=o2):M3 B χ o2 w a c rows:=e▸h
theorem ab2.re{B d:Nat}{χ χ2:Nat→Col}{w:World}{a0:Option Addr}{c0:Nat}{x:Q8}(h:ab2 B χ2 0 w a0 c0 x)(hc:∀ b,B≤b→b<w.heap.size→χ b=B9 d (χ2 b)):ab2 B χ d w a0 c0 x:=⟨h.o0.re hc,h.ok⟩
theorem ab3.re{B d:Nat}{χ χ2:Nat→Col}{w:World}{a0:Option Addr}{c0:Nat}{x:E8}(h:ab3 B χ2 0 w a0 c0 x)(hc:∀ b,B≤b→b<w.heap.size→χ b=B9 d (χ2 b)):ab3 B χ d w a0 c0 x:=⟨h.o0.re hc,h.ok⟩
theorem U6.re{B d:Nat}{χ χ2:Nat→Col}{w:World}{a0:Option Addr}{c0:Nat}{a1:Option Addr}{c1:Nat}{x:I9}(h:U6 B χ2 0 w a0 c0 a1 c1 x)(hc:∀ b,B≤b→b<w.heap.size→χ b=B9 d (χ2 b)):U6 B χ d w a0 c0 a1 c1 x:=⟨h.o0.re hc,(h.o1.reAt (j:=0+1) hc).ic si,h.ok⟩
theorem ad5.re{B d:Nat}{χ χ2:Nat→Col}{w:World}{A:af9}{x:I3}(h:ad5 B χ2 0 w A x)(hc:∀ b,B≤b→b<w.heap.size→χ b=B9 d (χ2 b)):ad5 B χ d w A x:=⟨h.o0.re hc,(h.o1.reAt (j:=0+1) hc).ic si,(h.o2.reAt (j:=0+2) hc).ic si,(h.o3.reAt (j:=0+3) hc).ic si,(h.o4.reAt (j:=0+4) hc).ic si,(h.o5.reAt (j:=0+5) hc).ic si,(h.o6.reAt (j:=0+6) hc).ic si,h.ok⟩
theorem X6.re{B d:Nat}{χ χ2:Nat→Col}{w:World}{A:ab1}{x:I8}(h:X6 B χ2 0 w A x)(hc:∀ b,B≤b→b<w.heap.size→χ b=B9 d (χ2 b)):X6 B χ d w A x:=⟨h.o0.re hc,(h.o1.reAt (j:=0+1) hc).ic si,(h.o2.reAt (j:=0+2) hc).ic si,(h.o3.reAt (j:=0+3) hc).ic si,h.o4.elim fun r hr=>⟨r,hr.1,(hr.2.reAt (j:=0+4) hc).oc om⟩,(h.o5.reAt (j:=0+5) hc).ic si,h.ok⟩
theorem ad6.re{B d:Nat}{χ χ2:Nat→Col}{w:World}{A:ah7}{x:M0}(h:ad6 B χ2 0 w A x)(hc:∀ b,B≤b→b<w.heap.size→χ b=B9 d (χ2 b)):ad6 B χ d w A x:=⟨h.o0.re hc,(h.o1.reAt (j:=0+1) hc).ic si,(h.o2.reAt (j:=0+2) hc).ic si,(h.o3.reAt (j:=0+3) hc).ic si,(h.o4.reAt (j:=0+4) hc).ic si,(h.o5.reAt (j:=0+5) hc).ic si,(h.o6.reAt (j:=0+6) hc).ic si,(h.o7.reAt (j:=0+7) hc).ic si,(h.o8.reAt (j:=0+8) hc).ic si,h.o9.elim fun r hr=>⟨r,hr.1,(hr.2.reAt (j:=0+9) hc).oc om⟩,(h.o10.reAt (j:=0+10) hc).ic si,h.ok⟩
theorem aE{P:Program}{ops:Array Oper}{rest:List Oper}{op:Oper}{a:Act}{Q:Exit→Act→World→Prop}{α:Type}[E:D7 α]{l:List α}{ra:Option Addr}(w0:World)(size bytes:Nat)(hgd:op.guard=none)(s x:Operand)(ho:op.op=.call {callee:=.builtin .append,args:=#[s,x],argTypes:=#[t,t]})(ht:P.underlying t=some (.slice E.ty))(hq:RdS B w ra c l)(hb:l.length≤100000000)(g:b8 w (w0.alloc (.cells #[] E.ty)))
 (h:∀ (sa:Option Addr) (sc:Nat) (y:b7 w0),Hid (B6 w0.heap.size (fun _=>(0,0)) (0,0) y.w sa sc l)→wpList P ops Q rest (a.put op.dst (.slice sa l.length sc)) y.w)(hs:a.eval s=.slice (some ⟨w0.heap.size,0,none⟩) 0 0:=by rfl)(hx:a.eval x=.slice ra l.length c:=by rfl)(hinfo:(P.info? E.ty).map (fun i=>(i.zero,i.size,i.bytes))=some (some z,size,bytes):=by kernel_rfl)(hsz:E.size=size:=by rfl)(hzs:z.cells.size=size:=by rfl)(h0:0<size:=by decide)(hby:bytes≤1000:=by decide):wpList P ops Q (op::rest) a (w0.alloc (.cells #[] E.ty)):=by
 subst hsz
 refine I0 (t:=t) (enc:=E.enc) (w0:=w0) (z:=z) (size:=E.size) (bytes:=bytes) (n:=0) (l:=[]) hgd s x ho ht hinfo hzs h0 hby hs hx hq.nilcap rfl rfl (Own.emptyAt E.encLen nl (by first|rfl|(simp;done))) (hq.keep ⟨g.out.size,fun b _ h=>g.out.block b h⟩).slF E.one (by omega) ?_
 intro sa sc y ho2 _
 rw[List.nil_append]at ho2
 have:=h sa sc y (B6.of ho2 hq.goods (0,0))
 rwa[Nat.zero_add]
theorem lB{P:Program}{ops:Array Oper}{rest:List Oper}{op:Oper}{a:Act}{Q:Exit→Act→World→Prop}(hgd:op.guard=none)(ty:TypeId)(x:Operand)(ho:op.op=.load ty x)(b o:Nat)(hx:a.eval x=.pointer (some ⟨b,o,none⟩)){cs:List Value}{T:TypeId}{w1:World}(H:Hid (j5 w1 b cs T)){v:Value}{d:TypeDesc}(hv:cs[o]?=some v)(hu:P.underlying ty=some d)
 (h:wpList P ops Q rest (a.put op.dst v) w)[g1:b8 w1 w](hd:d.isRow=false:=by rfl):wpList P ops Q (op::rest) a w:=bQ7 hgd ty x ho b o hx (H.out.to g1) v hv d hu hd h
section
variable {P:Program} {w:World}
theorem bn9(base:Nat)(t ty e:TypeId)(i:TypeInfo)(z:Value)(size bytes:Nat)(ht:P.underlying t=some (.slice e))(hi:P.info? e=some i)(hz:i.zero=some z)
  (hsize:i.size=size) (hby:i.bytes=bytes)
  (v:Value) (n:Nat) (xs:List Value) (hown:w.ownsRow base e size v n xs)
  (a:Addr) (m c:Nat) (news:List Value) (hl:news.length=m*size) (hnews:∀ j u,news[j]?=some u→w.cell? (a.add j)=some u) (h1:∀ u∈news,u.oneCell'=true)
  (h63:n+m≤maxLen) (hbytes:(n+m)*bytes≤140737488355328) {v':Value} {w':World}
  (hr:(Builtin.append_ #[t,t] ty #[v,.slice (some a) m c]).run P w=.ok v' w'):v'.ownBlock=v.ownBlock∨v'.ownBlock=some w.heap.size:=by
 subst hsize
 subst hby
 have hsmall:n+m≤9223372036854775807:=by simp only[maxLen]at h63;omega
 rcases hown.2 with⟨rfl,rfl⟩|⟨g,cap,cur,rfl,hbg,hg,hnc,hcm,hcs,htake⟩
 ·by_cases hm:m=0
  ·subst hm
   have hn:news=[]:=List.eq_nil_of_length_eq_zero (by simpa using hl)
   subst hn
   have hr2:(Builtin.append_ #[t,t] ty #[.slice none 0 0,.slice (some a) 0 c]).run P w=.ok (.slice none 0 0) w:=by
    simp[Builtin.append_,run_underlying ht,sizeOf,typeInfo,hi,Builtin.lenOf,Builtin.firstCells,loadCells,loadCellsFrom]
   have:=hr.symm.trans hr2
   injection this with e1 _
   exact .inl (by rw[e1])
  ·have hr2:=run_append_nil (P:=P) w t ty e i z ht hi hz a m c news hl hnews om om (by have hb:=hbytes;simp only[Nat.zero_add]at hb;omega)
   have:=hr.symm.trans hr2
   injection this with e1 _
   exact .inr (by rw[e1];rfl)
 ·by_cases hroom:n+m≤cap
  ·have hfit:n*i.size+news.length≤cur.size:=by rw[hl,hcs,← Nat.add_mul];exact Nat.mul_le_mul_right _ hroom
   have hr2:=run_append_room (P:=P) w t ty e i ht hi g n cap cur hg a m c news hl hnews h1 hroom hfit
   have:=hr.symm.trans hr2
   injection this with e1 _
   exact .inl (by rw[e1];rfl)
  ·have holds:∀ j u,xs[j]?=some u→w.cell? ((⟨g,0,none⟩:Addr).add j)=some u:=hown.cells (g:=g) rfl
   have hr2:=run_append_grow (P:=P) w t ty e i z ht hi hz ⟨g,0,none⟩ n cap xs hown.1 holds a m c news hl hnews om om (growslice_fits om hbytes)
   have:=hr.symm.trans hr2
   injection this with e1 _
   exact .inr (by rw[e1];rfl)
variable {o:Oper} {a:Act} {K:Act→World→Prop} {Q:Exit→Act→World→Prop} {α:Type} {enc:α→List Value} {T size:Nat}
theorem bE2{cs:Array Value}(y:α)
  (s x:Operand) (ho:o.op=.call { callee:=.builtin .append,args:=#[s,x],argTypes:=#[t,t] })
  (ht:P.underlying t=some (.slice T)) (hinfo:(P.info? T).map (fun i=>(i.zero,i.size,i.bytes))=some (some z,size,bytes)) (hzs:z.cells.size=size) (hsz:0<size) (hby:bytes≤1000)
  {l:List α}    (hs:a.eval s=.slice sa n sc)  (hx:a.eval x=.slice (some ⟨xb,0,none⟩) 1 1) (hn:l.length=n)  (hown:Own enc T size B w sa sc l)
  (hxc:w.heap[xb]?=some (.cells cs T1 (0,0))) (hy:cs.toList=enc y) (h1:∀ u∈enc y,u.oneCell'=true) (hb:n≤1000000000) (hB:B≤w.heap.size) (g:b8 w0 w) (hB0:w0.heap.size≤B)
  (h:∀ (sa':Option Addr) (sc':Nat) (x':b7 w0),Own enc T size B x'.w sa' sc' (l++[y])→w.grownBy x'.w (Value.ownBlock (.slice sa n sc))→(E9 sa'=E9 sa∨E9 sa'=some w.heap.size)→K (a.put o.dst (.slice sa' (n+1) sc')) x'.w) :
  Oper.wp P o a w K Q:=by
 obtain⟨i,hi,h3⟩:=Option.map_eq_some_iff.1 hinfo
 simp only[Prod.mk.injEq]at h3
 obtain⟨h4,h5,h6⟩:=h3
 subst hn
 have hb':(l.length+1)*bytes≤140737488355328:=by
  have:(l.length+1)*bytes≤(l.length+1)*1000:=Nat.mul_le_mul_left _ hby
  omega
 have hnl:(enc y).length=1*size:=by rw[hown.1];omega
 have hnews:∀ (j:Nat) (u:Value),(enc y)[j]?=some u→w.cell? ((⟨xb,0,none⟩:Addr).add j)=some u:=fun j u hj=>by
  have e:(⟨xb,0,none⟩:Addr).add j=⟨xb,j,none⟩:=by
   unfold Addr.add;split
   ·rename_i h;rw[h]
   ·simp
  rw[e]
  rw[← hy,Array.getElem?_toList]at hj
  simp[World.cell?,hxc,hj]
 obtain⟨v',w',hr,ho',hg',-⟩:=run_append_own (P:=P) w B t o.type T i z size bytes ht hi h4 h5 h6 hzs hsz _ l.length (l.flatMap enc) hown.2 ⟨xb,0,none⟩ 1 1 (enc y) hnl hnews h1 (by unfold maxLen;omega) hb' hB
 have hblk:=bn9 B t o.type T i z size bytes ht hi h4 h5 h6 _ l.length (l.flatMap enc) hown.2 ⟨xb,0,none⟩ 1 1 (enc y) hnl hnews h1 (by unfold maxLen;omega) hb' hr
 have hlt:=hown.2.lt
 have hbel:Below w0.heap.size w0 w':=g.out.grown hg' g.out.size (fun k hk=>Nat.le_trans hB0 (hlt k hk).1)
 have hf:ba3 v' (l.length+1):=by
  rcases ho'.2 with⟨hv,hn0⟩|⟨g',cap,cur,hv,-⟩
  ·omega
  ·exact⟨_,_,hv⟩
 obtain⟨sa',sc',rfl⟩:=hf
 rw[I6,I6]at hblk
 unfold Oper.wp execOp
 simp only[ho,resolve,invoke,builtin,Sem.run_bind,Sem.run_pure,Result.andThen_ok,List.map_toArray,List.map_cons,List.map_nil,hs,hx,hr]
 refine h sa' sc' ⟨w',hbel⟩ ⟨hown.1,?_⟩ hg' hblk
 rw[List.flatMap_append,List.flatMap_singleton,List.length_append,List.length_singleton];exact ho'
theorem ac6{ops':Array Oper}{rest:List Oper}{cs:Array Value}(y:α)(hgd:o.guard=none)
  (s x:Operand) (ho:o.op=.call { callee:=.builtin .append,args:=#[s,x],argTypes:=#[t,t] })
  (ht:P.underlying t=some (.slice T)) (hinfo:(P.info? T).map (fun i=>(i.zero,i.size,i.bytes))=some (some z,size,bytes)) (hzs:z.cells.size=size) (hsz:0<size) (hby:bytes≤1000)
  {l:List α}    (hs:a.eval s=.slice sa n sc)  (hx:a.eval x=.slice (some ⟨xb,0,none⟩) 1 1) (hn:l.length=n)  (hown:Own enc T size B w sa sc l)
  (hxc:w.heap[xb]?=some (.cells cs T1 (0,0))) (hy:cs.toList=enc y) (h1:∀ u∈enc y,u.oneCell'=true) (hb:n≤1000000000) (hB:B≤w.heap.size) (g:b8 w0 w) (hB0:w0.heap.size≤B)
  (h:∀ (sa':Option Addr) (sc':Nat) (x':b7 w0),Own enc T size B x'.w sa' sc' (l++[y])→w.grownBy x'.w (Value.ownBlock (.slice sa n sc))→(E9 sa'=E9 sa∨E9 sa'=some w.heap.size)→wpList P ops' Q rest (a.put o.dst (.slice sa' (n+1) sc')) x'.w) :
  wpList P ops' Q (o::rest) a w :=
 wpList_plain hgd fun _ hK=>bE2 (w0:=w0) y s x ho ht hinfo hzs hsz hby hs hx hn hown hxc hy h1 hb hB g hB0 fun sa' sc' x' h2 h3 h4=>hK _ _ (h sa' sc' x' h2 h3 h4)
theorem bU6{ops:Array Oper}(hw:Region.wanted o (yielded ops a.tmps)=true){E:Prop}{cs:Array Value}(y:α)
  (s x:Operand) (ho:o.op=.call { callee:=.builtin .append,args:=#[s,x],argTypes:=#[t,t] })
  (ht:P.underlying t=some (.slice T)) (hinfo:(P.info? T).map (fun i=>(i.zero,i.size,i.bytes))=some (some z,size,bytes)) (hzs:z.cells.size=size) (hsz:0<size) (hby:bytes≤1000)
  {l:List α}    (hs:a.eval s=.slice sa n sc)  (hx:a.eval x=.slice (some ⟨xb,0,none⟩) 1 1) (hn:l.length=n)  (hown:Own enc T size B w sa sc l)
  (hxc:w.heap[xb]?=some (.cells cs T1 (0,0))) (hy:cs.toList=enc y) (h1:∀ u∈enc y,u.oneCell'=true) (hb:n≤1000000000) (hB:B≤w.heap.size) (g:b8 w0 w) (hB0:w0.heap.size≤B)
  (h:∀ (sa':Option Addr) (sc':Nat) (x':b7 w0),Own enc T size B x'.w sa' sc' (l++[y])→w.grownBy x'.w (Value.ownBlock (.slice sa n sc))→(E9 sa'=E9 sa∨E9 sa'=some w.heap.size)→K (a.put o.dst (.slice sa' (n+1) sc')) x'.w) :
  if Region.wanted o (yielded ops a.tmps)=true then Oper.wp P o a w K Q else E:=by
 rw[if_pos hw]
 exact bE2 (w0:=w0) y s x ho ht hinfo hzs hsz hby hs hx hn hown hxc hy h1 hb hB g hB0 h
end
theorem aX9{x:I9}(h:Enc.Rd B w vs x)(ht:Enc.tot x≤100000000) :
  Calls Tryz.prog 258 #[.agg vs.toArray] w (R3 w x):=by
 obtain⟨a0,c0,a1,c1,rfl,q0,q1,hok⟩:=h
 have HT:=lH (show x.Records.length≤100000000∧x.Dropped.length≤100000000∧True from by
  have:Enc.tot x=d9 x.Records+d9 x.Dropped:=rfl
  have:=d6 x.Records;have:=f6 x.Records
  have:=d6 x.Dropped;have:=f6 x.Dropped
  refine⟨?_,?_,trivial⟩<;>omega)
 have HT0:=lH ht;clear ht
 have HQ0:=lH q0;clear q0
 have HQ1:=lH q1;clear q1
 have HOK:=lH hok;clear hok
 have S0:=lH ((j5.new w [.int .i64 x.Room,.slice a0 x.Records.length c0,.slice a1 x.Dropped.length c1] 82 w.heap.size rfl).to (ii:b8 _ ((w.alloc (.cells #[.int .i64 x.Room,.slice a0 x.Records.length c0,.slice a1 x.Dropped.length c1] 82)).alloc (.cells #[.int .i64 0,.slice none 0 0,.slice none 0 0] 82))))
 have R0:=lH ((j5.new (w.alloc (.cells #[.int .i64 x.Room,.slice a0 x.Records.length c0,.slice a1 x.Dropped.length c1] 82)) [.int .i64 0,.slice none 0 0,.slice none 0 0] 82 (w.heap.size+1) si).to (ii:b8 _ ((w.alloc (.cells #[.int .i64 x.Room,.slice a0 x.Records.length c0,.slice a1 x.Dropped.length c1] 82)).alloc (.cells #[.int .i64 0,.slice none 0 0,.slice none 0 0] 82))))
 go_enter Tryz.func258,Tryz.ntmps258
 go_wp2_with (first|(refine lB rfl _ _ rfl w.heap.size 1 rfl S0 rfl Tryz.underlying73 ?_))
 refine(au9 (HQ0.out.keep ii) (HT.out.1)).mono ?_
 rintro _ _ ⟨na0,nc0,rfl,no0,y0,rfl⟩
 have O0:=lH no0;clear no0
 go_wp2_with (first|(refine sA rfl _ _ _ rfl (w.heap.size) 1 rfl [.slice na0 x.Records.length nc0] [.int .i64 x.Room,.slice na0 x.Records.length nc0,.slice a1 x.Dropped.length c1] S0 w si ?_;intro z1 HZ1 KQ1;have K1:=KQ1;have RZ1:=lH ((R0.out.to ii).but KQ1.out om);clear KQ1;have e1:LeN (w.heap.size+2) z1.w.heap.size:=⟨RZ1.out.lt⟩;clear R0 S0)|(refine lB rfl _ _ rfl w.heap.size 2 rfl HZ1 rfl aK9 ?_))
 refine(au8 (HQ1.out.keep ii) (HT.out.2.1)).mono ?_
 rintro _ _ ⟨na1,nc1,rfl,no1,y1,rfl⟩
 have O1:=lH no1;clear no1
 go_wp2_with (first|(refine sA rfl _ _ _ rfl (w.heap.size) 2 rfl [.slice na1 x.Dropped.length nc1] [.int .i64 x.Room,.slice na0 x.Records.length nc0,.slice na1 x.Dropped.length nc1] HZ1 w si ?_;intro z2 HZ2 KQ2;have K2:=KQ2;have RZ2:=lH ((RZ1.out.to ii).but KQ2.out om);clear KQ2;have e2:LeN (w.heap.size+2) z2.w.heap.size:=⟨RZ2.out.lt⟩;clear HZ1 RZ1)|(refine lA rfl _ _ rfl (w.heap.size) 0 rfl [.int .i64 x.Room,.slice na0 x.Records.length nc0,.slice na1 x.Dropped.length nc1] HZ2 bR1 ?_)|(refine sB rfl _ _ _ rfl (w.heap.size+1) 0 rfl [.int .i64 x.Room,.slice na0 x.Records.length nc0,.slice na1 x.Dropped.length nc1] RZ2 w si ?_;intro zr HR KQr;have KR:=KQr;clear KQr))
 have GZ2:d7 (w.heap.size+2) z2.w zr.w:=KR.out.keeps om
 have GY1:d7 (w.heap.size+2) y1.w zr.w:=d7.trans (K2.out.keeps om) GZ2
 have GZ1:d7 (w.heap.size+2) z1.w zr.w:=d7.trans (ii:d7 (w.heap.size+2) z1.w y1.w) GY1
 have GY0:d7 (w.heap.size+2) y0.w zr.w:=d7.trans (K1.out.keeps om) GZ1
 obtain⟨D,hD⟩:∃ D:List (Nat × Nat × (Nat→Col)),D=[(y0.w.heap.size,0,(fun _=>(0,0))),(y1.w.heap.size,1,(fun _=>(0,0)))]:=⟨_,rfl⟩
 have e0:D[0]?=some (y0.w.heap.size,0,(fun _=>(0,0))):=by rw[hD];rfl
 have e1:D[1]?=some (y1.w.heap.size,1,(fun _=>(0,0))):=by rw[hD];rfl
 clear hD
 have P0:∀ b,j9 D b=j9 (D.drop 0) b:=fun _=>rfl
 have C0:∀ b,((w.alloc (.cells #[.int .i64 x.Room,.slice a0 x.Records.length c0,.slice a1 x.Dropped.length c1] 82)).alloc (.cells #[.int .i64 0,.slice none 0 0,.slice none 0 0] 82)).heap.size≤b→b<y0.w.heap.size→j9 D b=B9 0 ((fun _=>(0,0)) b):=fun b h1 h2=>(P0 b).trans (i9 e0 h2)
 have P1:∀ b,y0.w.heap.size≤b→j9 D b=j9 (D.drop 1) b:=fun b hb=>(P0 b).trans (f8 e0 hb)
 have C1:∀ b,z1.w.heap.size≤b→b<y1.w.heap.size→j9 D b=B9 1 ((fun _=>(0,0)) b):=fun b h1 h2=>(P1 b (Nat.le_trans K1.out.size h1)).trans (i9 e1 h2)
 refine bodyPost_ret (v:=.agg #[.int .i64 x.Room,.slice na0 x.Records.length nc0,.slice na1 x.Dropped.length nc1]) (A7 (P:=Tryz.prog) rfl rfl HR.out _ bR1 rfl kr) rfl ⟨[.int .i64 x.Room,.slice na0 x.Records.length nc0,.slice na1 x.Dropped.length nc1],j9 D,rfl,⟨na0,nc0,na1,nc1,rfl,⟨((((O0.out.re C0).mono (LeN.out (a:=w.heap.size+2))).keep GY0).mono om),((((O1.out.re C1).mono (LeN.out (a:=w.heap.size+2))).keep GY1).mono om),HOK.out⟩⟩,b7.of⟩
theorem aJ5{x:E8}(h:Enc.Rd B w vs x)(ht:Enc.tot x≤100000000) :
  Calls Tryz.prog 136 #[.agg vs.toArray] w (R3 w x):=by
 obtain⟨a0,c0,rfl,q0,hok⟩:=h
 have HT:=lH (show x.Waiting.length≤100000000∧True from by
  have:Enc.tot x=d9 x.Waiting:=rfl
  have:=d6 x.Waiting;have:=f6 x.Waiting
  refine⟨?_,trivial⟩<;>omega)
 have HT0:=lH ht;clear ht
 have HQ0:=lH q0;clear q0
 have HOK:=lH hok;clear hok
 have S0:=lH ((j5.new w [.int .i64 x.Next,.int .i64 x.Window,.slice a0 x.Waiting.length c0,.int .i64 x.Done] 69 w.heap.size rfl).to (ii:b8 _ ((w.alloc (.cells #[.int .i64 x.Next,.int .i64 x.Window,.slice a0 x.Waiting.length c0,.int .i64 x.Done] 69)).alloc (.cells #[.int .i64 0,.int .i64 0,.slice none 0 0,.int .i64 0] 69))))
 have R0:=lH ((j5.new (w.alloc (.cells #[.int .i64 x.Next,.int .i64 x.Window,.slice a0 x.Waiting.length c0,.int .i64 x.Done] 69)) [.int .i64 0,.int .i64 0,.slice none 0 0,.int .i64 0] 69 (w.heap.size+1) si).to (ii:b8 _ ((w.alloc (.cells #[.int .i64 x.Next,.int .i64 x.Window,.slice a0 x.Waiting.length c0,.int .i64 x.Done] 69)).alloc (.cells #[.int .i64 0,.int .i64 0,.slice none 0 0,.int .i64 0] 69))))
 go_enter Tryz.func136,Tryz.ntmps136
 go_wp2_with (first|(refine lB rfl _ _ rfl w.heap.size 2 rfl S0 rfl Tryz.underlying67 ?_))
 refine(bs6 (HQ0.out.keep ii) (HT.out.1)).mono ?_
 rintro _ _ ⟨na0,nc0,rfl,no0,y0,rfl⟩
 have O0:=lH no0;clear no0
 go_wp2_with (first|(refine sA rfl _ _ _ rfl (w.heap.size) 2 rfl [.slice na0 x.Waiting.length nc0] [.int .i64 x.Next,.int .i64 x.Window,.slice na0 x.Waiting.length nc0,.int .i64 x.Done] S0 w si ?_;intro z1 HZ1 KQ1;have K1:=KQ1;have RZ1:=lH ((R0.out.to ii).but KQ1.out om);clear KQ1;have e1:LeN (w.heap.size+2) z1.w.heap.size:=⟨RZ1.out.lt⟩;clear R0 S0)|(refine lA rfl _ _ rfl (w.heap.size) 0 rfl [.int .i64 x.Next,.int .i64 x.Window,.slice na0 x.Waiting.length nc0,.int .i64 x.Done] HZ1 Tryz.underlying69 ?_)|(refine sB rfl _ _ _ rfl (w.heap.size+1) 0 rfl [.int .i64 x.Next,.int .i64 x.Window,.slice na0 x.Waiting.length nc0,.int .i64 x.Done] RZ1 w si ?_;intro zr HR KQr;have KR:=KQr;clear KQr))
 have GZ1:d7 (w.heap.size+2) z1.w zr.w:=KR.out.keeps om
 have GY0:d7 (w.heap.size+2) y0.w zr.w:=d7.trans (K1.out.keeps om) GZ1
 obtain⟨D,hD⟩:∃ D:List (Nat × Nat × (Nat→Col)),D=[(y0.w.heap.size,0,(fun _=>(0,0)))]:=⟨_,rfl⟩
 have e0:D[0]?=some (y0.w.heap.size,0,(fun _=>(0,0))):=by rw[hD];rfl
 clear hD
 have P0:∀ b,j9 D b=j9 (D.drop 0) b:=fun _=>rfl
 have C0:∀ b,((w.alloc (.cells #[.int .i64 x.Next,.int .i64 x.Window,.slice a0 x.Waiting.length c0,.int .i64 x.Done] 69)).alloc (.cells #[.int .i64 0,.int .i64 0,.slice none 0 0,.int .i64 0] 69)).heap.size≤b→b<y0.w.heap.size→j9 D b=B9 0 ((fun _=>(0,0)) b):=fun b h1 h2=>(P0 b).trans (i9 e0 h2)
 refine bodyPost_ret (v:=.agg #[.int .i64 x.Next,.int .i64 x.Window,.slice na0 x.Waiting.length nc0,.int .i64 x.Done]) (A7 (P:=Tryz.prog) rfl rfl HR.out _ Tryz.underlying69 rfl kr) rfl ⟨[.int .i64 x.Next,.int .i64 x.Window,.slice na0 x.Waiting.length nc0,.int .i64 x.Done],j9 D,rfl,⟨na0,nc0,rfl,⟨((((O0.out.re C0).mono (LeN.out (a:=w.heap.size+2))).keep GY0).mono om),HOK.out⟩⟩,b7.of⟩
theorem bi8{x:Q8}(h:Enc.Rd B w vs x)(ht:Enc.tot x≤100000000) :
  Calls Tryz.prog 143 #[.agg vs.toArray] w (R3 w x):=by
 obtain⟨a0,c0,rfl,q0,hok⟩:=h
 have HT:=lH (show x.Starts.length≤100000000∧True from by
  have:Enc.tot x=(x.Rest.size:Int)+d9 x.Starts:=rfl
  have:=d6 x.Starts;have:=f6 x.Starts
  refine⟨?_,trivial⟩<;>omega)
 have HT0:=lH ht;clear ht
 have HQ0:=lH q0;clear q0
 have HOK:=lH hok;clear hok
 have S0:=lH ((j5.new w [.int .i64 x.Channel,.int .i64 x.Count,.string x.Rest,.slice a0 x.Starts.length c0] 85 w.heap.size rfl).to (ii:b8 _ ((w.alloc (.cells #[.int .i64 x.Channel,.int .i64 x.Count,.string x.Rest,.slice a0 x.Starts.length c0] 85)).alloc (.cells #[.int .i64 0,.int .i64 0,.string ⟨#[]⟩,.slice none 0 0] 85))))
 have R0:=lH ((j5.new (w.alloc (.cells #[.int .i64 x.Channel,.int .i64 x.Count,.string x.Rest,.slice a0 x.Starts.length c0] 85)) [.int .i64 0,.int .i64 0,.string ⟨#[]⟩,.slice none 0 0] 85 (w.heap.size+1) si).to (ii:b8 _ ((w.alloc (.cells #[.int .i64 x.Channel,.int .i64 x.Count,.string x.Rest,.slice a0 x.Starts.length c0] 85)).alloc (.cells #[.int .i64 0,.int .i64 0,.string ⟨#[]⟩,.slice none 0 0] 85))))
 go_enter Tryz.func143,Tryz.ntmps143
 go_wp2_with (first|(refine lB rfl _ _ rfl w.heap.size 3 rfl S0 rfl aK9 ?_))
 refine(au8 (HQ0.out.keep ii) (HT.out.1)).mono ?_
 rintro _ _ ⟨na0,nc0,rfl,no0,y0,rfl⟩
 have O0:=lH no0;clear no0
 go_wp2_with (first|(refine sA rfl _ _ _ rfl (w.heap.size) 3 rfl [.slice na0 x.Starts.length nc0] [.int .i64 x.Channel,.int .i64 x.Count,.string x.Rest,.slice na0 x.Starts.length nc0] S0 w si ?_;intro z1 HZ1 KQ1;have K1:=KQ1;have RZ1:=lH ((R0.out.to ii).but KQ1.out om);clear KQ1;have e1:LeN (w.heap.size+2) z1.w.heap.size:=⟨RZ1.out.lt⟩;clear R0 S0)|(refine lA rfl _ _ rfl (w.heap.size) 0 rfl [.int .i64 x.Channel,.int .i64 x.Count,.string x.Rest,.slice na0 x.Starts.length nc0] HZ1 Tryz.underlying85 ?_)|(refine sB rfl _ _ _ rfl (w.heap.size+1) 0 rfl [.int .i64 x.Channel,.int .i64 x.Count,.string x.Rest,.slice na0 x.Starts.length nc0] RZ1 w si ?_;intro zr HR KQr;have KR:=KQr;clear KQr))
 have GZ1:d7 (w.heap.size+2) z1.w zr.w:=KR.out.keeps om
 have GY0:d7 (w.heap.size+2) y0.w zr.w:=d7.trans (K1.out.keeps om) GZ1
 obtain⟨D,hD⟩:∃ D:List (Nat × Nat × (Nat→Col)),D=[(y0.w.heap.size,0,(fun _=>(0,0)))]:=⟨_,rfl⟩
 have e0:D[0]?=some (y0.w.heap.size,0,(fun _=>(0,0))):=by rw[hD];rfl
 clear hD
 have P0:∀ b,j9 D b=j9 (D.drop 0) b:=fun _=>rfl
 have C0:∀ b,((w.alloc (.cells #[.int .i64 x.Channel,.int .i64 x.Count,.string x.Rest,.slice a0 x.Starts.length c0] 85)).alloc (.cells #[.int .i64 0,.int .i64 0,.string ⟨#[]⟩,.slice none 0 0] 85)).heap.size≤b→b<y0.w.heap.size→j9 D b=B9 0 ((fun _=>(0,0)) b):=fun b h1 h2=>(P0 b).trans (i9 e0 h2)
 refine bodyPost_ret (v:=.agg #[.int .i64 x.Channel,.int .i64 x.Count,.string x.Rest,.slice na0 x.Starts.length nc0]) (A7 (P:=Tryz.prog) rfl rfl HR.out _ Tryz.underlying85 rfl kr) rfl ⟨[.int .i64 x.Channel,.int .i64 x.Count,.string x.Rest,.slice na0 x.Starts.length nc0],j9 D,rfl,⟨na0,nc0,rfl,⟨((((O0.out.re C0).mono (LeN.out (a:=w.heap.size+2))).keep GY0).mono om),HOK.out⟩⟩,b7.of⟩
theorem bi7{x:A8}(h:Enc.Rd B w vs x)(ht:Enc.tot x≤100000000) :
  Calls Tryz.prog 140 #[.agg vs.toArray] w (R3 w x):=by
 obtain⟨a0,c0,rfl,q0,hok⟩:=h
 have HT:=lH (show x.Parts.length≤100000000∧True from by
  have:Enc.tot x=d9 x.Parts:=rfl
  have:=d6 x.Parts;have:=f6 x.Parts
  refine⟨?_,trivial⟩<;>omega)
 have HT0:=lH ht;clear ht
 have HQ0:=lH q0;clear q0
 have HOK:=lH hok;clear hok
 have S0:=lH ((j5.new w [.int .i64 x.File,.int .i64 x.Size,.int .i64 x.Check,.slice a0 x.Parts.length c0] 179 w.heap.size rfl).to (ii:b8 _ ((w.alloc (.cells #[.int .i64 x.File,.int .i64 x.Size,.int .i64 x.Check,.slice a0 x.Parts.length c0] 179)).alloc (.cells #[.int .i64 0,.int .i64 0,.int .i64 0,.slice none 0 0] 179))))
 have R0:=lH ((j5.new (w.alloc (.cells #[.int .i64 x.File,.int .i64 x.Size,.int .i64 x.Check,.slice a0 x.Parts.length c0] 179)) [.int .i64 0,.int .i64 0,.int .i64 0,.slice none 0 0] 179 (w.heap.size+1) si).to (ii:b8 _ ((w.alloc (.cells #[.int .i64 x.File,.int .i64 x.Size,.int .i64 x.Check,.slice a0 x.Parts.length c0] 179)).alloc (.cells #[.int .i64 0,.int .i64 0,.int .i64 0,.slice none 0 0] 179))))
 go_enter Tryz.func140,Tryz.ntmps140
 go_wp2_with (first|(refine lB rfl _ _ rfl w.heap.size 3 rfl S0 rfl Tryz.underlying30 ?_))
 refine(ae8 (HQ0.out.keep ii) (HT.out.1)).mono ?_
 rintro _ _ ⟨na0,nc0,rfl,no0,y0,rfl⟩
 have O0:=lH no0;clear no0
 go_wp2_with (first|(refine sA rfl _ _ _ rfl (w.heap.size) 3 rfl [.slice na0 x.Parts.length nc0] [.int .i64 x.File,.int .i64 x.Size,.int .i64 x.Check,.slice na0 x.Parts.length nc0] S0 w si ?_;intro z1 HZ1 KQ1;have K1:=KQ1;have RZ1:=lH ((R0.out.to ii).but KQ1.out om);clear KQ1;have e1:LeN (w.heap.size+2) z1.w.heap.size:=⟨RZ1.out.lt⟩;clear R0 S0)|(refine lA rfl _ _ rfl (w.heap.size) 0 rfl [.int .i64 x.File,.int .i64 x.Size,.int .i64 x.Check,.slice na0 x.Parts.length nc0] HZ1 Tryz.underlying179 ?_)|(refine sB rfl _ _ _ rfl (w.heap.size+1) 0 rfl [.int .i64 x.File,.int .i64 x.Size,.int .i64 x.Check,.slice na0 x.Parts.length nc0] RZ1 w si ?_;intro zr HR KQr;have KR:=KQr;clear KQr))
 have GZ1:d7 (w.heap.size+2) z1.w zr.w:=KR.out.keeps om
 have GY0:d7 (w.heap.size+2) y0.w zr.w:=d7.trans (K1.out.keeps om) GZ1
 obtain⟨D,hD⟩:∃ D:List (Nat × Nat × (Nat→Col)),D=[(y0.w.heap.size,0,(fun _=>(0,0)))]:=⟨_,rfl⟩
 have e0:D[0]?=some (y0.w.heap.size,0,(fun _=>(0,0))):=by rw[hD];rfl
 clear hD
 have P0:∀ b,j9 D b=j9 (D.drop 0) b:=fun _=>rfl
 have C0:∀ b,((w.alloc (.cells #[.int .i64 x.File,.int .i64 x.Size,.int .i64 x.Check,.slice a0 x.Parts.length c0] 179)).alloc (.cells #[.int .i64 0,.int .i64 0,.int .i64 0,.slice none 0 0] 179)).heap.size≤b→b<y0.w.heap.size→j9 D b=B9 0 ((fun _=>(0,0)) b):=fun b h1 h2=>(P0 b).trans (i9 e0 h2)
 refine bodyPost_ret (v:=.agg #[.int .i64 x.File,.int .i64 x.Size,.int .i64 x.Check,.slice na0 x.Parts.length nc0]) (A7 (P:=Tryz.prog) rfl rfl HR.out _ Tryz.underlying179 rfl kr) rfl ⟨[.int .i64 x.File,.int .i64 x.Size,.int .i64 x.Check,.slice na0 x.Parts.length nc0],j9 D,rfl,⟨na0,nc0,rfl,⟨((((O0.out.re C0).mono (LeN.out (a:=w.heap.size+2))).keep GY0).mono om),HOK.out⟩⟩,b7.of⟩
theorem bd8{x:s7}(h:Enc.Rd B w vs x)(ht:Enc.tot x≤100000000) :
  Calls Tryz.prog 145 #[.agg vs.toArray] w (R3 w x):=by
 obtain⟨a0,c0,rfl,q0,hok⟩:=h
 have HT:=lH (show x.Queue.length≤100000000∧True from by
  have:Enc.tot x=(x.Data.size:Int)+d9 x.Queue:=rfl
  have:=d6 x.Queue;have:=f6 x.Queue
  refine⟨?_,trivial⟩<;>omega)
 have HT0:=lH ht;clear ht
 have HQ0:=lH q0;clear q0
 have HOK:=lH hok;clear hok
 have S0:=lH ((j5.new w [.int .i64 x.File,.string x.Data,.slice a0 x.Queue.length c0,.bool x.Done] 183 w.heap.size rfl).to (ii:b8 _ ((w.alloc (.cells #[.int .i64 x.File,.string x.Data,.slice a0 x.Queue.length c0,.bool x.Done] 183)).alloc (.cells #[.int .i64 0,.string ⟨#[]⟩,.slice none 0 0,.bool false] 183))))
 have R0:=lH ((j5.new (w.alloc (.cells #[.int .i64 x.File,.string x.Data,.slice a0 x.Queue.length c0,.bool x.Done] 183)) [.int .i64 0,.string ⟨#[]⟩,.slice none 0 0,.bool false] 183 (w.heap.size+1) si).to (ii:b8 _ ((w.alloc (.cells #[.int .i64 x.File,.string x.Data,.slice a0 x.Queue.length c0,.bool x.Done] 183)).alloc (.cells #[.int .i64 0,.string ⟨#[]⟩,.slice none 0 0,.bool false] 183))))
 go_enter Tryz.func145,Tryz.ntmps145
 go_wp2_with (first|(refine lB rfl _ _ rfl w.heap.size 2 rfl S0 rfl aK9 ?_))
 refine(au8 (HQ0.out.keep ii) (HT.out.1)).mono ?_
 rintro _ _ ⟨na0,nc0,rfl,no0,y0,rfl⟩
 have O0:=lH no0;clear no0
 go_wp2_with (first|(refine sA rfl _ _ _ rfl (w.heap.size) 2 rfl [.slice na0 x.Queue.length nc0] [.int .i64 x.File,.string x.Data,.slice na0 x.Queue.length nc0,.bool x.Done] S0 w si ?_;intro z1 HZ1 KQ1;have K1:=KQ1;have RZ1:=lH ((R0.out.to ii).but KQ1.out om);clear KQ1;have e1:LeN (w.heap.size+2) z1.w.heap.size:=⟨RZ1.out.lt⟩;clear R0 S0)|(refine lA rfl _ _ rfl (w.heap.size) 0 rfl [.int .i64 x.File,.string x.Data,.slice na0 x.Queue.length nc0,.bool x.Done] HZ1 Tryz.underlying183 ?_)|(refine sB rfl _ _ _ rfl (w.heap.size+1) 0 rfl [.int .i64 x.File,.string x.Data,.slice na0 x.Queue.length nc0,.bool x.Done] RZ1 w si ?_;intro zr HR KQr;have KR:=KQr;clear KQr))
 have GZ1:d7 (w.heap.size+2) z1.w zr.w:=KR.out.keeps om
 have GY0:d7 (w.heap.size+2) y0.w zr.w:=d7.trans (K1.out.keeps om) GZ1
 obtain⟨D,hD⟩:∃ D:List (Nat × Nat × (Nat→Col)),D=[(y0.w.heap.size,0,(fun _=>(0,0)))]:=⟨_,rfl⟩
 have e0:D[0]?=some (y0.w.heap.size,0,(fun _=>(0,0))):=by rw[hD];rfl
 clear hD
 have P0:∀ b,j9 D b=j9 (D.drop 0) b:=fun _=>rfl
 have C0:∀ b,((w.alloc (.cells #[.int .i64 x.File,.string x.Data,.slice a0 x.Queue.length c0,.bool x.Done] 183)).alloc (.cells #[.int .i64 0,.string ⟨#[]⟩,.slice none 0 0,.bool false] 183)).heap.size≤b→b<y0.w.heap.size→j9 D b=B9 0 ((fun _=>(0,0)) b):=fun b h1 h2=>(P0 b).trans (i9 e0 h2)
 refine bodyPost_ret (v:=.agg #[.int .i64 x.File,.string x.Data,.slice na0 x.Queue.length nc0,.bool x.Done]) (A7 (P:=Tryz.prog) rfl rfl HR.out _ Tryz.underlying183 rfl kr) rfl ⟨[.int .i64 x.File,.string x.Data,.slice na0 x.Queue.length nc0,.bool x.Done],j9 D,rfl,⟨na0,nc0,rfl,⟨((((O0.out.re C0).mono (LeN.out (a:=w.heap.size+2))).keep GY0).mono om),HOK.out⟩⟩,b7.of⟩
theorem bs4{x:I3}(h:Enc.Rd B w vs x)(ht:Enc.tot x≤100000000) :
  Calls Tryz.prog 142 #[.agg vs.toArray] w (R3 w x):=by
 obtain⟨A,rfl,F⟩:=h
 have HT:=lH (show x.Params.length≤100000000∧x.Limits.length≤100000000∧x.Orders.length≤100000000∧x.Done.length≤100000000∧Enc.tot x.Recorder≤100000000∧x.Asked.length≤100000000∧True from by
  have:Enc.tot x=d9 x.Params+d9 x.Limits+d9 x.Orders+d9 x.Done+Enc.tot x.Recorder+d9 x.Asked:=rfl
  have:=d6 x.Params;have:=f6 x.Params
  have:=d6 x.Limits;have:=f6 x.Limits
  have:=d6 x.Orders;have:=f6 x.Orders
  have:=d6 x.Done;have:=f6 x.Done
  have:=Enc.tot_nonneg x.Recorder
  have:Enc.tot x.Recorder=d9 x.Recorder.Records+d9 x.Recorder.Dropped:=rfl
  have:=d6 x.Recorder.Records;have:=f6 x.Recorder.Records
  have:=d6 x.Recorder.Dropped;have:=f6 x.Recorder.Dropped
  have:=d6 x.Asked;have:=f6 x.Asked
  refine⟨?_,?_,?_,?_,?_,?_,trivial⟩<;>omega)
 have HT0:=lH ht;clear ht
 have HFF:=lH F;clear F
 have S0:=lH ((j5.new w (F8 x A) 84 w.heap.size rfl).to (ii:b8 _ ((w.alloc (.cells (F8 x A).toArray 84)).alloc (.cells S3.toArray 84))))
 have R0:=lH ((j5.new (w.alloc (.cells (F8 x A).toArray 84)) S3 84 (w.heap.size+1) si).to (ii:b8 _ ((w.alloc (.cells (F8 x A).toArray 84)).alloc (.cells S3.toArray 84))))
 go_enter Tryz.func142,Tryz.ntmps142
 go_wp2_with (first|(refine lB rfl _ _ rfl w.heap.size 1 rfl S0 rfl aK9 ?_))
 refine(au8 (HFF.out.q0.keep ii) (HT.out.1)).mono ?_
 rintro _ _ ⟨na0,nc0,rfl,no0,y0,rfl⟩
 have O0:=lH no0;clear no0
 go_wp2_with (first|(refine sA rfl _ _ _ rfl (w.heap.size) 1 rfl [.slice na0 x.Params.length nc0] (S8 x na0 nc0 A.a1 A.c1 A.a2 A.c2 A.a3 A.c3 A.a4 A.c4 A.a5 A.c5 A.a6 A.c6) S0 w si ?_;intro z1 HZ1 KQ1;have K1:=KQ1;have RZ1:=lH ((R0.out.to ii).but KQ1.out om);clear KQ1;have e1:LeN (w.heap.size+2) z1.w.heap.size:=⟨RZ1.out.lt⟩;clear R0 S0)|(refine lB rfl _ _ rfl w.heap.size 3 rfl HZ1 rfl Tryz.underlying78 ?_))
 refine(bi9 (HFF.out.q1.keep ii) (HT.out.2.1)).mono ?_
 rintro _ _ ⟨na1,nc1,rfl,no1,y1,rfl⟩
 have O1:=lH no1;clear no1
 go_wp2_with (first|(refine sA rfl _ _ _ rfl (w.heap.size) 3 rfl [.slice na1 x.Limits.length nc1] (S8 x na0 nc0 na1 nc1 A.a2 A.c2 A.a3 A.c3 A.a4 A.c4 A.a5 A.c5 A.a6 A.c6) HZ1 w si ?_;intro z2 HZ2 KQ2;have K2:=KQ2;have RZ2:=lH ((RZ1.out.to ii).but KQ2.out om);clear KQ2;have e2:LeN (w.heap.size+2) z2.w.heap.size:=⟨RZ2.out.lt⟩;clear HZ1 RZ1)|(refine lB rfl _ _ rfl w.heap.size 4 rfl HZ2 rfl Tryz.underlying79 ?_))
 refine(aY0 (HFF.out.q2.keep ii) (HT.out.2.2.1)).mono ?_
 rintro _ _ ⟨na2,nc2,rfl,no2,y2,rfl⟩
 have O2:=lH no2;clear no2
 go_wp2_with (first|(refine sA rfl _ _ _ rfl (w.heap.size) 4 rfl [.slice na2 x.Orders.length nc2] (S8 x na0 nc0 na1 nc1 na2 nc2 A.a3 A.c3 A.a4 A.c4 A.a5 A.c5 A.a6 A.c6) HZ2 w si ?_;intro z3 HZ3 KQ3;have K3:=KQ3;have RZ3:=lH ((RZ2.out.to ii).but KQ3.out om);clear KQ3;have e3:LeN (w.heap.size+2) z3.w.heap.size:=⟨RZ3.out.lt⟩;clear HZ2 RZ2)|(refine lB rfl _ _ rfl w.heap.size 5 rfl HZ3 rfl Tryz.underlying80 ?_))
 refine(bs5 (HFF.out.q3.keep ii) (HT.out.2.2.2.1)).mono ?_
 rintro _ _ ⟨na3,nc3,rfl,no3,y3,rfl⟩
 have O3:=lH no3;clear no3
 go_wp2_with (first|(refine sA rfl _ _ _ rfl (w.heap.size) 5 rfl [.slice na3 x.Done.length nc3] (S8 x na0 nc0 na1 nc1 na2 nc2 na3 nc3 A.a4 A.c4 A.a5 A.c5 A.a6 A.c6) HZ3 w si ?_;intro z4 HZ4 KQ4;have K4:=KQ4;have RZ4:=lH ((RZ3.out.to ii).but KQ4.out om);clear KQ4;have e4:LeN (w.heap.size+2) z4.w.heap.size:=⟨RZ4.out.lt⟩;clear HZ3 RZ3)|(refine lA rfl _ _ rfl w.heap.size 6 rfl [.int .i64 x.Recorder.Room,.slice A.a4 x.Recorder.Records.length A.c4,.slice A.a5 x.Recorder.Dropped.length A.c5] HZ4 bR1 ?_))
 refine(aX9 (x:=x.Recorder) ⟨A.a4,A.c4,A.a5,A.c5,rfl,HFF.out.q4.keep ii,HFF.out.q5.keep ii,HFF.out.ok.2.1⟩ (HT.out.2.2.2.2.1)).mono ?_
 rintro _ _ ⟨_,ch4,rfl,⟨b4a0,b4c0,b4a1,b4c1,rfl,no4⟩,y4,rfl⟩
 have O4:=lH no4;clear no4
 go_wp2_with (first|(refine sA rfl _ _ _ rfl (w.heap.size) 6 rfl [.int .i64 x.Recorder.Room,.slice b4a0 x.Recorder.Records.length b4c0,.slice b4a1 x.Recorder.Dropped.length b4c1] (S8 x na0 nc0 na1 nc1 na2 nc2 na3 nc3 b4a0 b4c0 b4a1 b4c1 A.a6 A.c6) HZ4 w si ?_;intro z5 HZ5 KQ5;have K5:=KQ5;have RZ5:=lH ((RZ4.out.to ii).but KQ5.out om);clear KQ5;have e5:LeN (w.heap.size+2) z5.w.heap.size:=⟨RZ5.out.lt⟩;clear HZ4 RZ4)|(refine lB rfl _ _ rfl w.heap.size 11 rfl HZ5 rfl aK9 ?_))
 refine(au8 (HFF.out.q6.keep ii) (HT.out.2.2.2.2.2.1)).mono ?_
 rintro _ _ ⟨na6,nc6,rfl,no6,y5,rfl⟩
 have O5:=lH no6;clear no6
 go_wp2_with (first|(refine sA rfl _ _ _ rfl (w.heap.size) 11 rfl [.slice na6 x.Asked.length nc6] (S8 x na0 nc0 na1 nc1 na2 nc2 na3 nc3 b4a0 b4c0 b4a1 b4c1 na6 nc6) HZ5 w si ?_;intro z6 HZ6 KQ6;have K6:=KQ6;have RZ6:=lH ((RZ5.out.to ii).but KQ6.out om);clear KQ6;have e6:LeN (w.heap.size+2) z6.w.heap.size:=⟨RZ6.out.lt⟩;clear HZ5 RZ5)|(refine lA rfl _ _ rfl (w.heap.size) 0 rfl (S8 x na0 nc0 na1 nc1 na2 nc2 na3 nc3 b4a0 b4c0 b4a1 b4c1 na6 nc6) HZ6 Tryz.underlying84 ?_)|(refine sB rfl _ _ _ rfl (w.heap.size+1) 0 rfl (S8 x na0 nc0 na1 nc1 na2 nc2 na3 nc3 b4a0 b4c0 b4a1 b4c1 na6 nc6) RZ6 w si ?_;intro zr HR KQr;have KR:=KQr;clear KQr))
 have GZ6:d7 (w.heap.size+2) z6.w zr.w:=KR.out.keeps om
 have GY5:d7 (w.heap.size+2) y5.w zr.w:=d7.trans (K6.out.keeps om) GZ6
 have GZ5:d7 (w.heap.size+2) z5.w zr.w:=d7.trans (ii:d7 (w.heap.size+2) z5.w y5.w) GY5
 have GY4:d7 (w.heap.size+2) y4.w zr.w:=d7.trans (K5.out.keeps om) GZ5
 have GZ4:d7 (w.heap.size+2) z4.w zr.w:=d7.trans (ii:d7 (w.heap.size+2) z4.w y4.w) GY4
 have GY3:d7 (w.heap.size+2) y3.w zr.w:=d7.trans (K4.out.keeps om) GZ4
 have GZ3:d7 (w.heap.size+2) z3.w zr.w:=d7.trans (ii:d7 (w.heap.size+2) z3.w y3.w) GY3
 have GY2:d7 (w.heap.size+2) y2.w zr.w:=d7.trans (K3.out.keeps om) GZ3
 have GZ2:d7 (w.heap.size+2) z2.w zr.w:=d7.trans (ii:d7 (w.heap.size+2) z2.w y2.w) GY2
 have GY1:d7 (w.heap.size+2) y1.w zr.w:=d7.trans (K2.out.keeps om) GZ2
 have GZ1:d7 (w.heap.size+2) z1.w zr.w:=d7.trans (ii:d7 (w.heap.size+2) z1.w y1.w) GY1
 have GY0:d7 (w.heap.size+2) y0.w zr.w:=d7.trans (K1.out.keeps om) GZ1
 obtain⟨D,hD⟩:∃ D:List (Nat × Nat × (Nat→Col)),D=[(y0.w.heap.size,0,(fun _=>(0,0))),(y1.w.heap.size,1,(fun _=>(0,0))),(y2.w.heap.size,2,(fun _=>(0,0))),(y3.w.heap.size,3,(fun _=>(0,0))),(y4.w.heap.size,4,ch4),(y5.w.heap.size,6,(fun _=>(0,0)))]:=⟨_,rfl⟩
 have e0:D[0]?=some (y0.w.heap.size,0,(fun _=>(0,0))):=by rw[hD];rfl
 have e1:D[1]?=some (y1.w.heap.size,1,(fun _=>(0,0))):=by rw[hD];rfl
 have e2:D[2]?=some (y2.w.heap.size,2,(fun _=>(0,0))):=by rw[hD];rfl
 have e3:D[3]?=some (y3.w.heap.size,3,(fun _=>(0,0))):=by rw[hD];rfl
 have e4:D[4]?=some (y4.w.heap.size,4,ch4):=by rw[hD];rfl
 have e5:D[5]?=some (y5.w.heap.size,6,(fun _=>(0,0))):=by rw[hD];rfl
 clear hD
 have P0:∀ b,j9 D b=j9 (D.drop 0) b:=fun _=>rfl
 have C0:∀ b,((w.alloc (.cells (F8 x A).toArray 84)).alloc (.cells S3.toArray 84)).heap.size≤b→b<y0.w.heap.size→j9 D b=B9 0 ((fun _=>(0,0)) b):=fun b h1 h2=>(P0 b).trans (i9 e0 h2)
 have P1:∀ b,y0.w.heap.size≤b→j9 D b=j9 (D.drop 1) b:=fun b hb=>(P0 b).trans (f8 e0 hb)
 have C1:∀ b,z1.w.heap.size≤b→b<y1.w.heap.size→j9 D b=B9 1 ((fun _=>(0,0)) b):=fun b h1 h2=>(P1 b (Nat.le_trans K1.out.size h1)).trans (i9 e1 h2)
 have P2:∀ b,y1.w.heap.size≤b→j9 D b=j9 (D.drop 2) b:=fun b hb=>(P1 b (Nat.le_trans (Nat.le_trans K1.out.size y1.size_le) hb)).trans (f8 e1 hb)
 have C2:∀ b,z2.w.heap.size≤b→b<y2.w.heap.size→j9 D b=B9 2 ((fun _=>(0,0)) b):=fun b h1 h2=>(P2 b (Nat.le_trans K2.out.size h1)).trans (i9 e2 h2)
 have P3:∀ b,y2.w.heap.size≤b→j9 D b=j9 (D.drop 3) b:=fun b hb=>(P2 b (Nat.le_trans (Nat.le_trans K2.out.size y2.size_le) hb)).trans (f8 e2 hb)
 have C3:∀ b,z3.w.heap.size≤b→b<y3.w.heap.size→j9 D b=B9 3 ((fun _=>(0,0)) b):=fun b h1 h2=>(P3 b (Nat.le_trans K3.out.size h1)).trans (i9 e3 h2)
 have P4:∀ b,y3.w.heap.size≤b→j9 D b=j9 (D.drop 4) b:=fun b hb=>(P3 b (Nat.le_trans (Nat.le_trans K3.out.size y3.size_le) hb)).trans (f8 e3 hb)
 have C4:∀ b,z4.w.heap.size≤b→b<y4.w.heap.size→j9 D b=B9 4 (ch4 b):=fun b h1 h2=>(P4 b (Nat.le_trans K4.out.size h1)).trans (i9 e4 h2)
 have P5:∀ b,y4.w.heap.size≤b→j9 D b=j9 (D.drop 5) b:=fun b hb=>(P4 b (Nat.le_trans (Nat.le_trans K4.out.size y4.size_le) hb)).trans (f8 e4 hb)
 have C5:∀ b,z5.w.heap.size≤b→b<y5.w.heap.size→j9 D b=B9 6 ((fun _=>(0,0)) b):=fun b h1 h2=>(P5 b (Nat.le_trans K5.out.size h1)).trans (i9 e5 h2)
 have Q4:=lH ((((O4.out.re C4).mono (LeN.out (a:=w.heap.size+2))).keep GY4).mono (B2:=w.heap.size) om)
 refine bodyPost_ret (v:=.agg (S8 x na0 nc0 na1 nc1 na2 nc2 na3 nc3 b4a0 b4c0 b4a1 b4c1 na6 nc6).toArray) (A7 (P:=Tryz.prog) rfl rfl HR.out _ Tryz.underlying84 rfl kr) rfl ⟨(S8 x na0 nc0 na1 nc1 na2 nc2 na3 nc3 b4a0 b4c0 b4a1 b4c1 na6 nc6),j9 D,rfl,⟨⟨na0,nc0,na1,nc1,na2,nc2,na3,nc3,b4a0,b4c0,b4a1,b4c1,na6,nc6⟩,rfl,⟨((((O0.out.re C0).mono (LeN.out (a:=w.heap.size+2))).keep GY0).mono om),((((O1.out.re C1).mono (LeN.out (a:=w.heap.size+2))).keep GY1).mono om),((((O2.out.re C2).mono (LeN.out (a:=w.heap.size+2))).keep GY2).mono om),((((O3.out.re C3).mono (LeN.out (a:=w.heap.size+2))).keep GY3).mono om),Q4.out.o0,Q4.out.o1,((((O5.out.re C5).mono (LeN.out (a:=w.heap.size+2))).keep GY5).mono om),HFF.out.ok⟩⟩,b7.of⟩
theorem ar6{α β:Type}[N:ap4 α β](r:N2 α):∀ u∈aa0 r,u.oneCell'=true:=N.one _ _ _
class aL0(α:Type){β:Type}[N:ap4 α β][F:D7 β]:Prop where
 inv:∀ {B w vs x},N.Rd B w vs x→∃ a c,vs=N.cells x a c∧N.good x∧RdS B w a c (N.inner x)
section
variable {α β:Type} [N:ap4 α β] [F:D7 β]
theorem RdS.rows[I:aL0 α]{B:Nat}{w:World}{a:Option Addr}{c:Nat}{l:List α}(h:RdS B w a c l):∃ rows:List (N2 α),rows.length=l.length∧rows.map (·.x)=l∧Sl (aa0 (α:=α)) w a rows∧∀ (i:Nat) (r:N2 α),rows[i]?=some r→N.good r.x∧RdS B w r.a r.c (N.inner r.x):=by
 have hp:∀ i,i<l.length→∃ r:N2 α,some r.x=l[i]?∧(∃ b off,a=some ⟨b,off,none⟩∧b<w.heap.size∧∀ (j:Nat) (v:Value),(aa0 r)[j]?=some v→w.cell? ⟨b,off+i*(aa0 r).length+j,none⟩=some v)∧N.good r.x∧RdS B w r.a r.c (N.inner r.x):=fun i hi=>by
  obtain⟨b,off,vs,h0,-,h2,h3,h4⟩:=h.2.2.2 i l[i] (List.getElem?_eq_getElem hi)
  obtain⟨a1,c1,rfl,h5,h6⟩:=I.inv h3
  exact⟨⟨l[i],a1,c1⟩,(List.getElem?_eq_getElem hi).symm,⟨b,off,h0,h2,fun j v hv=>by rw[ae1];exact h4 j v hv⟩,h5,h6⟩
 have key:∀ n,(∀ i,i<n→∃ r:N2 α,some r.x=l[i]?∧(∃ b off,a=some ⟨b,off,none⟩∧b<w.heap.size∧∀ (j:Nat) (v:Value),(aa0 r)[j]?=some v→w.cell? ⟨b,off+i*(aa0 r).length+j,none⟩=some v)∧N.good r.x∧RdS B w r.a r.c (N.inner r.x)) →
   ∃ rows:List (N2 α),rows.length=n∧∀ (i:Nat) (r:N2 α),rows[i]?=some r→some r.x=l[i]?∧(∃ b off,a=some ⟨b,off,none⟩∧b<w.heap.size∧∀ (j:Nat) (v:Value),(aa0 r)[j]?=some v→w.cell? ⟨b,off+i*(aa0 r).length+j,none⟩=some v)∧N.good r.x∧RdS B w r.a r.c (N.inner r.x):=by
  intro n
  induction n with
  | zero=>exact fun _=>⟨[],rfl,fun i r h=>by simp at h⟩
  | succ n ih =>
   intro hq
   obtain⟨rows,h1,h2⟩:=ih (fun i hi=>hq i om)
   obtain⟨r,h3⟩:=hq n om
   refine⟨rows++[r],by simp[h1],fun i s hs=>?_⟩
   by_cases hi:i<n
   ·exact h2 i s (by rwa[List.getElem?_append_left om]at hs)
   ·have hlt:=(List.getElem?_eq_some_iff.1 hs).1
    simp at hlt
    obtain rfl:i=n:=by omega
    rw[List.getElem?_append_right om]at hs
    simp[h1]at hs
    subst hs;exact h3
 obtain⟨rows,h1,h2⟩:=key l.length hp
 refine⟨rows,h1,?_,fun i r hr=>(h2 i r hr).2.1,fun i r hr=>(h2 i r hr).2.2⟩
 refine List.ext_getElem? fun i=>?_
 rw[List.getElem?_map]
 cases hr:rows[i]? with
 | none=>rw[Option.map_none];exact(List.getElem?_eq_none_iff.2 (by rw[← h1];exact List.getElem?_eq_none_iff.1 hr)).symm
 | some r=>exact(h2 i r hr).1
structure as6(B:Nat)(χ:Nat→Col)(w:World)(a:Option Addr)(c:Nat)(rows0 rows:List (N2 α))(k:Nat):Prop where
 own:Own (aa0 (α:=α)) N.ty N.size B w a c rows
 col:∀ b,E9 a=some b→χ b=(0,0)
 done:∀ i r,i<k→rows[i]?=some r→N.good r.x∧B6 B χ (0,i+1) w r.a r.c (N.inner r.x)
 left:∀ i,k≤i→rows[i]?=rows0[i]?
 xs:rows.map (·.x)=rows0.map (·.x)
variable {B k:Nat} {χ χ2:Nat→Col} {w W1 W2 Z:World} {a ra:Option Addr} {c rc:Nat} {rows0 rows:List (N2 α)} {x:α}
theorem as6.start(h:Own (aa0 (α:=α)) N.ty N.size B w a c rows):as6 B (fun _=>(0,0)) w a c rows rows 0:=⟨h,fun _ _=>rfl,fun i r h=>by omega,fun _ _=>rfl,rfl⟩
theorem as6.but{b:Nat}{w':World}(h:as6 B χ w a c rows0 rows k)(g:But b w w')(hb:b<B):as6 B χ w' a c rows0 rows k :=
 ⟨h.own.same (fun q _ h1 h2=>g.block q om h2),h.col,fun i r hi hr=>⟨(h.done i r hi hr).1,(h.done i r hi hr).2.keep (g.keeps hb)⟩,h.left,h.xs⟩
theorem as6.len(h:as6 B χ w a c rows0 rows k):rows.length=rows0.length:=by have:=congrArg List.length h.xs;simpa using this
theorem as6.step(h:as6 B χ w a c rows0 rows k)(g:b8 w W1)(hB:B≤W1.heap.size){i0:Col}(hi:B6 W1.heap.size χ2 i0 W2 ra rc (N.inner x))(g2:b8 W1 W2){r0:N2 α}(h0:rows0[k]?=some r0)(hx:r0.x=x)(hgd:N.good x)
  (hown:Own (aa0 (α:=α)) N.ty N.size B Z a c (rows.set k ⟨x,ra,rc⟩)) (hg:W2.grownBy Z (E9 a)):as6 B (I7 W1.heap.size χ χ2 (fun _=>(0,k+1))) Z a c rows0 (rows.set k ⟨x,ra,rc⟩) (k+1):=by
 have hblk:=h.own.blk
 have hcol:∀ b,E9 a=some b→I7 W1.heap.size χ χ2 (fun _=>(0,k+1)) b=(0,0):=fun b hb=>by
  rw[I7,if_pos (Nat.lt_of_lt_of_le (hblk b hb).2 g.out.size)];exact h.col b hb
 have hfr:Fr B (I7 W1.heap.size χ χ2 (fun _=>(0,k+1))) (·=(0,0)) W2 Z:=⟨hg.os,hg.tape,hg.output,hg.size,fun b h2 h3=>hg.block b h2 (fun e=>h3 ⟨(hblk b e.symm).1,hcol b e.symm⟩)⟩
 have hk:k<rows.length:=by rw[h.len];exact(List.getElem?_eq_some_iff.1 h0).1
 refine⟨hown,hcol,fun i r hik hr=>?_,fun i hik=>?_,?_⟩
 ·by_cases hi2:i<k
  ·rw[List.getElem?_set_ne om]at hr
   obtain⟨h1,h2⟩:=h.done i r hi2 hr
   refine⟨h1,((h2.old g.out.size).to ⟨g.out.trans (g2.out.mono g.out.size)⟩).fr hfr ?_⟩
   intro e;simp at e
  ·obtain rfl:i=k:=by omega
   rw[List.getElem?_set_self hk]at hr
   cases hr
   refine⟨hgd,((hi.new (B:=W1.heap.size) nl).mono hB).fr hfr ?_⟩
   intro e;simp at e
 ·rw[List.getElem?_set_ne om];exact h.left i om
 ·rw[← h.xs]
  refine List.ext_getElem? fun i=>?_
  rw[List.getElem?_map,List.getElem?_map,List.getElem?_set]
  split
  ·rename_i e
   subst e
   have:=h.left k nl
   rw[h0]at this
   first|(rw[if_pos hk,this];simp[hx])|(rw[this];simp[hx])
  ·rfl
theorem as6.fin(h:as6 B χ w a c rows0 rows k)(hk:rows.length≤k):M3 B χ 0 w a c rows:=⟨h.own,h.col,fun i r hr=>h.done i r (by have:=(List.getElem?_eq_some_iff.1 hr).1;omega) hr⟩
def grown(U V:Nat)(χ:Nat→Col)(n:Nat):Nat→Col:=I7 U χ (I7 V (fun _=>(0,n)) (fun _=>(0,0)) id) id
theorem M3.grow{χ2:Nat→Col}{W2:World}{ra:Option Addr}{rc:Nat}{x:α}(h:M3 B χ 0 w a c rows)(g:b8 w W1)(hB:B≤W1.heap.size){i0:Col}(hi:B6 W1.heap.size χ2 i0 W2 ra rc (N.inner x))(g2:b8 W1 W2)(hgd:N.good x){a':Option Addr}{c':Nat}{W3:World}(g3:b8 W2 W3)
  (hown:Own (aa0 (α:=α)) N.ty N.size B Z a' c' (rows++[⟨x,ra,rc⟩])) (hg:W3.grownBy Z (E9 a)) (hb:E9 a'=E9 a∨E9 a'=some W3.heap.size) :
  M3 B (grown W1.heap.size W3.heap.size χ (rows.length+1)) 0 Z a' c' (rows++[⟨x,ra,rc⟩]):=by
 have hblk:=h.own.blk
 have l1:=g.out.size
 have l2:=g2.out.size
 have l3:=g3.out.size
 have hcol:∀ b,E9 a=some b→grown W1.heap.size W3.heap.size χ (rows.length+1) b=(0,0):=fun b hb=>by
  have:=(hblk b hb).2
  rw[grown,I7,if_pos om];exact h.col b hb
 have hfr:Fr B (grown W1.heap.size W3.heap.size χ (rows.length+1)) (·=(0,0)) W3 Z:=⟨hg.os,hg.tape,hg.output,hg.size,fun b h2 h3=>hg.block b h2 (fun e=>h3 ⟨(hblk b e.symm).1,hcol b e.symm⟩)⟩
 refine⟨hown,fun k hk=>?_,fun i r hr=>?_⟩
 ·rcases hb with hb|hb
  ·exact hcol k (by rw[← hb];exact hk)
  ·rw[hb]at hk
   cases hk
   rw[grown,I7,if_neg om,I7,if_neg om];rfl
 ·by_cases hi2:i<rows.length
  ·rw[List.getElem?_append_left hi2]at hr
   obtain⟨h1,h2⟩:=h.each i r hr
   refine⟨h1,((h2.old l1).to ⟨g.out.trans ((g2.out.trans (g3.out.mono l2)).mono l1)⟩).fr hfr ?_⟩
   intro e;simp at e
  ·have hlt:=(List.getElem?_eq_some_iff.1 hr).1
   simp at hlt
   obtain rfl:i=rows.length:=by omega
   rw[List.getElem?_append_right nl]at hr
   simp at hr
   subst hr
   refine⟨hgd,(((hi.recol (χ':=grown W1.heap.size W3.heap.size χ (rows.length+1)) (i':=(0,rows.length+1)) (fun k h1 h2 _=>?_)).mono hB).to g3).fr hfr ?_⟩
   ·rw[grown,I7,if_neg om,I7,if_pos om];rfl
   ·intro e;simp at e
end
instance aL0.iTFileIn:aL0 A8 where
 inv:=by rintro _ _ _ _ ⟨a0,c0,rfl,q0,hok⟩;exact⟨a0,c0,rfl,hok,q0⟩
theorem Sl.nFileIn{w:World}{a:Option Addr}{l:List (N2 A8)}(h:Sl (aa0 (α:=A8)) w a l){k:Nat}(hk:k<l.length) :
  ∃ b off r,a=some ⟨b,off,none⟩∧LtN b w.heap.size∧Hid (l.drop k=r::l.drop (k+1))∧(∀ (W:World) [b8 w W],W.cell? ⟨b,off+k*4,none⟩=some (.int .i64 r.x.File))∧(∀ (W:World) [b8 w W],W.cell? ⟨b,off+k*4+1,none⟩=some (.int .i64 r.x.Size))∧(∀ (W:World) [b8 w W],W.cell? ⟨b,off+k*4+2,none⟩=some (.int .i64 r.x.Check))∧(∀ (W:World) [b8 w W],W.cell? ⟨b,off+k*4+3,none⟩=some (.slice r.a r.x.Parts.length r.c)):=by
 obtain⟨r,hs,hd⟩:=ag2 hk
 obtain⟨b,off,ha,hb,hc⟩:=h k r hs
 exact⟨b,off,r,ha,⟨hb⟩,hd,j4 hb (hc 0 _ rfl),j4 hb (hc 1 _ rfl),j4 hb (hc 2 _ rfl),j4 hb (hc 3 _ rfl)⟩
theorem aW7{a:Option Addr}{l:List (N2 A8)}(hs:Sl (aa0 (α:=A8)) w a l)(hn:l.length=n)(hm:n≤100000000) :
  Calls Tryz.prog 139 #[.slice a n c] w (L3 (aa0 (α:=A8)) 179 4 w l):=by
 cases a with
 | none =>
  have hl:l=[]:=by
   cases l with
   | nil=>rfl
   | cons y r=>obtain⟨b,off,h0,-⟩:=hs 0 y rfl;cases h0
  have hq:=fun(w:World)=>run_eql_slice_nil (P:=Tryz.prog) w 74 179 none n c Tryz.underlying74
  simp only[Option.isNone]at hq
  have HL:=lH hl;clear hl
  go_enter Tryz.func139,Tryz.ntmps139
  go_wp2_with (fail)
  go_ret
  exact L3.nilOf (ae1 (α:=A8)) HL.out
 | some ad =>
  have hq:=fun(w:World)=>run_eql_slice_nil (P:=Tryz.prog) w 74 179 (some ad) n c Tryz.underlying74
  simp only[Option.isNone]at hq
  go_enter Tryz.func139,Tryz.ntmps139
  go_wp2_with (first|(at_builtin;refine I0 (enc:=(aa0 (α:=A8))) (w0:=w) (z:=.agg #[.int .i64 0,.int .i64 0,.int .i64 0,.slice none 0 0]) (size:=4) (bytes:=48) (n:=0) (l:=[]) rfl (.tmp 5) (.tmp 6) rfl Tryz.underlying74 kr rfl de de rfl rfl (fun h=>by cases h) rfl hn (Own.emptyAt (ae1 (α:=A8)) nl rfl) (hs.to ii) (ar6 (α:=A8)) om ?_;intro sa1 sc1 x1 hown1 hgr1))
  go_ret
  rw[List.nil_append]at hown1
  exact⟨sa1,sc1,by rw[hn];first|rfl|simp,hown1,b7.of⟩
instance aL0.iTFileOut:aL0 s7 where
 inv:=by rintro _ _ _ _ ⟨a0,c0,rfl,q0,hok⟩;exact⟨a0,c0,rfl,hok,q0⟩
theorem Sl.nFileOut{w:World}{a:Option Addr}{l:List (N2 s7)}(h:Sl (aa0 (α:=s7)) w a l){k:Nat}(hk:k<l.length) :
  ∃ b off r,a=some ⟨b,off,none⟩∧LtN b w.heap.size∧Hid (l.drop k=r::l.drop (k+1))∧(∀ (W:World) [b8 w W],W.cell? ⟨b,off+k*4,none⟩=some (.int .i64 r.x.File))∧(∀ (W:World) [b8 w W],W.cell? ⟨b,off+k*4+1,none⟩=some (.string r.x.Data))∧(∀ (W:World) [b8 w W],W.cell? ⟨b,off+k*4+2,none⟩=some (.slice r.a r.x.Queue.length r.c))∧(∀ (W:World) [b8 w W],W.cell? ⟨b,off+k*4+3,none⟩=some (.bool r.x.Done)):=by
 obtain⟨r,hs,hd⟩:=ag2 hk
 obtain⟨b,off,ha,hb,hc⟩:=h k r hs
 exact⟨b,off,r,ha,⟨hb⟩,hd,j4 hb (hc 0 _ rfl),j4 hb (hc 1 _ rfl),j4 hb (hc 2 _ rfl),j4 hb (hc 3 _ rfl)⟩
theorem aQ9{a:Option Addr}{l:List (N2 s7)}(hs:Sl (aa0 (α:=s7)) w a l)(hn:l.length=n)(hm:n≤100000000) :
  Calls Tryz.prog 144 #[.slice a n c] w (L3 (aa0 (α:=s7)) 183 4 w l):=by
 cases a with
 | none =>
  have hl:l=[]:=by
   cases l with
   | nil=>rfl
   | cons y r=>obtain⟨b,off,h0,-⟩:=hs 0 y rfl;cases h0
  have hq:=fun(w:World)=>run_eql_slice_nil (P:=Tryz.prog) w 86 183 none n c Tryz.underlying86
  simp only[Option.isNone]at hq
  have HL:=lH hl;clear hl
  go_enter Tryz.func144,Tryz.ntmps144
  go_wp2_with (fail)
  go_ret
  exact L3.nilOf (ae1 (α:=s7)) HL.out
 | some ad =>
  have hq:=fun(w:World)=>run_eql_slice_nil (P:=Tryz.prog) w 86 183 (some ad) n c Tryz.underlying86
  simp only[Option.isNone]at hq
  go_enter Tryz.func144,Tryz.ntmps144
  go_wp2_with (first|(at_builtin;refine I0 (enc:=(aa0 (α:=s7))) (w0:=w) (z:=.agg #[.int .i64 0,.string ByteArray.empty,.slice none 0 0,.bool false]) (size:=4) (bytes:=56) (n:=0) (l:=[]) rfl (.tmp 5) (.tmp 6) rfl Tryz.underlying86 kr rfl de de rfl rfl (fun h=>by cases h) rfl hn (Own.emptyAt (ae1 (α:=s7)) nl rfl) (hs.to ii) (ar6 (α:=s7)) om ?_;intro sa1 sc1 x1 hown1 hgr1))
  go_ret
  rw[List.nil_append]at hown1
  exact⟨sa1,sc1,by rw[hn];first|rfl|simp,hown1,b7.of⟩
theorem bv4{P:Program}{c:Code}{Q:Exit→Act→World→Prop}{a:Act}(hp:∀ c a d v w,Q (.panic c) (a.put (some d) v) w→Q (.panic c) a w)(h:∀ K:Exit→Act→World→Prop,Hid (∀ c a d v w,K (.panic c) (a.put (some d) v) w→K (.panic c) a w)→Hid (∀ e a w,Q e a w→K e a w)→c.wp P K a w):c.wp P Q a w:=h Q (lH hp) (lH fun _ _ _ h=>h)
theorem ap3{P:Program}{ops:Array Oper}{S:World→Prop}{op:Oper}{a:Act}(hw:Region.wanted op (yielded ops a.tmps)=true)(ty:TypeId)(x:Operand)(ho:op.op=.load ty x)
  (b o:Nat) (hx:a.eval x=.pointer (some ⟨b,o,none⟩)) (v:Value) (d:TypeDesc) (hS:∀ w,S w→w.cell? ⟨b,o,none⟩=some v) (hu:P.underlying ty=some d) (hd:d.isRow=false):YieldsIf P ops S op v a :=
 .inl ⟨hw,fun w hw'=>by
  have hagg:(isAgg ty).run P w=.ok false w:=by
   unfold isAgg
   rw[Sem.run_bind,run_underlying hu w]
   cases d<;>simp_all [TypeDesc.isRow]
  have hl:(loadVar ty ⟨b,o,none⟩).run P w=.ok v w:=by
   have hc:=hS w hw'
   simp[loadVar,Sem.run_bind,hagg,go_sem,hc]
  unfold execOp
  simp only[ho,hx,Instr.loadAt,Instr.sureAddr,Sem.run_bind,Sem.run_pure,Result.andThen_ok,hl]⟩
theorem But.pre{b:Nat}{w0 w w':World}(h:But b w w')(g:b8 w0 w):But b w0 w':=⟨Nat.le_trans g.out.size h.size,fun k h1 h2=>(h.block k h1 (Nat.lt_of_lt_of_le h2 g.out.size)).trans (g.out.block k h2)⟩
theorem But.post{b:Nat}{w0 w w':World}(h:But b w0 w)(g:b8 w w'):But b w0 w':=⟨Nat.le_trans h.size g.out.size,fun k h1 h2=>(g.out.block k (Nat.lt_of_lt_of_le h2 h.size)).trans (h.block k h1 h2)⟩
theorem But.far{b q:Nat}{w0 w w':World}(h:But b w0 w)(g:w.grownBy w' (some q))(hq:w0.heap.size≤q):But b w0 w':=⟨Nat.le_trans h.size g.size,fun k h1 h2=>(g.block k (Nat.lt_of_lt_of_le h2 h.size) (by simp only[ne_eq,Option.some.injEq];omega)).trans (h.block k h1 h2)⟩
section
variable {P:Program} {ops:Array Oper} {op:Oper} {a:Act} {w:World} {Q:Exit→Act→World→Prop} {K:Act→World→Prop} {E:Prop} {α:Type} {enc:α→List Value} {T B g:Nat} {c:Nat} {l:List α}
theorem aQ5(hw:Region.wanted op (yielded ops a.tmps)=true)(ty:TypeId)(x y:Operand)(ho:op.op=.store ty x y)(j:Nat)(hx:a.eval x=.pointer (some ⟨g,j*4,none⟩))(h:Own enc T 4 B w (some ⟨g,0,none⟩) c l)(hj:j<l.length)(r:α){v0 v1 v2 v3:Value}(hr:enc r=[v0,v1,v2,v3])
  (hv:(a.eval y).cells.toList=[v0,v1,v2,v3]) (hi:(P.info? ty).map (·.size)=some 4) (h1:[v0,v1,v2,v3].all (·.oneCell')=true)  (gr:b8 w0 w) (hb:w0.heap.size≤B)
  (k:∀ z:b7 w0,Own enc T 4 B z.w (some ⟨g,0,none⟩) c (l.set j r)→w.grownBy z.w (some g)→K (a.put op.dst undef) z.w):if Region.wanted op (yielded ops a.tmps)=true then Oper.wp P op a w K Q else E:=by
 rw[if_pos hw]
 have ht:w.there g (j*4) [v0,v1,v2,v3].length:=fun q hq=>by
  refine⟨?_,h.free _⟩
  obtain⟨v,hv⟩:=h.cells (j:=j*4+q) (by simp at hq;omega)
  rw[hv];rfl
 have hp:=h.put4 (j:=j) hj hr
 have hB:=(h.blk g rfl).1
 unfold Oper.wp execOp
 simp only[ho,hx,Instr.storeAt,Instr.sureAddr,Sem.run_bind,Sem.run_pure,Result.andThen_ok,ac4 hv ht hi (fun u hu=>List.all_eq_true.1 h1 u hu)]
 exact k ⟨_,ad8 (Nat.le_trans hb hB) [v0,v1,v2,v3] (j*4) gr.out⟩ hp.1 hp.2
theorem ay1{S:World→Prop}{md:Region.Mode}{fuel:Nat}{listed:Array Bool}(i:Nat)(ho1:ops[i]?=some op)(hr:Region.ready md ops listed=[i])(hr2:Region.ready md ops (listed.setIfInBounds i true)=[])
  (hw:Region.wanted op (yielded ops a.tmps)=true) (ty:TypeId) (x y:Operand) (ho:op.op=.store ty x y) (j:Nat) (hx:a.eval x=.pointer (some ⟨g,j*4,none⟩)) (h:Own enc T 4 B w (some ⟨g,0,none⟩) c l) (hj:j<l.length) (r:α) {v0 v1 v2 v3:Value} (hr0:enc r=[v0,v1,v2,v3])
  (hv:(a.eval y).cells.toList=[v0,v1,v2,v3]) (hi:(P.info? ty).map (·.size)=some 4) (h1:[v0,v1,v2,v3].all (·.oneCell')=true)  (gr:b8 w0 w) (hb:w0.heap.size≤B)
  (k:∀ z:b7 w0,Own enc T 4 B z.w (some ⟨g,0,none⟩) c (l.set j r)→w.grownBy z.w (some g)→S z.w∧Q .normal (a.put op.dst undef) z.w):wpAnyH P md ops Q S (fuel+1) listed a w :=
 wpAnyH_ready hr si (AllReadyH.cons ho1 (fun K hK=>aQ5 hw ty x y ho j hx h hj r hr0 hv hi h1 gr hb fun z h2 h3=>hK.out _ _ (k z h2 h3).1 fun _=>wpAnyH_done hr2 (k z h2 h3).2 _) AllReadyH.nil)
end
theorem be0{x:I9}(h:Enc.Rd B w vs x)(ht:Enc.tot x≤100000000) :
  Calls Tryz.prog 199 #[.agg vs.toArray] w (R3 w x):=by
 obtain⟨a0,c0,a1,c1,rfl,q0,q1,hok⟩:=h
 have HT:=lH (show x.Records.length≤100000000∧x.Dropped.length≤100000000∧True from by
  have:Enc.tot x=d9 x.Records+d9 x.Dropped:=rfl
  have:=d6 x.Records;have:=f6 x.Records
  have:=d6 x.Dropped;have:=f6 x.Dropped
  refine⟨?_,?_,trivial⟩<;>omega)
 have HT0:=lH ht;clear ht
 have HQ0:=lH q0;clear q0
 have HQ1:=lH q1;clear q1
 have HOK:=lH hok;clear hok
 have S0:=lH ((j5.new w [.int .i64 x.Room,.slice a0 x.Records.length c0,.slice a1 x.Dropped.length c1] 82 w.heap.size rfl).to (ii:b8 _ ((w.alloc (.cells #[.int .i64 x.Room,.slice a0 x.Records.length c0,.slice a1 x.Dropped.length c1] 82)).alloc (.cells #[.int .i64 0,.slice none 0 0,.slice none 0 0] 82))))
 have R0:=lH ((j5.new (w.alloc (.cells #[.int .i64 x.Room,.slice a0 x.Records.length c0,.slice a1 x.Dropped.length c1] 82)) [.int .i64 0,.slice none 0 0,.slice none 0 0] 82 (w.heap.size+1) si).to (ii:b8 _ ((w.alloc (.cells #[.int .i64 x.Room,.slice a0 x.Records.length c0,.slice a1 x.Dropped.length c1] 82)).alloc (.cells #[.int .i64 0,.slice none 0 0,.slice none 0 0] 82))))
 go_enter Tryz.func199,Tryz.ntmps199
 go_wp2_with (first|(refine lB rfl _ _ rfl w.heap.size 1 rfl S0 rfl Tryz.underlying73 ?_)|(at_builtin;refine I0 (t:=73) (enc:=N3) (w0:=((w.alloc (.cells #[.int .i64 x.Room,.slice a0 x.Records.length c0,.slice a1 x.Dropped.length c1] 82)).alloc (.cells #[.int .i64 0,.slice none 0 0,.slice none 0 0] 82))) (z:=.agg #[.int .i64 0,.int .i64 0,.int .i64 0,.string ByteArray.empty]) (size:=4) (bytes:=40) (n:=0) (l:=[]) rfl (.tmp _) (.tmp _) rfl Tryz.underlying73 kr rfl de de rfl rfl HQ0.out.nilcap rfl rfl (Own.emptyAt (D7.encLen (α:=s8)) nl (by first|rfl|(simp;done))) (HQ0.out.keep ii).slF (D7.one (α:=s8)) (by have:=(HT.out.1);omega) ?_;intro na0 nc0 y0 no0 gr0;rw[List.nil_append]at no0;have O0:=lH (B6.of no0 HQ0.out.goods (0,0));clear no0 gr0;have t0:(0+x.Records.length)=x.Records.length:=Nat.zero_add _;simp only[t0];clear t0)|(refine sA rfl _ _ _ rfl (w.heap.size) 1 rfl [.slice na0 x.Records.length nc0] [.int .i64 x.Room,.slice na0 x.Records.length nc0,.slice a1 x.Dropped.length c1] S0 w si ?_;intro z1 HZ1 KQ1;have K1:=KQ1;have RZ1:=lH ((R0.out.to ii).but KQ1.out om);clear KQ1;have e1:LeN (w.heap.size+2) z1.w.heap.size:=⟨RZ1.out.lt⟩;clear R0 S0)|(refine lB rfl _ _ rfl w.heap.size 2 rfl HZ1 rfl aK9 ?_)|(at_builtin;refine aE (α:=Int) z1.w (z:=.int .i64 0) 1 8 rfl (.tmp _) (.tmp _) rfl aK9 HQ1.out HT.out.2.1 ii ?_;intro na1 nc1 y1 O1)|(refine sA rfl _ _ _ rfl (w.heap.size) 2 rfl [.slice na1 x.Dropped.length nc1] [.int .i64 x.Room,.slice na0 x.Records.length nc0,.slice na1 x.Dropped.length nc1] HZ1 w si ?_;intro z2 HZ2 KQ2;have K2:=KQ2;have RZ2:=lH ((RZ1.out.to ii).but KQ2.out om);clear KQ2;have e2:LeN (w.heap.size+2) z2.w.heap.size:=⟨RZ2.out.lt⟩;clear HZ1 RZ1)|(refine lA rfl _ _ rfl (w.heap.size) 0 rfl [.int .i64 x.Room,.slice na0 x.Records.length nc0,.slice na1 x.Dropped.length nc1] HZ2 bR1 ?_)|(refine sB rfl _ _ _ rfl (w.heap.size+1) 0 rfl [.int .i64 x.Room,.slice na0 x.Records.length nc0,.slice na1 x.Dropped.length nc1] RZ2 w si ?_;intro zr HR KQr;have KR:=KQr;clear KQr))
 have GZ2:d7 (w.heap.size+2) z2.w zr.w:=KR.out.keeps om
 have GY1:d7 (w.heap.size+2) y1.w zr.w:=d7.trans (K2.out.keeps om) GZ2
 have GZ1:d7 (w.heap.size+2) z1.w zr.w:=d7.trans (ii:d7 (w.heap.size+2) z1.w y1.w) GY1
 have GY0:d7 (w.heap.size+2) y0.w zr.w:=d7.trans (K1.out.keeps om) GZ1
 obtain⟨D,hD⟩:∃ D:List (Nat × Nat × (Nat→Col)),D=[(y0.w.heap.size,0,(fun _=>(0,0))),(y1.w.heap.size,1,(fun _=>(0,0)))]:=⟨_,rfl⟩
 have e0:D[0]?=some (y0.w.heap.size,0,(fun _=>(0,0))):=by rw[hD];rfl
 have e1:D[1]?=some (y1.w.heap.size,1,(fun _=>(0,0))):=by rw[hD];rfl
 clear hD
 have P0:∀ b,j9 D b=j9 (D.drop 0) b:=fun _=>rfl
 have C0:∀ b,((w.alloc (.cells #[.int .i64 x.Room,.slice a0 x.Records.length c0,.slice a1 x.Dropped.length c1] 82)).alloc (.cells #[.int .i64 0,.slice none 0 0,.slice none 0 0] 82)).heap.size≤b→b<y0.w.heap.size→j9 D b=B9 0 ((fun _=>(0,0)) b):=fun b h1 h2=>(P0 b).trans (i9 e0 h2)
 have P1:∀ b,y0.w.heap.size≤b→j9 D b=j9 (D.drop 1) b:=fun b hb=>(P0 b).trans (f8 e0 hb)
 have C1:∀ b,z1.w.heap.size≤b→b<y1.w.heap.size→j9 D b=B9 1 ((fun _=>(0,0)) b):=fun b h1 h2=>(P1 b (Nat.le_trans K1.out.size h1)).trans (i9 e1 h2)
 refine bodyPost_ret (v:=.agg #[.int .i64 x.Room,.slice na0 x.Records.length nc0,.slice na1 x.Dropped.length nc1]) (A7 (P:=Tryz.prog) rfl rfl HR.out _ bR1 rfl kr) rfl ⟨[.int .i64 x.Room,.slice na0 x.Records.length nc0,.slice na1 x.Dropped.length nc1],j9 D,rfl,⟨na0,nc0,na1,nc1,rfl,⟨((((O0.out.re C0).mono (LeN.out (a:=w.heap.size+2))).keep GY0).mono om),((((O1.out.re C1).mono (LeN.out (a:=w.heap.size+2))).keep GY1).mono om),HOK.out⟩⟩,b7.of⟩
theorem aP1{x:E8}(h:Enc.Rd B w vs x)(ht:Enc.tot x≤100000000) :
  Calls Tryz.prog 96 #[.agg vs.toArray] w (R3 w x):=by
 obtain⟨a0,c0,rfl,q0,hok⟩:=h
 have HT:=lH (show x.Waiting.length≤100000000∧True from by
  have:Enc.tot x=d9 x.Waiting:=rfl
  have:=d6 x.Waiting;have:=f6 x.Waiting
  refine⟨?_,trivial⟩<;>omega)
 have HT0:=lH ht;clear ht
 have HQ0:=lH q0;clear q0
 have HOK:=lH hok;clear hok
 have S0:=lH ((j5.new w [.int .i64 x.Next,.int .i64 x.Window,.slice a0 x.Waiting.length c0,.int .i64 x.Done] 69 w.heap.size rfl).to (ii:b8 _ ((w.alloc (.cells #[.int .i64 x.Next,.int .i64 x.Window,.slice a0 x.Waiting.length c0,.int .i64 x.Done] 69)).alloc (.cells #[.int .i64 0,.int .i64 0,.slice none 0 0,.int .i64 0] 69))))
 have R0:=lH ((j5.new (w.alloc (.cells #[.int .i64 x.Next,.int .i64 x.Window,.slice a0 x.Waiting.length c0,.int .i64 x.Done] 69)) [.int .i64 0,.int .i64 0,.slice none 0 0,.int .i64 0] 69 (w.heap.size+1) si).to (ii:b8 _ ((w.alloc (.cells #[.int .i64 x.Next,.int .i64 x.Window,.slice a0 x.Waiting.length c0,.int .i64 x.Done] 69)).alloc (.cells #[.int .i64 0,.int .i64 0,.slice none 0 0,.int .i64 0] 69))))
 go_enter Tryz.func96,Tryz.ntmps96
 go_wp2_with (first|(refine lB rfl _ _ rfl w.heap.size 2 rfl S0 rfl Tryz.underlying67 ?_)|(at_builtin;refine I0 (t:=67) (enc:=R6) (w0:=((w.alloc (.cells #[.int .i64 x.Next,.int .i64 x.Window,.slice a0 x.Waiting.length c0,.int .i64 x.Done] 69)).alloc (.cells #[.int .i64 0,.int .i64 0,.slice none 0 0,.int .i64 0] 69))) (z:=.agg #[.int .i64 0,.string ByteArray.empty]) (size:=2) (bytes:=24) (n:=0) (l:=[]) rfl (.tmp _) (.tmp _) rfl Tryz.underlying67 kr rfl de de rfl rfl HQ0.out.nilcap rfl rfl (Own.emptyAt (D7.encLen (α:=V9)) nl (by first|rfl|(simp;done))) (HQ0.out.keep ii).slF (D7.one (α:=V9)) (by have:=(HT.out.1);omega) ?_;intro na0 nc0 y0 no0 gr0;rw[List.nil_append]at no0;have O0:=lH (B6.of no0 HQ0.out.goods (0,0));clear no0 gr0;have t0:(0+x.Waiting.length)=x.Waiting.length:=Nat.zero_add _;simp only[t0];clear t0)|(refine sA rfl _ _ _ rfl (w.heap.size) 2 rfl [.slice na0 x.Waiting.length nc0] [.int .i64 x.Next,.int .i64 x.Window,.slice na0 x.Waiting.length nc0,.int .i64 x.Done] S0 w si ?_;intro z1 HZ1 KQ1;have K1:=KQ1;have RZ1:=lH ((R0.out.to ii).but KQ1.out om);clear KQ1;have e1:LeN (w.heap.size+2) z1.w.heap.size:=⟨RZ1.out.lt⟩;clear R0 S0)|(refine lA rfl _ _ rfl (w.heap.size) 0 rfl [.int .i64 x.Next,.int .i64 x.Window,.slice na0 x.Waiting.length nc0,.int .i64 x.Done] HZ1 Tryz.underlying69 ?_)|(refine sB rfl _ _ _ rfl (w.heap.size+1) 0 rfl [.int .i64 x.Next,.int .i64 x.Window,.slice na0 x.Waiting.length nc0,.int .i64 x.Done] RZ1 w si ?_;intro zr HR KQr;have KR:=KQr;clear KQr))
 have GZ1:d7 (w.heap.size+2) z1.w zr.w:=KR.out.keeps om
 have GY0:d7 (w.heap.size+2) y0.w zr.w:=d7.trans (K1.out.keeps om) GZ1
 obtain⟨D,hD⟩:∃ D:List (Nat × Nat × (Nat→Col)),D=[(y0.w.heap.size,0,(fun _=>(0,0)))]:=⟨_,rfl⟩
 have e0:D[0]?=some (y0.w.heap.size,0,(fun _=>(0,0))):=by rw[hD];rfl
 clear hD
 have P0:∀ b,j9 D b=j9 (D.drop 0) b:=fun _=>rfl
 have C0:∀ b,((w.alloc (.cells #[.int .i64 x.Next,.int .i64 x.Window,.slice a0 x.Waiting.length c0,.int .i64 x.Done] 69)).alloc (.cells #[.int .i64 0,.int .i64 0,.slice none 0 0,.int .i64 0] 69)).heap.size≤b→b<y0.w.heap.size→j9 D b=B9 0 ((fun _=>(0,0)) b):=fun b h1 h2=>(P0 b).trans (i9 e0 h2)
 refine bodyPost_ret (v:=.agg #[.int .i64 x.Next,.int .i64 x.Window,.slice na0 x.Waiting.length nc0,.int .i64 x.Done]) (A7 (P:=Tryz.prog) rfl rfl HR.out _ Tryz.underlying69 rfl kr) rfl ⟨[.int .i64 x.Next,.int .i64 x.Window,.slice na0 x.Waiting.length nc0,.int .i64 x.Done],j9 D,rfl,⟨na0,nc0,rfl,⟨((((O0.out.re C0).mono (LeN.out (a:=w.heap.size+2))).keep GY0).mono om),HOK.out⟩⟩,b7.of⟩
theorem bs7{x:Q8}(h:Enc.Rd B w vs x)(ht:Enc.tot x≤100000000) :
  Calls Tryz.prog 99 #[.agg vs.toArray] w (R3 w x):=by
 obtain⟨a0,c0,rfl,q0,hok⟩:=h
 have HT:=lH (show x.Starts.length≤100000000∧True from by
  have:Enc.tot x=(x.Rest.size:Int)+d9 x.Starts:=rfl
  have:=d6 x.Starts;have:=f6 x.Starts
  refine⟨?_,trivial⟩<;>omega)
 have HT0:=lH ht;clear ht
 have HQ0:=lH q0;clear q0
 have HOK:=lH hok;clear hok
 have S0:=lH ((j5.new w [.int .i64 x.Channel,.int .i64 x.Count,.string x.Rest,.slice a0 x.Starts.length c0] 85 w.heap.size rfl).to (ii:b8 _ ((w.alloc (.cells #[.int .i64 x.Channel,.int .i64 x.Count,.string x.Rest,.slice a0 x.Starts.length c0] 85)).alloc (.cells #[.int .i64 0,.int .i64 0,.string ⟨#[]⟩,.slice none 0 0] 85))))
 have R0:=lH ((j5.new (w.alloc (.cells #[.int .i64 x.Channel,.int .i64 x.Count,.string x.Rest,.slice a0 x.Starts.length c0] 85)) [.int .i64 0,.int .i64 0,.string ⟨#[]⟩,.slice none 0 0] 85 (w.heap.size+1) si).to (ii:b8 _ ((w.alloc (.cells #[.int .i64 x.Channel,.int .i64 x.Count,.string x.Rest,.slice a0 x.Starts.length c0] 85)).alloc (.cells #[.int .i64 0,.int .i64 0,.string ⟨#[]⟩,.slice none 0 0] 85))))
 go_enter Tryz.func99,Tryz.ntmps99
 go_wp2_with (first|(refine lB rfl _ _ rfl w.heap.size 3 rfl S0 rfl aK9 ?_)|(at_builtin;refine I0 (t:=46) (enc:=ae0) (w0:=((w.alloc (.cells #[.int .i64 x.Channel,.int .i64 x.Count,.string x.Rest,.slice a0 x.Starts.length c0] 85)).alloc (.cells #[.int .i64 0,.int .i64 0,.string ⟨#[]⟩,.slice none 0 0] 85))) (z:=.int .i64 0) (size:=1) (bytes:=8) (n:=0) (l:=[]) rfl (.tmp _) (.tmp _) rfl aK9 kr rfl de de rfl rfl HQ0.out.nilcap rfl rfl (Own.emptyAt (D7.encLen (α:=Int)) nl (by first|rfl|(simp;done))) (HQ0.out.keep ii).slF (D7.one (α:=Int)) (by have:=(HT.out.1);omega) ?_;intro na0 nc0 y0 no0 gr0;rw[List.nil_append]at no0;have O0:=lH (B6.of no0 HQ0.out.goods (0,0));clear no0 gr0;have t0:(0+x.Starts.length)=x.Starts.length:=Nat.zero_add _;simp only[t0];clear t0)|(refine sA rfl _ _ _ rfl (w.heap.size) 3 rfl [.slice na0 x.Starts.length nc0] [.int .i64 x.Channel,.int .i64 x.Count,.string x.Rest,.slice na0 x.Starts.length nc0] S0 w si ?_;intro z1 HZ1 KQ1;have K1:=KQ1;have RZ1:=lH ((R0.out.to ii).but KQ1.out om);clear KQ1;have e1:LeN (w.heap.size+2) z1.w.heap.size:=⟨RZ1.out.lt⟩;clear R0 S0)|(refine lA rfl _ _ rfl (w.heap.size) 0 rfl [.int .i64 x.Channel,.int .i64 x.Count,.string x.Rest,.slice na0 x.Starts.length nc0] HZ1 Tryz.underlying85 ?_)|(refine sB rfl _ _ _ rfl (w.heap.size+1) 0 rfl [.int .i64 x.Channel,.int .i64 x.Count,.string x.Rest,.slice na0 x.Starts.length nc0] RZ1 w si ?_;intro zr HR KQr;have KR:=KQr;clear KQr))
 have GZ1:d7 (w.heap.size+2) z1.w zr.w:=KR.out.keeps om
 have GY0:d7 (w.heap.size+2) y0.w zr.w:=d7.trans (K1.out.keeps om) GZ1
 obtain⟨D,hD⟩:∃ D:List (Nat × Nat × (Nat→Col)),D=[(y0.w.heap.size,0,(fun _=>(0,0)))]:=⟨_,rfl⟩
 have e0:D[0]?=some (y0.w.heap.size,0,(fun _=>(0,0))):=by rw[hD];rfl
 clear hD
 have P0:∀ b,j9 D b=j9 (D.drop 0) b:=fun _=>rfl
 have C0:∀ b,((w.alloc (.cells #[.int .i64 x.Channel,.int .i64 x.Count,.string x.Rest,.slice a0 x.Starts.length c0] 85)).alloc (.cells #[.int .i64 0,.int .i64 0,.string ⟨#[]⟩,.slice none 0 0] 85)).heap.size≤b→b<y0.w.heap.size→j9 D b=B9 0 ((fun _=>(0,0)) b):=fun b h1 h2=>(P0 b).trans (i9 e0 h2)
 refine bodyPost_ret (v:=.agg #[.int .i64 x.Channel,.int .i64 x.Count,.string x.Rest,.slice na0 x.Starts.length nc0]) (A7 (P:=Tryz.prog) rfl rfl HR.out _ Tryz.underlying85 rfl kr) rfl ⟨[.int .i64 x.Channel,.int .i64 x.Count,.string x.Rest,.slice na0 x.Starts.length nc0],j9 D,rfl,⟨na0,nc0,rfl,⟨((((O0.out.re C0).mono (LeN.out (a:=w.heap.size+2))).keep GY0).mono om),HOK.out⟩⟩,b7.of⟩
theorem aP0{x:A8}(h:Enc.Rd B w vs x)(ht:Enc.tot x≤100000000) :
  Calls Tryz.prog 97 #[.agg vs.toArray] w (R3 w x):=by
 obtain⟨a0,c0,rfl,q0,hok⟩:=h
 have HT:=lH (show x.Parts.length≤100000000∧True from by
  have:Enc.tot x=d9 x.Parts:=rfl
  have:=d6 x.Parts;have:=f6 x.Parts
  refine⟨?_,trivial⟩<;>omega)
 have HT0:=lH ht;clear ht
 have HQ0:=lH q0;clear q0
 have HOK:=lH hok;clear hok
 have S0:=lH ((j5.new w [.int .i64 x.File,.int .i64 x.Size,.int .i64 x.Check,.slice a0 x.Parts.length c0] 179 w.heap.size rfl).to (ii:b8 _ ((w.alloc (.cells #[.int .i64 x.File,.int .i64 x.Size,.int .i64 x.Check,.slice a0 x.Parts.length c0] 179)).alloc (.cells #[.int .i64 0,.int .i64 0,.int .i64 0,.slice none 0 0] 179))))
 have R0:=lH ((j5.new (w.alloc (.cells #[.int .i64 x.File,.int .i64 x.Size,.int .i64 x.Check,.slice a0 x.Parts.length c0] 179)) [.int .i64 0,.int .i64 0,.int .i64 0,.slice none 0 0] 179 (w.heap.size+1) si).to (ii:b8 _ ((w.alloc (.cells #[.int .i64 x.File,.int .i64 x.Size,.int .i64 x.Check,.slice a0 x.Parts.length c0] 179)).alloc (.cells #[.int .i64 0,.int .i64 0,.int .i64 0,.slice none 0 0] 179))))
 go_enter Tryz.func97,Tryz.ntmps97
 go_wp2_with (first|(refine lB rfl _ _ rfl w.heap.size 3 rfl S0 rfl Tryz.underlying30 ?_)|(at_builtin;refine I0 (t:=30) (enc:=L4) (w0:=((w.alloc (.cells #[.int .i64 x.File,.int .i64 x.Size,.int .i64 x.Check,.slice a0 x.Parts.length c0] 179)).alloc (.cells #[.int .i64 0,.int .i64 0,.int .i64 0,.slice none 0 0] 179))) (z:=.string ByteArray.empty) (size:=1) (bytes:=16) (n:=0) (l:=[]) rfl (.tmp _) (.tmp _) rfl Tryz.underlying30 kr rfl de de rfl rfl HQ0.out.nilcap rfl rfl (Own.emptyAt (D7.encLen (α:=ByteArray)) nl (by first|rfl|(simp;done))) (HQ0.out.keep ii).slF (D7.one (α:=ByteArray)) (by have:=(HT.out.1);omega) ?_;intro na0 nc0 y0 no0 gr0;rw[List.nil_append]at no0;have O0:=lH (B6.of no0 HQ0.out.goods (0,0));clear no0 gr0;have t0:(0+x.Parts.length)=x.Parts.length:=Nat.zero_add _;simp only[t0];clear t0)|(refine sA rfl _ _ _ rfl (w.heap.size) 3 rfl [.slice na0 x.Parts.length nc0] [.int .i64 x.File,.int .i64 x.Size,.int .i64 x.Check,.slice na0 x.Parts.length nc0] S0 w si ?_;intro z1 HZ1 KQ1;have K1:=KQ1;have RZ1:=lH ((R0.out.to ii).but KQ1.out om);clear KQ1;have e1:LeN (w.heap.size+2) z1.w.heap.size:=⟨RZ1.out.lt⟩;clear R0 S0)|(refine lA rfl _ _ rfl (w.heap.size) 0 rfl [.int .i64 x.File,.int .i64 x.Size,.int .i64 x.Check,.slice na0 x.Parts.length nc0] HZ1 Tryz.underlying179 ?_)|(refine sB rfl _ _ _ rfl (w.heap.size+1) 0 rfl [.int .i64 x.File,.int .i64 x.Size,.int .i64 x.Check,.slice na0 x.Parts.length nc0] RZ1 w si ?_;intro zr HR KQr;have KR:=KQr;clear KQr))
 have GZ1:d7 (w.heap.size+2) z1.w zr.w:=KR.out.keeps om
 have GY0:d7 (w.heap.size+2) y0.w zr.w:=d7.trans (K1.out.keeps om) GZ1
 obtain⟨D,hD⟩:∃ D:List (Nat × Nat × (Nat→Col)),D=[(y0.w.heap.size,0,(fun _=>(0,0)))]:=⟨_,rfl⟩
 have e0:D[0]?=some (y0.w.heap.size,0,(fun _=>(0,0))):=by rw[hD];rfl
 clear hD
 have P0:∀ b,j9 D b=j9 (D.drop 0) b:=fun _=>rfl
 have C0:∀ b,((w.alloc (.cells #[.int .i64 x.File,.int .i64 x.Size,.int .i64 x.Check,.slice a0 x.Parts.length c0] 179)).alloc (.cells #[.int .i64 0,.int .i64 0,.int .i64 0,.slice none 0 0] 179)).heap.size≤b→b<y0.w.heap.size→j9 D b=B9 0 ((fun _=>(0,0)) b):=fun b h1 h2=>(P0 b).trans (i9 e0 h2)
 refine bodyPost_ret (v:=.agg #[.int .i64 x.File,.int .i64 x.Size,.int .i64 x.Check,.slice na0 x.Parts.length nc0]) (A7 (P:=Tryz.prog) rfl rfl HR.out _ Tryz.underlying179 rfl kr) rfl ⟨[.int .i64 x.File,.int .i64 x.Size,.int .i64 x.Check,.slice na0 x.Parts.length nc0],j9 D,rfl,⟨na0,nc0,rfl,⟨((((O0.out.re C0).mono (LeN.out (a:=w.heap.size+2))).keep GY0).mono om),HOK.out⟩⟩,b7.of⟩
theorem aJ6{x:s7}(h:Enc.Rd B w vs x)(ht:Enc.tot x≤100000000) :
  Calls Tryz.prog 100 #[.agg vs.toArray] w (R3 w x):=by
 obtain⟨a0,c0,rfl,q0,hok⟩:=h
 have HT:=lH (show x.Queue.length≤100000000∧True from by
  have:Enc.tot x=(x.Data.size:Int)+d9 x.Queue:=rfl
  have:=d6 x.Queue;have:=f6 x.Queue
  refine⟨?_,trivial⟩<;>omega)
 have HT0:=lH ht;clear ht
 have HQ0:=lH q0;clear q0
 have HOK:=lH hok;clear hok
 have S0:=lH ((j5.new w [.int .i64 x.File,.string x.Data,.slice a0 x.Queue.length c0,.bool x.Done] 183 w.heap.size rfl).to (ii:b8 _ ((w.alloc (.cells #[.int .i64 x.File,.string x.Data,.slice a0 x.Queue.length c0,.bool x.Done] 183)).alloc (.cells #[.int .i64 0,.string ⟨#[]⟩,.slice none 0 0,.bool false] 183))))
 have R0:=lH ((j5.new (w.alloc (.cells #[.int .i64 x.File,.string x.Data,.slice a0 x.Queue.length c0,.bool x.Done] 183)) [.int .i64 0,.string ⟨#[]⟩,.slice none 0 0,.bool false] 183 (w.heap.size+1) si).to (ii:b8 _ ((w.alloc (.cells #[.int .i64 x.File,.string x.Data,.slice a0 x.Queue.length c0,.bool x.Done] 183)).alloc (.cells #[.int .i64 0,.string ⟨#[]⟩,.slice none 0 0,.bool false] 183))))
 go_enter Tryz.func100,Tryz.ntmps100
 go_wp2_with (first|(refine lB rfl _ _ rfl w.heap.size 2 rfl S0 rfl aK9 ?_)|(at_builtin;refine I0 (t:=46) (enc:=ae0) (w0:=((w.alloc (.cells #[.int .i64 x.File,.string x.Data,.slice a0 x.Queue.length c0,.bool x.Done] 183)).alloc (.cells #[.int .i64 0,.string ⟨#[]⟩,.slice none 0 0,.bool false] 183))) (z:=.int .i64 0) (size:=1) (bytes:=8) (n:=0) (l:=[]) rfl (.tmp _) (.tmp _) rfl aK9 kr rfl de de rfl rfl HQ0.out.nilcap rfl rfl (Own.emptyAt (D7.encLen (α:=Int)) nl (by first|rfl|(simp;done))) (HQ0.out.keep ii).slF (D7.one (α:=Int)) (by have:=(HT.out.1);omega) ?_;intro na0 nc0 y0 no0 gr0;rw[List.nil_append]at no0;have O0:=lH (B6.of no0 HQ0.out.goods (0,0));clear no0 gr0;have t0:(0+x.Queue.length)=x.Queue.length:=Nat.zero_add _;simp only[t0];clear t0)|(refine sA rfl _ _ _ rfl (w.heap.size) 2 rfl [.slice na0 x.Queue.length nc0] [.int .i64 x.File,.string x.Data,.slice na0 x.Queue.length nc0,.bool x.Done] S0 w si ?_;intro z1 HZ1 KQ1;have K1:=KQ1;have RZ1:=lH ((R0.out.to ii).but KQ1.out om);clear KQ1;have e1:LeN (w.heap.size+2) z1.w.heap.size:=⟨RZ1.out.lt⟩;clear R0 S0)|(refine lA rfl _ _ rfl (w.heap.size) 0 rfl [.int .i64 x.File,.string x.Data,.slice na0 x.Queue.length nc0,.bool x.Done] HZ1 Tryz.underlying183 ?_)|(refine sB rfl _ _ _ rfl (w.heap.size+1) 0 rfl [.int .i64 x.File,.string x.Data,.slice na0 x.Queue.length nc0,.bool x.Done] RZ1 w si ?_;intro zr HR KQr;have KR:=KQr;clear KQr))
 have GZ1:d7 (w.heap.size+2) z1.w zr.w:=KR.out.keeps om
 have GY0:d7 (w.heap.size+2) y0.w zr.w:=d7.trans (K1.out.keeps om) GZ1
 obtain⟨D,hD⟩:∃ D:List (Nat × Nat × (Nat→Col)),D=[(y0.w.heap.size,0,(fun _=>(0,0)))]:=⟨_,rfl⟩
 have e0:D[0]?=some (y0.w.heap.size,0,(fun _=>(0,0))):=by rw[hD];rfl
 clear hD
 have P0:∀ b,j9 D b=j9 (D.drop 0) b:=fun _=>rfl
 have C0:∀ b,((w.alloc (.cells #[.int .i64 x.File,.string x.Data,.slice a0 x.Queue.length c0,.bool x.Done] 183)).alloc (.cells #[.int .i64 0,.string ⟨#[]⟩,.slice none 0 0,.bool false] 183)).heap.size≤b→b<y0.w.heap.size→j9 D b=B9 0 ((fun _=>(0,0)) b):=fun b h1 h2=>(P0 b).trans (i9 e0 h2)
 refine bodyPost_ret (v:=.agg #[.int .i64 x.File,.string x.Data,.slice na0 x.Queue.length nc0,.bool x.Done]) (A7 (P:=Tryz.prog) rfl rfl HR.out _ Tryz.underlying183 rfl kr) rfl ⟨[.int .i64 x.File,.string x.Data,.slice na0 x.Queue.length nc0,.bool x.Done],j9 D,rfl,⟨na0,nc0,rfl,⟨((((O0.out.re C0).mono (LeN.out (a:=w.heap.size+2))).keep GY0).mono om),HOK.out⟩⟩,b7.of⟩
theorem bB6{x:I3}(h:Enc.Rd B w vs x)(ht:Enc.tot x≤100000000) :
  Calls Tryz.prog 98 #[.agg vs.toArray] w (R3 w x):=by
 obtain⟨A,rfl,F⟩:=h
 have HT:=lH (show x.Params.length≤100000000∧x.Limits.length≤100000000∧x.Orders.length≤100000000∧x.Done.length≤100000000∧Enc.tot x.Recorder≤100000000∧x.Asked.length≤100000000∧True from by
  have:Enc.tot x=d9 x.Params+d9 x.Limits+d9 x.Orders+d9 x.Done+Enc.tot x.Recorder+d9 x.Asked:=rfl
  have:=d6 x.Params;have:=f6 x.Params
  have:=d6 x.Limits;have:=f6 x.Limits
  have:=d6 x.Orders;have:=f6 x.Orders
  have:=d6 x.Done;have:=f6 x.Done
  have:=Enc.tot_nonneg x.Recorder
  have:Enc.tot x.Recorder=d9 x.Recorder.Records+d9 x.Recorder.Dropped:=rfl
  have:=d6 x.Recorder.Records;have:=f6 x.Recorder.Records
  have:=d6 x.Recorder.Dropped;have:=f6 x.Recorder.Dropped
  have:=d6 x.Asked;have:=f6 x.Asked
  refine⟨?_,?_,?_,?_,?_,?_,trivial⟩<;>omega)
 have HT0:=lH ht;clear ht
 have HFF:=lH F;clear F
 have S0:=lH ((j5.new w (F8 x A) 84 w.heap.size rfl).to (ii:b8 _ ((w.alloc (.cells (F8 x A).toArray 84)).alloc (.cells S3.toArray 84))))
 have R0:=lH ((j5.new (w.alloc (.cells (F8 x A).toArray 84)) S3 84 (w.heap.size+1) si).to (ii:b8 _ ((w.alloc (.cells (F8 x A).toArray 84)).alloc (.cells S3.toArray 84))))
 have H0:=lH (j5.new ((w.alloc (.cells (F8 x A).toArray 84)).alloc (.cells S3.toArray 84)) S3 84 (w.heap.size+2) si)
 go_enter Tryz.func98,Tryz.ntmps98
 go_wp2_with (first|(refine lA rfl _ _ rfl w.heap.size 0 rfl (F8 x A) S0 Tryz.underlying84 ?_)|(refine sB rfl _ _ _ rfl (w.heap.size+2) 0 rfl (F8 x A) H0 w si ?_;intro z0 HH0 KQ0;have S1:=lH ((S0.out.to ii).but KQ0.out om);have R1:=lH ((R0.out.to ii).but KQ0.out om);clear KQ0 S0 R0 H0;have e0:LeN (w.heap.size+3) z0.w.heap.size:=⟨HH0.out.lt⟩)|(refine lB rfl _ _ rfl w.heap.size 1 rfl S1 rfl aK9 ?_)|(at_builtin;refine aE (α:=Int) z0.w (z:=.int .i64 0) 1 8 rfl (.tmp _) (.tmp _) rfl aK9 HFF.out.q0 HT.out.1 ii ?_;intro na0 nc0 y0 O0)|(refine sA rfl _ _ _ rfl (w.heap.size+2) 1 rfl [.slice na0 x.Params.length nc0] (S8 x na0 nc0 A.a1 A.c1 A.a2 A.c2 A.a3 A.c3 A.a4 A.c4 A.a5 A.c5 A.a6 A.c6) HH0 w si ?_;intro z1 HZ1 KQ1;have K1:=KQ1;have RZ1:=lH ((R1.out.to ii).but KQ1.out om);have SZ1:=lH ((S1.out.to ii).but KQ1.out om);clear KQ1;have e1:LeN (w.heap.size+3) z1.w.heap.size:=⟨HZ1.out.lt⟩;clear HH0 R1 S1)|(refine lB rfl _ _ rfl w.heap.size 3 rfl SZ1 rfl Tryz.underlying78 ?_)|(at_builtin;refine aE (α:=V8) z1.w (z:=.agg #[.int .i64 0,.int .i64 0,.int .i64 0]) 3 24 rfl (.tmp _) (.tmp _) rfl Tryz.underlying78 HFF.out.q1 HT.out.2.1 ii ?_;intro na1 nc1 y1 O1)|(refine sA rfl _ _ _ rfl (w.heap.size+2) 3 rfl [.slice na1 x.Limits.length nc1] (S8 x na0 nc0 na1 nc1 A.a2 A.c2 A.a3 A.c3 A.a4 A.c4 A.a5 A.c5 A.a6 A.c6) HZ1 w si ?_;intro z2 HZ2 KQ2;have K2:=KQ2;have RZ2:=lH ((RZ1.out.to ii).but KQ2.out om);have SZ2:=lH ((SZ1.out.to ii).but KQ2.out om);clear KQ2;have e2:LeN (w.heap.size+3) z2.w.heap.size:=⟨HZ2.out.lt⟩;clear HZ1 RZ1 SZ1)|(refine lB rfl _ _ rfl w.heap.size 4 rfl SZ2 rfl Tryz.underlying79 ?_)|(at_builtin;refine aE (α:=D4) z2.w (z:=.agg #[.int .i64 0,.int .i64 0,.int .i64 0,.int .i64 0,.int .i64 0]) 5 40 rfl (.tmp _) (.tmp _) rfl Tryz.underlying79 HFF.out.q2 HT.out.2.2.1 ii ?_;intro na2 nc2 y2 O2)|(refine sA rfl _ _ _ rfl (w.heap.size+2) 4 rfl [.slice na2 x.Orders.length nc2] (S8 x na0 nc0 na1 nc1 na2 nc2 A.a3 A.c3 A.a4 A.c4 A.a5 A.c5 A.a6 A.c6) HZ2 w si ?_;intro z3 HZ3 KQ3;have K3:=KQ3;have RZ3:=lH ((RZ2.out.to ii).but KQ3.out om);have SZ3:=lH ((SZ2.out.to ii).but KQ3.out om);clear KQ3;have e3:LeN (w.heap.size+3) z3.w.heap.size:=⟨HZ3.out.lt⟩;clear HZ2 RZ2 SZ2)|(refine lB rfl _ _ rfl w.heap.size 5 rfl SZ3 rfl Tryz.underlying80 ?_)|(at_builtin;refine aE (α:=ad2) z3.w (z:=.agg #[.int .i64 0,.int .i64 0,.int .i64 0]) 3 24 rfl (.tmp _) (.tmp _) rfl Tryz.underlying80 HFF.out.q3 HT.out.2.2.2.1 ii ?_;intro na3 nc3 y3 O3)|(refine sA rfl _ _ _ rfl (w.heap.size+2) 5 rfl [.slice na3 x.Done.length nc3] (S8 x na0 nc0 na1 nc1 na2 nc2 na3 nc3 A.a4 A.c4 A.a5 A.c5 A.a6 A.c6) HZ3 w si ?_;intro z4 HZ4 KQ4;have K4:=KQ4;have RZ4:=lH ((RZ3.out.to ii).but KQ4.out om);have SZ4:=lH ((SZ3.out.to ii).but KQ4.out om);clear KQ4;have e4:LeN (w.heap.size+3) z4.w.heap.size:=⟨HZ4.out.lt⟩;clear HZ3 RZ3 SZ3)|(refine lA rfl _ _ rfl w.heap.size 6 rfl [.int .i64 x.Recorder.Room,.slice A.a4 x.Recorder.Records.length A.c4,.slice A.a5 x.Recorder.Dropped.length A.c5] SZ4 bR1 ?_))
 refine(be0 (x:=x.Recorder) ⟨A.a4,A.c4,A.a5,A.c5,rfl,HFF.out.q4.keep ii,HFF.out.q5.keep ii,HFF.out.ok.2.1⟩ (HT.out.2.2.2.2.1)).mono ?_
 rintro _ _ ⟨_,ch4,rfl,⟨b4a0,b4c0,b4a1,b4c1,rfl,no4⟩,y4,rfl⟩
 have O4:=lH no4;clear no4
 go_wp2_with (first|(refine sA rfl _ _ _ rfl (w.heap.size+2) 6 rfl [.int .i64 x.Recorder.Room,.slice b4a0 x.Recorder.Records.length b4c0,.slice b4a1 x.Recorder.Dropped.length b4c1] (S8 x na0 nc0 na1 nc1 na2 nc2 na3 nc3 b4a0 b4c0 b4a1 b4c1 A.a6 A.c6) HZ4 w si ?_;intro z5 HZ5 KQ5;have K5:=KQ5;have RZ5:=lH ((RZ4.out.to ii).but KQ5.out om);have SZ5:=lH ((SZ4.out.to ii).but KQ5.out om);clear KQ5;have e5:LeN (w.heap.size+3) z5.w.heap.size:=⟨HZ5.out.lt⟩;clear HZ4 RZ4 SZ4)|(refine lB rfl _ _ rfl w.heap.size 11 rfl SZ5 rfl aK9 ?_)|(at_builtin;refine aE (α:=Int) z5.w (z:=.int .i64 0) 1 8 rfl (.tmp _) (.tmp _) rfl aK9 HFF.out.q6 HT.out.2.2.2.2.2.1 ii ?_;intro na6 nc6 y5 O5)|(refine sA rfl _ _ _ rfl (w.heap.size+2) 11 rfl [.slice na6 x.Asked.length nc6] (S8 x na0 nc0 na1 nc1 na2 nc2 na3 nc3 b4a0 b4c0 b4a1 b4c1 na6 nc6) HZ5 w si ?_;intro z6 HZ6 KQ6;have K6:=KQ6;have RZ6:=lH ((RZ5.out.to ii).but KQ6.out om);have SZ6:=lH ((SZ5.out.to ii).but KQ6.out om);clear KQ6;have e6:LeN (w.heap.size+3) z6.w.heap.size:=⟨HZ6.out.lt⟩;clear HZ5 RZ5 SZ5)|(refine lA rfl _ _ rfl (w.heap.size+2) 0 rfl (S8 x na0 nc0 na1 nc1 na2 nc2 na3 nc3 b4a0 b4c0 b4a1 b4c1 na6 nc6) HZ6 Tryz.underlying84 ?_)|(refine sB rfl _ _ _ rfl (w.heap.size+1) 0 rfl (S8 x na0 nc0 na1 nc1 na2 nc2 na3 nc3 b4a0 b4c0 b4a1 b4c1 na6 nc6) RZ6 w si ?_;intro zr HR KQr;have KR:=KQr;clear KQr))
 have GZ6:d7 (w.heap.size+3) z6.w zr.w:=KR.out.keeps om
 have GY5:d7 (w.heap.size+3) y5.w zr.w:=d7.trans (K6.out.keeps om) GZ6
 have GZ5:d7 (w.heap.size+3) z5.w zr.w:=d7.trans (ii:d7 (w.heap.size+3) z5.w y5.w) GY5
 have GY4:d7 (w.heap.size+3) y4.w zr.w:=d7.trans (K5.out.keeps om) GZ5
 have GZ4:d7 (w.heap.size+3) z4.w zr.w:=d7.trans (ii:d7 (w.heap.size+3) z4.w y4.w) GY4
 have GY3:d7 (w.heap.size+3) y3.w zr.w:=d7.trans (K4.out.keeps om) GZ4
 have GZ3:d7 (w.heap.size+3) z3.w zr.w:=d7.trans (ii:d7 (w.heap.size+3) z3.w y3.w) GY3
 have GY2:d7 (w.heap.size+3) y2.w zr.w:=d7.trans (K3.out.keeps om) GZ3
 have GZ2:d7 (w.heap.size+3) z2.w zr.w:=d7.trans (ii:d7 (w.heap.size+3) z2.w y2.w) GY2
 have GY1:d7 (w.heap.size+3) y1.w zr.w:=d7.trans (K2.out.keeps om) GZ2
 have GZ1:d7 (w.heap.size+3) z1.w zr.w:=d7.trans (ii:d7 (w.heap.size+3) z1.w y1.w) GY1
 have GY0:d7 (w.heap.size+3) y0.w zr.w:=d7.trans (K1.out.keeps om) GZ1
 obtain⟨D,hD⟩:∃ D:List (Nat × Nat × (Nat→Col)),D=[(y0.w.heap.size,0,(fun _=>(0,0))),(y1.w.heap.size,1,(fun _=>(0,0))),(y2.w.heap.size,2,(fun _=>(0,0))),(y3.w.heap.size,3,(fun _=>(0,0))),(y4.w.heap.size,4,ch4),(y5.w.heap.size,6,(fun _=>(0,0)))]:=⟨_,rfl⟩
 have e0:D[0]?=some (y0.w.heap.size,0,(fun _=>(0,0))):=by rw[hD];rfl
 have e1:D[1]?=some (y1.w.heap.size,1,(fun _=>(0,0))):=by rw[hD];rfl
 have e2:D[2]?=some (y2.w.heap.size,2,(fun _=>(0,0))):=by rw[hD];rfl
 have e3:D[3]?=some (y3.w.heap.size,3,(fun _=>(0,0))):=by rw[hD];rfl
 have e4:D[4]?=some (y4.w.heap.size,4,ch4):=by rw[hD];rfl
 have e5:D[5]?=some (y5.w.heap.size,6,(fun _=>(0,0))):=by rw[hD];rfl
 clear hD
 have P0:∀ b,j9 D b=j9 (D.drop 0) b:=fun _=>rfl
 have C0:∀ b,z0.w.heap.size≤b→b<y0.w.heap.size→j9 D b=B9 0 ((fun _=>(0,0)) b):=fun b h1 h2=>(P0 b).trans (i9 e0 h2)
 have P1:∀ b,y0.w.heap.size≤b→j9 D b=j9 (D.drop 1) b:=fun b hb=>(P0 b).trans (f8 e0 hb)
 have C1:∀ b,z1.w.heap.size≤b→b<y1.w.heap.size→j9 D b=B9 1 ((fun _=>(0,0)) b):=fun b h1 h2=>(P1 b (Nat.le_trans K1.out.size h1)).trans (i9 e1 h2)
 have P2:∀ b,y1.w.heap.size≤b→j9 D b=j9 (D.drop 2) b:=fun b hb=>(P1 b (Nat.le_trans (Nat.le_trans K1.out.size y1.size_le) hb)).trans (f8 e1 hb)
 have C2:∀ b,z2.w.heap.size≤b→b<y2.w.heap.size→j9 D b=B9 2 ((fun _=>(0,0)) b):=fun b h1 h2=>(P2 b (Nat.le_trans K2.out.size h1)).trans (i9 e2 h2)
 have P3:∀ b,y2.w.heap.size≤b→j9 D b=j9 (D.drop 3) b:=fun b hb=>(P2 b (Nat.le_trans (Nat.le_trans K2.out.size y2.size_le) hb)).trans (f8 e2 hb)
 have C3:∀ b,z3.w.heap.size≤b→b<y3.w.heap.size→j9 D b=B9 3 ((fun _=>(0,0)) b):=fun b h1 h2=>(P3 b (Nat.le_trans K3.out.size h1)).trans (i9 e3 h2)
 have P4:∀ b,y3.w.heap.size≤b→j9 D b=j9 (D.drop 4) b:=fun b hb=>(P3 b (Nat.le_trans (Nat.le_trans K3.out.size y3.size_le) hb)).trans (f8 e3 hb)
 have C4:∀ b,z4.w.heap.size≤b→b<y4.w.heap.size→j9 D b=B9 4 (ch4 b):=fun b h1 h2=>(P4 b (Nat.le_trans K4.out.size h1)).trans (i9 e4 h2)
 have P5:∀ b,y4.w.heap.size≤b→j9 D b=j9 (D.drop 5) b:=fun b hb=>(P4 b (Nat.le_trans (Nat.le_trans K4.out.size y4.size_le) hb)).trans (f8 e4 hb)
 have C5:∀ b,z5.w.heap.size≤b→b<y5.w.heap.size→j9 D b=B9 6 ((fun _=>(0,0)) b):=fun b h1 h2=>(P5 b (Nat.le_trans K5.out.size h1)).trans (i9 e5 h2)
 have Q4:=lH ((((O4.out.re C4).mono (LeN.out (a:=w.heap.size+3))).keep GY4).mono (B2:=w.heap.size) om)
 refine bodyPost_ret (v:=.agg (S8 x na0 nc0 na1 nc1 na2 nc2 na3 nc3 b4a0 b4c0 b4a1 b4c1 na6 nc6).toArray) (A7 (P:=Tryz.prog) rfl rfl HR.out _ Tryz.underlying84 rfl kr) rfl ⟨(S8 x na0 nc0 na1 nc1 na2 nc2 na3 nc3 b4a0 b4c0 b4a1 b4c1 na6 nc6),j9 D,rfl,⟨⟨na0,nc0,na1,nc1,na2,nc2,na3,nc3,b4a0,b4c0,b4a1,b4c1,na6,nc6⟩,rfl,⟨((((O0.out.re C0).mono (LeN.out (a:=w.heap.size+3))).keep GY0).mono om),((((O1.out.re C1).mono (LeN.out (a:=w.heap.size+3))).keep GY1).mono om),((((O2.out.re C2).mono (LeN.out (a:=w.heap.size+3))).keep GY2).mono om),((((O3.out.re C3).mono (LeN.out (a:=w.heap.size+3))).keep GY3).mono om),Q4.out.o0,Q4.out.o1,((((O5.out.re C5).mono (LeN.out (a:=w.heap.size+3))).keep GY5).mono om),HFF.out.ok⟩⟩,b7.of⟩
theorem aH5{x:Int}(h0:0≤x)(h1:x≤255):Calls Tryz.prog 353 #[.int .u64 x] w (b5 w (I (av5 x))):=by
 obtain⟨k,rfl⟩:∃ k:Fin 256,x=(k.1:Int):=⟨⟨x.toNat,by omega⟩,by simp;omega⟩
 go_enter Tryz.func353,Tryz.ntmps353
 go_wp2_with (fail)
 go_ret
 refine b5.mk (congrArg (Value.int .i64) ?_)
 clear h0 h1
 revert k
 decide +kernel
theorem bw1{x:Int}(h0:0≤x)(h1:x≤255):Calls Tryz.prog 352 #[.int .u64 x] w (b5 w (I (av5 x))):=by
 go_enter Tryz.func352,Tryz.ntmps352
 go_wp2_with (first|(go_at_call 353;refine gm (aH5 om om) ?_;intro x))
 go_ret
 exact b5.mk rfl
theorem aA9{n:Int}(h0:0≤n)(h1:n≤15):Calls Tryz.prog 343 #[I n] w (b5 w (I (nib n))):=by
 have h:n=0∨n=1∨n=2∨n=3∨n=4∨n=5∨n=6∨n=7∨n=8∨n=9∨n=10∨n=11∨n=12∨n=13∨n=14∨n=15:=by omega
 clear h0 h1
 rcases h with rfl|rfl|rfl|rfl|rfl|rfl|rfl|rfl|rfl|rfl|rfl|rfl|rfl|rfl|rfl|rfl
 all_goals
  go_enter Tryz.func343,Tryz.ntmps343
  go_wp2_with (first|(go_at_call 352;refine gm (bw1 (of_decide_eq_true kr) (of_decide_eq_true kr)) ?_;intro x))
  go_ret
  exact b5.mk kr
theorem bw7{s:ByteArray}(hm:s.size≤400):Calls Tryz.prog 269 #[.string s] w (b5 w (.string (strOfNums (scr 255 (s5 s))))):=by
 have hlen:=M7 s
 obtain⟨n,hn⟩:∃ n,s.size=n:=⟨_,rfl⟩
 have hln:(s5 s).length=n:=by omega
 have hto:=fun w:World=>run_bytes_of_string (P:=Tryz.prog) w 9 258 5 s Tryz.underlying9 Tryz.underlying258 Tryz.underlying5
 go_enter Tryz.func269,Tryz.ntmps269
 go_upto_region 4 with(fail)
 generalize grownCap w n 0 5=gc
 clear hto
 (try rw[hn])
 go_loopw [4,10] (fun u v wr=>∃ (k:Nat) (x:Int) (D:List Int),v=I k∧u=I x∧0≤x∧x≤255∧k≤n∧D.length=n∧Hid (D.take k++scr x (D.drop k)=scr 255 (s5 s))∧Hid (ar3 wr w.heap.size D)∧∃ y:b7 w,wr=y.w) (fun _ v _=>(n - intOf v).toNat)
 case atStart=>exact⟨0,255,s5 s,rfl,rfl,by omega,by omega,by omega,hln,rfl,lH ar3.conv,b7.of⟩
 case round =>
  obtain⟨k,x,D,rfl,rfl,hx0,hx1,hk,hDn,HF,HD,y,rfl⟩:=hrel
  by_cases hkn:k<n
  ·obtain⟨d,hd9⟩:∃ d,D.getD k 0=d:=⟨_,rfl⟩
   have Hd:=lH hd9
   have hcell:∀ (W:World) [b8 y.w W],W.cell? ⟨w.heap.size,k,none⟩=some (.int .u8 d):=fun W g=>by rw[← Hd.out];exact((HD.out.to g).at om).1
   clear hd9
   have HX:=lH (bY7 hx0 hx1)
   have⟨hl0,hl1⟩:=bM4 hx0
   go_wp2_with (first|(refine aS3 rfl _ (.tmp 20) (.tmp 19) rfl w.heap.size k rfl (L2:=D.set k (bv6 (D.getD k 0) x)) (HD.out.to ii) (v:=bv6 d x) kr kr om (by rw[Hd.out]) (w0:=w) ii nl ?_;intro z hz;have HZ:=lH hz;clear hz hcell))
   go_roundw
   case rel=>exact⟨k+1,bi6 x,D.set k (bv6 (D.getD k 0) x),by go_num,by rw[← HX.out],hl0,hl1,by omega,by simp[hDn],lH (bU1 HF.out om),HZ,b7.of⟩
   case measure=>simp[intOf];omega
  ·obtain rfl:n=k:=by omega
   have hcv:=HD.out.str (P:=Tryz.prog) (c:=gc) hDn Tryz.underlying258 Tryz.underlying5 Tryz.underlying9
   have hcv1:=hcv y.w
   clear hcv
   have HF2:=lH (show D=scr 255 (s5 s)by have:=HF.out;rw[List.take_of_length_le om,List.drop_of_length_le om]at this;simpa[scr]using this)
   go_wp2_with (fail)
   go_ret
   exact b5.mk (by rw[HF2.out];rfl)
theorem aT7{s:ByteArray}(hm:s.size≤100000000):Calls Tryz.prog 221 #[.string s] w (b5 w (.string (aF0 s))):=by
 have⟨h0,h1⟩:=bb8 s
 have hz:(aF4 (ak5 s)).size=2:=rfl
 go_enter Tryz.func221,Tryz.ntmps221
 go_wp2_with (first|(go_at_call 307;refine gm (bE8 om) ?_;intro y9)|(go_at_call 80;refine gm (bw6 h0 om) ?_;intro y9))
 go_ret
 exact b5.mk rfl
theorem ay4{z0:Int}(h0:0≤z0)(h1:z0≤255):Calls Tryz.prog 334 #[I z0] w (b5 w (I (av5 z0))):=by
 have c0:inB z0 0 4294967295=true:=D8.2 om
 go_enter Tryz.func334,Tryz.ntmps334
 go_wp2_with (first|(go_at_call 101;refine gm (f5) ?_;intro x))
 go_loopw [0,3] (fun u v wr=>∃ (m n:Int),u=I m∧v=I n∧0≤m∧m≤255∧0≤n∧n+av5 m=av5 z0∧∃ y:b7 w,wr=y.w) (fun u _ _=>(intOf u).toNat)
 case atStart=>exact⟨z0,0,rfl,rfl,h0,h1,by omega,by omega,b7.of⟩
 case round =>
  obtain⟨m,n,rfl,rfl,hm0,hm1,hn,he,y,rfl⟩:=hrel
  have hh:=bP9 hm0 hm1
  have HA:=lH (bR9 hm0 hm1)
  have hb:av5 m≤8∧0≤av5 m:=by unfold av5;omega
  have hx:av5 z0≤8:=by unfold av5;omega
  have hn8:n≤8:=by omega
  have HE:=lH he
  have HH:=lH hh
  clear he hh
  by_cases h:0<m
  ·go_wp2_with (fail)
   go_roundw
   case rel=>exact⟨m / 2,n+m % 2,by go_num,by rw[HA.out,w64 (n:=n+m % 2) om om],by omega,by omega,by omega,by have:=HE.out;have:=HH.out;omega,b7.of⟩
   case measure=>simp[intOf];omega
  ·obtain rfl:m=0:=by omega
   have h8:av5 0=0:=rfl
   go_wp2_with (fail)
   go_ret
   exact b5.mk (congrArg (Value.int .i64) (show n=av5 z0 by have:=HE.out;omega))
theorem aB1{n:Int}(h0:0≤n)(h1:n≤15):Calls Tryz.prog 302 #[I n] w (b5 w (I (nib n))):=by
 have h:n=0∨n=1∨n=2∨n=3∨n=4∨n=5∨n=6∨n=7∨n=8∨n=9∨n=10∨n=11∨n=12∨n=13∨n=14∨n=15:=by omega
 clear h0 h1
 rcases h with rfl|rfl|rfl|rfl|rfl|rfl|rfl|rfl|rfl|rfl|rfl|rfl|rfl|rfl|rfl|rfl
 all_goals
  go_enter Tryz.func302,Tryz.ntmps302
  go_wp2_with (first|(go_at_call 101;refine gm (f5) ?_;intro x)|(go_at_call 334;refine gm (ay4 (of_decide_eq_true kr) (of_decide_eq_true kr)) ?_;intro x))
  go_ret
  exact b5.mk kr
