/- Steps for functions that copy structs: single loads out of boxes, the colours of what is made one after the other. -/
import Derived.Test.YtdoilejecjaldaaGreatHOwnS
import Derived.Test.YtdoilejecjaldaaGreatHM22
import Derived.Test.YtdoilejecjaldaaGreatHM6
import Derived.Test.YtdoilejecjaldaaGreatHStepH
import Derived.Test.YtdoilejecjaldaaGreatHOkF
import Derived.Deep.CutRange
import Derived.Test.YtdoilejecjaldaaGreatHM0
import Derived.Test.YtdoilejecjaldaaGreatHM26
import Derived.Test.YtdoilejecjaldaaGreatHOkAi
import Derived.Test.YtdoilejecjaldaaGreatHM15
import Derived.Test.YtdoilejecjaldaaGreatHOwnF
import Derived.Test.YtdoilejecjaldaaGreatHOkBs
namespace Go.Proofs.YtdoilejecjaldaaGreat
set_option maxRecDepth 100000
set_option maxHeartbeats 8000000
set_option linter.unusedVariables false
open Go.ChangeShapes Go.WideShapes Go.ChangeAt Go.RowKit
private abbrev aQ7:=Tryz.underlying65
section
variable {P:Program} {ops:Array Oper} {rest:List Oper} {op:Oper} {a:Act} {w:World} {Q:Exit→Act→World→Prop}
theorem f8(hgd:op.guard=none)(ty:TypeId)(x:Operand)(ho:op.op=.load ty x)(b o:Nat)(hx:a.eval x=.pointer (some ⟨b,o,none⟩)){cs:List Value}{T:TypeId}(H:i9 w b cs T)(v:Value)(hv:cs[o]?=some v)
  (d:TypeDesc) (hu:P.underlying ty=some d) (hd:d.isRow=false) (h:wpList P ops Q rest (a.put op.dst v) w):wpList P ops Q (op::rest) a w:=by
 refine wpList_plain hgd fun _ hK=>?_
 have hagg:(isAgg ty).run P w=.ok false w:=by
  unfold isAgg
  rw[Sem.run_bind,run_underlying hu w]
  cases d<;>simp_all [TypeDesc.isRow]
 have hl:(loadVar ty ⟨b,o,none⟩).run P w=.ok v w:=by
  have hc:=H.cell o
  rw[hv]at hc
  simp[loadVar,Sem.run_bind,hagg,go_sem,hc]
 unfold Oper.wp execOp
 simp only[ho,hx,Instr.loadAt,Instr.sureAddr,Sem.run_bind,Sem.run_pure,Result.andThen_ok,hl]
 exact hK _ _ h
end
def s5:List (Nat × Nat × (Nat→Col))→Nat→Col
 | [],_=>(0,0)
 | (s,d,χ)::r,b=>if b<s then D3 d (χ b)else s5 r b
theorem bk8{s d:Nat}{χ:Nat→Col}{r:List (Nat × Nat × (Nat→Col))}{b:Nat}(h:s≤b):s5 ((s,d,χ)::r) b=s5 r b:=by rw[s5,if_neg (by omega)]
theorem ao7{s d:Nat}{χ:Nat→Col}{r:List (Nat × Nat × (Nat→Col))}{b:Nat}(h:b<s):s5 ((s,d,χ)::r) b=D3 d (χ b):=by rw[s5,if_pos h]
theorem f6{D:List (Nat × Nat × (Nat→Col))}{j s d:Nat}{χ:Nat→Col}{b:Nat}(e:D[j]?=some (s,d,χ))(h:s≤b):s5 (D.drop j) b=s5 (D.drop (j+1)) b:=by
 obtain⟨hj,hx⟩:=List.getElem?_eq_some_iff.1 e
 rw[List.drop_eq_getElem_cons hj,hx,bk8 h]
theorem i8{D:List (Nat × Nat × (Nat→Col))}{j s d:Nat}{χ:Nat→Col}{b:Nat}(e:D[j]?=some (s,d,χ))(h:b<s):s5 (D.drop j) b=D3 d (χ b):=by
 obtain⟨hj,hx⟩:=List.getElem?_eq_some_iff.1 e
 rw[List.drop_eq_getElem_cons hj,hx,ao7 h]
theorem But.keeps{b B:Nat}{w w':World}(h:But b w w')(hB:b<B):b8 B w w':=⟨h.size,fun k h1 h2=>h.block k (by omega) h2⟩
theorem D0.re{α:Type}[E:D9 α]{B d:Nat}{χ χ2:Nat→Col}{w:World}{a:Option Addr}{c:Nat}{l:List α}(h:D0 B χ2 (0,0) w a c l)(hc:∀ b,B≤b→b<w.heap.size→χ b=D3 d (χ2 b)):D0 B χ (d,0) w a c l :=
 h.recol fun k h1 h2 h3=>by rw[hc k h1 h2,h3];simp[D3]
theorem D0.reAt{α:Type}[E:D9 α]{B d j k:Nat}{χ χ2:Nat→Col}{w:World}{a:Option Addr}{c:Nat}{l:List α}(h:D0 B χ2 (j,k) w a c l)(hc:∀ b,B≤b→b<w.heap.size→χ b=D3 d (χ2 b)):D0 B χ (d+j,k) w a c l :=
 h.recol fun k h1 h2 h3=>by rw[hc k h1 h2,h3];simp[D3,Nat.add_comm]
theorem M9.re{α β:Type}[N:ao2 α β][F:D9 β]{B d:Nat}{χ χ2:Nat→Col}{w:World}{a:Option Addr}{c:Nat}{rows:List (N7 α)}(h:M9 B χ2 0 w a c rows)(hc:∀ b,B≤b→b<w.heap.size→χ b=D3 d (χ2 b)):M9 B χ d w a c rows :=
 h.recol fun k j h1 h2 h3=>by rw[hc k h1 h2,h3];simp[D3]
theorem M9.reAt{α β:Type}[N:ao2 α β][F:D9 β]{B d j:Nat}{χ χ2:Nat→Col}{w:World}{a:Option Addr}{c:Nat}{rows:List (N7 α)}(h:M9 B χ2 j w a c rows)(hc:∀ b,B≤b→b<w.heap.size→χ b=D3 d (χ2 b)):M9 B χ (d+j) w a c rows :=
 h.recol fun k i h1 h2 h3=>by rw[hc k h1 h2,h3];simp[D3,Nat.add_comm]
--STRUCTS
theorem M9.oc{α β:Type}[N:ao2 α β][F:D9 β]{B o o2:Nat}{χ:Nat→Col}{w:World}{a:Option Addr}{c:Nat}{rows:List (N7 α)}(h:M9 B χ o w a c rows)(e:o=o2):M9 B χ o2 w a c rows:=e▸h
theorem aa7.re{B d:Nat}{χ χ2:Nat→Col}{w:World}{a0:Option Addr}{c0:Nat}{x:R5}(h:aa7 B χ2 0 w a0 c0 x)(hc:∀ b,B≤b→b<w.heap.size→χ b=D3 d (χ2 b)):aa7 B χ d w a0 c0 x:=⟨h.o0.re hc,h.ok⟩
theorem aa8.re{B d:Nat}{χ χ2:Nat→Col}{w:World}{a0:Option Addr}{c0:Nat}{x:R6}(h:aa8 B χ2 0 w a0 c0 x)(hc:∀ b,B≤b→b<w.heap.size→χ b=D3 d (χ2 b)):aa8 B χ d w a0 c0 x:=⟨h.o0.re hc,h.ok⟩
theorem U7.re{B d:Nat}{χ χ2:Nat→Col}{w:World}{a0:Option Addr}{c0:Nat}{a1:Option Addr}{c1:Nat}{x:J0}(h:U7 B χ2 0 w a0 c0 a1 c1 x)(hc:∀ b,B≤b→b<w.heap.size→χ b=D3 d (χ2 b)):U7 B χ d w a0 c0 a1 c1 x:=⟨h.o0.re hc,(h.o1.reAt (j:=0+1) hc).ic (by simp),h.ok⟩
theorem ad6.re{B d:Nat}{χ χ2:Nat→Col}{w:World}{A:af3}{x:D5}(h:ad6 B χ2 0 w A x)(hc:∀ b,B≤b→b<w.heap.size→χ b=D3 d (χ2 b)):ad6 B χ d w A x:=⟨h.o0.re hc,(h.o1.reAt (j:=0+1) hc).ic (by simp),(h.o2.reAt (j:=0+2) hc).ic (by simp),(h.o3.reAt (j:=0+3) hc).ic (by simp),(h.o4.reAt (j:=0+4) hc).ic (by simp),(h.o5.reAt (j:=0+5) hc).ic (by simp),(h.o6.reAt (j:=0+6) hc).ic (by simp),h.ok⟩
theorem X4.re{B d:Nat}{χ χ2:Nat→Col}{w:World}{A:aa6}{x:I8}(h:X4 B χ2 0 w A x)(hc:∀ b,B≤b→b<w.heap.size→χ b=D3 d (χ2 b)):X4 B χ d w A x:=⟨h.o0.re hc,(h.o1.reAt (j:=0+1) hc).ic (by simp),(h.o2.reAt (j:=0+2) hc).ic (by simp),(h.o3.reAt (j:=0+3) hc).ic (by simp),h.o4.elim fun r hr=>⟨r,hr.1,(hr.2.reAt (j:=0+4) hc).oc (by omega)⟩,(h.o5.reAt (j:=0+5) hc).ic (by simp),h.ok⟩
theorem ad7.re{B d:Nat}{χ χ2:Nat→Col}{w:World}{A:ag9}{x:M7}(h:ad7 B χ2 0 w A x)(hc:∀ b,B≤b→b<w.heap.size→χ b=D3 d (χ2 b)):ad7 B χ d w A x:=⟨h.o0.re hc,(h.o1.reAt (j:=0+1) hc).ic (by simp),(h.o2.reAt (j:=0+2) hc).ic (by simp),(h.o3.reAt (j:=0+3) hc).ic (by simp),(h.o4.reAt (j:=0+4) hc).ic (by simp),(h.o5.reAt (j:=0+5) hc).ic (by simp),(h.o6.reAt (j:=0+6) hc).ic (by simp),(h.o7.reAt (j:=0+7) hc).ic (by simp),(h.o8.reAt (j:=0+8) hc).ic (by simp),h.o9.elim fun r hr=>⟨r,hr.1,(hr.2.reAt (j:=0+9) hc).oc (by omega)⟩,(h.o10.reAt (j:=0+10) hc).ic (by simp),h.ok⟩
theorem aE{P:Program}{ops:Array Oper}{rest:List Oper}{op:Oper}{a:Act}{Q:Exit→Act→World→Prop}{B:Nat}{w:World}{α:Type}[E:D9 α]{t:TypeId}{l:List α}{ra:Option Addr}{c:Nat}(w0:World){z:Value}(size bytes:Nat)(hgd:op.guard=none)(s x:Operand)(ho:op.op=.call {callee:=.builtin .append,args:=#[s,x],argTypes:=#[t,t]})(ht:P.underlying t=some (.slice E.ty))(hq:RdS B w ra c l)(hb:l.length≤100000000)(g:d5 w (w0.alloc (.cells #[] E.ty)))
 (h:∀ (sa:Option Addr) (sc:Nat) (y:b5 w0),Hid (D0 w0.heap.size (fun _=>(0,0)) (0,0) y.w sa sc l)→wpList P ops Q rest (a.put op.dst (.slice sa l.length sc)) y.w)(hs:a.eval s=.slice (some ⟨w0.heap.size,0,none⟩) 0 0:=by rfl)(hx:a.eval x=.slice ra l.length c:=by rfl)(hinfo:(P.info? E.ty).map (fun i=>(i.zero,i.size,i.bytes))=some (some z,size,bytes):=by kernel_rfl)(hsz:E.size=size:=by rfl)(hzs:z.cells.size=size:=by rfl)(h0:0<size:=by decide)(hby:bytes≤1000:=by decide):wpList P ops Q (op::rest) a (w0.alloc (.cells #[] E.ty)):=by
 subst hsz
 refine J9 (t:=t) (enc:=E.enc) (w0:=w0) (z:=z) (size:=E.size) (bytes:=bytes) (n:=0) (l:=[]) hgd s x ho ht hinfo hzs h0 hby hs hx hq.nilcap rfl rfl (Own.emptyAt E.encLen nl (by first|rfl|(simp;done))) (hq.keep ⟨g.out.size,fun b _ h=>g.out.block b h⟩).slF E.one (by omega) ?_
 intro sa sc y ho2 _
 rw[List.nil_append]at ho2
 have:=h sa sc y (D0.of ho2 hq.goods (0,0))
 rwa[Nat.zero_add]
section
variable {P:Program} {w:World}
theorem bl8(base:Nat)(t ty e:TypeId)(i:TypeInfo)(z:Value)(size bytes:Nat)(ht:P.underlying t=some (.slice e))(hi:P.info? e=some i)(hz:i.zero=some z)
  (hsize:i.size=size) (hby:i.bytes=bytes)
  (v:Value) (n:Nat) (xs:List Value) (hown:w.ownsRow base e size v n xs)
  (a:Addr) (m c:Nat) (news:List Value) (hl:news.length=m*size) (hnews:∀ j u,news[j]?=some u→w.cell? (a.add j)=some u) (h1:∀ u∈news,u.oneCell'=true)
  (h63:n+m≤maxLen) (hbytes:(n+m)*bytes≤140737488355328) {v':Value} {w':World}
  (hr:(Builtin.append_ #[t,t] ty #[v,.slice (some a) m c]).run P w=.ok v' w'):v'.ownBlock=v.ownBlock∨v'.ownBlock=some w.heap.size:=by
 subst hsize
 subst hby
 have hsmall:n+m≤9223372036854775807:=by simp only[maxLen]at h63;omega
 rcases hown.2 with⟨rfl,rfl⟩|⟨g,cap,cur,rfl,hbg,hg,hnc,hcm,hcs,htake⟩
 ·by_cases hm:m=0
  ·subst hm
   have hn:news=[]:=List.eq_nil_of_length_eq_zero (by simpa using hl)
   subst hn
   have hr2:(Builtin.append_ #[t,t] ty #[.slice none 0 0,.slice (some a) 0 c]).run P w=.ok (.slice none 0 0) w:=by
    simp[Builtin.append_,run_underlying ht,sizeOf,typeInfo,hi,Builtin.lenOf,Builtin.firstCells,loadCells,loadCellsFrom]
   have:=hr.symm.trans hr2
   injection this with e1 _
   exact .inl (by rw[e1])
  ·have hr2:=run_append_nil (P:=P) w t ty e i z ht hi hz a m c news hl hnews (by omega) (by omega) (by have hb:=hbytes;simp only[Nat.zero_add]at hb;omega)
   have:=hr.symm.trans hr2
   injection this with e1 _
   exact .inr (by rw[e1];rfl)
 ·by_cases hroom:n+m≤cap
  ·have hfit:n*i.size+news.length≤cur.size:=by rw[hl,hcs,← Nat.add_mul];exact Nat.mul_le_mul_right _ hroom
   have hr2:=run_append_room (P:=P) w t ty e i ht hi g n cap cur hg a m c news hl hnews h1 hroom hfit
   have:=hr.symm.trans hr2
   injection this with e1 _
   exact .inl (by rw[e1];rfl)
  ·have holds:∀ j u,xs[j]?=some u→w.cell? ((⟨g,0,none⟩:Addr).add j)=some u:=hown.cells (g:=g) rfl
   have hr2:=run_append_grow (P:=P) w t ty e i z ht hi hz ⟨g,0,none⟩ n cap xs hown.1 holds a m c news hl hnews (by omega) (by omega) (growslice_fits (by omega) hbytes)
   have:=hr.symm.trans hr2
   injection this with e1 _
   exact .inr (by rw[e1];rfl)
variable {o:Oper} {a:Act} {K:Act→World→Prop} {Q:Exit→Act→World→Prop} {α:Type} {enc:α→List Value} {T size:Nat}
theorem bz4{w0:World}{T1:TypeId}{cs:Array Value}{t:TypeId}{bytes:Nat}{z:Value}(y:α)
  (s x:Operand) (ho:o.op=.call { callee:=.builtin .append,args:=#[s,x],argTypes:=#[t,t] })
  (ht:P.underlying t=some (.slice T)) (hinfo:(P.info? T).map (fun i=>(i.zero,i.size,i.bytes))=some (some z,size,bytes)) (hzs:z.cells.size=size) (hsz:0<size) (hby:bytes≤1000)
  {l:List α} {n:Nat} {sa:Option Addr} {sc:Nat} (hs:a.eval s=.slice sa n sc) {xb:Nat} (hx:a.eval x=.slice (some ⟨xb,0,none⟩) 1 1) (hn:l.length=n) {B:Nat} (hown:Own enc T size B w sa sc l)
  (hxc:w.heap[xb]?=some (.cells cs T1 (0,0))) (hy:cs.toList=enc y) (h1:∀ u∈enc y,u.oneCell'=true) (hb:n≤1000000000) (hB:B≤w.heap.size) (g:d5 w0 w) (hB0:w0.heap.size≤B)
  (h:∀ (sa':Option Addr) (sc':Nat) (x':b5 w0),Own enc T size B x'.w sa' sc' (l++[y])→w.grownBy x'.w (Value.ownBlock (.slice sa n sc))→(I5 sa'=I5 sa∨I5 sa'=some w.heap.size)→K (a.put o.dst (.slice sa' (n+1) sc')) x'.w) :
  Oper.wp P o a w K Q:=by
 obtain⟨i,hi,h3⟩:=Option.map_eq_some_iff.1 hinfo
 simp only[Prod.mk.injEq]at h3
 obtain⟨h4,h5,h6⟩:=h3
 subst hn
 have hb':(l.length+1)*bytes≤140737488355328:=by
  have:(l.length+1)*bytes≤(l.length+1)*1000:=Nat.mul_le_mul_left _ hby
  omega
 have hnl:(enc y).length=1*size:=by rw[hown.1];omega
 have hnews:∀ (j:Nat) (u:Value),(enc y)[j]?=some u→w.cell? ((⟨xb,0,none⟩:Addr).add j)=some u:=fun j u hj=>by
  have e:(⟨xb,0,none⟩:Addr).add j=⟨xb,j,none⟩:=by
   unfold Addr.add;split
   ·rename_i h;rw[h]
   ·simp
  rw[e]
  rw[← hy,Array.getElem?_toList]at hj
  simp[World.cell?,hxc,hj]
 obtain⟨v',w',hr,ho',hg',-⟩:=run_append_own (P:=P) w B t o.type T i z size bytes ht hi h4 h5 h6 hzs hsz _ l.length (l.flatMap enc) hown.2 ⟨xb,0,none⟩ 1 1 (enc y) hnl hnews h1 (by unfold maxLen;omega) hb' hB
 have hblk:=bl8 B t o.type T i z size bytes ht hi h4 h5 h6 _ l.length (l.flatMap enc) hown.2 ⟨xb,0,none⟩ 1 1 (enc y) hnl hnews h1 (by unfold maxLen;omega) hb' hr
 have hlt:=hown.2.lt
 have hbel:Below w0.heap.size w0 w':=g.out.grown hg' g.out.size (fun k hk=>Nat.le_trans hB0 (hlt k hk).1)
 have hf:aP0 v' (l.length+1):=by
  rcases ho'.2 with⟨hv,hn0⟩|⟨g',cap,cur,hv,-⟩
  ·omega
  ·exact⟨_,_,hv⟩
 obtain⟨sa',sc',rfl⟩:=hf
 rw[E8,E8]at hblk
 unfold Oper.wp execOp
 simp only[ho,resolve,invoke,builtin,Sem.run_bind,Sem.run_pure,Result.andThen_ok,List.map_toArray,List.map_cons,List.map_nil,hs,hx,hr]
 refine h sa' sc' ⟨w',hbel⟩ ⟨hown.1,?_⟩ hg' hblk
 rw[List.flatMap_append,List.flatMap_singleton,List.length_append,List.length_singleton];exact ho'
theorem X9{ops':Array Oper}{rest:List Oper}{w0:World}{T1:TypeId}{cs:Array Value}{t:TypeId}{bytes:Nat}{z:Value}(y:α)(hgd:o.guard=none)
  (s x:Operand) (ho:o.op=.call { callee:=.builtin .append,args:=#[s,x],argTypes:=#[t,t] })
  (ht:P.underlying t=some (.slice T)) (hinfo:(P.info? T).map (fun i=>(i.zero,i.size,i.bytes))=some (some z,size,bytes)) (hzs:z.cells.size=size) (hsz:0<size) (hby:bytes≤1000)
  {l:List α} {n:Nat} {sa:Option Addr} {sc:Nat} (hs:a.eval s=.slice sa n sc) {xb:Nat} (hx:a.eval x=.slice (some ⟨xb,0,none⟩) 1 1) (hn:l.length=n) {B:Nat} (hown:Own enc T size B w sa sc l)
  (hxc:w.heap[xb]?=some (.cells cs T1 (0,0))) (hy:cs.toList=enc y) (h1:∀ u∈enc y,u.oneCell'=true) (hb:n≤1000000000) (hB:B≤w.heap.size) (g:d5 w0 w) (hB0:w0.heap.size≤B)
  (h:∀ (sa':Option Addr) (sc':Nat) (x':b5 w0),Own enc T size B x'.w sa' sc' (l++[y])→w.grownBy x'.w (Value.ownBlock (.slice sa n sc))→(I5 sa'=I5 sa∨I5 sa'=some w.heap.size)→wpList P ops' Q rest (a.put o.dst (.slice sa' (n+1) sc')) x'.w) :
  wpList P ops' Q (o::rest) a w :=
 wpList_plain hgd fun _ hK=>bz4 (w0:=w0) y s x ho ht hinfo hzs hsz hby hs hx hn hown hxc hy h1 hb hB g hB0 fun sa' sc' x' h2 h3 h4=>hK _ _ (h sa' sc' x' h2 h3 h4)
theorem bP0{ops:Array Oper}(hw:Region.wanted o (yielded ops a.tmps)=true){E:Prop}{w0:World}{T1:TypeId}{cs:Array Value}{t:TypeId}{bytes:Nat}{z:Value}(y:α)
  (s x:Operand) (ho:o.op=.call { callee:=.builtin .append,args:=#[s,x],argTypes:=#[t,t] })
  (ht:P.underlying t=some (.slice T)) (hinfo:(P.info? T).map (fun i=>(i.zero,i.size,i.bytes))=some (some z,size,bytes)) (hzs:z.cells.size=size) (hsz:0<size) (hby:bytes≤1000)
  {l:List α} {n:Nat} {sa:Option Addr} {sc:Nat} (hs:a.eval s=.slice sa n sc) {xb:Nat} (hx:a.eval x=.slice (some ⟨xb,0,none⟩) 1 1) (hn:l.length=n) {B:Nat} (hown:Own enc T size B w sa sc l)
  (hxc:w.heap[xb]?=some (.cells cs T1 (0,0))) (hy:cs.toList=enc y) (h1:∀ u∈enc y,u.oneCell'=true) (hb:n≤1000000000) (hB:B≤w.heap.size) (g:d5 w0 w) (hB0:w0.heap.size≤B)
  (h:∀ (sa':Option Addr) (sc':Nat) (x':b5 w0),Own enc T size B x'.w sa' sc' (l++[y])→w.grownBy x'.w (Value.ownBlock (.slice sa n sc))→(I5 sa'=I5 sa∨I5 sa'=some w.heap.size)→K (a.put o.dst (.slice sa' (n+1) sc')) x'.w) :
  if Region.wanted o (yielded ops a.tmps)=true then Oper.wp P o a w K Q else E:=by
 rw[if_pos hw]
 exact bz4 (w0:=w0) y s x ho ht hinfo hzs hsz hby hs hx hn hown hxc hy h1 hb hB g hB0 h
end
theorem aV8{B:Nat}{vs:List Value}{x:J0}{w:World}(h:Enc.Rd B w vs x)(ht:Enc.tot x≤100000000) :
  Calls Tryz.prog 201 #[.agg vs.toArray] w (U0 w x):=by
 obtain⟨a0,c0,a1,c1,rfl,q0,q1,hok⟩:=h
 have HT:=lH (show x.Records.length≤100000000∧x.Dropped.length≤100000000∧True from by
  have:Enc.tot x=d7 x.Records+d7 x.Dropped:=rfl
  have:=b7 x.Records;have:=d9 x.Records
  have:=b7 x.Dropped;have:=d9 x.Dropped
  refine⟨?_,?_,trivial⟩<;>omega)
 have HT0:=lH ht;clear ht
 have HQ0:=lH q0;clear q0
 have HQ1:=lH q1;clear q1
 have HOK:=lH hok;clear hok
 have S0:=lH ((i9.new w [.int .i64 x.Room,.slice a0 x.Records.length c0,.slice a1 x.Dropped.length c1] 82 w.heap.size rfl).to (ii:d5 _ ((w.alloc (.cells #[.int .i64 x.Room,.slice a0 x.Records.length c0,.slice a1 x.Dropped.length c1] 82)).alloc (.cells #[.int .i64 0,.slice none 0 0,.slice none 0 0] 82))))
 have R0:=lH ((i9.new (w.alloc (.cells #[.int .i64 x.Room,.slice a0 x.Records.length c0,.slice a1 x.Dropped.length c1] 82)) [.int .i64 0,.slice none 0 0,.slice none 0 0] 82 (w.heap.size+1) (by simp)).to (ii:d5 _ ((w.alloc (.cells #[.int .i64 x.Room,.slice a0 x.Records.length c0,.slice a1 x.Dropped.length c1] 82)).alloc (.cells #[.int .i64 0,.slice none 0 0,.slice none 0 0] 82))))
 go_enter Tryz.func201,Tryz.ntmps201
 go_wp2_with (first|(refine f8 rfl _ _ rfl w.heap.size 1 rfl (S0.out.to ii) _ rfl _ Tryz.underlying73 rfl ?_))
 refine(at4 (HQ0.out.keep ii) (HT.out.1)).mono ?_
 rintro _ _ ⟨na0,nc0,rfl,no0,y0,rfl⟩
 have O0:=lH no0;clear no0
 go_wp2_with (first|(refine sS rfl _ _ _ rfl (w.heap.size) 1 rfl (us:=[.slice na0 x.Records.length nc0]) (cs2:=[.int .i64 x.Room,.slice na0 x.Records.length nc0,.slice a1 x.Dropped.length c1]) (S0.out.to ii) rfl kr rfl nb kr (w0:=w) ii (by simp) ?_;intro z1 HZ1 KQ1;have K1:=KQ1;have RZ1:=lH ((R0.out.to ii).but KQ1.out (by omega));clear KQ1;have e1:LeN (w.heap.size+2) z1.w.heap.size:=⟨RZ1.out.lt⟩;clear R0 S0)|(refine f8 rfl _ _ rfl w.heap.size 2 rfl (HZ1.out.to ii) _ rfl _ Tryz.underlying46 rfl ?_))
 refine(at3 (HQ1.out.keep ii) (HT.out.2.1)).mono ?_
 rintro _ _ ⟨na1,nc1,rfl,no1,y1,rfl⟩
 have O1:=lH no1;clear no1
 go_wp2_with (first|(refine sS rfl _ _ _ rfl (w.heap.size) 2 rfl (us:=[.slice na1 x.Dropped.length nc1]) (cs2:=[.int .i64 x.Room,.slice na0 x.Records.length nc0,.slice na1 x.Dropped.length nc1]) (HZ1.out.to ii) rfl kr rfl nb kr (w0:=w) ii (by simp) ?_;intro z2 HZ2 KQ2;have K2:=KQ2;have RZ2:=lH ((RZ1.out.to ii).but KQ2.out (by omega));clear KQ2;have e2:LeN (w.heap.size+2) z2.w.heap.size:=⟨RZ2.out.lt⟩;clear HZ1 RZ1)|(refine f7 rfl _ _ rfl (w.heap.size) 0 rfl (row:=[.int .i64 x.Room,.slice na0 x.Records.length nc0,.slice na1 x.Dropped.length nc1]) (HZ2.out.to ii) _ Tryz.underlying82 rfl kr kr ?_)|(refine sS rfl _ _ _ rfl (w.heap.size+1) 0 rfl (us:=[.int .i64 x.Room,.slice na0 x.Records.length nc0,.slice na1 x.Dropped.length nc1]) (cs2:=[.int .i64 x.Room,.slice na0 x.Records.length nc0,.slice na1 x.Dropped.length nc1]) (RZ2.out.to ii) rfl kr rfl nb kr (w0:=w) ii (by simp) ?_;intro zr HR KQr;have KR:=KQr;clear KQr))
 have GZ2:b8 (w.heap.size+2) z2.w zr.w:=KR.out.keeps (by omega)
 have GY1:b8 (w.heap.size+2) y1.w zr.w:=b8.trans (K2.out.keeps (by omega)) GZ2
 have GZ1:b8 (w.heap.size+2) z1.w zr.w:=b8.trans (ii:b8 (w.heap.size+2) z1.w y1.w) GY1
 have GY0:b8 (w.heap.size+2) y0.w zr.w:=b8.trans (K1.out.keeps (by omega)) GZ1
 obtain⟨D,hD⟩:∃ D:List (Nat × Nat × (Nat→Col)),D=[(y0.w.heap.size,0,(fun _=>(0,0))),(y1.w.heap.size,1,(fun _=>(0,0)))]:=⟨_,rfl⟩
 have e0:D[0]?=some (y0.w.heap.size,0,(fun _=>(0,0))):=by rw[hD];rfl
 have e1:D[1]?=some (y1.w.heap.size,1,(fun _=>(0,0))):=by rw[hD];rfl
 clear hD
 have P0:∀ b,s5 D b=s5 (D.drop 0) b:=fun _=>rfl
 have C0:∀ b,((w.alloc (.cells #[.int .i64 x.Room,.slice a0 x.Records.length c0,.slice a1 x.Dropped.length c1] 82)).alloc (.cells #[.int .i64 0,.slice none 0 0,.slice none 0 0] 82)).heap.size≤b→b<y0.w.heap.size→s5 D b=D3 0 ((fun _=>(0,0)) b):=fun b h1 h2=>(P0 b).trans (i8 e0 h2)
 have P1:∀ b,y0.w.heap.size≤b→s5 D b=s5 (D.drop 1) b:=fun b hb=>(P0 b).trans (f6 e0 hb)
 have C1:∀ b,z1.w.heap.size≤b→b<y1.w.heap.size→s5 D b=D3 1 ((fun _=>(0,0)) b):=fun b h1 h2=>(P1 b (Nat.le_trans K1.out.size h1)).trans (i8 e1 h2)
 refine bodyPost_ret (v:=.agg #[.int .i64 x.Room,.slice na0 x.Records.length nc0,.slice na1 x.Dropped.length nc1]) (F7 (P:=Tryz.prog) rfl rfl HR.out _ Tryz.underlying82 rfl kr) rfl ⟨[.int .i64 x.Room,.slice na0 x.Records.length nc0,.slice na1 x.Dropped.length nc1],s5 D,rfl,⟨na0,nc0,na1,nc1,rfl,⟨((((O0.out.re C0).mono (LeN.out (a:=w.heap.size+2))).keep GY0).mono (by omega)),((((O1.out.re C1).mono (LeN.out (a:=w.heap.size+2))).keep GY1).mono (by omega)),HOK.out⟩⟩,b5.of⟩
theorem bh4{B:Nat}{vs:List Value}{x:R6}{w:World}(h:Enc.Rd B w vs x)(ht:Enc.tot x≤100000000) :
  Calls Tryz.prog 104 #[.agg vs.toArray] w (U0 w x):=by
 obtain⟨a0,c0,rfl,q0,hok⟩:=h
 have HT:=lH (show x.Waiting.length≤100000000∧True from by
  have:Enc.tot x=d7 x.Waiting:=rfl
  have:=b7 x.Waiting;have:=d9 x.Waiting
  refine⟨?_,trivial⟩<;>omega)
 have HT0:=lH ht;clear ht
 have HQ0:=lH q0;clear q0
 have HOK:=lH hok;clear hok
 have S0:=lH ((i9.new w [.int .i64 x.Next,.int .i64 x.Window,.slice a0 x.Waiting.length c0,.int .i64 x.Done] 69 w.heap.size rfl).to (ii:d5 _ ((w.alloc (.cells #[.int .i64 x.Next,.int .i64 x.Window,.slice a0 x.Waiting.length c0,.int .i64 x.Done] 69)).alloc (.cells #[.int .i64 0,.int .i64 0,.slice none 0 0,.int .i64 0] 69))))
 have R0:=lH ((i9.new (w.alloc (.cells #[.int .i64 x.Next,.int .i64 x.Window,.slice a0 x.Waiting.length c0,.int .i64 x.Done] 69)) [.int .i64 0,.int .i64 0,.slice none 0 0,.int .i64 0] 69 (w.heap.size+1) (by simp)).to (ii:d5 _ ((w.alloc (.cells #[.int .i64 x.Next,.int .i64 x.Window,.slice a0 x.Waiting.length c0,.int .i64 x.Done] 69)).alloc (.cells #[.int .i64 0,.int .i64 0,.slice none 0 0,.int .i64 0] 69))))
 go_enter Tryz.func104,Tryz.ntmps104
 go_wp2_with (first|(refine f8 rfl _ _ rfl w.heap.size 2 rfl (S0.out.to ii) _ rfl _ Tryz.underlying67 rfl ?_))
 refine(bp0 (HQ0.out.keep ii) (HT.out.1)).mono ?_
 rintro _ _ ⟨na0,nc0,rfl,no0,y0,rfl⟩
 have O0:=lH no0;clear no0
 go_wp2_with (first|(refine sS rfl _ _ _ rfl (w.heap.size) 2 rfl (us:=[.slice na0 x.Waiting.length nc0]) (cs2:=[.int .i64 x.Next,.int .i64 x.Window,.slice na0 x.Waiting.length nc0,.int .i64 x.Done]) (S0.out.to ii) rfl kr rfl nb kr (w0:=w) ii (by simp) ?_;intro z1 HZ1 KQ1;have K1:=KQ1;have RZ1:=lH ((R0.out.to ii).but KQ1.out (by omega));clear KQ1;have e1:LeN (w.heap.size+2) z1.w.heap.size:=⟨RZ1.out.lt⟩;clear R0 S0)|(refine f7 rfl _ _ rfl (w.heap.size) 0 rfl (row:=[.int .i64 x.Next,.int .i64 x.Window,.slice na0 x.Waiting.length nc0,.int .i64 x.Done]) (HZ1.out.to ii) _ Tryz.underlying69 rfl kr kr ?_)|(refine sS rfl _ _ _ rfl (w.heap.size+1) 0 rfl (us:=[.int .i64 x.Next,.int .i64 x.Window,.slice na0 x.Waiting.length nc0,.int .i64 x.Done]) (cs2:=[.int .i64 x.Next,.int .i64 x.Window,.slice na0 x.Waiting.length nc0,.int .i64 x.Done]) (RZ1.out.to ii) rfl kr rfl nb kr (w0:=w) ii (by simp) ?_;intro zr HR KQr;have KR:=KQr;clear KQr))
 have GZ1:b8 (w.heap.size+2) z1.w zr.w:=KR.out.keeps (by omega)
 have GY0:b8 (w.heap.size+2) y0.w zr.w:=b8.trans (K1.out.keeps (by omega)) GZ1
 obtain⟨D,hD⟩:∃ D:List (Nat × Nat × (Nat→Col)),D=[(y0.w.heap.size,0,(fun _=>(0,0)))]:=⟨_,rfl⟩
 have e0:D[0]?=some (y0.w.heap.size,0,(fun _=>(0,0))):=by rw[hD];rfl
 clear hD
 have P0:∀ b,s5 D b=s5 (D.drop 0) b:=fun _=>rfl
 have C0:∀ b,((w.alloc (.cells #[.int .i64 x.Next,.int .i64 x.Window,.slice a0 x.Waiting.length c0,.int .i64 x.Done] 69)).alloc (.cells #[.int .i64 0,.int .i64 0,.slice none 0 0,.int .i64 0] 69)).heap.size≤b→b<y0.w.heap.size→s5 D b=D3 0 ((fun _=>(0,0)) b):=fun b h1 h2=>(P0 b).trans (i8 e0 h2)
 refine bodyPost_ret (v:=.agg #[.int .i64 x.Next,.int .i64 x.Window,.slice na0 x.Waiting.length nc0,.int .i64 x.Done]) (F7 (P:=Tryz.prog) rfl rfl HR.out _ Tryz.underlying69 rfl kr) rfl ⟨[.int .i64 x.Next,.int .i64 x.Window,.slice na0 x.Waiting.length nc0,.int .i64 x.Done],s5 D,rfl,⟨na0,nc0,rfl,⟨((((O0.out.re C0).mono (LeN.out (a:=w.heap.size+2))).keep GY0).mono (by omega)),HOK.out⟩⟩,b5.of⟩
theorem bh3{B:Nat}{vs:List Value}{x:R5}{w:World}(h:Enc.Rd B w vs x)(ht:Enc.tot x≤100000000) :
  Calls Tryz.prog 111 #[.agg vs.toArray] w (U0 w x):=by
 obtain⟨a0,c0,rfl,q0,hok⟩:=h
 have HT:=lH (show x.Starts.length≤100000000∧True from by
  have:Enc.tot x=(x.Rest.size:Int)+d7 x.Starts:=rfl
  have:=b7 x.Starts;have:=d9 x.Starts
  refine⟨?_,trivial⟩<;>omega)
 have HT0:=lH ht;clear ht
 have HQ0:=lH q0;clear q0
 have HOK:=lH hok;clear hok
 have S0:=lH ((i9.new w [.int .i64 x.Channel,.int .i64 x.Count,.string x.Rest,.slice a0 x.Starts.length c0] 85 w.heap.size rfl).to (ii:d5 _ ((w.alloc (.cells #[.int .i64 x.Channel,.int .i64 x.Count,.string x.Rest,.slice a0 x.Starts.length c0] 85)).alloc (.cells #[.int .i64 0,.int .i64 0,.string ⟨#[]⟩,.slice none 0 0] 85))))
 have R0:=lH ((i9.new (w.alloc (.cells #[.int .i64 x.Channel,.int .i64 x.Count,.string x.Rest,.slice a0 x.Starts.length c0] 85)) [.int .i64 0,.int .i64 0,.string ⟨#[]⟩,.slice none 0 0] 85 (w.heap.size+1) (by simp)).to (ii:d5 _ ((w.alloc (.cells #[.int .i64 x.Channel,.int .i64 x.Count,.string x.Rest,.slice a0 x.Starts.length c0] 85)).alloc (.cells #[.int .i64 0,.int .i64 0,.string ⟨#[]⟩,.slice none 0 0] 85))))
 go_enter Tryz.func111,Tryz.ntmps111
 go_wp2_with (first|(refine f8 rfl _ _ rfl w.heap.size 3 rfl (S0.out.to ii) _ rfl _ Tryz.underlying46 rfl ?_))
 refine(at3 (HQ0.out.keep ii) (HT.out.1)).mono ?_
 rintro _ _ ⟨na0,nc0,rfl,no0,y0,rfl⟩
 have O0:=lH no0;clear no0
 go_wp2_with (first|(refine sS rfl _ _ _ rfl (w.heap.size) 3 rfl (us:=[.slice na0 x.Starts.length nc0]) (cs2:=[.int .i64 x.Channel,.int .i64 x.Count,.string x.Rest,.slice na0 x.Starts.length nc0]) (S0.out.to ii) rfl kr rfl nb kr (w0:=w) ii (by simp) ?_;intro z1 HZ1 KQ1;have K1:=KQ1;have RZ1:=lH ((R0.out.to ii).but KQ1.out (by omega));clear KQ1;have e1:LeN (w.heap.size+2) z1.w.heap.size:=⟨RZ1.out.lt⟩;clear R0 S0)|(refine f7 rfl _ _ rfl (w.heap.size) 0 rfl (row:=[.int .i64 x.Channel,.int .i64 x.Count,.string x.Rest,.slice na0 x.Starts.length nc0]) (HZ1.out.to ii) _ Tryz.underlying85 rfl kr kr ?_)|(refine sS rfl _ _ _ rfl (w.heap.size+1) 0 rfl (us:=[.int .i64 x.Channel,.int .i64 x.Count,.string x.Rest,.slice na0 x.Starts.length nc0]) (cs2:=[.int .i64 x.Channel,.int .i64 x.Count,.string x.Rest,.slice na0 x.Starts.length nc0]) (RZ1.out.to ii) rfl kr rfl nb kr (w0:=w) ii (by simp) ?_;intro zr HR KQr;have KR:=KQr;clear KQr))
 have GZ1:b8 (w.heap.size+2) z1.w zr.w:=KR.out.keeps (by omega)
 have GY0:b8 (w.heap.size+2) y0.w zr.w:=b8.trans (K1.out.keeps (by omega)) GZ1
 obtain⟨D,hD⟩:∃ D:List (Nat × Nat × (Nat→Col)),D=[(y0.w.heap.size,0,(fun _=>(0,0)))]:=⟨_,rfl⟩
 have e0:D[0]?=some (y0.w.heap.size,0,(fun _=>(0,0))):=by rw[hD];rfl
 clear hD
 have P0:∀ b,s5 D b=s5 (D.drop 0) b:=fun _=>rfl
 have C0:∀ b,((w.alloc (.cells #[.int .i64 x.Channel,.int .i64 x.Count,.string x.Rest,.slice a0 x.Starts.length c0] 85)).alloc (.cells #[.int .i64 0,.int .i64 0,.string ⟨#[]⟩,.slice none 0 0] 85)).heap.size≤b→b<y0.w.heap.size→s5 D b=D3 0 ((fun _=>(0,0)) b):=fun b h1 h2=>(P0 b).trans (i8 e0 h2)
 refine bodyPost_ret (v:=.agg #[.int .i64 x.Channel,.int .i64 x.Count,.string x.Rest,.slice na0 x.Starts.length nc0]) (F7 (P:=Tryz.prog) rfl rfl HR.out _ Tryz.underlying85 rfl kr) rfl ⟨[.int .i64 x.Channel,.int .i64 x.Count,.string x.Rest,.slice na0 x.Starts.length nc0],s5 D,rfl,⟨na0,nc0,rfl,⟨((((O0.out.re C0).mono (LeN.out (a:=w.heap.size+2))).keep GY0).mono (by omega)),HOK.out⟩⟩,b5.of⟩
theorem bh2{B:Nat}{vs:List Value}{x:D4}{w:World}(h:Enc.Rd B w vs x)(ht:Enc.tot x≤100000000) :
  Calls Tryz.prog 108 #[.agg vs.toArray] w (U0 w x):=by
 obtain⟨a0,c0,rfl,q0,hok⟩:=h
 have HT:=lH (show x.Parts.length≤100000000∧True from by
  have:Enc.tot x=d7 x.Parts:=rfl
  have:=b7 x.Parts;have:=d9 x.Parts
  refine⟨?_,trivial⟩<;>omega)
 have HT0:=lH ht;clear ht
 have HQ0:=lH q0;clear q0
 have HOK:=lH hok;clear hok
 have S0:=lH ((i9.new w [.int .i64 x.File,.int .i64 x.Size,.int .i64 x.Check,.slice a0 x.Parts.length c0] 150 w.heap.size rfl).to (ii:d5 _ ((w.alloc (.cells #[.int .i64 x.File,.int .i64 x.Size,.int .i64 x.Check,.slice a0 x.Parts.length c0] 150)).alloc (.cells #[.int .i64 0,.int .i64 0,.int .i64 0,.slice none 0 0] 150))))
 have R0:=lH ((i9.new (w.alloc (.cells #[.int .i64 x.File,.int .i64 x.Size,.int .i64 x.Check,.slice a0 x.Parts.length c0] 150)) [.int .i64 0,.int .i64 0,.int .i64 0,.slice none 0 0] 150 (w.heap.size+1) (by simp)).to (ii:d5 _ ((w.alloc (.cells #[.int .i64 x.File,.int .i64 x.Size,.int .i64 x.Check,.slice a0 x.Parts.length c0] 150)).alloc (.cells #[.int .i64 0,.int .i64 0,.int .i64 0,.slice none 0 0] 150))))
 go_enter Tryz.func108,Tryz.ntmps108
 go_wp2_with (first|(refine f8 rfl _ _ rfl w.heap.size 3 rfl (S0.out.to ii) _ rfl _ Tryz.underlying30 rfl ?_))
 refine(ae7 (HQ0.out.keep ii) (HT.out.1)).mono ?_
 rintro _ _ ⟨na0,nc0,rfl,no0,y0,rfl⟩
 have O0:=lH no0;clear no0
 go_wp2_with (first|(refine sS rfl _ _ _ rfl (w.heap.size) 3 rfl (us:=[.slice na0 x.Parts.length nc0]) (cs2:=[.int .i64 x.File,.int .i64 x.Size,.int .i64 x.Check,.slice na0 x.Parts.length nc0]) (S0.out.to ii) rfl kr rfl nb kr (w0:=w) ii (by simp) ?_;intro z1 HZ1 KQ1;have K1:=KQ1;have RZ1:=lH ((R0.out.to ii).but KQ1.out (by omega));clear KQ1;have e1:LeN (w.heap.size+2) z1.w.heap.size:=⟨RZ1.out.lt⟩;clear R0 S0)|(refine f7 rfl _ _ rfl (w.heap.size) 0 rfl (row:=[.int .i64 x.File,.int .i64 x.Size,.int .i64 x.Check,.slice na0 x.Parts.length nc0]) (HZ1.out.to ii) _ Tryz.underlying150 rfl kr kr ?_)|(refine sS rfl _ _ _ rfl (w.heap.size+1) 0 rfl (us:=[.int .i64 x.File,.int .i64 x.Size,.int .i64 x.Check,.slice na0 x.Parts.length nc0]) (cs2:=[.int .i64 x.File,.int .i64 x.Size,.int .i64 x.Check,.slice na0 x.Parts.length nc0]) (RZ1.out.to ii) rfl kr rfl nb kr (w0:=w) ii (by simp) ?_;intro zr HR KQr;have KR:=KQr;clear KQr))
 have GZ1:b8 (w.heap.size+2) z1.w zr.w:=KR.out.keeps (by omega)
 have GY0:b8 (w.heap.size+2) y0.w zr.w:=b8.trans (K1.out.keeps (by omega)) GZ1
 obtain⟨D,hD⟩:∃ D:List (Nat × Nat × (Nat→Col)),D=[(y0.w.heap.size,0,(fun _=>(0,0)))]:=⟨_,rfl⟩
 have e0:D[0]?=some (y0.w.heap.size,0,(fun _=>(0,0))):=by rw[hD];rfl
 clear hD
 have P0:∀ b,s5 D b=s5 (D.drop 0) b:=fun _=>rfl
 have C0:∀ b,((w.alloc (.cells #[.int .i64 x.File,.int .i64 x.Size,.int .i64 x.Check,.slice a0 x.Parts.length c0] 150)).alloc (.cells #[.int .i64 0,.int .i64 0,.int .i64 0,.slice none 0 0] 150)).heap.size≤b→b<y0.w.heap.size→s5 D b=D3 0 ((fun _=>(0,0)) b):=fun b h1 h2=>(P0 b).trans (i8 e0 h2)
 refine bodyPost_ret (v:=.agg #[.int .i64 x.File,.int .i64 x.Size,.int .i64 x.Check,.slice na0 x.Parts.length nc0]) (F7 (P:=Tryz.prog) rfl rfl HR.out _ Tryz.underlying150 rfl kr) rfl ⟨[.int .i64 x.File,.int .i64 x.Size,.int .i64 x.Check,.slice na0 x.Parts.length nc0],s5 D,rfl,⟨na0,nc0,rfl,⟨((((O0.out.re C0).mono (LeN.out (a:=w.heap.size+2))).keep GY0).mono (by omega)),HOK.out⟩⟩,b5.of⟩
theorem bc0{B:Nat}{vs:List Value}{x:j7}{w:World}(h:Enc.Rd B w vs x)(ht:Enc.tot x≤100000000) :
  Calls Tryz.prog 113 #[.agg vs.toArray] w (U0 w x):=by
 obtain⟨a0,c0,rfl,q0,hok⟩:=h
 have HT:=lH (show x.Queue.length≤100000000∧True from by
  have:Enc.tot x=(x.Data.size:Int)+d7 x.Queue:=rfl
  have:=b7 x.Queue;have:=d9 x.Queue
  refine⟨?_,trivial⟩<;>omega)
 have HT0:=lH ht;clear ht
 have HQ0:=lH q0;clear q0
 have HOK:=lH hok;clear hok
 have S0:=lH ((i9.new w [.int .i64 x.File,.string x.Data,.slice a0 x.Queue.length c0,.bool x.Done] 155 w.heap.size rfl).to (ii:d5 _ ((w.alloc (.cells #[.int .i64 x.File,.string x.Data,.slice a0 x.Queue.length c0,.bool x.Done] 155)).alloc (.cells #[.int .i64 0,.string ⟨#[]⟩,.slice none 0 0,.bool false] 155))))
 have R0:=lH ((i9.new (w.alloc (.cells #[.int .i64 x.File,.string x.Data,.slice a0 x.Queue.length c0,.bool x.Done] 155)) [.int .i64 0,.string ⟨#[]⟩,.slice none 0 0,.bool false] 155 (w.heap.size+1) (by simp)).to (ii:d5 _ ((w.alloc (.cells #[.int .i64 x.File,.string x.Data,.slice a0 x.Queue.length c0,.bool x.Done] 155)).alloc (.cells #[.int .i64 0,.string ⟨#[]⟩,.slice none 0 0,.bool false] 155))))
 go_enter Tryz.func113,Tryz.ntmps113
 go_wp2_with (first|(refine f8 rfl _ _ rfl w.heap.size 2 rfl (S0.out.to ii) _ rfl _ Tryz.underlying46 rfl ?_))
 refine(at3 (HQ0.out.keep ii) (HT.out.1)).mono ?_
 rintro _ _ ⟨na0,nc0,rfl,no0,y0,rfl⟩
 have O0:=lH no0;clear no0
 go_wp2_with (first|(refine sS rfl _ _ _ rfl (w.heap.size) 2 rfl (us:=[.slice na0 x.Queue.length nc0]) (cs2:=[.int .i64 x.File,.string x.Data,.slice na0 x.Queue.length nc0,.bool x.Done]) (S0.out.to ii) rfl kr rfl nb kr (w0:=w) ii (by simp) ?_;intro z1 HZ1 KQ1;have K1:=KQ1;have RZ1:=lH ((R0.out.to ii).but KQ1.out (by omega));clear KQ1;have e1:LeN (w.heap.size+2) z1.w.heap.size:=⟨RZ1.out.lt⟩;clear R0 S0)|(refine f7 rfl _ _ rfl (w.heap.size) 0 rfl (row:=[.int .i64 x.File,.string x.Data,.slice na0 x.Queue.length nc0,.bool x.Done]) (HZ1.out.to ii) _ Tryz.underlying155 rfl kr kr ?_)|(refine sS rfl _ _ _ rfl (w.heap.size+1) 0 rfl (us:=[.int .i64 x.File,.string x.Data,.slice na0 x.Queue.length nc0,.bool x.Done]) (cs2:=[.int .i64 x.File,.string x.Data,.slice na0 x.Queue.length nc0,.bool x.Done]) (RZ1.out.to ii) rfl kr rfl nb kr (w0:=w) ii (by simp) ?_;intro zr HR KQr;have KR:=KQr;clear KQr))
 have GZ1:b8 (w.heap.size+2) z1.w zr.w:=KR.out.keeps (by omega)
 have GY0:b8 (w.heap.size+2) y0.w zr.w:=b8.trans (K1.out.keeps (by omega)) GZ1
 obtain⟨D,hD⟩:∃ D:List (Nat × Nat × (Nat→Col)),D=[(y0.w.heap.size,0,(fun _=>(0,0)))]:=⟨_,rfl⟩
 have e0:D[0]?=some (y0.w.heap.size,0,(fun _=>(0,0))):=by rw[hD];rfl
 clear hD
 have P0:∀ b,s5 D b=s5 (D.drop 0) b:=fun _=>rfl
 have C0:∀ b,((w.alloc (.cells #[.int .i64 x.File,.string x.Data,.slice a0 x.Queue.length c0,.bool x.Done] 155)).alloc (.cells #[.int .i64 0,.string ⟨#[]⟩,.slice none 0 0,.bool false] 155)).heap.size≤b→b<y0.w.heap.size→s5 D b=D3 0 ((fun _=>(0,0)) b):=fun b h1 h2=>(P0 b).trans (i8 e0 h2)
 refine bodyPost_ret (v:=.agg #[.int .i64 x.File,.string x.Data,.slice na0 x.Queue.length nc0,.bool x.Done]) (F7 (P:=Tryz.prog) rfl rfl HR.out _ Tryz.underlying155 rfl kr) rfl ⟨[.int .i64 x.File,.string x.Data,.slice na0 x.Queue.length nc0,.bool x.Done],s5 D,rfl,⟨na0,nc0,rfl,⟨((((O0.out.re C0).mono (LeN.out (a:=w.heap.size+2))).keep GY0).mono (by omega)),HOK.out⟩⟩,b5.of⟩
theorem an2{B:Nat}{vs:List Value}{x:D5}{w:World}(h:Enc.Rd B w vs x)(ht:Enc.tot x≤100000000) :
  Calls Tryz.prog 110 #[.agg vs.toArray] w (U0 w x):=by
 obtain⟨A,rfl,F⟩:=h
 have HT:=lH (show x.Params.length≤100000000∧x.Limits.length≤100000000∧x.Orders.length≤100000000∧x.Done.length≤100000000∧Enc.tot x.Recorder≤100000000∧x.Asked.length≤100000000∧True from by
  have:Enc.tot x=d7 x.Params+d7 x.Limits+d7 x.Orders+d7 x.Done+Enc.tot x.Recorder+d7 x.Asked:=rfl
  have:=b7 x.Params;have:=d9 x.Params
  have:=b7 x.Limits;have:=d9 x.Limits
  have:=b7 x.Orders;have:=d9 x.Orders
  have:=b7 x.Done;have:=d9 x.Done
  have:=Enc.tot_nonneg x.Recorder
  have:Enc.tot x.Recorder=d7 x.Recorder.Records+d7 x.Recorder.Dropped:=rfl
  have:=b7 x.Recorder.Records;have:=d9 x.Recorder.Records
  have:=b7 x.Recorder.Dropped;have:=d9 x.Recorder.Dropped
  have:=b7 x.Asked;have:=d9 x.Asked
  refine⟨?_,?_,?_,?_,?_,?_,trivial⟩<;>omega)
 have HT0:=lH ht;clear ht
 have HFF:=lH F;clear F
 have S0:=lH ((i9.new w (I0 x A) 84 w.heap.size rfl).to (ii:d5 _ ((w.alloc (.cells (I0 x A).toArray 84)).alloc (.cells L6.toArray 84))))
 have R0:=lH ((i9.new (w.alloc (.cells (I0 x A).toArray 84)) L6 84 (w.heap.size+1) (by simp)).to (ii:d5 _ ((w.alloc (.cells (I0 x A).toArray 84)).alloc (.cells L6.toArray 84))))
 go_enter Tryz.func110,Tryz.ntmps110
 go_wp2_with (first|(refine f8 rfl _ _ rfl w.heap.size 1 rfl (S0.out.to ii) _ rfl _ Tryz.underlying46 rfl ?_))
 refine(at3 (HFF.out.q0.keep ii) (HT.out.1)).mono ?_
 rintro _ _ ⟨na0,nc0,rfl,no0,y0,rfl⟩
 have O0:=lH no0;clear no0
 go_wp2_with (first|(refine sS rfl _ _ _ rfl (w.heap.size) 1 rfl (us:=[.slice na0 x.Params.length nc0]) (cs2:=(S5 x na0 nc0 A.a1 A.c1 A.a2 A.c2 A.a3 A.c3 A.a4 A.c4 A.a5 A.c5 A.a6 A.c6)) (S0.out.to ii) rfl kr rfl nb kr (w0:=w) ii (by simp) ?_;intro z1 HZ1 KQ1;have K1:=KQ1;have RZ1:=lH ((R0.out.to ii).but KQ1.out (by omega));clear KQ1;have e1:LeN (w.heap.size+2) z1.w.heap.size:=⟨RZ1.out.lt⟩;clear R0 S0)|(refine f8 rfl _ _ rfl w.heap.size 3 rfl (HZ1.out.to ii) _ rfl _ Tryz.underlying78 rfl ?_))
 refine(bh5 (HFF.out.q1.keep ii) (HT.out.2.1)).mono ?_
 rintro _ _ ⟨na1,nc1,rfl,no1,y1,rfl⟩
 have O1:=lH no1;clear no1
 go_wp2_with (first|(refine sS rfl _ _ _ rfl (w.heap.size) 3 rfl (us:=[.slice na1 x.Limits.length nc1]) (cs2:=(S5 x na0 nc0 na1 nc1 A.a2 A.c2 A.a3 A.c3 A.a4 A.c4 A.a5 A.c5 A.a6 A.c6)) (HZ1.out.to ii) rfl kr rfl nb kr (w0:=w) ii (by simp) ?_;intro z2 HZ2 KQ2;have K2:=KQ2;have RZ2:=lH ((RZ1.out.to ii).but KQ2.out (by omega));clear KQ2;have e2:LeN (w.heap.size+2) z2.w.heap.size:=⟨RZ2.out.lt⟩;clear HZ1 RZ1)|(refine f8 rfl _ _ rfl w.heap.size 4 rfl (HZ2.out.to ii) _ rfl _ Tryz.underlying79 rfl ?_))
 refine(aV9 (HFF.out.q2.keep ii) (HT.out.2.2.1)).mono ?_
 rintro _ _ ⟨na2,nc2,rfl,no2,y2,rfl⟩
 have O2:=lH no2;clear no2
 go_wp2_with (first|(refine sS rfl _ _ _ rfl (w.heap.size) 4 rfl (us:=[.slice na2 x.Orders.length nc2]) (cs2:=(S5 x na0 nc0 na1 nc1 na2 nc2 A.a3 A.c3 A.a4 A.c4 A.a5 A.c5 A.a6 A.c6)) (HZ2.out.to ii) rfl kr rfl nb kr (w0:=w) ii (by simp) ?_;intro z3 HZ3 KQ3;have K3:=KQ3;have RZ3:=lH ((RZ2.out.to ii).but KQ3.out (by omega));clear KQ3;have e3:LeN (w.heap.size+2) z3.w.heap.size:=⟨RZ3.out.lt⟩;clear HZ2 RZ2)|(refine f8 rfl _ _ rfl w.heap.size 5 rfl (HZ3.out.to ii) _ rfl _ Tryz.underlying80 rfl ?_))
 refine(bo9 (HFF.out.q3.keep ii) (HT.out.2.2.2.1)).mono ?_
 rintro _ _ ⟨na3,nc3,rfl,no3,y3,rfl⟩
 have O3:=lH no3;clear no3
 go_wp2_with (first|(refine sS rfl _ _ _ rfl (w.heap.size) 5 rfl (us:=[.slice na3 x.Done.length nc3]) (cs2:=(S5 x na0 nc0 na1 nc1 na2 nc2 na3 nc3 A.a4 A.c4 A.a5 A.c5 A.a6 A.c6)) (HZ3.out.to ii) rfl kr rfl nb kr (w0:=w) ii (by simp) ?_;intro z4 HZ4 KQ4;have K4:=KQ4;have RZ4:=lH ((RZ3.out.to ii).but KQ4.out (by omega));clear KQ4;have e4:LeN (w.heap.size+2) z4.w.heap.size:=⟨RZ4.out.lt⟩;clear HZ3 RZ3)|(refine f7 rfl _ _ rfl w.heap.size 6 rfl (row:=[.int .i64 x.Recorder.Room,.slice A.a4 x.Recorder.Records.length A.c4,.slice A.a5 x.Recorder.Dropped.length A.c5]) (HZ4.out.to ii) _ Tryz.underlying82 rfl kr kr ?_))
 refine(aV8 (x:=x.Recorder) ⟨A.a4,A.c4,A.a5,A.c5,rfl,HFF.out.q4.keep ii,HFF.out.q5.keep ii,HFF.out.ok.2.1⟩ (HT.out.2.2.2.2.1)).mono ?_
 rintro _ _ ⟨_,ch4,rfl,⟨b4a0,b4c0,b4a1,b4c1,rfl,no4⟩,y4,rfl⟩
 have O4:=lH no4;clear no4
 go_wp2_with (first|(refine sS rfl _ _ _ rfl (w.heap.size) 6 rfl (us:=[.int .i64 x.Recorder.Room,.slice b4a0 x.Recorder.Records.length b4c0,.slice b4a1 x.Recorder.Dropped.length b4c1]) (cs2:=(S5 x na0 nc0 na1 nc1 na2 nc2 na3 nc3 b4a0 b4c0 b4a1 b4c1 A.a6 A.c6)) (HZ4.out.to ii) rfl kr rfl nb kr (w0:=w) ii (by simp) ?_;intro z5 HZ5 KQ5;have K5:=KQ5;have RZ5:=lH ((RZ4.out.to ii).but KQ5.out (by omega));clear KQ5;have e5:LeN (w.heap.size+2) z5.w.heap.size:=⟨RZ5.out.lt⟩;clear HZ4 RZ4)|(refine f8 rfl _ _ rfl w.heap.size 11 rfl (HZ5.out.to ii) _ rfl _ Tryz.underlying46 rfl ?_))
 refine(at3 (HFF.out.q6.keep ii) (HT.out.2.2.2.2.2.1)).mono ?_
 rintro _ _ ⟨na6,nc6,rfl,no6,y5,rfl⟩
 have O5:=lH no6;clear no6
 go_wp2_with (first|(refine sS rfl _ _ _ rfl (w.heap.size) 11 rfl (us:=[.slice na6 x.Asked.length nc6]) (cs2:=(S5 x na0 nc0 na1 nc1 na2 nc2 na3 nc3 b4a0 b4c0 b4a1 b4c1 na6 nc6)) (HZ5.out.to ii) rfl kr rfl nb kr (w0:=w) ii (by simp) ?_;intro z6 HZ6 KQ6;have K6:=KQ6;have RZ6:=lH ((RZ5.out.to ii).but KQ6.out (by omega));clear KQ6;have e6:LeN (w.heap.size+2) z6.w.heap.size:=⟨RZ6.out.lt⟩;clear HZ5 RZ5)|(refine f7 rfl _ _ rfl (w.heap.size) 0 rfl (row:=(S5 x na0 nc0 na1 nc1 na2 nc2 na3 nc3 b4a0 b4c0 b4a1 b4c1 na6 nc6)) (HZ6.out.to ii) _ Tryz.underlying84 rfl kr kr ?_)|(refine sS rfl _ _ _ rfl (w.heap.size+1) 0 rfl (us:=(S5 x na0 nc0 na1 nc1 na2 nc2 na3 nc3 b4a0 b4c0 b4a1 b4c1 na6 nc6)) (cs2:=(S5 x na0 nc0 na1 nc1 na2 nc2 na3 nc3 b4a0 b4c0 b4a1 b4c1 na6 nc6)) (RZ6.out.to ii) rfl kr rfl nb kr (w0:=w) ii (by simp) ?_;intro zr HR KQr;have KR:=KQr;clear KQr))
 have GZ6:b8 (w.heap.size+2) z6.w zr.w:=KR.out.keeps (by omega)
 have GY5:b8 (w.heap.size+2) y5.w zr.w:=b8.trans (K6.out.keeps (by omega)) GZ6
 have GZ5:b8 (w.heap.size+2) z5.w zr.w:=b8.trans (ii:b8 (w.heap.size+2) z5.w y5.w) GY5
 have GY4:b8 (w.heap.size+2) y4.w zr.w:=b8.trans (K5.out.keeps (by omega)) GZ5
 have GZ4:b8 (w.heap.size+2) z4.w zr.w:=b8.trans (ii:b8 (w.heap.size+2) z4.w y4.w) GY4
 have GY3:b8 (w.heap.size+2) y3.w zr.w:=b8.trans (K4.out.keeps (by omega)) GZ4
 have GZ3:b8 (w.heap.size+2) z3.w zr.w:=b8.trans (ii:b8 (w.heap.size+2) z3.w y3.w) GY3
 have GY2:b8 (w.heap.size+2) y2.w zr.w:=b8.trans (K3.out.keeps (by omega)) GZ3
 have GZ2:b8 (w.heap.size+2) z2.w zr.w:=b8.trans (ii:b8 (w.heap.size+2) z2.w y2.w) GY2
 have GY1:b8 (w.heap.size+2) y1.w zr.w:=b8.trans (K2.out.keeps (by omega)) GZ2
 have GZ1:b8 (w.heap.size+2) z1.w zr.w:=b8.trans (ii:b8 (w.heap.size+2) z1.w y1.w) GY1
 have GY0:b8 (w.heap.size+2) y0.w zr.w:=b8.trans (K1.out.keeps (by omega)) GZ1
 obtain⟨D,hD⟩:∃ D:List (Nat × Nat × (Nat→Col)),D=[(y0.w.heap.size,0,(fun _=>(0,0))),(y1.w.heap.size,1,(fun _=>(0,0))),(y2.w.heap.size,2,(fun _=>(0,0))),(y3.w.heap.size,3,(fun _=>(0,0))),(y4.w.heap.size,4,ch4),(y5.w.heap.size,6,(fun _=>(0,0)))]:=⟨_,rfl⟩
 have e0:D[0]?=some (y0.w.heap.size,0,(fun _=>(0,0))):=by rw[hD];rfl
 have e1:D[1]?=some (y1.w.heap.size,1,(fun _=>(0,0))):=by rw[hD];rfl
 have e2:D[2]?=some (y2.w.heap.size,2,(fun _=>(0,0))):=by rw[hD];rfl
 have e3:D[3]?=some (y3.w.heap.size,3,(fun _=>(0,0))):=by rw[hD];rfl
 have e4:D[4]?=some (y4.w.heap.size,4,ch4):=by rw[hD];rfl
 have e5:D[5]?=some (y5.w.heap.size,6,(fun _=>(0,0))):=by rw[hD];rfl
 clear hD
 have P0:∀ b,s5 D b=s5 (D.drop 0) b:=fun _=>rfl
 have C0:∀ b,((w.alloc (.cells (I0 x A).toArray 84)).alloc (.cells L6.toArray 84)).heap.size≤b→b<y0.w.heap.size→s5 D b=D3 0 ((fun _=>(0,0)) b):=fun b h1 h2=>(P0 b).trans (i8 e0 h2)
 have P1:∀ b,y0.w.heap.size≤b→s5 D b=s5 (D.drop 1) b:=fun b hb=>(P0 b).trans (f6 e0 hb)
 have C1:∀ b,z1.w.heap.size≤b→b<y1.w.heap.size→s5 D b=D3 1 ((fun _=>(0,0)) b):=fun b h1 h2=>(P1 b (Nat.le_trans K1.out.size h1)).trans (i8 e1 h2)
 have P2:∀ b,y1.w.heap.size≤b→s5 D b=s5 (D.drop 2) b:=fun b hb=>(P1 b (Nat.le_trans (Nat.le_trans K1.out.size y1.size_le) hb)).trans (f6 e1 hb)
 have C2:∀ b,z2.w.heap.size≤b→b<y2.w.heap.size→s5 D b=D3 2 ((fun _=>(0,0)) b):=fun b h1 h2=>(P2 b (Nat.le_trans K2.out.size h1)).trans (i8 e2 h2)
 have P3:∀ b,y2.w.heap.size≤b→s5 D b=s5 (D.drop 3) b:=fun b hb=>(P2 b (Nat.le_trans (Nat.le_trans K2.out.size y2.size_le) hb)).trans (f6 e2 hb)
 have C3:∀ b,z3.w.heap.size≤b→b<y3.w.heap.size→s5 D b=D3 3 ((fun _=>(0,0)) b):=fun b h1 h2=>(P3 b (Nat.le_trans K3.out.size h1)).trans (i8 e3 h2)
 have P4:∀ b,y3.w.heap.size≤b→s5 D b=s5 (D.drop 4) b:=fun b hb=>(P3 b (Nat.le_trans (Nat.le_trans K3.out.size y3.size_le) hb)).trans (f6 e3 hb)
 have C4:∀ b,z4.w.heap.size≤b→b<y4.w.heap.size→s5 D b=D3 4 (ch4 b):=fun b h1 h2=>(P4 b (Nat.le_trans K4.out.size h1)).trans (i8 e4 h2)
 have P5:∀ b,y4.w.heap.size≤b→s5 D b=s5 (D.drop 5) b:=fun b hb=>(P4 b (Nat.le_trans (Nat.le_trans K4.out.size y4.size_le) hb)).trans (f6 e4 hb)
 have C5:∀ b,z5.w.heap.size≤b→b<y5.w.heap.size→s5 D b=D3 6 ((fun _=>(0,0)) b):=fun b h1 h2=>(P5 b (Nat.le_trans K5.out.size h1)).trans (i8 e5 h2)
 have Q4:=lH ((((O4.out.re C4).mono (LeN.out (a:=w.heap.size+2))).keep GY4).mono (B2:=w.heap.size) (by omega))
 refine bodyPost_ret (v:=.agg (S5 x na0 nc0 na1 nc1 na2 nc2 na3 nc3 b4a0 b4c0 b4a1 b4c1 na6 nc6).toArray) (F7 (P:=Tryz.prog) rfl rfl HR.out _ Tryz.underlying84 rfl kr) rfl ⟨(S5 x na0 nc0 na1 nc1 na2 nc2 na3 nc3 b4a0 b4c0 b4a1 b4c1 na6 nc6),s5 D,rfl,⟨⟨na0,nc0,na1,nc1,na2,nc2,na3,nc3,b4a0,b4c0,b4a1,b4c1,na6,nc6⟩,rfl,⟨((((O0.out.re C0).mono (LeN.out (a:=w.heap.size+2))).keep GY0).mono (by omega)),((((O1.out.re C1).mono (LeN.out (a:=w.heap.size+2))).keep GY1).mono (by omega)),((((O2.out.re C2).mono (LeN.out (a:=w.heap.size+2))).keep GY2).mono (by omega)),((((O3.out.re C3).mono (LeN.out (a:=w.heap.size+2))).keep GY3).mono (by omega)),Q4.out.o0,Q4.out.o1,((((O5.out.re C5).mono (LeN.out (a:=w.heap.size+2))).keep GY5).mono (by omega)),HFF.out.ok⟩⟩,b5.of⟩
theorem aq1{α β:Type}[N:ao2 α β](r:N7 α):∀ u∈Z0 r,u.oneCell'=true:=N.one _ _ _
class aJ5(α:Type){β:Type}[N:ao2 α β][F:D9 β]:Prop where
 inv:∀ {B w vs x},N.Rd B w vs x→∃ a c,vs=N.cells x a c∧N.good x∧RdS B w a c (N.inner x)
section
variable {α β:Type} [N:ao2 α β] [F:D9 β]
theorem RdS.rows[I:aJ5 α]{B:Nat}{w:World}{a:Option Addr}{c:Nat}{l:List α}(h:RdS B w a c l):∃ rows:List (N7 α),rows.length=l.length∧rows.map (·.x)=l∧Sl (Z0 (α:=α)) w a rows∧∀ (i:Nat) (r:N7 α),rows[i]?=some r→N.good r.x∧RdS B w r.a r.c (N.inner r.x):=by
 have hp:∀ i,i<l.length→∃ r:N7 α,some r.x=l[i]?∧(∃ b off,a=some ⟨b,off,none⟩∧b<w.heap.size∧∀ (j:Nat) (v:Value),(Z0 r)[j]?=some v→w.cell? ⟨b,off+i*(Z0 r).length+j,none⟩=some v)∧N.good r.x∧RdS B w r.a r.c (N.inner r.x):=fun i hi=>by
  obtain⟨b,off,vs,h0,-,h2,h3,h4⟩:=h.2.2.2 i l[i] (List.getElem?_eq_getElem hi)
  obtain⟨a1,c1,rfl,h5,h6⟩:=I.inv h3
  exact⟨⟨l[i],a1,c1⟩,(List.getElem?_eq_getElem hi).symm,⟨b,off,h0,h2,fun j v hv=>by rw[ae0];exact h4 j v hv⟩,h5,h6⟩
 have key:∀ n,(∀ i,i<n→∃ r:N7 α,some r.x=l[i]?∧(∃ b off,a=some ⟨b,off,none⟩∧b<w.heap.size∧∀ (j:Nat) (v:Value),(Z0 r)[j]?=some v→w.cell? ⟨b,off+i*(Z0 r).length+j,none⟩=some v)∧N.good r.x∧RdS B w r.a r.c (N.inner r.x)) →
   ∃ rows:List (N7 α),rows.length=n∧∀ (i:Nat) (r:N7 α),rows[i]?=some r→some r.x=l[i]?∧(∃ b off,a=some ⟨b,off,none⟩∧b<w.heap.size∧∀ (j:Nat) (v:Value),(Z0 r)[j]?=some v→w.cell? ⟨b,off+i*(Z0 r).length+j,none⟩=some v)∧N.good r.x∧RdS B w r.a r.c (N.inner r.x):=by
  intro n
  induction n with
  | zero=>exact fun _=>⟨[],rfl,fun i r h=>by simp at h⟩
  | succ n ih =>
   intro hq
   obtain⟨rows,h1,h2⟩:=ih (fun i hi=>hq i (by omega))
   obtain⟨r,h3⟩:=hq n (by omega)
   refine⟨rows++[r],by simp[h1],fun i s hs=>?_⟩
   by_cases hi:i<n
   ·exact h2 i s (by rwa[List.getElem?_append_left (by omega)]at hs)
   ·have hlt:=(List.getElem?_eq_some_iff.1 hs).1
    simp at hlt
    obtain rfl:i=n:=by omega
    rw[List.getElem?_append_right (by omega)]at hs
    simp[h1]at hs
    subst hs;exact h3
 obtain⟨rows,h1,h2⟩:=key l.length hp
 refine⟨rows,h1,?_,fun i r hr=>(h2 i r hr).2.1,fun i r hr=>(h2 i r hr).2.2⟩
 refine List.ext_getElem? fun i=>?_
 rw[List.getElem?_map]
 cases hr:rows[i]? with
 | none=>rw[Option.map_none];exact(List.getElem?_eq_none_iff.2 (by rw[← h1];exact List.getElem?_eq_none_iff.1 hr)).symm
 | some r=>exact(h2 i r hr).1
structure aq9(B:Nat)(χ:Nat→Col)(w:World)(a:Option Addr)(c:Nat)(rows0 rows:List (N7 α))(k:Nat):Prop where
 own:Own (Z0 (α:=α)) N.ty N.size B w a c rows
 col:∀ b,I5 a=some b→χ b=(0,0)
 done:∀ i r,i<k→rows[i]?=some r→N.good r.x∧D0 B χ (0,i+1) w r.a r.c (N.inner r.x)
 left:∀ i,k≤i→rows[i]?=rows0[i]?
 xs:rows.map (·.x)=rows0.map (·.x)
variable {B k:Nat} {χ χ2:Nat→Col} {w W1 W2 Z:World} {a ra:Option Addr} {c rc:Nat} {rows0 rows:List (N7 α)} {x:α}
theorem aq9.start(h:Own (Z0 (α:=α)) N.ty N.size B w a c rows):aq9 B (fun _=>(0,0)) w a c rows rows 0:=⟨h,fun _ _=>rfl,fun i r h=>by omega,fun _ _=>rfl,rfl⟩
theorem aq9.but{b:Nat}{w':World}(h:aq9 B χ w a c rows0 rows k)(g:But b w w')(hb:b<B):aq9 B χ w' a c rows0 rows k :=
 ⟨h.own.same (fun q _ h1 h2=>g.block q (by omega) h2),h.col,fun i r hi hr=>⟨(h.done i r hi hr).1,(h.done i r hi hr).2.keep (g.keeps hb)⟩,h.left,h.xs⟩
theorem aq9.len(h:aq9 B χ w a c rows0 rows k):rows.length=rows0.length:=by have:=congrArg List.length h.xs;simpa using this
theorem aq9.step(h:aq9 B χ w a c rows0 rows k)(g:d5 w W1)(hB:B≤W1.heap.size){i0:Col}(hi:D0 W1.heap.size χ2 i0 W2 ra rc (N.inner x))(g2:d5 W1 W2){r0:N7 α}(h0:rows0[k]?=some r0)(hx:r0.x=x)(hgd:N.good x)
  (hown:Own (Z0 (α:=α)) N.ty N.size B Z a c (rows.set k ⟨x,ra,rc⟩)) (hg:W2.grownBy Z (I5 a)):aq9 B (E9 W1.heap.size χ χ2 (fun _=>(0,k+1))) Z a c rows0 (rows.set k ⟨x,ra,rc⟩) (k+1):=by
 have hblk:=h.own.blk
 have hcol:∀ b,I5 a=some b→E9 W1.heap.size χ χ2 (fun _=>(0,k+1)) b=(0,0):=fun b hb=>by
  rw[E9,if_pos (Nat.lt_of_lt_of_le (hblk b hb).2 g.out.size)];exact h.col b hb
 have hfr:Fr B (E9 W1.heap.size χ χ2 (fun _=>(0,k+1))) (·=(0,0)) W2 Z:=⟨hg.os,hg.tape,hg.output,hg.size,fun b h2 h3=>hg.block b h2 (fun e=>h3 ⟨(hblk b e.symm).1,hcol b e.symm⟩)⟩
 have hk:k<rows.length:=by rw[h.len];exact(List.getElem?_eq_some_iff.1 h0).1
 refine⟨hown,hcol,fun i r hik hr=>?_,fun i hik=>?_,?_⟩
 ·by_cases hi2:i<k
  ·rw[List.getElem?_set_ne (by omega)]at hr
   obtain⟨h1,h2⟩:=h.done i r hi2 hr
   refine⟨h1,((h2.old g.out.size).to ⟨g.out.trans (g2.out.mono g.out.size)⟩).fr hfr ?_⟩
   intro e;simp at e
  ·obtain rfl:i=k:=by omega
   rw[List.getElem?_set_self hk]at hr
   cases hr
   refine⟨hgd,((hi.new (B:=W1.heap.size) nl).mono hB).fr hfr ?_⟩
   intro e;simp at e
 ·rw[List.getElem?_set_ne (by omega)];exact h.left i (by omega)
 ·rw[← h.xs]
  refine List.ext_getElem? fun i=>?_
  rw[List.getElem?_map,List.getElem?_map,List.getElem?_set]
  split
  ·rename_i e
   subst e
   have:=h.left k nl
   rw[h0]at this
   first|(rw[if_pos hk,this];simp[hx])|(rw[this];simp[hx])
  ·rfl
theorem aq9.fin(h:aq9 B χ w a c rows0 rows k)(hk:rows.length≤k):M9 B χ 0 w a c rows:=⟨h.own,h.col,fun i r hr=>h.done i r (by have:=(List.getElem?_eq_some_iff.1 hr).1;omega) hr⟩
def grown(U V:Nat)(χ:Nat→Col)(n:Nat):Nat→Col:=E9 U χ (E9 V (fun _=>(0,n)) (fun _=>(0,0)) id) id
theorem M9.grow{χ2:Nat→Col}{W2:World}{ra:Option Addr}{rc:Nat}{x:α}(h:M9 B χ 0 w a c rows)(g:d5 w W1)(hB:B≤W1.heap.size){i0:Col}(hi:D0 W1.heap.size χ2 i0 W2 ra rc (N.inner x))(g2:d5 W1 W2)(hgd:N.good x){a':Option Addr}{c':Nat}{W3:World}(g3:d5 W2 W3)
  (hown:Own (Z0 (α:=α)) N.ty N.size B Z a' c' (rows++[⟨x,ra,rc⟩])) (hg:W3.grownBy Z (I5 a)) (hb:I5 a'=I5 a∨I5 a'=some W3.heap.size) :
  M9 B (grown W1.heap.size W3.heap.size χ (rows.length+1)) 0 Z a' c' (rows++[⟨x,ra,rc⟩]):=by
 have hblk:=h.own.blk
 have l1:=g.out.size
 have l2:=g2.out.size
 have l3:=g3.out.size
 have hcol:∀ b,I5 a=some b→grown W1.heap.size W3.heap.size χ (rows.length+1) b=(0,0):=fun b hb=>by
  have:=(hblk b hb).2
  rw[grown,E9,if_pos (by omega)];exact h.col b hb
 have hfr:Fr B (grown W1.heap.size W3.heap.size χ (rows.length+1)) (·=(0,0)) W3 Z:=⟨hg.os,hg.tape,hg.output,hg.size,fun b h2 h3=>hg.block b h2 (fun e=>h3 ⟨(hblk b e.symm).1,hcol b e.symm⟩)⟩
 refine⟨hown,fun k hk=>?_,fun i r hr=>?_⟩
 ·rcases hb with hb|hb
  ·exact hcol k (by rw[← hb];exact hk)
  ·rw[hb]at hk
   cases hk
   rw[grown,E9,if_neg (by omega),E9,if_neg (by omega)];rfl
 ·by_cases hi2:i<rows.length
  ·rw[List.getElem?_append_left hi2]at hr
   obtain⟨h1,h2⟩:=h.each i r hr
   refine⟨h1,((h2.old l1).to ⟨g.out.trans ((g2.out.trans (g3.out.mono l2)).mono l1)⟩).fr hfr ?_⟩
   intro e;simp at e
  ·have hlt:=(List.getElem?_eq_some_iff.1 hr).1
   simp at hlt
   obtain rfl:i=rows.length:=by omega
   rw[List.getElem?_append_right nl]at hr
   simp at hr
   subst hr
   refine⟨hgd,(((hi.recol (χ':=grown W1.heap.size W3.heap.size χ (rows.length+1)) (i':=(0,rows.length+1)) (fun k h1 h2 _=>?_)).mono hB).to g3).fr hfr ?_⟩
   ·rw[grown,E9,if_neg (by omega),E9,if_pos (by omega)];rfl
   ·intro e;simp at e
end
instance aJ5.iTFileIn:aJ5 D4 where
 inv:=by rintro _ _ _ _ ⟨a0,c0,rfl,q0,hok⟩;exact⟨a0,c0,rfl,hok,q0⟩
theorem Sl.nFileIn{w:World}{a:Option Addr}{l:List (N7 D4)}(h:Sl (Z0 (α:=D4)) w a l){k:Nat}(hk:k<l.length) :
  ∃ b off r,a=some ⟨b,off,none⟩∧LtN b w.heap.size∧Hid (l.drop k=r::l.drop (k+1))∧(∀ (W:World) [d5 w W],W.cell? ⟨b,off+k*4,none⟩=some (.int .i64 r.x.File))∧(∀ (W:World) [d5 w W],W.cell? ⟨b,off+k*4+1,none⟩=some (.int .i64 r.x.Size))∧(∀ (W:World) [d5 w W],W.cell? ⟨b,off+k*4+2,none⟩=some (.int .i64 r.x.Check))∧(∀ (W:World) [d5 w W],W.cell? ⟨b,off+k*4+3,none⟩=some (.slice r.a r.x.Parts.length r.c)):=by
 obtain⟨r,hs,hd⟩:=ah0 hk
 obtain⟨b,off,ha,hb,hc⟩:=h k r hs
 exact⟨b,off,r,ha,⟨hb⟩,hd,j5 hb (hc 0 _ rfl),j5 hb (hc 1 _ rfl),j5 hb (hc 2 _ rfl),j5 hb (hc 3 _ rfl)⟩
theorem aV1{a:Option Addr}{n c:Nat}{l:List (N7 D4)}{w:World}(hs:Sl (Z0 (α:=D4)) w a l)(hn:l.length=n)(hm:n≤100000000) :
  Calls Tryz.prog 107 #[.slice a n c] w (N0 (Z0 (α:=D4)) 150 4 w l):=by
 cases a with
 | none =>
  have hl:l=[]:=by
   cases l with
   | nil=>rfl
   | cons y r=>obtain⟨b,off,h0,-⟩:=hs 0 y rfl;cases h0
  have hq:=fun(w:World)=>run_eql_slice_nil (P:=Tryz.prog) w 74 150 none n c Tryz.underlying74
  simp only[Option.isNone]at hq
  have HL:=lH hl;clear hl
  go_enter Tryz.func107,Tryz.ntmps107
  go_wp2_with (fail)
  go_ret
  exact N0.nilOf (ae0 (α:=D4)) HL.out
 | some ad =>
  have hq:=fun(w:World)=>run_eql_slice_nil (P:=Tryz.prog) w 74 150 (some ad) n c Tryz.underlying74
  simp only[Option.isNone]at hq
  go_enter Tryz.func107,Tryz.ntmps107
  go_wp2_with (first|(at_builtin;refine J9 (enc:=(Z0 (α:=D4))) (w0:=w) (z:=.agg #[.int .i64 0,.int .i64 0,.int .i64 0,.slice none 0 0]) (size:=4) (bytes:=48) (n:=0) (l:=[]) rfl (.tmp 5) (.tmp 6) rfl Tryz.underlying74 kr rfl (by decide) (by decide) rfl rfl (fun h=>by cases h) rfl hn (Own.emptyAt (ae0 (α:=D4)) nl rfl) (hs.to ii) (aq1 (α:=D4)) (by omega) ?_;intro sa1 sc1 x1 hown1 hgr1))
  go_ret
  rw[List.nil_append]at hown1
  exact⟨sa1,sc1,by rw[hn];first|rfl|simp,hown1,b5.of⟩
instance aJ5.iTFileOut:aJ5 j7 where
 inv:=by rintro _ _ _ _ ⟨a0,c0,rfl,q0,hok⟩;exact⟨a0,c0,rfl,hok,q0⟩
theorem Sl.nFileOut{w:World}{a:Option Addr}{l:List (N7 j7)}(h:Sl (Z0 (α:=j7)) w a l){k:Nat}(hk:k<l.length) :
  ∃ b off r,a=some ⟨b,off,none⟩∧LtN b w.heap.size∧Hid (l.drop k=r::l.drop (k+1))∧(∀ (W:World) [d5 w W],W.cell? ⟨b,off+k*4,none⟩=some (.int .i64 r.x.File))∧(∀ (W:World) [d5 w W],W.cell? ⟨b,off+k*4+1,none⟩=some (.string r.x.Data))∧(∀ (W:World) [d5 w W],W.cell? ⟨b,off+k*4+2,none⟩=some (.slice r.a r.x.Queue.length r.c))∧(∀ (W:World) [d5 w W],W.cell? ⟨b,off+k*4+3,none⟩=some (.bool r.x.Done)):=by
 obtain⟨r,hs,hd⟩:=ah0 hk
 obtain⟨b,off,ha,hb,hc⟩:=h k r hs
 exact⟨b,off,r,ha,⟨hb⟩,hd,j5 hb (hc 0 _ rfl),j5 hb (hc 1 _ rfl),j5 hb (hc 2 _ rfl),j5 hb (hc 3 _ rfl)⟩
theorem aP5{a:Option Addr}{n c:Nat}{l:List (N7 j7)}{w:World}(hs:Sl (Z0 (α:=j7)) w a l)(hn:l.length=n)(hm:n≤100000000) :
  Calls Tryz.prog 112 #[.slice a n c] w (N0 (Z0 (α:=j7)) 155 4 w l):=by
 cases a with
 | none =>
  have hl:l=[]:=by
   cases l with
   | nil=>rfl
   | cons y r=>obtain⟨b,off,h0,-⟩:=hs 0 y rfl;cases h0
  have hq:=fun(w:World)=>run_eql_slice_nil (P:=Tryz.prog) w 86 155 none n c Tryz.underlying86
  simp only[Option.isNone]at hq
  have HL:=lH hl;clear hl
  go_enter Tryz.func112,Tryz.ntmps112
  go_wp2_with (fail)
  go_ret
  exact N0.nilOf (ae0 (α:=j7)) HL.out
 | some ad =>
  have hq:=fun(w:World)=>run_eql_slice_nil (P:=Tryz.prog) w 86 155 (some ad) n c Tryz.underlying86
  simp only[Option.isNone]at hq
  go_enter Tryz.func112,Tryz.ntmps112
  go_wp2_with (first|(at_builtin;refine J9 (enc:=(Z0 (α:=j7))) (w0:=w) (z:=.agg #[.int .i64 0,.string ByteArray.empty,.slice none 0 0,.bool false]) (size:=4) (bytes:=56) (n:=0) (l:=[]) rfl (.tmp 5) (.tmp 6) rfl Tryz.underlying86 kr rfl (by decide) (by decide) rfl rfl (fun h=>by cases h) rfl hn (Own.emptyAt (ae0 (α:=j7)) nl rfl) (hs.to ii) (aq1 (α:=j7)) (by omega) ?_;intro sa1 sc1 x1 hown1 hgr1))
  go_ret
  rw[List.nil_append]at hown1
  exact⟨sa1,sc1,by rw[hn];first|rfl|simp,hown1,b5.of⟩
theorem be6{P:Program}{c:Code}{Q:Exit→Act→World→Prop}{a:Act}{w:World}(hp:∀ c a d v w,Q (.panic c) (a.put (some d) v) w→Q (.panic c) a w)(h:∀ K:Exit→Act→World→Prop,Hid (∀ c a d v w,K (.panic c) (a.put (some d) v) w→K (.panic c) a w)→Hid (∀ e a w,Q e a w→K e a w)→c.wp P K a w):c.wp P Q a w:=h Q (lH hp) (lH fun _ _ _ h=>h)
theorem ao1{P:Program}{ops:Array Oper}{S:World→Prop}{op:Oper}{a:Act}(hw:Region.wanted op (yielded ops a.tmps)=true)(ty:TypeId)(x:Operand)(ho:op.op=.load ty x)
  (b o:Nat) (hx:a.eval x=.pointer (some ⟨b,o,none⟩)) (v:Value) (d:TypeDesc) (hS:∀ w,S w→w.cell? ⟨b,o,none⟩=some v) (hu:P.underlying ty=some d) (hd:d.isRow=false):YieldsIf P ops S op v a :=
 .inl ⟨hw,fun w hw'=>by
  have hagg:(isAgg ty).run P w=.ok false w:=by
   unfold isAgg
   rw[Sem.run_bind,run_underlying hu w]
   cases d<;>simp_all [TypeDesc.isRow]
  have hl:(loadVar ty ⟨b,o,none⟩).run P w=.ok v w:=by
   have hc:=hS w hw'
   simp[loadVar,Sem.run_bind,hagg,go_sem,hc]
  unfold execOp
  simp only[ho,hx,Instr.loadAt,Instr.sureAddr,Sem.run_bind,Sem.run_pure,Result.andThen_ok,hl]⟩
theorem But.pre{b:Nat}{w0 w w':World}(h:But b w w')(g:d5 w0 w):But b w0 w':=⟨Nat.le_trans g.out.size h.size,fun k h1 h2=>(h.block k h1 (Nat.lt_of_lt_of_le h2 g.out.size)).trans (g.out.block k h2)⟩
theorem But.post{b:Nat}{w0 w w':World}(h:But b w0 w)(g:d5 w w'):But b w0 w':=⟨Nat.le_trans h.size g.out.size,fun k h1 h2=>(g.out.block k (Nat.lt_of_lt_of_le h2 h.size)).trans (h.block k h1 h2)⟩
theorem But.far{b q:Nat}{w0 w w':World}(h:But b w0 w)(g:w.grownBy w' (some q))(hq:w0.heap.size≤q):But b w0 w':=⟨Nat.le_trans h.size g.size,fun k h1 h2=>(g.block k (Nat.lt_of_lt_of_le h2 h.size) (by simp only[ne_eq,Option.some.injEq];omega)).trans (h.block k h1 h2)⟩
section
variable {P:Program} {ops:Array Oper} {op:Oper} {a:Act} {w:World} {Q:Exit→Act→World→Prop} {K:Act→World→Prop} {E:Prop} {α:Type} {enc:α→List Value} {T B g:Nat} {c:Nat} {l:List α}
theorem aO9(hw:Region.wanted op (yielded ops a.tmps)=true)(ty:TypeId)(x y:Operand)(ho:op.op=.store ty x y)(j:Nat)(hx:a.eval x=.pointer (some ⟨g,j*4,none⟩))(h:Own enc T 4 B w (some ⟨g,0,none⟩) c l)(hj:j<l.length)(r:α){v0 v1 v2 v3:Value}(hr:enc r=[v0,v1,v2,v3])
  (hv:(a.eval y).cells.toList=[v0,v1,v2,v3]) (hi:(P.info? ty).map (·.size)=some 4) (h1:[v0,v1,v2,v3].all (·.oneCell')=true) {w0:World} (gr:d5 w0 w) (hb:w0.heap.size≤B)
  (k:∀ z:b5 w0,Own enc T 4 B z.w (some ⟨g,0,none⟩) c (l.set j r)→w.grownBy z.w (some g)→K (a.put op.dst undef) z.w):if Region.wanted op (yielded ops a.tmps)=true then Oper.wp P op a w K Q else E:=by
 rw[if_pos hw]
 have ht:w.there g (j*4) [v0,v1,v2,v3].length:=fun q hq=>by
  refine⟨?_,h.free _⟩
  obtain⟨v,hv⟩:=h.cells (j:=j*4+q) (by simp at hq;omega)
  rw[hv];rfl
 have hp:=h.put4 (j:=j) hj hr
 have hB:=(h.blk g rfl).1
 unfold Oper.wp execOp
 simp only[ho,hx,Instr.storeAt,Instr.sureAddr,Sem.run_bind,Sem.run_pure,Result.andThen_ok,ac3 hv ht hi (fun u hu=>List.all_eq_true.1 h1 u hu)]
 exact k ⟨_,S3 (Nat.le_trans hb hB) [v0,v1,v2,v3] (j*4) gr.out⟩ hp.1 hp.2
theorem ax3{S:World→Prop}{md:Region.Mode}{fuel:Nat}{listed:Array Bool}(i:Nat)(ho1:ops[i]?=some op)(hr:Region.ready md ops listed=[i])(hr2:Region.ready md ops (listed.setIfInBounds i true)=[])
  (hw:Region.wanted op (yielded ops a.tmps)=true) (ty:TypeId) (x y:Operand) (ho:op.op=.store ty x y) (j:Nat) (hx:a.eval x=.pointer (some ⟨g,j*4,none⟩)) (h:Own enc T 4 B w (some ⟨g,0,none⟩) c l) (hj:j<l.length) (r:α) {v0 v1 v2 v3:Value} (hr0:enc r=[v0,v1,v2,v3])
  (hv:(a.eval y).cells.toList=[v0,v1,v2,v3]) (hi:(P.info? ty).map (·.size)=some 4) (h1:[v0,v1,v2,v3].all (·.oneCell')=true) {w0:World} (gr:d5 w0 w) (hb:w0.heap.size≤B)
  (k:∀ z:b5 w0,Own enc T 4 B z.w (some ⟨g,0,none⟩) c (l.set j r)→w.grownBy z.w (some g)→S z.w∧Q .normal (a.put op.dst undef) z.w):wpAnyH P md ops Q S (fuel+1) listed a w :=
 wpAnyH_ready hr (by simp) (AllReadyH.cons ho1 (fun K hK=>aO9 hw ty x y ho j hx h hj r hr0 hv hi h1 gr hb fun z h2 h3=>hK.out _ _ (k z h2 h3).1 fun _=>wpAnyH_done hr2 (k z h2 h3).2 _) AllReadyH.nil)
end
theorem aS1{s:ByteArray}{w:World}(hm:s.size≤100000000):Calls Tryz.prog 214 #[.string s] w (b4 w (.string (au2 s))):=by
 have⟨h0,h1⟩:=ba0 s
 have hz:(aD9 (ai7 s)).size=2:=rfl
 go_enter Tryz.func214,Tryz.ntmps214
 go_wp2_with (first|(go_at_call 257;refine gm (bz7 (by omega)) ?_;intro y9)|(go_at_call 256;refine gm (bs4 h0 (by omega)) ?_;intro y9))
 go_ret
 exact b4.mk rfl
theorem bm2{B:Nat}{vs:List Value}{m:f5}{w:World}(h:Enc.Rd B w vs m)(ht:Enc.tot m≤100000000) :
  Calls Tryz.prog 33 #[.agg vs.toArray] w (b4 w (.bool (j9 m))):=by
 obtain⟨A,hvs,F⟩:=h
 have M:=lH (aH8 ht)
 have FH:=lH F
 clear F ht
 obtain⟨n0,hn0⟩:∃ n,m.Plan.length=n:=⟨_,rfl⟩
 obtain⟨n20,hn20⟩:∃ n,m.Offered.length=n:=⟨_,rfl⟩
 obtain⟨n21,hn21⟩:∃ n,m.Took.length=n:=⟨_,rfl⟩
 rw[hn0,hn20,hn21]at hvs
 have hm0:n0≤100000000:=hn0▸M.out.m0
 have hm20:n20≤100000000:=hn20▸M.out.m20
 have hm21:n21≤100000000:=hn21▸M.out.m21
 have HN0:=lH hn0;have HN20:=lH hn20;have HN21:=lH hn21
 clear hn0 hn20 hn21
 have HB:=lH (i9.new w vs 90 w.heap.size rfl)
 have e0:=HB.out.cellG 0 (.int .i64 m.Time) (by rw[hvs];rfl)
 have e1:=HB.out.cellG 1 (.int .i64 m.Light) (by rw[hvs];rfl)
 have e7:=HB.out.cellG 7 (.slice A.a0 n0 A.c0) (by rw[hvs];rfl)
 have e14:=HB.out.cellG 14 (.slice A.a1 m.Ups.length A.c1) (by rw[hvs];rfl)
 have e15:=HB.out.cellG 15 (.slice A.a2 m.Downs.length A.c2) (by rw[hvs];rfl)
 have e58:=HB.out.cellG 58 (.slice A.a20 n20 A.c20) (by rw[hvs];rfl)
 have e59:=HB.out.cellG 59 (.slice A.a21 n21 A.c21) (by rw[hvs];rfl)
 have e60:=HB.out.cellG 60 (.int .i64 m.Bad) (by rw[hvs];rfl)
 have HVS:=lH hvs;clear hvs
 go_enter Tryz.func33,Tryz.ntmps33
 go_wp2_with (fail)
 refine gm (d6) ?_
 intro y1
 cases g1:inB m.Time 0 1000000
 ·have HF:=lH (show j9 m=false from aG8 g1)
  clear g1
  go_wp2_with (fail)
  go_ret
  exact b4.mk (by rw[HF.out];rfl)
 have T1:=lH g1;clear g1
 go_wp2_with (fail)
 refine gm (d6) ?_
 intro y2
 cases g2:inB m.Light 0 50
 ·have HF:=lH (show j9 m=false from aG9 g2)
  clear g2
  go_wp2_with (fail)
  go_ret
  exact b4.mk (by rw[HF.out];rfl)
 have T2:=lH g2;clear g2
 go_wp2_with (fail)
 refine gm (d6) ?_
 intro y3
 cases g3:inB m.Bad 0 1000000
 ·have HF:=lH (show j9 m=false from aH0 g3)
  clear g3
  go_wp2_with (fail)
  go_ret
  exact b4.mk (by rw[HF.out];rfl)
 have T3:=lH g3;clear g3
 go_wp2_with (first|(refine X1 kg _ _ rfl w.heap.size 2 rfl (row:=[.int .i64 m.Drift.Rate,.int .i64 m.Drift.Offset]) (HB.out.to ii) _ Tryz.underlying62 rfl kr (by rw[HVS.out];kernel_rfl) ?_)|(refine step_loadw kg _ _ rfl w.heap.size 2 rfl (row:=[.int .i64 m.Drift.Rate,.int .i64 m.Drift.Offset]) (HB.out.to ii) _ Tryz.underlying62 rfl kr (by rw[HVS.out];kernel_rfl) ?_)|(refine step_loadp _ _ rfl w.heap.size 2 rfl (row:=[.int .i64 m.Drift.Rate,.int .i64 m.Drift.Offset]) (HB.out.to ii) _ Tryz.underlying62 rfl kr (by rw[HVS.out];kernel_rfl) ?_))
 refine gm (bD4 (x:=m.Drift)) ?_
 intro y4
 cases g4:as5 m.Drift
 ·have HF:=lH (show j9 m=false from aH1 g4)
  clear g4
  go_wp2_with (fail)
  go_ret
  exact b4.mk (by rw[HF.out];rfl)
 have T4:=lH g4;clear g4
 go_wp2_with (first|(refine X1 kg _ _ rfl w.heap.size 4 rfl (row:=[.int .i64 m.Orbit.Period,.int .i64 m.Orbit.Start,.int .i64 m.Orbit.Length]) (HB.out.to ii) _ Tryz.underlying63 rfl kr (by rw[HVS.out];kernel_rfl) ?_)|(refine step_loadw kg _ _ rfl w.heap.size 4 rfl (row:=[.int .i64 m.Orbit.Period,.int .i64 m.Orbit.Start,.int .i64 m.Orbit.Length]) (HB.out.to ii) _ Tryz.underlying63 rfl kr (by rw[HVS.out];kernel_rfl) ?_)|(refine step_loadp _ _ rfl w.heap.size 4 rfl (row:=[.int .i64 m.Orbit.Period,.int .i64 m.Orbit.Start,.int .i64 m.Orbit.Length]) (HB.out.to ii) _ Tryz.underlying63 rfl kr (by rw[HVS.out];kernel_rfl) ?_))
 refine gm (bD5 (x:=m.Orbit)) ?_
 intro y5
 cases g5:au0 m.Orbit
 ·have HF:=lH (show j9 m=false from aH2 g5)
  clear g5
  go_wp2_with (fail)
  go_ret
  exact b4.mk (by rw[HF.out];rfl)
 have T5:=lH g5;clear g5
 go_wp2_with (first|(refine X1 kg _ _ rfl w.heap.size 8 rfl (row:=[.int .i64 m.Up.Seed,.int .i64 m.Up.Burst,.int .i64 m.Up.Loss]) (HB.out.to ii) _ aQ7 rfl kr (by rw[HVS.out];kernel_rfl) ?_)|(refine step_loadw kg _ _ rfl w.heap.size 8 rfl (row:=[.int .i64 m.Up.Seed,.int .i64 m.Up.Burst,.int .i64 m.Up.Loss]) (HB.out.to ii) _ aQ7 rfl kr (by rw[HVS.out];kernel_rfl) ?_)|(refine step_loadp _ _ rfl w.heap.size 8 rfl (row:=[.int .i64 m.Up.Seed,.int .i64 m.Up.Burst,.int .i64 m.Up.Loss]) (HB.out.to ii) _ aQ7 rfl kr (by rw[HVS.out];kernel_rfl) ?_))
 refine gm (aM8 (x:=m.Up)) ?_
 intro y6
 cases g6:J2 m.Up
 ·have HF:=lH (show j9 m=false from aH3 g6)
  clear g6
  go_wp2_with (fail)
  go_ret
  exact b4.mk (by rw[HF.out];rfl)
 have T6:=lH g6;clear g6
 go_wp2_with (first|(refine X1 kg _ _ rfl w.heap.size 11 rfl (row:=[.int .i64 m.Down.Seed,.int .i64 m.Down.Burst,.int .i64 m.Down.Loss]) (HB.out.to ii) _ aQ7 rfl kr (by rw[HVS.out];kernel_rfl) ?_)|(refine step_loadw kg _ _ rfl w.heap.size 11 rfl (row:=[.int .i64 m.Down.Seed,.int .i64 m.Down.Burst,.int .i64 m.Down.Loss]) (HB.out.to ii) _ aQ7 rfl kr (by rw[HVS.out];kernel_rfl) ?_)|(refine step_loadp _ _ rfl w.heap.size 11 rfl (row:=[.int .i64 m.Down.Seed,.int .i64 m.Down.Burst,.int .i64 m.Down.Loss]) (HB.out.to ii) _ aQ7 rfl kr (by rw[HVS.out];kernel_rfl) ?_))
 refine gm (aM8 (x:=m.Down)) ?_
 intro y7
 cases g7:J2 m.Down
 ·have HF:=lH (show j9 m=false from aH4 g7)
  clear g7
  go_wp2_with (fail)
  go_ret
  exact b4.mk (by rw[HF.out];rfl)
 have T7:=lH g7;clear g7
 by_cases h8:n0≤1500
 rotate_left
 ·have k8:decide (1500<(n0:Int))=true:=by simp;omega
  have k8b:decide ((n0:Int)≤1500)=false:=by simp;omega
  have HF:=lH (show j9 m=false from aH5 (by rw[HN0.out];exact k8b))
  clear h8
  go_wp2_with (fail)
  go_ret
  exact b4.mk (by rw[HF.out];rfl)
 have k8:decide (1500<(n0:Int))=false:=by simp;omega
 have k8b:decide ((n0:Int)≤1500)=true:=by simp;omega
 have T8:=lH (show decide ((m.Plan.length:Int)≤1500)=true by rw[HN0.out];exact k8b)
 clear h8
 go_wp2_with (fail)
 refine gm (aG5 (l:=m.Ups) FH.out.q1 rfl M.out.m1) ?_
 intro y9
 cases g9:Q8 m.Ups
 ·have HF:=lH (show j9 m=false from aH6 g9)
  clear g9
  go_wp2_with (fail)
  go_ret
  exact b4.mk (by rw[HF.out];rfl)
 have T9:=lH g9;clear g9
 go_wp2_with (fail)
 refine gm (aG5 (l:=m.Downs) FH.out.q2 rfl M.out.m2) ?_
 intro y10
 cases g10:Q8 m.Downs
 ·have HF:=lH (show j9 m=false from aC4 g10)
  clear g10
  go_wp2_with (fail)
  go_ret
  exact b4.mk (by rw[HF.out];rfl)
 have T10:=lH g10;clear g10
 go_wp2_with (first|(refine X1 kg _ _ rfl w.heap.size 16 rfl (row:=(X0 m.Ground A.a3 A.c3 A.a4 A.c4 A.a5 A.c5 A.a6 A.c6 A.a7 A.c7 A.a8 A.c8)) (HB.out.to ii) _ Tryz.underlying76 rfl kr (by rw[HVS.out];kernel_rfl) ?_)|(refine step_loadw kg _ _ rfl w.heap.size 16 rfl (row:=(X0 m.Ground A.a3 A.c3 A.a4 A.c4 A.a5 A.c5 A.a6 A.c6 A.a7 A.c7 A.a8 A.c8)) (HB.out.to ii) _ Tryz.underlying76 rfl kr (by rw[HVS.out];kernel_rfl) ?_)|(refine step_loadp _ _ rfl w.heap.size 16 rfl (row:=(X0 m.Ground A.a3 A.c3 A.a4 A.c4 A.a5 A.c5 A.a6 A.c6 A.a7 A.c7 A.a8 A.c8)) (HB.out.to ii) _ Tryz.underlying76 rfl kr (by rw[HVS.out];kernel_rfl) ?_))
 refine gm (bw3 (bd:=m.Ground) FH.out.q3 FH.out.q4 FH.out.q5 FH.out.q6 FH.out.q7 FH.out.q8 FH.out.ok.2.2.2.2.2.2.1 rfl rfl rfl rfl rfl rfl M.out.m3 M.out.m4 M.out.m5 M.out.m6 M.out.m7 M.out.m8 M.out.hxf) ?_
 intro y11
 cases g11:B5 m.Ground
 ·have HF:=lH (show j9 m=false from aC5 g11)
  clear g11
  go_wp2_with (fail)
  go_ret
  exact b4.mk (by rw[HF.out];rfl)
 have T11:=lH g11;clear g11
 go_wp2_with (first|(refine X1 kg _ _ rfl w.heap.size 33 rfl (row:=(ad9 m.Space A.a9 A.c9 A.a10 A.c10 A.a11 A.c11 A.a12 A.c12 A.a13 A.c13 A.a14 A.c14 A.a15 A.c15 A.a16 A.c16 A.a17 A.c17 A.a18 A.c18 A.a19 A.c19)) (HB.out.to ii) _ Tryz.underlying88 rfl kr (by rw[HVS.out];kernel_rfl) ?_)|(refine step_loadw kg _ _ rfl w.heap.size 33 rfl (row:=(ad9 m.Space A.a9 A.c9 A.a10 A.c10 A.a11 A.c11 A.a12 A.c12 A.a13 A.c13 A.a14 A.c14 A.a15 A.c15 A.a16 A.c16 A.a17 A.c17 A.a18 A.c18 A.a19 A.c19)) (HB.out.to ii) _ Tryz.underlying88 rfl kr (by rw[HVS.out];kernel_rfl) ?_)|(refine step_loadp _ _ rfl w.heap.size 33 rfl (row:=(ad9 m.Space A.a9 A.c9 A.a10 A.c10 A.a11 A.c11 A.a12 A.c12 A.a13 A.c13 A.a14 A.c14 A.a15 A.c15 A.a16 A.c16 A.a17 A.c17 A.a18 A.c18 A.a19 A.c19)) (HB.out.to ii) _ Tryz.underlying88 rfl kr (by rw[HVS.out];kernel_rfl) ?_))
 refine gm (bD6 (bd:=m.Space) FH.out.q9 FH.out.q10 FH.out.q11 FH.out.q12 FH.out.q13 FH.out.q14 FH.out.q15 FH.out.q16 FH.out.q17 FH.out.q18 FH.out.q19 FH.out.ok.2.2.2.2.2.2.2.1 rfl rfl rfl rfl rfl rfl rfl rfl rfl rfl rfl M.out.m9 M.out.m10 M.out.m11 M.out.m12 M.out.m13 M.out.m14 M.out.m15 M.out.m16 M.out.m17 M.out.m18 M.out.m19 M.out.hzr M.out.hxo M.out.hxs) ?_
 intro y12
 cases g12:D7 m.Space
 ·have HF:=lH (show j9 m=false from aC6 g12)
  clear g12
  go_wp2_with (fail)
  go_ret
  exact b4.mk (by rw[HF.out];rfl)
 have T12:=lH g12;clear g12
 by_cases h13:n20≤5000
 rotate_left
 ·have k13:decide (5000<(n20:Int))=true:=by simp;omega
  have k13b:decide ((n20:Int)≤5000)=false:=by simp;omega
  have HF:=lH (show j9 m=false from aC7 (by rw[HN20.out];exact k13b))
  clear h13
  go_wp2_with (fail)
  go_ret
  exact b4.mk (by rw[HF.out];rfl)
 have k13:decide (5000<(n20:Int))=false:=by simp;omega
 have k13b:decide ((n20:Int)≤5000)=true:=by simp;omega
 have T13:=lH (show decide ((m.Offered.length:Int)≤5000)=true by rw[HN20.out];exact k13b)
 clear h13
 by_cases h14:n21≤5000
 rotate_left
 ·have k14:decide (5000<(n21:Int))=true:=by simp;omega
  have k14b:decide ((n21:Int)≤5000)=false:=by simp;omega
  have HF:=lH (show j9 m=false from aC8 (by rw[HN21.out];exact k14b))
  clear h14
  go_wp2_with (fail)
  go_ret
  exact b4.mk (by rw[HF.out];rfl)
 have k14:decide (5000<(n21:Int))=false:=by simp;omega
 have k14b:decide ((n21:Int)≤5000)=true:=by simp;omega
 have T14:=lH (show decide ((m.Took.length:Int)≤5000)=true by rw[HN21.out];exact k14b)
 clear h14
 go_wp2_with (fail)
 go_ret
 exact b4.mk (by rw[aH7 T1.out T2.out T3.out T4.out T5.out T6.out T7.out T8.out T9.out T10.out T11.out T12.out T13.out T14.out];rfl)
section
variable {P:Program} {ops:Array Oper} {op:Oper} {a:Act} {w:World} {Q:Exit→Act→World→Prop} {S:World→Prop} {md:Region.Mode} {fuel:Nat} {listed:Array Bool} {i j:Nat}
def be7(P:Program)(md:Region.Mode)(ops:Array Oper)(Q:Exit→Act→World→Prop)(S:World→Prop)(fuel:Nat)(listed:Array Bool)(a:Act)(w:World)(i:Nat):Prop :=
 wpOp P ops Q i (fun a' w'=>S w'∧wpAnyH P md ops Q S fuel (listed.setIfInBounds i true) a' w') a w
theorem J8(i:Nat)(hr:Region.ready md ops listed=[i])(h:be7 P md ops Q S fuel listed a w i):wpAnyH P md ops Q S (fuel+1) listed a w :=
 wpAnyH_ready hr (by simp) (fun k hk=>by simp only[List.mem_cons,List.not_mem_nil,or_false]at hk;subst hk;exact h)
theorem as2(i j:Nat)(hr:Region.ready md ops listed=[i,j])(h:be7 P md ops Q S fuel listed a w i)(h2:be7 P md ops Q S fuel listed a w j):wpAnyH P md ops Q S (fuel+1) listed a w :=
 wpAnyH_ready hr (by simp) (fun k hk=>by
  simp only[List.mem_cons,List.not_mem_nil,or_false]at hk
  rcases hk with rfl|rfl
  ·exact h
  ·exact h2)
theorem as0(ho1:ops[i]?=some op)(hw:Region.wanted op (yielded ops a.tmps)=true)(ty:TypeId)(x:Operand)(ho:op.op=.load ty x)(b o:Nat)(hx:a.eval x=.pointer (some ⟨b,o,none⟩)){cs:List Value}{T:TypeId}(H:i9 w b cs T)(v:Value)(hv:cs[o]?=some v)
  (d:TypeDesc) (hu:P.underlying ty=some d) (hd:d.isRow=false) (hS:S w) (h:wpAnyH P md ops Q S fuel (listed.setIfInBounds i true) (a.put op.dst v) w):be7 P md ops Q S fuel listed a w i :=
 wpOp_step ho1 (fun _ hK=>bP1 hw ty x ho b o hx H v hv d hu hd (hK _ _ ⟨hS,h⟩))
theorem aO1(ho1:ops[i]?=some op)(hw:Region.wanted op (yielded ops a.tmps)=true){f:FuncId}{fn:Func}{xs:Array Operand}{ts:Array TypeId}(hop:op.op=.call { callee:=.value (.func f),args:=xs,argTypes:=ts })(hf:P.funcs[f]?=some fn)(hname:(fn.name == "runtime.NumGoroutine")=false)(hb:fn.body.isNone=false)
  (args:List Value) (hv:xs.toList.map a.eval=args) (hc:Calls P f args.toArray w fun e w'=>∃ v,e=.returned v∧S w'∧wpAnyH P md ops Q S fuel (listed.setIfInBounds i true) (a.put op.dst v) w'):be7 P md ops Q S fuel listed a w i :=
 wpOp_step ho1 (fun _ hK=>bF4 hw hop hf hname hb args hv (hc.mono fun _ _ ⟨v,h1,h2⟩=>⟨v,h1,hK _ _ h2⟩))
theorem bO6(A:Array Value)(c0 c1 c2 c3:Value)(h:A.size=4):(((A.setIfInBounds 0 c0).setIfInBounds 1 c1).setIfInBounds 2 c2).setIfInBounds 3 c3=#[c0,c1,c2,c3]:=by
 obtain⟨l⟩:=A
 match l,h with
 | [_,_,_,_],_=>rfl
theorem aW7{t T:TypeId}{z:Value}{c0 c1 c2 c3:Value}(ht:P.underlying t=some (.slice T))(hi:(P.info? T).map (fun i=>(i.zero,i.size))=some (some z,4)) :
  (Instr.buildSlice t 1 #[(0,.agg #[c0,c1,c2,c3])]).run P w=.ok (.slice (some ⟨w.heap.size,0,none⟩) 1 1) (w.alloc (.cells #[c0,c1,c2,c3] T)):=by
 obtain⟨ti,hti,h3⟩:=Option.map_eq_some_iff.1 hi
 simp only[Prod.mk.injEq]at h3
 obtain⟨h4,h5⟩:=h3
 simp[Instr.buildSlice,Sem.run_bind,run_underlying ht,sizeOf,typeInfo,hti,h4,h5,zeroValue,Instr.fill,newRow,Array.zipIdx,Array.range,go_sem]
 rw[bO6 _ _ _ _ _ (by simp[h5])]
theorem ao6(ho1:ops[i]?=some op)(hw:Region.wanted op (yielded ops a.tmps)=true)(t:TypeId)(x:Operand)(ho:op.op=.buildSlice t 1 #[(0,x)]){T:TypeId}{z:Value}(ht:P.underlying t=some (.slice T))(hi:(P.info? T).map (fun i=>(i.zero,i.size))=some (some z,4))
  {c0 c1 c2 c3:Value} (hx:a.eval x=.agg #[c0,c1,c2,c3]) (hS:S (w.alloc (.cells #[c0,c1,c2,c3] T))) (h:wpAnyH P md ops Q S fuel (listed.setIfInBounds i true) (a.put op.dst (.slice (some ⟨w.heap.size,0,none⟩) 1 1)) (w.alloc (.cells #[c0,c1,c2,c3] T))):be7 P md ops Q S fuel listed a w i :=
 wpOp_step ho1 (fun _ hK=>by
  rw[if_pos hw]
  unfold Oper.wp execOp
  simp only[ho]
  have:=aW7 (P:=P) (w:=w) (c0:=c0) (c1:=c1) (c2:=c2) (c3:=c3) ht hi
  simp only[hx,List.map_toArray,List.map_cons,List.map_nil,this,Sem.run_bind,Result.andThen_ok,Sem.run_pure]
  exact hK _ _ ⟨hS,h⟩)
theorem an4{α:Type}{enc:α→List Value}{T size:Nat}(ho1:ops[i]?=some op)(hw:Region.wanted op (yielded ops a.tmps)=true){w0:World}{T1:TypeId}{cs:Array Value}{t:TypeId}{bytes:Nat}{z:Value}(y:α)
  (s x:Operand) (ho:op.op=.call { callee:=.builtin .append,args:=#[s,x],argTypes:=#[t,t] })
  (ht:P.underlying t=some (.slice T)) (hinfo:(P.info? T).map (fun i=>(i.zero,i.size,i.bytes))=some (some z,size,bytes)) (hzs:z.cells.size=size) (hsz:0<size) (hby:bytes≤1000)
  {l:List α} {n:Nat} {sa:Option Addr} {sc:Nat} (hs:a.eval s=.slice sa n sc) {xb:Nat} (hx:a.eval x=.slice (some ⟨xb,0,none⟩) 1 1) (hn:l.length=n) {B:Nat} (hown:Own enc T size B w sa sc l)
  (hxc:w.heap[xb]?=some (.cells cs T1 (0,0))) (hy:cs.toList=enc y) (h1:∀ u∈enc y,u.oneCell'=true) (hb:n≤1000000000) (hB:B≤w.heap.size) (g:d5 w0 w) (hB0:w0.heap.size≤B)
  (h:∀ (sa':Option Addr) (sc':Nat) (x':b5 w0),Own enc T size B x'.w sa' sc' (l++[y])→w.grownBy x'.w (Value.ownBlock (.slice sa n sc))→(I5 sa'=I5 sa∨I5 sa'=some w.heap.size)→S x'.w∧wpAnyH P md ops Q S fuel (listed.setIfInBounds i true) (a.put op.dst (.slice sa' (n+1) sc')) x'.w):be7 P md ops Q S fuel listed a w i :=
 wpOp_step ho1 (fun _ hK=>bP0 hw y s x ho ht hinfo hzs hsz hby hs hx hn hown hxc hy h1 hb hB g hB0 fun sa' sc' x' h2 h3 h4=>hK _ _ (h sa' sc' x' h2 h3 h4))
theorem aa4(i:Nat)(ho1:ops[i]?=some op)(hr:Region.ready md ops listed=[i])(hr2:Region.ready md ops (listed.setIfInBounds i true)=[])
  (hw:Region.wanted op (yielded ops a.tmps)=true) (ty:TypeId) (x y:Operand) (ho:op.op=.store ty x y) (b o:Nat) (hx:a.eval x=.pointer (some ⟨b,o,none⟩)) {cs us cs2:List Value} {T:TypeId} (H:i9 w b cs T)
  (hv:(a.eval y).cells.toList=us) (hi:(P.info? ty).map (·.size)=some us.length) (h1:us.all (·.oneCell')=true) (hl:o+us.length≤cs.length) (hcs:S6 cs o us=cs2) {w0:World} (g:d5 w0 w) (hb:w0.heap.size≤b)
  (h:∀ z:b5 w0,i9 z.w b cs2 T→w.grownBy z.w (some b)→S z.w∧Q .normal (a.put op.dst undef) z.w):wpAnyH P md ops Q S (fuel+1) listed a w :=
 J8 i hr (wpOp_step ho1 (fun _ hK=>bl0 hw ty x y ho b o hx H hv hi h1 hl hcs g hb fun z h2 h3=>hK _ _ ⟨(h z h2 h3).1,wpAnyH_done hr2 (h z h2 h3).2 _⟩))
end
theorem Own.lowNe{α:Type}{enc:α→List Value}{T size B b n c2:Nat}{w:World}{a:Option Addr}{c:Nat}{l:List α}(h:Own enc T size B w a c l)(hb:b<B):some b≠Value.ownBlock (.slice a n c2):=by
 rw[E8]
 intro e
 have:=(h.blk b e.symm).1
 omega
theorem But.farO{b:Nat}{w0 w w':World}{row:Option Nat}(h:But b w0 w)(g:w.grownBy w' row)(hq:∀ q,row=some q→w0.heap.size≤q):But b w0 w' :=
 ⟨Nat.le_trans h.size g.size,fun k h1 h2=>(g.block k (Nat.lt_of_lt_of_le h2 h.size) (fun e=>by have:=hq k e.symm;omega)).trans (h.block k h1 h2)⟩
theorem But.here{b:Nat}{w0 w w':World}(h:But b w0 w)(g:w.grownBy w' (some b)):But b w0 w' :=
 ⟨Nat.le_trans h.size g.size,fun k h1 h2=>(g.block k (Nat.lt_of_lt_of_le h2 h.size) (by simpa using h1)).trans (h.block k h1 h2)⟩
theorem aE5{B b:Nat}{w w':World}(g:w.grownBy w' (some b))(hb:b<B):b8 B w w':=⟨g.size,fun k h1 h2=>g.block k h2 (by simp only[ne_eq,Option.some.injEq];omega)⟩
theorem Sl.rangeN{α β:Type}[N:ao2 α β]{w:World}{a:Option Addr}{l:List (N7 α)}(h:Sl (Z0 (α:=α)) w a l){k b off m:Nat}{r:N7 α}(hr:l[k]?=some r)(ha:a=some ⟨b,off,none⟩){row:List Value}(hrow:Z0 r=row)(hm:row.length=m)(W:World)(g:d5 w W):W.rangeAt b (off+k*m) row:=by
 subst hrow
 obtain⟨b',off',ha',hb,hc⟩:=h k r hr
 rw[ha]at ha'
 simp only[Option.some.injEq,Addr.mk.injEq,and_true]at ha'
 obtain⟨rfl,rfl⟩:=ha'
 intro j v hv
 subst hm
 exact j5 hb (hc j v hv) W
theorem M9.empty{α β:Type}[N:ao2 α β][F:D9 β]{B:Nat}{w:World}{a:Option Addr}{c:Nat}(h:Own (Z0 (α:=α)) N.ty N.size B w a c []):M9 B (fun _=>(0,0)) 0 w a c ([]:List (N7 α)):=⟨h,fun _ _=>rfl,fun k r hr=>by simp at hr⟩
section
variable {P:Program} {ops:Array Oper} {op:Oper} {a:Act} {w:World} {Q:Exit→Act→World→Prop} {S:World→Prop} {md:Region.Mode} {fuel:Nat} {listed:Array Bool}
theorem bj2(i:Nat)(ho1:ops[i]?=some op)(hr:Region.ready md ops listed=[i])
  (hw:Region.wanted op (yielded ops a.tmps)=true) (ty:TypeId) (x y:Operand) (ho:op.op=.store ty x y) (b o:Nat) (hx:a.eval x=.pointer (some ⟨b,o,none⟩)) {cs us cs2:List Value} {T:TypeId} (H:i9 w b cs T)
  (hv:(a.eval y).cells.toList=us) (hi:(P.info? ty).map (·.size)=some us.length) (h1:us.all (·.oneCell')=true) (hl:o+us.length≤cs.length) (hcs:S6 cs o us=cs2) {w0:World} (g:d5 w0 w) (hb:w0.heap.size≤b)
  (h:∀ z:b5 w0,i9 z.w b cs2 T→w.grownBy z.w (some b)→S z.w∧wpAnyH P md ops Q S fuel (listed.setIfInBounds i true) (a.put op.dst undef) z.w):wpAnyH P md ops Q S (fuel+1) listed a w :=
 J8 i hr (wpOp_step ho1 (fun _ hK=>bl0 hw ty x y ho b o hx H hv hi h1 hl hcs g hb fun z h2 h3=>hK _ _ (h z h2 h3)))
end
