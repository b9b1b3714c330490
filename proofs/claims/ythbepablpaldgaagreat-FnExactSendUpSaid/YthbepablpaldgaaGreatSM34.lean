/- Steps for functions that copy structs: single loads out of boxes, the colours of what is made one after the other. -/
import Derived.Test.YthbepablpaldgaaGreatSOwnS
import Derived.Test.YthbepablpaldgaaGreatSM29
import Derived.Test.YthbepablpaldgaaGreatSM7
import Derived.Test.YthbepablpaldgaaGreatSStepH
import Derived.Test.YthbepablpaldgaaGreatSOkF
import Derived.Deep.CutRange
import Derived.Test.YthbepablpaldgaaGreatSM22
import Derived.Test.YthbepablpaldgaaGreatSOkS
import Derived.Test.YthbepablpaldgaaGreatSM0
namespace Go.Proofs.YthbepablpaldgaaGreat
set_option maxRecDepth 100000
set_option maxHeartbeats 4000000
set_option linter.unusedVariables false
open Go.ChangeShapes Go.WideShapes Go.ChangeAt Go.RowKit
private abbrev uu3:=Tryz.underlying3
private abbrev uu65:=Tryz.underlying65
section
variable {P:Program} {ops:Array Oper} {rest:List Oper} {op:Oper} {a:Act} {w:World} {Q:Exit→Act→World→Prop}
theorem stepLoad1(hgd:op.guard=none)(ty:TypeId)(x:Operand)(ho:op.op=.load ty x)(b o:Nat)(hx:a.eval x=.pointer (some ⟨b,o,none⟩)){cs:List Value}{T:TypeId}(H:Held w b cs T)(v:Value)(hv:cs[o]?=some v)
  (d:TypeDesc) (hu:P.underlying ty=some d) (hd:d.isRow=false) (h:wpList P ops Q rest (a.put op.dst v) w):wpList P ops Q (op::rest) a w:=by
 refine wpList_plain hgd fun _ hK=>?_
 have hagg:(isAgg ty).run P w=.ok false w:=by
  unfold isAgg
  rw[Sem.run_bind,run_underlying hu w]
  cases d<;>simp_all [TypeDesc.isRow]
 have hl:(loadVar ty ⟨b,o,none⟩).run P w=.ok v w:=by
  have hc:=H.cell o
  rw[hv]at hc
  simp[loadVar,Sem.run_bind,hagg,go_sem,hc]
 unfold Oper.wp execOp
 simp only[ho,hx,Instr.loadAt,Instr.sureAddr,Sem.run_bind,Sem.run_pure,Result.andThen_ok,hl]
 exact hK _ _ h
end
def pick:List (Nat × Nat × (Nat→Col))→Nat→Col
 | [],_=>(0,0)
 | (s,d,χ)::r,b=>if b<s then shift d (χ b)else pick r b
theorem pick_skip{s d:Nat}{χ:Nat→Col}{r:List (Nat × Nat × (Nat→Col))}{b:Nat}(h:s≤b):pick ((s,d,χ)::r) b=pick r b:=by rw[pick,if_neg (by omega)]
theorem pick_here{s d:Nat}{χ:Nat→Col}{r:List (Nat × Nat × (Nat→Col))}{b:Nat}(h:b<s):pick ((s,d,χ)::r) b=shift d (χ b):=by rw[pick,if_pos h]
theorem pick_skipD{D:List (Nat × Nat × (Nat→Col))}{j s d:Nat}{χ:Nat→Col}{b:Nat}(e:D[j]?=some (s,d,χ))(h:s≤b):pick (D.drop j) b=pick (D.drop (j+1)) b:=by
 obtain⟨hj,hx⟩:=List.getElem?_eq_some_iff.1 e
 rw[List.drop_eq_getElem_cons hj,hx,pick_skip h]
theorem pick_hereD{D:List (Nat × Nat × (Nat→Col))}{j s d:Nat}{χ:Nat→Col}{b:Nat}(e:D[j]?=some (s,d,χ))(h:b<s):pick (D.drop j) b=shift d (χ b):=by
 obtain⟨hj,hx⟩:=List.getElem?_eq_some_iff.1 e
 rw[List.drop_eq_getElem_cons hj,hx,pick_here h]
theorem But.keeps{b B:Nat}{w w':World}(h:But b w w')(hB:b<B):Keeps B w w':=⟨h.size,fun k h1 h2=>h.block k (by omega) h2⟩
theorem OwnC.re{α:Type}[E:Flat α]{B d:Nat}{χ χ2:Nat→Col}{w:World}{a:Option Addr}{c:Nat}{l:List α}(h:OwnC B χ2 (0,0) w a c l)(hc:∀ b,B≤b→b<w.heap.size→χ b=shift d (χ2 b)):OwnC B χ (d,0) w a c l :=
 h.recol fun k h1 h2 h3=>by rw[hc k h1 h2,h3];simp[shift]
theorem OwnC.reAt{α:Type}[E:Flat α]{B d j k:Nat}{χ χ2:Nat→Col}{w:World}{a:Option Addr}{c:Nat}{l:List α}(h:OwnC B χ2 (j,k) w a c l)(hc:∀ b,B≤b→b<w.heap.size→χ b=shift d (χ2 b)):OwnC B χ (d+j,k) w a c l :=
 h.recol fun k h1 h2 h3=>by rw[hc k h1 h2,h3];simp[shift,Nat.add_comm]
theorem OwnN.re{α β:Type}[N:Nest α β][F:Flat β]{B d:Nat}{χ χ2:Nat→Col}{w:World}{a:Option Addr}{c:Nat}{rows:List (NRow α)}(h:OwnN B χ2 0 w a c rows)(hc:∀ b,B≤b→b<w.heap.size→χ b=shift d (χ2 b)):OwnN B χ d w a c rows :=
 h.recol fun k j h1 h2 h3=>by rw[hc k h1 h2,h3];simp[shift]
theorem OwnN.reAt{α β:Type}[N:Nest α β][F:Flat β]{B d j:Nat}{χ χ2:Nat→Col}{w:World}{a:Option Addr}{c:Nat}{rows:List (NRow α)}(h:OwnN B χ2 j w a c rows)(hc:∀ b,B≤b→b<w.heap.size→χ b=shift d (χ2 b)):OwnN B χ (d+j) w a c rows :=
 h.recol fun k i h1 h2 h3=>by rw[hc k h1 h2,h3];simp[shift,Nat.add_comm]
--STRUCTS
theorem OwnN.oc{α β:Type}[N:Nest α β][F:Flat β]{B o o2:Nat}{χ:Nat→Col}{w:World}{a:Option Addr}{c:Nat}{rows:List (NRow α)}(h:OwnN B χ o w a c rows)(e:o=o2):OwnN B χ o2 w a c rows:=e▸h
theorem TPackerO.re{B d:Nat}{χ χ2:Nat→Col}{w:World}{a0:Option Addr}{c0:Nat}{x:TPacker}(h:TPackerO B χ2 0 w a0 c0 x)(hc:∀ b,B≤b→b<w.heap.size→χ b=shift d (χ2 b)):TPackerO B χ d w a0 c0 x:=⟨h.o0.re hc,h.ok⟩
theorem TSenderO.re{B d:Nat}{χ χ2:Nat→Col}{w:World}{a0:Option Addr}{c0:Nat}{x:TSender}(h:TSenderO B χ2 0 w a0 c0 x)(hc:∀ b,B≤b→b<w.heap.size→χ b=shift d (χ2 b)):TSenderO B χ d w a0 c0 x:=⟨h.o0.re hc,h.ok⟩
theorem TRecorderO.re{B d:Nat}{χ χ2:Nat→Col}{w:World}{a0:Option Addr}{c0:Nat}{a1:Option Addr}{c1:Nat}{x:TRecorder}(h:TRecorderO B χ2 0 w a0 c0 a1 c1 x)(hc:∀ b,B≤b→b<w.heap.size→χ b=shift d (χ2 b)):TRecorderO B χ d w a0 c0 a1 c1 x:=⟨h.o0.re hc,(h.o1.reAt (j:=0+1) hc).ic (by simp),h.ok⟩
theorem TBoardO.re{B d:Nat}{χ χ2:Nat→Col}{w:World}{A:TBoardA}{x:TBoard}(h:TBoardO B χ2 0 w A x)(hc:∀ b,B≤b→b<w.heap.size→χ b=shift d (χ2 b)):TBoardO B χ d w A x:=⟨h.o0.re hc,(h.o1.reAt (j:=0+1) hc).ic (by simp),(h.o2.reAt (j:=0+2) hc).ic (by simp),(h.o3.reAt (j:=0+3) hc).ic (by simp),(h.o4.reAt (j:=0+4) hc).ic (by simp),(h.o5.reAt (j:=0+5) hc).ic (by simp),(h.o6.reAt (j:=0+6) hc).ic (by simp),h.ok⟩
theorem TGroundO.re{B d:Nat}{χ χ2:Nat→Col}{w:World}{A:TGroundA}{x:TGround}(h:TGroundO B χ2 0 w A x)(hc:∀ b,B≤b→b<w.heap.size→χ b=shift d (χ2 b)):TGroundO B χ d w A x:=⟨h.o0.re hc,(h.o1.reAt (j:=0+1) hc).ic (by simp),(h.o2.reAt (j:=0+2) hc).ic (by simp),(h.o3.reAt (j:=0+3) hc).ic (by simp),h.o4.elim fun r hr=>⟨r,hr.1,(hr.2.reAt (j:=0+4) hc).oc (by omega)⟩,(h.o5.reAt (j:=0+5) hc).ic (by simp),h.ok⟩
theorem TSpaceO.re{B d:Nat}{χ χ2:Nat→Col}{w:World}{A:TSpaceA}{x:TSpace}(h:TSpaceO B χ2 0 w A x)(hc:∀ b,B≤b→b<w.heap.size→χ b=shift d (χ2 b)):TSpaceO B χ d w A x:=⟨h.o0.re hc,(h.o1.reAt (j:=0+1) hc).ic (by simp),(h.o2.reAt (j:=0+2) hc).ic (by simp),(h.o3.reAt (j:=0+3) hc).ic (by simp),(h.o4.reAt (j:=0+4) hc).ic (by simp),(h.o5.reAt (j:=0+5) hc).ic (by simp),(h.o6.reAt (j:=0+6) hc).ic (by simp),(h.o7.reAt (j:=0+7) hc).ic (by simp),(h.o8.reAt (j:=0+8) hc).ic (by simp),h.o9.elim fun r hr=>⟨r,hr.1,(hr.2.reAt (j:=0+9) hc).oc (by omega)⟩,(h.o10.reAt (j:=0+10) hc).ic (by simp),h.ok⟩
theorem aE{P:Program}{ops:Array Oper}{rest:List Oper}{op:Oper}{a:Act}{Q:Exit→Act→World→Prop}{B:Nat}{w:World}{α:Type}[E:Flat α]{t:TypeId}{l:List α}{ra:Option Addr}{c:Nat}(w0:World){z:Value}(size bytes:Nat)(hgd:op.guard=none)(s x:Operand)(ho:op.op=.call {callee:=.builtin .append,args:=#[s,x],argTypes:=#[t,t]})(ht:P.underlying t=some (.slice E.ty))(hq:RdS B w ra c l)(hb:l.length≤100000000)(g:Grows w (w0.alloc (.cells #[] E.ty)))
 (h:∀ (sa:Option Addr) (sc:Nat) (y:Later w0),Hid (OwnC w0.heap.size (fun _=>(0,0)) (0,0) y.w sa sc l)→wpList P ops Q rest (a.put op.dst (.slice sa l.length sc)) y.w)(hs:a.eval s=.slice (some ⟨w0.heap.size,0,none⟩) 0 0:=by rfl)(hx:a.eval x=.slice ra l.length c:=by rfl)(hinfo:(P.info? E.ty).map (fun i=>(i.zero,i.size,i.bytes))=some (some z,size,bytes):=by kernel_rfl)(hsz:E.size=size:=by rfl)(hzs:z.cells.size=size:=by rfl)(h0:0<size:=by decide)(hby:bytes≤1000:=by decide):wpList P ops Q (op::rest) a (w0.alloc (.cells #[] E.ty)):=by
 subst hsz
 refine wpList_appS (t:=t) (enc:=E.enc) (w0:=w0) (z:=z) (size:=E.size) (bytes:=bytes) (n:=0) (l:=[]) hgd s x ho ht hinfo hzs h0 hby hs hx hq.nilcap rfl rfl (Own.emptyAt E.encLen nl (by first|rfl|(simp;done))) (hq.keep ⟨g.out.size,fun b _ h=>g.out.block b h⟩).slF E.one (by omega) ?_
 intro sa sc y ho2 _
 rw[List.nil_append]at ho2
 have:=h sa sc y (OwnC.of ho2 hq.goods (0,0))
 rwa[Nat.zero_add]
section
variable {P:Program} {w:World}
theorem append_block(base:Nat)(t ty e:TypeId)(i:TypeInfo)(z:Value)(size bytes:Nat)(ht:P.underlying t=some (.slice e))(hi:P.info? e=some i)(hz:i.zero=some z)
  (hsize:i.size=size) (hby:i.bytes=bytes)
  (v:Value) (n:Nat) (xs:List Value) (hown:w.ownsRow base e size v n xs)
  (a:Addr) (m c:Nat) (news:List Value) (hl:news.length=m*size) (hnews:∀ j u,news[j]?=some u→w.cell? (a.add j)=some u) (h1:∀ u∈news,u.oneCell'=true)
  (h63:n+m≤maxLen) (hbytes:(n+m)*bytes≤140737488355328) {v':Value} {w':World}
  (hr:(Builtin.append_ #[t,t] ty #[v,.slice (some a) m c]).run P w=.ok v' w'):v'.ownBlock=v.ownBlock∨v'.ownBlock=some w.heap.size:=by
 subst hsize
 subst hby
 have hsmall:n+m≤9223372036854775807:=by simp only[maxLen]at h63;omega
 rcases hown.2 with⟨rfl,rfl⟩|⟨g,cap,cur,rfl,hbg,hg,hnc,hcm,hcs,htake⟩
 ·by_cases hm:m=0
  ·subst hm
   have hn:news=[]:=List.eq_nil_of_length_eq_zero (by simpa using hl)
   subst hn
   have hr2:(Builtin.append_ #[t,t] ty #[.slice none 0 0,.slice (some a) 0 c]).run P w=.ok (.slice none 0 0) w:=by
    simp[Builtin.append_,run_underlying ht,sizeOf,typeInfo,hi,Builtin.lenOf,Builtin.firstCells,loadCells,loadCellsFrom]
   have:=hr.symm.trans hr2
   injection this with e1 _
   exact .inl (by rw[e1])
  ·have hr2:=run_append_nil (P:=P) w t ty e i z ht hi hz a m c news hl hnews (by omega) (by omega) (by have hb:=hbytes;simp only[Nat.zero_add]at hb;omega)
   have:=hr.symm.trans hr2
   injection this with e1 _
   exact .inr (by rw[e1];rfl)
 ·by_cases hroom:n+m≤cap
  ·have hfit:n*i.size+news.length≤cur.size:=by rw[hl,hcs,← Nat.add_mul];exact Nat.mul_le_mul_right _ hroom
   have hr2:=run_append_room (P:=P) w t ty e i ht hi g n cap cur hg a m c news hl hnews h1 hroom hfit
   have:=hr.symm.trans hr2
   injection this with e1 _
   exact .inl (by rw[e1];rfl)
  ·have holds:∀ j u,xs[j]?=some u→w.cell? ((⟨g,0,none⟩:Addr).add j)=some u:=hown.cells (g:=g) rfl
   have hr2:=run_append_grow (P:=P) w t ty e i z ht hi hz ⟨g,0,none⟩ n cap xs hown.1 holds a m c news hl hnews (by omega) (by omega) (growslice_fits (by omega) hbytes)
   have:=hr.symm.trans hr2
   injection this with e1 _
   exact .inr (by rw[e1];rfl)
variable {o:Oper} {a:Act} {K:Act→World→Prop} {Q:Exit→Act→World→Prop} {α:Type} {enc:α→List Value} {T size:Nat}
theorem wp_app1F{w0:World}{T1:TypeId}{cs:Array Value}{t:TypeId}{bytes:Nat}{z:Value}(y:α)
  (s x:Operand) (ho:o.op=.call { callee:=.builtin .append,args:=#[s,x],argTypes:=#[t,t] })
  (ht:P.underlying t=some (.slice T)) (hinfo:(P.info? T).map (fun i=>(i.zero,i.size,i.bytes))=some (some z,size,bytes)) (hzs:z.cells.size=size) (hsz:0<size) (hby:bytes≤1000)
  {l:List α} {n:Nat} {sa:Option Addr} {sc:Nat} (hs:a.eval s=.slice sa n sc) {xb:Nat} (hx:a.eval x=.slice (some ⟨xb,0,none⟩) 1 1) (hn:l.length=n) {B:Nat} (hown:Own enc T size B w sa sc l)
  (hxc:w.heap[xb]?=some (.cells cs T1 (0,0))) (hy:cs.toList=enc y) (h1:∀ u∈enc y,u.oneCell'=true) (hb:n≤1000000000) (hB:B≤w.heap.size) (g:Grows w0 w) (hB0:w0.heap.size≤B)
  (h:∀ (sa':Option Addr) (sc':Nat) (x':Later w0),Own enc T size B x'.w sa' sc' (l++[y])→w.grownBy x'.w (Value.ownBlock (.slice sa n sc))→(blkOf sa'=blkOf sa∨blkOf sa'=some w.heap.size)→K (a.put o.dst (.slice sa' (n+1) sc')) x'.w) :
  Oper.wp P o a w K Q:=by
 obtain⟨i,hi,h3⟩:=Option.map_eq_some_iff.1 hinfo
 simp only[Prod.mk.injEq]at h3
 obtain⟨h4,h5,h6⟩:=h3
 subst hn
 have hb':(l.length+1)*bytes≤140737488355328:=by
  have:(l.length+1)*bytes≤(l.length+1)*1000:=Nat.mul_le_mul_left _ hby
  omega
 have hnl:(enc y).length=1*size:=by rw[hown.1];omega
 have hnews:∀ (j:Nat) (u:Value),(enc y)[j]?=some u→w.cell? ((⟨xb,0,none⟩:Addr).add j)=some u:=fun j u hj=>by
  have e:(⟨xb,0,none⟩:Addr).add j=⟨xb,j,none⟩:=by
   unfold Addr.add;split
   ·rename_i h;rw[h]
   ·simp
  rw[e]
  rw[← hy,Array.getElem?_toList]at hj
  simp[World.cell?,hxc,hj]
 obtain⟨v',w',hr,ho',hg',-⟩:=run_append_own (P:=P) w B t o.type T i z size bytes ht hi h4 h5 h6 hzs hsz _ l.length (l.flatMap enc) hown.2 ⟨xb,0,none⟩ 1 1 (enc y) hnl hnews h1 (by unfold maxLen;omega) hb' hB
 have hblk:=append_block B t o.type T i z size bytes ht hi h4 h5 h6 _ l.length (l.flatMap enc) hown.2 ⟨xb,0,none⟩ 1 1 (enc y) hnl hnews h1 (by unfold maxLen;omega) hb' hr
 have hlt:=hown.2.lt
 have hbel:Below w0.heap.size w0 w':=g.out.grown hg' g.out.size (fun k hk=>Nat.le_trans hB0 (hlt k hk).1)
 have hf:xs_form v' (l.length+1):=by
  rcases ho'.2 with⟨hv,hn0⟩|⟨g',cap,cur,hv,-⟩
  ·omega
  ·exact⟨_,_,hv⟩
 obtain⟨sa',sc',rfl⟩:=hf
 rw[ownBlock_eq,ownBlock_eq]at hblk
 unfold Oper.wp execOp
 simp only[ho,resolve,invoke,builtin,Sem.run_bind,Sem.run_pure,Result.andThen_ok,List.map_toArray,List.map_cons,List.map_nil,hs,hx,hr]
 refine h sa' sc' ⟨w',hbel⟩ ⟨hown.1,?_⟩ hg' hblk
 rw[List.flatMap_append,List.flatMap_singleton,List.length_append,List.length_singleton];exact ho'
theorem wpList_app1F{ops':Array Oper}{rest:List Oper}{w0:World}{T1:TypeId}{cs:Array Value}{t:TypeId}{bytes:Nat}{z:Value}(y:α)(hgd:o.guard=none)
  (s x:Operand) (ho:o.op=.call { callee:=.builtin .append,args:=#[s,x],argTypes:=#[t,t] })
  (ht:P.underlying t=some (.slice T)) (hinfo:(P.info? T).map (fun i=>(i.zero,i.size,i.bytes))=some (some z,size,bytes)) (hzs:z.cells.size=size) (hsz:0<size) (hby:bytes≤1000)
  {l:List α} {n:Nat} {sa:Option Addr} {sc:Nat} (hs:a.eval s=.slice sa n sc) {xb:Nat} (hx:a.eval x=.slice (some ⟨xb,0,none⟩) 1 1) (hn:l.length=n) {B:Nat} (hown:Own enc T size B w sa sc l)
  (hxc:w.heap[xb]?=some (.cells cs T1 (0,0))) (hy:cs.toList=enc y) (h1:∀ u∈enc y,u.oneCell'=true) (hb:n≤1000000000) (hB:B≤w.heap.size) (g:Grows w0 w) (hB0:w0.heap.size≤B)
  (h:∀ (sa':Option Addr) (sc':Nat) (x':Later w0),Own enc T size B x'.w sa' sc' (l++[y])→w.grownBy x'.w (Value.ownBlock (.slice sa n sc))→(blkOf sa'=blkOf sa∨blkOf sa'=some w.heap.size)→wpList P ops' Q rest (a.put o.dst (.slice sa' (n+1) sc')) x'.w) :
  wpList P ops' Q (o::rest) a w :=
 wpList_plain hgd fun _ hK=>wp_app1F (w0:=w0) y s x ho ht hinfo hzs hsz hby hs hx hn hown hxc hy h1 hb hB g hB0 fun sa' sc' x' h2 h3 h4=>hK _ _ (h sa' sc' x' h2 h3 h4)
theorem st_app1F{ops:Array Oper}(hw:Region.wanted o (yielded ops a.tmps)=true){E:Prop}{w0:World}{T1:TypeId}{cs:Array Value}{t:TypeId}{bytes:Nat}{z:Value}(y:α)
  (s x:Operand) (ho:o.op=.call { callee:=.builtin .append,args:=#[s,x],argTypes:=#[t,t] })
  (ht:P.underlying t=some (.slice T)) (hinfo:(P.info? T).map (fun i=>(i.zero,i.size,i.bytes))=some (some z,size,bytes)) (hzs:z.cells.size=size) (hsz:0<size) (hby:bytes≤1000)
  {l:List α} {n:Nat} {sa:Option Addr} {sc:Nat} (hs:a.eval s=.slice sa n sc) {xb:Nat} (hx:a.eval x=.slice (some ⟨xb,0,none⟩) 1 1) (hn:l.length=n) {B:Nat} (hown:Own enc T size B w sa sc l)
  (hxc:w.heap[xb]?=some (.cells cs T1 (0,0))) (hy:cs.toList=enc y) (h1:∀ u∈enc y,u.oneCell'=true) (hb:n≤1000000000) (hB:B≤w.heap.size) (g:Grows w0 w) (hB0:w0.heap.size≤B)
  (h:∀ (sa':Option Addr) (sc':Nat) (x':Later w0),Own enc T size B x'.w sa' sc' (l++[y])→w.grownBy x'.w (Value.ownBlock (.slice sa n sc))→(blkOf sa'=blkOf sa∨blkOf sa'=some w.heap.size)→K (a.put o.dst (.slice sa' (n+1) sc')) x'.w) :
  if Region.wanted o (yielded ops a.tmps)=true then Oper.wp P o a w K Q else E:=by
 rw[if_pos hw]
 exact wp_app1F (w0:=w0) y s x ho ht hinfo hzs hsz hby hs hx hn hown hxc hy h1 hb hB g hB0 h
end
theorem OwnC.appd{α:Type}[E:Flat α]{B:Nat}{χ:Nat→Col}{i:Col}{w w':World}{a a':Option Addr}{c c':Nat}{l l':List α}(h:OwnC B χ i w a c l)(ho:Own E.enc E.ty E.size B w' a' c' l')(hb:blkOf a'=blkOf a∨blkOf a'=some w.heap.size)(hg:∀ x∈l',E.good x) :
  OwnC B (paint w.heap.size χ (fun _=>i) id) i w' a' c' l':=by
 refine⟨ho,fun k hk=>?_,hg⟩
 rcases hb with hb|hb
 ·rw[hb]at hk
  rw[paint,if_pos (h.own.blk k hk).2];exact h.col k hk
 ·rw[hb]at hk
  cases hk
  rw[paint,if_neg (by omega)];rfl
theorem o_cloneRecorder{B:Nat}{vs:List Value}{x:TRecorder}{w:World}(h:Enc.Rd B w vs x)(ht:Enc.tot x≤100000000) :
  Calls Tryz.prog 212 #[.agg vs.toArray] w (GivesO w x):=by
 obtain⟨a0,c0,a1,c1,rfl,q0,q1,hok⟩:=h
 have HT:=lH (show x.Records.length≤100000000∧x.Dropped.length≤100000000∧True from by
  have:Enc.tot x=totL x.Records+totL x.Dropped:=rfl
  have:=totL_nonneg x.Records;have:=totL_len x.Records
  have:=totL_nonneg x.Dropped;have:=totL_len x.Dropped
  refine⟨?_,?_,trivial⟩<;>omega)
 have HT0:=lH ht;clear ht
 have HQ0:=lH q0;clear q0
 have HQ1:=lH q1;clear q1
 have HOK:=lH hok;clear hok
 have S0:=lH ((Held.new w [.int .i64 x.Room,.slice a0 x.Records.length c0,.slice a1 x.Dropped.length c1] 82 w.heap.size rfl).to (ii:Grows _ ((w.alloc (.cells #[.int .i64 x.Room,.slice a0 x.Records.length c0,.slice a1 x.Dropped.length c1] 82)).alloc (.cells #[.int .i64 0,.slice none 0 0,.slice none 0 0] 82))))
 have R0:=lH ((Held.new (w.alloc (.cells #[.int .i64 x.Room,.slice a0 x.Records.length c0,.slice a1 x.Dropped.length c1] 82)) [.int .i64 0,.slice none 0 0,.slice none 0 0] 82 (w.heap.size+1) (by simp)).to (ii:Grows _ ((w.alloc (.cells #[.int .i64 x.Room,.slice a0 x.Records.length c0,.slice a1 x.Dropped.length c1] 82)).alloc (.cells #[.int .i64 0,.slice none 0 0,.slice none 0 0] 82))))
 go_enter Tryz.func212,Tryz.ntmps212
 go_wp2_with (first|(refine stepLoad1 rfl _ _ rfl w.heap.size 1 rfl (S0.out.to ii) _ rfl _ Tryz.underlying73 rfl ?_))
 refine(o_cloneTRecord (HQ0.out.keep ii) (HT.out.1)).mono ?_
 rintro _ _ ⟨na0,nc0,rfl,no0,y0,rfl⟩
 have O0:=lH no0;clear no0
 go_wp2_with (first|(refine sS rfl _ _ _ rfl (w.heap.size) 1 rfl (us:=[.slice na0 x.Records.length nc0]) (cs2:=[.int .i64 x.Room,.slice na0 x.Records.length nc0,.slice a1 x.Dropped.length c1]) (S0.out.to ii) rfl kr rfl nb kr (w0:=w) ii (by simp) ?_;intro z1 HZ1 KQ1;have K1:=KQ1;have RZ1:=lH ((R0.out.to ii).but KQ1.out (by omega));clear KQ1;have e1:LeN (w.heap.size+2) z1.w.heap.size:=⟨RZ1.out.lt⟩;clear R0 S0)|(refine stepLoad1 rfl _ _ rfl w.heap.size 2 rfl (HZ1.out.to ii) _ rfl _ Tryz.underlying46 rfl ?_))
 refine(o_cloneInt (HQ1.out.keep ii) (HT.out.2.1)).mono ?_
 rintro _ _ ⟨na1,nc1,rfl,no1,y1,rfl⟩
 have O1:=lH no1;clear no1
 go_wp2_with (first|(refine sS rfl _ _ _ rfl (w.heap.size) 2 rfl (us:=[.slice na1 x.Dropped.length nc1]) (cs2:=[.int .i64 x.Room,.slice na0 x.Records.length nc0,.slice na1 x.Dropped.length nc1]) (HZ1.out.to ii) rfl kr rfl nb kr (w0:=w) ii (by simp) ?_;intro z2 HZ2 KQ2;have K2:=KQ2;have RZ2:=lH ((RZ1.out.to ii).but KQ2.out (by omega));clear KQ2;have e2:LeN (w.heap.size+2) z2.w.heap.size:=⟨RZ2.out.lt⟩;clear HZ1 RZ1)|(refine stepLoad rfl _ _ rfl (w.heap.size) 0 rfl (row:=[.int .i64 x.Room,.slice na0 x.Records.length nc0,.slice na1 x.Dropped.length nc1]) (HZ2.out.to ii) _ Tryz.underlying82 rfl kr kr ?_)|(refine sS rfl _ _ _ rfl (w.heap.size+1) 0 rfl (us:=[.int .i64 x.Room,.slice na0 x.Records.length nc0,.slice na1 x.Dropped.length nc1]) (cs2:=[.int .i64 x.Room,.slice na0 x.Records.length nc0,.slice na1 x.Dropped.length nc1]) (RZ2.out.to ii) rfl kr rfl nb kr (w0:=w) ii (by simp) ?_;intro zr HR KQr;have KR:=KQr;clear KQr))
 have GZ2:Keeps (w.heap.size+2) z2.w zr.w:=KR.out.keeps (by omega)
 have GY1:Keeps (w.heap.size+2) y1.w zr.w:=Keeps.trans (K2.out.keeps (by omega)) GZ2
 have GZ1:Keeps (w.heap.size+2) z1.w zr.w:=Keeps.trans (ii:Keeps (w.heap.size+2) z1.w y1.w) GY1
 have GY0:Keeps (w.heap.size+2) y0.w zr.w:=Keeps.trans (K1.out.keeps (by omega)) GZ1
 obtain⟨D,hD⟩:∃ D:List (Nat × Nat × (Nat→Col)),D=[(y0.w.heap.size,0,(fun _=>(0,0))),(y1.w.heap.size,1,(fun _=>(0,0)))]:=⟨_,rfl⟩
 have e0:D[0]?=some (y0.w.heap.size,0,(fun _=>(0,0))):=by rw[hD];rfl
 have e1:D[1]?=some (y1.w.heap.size,1,(fun _=>(0,0))):=by rw[hD];rfl
 clear hD
 have P0:∀ b,pick D b=pick (D.drop 0) b:=fun _=>rfl
 have C0:∀ b,((w.alloc (.cells #[.int .i64 x.Room,.slice a0 x.Records.length c0,.slice a1 x.Dropped.length c1] 82)).alloc (.cells #[.int .i64 0,.slice none 0 0,.slice none 0 0] 82)).heap.size≤b→b<y0.w.heap.size→pick D b=shift 0 ((fun _=>(0,0)) b):=fun b h1 h2=>(P0 b).trans (pick_hereD e0 h2)
 have P1:∀ b,y0.w.heap.size≤b→pick D b=pick (D.drop 1) b:=fun b hb=>(P0 b).trans (pick_skipD e0 hb)
 have C1:∀ b,z1.w.heap.size≤b→b<y1.w.heap.size→pick D b=shift 1 ((fun _=>(0,0)) b):=fun b h1 h2=>(P1 b (Nat.le_trans K1.out.size h1)).trans (pick_hereD e1 h2)
 refine bodyPost_ret (v:=.agg #[.int .i64 x.Room,.slice na0 x.Records.length nc0,.slice na1 x.Dropped.length nc1]) (results_cell (P:=Tryz.prog) rfl rfl HR.out _ Tryz.underlying82 rfl kr) rfl ⟨[.int .i64 x.Room,.slice na0 x.Records.length nc0,.slice na1 x.Dropped.length nc1],pick D,rfl,⟨na0,nc0,na1,nc1,rfl,⟨((((O0.out.re C0).mono (LeN.out (a:=w.heap.size+2))).keep GY0).mono (by omega)),((((O1.out.re C1).mono (LeN.out (a:=w.heap.size+2))).keep GY1).mono (by omega)),HOK.out⟩⟩,Later.of⟩
theorem o_cloneSender{B:Nat}{vs:List Value}{x:TSender}{w:World}(h:Enc.Rd B w vs x)(ht:Enc.tot x≤100000000) :
  Calls Tryz.prog 110 #[.agg vs.toArray] w (GivesO w x):=by
 obtain⟨a0,c0,rfl,q0,hok⟩:=h
 have HT:=lH (show x.Waiting.length≤100000000∧True from by
  have:Enc.tot x=totL x.Waiting:=rfl
  have:=totL_nonneg x.Waiting;have:=totL_len x.Waiting
  refine⟨?_,trivial⟩<;>omega)
 have HT0:=lH ht;clear ht
 have HQ0:=lH q0;clear q0
 have HOK:=lH hok;clear hok
 have S0:=lH ((Held.new w [.int .i64 x.Next,.int .i64 x.Window,.slice a0 x.Waiting.length c0,.int .i64 x.Done] 69 w.heap.size rfl).to (ii:Grows _ ((w.alloc (.cells #[.int .i64 x.Next,.int .i64 x.Window,.slice a0 x.Waiting.length c0,.int .i64 x.Done] 69)).alloc (.cells #[.int .i64 0,.int .i64 0,.slice none 0 0,.int .i64 0] 69))))
 have R0:=lH ((Held.new (w.alloc (.cells #[.int .i64 x.Next,.int .i64 x.Window,.slice a0 x.Waiting.length c0,.int .i64 x.Done] 69)) [.int .i64 0,.int .i64 0,.slice none 0 0,.int .i64 0] 69 (w.heap.size+1) (by simp)).to (ii:Grows _ ((w.alloc (.cells #[.int .i64 x.Next,.int .i64 x.Window,.slice a0 x.Waiting.length c0,.int .i64 x.Done] 69)).alloc (.cells #[.int .i64 0,.int .i64 0,.slice none 0 0,.int .i64 0] 69))))
 go_enter Tryz.func110,Tryz.ntmps110
 go_wp2_with (first|(refine stepLoad1 rfl _ _ rfl w.heap.size 2 rfl (S0.out.to ii) _ rfl _ Tryz.underlying67 rfl ?_))
 refine(o_cloneTSent (HQ0.out.keep ii) (HT.out.1)).mono ?_
 rintro _ _ ⟨na0,nc0,rfl,no0,y0,rfl⟩
 have O0:=lH no0;clear no0
 go_wp2_with (first|(refine sS rfl _ _ _ rfl (w.heap.size) 2 rfl (us:=[.slice na0 x.Waiting.length nc0]) (cs2:=[.int .i64 x.Next,.int .i64 x.Window,.slice na0 x.Waiting.length nc0,.int .i64 x.Done]) (S0.out.to ii) rfl kr rfl nb kr (w0:=w) ii (by simp) ?_;intro z1 HZ1 KQ1;have K1:=KQ1;have RZ1:=lH ((R0.out.to ii).but KQ1.out (by omega));clear KQ1;have e1:LeN (w.heap.size+2) z1.w.heap.size:=⟨RZ1.out.lt⟩;clear R0 S0)|(refine stepLoad rfl _ _ rfl (w.heap.size) 0 rfl (row:=[.int .i64 x.Next,.int .i64 x.Window,.slice na0 x.Waiting.length nc0,.int .i64 x.Done]) (HZ1.out.to ii) _ Tryz.underlying69 rfl kr kr ?_)|(refine sS rfl _ _ _ rfl (w.heap.size+1) 0 rfl (us:=[.int .i64 x.Next,.int .i64 x.Window,.slice na0 x.Waiting.length nc0,.int .i64 x.Done]) (cs2:=[.int .i64 x.Next,.int .i64 x.Window,.slice na0 x.Waiting.length nc0,.int .i64 x.Done]) (RZ1.out.to ii) rfl kr rfl nb kr (w0:=w) ii (by simp) ?_;intro zr HR KQr;have KR:=KQr;clear KQr))
 have GZ1:Keeps (w.heap.size+2) z1.w zr.w:=KR.out.keeps (by omega)
 have GY0:Keeps (w.heap.size+2) y0.w zr.w:=Keeps.trans (K1.out.keeps (by omega)) GZ1
 obtain⟨D,hD⟩:∃ D:List (Nat × Nat × (Nat→Col)),D=[(y0.w.heap.size,0,(fun _=>(0,0)))]:=⟨_,rfl⟩
 have e0:D[0]?=some (y0.w.heap.size,0,(fun _=>(0,0))):=by rw[hD];rfl
 clear hD
 have P0:∀ b,pick D b=pick (D.drop 0) b:=fun _=>rfl
 have C0:∀ b,((w.alloc (.cells #[.int .i64 x.Next,.int .i64 x.Window,.slice a0 x.Waiting.length c0,.int .i64 x.Done] 69)).alloc (.cells #[.int .i64 0,.int .i64 0,.slice none 0 0,.int .i64 0] 69)).heap.size≤b→b<y0.w.heap.size→pick D b=shift 0 ((fun _=>(0,0)) b):=fun b h1 h2=>(P0 b).trans (pick_hereD e0 h2)
 refine bodyPost_ret (v:=.agg #[.int .i64 x.Next,.int .i64 x.Window,.slice na0 x.Waiting.length nc0,.int .i64 x.Done]) (results_cell (P:=Tryz.prog) rfl rfl HR.out _ Tryz.underlying69 rfl kr) rfl ⟨[.int .i64 x.Next,.int .i64 x.Window,.slice na0 x.Waiting.length nc0,.int .i64 x.Done],pick D,rfl,⟨na0,nc0,rfl,⟨((((O0.out.re C0).mono (LeN.out (a:=w.heap.size+2))).keep GY0).mono (by omega)),HOK.out⟩⟩,Later.of⟩
theorem o_clonePacker{B:Nat}{vs:List Value}{x:TPacker}{w:World}(h:Enc.Rd B w vs x)(ht:Enc.tot x≤100000000) :
  Calls Tryz.prog 117 #[.agg vs.toArray] w (GivesO w x):=by
 obtain⟨a0,c0,rfl,q0,hok⟩:=h
 have HT:=lH (show x.Starts.length≤100000000∧True from by
  have:Enc.tot x=(x.Rest.size:Int)+totL x.Starts:=rfl
  have:=totL_nonneg x.Starts;have:=totL_len x.Starts
  refine⟨?_,trivial⟩<;>omega)
 have HT0:=lH ht;clear ht
 have HQ0:=lH q0;clear q0
 have HOK:=lH hok;clear hok
 have S0:=lH ((Held.new w [.int .i64 x.Channel,.int .i64 x.Count,.string x.Rest,.slice a0 x.Starts.length c0] 85 w.heap.size rfl).to (ii:Grows _ ((w.alloc (.cells #[.int .i64 x.Channel,.int .i64 x.Count,.string x.Rest,.slice a0 x.Starts.length c0] 85)).alloc (.cells #[.int .i64 0,.int .i64 0,.string ⟨#[]⟩,.slice none 0 0] 85))))
 have R0:=lH ((Held.new (w.alloc (.cells #[.int .i64 x.Channel,.int .i64 x.Count,.string x.Rest,.slice a0 x.Starts.length c0] 85)) [.int .i64 0,.int .i64 0,.string ⟨#[]⟩,.slice none 0 0] 85 (w.heap.size+1) (by simp)).to (ii:Grows _ ((w.alloc (.cells #[.int .i64 x.Channel,.int .i64 x.Count,.string x.Rest,.slice a0 x.Starts.length c0] 85)).alloc (.cells #[.int .i64 0,.int .i64 0,.string ⟨#[]⟩,.slice none 0 0] 85))))
 go_enter Tryz.func117,Tryz.ntmps117
 go_wp2_with (first|(refine stepLoad1 rfl _ _ rfl w.heap.size 3 rfl (S0.out.to ii) _ rfl _ Tryz.underlying46 rfl ?_))
 refine(o_cloneInt (HQ0.out.keep ii) (HT.out.1)).mono ?_
 rintro _ _ ⟨na0,nc0,rfl,no0,y0,rfl⟩
 have O0:=lH no0;clear no0
 go_wp2_with (first|(refine sS rfl _ _ _ rfl (w.heap.size) 3 rfl (us:=[.slice na0 x.Starts.length nc0]) (cs2:=[.int .i64 x.Channel,.int .i64 x.Count,.string x.Rest,.slice na0 x.Starts.length nc0]) (S0.out.to ii) rfl kr rfl nb kr (w0:=w) ii (by simp) ?_;intro z1 HZ1 KQ1;have K1:=KQ1;have RZ1:=lH ((R0.out.to ii).but KQ1.out (by omega));clear KQ1;have e1:LeN (w.heap.size+2) z1.w.heap.size:=⟨RZ1.out.lt⟩;clear R0 S0)|(refine stepLoad rfl _ _ rfl (w.heap.size) 0 rfl (row:=[.int .i64 x.Channel,.int .i64 x.Count,.string x.Rest,.slice na0 x.Starts.length nc0]) (HZ1.out.to ii) _ Tryz.underlying85 rfl kr kr ?_)|(refine sS rfl _ _ _ rfl (w.heap.size+1) 0 rfl (us:=[.int .i64 x.Channel,.int .i64 x.Count,.string x.Rest,.slice na0 x.Starts.length nc0]) (cs2:=[.int .i64 x.Channel,.int .i64 x.Count,.string x.Rest,.slice na0 x.Starts.length nc0]) (RZ1.out.to ii) rfl kr rfl nb kr (w0:=w) ii (by simp) ?_;intro zr HR KQr;have KR:=KQr;clear KQr))
 have GZ1:Keeps (w.heap.size+2) z1.w zr.w:=KR.out.keeps (by omega)
 have GY0:Keeps (w.heap.size+2) y0.w zr.w:=Keeps.trans (K1.out.keeps (by omega)) GZ1
 obtain⟨D,hD⟩:∃ D:List (Nat × Nat × (Nat→Col)),D=[(y0.w.heap.size,0,(fun _=>(0,0)))]:=⟨_,rfl⟩
 have e0:D[0]?=some (y0.w.heap.size,0,(fun _=>(0,0))):=by rw[hD];rfl
 clear hD
 have P0:∀ b,pick D b=pick (D.drop 0) b:=fun _=>rfl
 have C0:∀ b,((w.alloc (.cells #[.int .i64 x.Channel,.int .i64 x.Count,.string x.Rest,.slice a0 x.Starts.length c0] 85)).alloc (.cells #[.int .i64 0,.int .i64 0,.string ⟨#[]⟩,.slice none 0 0] 85)).heap.size≤b→b<y0.w.heap.size→pick D b=shift 0 ((fun _=>(0,0)) b):=fun b h1 h2=>(P0 b).trans (pick_hereD e0 h2)
 refine bodyPost_ret (v:=.agg #[.int .i64 x.Channel,.int .i64 x.Count,.string x.Rest,.slice na0 x.Starts.length nc0]) (results_cell (P:=Tryz.prog) rfl rfl HR.out _ Tryz.underlying85 rfl kr) rfl ⟨[.int .i64 x.Channel,.int .i64 x.Count,.string x.Rest,.slice na0 x.Starts.length nc0],pick D,rfl,⟨na0,nc0,rfl,⟨((((O0.out.re C0).mono (LeN.out (a:=w.heap.size+2))).keep GY0).mono (by omega)),HOK.out⟩⟩,Later.of⟩
theorem o_cloneFileIn{B:Nat}{vs:List Value}{x:TFileIn}{w:World}(h:Enc.Rd B w vs x)(ht:Enc.tot x≤100000000) :
  Calls Tryz.prog 114 #[.agg vs.toArray] w (GivesO w x):=by
 obtain⟨a0,c0,rfl,q0,hok⟩:=h
 have HT:=lH (show x.Parts.length≤100000000∧True from by
  have:Enc.tot x=totL x.Parts:=rfl
  have:=totL_nonneg x.Parts;have:=totL_len x.Parts
  refine⟨?_,trivial⟩<;>omega)
 have HT0:=lH ht;clear ht
 have HQ0:=lH q0;clear q0
 have HOK:=lH hok;clear hok
 have S0:=lH ((Held.new w [.int .i64 x.File,.int .i64 x.Size,.int .i64 x.Check,.slice a0 x.Parts.length c0] 154 w.heap.size rfl).to (ii:Grows _ ((w.alloc (.cells #[.int .i64 x.File,.int .i64 x.Size,.int .i64 x.Check,.slice a0 x.Parts.length c0] 154)).alloc (.cells #[.int .i64 0,.int .i64 0,.int .i64 0,.slice none 0 0] 154))))
 have R0:=lH ((Held.new (w.alloc (.cells #[.int .i64 x.File,.int .i64 x.Size,.int .i64 x.Check,.slice a0 x.Parts.length c0] 154)) [.int .i64 0,.int .i64 0,.int .i64 0,.slice none 0 0] 154 (w.heap.size+1) (by simp)).to (ii:Grows _ ((w.alloc (.cells #[.int .i64 x.File,.int .i64 x.Size,.int .i64 x.Check,.slice a0 x.Parts.length c0] 154)).alloc (.cells #[.int .i64 0,.int .i64 0,.int .i64 0,.slice none 0 0] 154))))
 go_enter Tryz.func114,Tryz.ntmps114
 go_wp2_with (first|(refine stepLoad1 rfl _ _ rfl w.heap.size 3 rfl (S0.out.to ii) _ rfl _ Tryz.underlying30 rfl ?_))
 refine(o_cloneByteArray (HQ0.out.keep ii) (HT.out.1)).mono ?_
 rintro _ _ ⟨na0,nc0,rfl,no0,y0,rfl⟩
 have O0:=lH no0;clear no0
 go_wp2_with (first|(refine sS rfl _ _ _ rfl (w.heap.size) 3 rfl (us:=[.slice na0 x.Parts.length nc0]) (cs2:=[.int .i64 x.File,.int .i64 x.Size,.int .i64 x.Check,.slice na0 x.Parts.length nc0]) (S0.out.to ii) rfl kr rfl nb kr (w0:=w) ii (by simp) ?_;intro z1 HZ1 KQ1;have K1:=KQ1;have RZ1:=lH ((R0.out.to ii).but KQ1.out (by omega));clear KQ1;have e1:LeN (w.heap.size+2) z1.w.heap.size:=⟨RZ1.out.lt⟩;clear R0 S0)|(refine stepLoad rfl _ _ rfl (w.heap.size) 0 rfl (row:=[.int .i64 x.File,.int .i64 x.Size,.int .i64 x.Check,.slice na0 x.Parts.length nc0]) (HZ1.out.to ii) _ Tryz.underlying154 rfl kr kr ?_)|(refine sS rfl _ _ _ rfl (w.heap.size+1) 0 rfl (us:=[.int .i64 x.File,.int .i64 x.Size,.int .i64 x.Check,.slice na0 x.Parts.length nc0]) (cs2:=[.int .i64 x.File,.int .i64 x.Size,.int .i64 x.Check,.slice na0 x.Parts.length nc0]) (RZ1.out.to ii) rfl kr rfl nb kr (w0:=w) ii (by simp) ?_;intro zr HR KQr;have KR:=KQr;clear KQr))
 have GZ1:Keeps (w.heap.size+2) z1.w zr.w:=KR.out.keeps (by omega)
 have GY0:Keeps (w.heap.size+2) y0.w zr.w:=Keeps.trans (K1.out.keeps (by omega)) GZ1
 obtain⟨D,hD⟩:∃ D:List (Nat × Nat × (Nat→Col)),D=[(y0.w.heap.size,0,(fun _=>(0,0)))]:=⟨_,rfl⟩
 have e0:D[0]?=some (y0.w.heap.size,0,(fun _=>(0,0))):=by rw[hD];rfl
 clear hD
 have P0:∀ b,pick D b=pick (D.drop 0) b:=fun _=>rfl
 have C0:∀ b,((w.alloc (.cells #[.int .i64 x.File,.int .i64 x.Size,.int .i64 x.Check,.slice a0 x.Parts.length c0] 154)).alloc (.cells #[.int .i64 0,.int .i64 0,.int .i64 0,.slice none 0 0] 154)).heap.size≤b→b<y0.w.heap.size→pick D b=shift 0 ((fun _=>(0,0)) b):=fun b h1 h2=>(P0 b).trans (pick_hereD e0 h2)
 refine bodyPost_ret (v:=.agg #[.int .i64 x.File,.int .i64 x.Size,.int .i64 x.Check,.slice na0 x.Parts.length nc0]) (results_cell (P:=Tryz.prog) rfl rfl HR.out _ Tryz.underlying154 rfl kr) rfl ⟨[.int .i64 x.File,.int .i64 x.Size,.int .i64 x.Check,.slice na0 x.Parts.length nc0],pick D,rfl,⟨na0,nc0,rfl,⟨((((O0.out.re C0).mono (LeN.out (a:=w.heap.size+2))).keep GY0).mono (by omega)),HOK.out⟩⟩,Later.of⟩
theorem o_cloneFileOut{B:Nat}{vs:List Value}{x:TFileOut}{w:World}(h:Enc.Rd B w vs x)(ht:Enc.tot x≤100000000) :
  Calls Tryz.prog 119 #[.agg vs.toArray] w (GivesO w x):=by
 obtain⟨a0,c0,rfl,q0,hok⟩:=h
 have HT:=lH (show x.Queue.length≤100000000∧True from by
  have:Enc.tot x=(x.Data.size:Int)+totL x.Queue:=rfl
  have:=totL_nonneg x.Queue;have:=totL_len x.Queue
  refine⟨?_,trivial⟩<;>omega)
 have HT0:=lH ht;clear ht
 have HQ0:=lH q0;clear q0
 have HOK:=lH hok;clear hok
 have S0:=lH ((Held.new w [.int .i64 x.File,.string x.Data,.slice a0 x.Queue.length c0,.bool x.Done] 105 w.heap.size rfl).to (ii:Grows _ ((w.alloc (.cells #[.int .i64 x.File,.string x.Data,.slice a0 x.Queue.length c0,.bool x.Done] 105)).alloc (.cells #[.int .i64 0,.string ⟨#[]⟩,.slice none 0 0,.bool false] 105))))
 have R0:=lH ((Held.new (w.alloc (.cells #[.int .i64 x.File,.string x.Data,.slice a0 x.Queue.length c0,.bool x.Done] 105)) [.int .i64 0,.string ⟨#[]⟩,.slice none 0 0,.bool false] 105 (w.heap.size+1) (by simp)).to (ii:Grows _ ((w.alloc (.cells #[.int .i64 x.File,.string x.Data,.slice a0 x.Queue.length c0,.bool x.Done] 105)).alloc (.cells #[.int .i64 0,.string ⟨#[]⟩,.slice none 0 0,.bool false] 105))))
 go_enter Tryz.func119,Tryz.ntmps119
 go_wp2_with (first|(refine stepLoad1 rfl _ _ rfl w.heap.size 2 rfl (S0.out.to ii) _ rfl _ Tryz.underlying46 rfl ?_))
 refine(o_cloneInt (HQ0.out.keep ii) (HT.out.1)).mono ?_
 rintro _ _ ⟨na0,nc0,rfl,no0,y0,rfl⟩
 have O0:=lH no0;clear no0
 go_wp2_with (first|(refine sS rfl _ _ _ rfl (w.heap.size) 2 rfl (us:=[.slice na0 x.Queue.length nc0]) (cs2:=[.int .i64 x.File,.string x.Data,.slice na0 x.Queue.length nc0,.bool x.Done]) (S0.out.to ii) rfl kr rfl nb kr (w0:=w) ii (by simp) ?_;intro z1 HZ1 KQ1;have K1:=KQ1;have RZ1:=lH ((R0.out.to ii).but KQ1.out (by omega));clear KQ1;have e1:LeN (w.heap.size+2) z1.w.heap.size:=⟨RZ1.out.lt⟩;clear R0 S0)|(refine stepLoad rfl _ _ rfl (w.heap.size) 0 rfl (row:=[.int .i64 x.File,.string x.Data,.slice na0 x.Queue.length nc0,.bool x.Done]) (HZ1.out.to ii) _ Tryz.underlying105 rfl kr kr ?_)|(refine sS rfl _ _ _ rfl (w.heap.size+1) 0 rfl (us:=[.int .i64 x.File,.string x.Data,.slice na0 x.Queue.length nc0,.bool x.Done]) (cs2:=[.int .i64 x.File,.string x.Data,.slice na0 x.Queue.length nc0,.bool x.Done]) (RZ1.out.to ii) rfl kr rfl nb kr (w0:=w) ii (by simp) ?_;intro zr HR KQr;have KR:=KQr;clear KQr))
 have GZ1:Keeps (w.heap.size+2) z1.w zr.w:=KR.out.keeps (by omega)
 have GY0:Keeps (w.heap.size+2) y0.w zr.w:=Keeps.trans (K1.out.keeps (by omega)) GZ1
 obtain⟨D,hD⟩:∃ D:List (Nat × Nat × (Nat→Col)),D=[(y0.w.heap.size,0,(fun _=>(0,0)))]:=⟨_,rfl⟩
 have e0:D[0]?=some (y0.w.heap.size,0,(fun _=>(0,0))):=by rw[hD];rfl
 clear hD
 have P0:∀ b,pick D b=pick (D.drop 0) b:=fun _=>rfl
 have C0:∀ b,((w.alloc (.cells #[.int .i64 x.File,.string x.Data,.slice a0 x.Queue.length c0,.bool x.Done] 105)).alloc (.cells #[.int .i64 0,.string ⟨#[]⟩,.slice none 0 0,.bool false] 105)).heap.size≤b→b<y0.w.heap.size→pick D b=shift 0 ((fun _=>(0,0)) b):=fun b h1 h2=>(P0 b).trans (pick_hereD e0 h2)
 refine bodyPost_ret (v:=.agg #[.int .i64 x.File,.string x.Data,.slice na0 x.Queue.length nc0,.bool x.Done]) (results_cell (P:=Tryz.prog) rfl rfl HR.out _ Tryz.underlying105 rfl kr) rfl ⟨[.int .i64 x.File,.string x.Data,.slice na0 x.Queue.length nc0,.bool x.Done],pick D,rfl,⟨na0,nc0,rfl,⟨((((O0.out.re C0).mono (LeN.out (a:=w.heap.size+2))).keep GY0).mono (by omega)),HOK.out⟩⟩,Later.of⟩
theorem o_cloneBoard{B:Nat}{vs:List Value}{x:TBoard}{w:World}(h:Enc.Rd B w vs x)(ht:Enc.tot x≤100000000) :
  Calls Tryz.prog 116 #[.agg vs.toArray] w (GivesO w x):=by
 obtain⟨A,rfl,F⟩:=h
 have HT:=lH (show x.Params.length≤100000000∧x.Limits.length≤100000000∧x.Orders.length≤100000000∧x.Done.length≤100000000∧Enc.tot x.Recorder≤100000000∧x.Asked.length≤100000000∧True from by
  have:Enc.tot x=totL x.Params+totL x.Limits+totL x.Orders+totL x.Done+Enc.tot x.Recorder+totL x.Asked:=rfl
  have:=totL_nonneg x.Params;have:=totL_len x.Params
  have:=totL_nonneg x.Limits;have:=totL_len x.Limits
  have:=totL_nonneg x.Orders;have:=totL_len x.Orders
  have:=totL_nonneg x.Done;have:=totL_len x.Done
  have:=Enc.tot_nonneg x.Recorder
  have:Enc.tot x.Recorder=totL x.Recorder.Records+totL x.Recorder.Dropped:=rfl
  have:=totL_nonneg x.Recorder.Records;have:=totL_len x.Recorder.Records
  have:=totL_nonneg x.Recorder.Dropped;have:=totL_len x.Recorder.Dropped
  have:=totL_nonneg x.Asked;have:=totL_len x.Asked
  refine⟨?_,?_,?_,?_,?_,?_,trivial⟩<;>omega)
 have HT0:=lH ht;clear ht
 have HFF:=lH F;clear F
 have S0:=lH ((Held.new w (dBoard x A) 84 w.heap.size rfl).to (ii:Grows _ ((w.alloc (.cells (dBoard x A).toArray 84)).alloc (.cells zBoard.toArray 84))))
 have R0:=lH ((Held.new (w.alloc (.cells (dBoard x A).toArray 84)) zBoard 84 (w.heap.size+1) (by simp)).to (ii:Grows _ ((w.alloc (.cells (dBoard x A).toArray 84)).alloc (.cells zBoard.toArray 84))))
 go_enter Tryz.func116,Tryz.ntmps116
 go_wp2_with (first|(refine stepLoad1 rfl _ _ rfl w.heap.size 1 rfl (S0.out.to ii) _ rfl _ Tryz.underlying46 rfl ?_))
 refine(o_cloneInt (HFF.out.q0.keep ii) (HT.out.1)).mono ?_
 rintro _ _ ⟨na0,nc0,rfl,no0,y0,rfl⟩
 have O0:=lH no0;clear no0
 go_wp2_with (first|(refine sS rfl _ _ _ rfl (w.heap.size) 1 rfl (us:=[.slice na0 x.Params.length nc0]) (cs2:=(cBoard x na0 nc0 A.a1 A.c1 A.a2 A.c2 A.a3 A.c3 A.a4 A.c4 A.a5 A.c5 A.a6 A.c6)) (S0.out.to ii) rfl kr rfl nb kr (w0:=w) ii (by simp) ?_;intro z1 HZ1 KQ1;have K1:=KQ1;have RZ1:=lH ((R0.out.to ii).but KQ1.out (by omega));clear KQ1;have e1:LeN (w.heap.size+2) z1.w.heap.size:=⟨RZ1.out.lt⟩;clear R0 S0)|(refine stepLoad1 rfl _ _ rfl w.heap.size 3 rfl (HZ1.out.to ii) _ rfl _ Tryz.underlying78 rfl ?_))
 refine(o_cloneTLimit (HFF.out.q1.keep ii) (HT.out.2.1)).mono ?_
 rintro _ _ ⟨na1,nc1,rfl,no1,y1,rfl⟩
 have O1:=lH no1;clear no1
 go_wp2_with (first|(refine sS rfl _ _ _ rfl (w.heap.size) 3 rfl (us:=[.slice na1 x.Limits.length nc1]) (cs2:=(cBoard x na0 nc0 na1 nc1 A.a2 A.c2 A.a3 A.c3 A.a4 A.c4 A.a5 A.c5 A.a6 A.c6)) (HZ1.out.to ii) rfl kr rfl nb kr (w0:=w) ii (by simp) ?_;intro z2 HZ2 KQ2;have K2:=KQ2;have RZ2:=lH ((RZ1.out.to ii).but KQ2.out (by omega));clear KQ2;have e2:LeN (w.heap.size+2) z2.w.heap.size:=⟨RZ2.out.lt⟩;clear HZ1 RZ1)|(refine stepLoad1 rfl _ _ rfl w.heap.size 4 rfl (HZ2.out.to ii) _ rfl _ Tryz.underlying79 rfl ?_))
 refine(o_cloneTWaiting (HFF.out.q2.keep ii) (HT.out.2.2.1)).mono ?_
 rintro _ _ ⟨na2,nc2,rfl,no2,y2,rfl⟩
 have O2:=lH no2;clear no2
 go_wp2_with (first|(refine sS rfl _ _ _ rfl (w.heap.size) 4 rfl (us:=[.slice na2 x.Orders.length nc2]) (cs2:=(cBoard x na0 nc0 na1 nc1 na2 nc2 A.a3 A.c3 A.a4 A.c4 A.a5 A.c5 A.a6 A.c6)) (HZ2.out.to ii) rfl kr rfl nb kr (w0:=w) ii (by simp) ?_;intro z3 HZ3 KQ3;have K3:=KQ3;have RZ3:=lH ((RZ2.out.to ii).but KQ3.out (by omega));clear KQ3;have e3:LeN (w.heap.size+2) z3.w.heap.size:=⟨RZ3.out.lt⟩;clear HZ2 RZ2)|(refine stepLoad1 rfl _ _ rfl w.heap.size 5 rfl (HZ3.out.to ii) _ rfl _ Tryz.underlying80 rfl ?_))
 refine(o_cloneTDone (HFF.out.q3.keep ii) (HT.out.2.2.2.1)).mono ?_
 rintro _ _ ⟨na3,nc3,rfl,no3,y3,rfl⟩
 have O3:=lH no3;clear no3
 go_wp2_with (first|(refine sS rfl _ _ _ rfl (w.heap.size) 5 rfl (us:=[.slice na3 x.Done.length nc3]) (cs2:=(cBoard x na0 nc0 na1 nc1 na2 nc2 na3 nc3 A.a4 A.c4 A.a5 A.c5 A.a6 A.c6)) (HZ3.out.to ii) rfl kr rfl nb kr (w0:=w) ii (by simp) ?_;intro z4 HZ4 KQ4;have K4:=KQ4;have RZ4:=lH ((RZ3.out.to ii).but KQ4.out (by omega));clear KQ4;have e4:LeN (w.heap.size+2) z4.w.heap.size:=⟨RZ4.out.lt⟩;clear HZ3 RZ3)|(refine stepLoad rfl _ _ rfl w.heap.size 6 rfl (row:=[.int .i64 x.Recorder.Room,.slice A.a4 x.Recorder.Records.length A.c4,.slice A.a5 x.Recorder.Dropped.length A.c5]) (HZ4.out.to ii) _ Tryz.underlying82 rfl kr kr ?_))
 refine(o_cloneRecorder (x:=x.Recorder) ⟨A.a4,A.c4,A.a5,A.c5,rfl,HFF.out.q4.keep ii,HFF.out.q5.keep ii,HFF.out.ok.2.1⟩ (HT.out.2.2.2.2.1)).mono ?_
 rintro _ _ ⟨_,ch4,rfl,⟨b4a0,b4c0,b4a1,b4c1,rfl,no4⟩,y4,rfl⟩
 have O4:=lH no4;clear no4
 go_wp2_with (first|(refine sS rfl _ _ _ rfl (w.heap.size) 6 rfl (us:=[.int .i64 x.Recorder.Room,.slice b4a0 x.Recorder.Records.length b4c0,.slice b4a1 x.Recorder.Dropped.length b4c1]) (cs2:=(cBoard x na0 nc0 na1 nc1 na2 nc2 na3 nc3 b4a0 b4c0 b4a1 b4c1 A.a6 A.c6)) (HZ4.out.to ii) rfl kr rfl nb kr (w0:=w) ii (by simp) ?_;intro z5 HZ5 KQ5;have K5:=KQ5;have RZ5:=lH ((RZ4.out.to ii).but KQ5.out (by omega));clear KQ5;have e5:LeN (w.heap.size+2) z5.w.heap.size:=⟨RZ5.out.lt⟩;clear HZ4 RZ4)|(refine stepLoad1 rfl _ _ rfl w.heap.size 11 rfl (HZ5.out.to ii) _ rfl _ Tryz.underlying46 rfl ?_))
 refine(o_cloneInt (HFF.out.q6.keep ii) (HT.out.2.2.2.2.2.1)).mono ?_
 rintro _ _ ⟨na6,nc6,rfl,no6,y5,rfl⟩
 have O5:=lH no6;clear no6
 go_wp2_with (first|(refine sS rfl _ _ _ rfl (w.heap.size) 11 rfl (us:=[.slice na6 x.Asked.length nc6]) (cs2:=(cBoard x na0 nc0 na1 nc1 na2 nc2 na3 nc3 b4a0 b4c0 b4a1 b4c1 na6 nc6)) (HZ5.out.to ii) rfl kr rfl nb kr (w0:=w) ii (by simp) ?_;intro z6 HZ6 KQ6;have K6:=KQ6;have RZ6:=lH ((RZ5.out.to ii).but KQ6.out (by omega));clear KQ6;have e6:LeN (w.heap.size+2) z6.w.heap.size:=⟨RZ6.out.lt⟩;clear HZ5 RZ5)|(refine stepLoad rfl _ _ rfl (w.heap.size) 0 rfl (row:=(cBoard x na0 nc0 na1 nc1 na2 nc2 na3 nc3 b4a0 b4c0 b4a1 b4c1 na6 nc6)) (HZ6.out.to ii) _ Tryz.underlying84 rfl kr kr ?_)|(refine sS rfl _ _ _ rfl (w.heap.size+1) 0 rfl (us:=(cBoard x na0 nc0 na1 nc1 na2 nc2 na3 nc3 b4a0 b4c0 b4a1 b4c1 na6 nc6)) (cs2:=(cBoard x na0 nc0 na1 nc1 na2 nc2 na3 nc3 b4a0 b4c0 b4a1 b4c1 na6 nc6)) (RZ6.out.to ii) rfl kr rfl nb kr (w0:=w) ii (by simp) ?_;intro zr HR KQr;have KR:=KQr;clear KQr))
 have GZ6:Keeps (w.heap.size+2) z6.w zr.w:=KR.out.keeps (by omega)
 have GY5:Keeps (w.heap.size+2) y5.w zr.w:=Keeps.trans (K6.out.keeps (by omega)) GZ6
 have GZ5:Keeps (w.heap.size+2) z5.w zr.w:=Keeps.trans (ii:Keeps (w.heap.size+2) z5.w y5.w) GY5
 have GY4:Keeps (w.heap.size+2) y4.w zr.w:=Keeps.trans (K5.out.keeps (by omega)) GZ5
 have GZ4:Keeps (w.heap.size+2) z4.w zr.w:=Keeps.trans (ii:Keeps (w.heap.size+2) z4.w y4.w) GY4
 have GY3:Keeps (w.heap.size+2) y3.w zr.w:=Keeps.trans (K4.out.keeps (by omega)) GZ4
 have GZ3:Keeps (w.heap.size+2) z3.w zr.w:=Keeps.trans (ii:Keeps (w.heap.size+2) z3.w y3.w) GY3
 have GY2:Keeps (w.heap.size+2) y2.w zr.w:=Keeps.trans (K3.out.keeps (by omega)) GZ3
 have GZ2:Keeps (w.heap.size+2) z2.w zr.w:=Keeps.trans (ii:Keeps (w.heap.size+2) z2.w y2.w) GY2
 have GY1:Keeps (w.heap.size+2) y1.w zr.w:=Keeps.trans (K2.out.keeps (by omega)) GZ2
 have GZ1:Keeps (w.heap.size+2) z1.w zr.w:=Keeps.trans (ii:Keeps (w.heap.size+2) z1.w y1.w) GY1
 have GY0:Keeps (w.heap.size+2) y0.w zr.w:=Keeps.trans (K1.out.keeps (by omega)) GZ1
 obtain⟨D,hD⟩:∃ D:List (Nat × Nat × (Nat→Col)),D=[(y0.w.heap.size,0,(fun _=>(0,0))),(y1.w.heap.size,1,(fun _=>(0,0))),(y2.w.heap.size,2,(fun _=>(0,0))),(y3.w.heap.size,3,(fun _=>(0,0))),(y4.w.heap.size,4,ch4),(y5.w.heap.size,6,(fun _=>(0,0)))]:=⟨_,rfl⟩
 have e0:D[0]?=some (y0.w.heap.size,0,(fun _=>(0,0))):=by rw[hD];rfl
 have e1:D[1]?=some (y1.w.heap.size,1,(fun _=>(0,0))):=by rw[hD];rfl
 have e2:D[2]?=some (y2.w.heap.size,2,(fun _=>(0,0))):=by rw[hD];rfl
 have e3:D[3]?=some (y3.w.heap.size,3,(fun _=>(0,0))):=by rw[hD];rfl
 have e4:D[4]?=some (y4.w.heap.size,4,ch4):=by rw[hD];rfl
 have e5:D[5]?=some (y5.w.heap.size,6,(fun _=>(0,0))):=by rw[hD];rfl
 clear hD
 have P0:∀ b,pick D b=pick (D.drop 0) b:=fun _=>rfl
 have C0:∀ b,((w.alloc (.cells (dBoard x A).toArray 84)).alloc (.cells zBoard.toArray 84)).heap.size≤b→b<y0.w.heap.size→pick D b=shift 0 ((fun _=>(0,0)) b):=fun b h1 h2=>(P0 b).trans (pick_hereD e0 h2)
 have P1:∀ b,y0.w.heap.size≤b→pick D b=pick (D.drop 1) b:=fun b hb=>(P0 b).trans (pick_skipD e0 hb)
 have C1:∀ b,z1.w.heap.size≤b→b<y1.w.heap.size→pick D b=shift 1 ((fun _=>(0,0)) b):=fun b h1 h2=>(P1 b (Nat.le_trans K1.out.size h1)).trans (pick_hereD e1 h2)
 have P2:∀ b,y1.w.heap.size≤b→pick D b=pick (D.drop 2) b:=fun b hb=>(P1 b (Nat.le_trans (Nat.le_trans K1.out.size y1.size_le) hb)).trans (pick_skipD e1 hb)
 have C2:∀ b,z2.w.heap.size≤b→b<y2.w.heap.size→pick D b=shift 2 ((fun _=>(0,0)) b):=fun b h1 h2=>(P2 b (Nat.le_trans K2.out.size h1)).trans (pick_hereD e2 h2)
 have P3:∀ b,y2.w.heap.size≤b→pick D b=pick (D.drop 3) b:=fun b hb=>(P2 b (Nat.le_trans (Nat.le_trans K2.out.size y2.size_le) hb)).trans (pick_skipD e2 hb)
 have C3:∀ b,z3.w.heap.size≤b→b<y3.w.heap.size→pick D b=shift 3 ((fun _=>(0,0)) b):=fun b h1 h2=>(P3 b (Nat.le_trans K3.out.size h1)).trans (pick_hereD e3 h2)
 have P4:∀ b,y3.w.heap.size≤b→pick D b=pick (D.drop 4) b:=fun b hb=>(P3 b (Nat.le_trans (Nat.le_trans K3.out.size y3.size_le) hb)).trans (pick_skipD e3 hb)
 have C4:∀ b,z4.w.heap.size≤b→b<y4.w.heap.size→pick D b=shift 4 (ch4 b):=fun b h1 h2=>(P4 b (Nat.le_trans K4.out.size h1)).trans (pick_hereD e4 h2)
 have P5:∀ b,y4.w.heap.size≤b→pick D b=pick (D.drop 5) b:=fun b hb=>(P4 b (Nat.le_trans (Nat.le_trans K4.out.size y4.size_le) hb)).trans (pick_skipD e4 hb)
 have C5:∀ b,z5.w.heap.size≤b→b<y5.w.heap.size→pick D b=shift 6 ((fun _=>(0,0)) b):=fun b h1 h2=>(P5 b (Nat.le_trans K5.out.size h1)).trans (pick_hereD e5 h2)
 have Q4:=lH ((((O4.out.re C4).mono (LeN.out (a:=w.heap.size+2))).keep GY4).mono (B2:=w.heap.size) (by omega))
 refine bodyPost_ret (v:=.agg (cBoard x na0 nc0 na1 nc1 na2 nc2 na3 nc3 b4a0 b4c0 b4a1 b4c1 na6 nc6).toArray) (results_cell (P:=Tryz.prog) rfl rfl HR.out _ Tryz.underlying84 rfl kr) rfl ⟨(cBoard x na0 nc0 na1 nc1 na2 nc2 na3 nc3 b4a0 b4c0 b4a1 b4c1 na6 nc6),pick D,rfl,⟨⟨na0,nc0,na1,nc1,na2,nc2,na3,nc3,b4a0,b4c0,b4a1,b4c1,na6,nc6⟩,rfl,⟨((((O0.out.re C0).mono (LeN.out (a:=w.heap.size+2))).keep GY0).mono (by omega)),((((O1.out.re C1).mono (LeN.out (a:=w.heap.size+2))).keep GY1).mono (by omega)),((((O2.out.re C2).mono (LeN.out (a:=w.heap.size+2))).keep GY2).mono (by omega)),((((O3.out.re C3).mono (LeN.out (a:=w.heap.size+2))).keep GY3).mono (by omega)),Q4.out.o0,Q4.out.o1,((((O5.out.re C5).mono (LeN.out (a:=w.heap.size+2))).keep GY5).mono (by omega)),HFF.out.ok⟩⟩,Later.of⟩
theorem encN_one{α β:Type}[N:Nest α β](r:NRow α):∀ u∈encN r,u.oneCell'=true:=N.one _ _ _
class NestInv(α:Type){β:Type}[N:Nest α β][F:Flat β]:Prop where
 inv:∀ {B w vs x},N.Rd B w vs x→∃ a c,vs=N.cells x a c∧N.good x∧RdS B w a c (N.inner x)
section
variable {α β:Type} [N:Nest α β] [F:Flat β]
theorem RdS.rows[I:NestInv α]{B:Nat}{w:World}{a:Option Addr}{c:Nat}{l:List α}(h:RdS B w a c l):∃ rows:List (NRow α),rows.length=l.length∧rows.map (·.x)=l∧Sl (encN (α:=α)) w a rows∧∀ (i:Nat) (r:NRow α),rows[i]?=some r→N.good r.x∧RdS B w r.a r.c (N.inner r.x):=by
 have hp:∀ i,i<l.length→∃ r:NRow α,some r.x=l[i]?∧(∃ b off,a=some ⟨b,off,none⟩∧b<w.heap.size∧∀ (j:Nat) (v:Value),(encN r)[j]?=some v→w.cell? ⟨b,off+i*(encN r).length+j,none⟩=some v)∧N.good r.x∧RdS B w r.a r.c (N.inner r.x):=fun i hi=>by
  obtain⟨b,off,vs,h0,-,h2,h3,h4⟩:=h.2.2.2 i l[i] (List.getElem?_eq_getElem hi)
  obtain⟨a1,c1,rfl,h5,h6⟩:=I.inv h3
  exact⟨⟨l[i],a1,c1⟩,(List.getElem?_eq_getElem hi).symm,⟨b,off,h0,h2,fun j v hv=>by rw[encN_len];exact h4 j v hv⟩,h5,h6⟩
 have key:∀ n,(∀ i,i<n→∃ r:NRow α,some r.x=l[i]?∧(∃ b off,a=some ⟨b,off,none⟩∧b<w.heap.size∧∀ (j:Nat) (v:Value),(encN r)[j]?=some v→w.cell? ⟨b,off+i*(encN r).length+j,none⟩=some v)∧N.good r.x∧RdS B w r.a r.c (N.inner r.x)) →
   ∃ rows:List (NRow α),rows.length=n∧∀ (i:Nat) (r:NRow α),rows[i]?=some r→some r.x=l[i]?∧(∃ b off,a=some ⟨b,off,none⟩∧b<w.heap.size∧∀ (j:Nat) (v:Value),(encN r)[j]?=some v→w.cell? ⟨b,off+i*(encN r).length+j,none⟩=some v)∧N.good r.x∧RdS B w r.a r.c (N.inner r.x):=by
  intro n
  induction n with
  | zero=>exact fun _=>⟨[],rfl,fun i r h=>by simp at h⟩
  | succ n ih =>
   intro hq
   obtain⟨rows,h1,h2⟩:=ih (fun i hi=>hq i (by omega))
   obtain⟨r,h3⟩:=hq n (by omega)
   refine⟨rows++[r],by simp[h1],fun i s hs=>?_⟩
   by_cases hi:i<n
   ·exact h2 i s (by rwa[List.getElem?_append_left (by omega)]at hs)
   ·have hlt:=(List.getElem?_eq_some_iff.1 hs).1
    simp at hlt
    obtain rfl:i=n:=by omega
    rw[List.getElem?_append_right (by omega)]at hs
    simp[h1]at hs
    subst hs;exact h3
 obtain⟨rows,h1,h2⟩:=key l.length hp
 refine⟨rows,h1,?_,fun i r hr=>(h2 i r hr).2.1,fun i r hr=>(h2 i r hr).2.2⟩
 refine List.ext_getElem? fun i=>?_
 rw[List.getElem?_map]
 cases hr:rows[i]? with
 | none=>rw[Option.map_none];exact(List.getElem?_eq_none_iff.2 (by rw[← h1];exact List.getElem?_eq_none_iff.1 hr)).symm
 | some r=>exact(h2 i r hr).1
structure NPart(B:Nat)(χ:Nat→Col)(w:World)(a:Option Addr)(c:Nat)(rows0 rows:List (NRow α))(k:Nat):Prop where
 own:Own (encN (α:=α)) N.ty N.size B w a c rows
 col:∀ b,blkOf a=some b→χ b=(0,0)
 done:∀ i r,i<k→rows[i]?=some r→N.good r.x∧OwnC B χ (0,i+1) w r.a r.c (N.inner r.x)
 left:∀ i,k≤i→rows[i]?=rows0[i]?
 xs:rows.map (·.x)=rows0.map (·.x)
variable {B k:Nat} {χ χ2:Nat→Col} {w W1 W2 Z:World} {a ra:Option Addr} {c rc:Nat} {rows0 rows:List (NRow α)} {x:α}
theorem NPart.start(h:Own (encN (α:=α)) N.ty N.size B w a c rows):NPart B (fun _=>(0,0)) w a c rows rows 0:=⟨h,fun _ _=>rfl,fun i r h=>by omega,fun _ _=>rfl,rfl⟩
theorem NPart.but{b:Nat}{w':World}(h:NPart B χ w a c rows0 rows k)(g:But b w w')(hb:b<B):NPart B χ w' a c rows0 rows k :=
 ⟨h.own.same (fun q _ h1 h2=>g.block q (by omega) h2),h.col,fun i r hi hr=>⟨(h.done i r hi hr).1,(h.done i r hi hr).2.keep (g.keeps hb)⟩,h.left,h.xs⟩
theorem NPart.len(h:NPart B χ w a c rows0 rows k):rows.length=rows0.length:=by have:=congrArg List.length h.xs;simpa using this
theorem NPart.step(h:NPart B χ w a c rows0 rows k)(g:Grows w W1)(hB:B≤W1.heap.size){i0:Col}(hi:OwnC W1.heap.size χ2 i0 W2 ra rc (N.inner x))(g2:Grows W1 W2){r0:NRow α}(h0:rows0[k]?=some r0)(hx:r0.x=x)(hgd:N.good x)
  (hown:Own (encN (α:=α)) N.ty N.size B Z a c (rows.set k ⟨x,ra,rc⟩)) (hg:W2.grownBy Z (blkOf a)):NPart B (paint W1.heap.size χ χ2 (fun _=>(0,k+1))) Z a c rows0 (rows.set k ⟨x,ra,rc⟩) (k+1):=by
 have hblk:=h.own.blk
 have hcol:∀ b,blkOf a=some b→paint W1.heap.size χ χ2 (fun _=>(0,k+1)) b=(0,0):=fun b hb=>by
  rw[paint,if_pos (Nat.lt_of_lt_of_le (hblk b hb).2 g.out.size)];exact h.col b hb
 have hfr:Fr B (paint W1.heap.size χ χ2 (fun _=>(0,k+1))) (·=(0,0)) W2 Z:=⟨hg.os,hg.tape,hg.output,hg.size,fun b h2 h3=>hg.block b h2 (fun e=>h3 ⟨(hblk b e.symm).1,hcol b e.symm⟩)⟩
 have hk:k<rows.length:=by rw[h.len];exact(List.getElem?_eq_some_iff.1 h0).1
 refine⟨hown,hcol,fun i r hik hr=>?_,fun i hik=>?_,?_⟩
 ·by_cases hi2:i<k
  ·rw[List.getElem?_set_ne (by omega)]at hr
   obtain⟨h1,h2⟩:=h.done i r hi2 hr
   refine⟨h1,((h2.old g.out.size).to ⟨g.out.trans (g2.out.mono g.out.size)⟩).fr hfr ?_⟩
   intro e;simp at e
  ·obtain rfl:i=k:=by omega
   rw[List.getElem?_set_self hk]at hr
   cases hr
   refine⟨hgd,((hi.new (B:=W1.heap.size) nl).mono hB).fr hfr ?_⟩
   intro e;simp at e
 ·rw[List.getElem?_set_ne (by omega)];exact h.left i (by omega)
 ·rw[← h.xs]
  refine List.ext_getElem? fun i=>?_
  rw[List.getElem?_map,List.getElem?_map,List.getElem?_set]
  split
  ·rename_i e
   subst e
   have:=h.left k nl
   rw[h0]at this
   first|(rw[if_pos hk,this];simp[hx])|(rw[this];simp[hx])
  ·rfl
theorem NPart.fin(h:NPart B χ w a c rows0 rows k)(hk:rows.length≤k):OwnN B χ 0 w a c rows:=⟨h.own,h.col,fun i r hr=>h.done i r (by have:=(List.getElem?_eq_some_iff.1 hr).1;omega) hr⟩
def grown(U V:Nat)(χ:Nat→Col)(n:Nat):Nat→Col:=paint U χ (paint V (fun _=>(0,n)) (fun _=>(0,0)) id) id
theorem OwnN.grow{χ2:Nat→Col}{W2:World}{ra:Option Addr}{rc:Nat}{x:α}(h:OwnN B χ 0 w a c rows)(g:Grows w W1)(hB:B≤W1.heap.size){i0:Col}(hi:OwnC W1.heap.size χ2 i0 W2 ra rc (N.inner x))(g2:Grows W1 W2)(hgd:N.good x){a':Option Addr}{c':Nat}{W3:World}(g3:Grows W2 W3)
  (hown:Own (encN (α:=α)) N.ty N.size B Z a' c' (rows++[⟨x,ra,rc⟩])) (hg:W3.grownBy Z (blkOf a)) (hb:blkOf a'=blkOf a∨blkOf a'=some W3.heap.size) :
  OwnN B (grown W1.heap.size W3.heap.size χ (rows.length+1)) 0 Z a' c' (rows++[⟨x,ra,rc⟩]):=by
 have hblk:=h.own.blk
 have l1:=g.out.size
 have l2:=g2.out.size
 have l3:=g3.out.size
 have hcol:∀ b,blkOf a=some b→grown W1.heap.size W3.heap.size χ (rows.length+1) b=(0,0):=fun b hb=>by
  have:=(hblk b hb).2
  rw[grown,paint,if_pos (by omega)];exact h.col b hb
 have hfr:Fr B (grown W1.heap.size W3.heap.size χ (rows.length+1)) (·=(0,0)) W3 Z:=⟨hg.os,hg.tape,hg.output,hg.size,fun b h2 h3=>hg.block b h2 (fun e=>h3 ⟨(hblk b e.symm).1,hcol b e.symm⟩)⟩
 refine⟨hown,fun k hk=>?_,fun i r hr=>?_⟩
 ·rcases hb with hb|hb
  ·exact hcol k (by rw[← hb];exact hk)
  ·rw[hb]at hk
   cases hk
   rw[grown,paint,if_neg (by omega),paint,if_neg (by omega)];rfl
 ·by_cases hi2:i<rows.length
  ·rw[List.getElem?_append_left hi2]at hr
   obtain⟨h1,h2⟩:=h.each i r hr
   refine⟨h1,((h2.old l1).to ⟨g.out.trans ((g2.out.trans (g3.out.mono l2)).mono l1)⟩).fr hfr ?_⟩
   intro e;simp at e
  ·have hlt:=(List.getElem?_eq_some_iff.1 hr).1
   simp at hlt
   obtain rfl:i=rows.length:=by omega
   rw[List.getElem?_append_right nl]at hr
   simp at hr
   subst hr
   refine⟨hgd,(((hi.recol (χ':=grown W1.heap.size W3.heap.size χ (rows.length+1)) (i':=(0,rows.length+1)) (fun k h1 h2 _=>?_)).mono hB).to g3).fr hfr ?_⟩
   ·rw[grown,paint,if_neg (by omega),paint,if_pos (by omega)];rfl
   ·intro e;simp at e
end
instance NestInv.iTFileIn:NestInv TFileIn where
 inv:=by rintro _ _ _ _ ⟨a0,c0,rfl,q0,hok⟩;exact⟨a0,c0,rfl,hok,q0⟩
theorem Sl.nFileIn{w:World}{a:Option Addr}{l:List (NRow TFileIn)}(h:Sl (encN (α:=TFileIn)) w a l){k:Nat}(hk:k<l.length) :
  ∃ b off r,a=some ⟨b,off,none⟩∧LtN b w.heap.size∧Hid (l.drop k=r::l.drop (k+1))∧(∀ (W:World) [Grows w W],W.cell? ⟨b,off+k*4,none⟩=some (.int .i64 r.x.File))∧(∀ (W:World) [Grows w W],W.cell? ⟨b,off+k*4+1,none⟩=some (.int .i64 r.x.Size))∧(∀ (W:World) [Grows w W],W.cell? ⟨b,off+k*4+2,none⟩=some (.int .i64 r.x.Check))∧(∀ (W:World) [Grows w W],W.cell? ⟨b,off+k*4+3,none⟩=some (.slice r.a r.x.Parts.length r.c)):=by
 obtain⟨r,hs,hd⟩:=drop_at hk
 obtain⟨b,off,ha,hb,hc⟩:=h k r hs
 exact⟨b,off,r,ha,⟨hb⟩,hd,cell_grown hb (hc 0 _ rfl),cell_grown hb (hc 1 _ rfl),cell_grown hb (hc 2 _ rfl),cell_grown hb (hc 3 _ rfl)⟩
theorem c_cloneNTFileIn{a:Option Addr}{n c:Nat}{l:List (NRow TFileIn)}{w:World}(hs:Sl (encN (α:=TFileIn)) w a l)(hn:l.length=n)(hm:n≤100000000) :
  Calls Tryz.prog 113 #[.slice a n c] w (GivesSl (encN (α:=TFileIn)) 154 4 w l):=by
 cases a with
 | none =>
  have hl:l=[]:=by
   cases l with
   | nil=>rfl
   | cons y r=>obtain⟨b,off,h0,-⟩:=hs 0 y rfl;cases h0
  have hq:=fun(w:World)=>run_eql_slice_nil (P:=Tryz.prog) w 74 154 none n c Tryz.underlying74
  simp only[Option.isNone]at hq
  have HL:=lH hl;clear hl
  go_enter Tryz.func113,Tryz.ntmps113
  go_wp2_with (fail)
  go_ret
  exact GivesSl.nilOf (encN_len (α:=TFileIn)) HL.out
 | some ad =>
  have hq:=fun(w:World)=>run_eql_slice_nil (P:=Tryz.prog) w 74 154 (some ad) n c Tryz.underlying74
  simp only[Option.isNone]at hq
  go_enter Tryz.func113,Tryz.ntmps113
  go_wp2_with (first|(at_builtin;refine wpList_appS (enc:=(encN (α:=TFileIn))) (w0:=w) (z:=.agg #[.int .i64 0,.int .i64 0,.int .i64 0,.slice none 0 0]) (size:=4) (bytes:=48) (n:=0) (l:=[]) rfl (.tmp 5) (.tmp 6) rfl Tryz.underlying74 kr rfl (by decide) (by decide) rfl rfl (fun h=>by cases h) rfl hn (Own.emptyAt (encN_len (α:=TFileIn)) nl rfl) (hs.to ii) (encN_one (α:=TFileIn)) (by omega) ?_;intro sa1 sc1 x1 hown1 hgr1))
  go_ret
  rw[List.nil_append]at hown1
  exact⟨sa1,sc1,by rw[hn];first|rfl|simp,hown1,Later.of⟩
instance NestInv.iTFileOut:NestInv TFileOut where
 inv:=by rintro _ _ _ _ ⟨a0,c0,rfl,q0,hok⟩;exact⟨a0,c0,rfl,hok,q0⟩
theorem Sl.nFileOut{w:World}{a:Option Addr}{l:List (NRow TFileOut)}(h:Sl (encN (α:=TFileOut)) w a l){k:Nat}(hk:k<l.length) :
  ∃ b off r,a=some ⟨b,off,none⟩∧LtN b w.heap.size∧Hid (l.drop k=r::l.drop (k+1))∧(∀ (W:World) [Grows w W],W.cell? ⟨b,off+k*4,none⟩=some (.int .i64 r.x.File))∧(∀ (W:World) [Grows w W],W.cell? ⟨b,off+k*4+1,none⟩=some (.string r.x.Data))∧(∀ (W:World) [Grows w W],W.cell? ⟨b,off+k*4+2,none⟩=some (.slice r.a r.x.Queue.length r.c))∧(∀ (W:World) [Grows w W],W.cell? ⟨b,off+k*4+3,none⟩=some (.bool r.x.Done)):=by
 obtain⟨r,hs,hd⟩:=drop_at hk
 obtain⟨b,off,ha,hb,hc⟩:=h k r hs
 exact⟨b,off,r,ha,⟨hb⟩,hd,cell_grown hb (hc 0 _ rfl),cell_grown hb (hc 1 _ rfl),cell_grown hb (hc 2 _ rfl),cell_grown hb (hc 3 _ rfl)⟩
theorem c_cloneNTFileOut{a:Option Addr}{n c:Nat}{l:List (NRow TFileOut)}{w:World}(hs:Sl (encN (α:=TFileOut)) w a l)(hn:l.length=n)(hm:n≤100000000) :
  Calls Tryz.prog 118 #[.slice a n c] w (GivesSl (encN (α:=TFileOut)) 105 4 w l):=by
 cases a with
 | none =>
  have hl:l=[]:=by
   cases l with
   | nil=>rfl
   | cons y r=>obtain⟨b,off,h0,-⟩:=hs 0 y rfl;cases h0
  have hq:=fun(w:World)=>run_eql_slice_nil (P:=Tryz.prog) w 86 105 none n c Tryz.underlying86
  simp only[Option.isNone]at hq
  have HL:=lH hl;clear hl
  go_enter Tryz.func118,Tryz.ntmps118
  go_wp2_with (fail)
  go_ret
  exact GivesSl.nilOf (encN_len (α:=TFileOut)) HL.out
 | some ad =>
  have hq:=fun(w:World)=>run_eql_slice_nil (P:=Tryz.prog) w 86 105 (some ad) n c Tryz.underlying86
  simp only[Option.isNone]at hq
  go_enter Tryz.func118,Tryz.ntmps118
  go_wp2_with (first|(at_builtin;refine wpList_appS (enc:=(encN (α:=TFileOut))) (w0:=w) (z:=.agg #[.int .i64 0,.string ByteArray.empty,.slice none 0 0,.bool false]) (size:=4) (bytes:=56) (n:=0) (l:=[]) rfl (.tmp 5) (.tmp 6) rfl Tryz.underlying86 kr rfl (by decide) (by decide) rfl rfl (fun h=>by cases h) rfl hn (Own.emptyAt (encN_len (α:=TFileOut)) nl rfl) (hs.to ii) (encN_one (α:=TFileOut)) (by omega) ?_;intro sa1 sc1 x1 hown1 hgr1))
  go_ret
  rw[List.nil_append]at hown1
  exact⟨sa1,sc1,by rw[hn];first|rfl|simp,hown1,Later.of⟩
theorem wp_abs{P:Program}{c:Code}{Q:Exit→Act→World→Prop}{a:Act}{w:World}(hp:∀ c a d v w,Q (.panic c) (a.put (some d) v) w→Q (.panic c) a w)(h:∀ K:Exit→Act→World→Prop,Hid (∀ c a d v w,K (.panic c) (a.put (some d) v) w→K (.panic c) a w)→Hid (∀ e a w,Q e a w→K e a w)→c.wp P K a w):c.wp P Q a w:=h Q (lH hp) (lH fun _ _ _ h=>h)
theorem yieldsIf_load1{P:Program}{ops:Array Oper}{S:World→Prop}{op:Oper}{a:Act}(hw:Region.wanted op (yielded ops a.tmps)=true)(ty:TypeId)(x:Operand)(ho:op.op=.load ty x)
  (b o:Nat) (hx:a.eval x=.pointer (some ⟨b,o,none⟩)) (v:Value) (d:TypeDesc) (hS:∀ w,S w→w.cell? ⟨b,o,none⟩=some v) (hu:P.underlying ty=some d) (hd:d.isRow=false):YieldsIf P ops S op v a :=
 .inl ⟨hw,fun w hw'=>by
  have hagg:(isAgg ty).run P w=.ok false w:=by
   unfold isAgg
   rw[Sem.run_bind,run_underlying hu w]
   cases d<;>simp_all [TypeDesc.isRow]
  have hl:(loadVar ty ⟨b,o,none⟩).run P w=.ok v w:=by
   have hc:=hS w hw'
   simp[loadVar,Sem.run_bind,hagg,go_sem,hc]
  unfold execOp
  simp only[ho,hx,Instr.loadAt,Instr.sureAddr,Sem.run_bind,Sem.run_pure,Result.andThen_ok,hl]⟩
theorem But.pre{b:Nat}{w0 w w':World}(h:But b w w')(g:Grows w0 w):But b w0 w':=⟨Nat.le_trans g.out.size h.size,fun k h1 h2=>(h.block k h1 (Nat.lt_of_lt_of_le h2 g.out.size)).trans (g.out.block k h2)⟩
theorem But.post{b:Nat}{w0 w w':World}(h:But b w0 w)(g:Grows w w'):But b w0 w':=⟨Nat.le_trans h.size g.out.size,fun k h1 h2=>(g.out.block k (Nat.lt_of_lt_of_le h2 h.size)).trans (h.block k h1 h2)⟩
theorem But.far{b q:Nat}{w0 w w':World}(h:But b w0 w)(g:w.grownBy w' (some q))(hq:w0.heap.size≤q):But b w0 w':=⟨Nat.le_trans h.size g.size,fun k h1 h2=>(g.block k (Nat.lt_of_lt_of_le h2 h.size) (by simp only[ne_eq,Option.some.injEq];omega)).trans (h.block k h1 h2)⟩
section
variable {P:Program} {ops:Array Oper} {op:Oper} {a:Act} {w:World} {Q:Exit→Act→World→Prop} {K:Act→World→Prop} {E:Prop} {α:Type} {enc:α→List Value} {T B g:Nat} {c:Nat} {l:List α}
theorem st_storeOwn4(hw:Region.wanted op (yielded ops a.tmps)=true)(ty:TypeId)(x y:Operand)(ho:op.op=.store ty x y)(j:Nat)(hx:a.eval x=.pointer (some ⟨g,j*4,none⟩))(h:Own enc T 4 B w (some ⟨g,0,none⟩) c l)(hj:j<l.length)(r:α){v0 v1 v2 v3:Value}(hr:enc r=[v0,v1,v2,v3])
  (hv:(a.eval y).cells.toList=[v0,v1,v2,v3]) (hi:(P.info? ty).map (·.size)=some 4) (h1:[v0,v1,v2,v3].all (·.oneCell')=true) {w0:World} (gr:Grows w0 w) (hb:w0.heap.size≤B)
  (k:∀ z:Later w0,Own enc T 4 B z.w (some ⟨g,0,none⟩) c (l.set j r)→w.grownBy z.w (some g)→K (a.put op.dst undef) z.w):if Region.wanted op (yielded ops a.tmps)=true then Oper.wp P op a w K Q else E:=by
 rw[if_pos hw]
 have ht:w.there g (j*4) [v0,v1,v2,v3].length:=fun q hq=>by
  refine⟨?_,h.free _⟩
  obtain⟨v,hv⟩:=h.cells (j:=j*4+q) (by simp at hq;omega)
  rw[hv];rfl
 have hp:=h.put4 (j:=j) hj hr
 have hB:=(h.blk g rfl).1
 unfold Oper.wp execOp
 simp only[ho,hx,Instr.storeAt,Instr.sureAddr,Sem.run_bind,Sem.run_pure,Result.andThen_ok,run_storeVar_held hv ht hi (fun u hu=>List.all_eq_true.1 h1 u hu)]
 exact k ⟨_,below_setCells (Nat.le_trans hb hB) [v0,v1,v2,v3] (j*4) gr.out⟩ hp.1 hp.2
theorem wpAnyH_storeEnd4{S:World→Prop}{md:Region.Mode}{fuel:Nat}{listed:Array Bool}(i:Nat)(ho1:ops[i]?=some op)(hr:Region.ready md ops listed=[i])(hr2:Region.ready md ops (listed.setIfInBounds i true)=[])
  (hw:Region.wanted op (yielded ops a.tmps)=true) (ty:TypeId) (x y:Operand) (ho:op.op=.store ty x y) (j:Nat) (hx:a.eval x=.pointer (some ⟨g,j*4,none⟩)) (h:Own enc T 4 B w (some ⟨g,0,none⟩) c l) (hj:j<l.length) (r:α) {v0 v1 v2 v3:Value} (hr0:enc r=[v0,v1,v2,v3])
  (hv:(a.eval y).cells.toList=[v0,v1,v2,v3]) (hi:(P.info? ty).map (·.size)=some 4) (h1:[v0,v1,v2,v3].all (·.oneCell')=true) {w0:World} (gr:Grows w0 w) (hb:w0.heap.size≤B)
  (k:∀ z:Later w0,Own enc T 4 B z.w (some ⟨g,0,none⟩) c (l.set j r)→w.grownBy z.w (some g)→S z.w∧Q .normal (a.put op.dst undef) z.w):wpAnyH P md ops Q S (fuel+1) listed a w :=
 wpAnyH_ready hr (by simp) (AllReadyH.cons ho1 (fun K hK=>st_storeOwn4 hw ty x y ho j hx h hj r hr0 hv hi h1 gr hb fun z h2 h3=>hK.out _ _ (k z h2 h3).1 fun _=>wpAnyH_done hr2 (k z h2 h3).2 _) AllReadyH.nil)
end
theorem c_iSendBlock{c:TChannel}{s:ByteArray}{w:World}(hs:s.size=0∨5≤s.size∧s.size≤404):Calls Tryz.prog 173 #[.agg #[.int .i64 (c.Seed),.int .i64 c.Burst,.int .i64 c.Loss],.string s] w (Gives w (.tuple #[.agg #[.int .i64 (sendBlock c s).1.Seed,.int .i64 (sendBlock c s).1.Burst,.int .i64 (sendBlock c s).1.Loss],.string (sendBlock c s).2])):=by
 have HB:=lH ((Held.new w [.int .i64 (c.Seed),.int .i64 c.Burst,.int .i64 c.Loss] 65 w.heap.size rfl).to (ii:Grows _ ((w.alloc (.cells #[.int .i64 (c.Seed),.int .i64 c.Burst,.int .i64 c.Loss] 65)).alloc (.cells #[.int .i64 0,.int .i64 0,.int .i64 0] 65))))
 have HR:=lH (Held.new (w.alloc (.cells #[.int .i64 (c.Seed),.int .i64 c.Burst,.int .i64 c.Loss] 65)) [.int .i64 0,.int .i64 0,.int .i64 0] 65 (w.heap.size+1) (by simp))
 have gW:Grows w ((w.alloc (.cells #[.int .i64 (c.Seed),.int .i64 c.Burst,.int .i64 c.Loss] 65)).alloc (.cells #[.int .i64 0,.int .i64 0,.int .i64 0] 65)):=inferInstance
 go_enter Tryz.func173,Tryz.ntmps173
 go_upto_region 1 with(first|((with_reducible refine rl ?_);refine rq ?_;intro x))
 generalize ((w.alloc (.cells #[.int .i64 (c.Seed),.int .i64 c.Burst,.int .i64 c.Loss] 65)).alloc (.cells #[.int .i64 0,.int .i64 0,.int .i64 0] 65))=W2 at HB HR gW ⊢
 cases c0:channelOk c
 ·have HV:=lH (show sendBlock c s=(c,s)by rw[sendBlock,c0];rfl)
  go_wp2_with (first|((with_reducible refine rl ?_);(repeat(first|go_big_quiet_step (first|fail)|simp only[c0]));refine wpQuiet_nil ?_;intro x)|(refine stepLoad rfl _ (.tmp 2) rfl (w.heap.size) 0 kr (row:=[.int .i64 (c.Seed),.int .i64 c.Burst,.int .i64 c.Loss]) (HB.out.to ii) _ uu65 rfl kr kr ?_)|(go_at_call 123;refine gm (k_iChannelOk) ?_;intro y9)|(refine stepLoad rfl _ (.tmp 2) rfl (w.heap.size) 0 kr (row:=[.int .i64 (c.Seed),.int .i64 c.Burst,.int .i64 c.Loss]) (HB.out.to ii) _ uu65 rfl kr kr ?_)|(refine stepStore2 rfl _ (.tmp 4) (.tmp 18) rfl (w.heap.size+1) 0 kr (us:=[.int .i64 (c.Seed),.int .i64 c.Burst,.int .i64 c.Loss]) (cs2:=[.int .i64 (c.Seed),.int .i64 c.Burst,.int .i64 c.Loss]) (HR.out.to ii) rfl kr rfl (by simp) rfl (w0:=w) ii (Nat.le_succ _) ?_;intro z9 hx9 kx9;have HX9:=lH hx9;clear hx9;have KX9:=lH kx9;clear kx9))
  refine bodyPost_ret (v:=.tuple #[.agg #[.int .i64 (c.Seed),.int .i64 c.Burst,.int .i64 c.Loss],.string (s)]) (results_cell2 (P:=Tryz.prog) (u:=.string (s)) rfl rfl HX9.out _ uu65 rfl kr rfl) rfl ⟨by rw[HV.out],Later.of⟩
 have⟨hs0,hs1⟩:=channelOk_seed c0
 have⟨hn0,hn1⟩:=nextR_bd c.Seed
 have⟨hm0,hm1⟩:=nextR_bd (nextR c.Seed)
 rcases hs with hz|⟨hz,hz2⟩
 ·have HV:=lH (show sendBlock c s=(c,s)by rw[sendBlock,if_neg (by simp[hz])])
  go_wp2_with (first|((with_reducible refine rl ?_);(repeat(first|go_big_quiet_step (first|fail)|simp only[c0]));refine wpQuiet_nil ?_;intro x)|(refine stepLoad rfl _ (.tmp 2) rfl (w.heap.size) 0 kr (row:=[.int .i64 (c.Seed),.int .i64 c.Burst,.int .i64 c.Loss]) (HB.out.to ii) _ uu65 rfl kr kr ?_)|(go_at_call 123;refine gm (k_iChannelOk) ?_;intro y9)|(refine stepLoad rfl _ (.tmp 2) rfl (w.heap.size) 0 kr (row:=[.int .i64 (c.Seed),.int .i64 c.Burst,.int .i64 c.Loss]) (HB.out.to ii) _ uu65 rfl kr kr ?_)|(refine stepStore2 rfl _ (.tmp 4) (.tmp 18) rfl (w.heap.size+1) 0 kr (us:=[.int .i64 (c.Seed),.int .i64 c.Burst,.int .i64 c.Loss]) (cs2:=[.int .i64 (c.Seed),.int .i64 c.Burst,.int .i64 c.Loss]) (HR.out.to ii) rfl kr rfl (by simp) rfl (w0:=w) ii (Nat.le_succ _) ?_;intro z9 hx9 kx9;have HX9:=lH hx9;clear hx9;have KX9:=lH kx9;clear kx9))
  refine bodyPost_ret (v:=.tuple #[.agg #[.int .i64 (c.Seed),.int .i64 c.Burst,.int .i64 c.Loss],.string (s)]) (results_cell2 (P:=Tryz.prog) (u:=.string (s)) rfl rfl HX9.out _ uu65 rfl kr rfl) rfl ⟨by rw[HV.out],Later.of⟩
 have hif:(channelOk c && decide (4≤s.size))=true:=by rw[c0];simp;omega
 have hl4:((s.size:Int)<4)=False:=by simp;omega
 go_upto_region 5 with(first|((with_reducible refine rl ?_);(repeat(first|go_big_quiet_step (first|fail)|simp only[c0]|simp only[hl4]));refine wpQuiet_nil ?_;intro x)|(refine stepLoad rfl _ (.tmp 2) rfl (w.heap.size) 0 kr (row:=[.int .i64 (c.Seed),.int .i64 c.Burst,.int .i64 c.Loss]) (HB.out.to ii) _ uu65 rfl kr kr ?_)|(go_at_call 123;refine gm (k_iChannelOk) ?_;intro y9)|(refine stepLoad1 rfl _ (.tmp 21) rfl (w.heap.size) 0 kr (HB.out.to ii) (.int .i64 (c.Seed)) rfl _ uu3 rfl ?_)|(go_at_call 254;refine gm (c_iRandomBelow hs0 hs1 (by decide) (by decide)) ?_;intro y1)|(refine stepStore2 rfl _ (.tmp 27) (.tmp 26) rfl (w.heap.size) 0 kr (us:=[.int .i64 (nextR c.Seed)]) (cs2:=[.int .i64 (nextR c.Seed),.int .i64 c.Burst,.int .i64 c.Loss]) (HB.out.to ii) rfl kr rfl (by simp) rfl (w0:=w) ii nl ?_;intro z1 hx1 kx1;have HX1:=lH hx1;clear hx1;have KX1:=lH kx1;clear kx1))
 (try simp only[Act.put])
 have HR1:=lH ((HR.out.to (ii:Grows W2 _)).but KX1.out (by omega))
 clear HB HR KX1
 cases c1:decide (rndB c.Seed 100<c.Loss)
 ·have HV0:=lH (show sendBlock c s=(if rndB (nextR c.Seed) 100<c.Burst then(⟨(burst (nextR (nextR c.Seed)) (s.extract 4 s.size)).1,c.Burst,c.Loss⟩,s.extract 0 4++(burst (nextR (nextR c.Seed)) (s.extract 4 s.size)).2)else(⟨nextR (nextR c.Seed),c.Burst,c.Loss⟩,s))by rw[sendBlock,if_pos hif,if_neg (of_decide_eq_false c1)])
  go_upto_region 9 with(first|((with_reducible refine rl ?_);(repeat(first|go_big_quiet_step (first|fail)|simp only[c1]));refine wpQuiet_nil ?_;intro x)|(refine stepLoad1 rfl _ (.tmp 29) rfl (w.heap.size) 2 kr (HX1.out.to ii) (.int .i64 (c.Loss)) rfl _ uu3 rfl ?_)|(refine stepLoad1 rfl _ (.tmp 34) rfl (w.heap.size) 0 kr (HX1.out.to ii) (.int .i64 (nextR c.Seed)) rfl _ uu3 rfl ?_)|(go_at_call 254;refine gm (c_iRandomBelow hn0 hn1 (by decide) (by decide)) ?_;intro y2)|(refine stepStore2 rfl _ (.tmp 40) (.tmp 39) rfl (w.heap.size) 0 kr (us:=[.int .i64 (nextR (nextR c.Seed))]) (cs2:=[.int .i64 (nextR (nextR c.Seed)),.int .i64 c.Burst,.int .i64 c.Loss]) (HX1.out.to ii) rfl kr rfl (by simp) rfl (w0:=w) ii nl ?_;intro z2 hx2 kx2;have HX2:=lH hx2;clear hx2;have KX2:=lH kx2;clear kx2))
  (try simp only[Act.put])
  have HR2:=lH ((HR1.out.to (ii:Grows z1.w _)).but KX2.out (by omega))
  clear HX1 HR1 KX2
  cases c2:decide (rndB (nextR c.Seed) 100<c.Burst)
  ·have HV:=lH (show sendBlock c s=(⟨nextR (nextR c.Seed),c.Burst,c.Loss⟩,s)by rw[HV0.out,if_neg (of_decide_eq_false c2)])
   go_wp2_with (first|((with_reducible refine rl ?_);(repeat(first|go_big_quiet_step (first|fail)|simp only[c2]));refine wpQuiet_nil ?_;intro x)|(refine stepLoad1 rfl _ (.tmp 42) rfl (w.heap.size) 1 kr (HX2.out.to ii) (.int .i64 (c.Burst)) rfl _ uu3 rfl ?_)|(refine stepLoad rfl _ (.tmp 2) rfl (w.heap.size) 0 kr (row:=[.int .i64 (nextR (nextR c.Seed)),.int .i64 c.Burst,.int .i64 c.Loss]) (HX2.out.to ii) _ uu65 rfl kr kr ?_)|(refine stepStore2 rfl _ (.tmp 4) (.tmp 59) rfl (w.heap.size+1) 0 kr (us:=[.int .i64 (nextR (nextR c.Seed)),.int .i64 c.Burst,.int .i64 c.Loss]) (cs2:=[.int .i64 (nextR (nextR c.Seed)),.int .i64 c.Burst,.int .i64 c.Loss]) (HR2.out.to ii) rfl kr rfl (by simp) rfl (w0:=w) ii (Nat.le_succ _) ?_;intro z9 hx9 kx9;have HX9:=lH hx9;clear hx9;have KX9:=lH kx9;clear kx9))
   refine bodyPost_ret (v:=.tuple #[.agg #[.int .i64 (nextR (nextR c.Seed)),.int .i64 c.Burst,.int .i64 c.Loss],.string (s)]) (results_cell2 (P:=Tryz.prog) (u:=.string (s)) rfl rfl HX9.out _ uu65 rfl kr rfl) rfl ⟨by rw[HV.out],Later.of⟩
  ·have HV:=lH (show sendBlock c s=(⟨(burst (nextR (nextR c.Seed)) (s.extract 4 s.size)).1,c.Burst,c.Loss⟩,s.extract 0 4++(burst (nextR (nextR c.Seed)) (s.extract 4 s.size)).2)by rw[HV0.out,if_pos (of_decide_eq_true c2)])
   have he4:(s.extract 4 s.size).size=s.size - 4:=by simp
   have h04:(s.extract 0 4).size=4:=by simp;omega
   have hbz:=burst_size (nextR (nextR c.Seed)) (s.extract 4 s.size)
   have hcb:=fun(W:World)=>(c_iBurstText (w:=W) hm0 hm1 (show 1≤(s.extract 4 s.size).size by omega) (show(s.extract 4 s.size).size≤400 by omega))
   obtain⟨sd3,hsd⟩:∃ x,(burst (nextR (nextR c.Seed)) (s.extract 4 s.size)).1=x:=⟨_,rfl⟩
   obtain⟨tx3,htx⟩:∃ x,(burst (nextR (nextR c.Seed)) (s.extract 4 s.size)).2=x:=⟨_,rfl⟩
   rw[hsd,htx]at HV
   rw[htx,he4]at hbz
   simp only[hsd,htx]at hcb
   clear hsd htx
   have c46:=HX2.out.cellG 0 _ rfl
   go_upto_region 11 with(first|((with_reducible refine rl ?_);(repeat(first|go_big_quiet_step (first|(go_at_call 255;exact Gives.quiet (hcb _)))|simp only[c2]));refine wpQuiet_nil ?_;intro x)|(refine stepLoad1 rfl _ (.tmp 42) rfl (w.heap.size) 1 kr (HX2.out.to ii) (.int .i64 (c.Burst)) rfl _ uu3 rfl ?_))
   clear c46
   go_upto_region 12 with(first|((with_reducible refine rl ?_);refine rq ?_;intro x)|(refine stepStore2 rfl _ (.tmp 54) (.tmp 53) rfl (w.heap.size) 0 kr (us:=[.int .i64 (sd3)]) (cs2:=[.int .i64 (sd3),.int .i64 c.Burst,.int .i64 c.Loss]) (HX2.out.to ii) rfl kr rfl (by simp) rfl (w0:=w) ii nl ?_;intro z3 hx3 kx3;have HX3:=lH hx3;clear hx3;have KX3:=lH kx3;clear kx3))
   (try simp only[Act.put])
   have HR3:=lH ((HR2.out.to (ii:Grows z2.w _)).but KX3.out (by omega))
   clear HX2 HR2 KX3
   go_wp2_with (first|((with_reducible refine rl ?_);refine rq ?_;intro x)|(refine stepLoad rfl _ (.tmp 2) rfl (w.heap.size) 0 kr (row:=[.int .i64 (sd3),.int .i64 c.Burst,.int .i64 c.Loss]) (HX3.out.to ii) _ uu65 rfl kr kr ?_)|(refine stepStore2 rfl _ (.tmp 4) (.tmp 59) rfl (w.heap.size+1) 0 kr (us:=[.int .i64 (sd3),.int .i64 c.Burst,.int .i64 c.Loss]) (cs2:=[.int .i64 (sd3),.int .i64 c.Burst,.int .i64 c.Loss]) (HR3.out.to ii) rfl kr rfl (by simp) rfl (w0:=w) ii (Nat.le_succ _) ?_;intro z9 hx9 kx9;have HX9:=lH hx9;clear hx9;have KX9:=lH kx9;clear kx9))
   refine bodyPost_ret (v:=.tuple #[.agg #[.int .i64 (sd3),.int .i64 c.Burst,.int .i64 c.Loss],.string (s.extract 0 4++tx3)]) (results_cell2 (P:=Tryz.prog) (u:=.string (s.extract 0 4++tx3)) rfl rfl HX9.out _ uu65 rfl kr rfl) rfl ⟨by rw[HV.out],Later.of⟩
 ·have HV:=lH (show sendBlock c s=(⟨nextR c.Seed,c.Burst,c.Loss⟩,⟨#[]⟩)by rw[sendBlock,if_pos hif,if_pos (of_decide_eq_true c1)])
  go_wp2_with (first|((with_reducible refine rl ?_);(repeat(first|go_big_quiet_step (first|fail)|simp only[c1]));refine wpQuiet_nil ?_;intro x)|(refine stepLoad1 rfl _ (.tmp 29) rfl (w.heap.size) 2 kr (HX1.out.to ii) (.int .i64 (c.Loss)) rfl _ uu3 rfl ?_)|(refine stepLoad rfl _ (.tmp 2) rfl (w.heap.size) 0 kr (row:=[.int .i64 (nextR c.Seed),.int .i64 c.Burst,.int .i64 c.Loss]) (HX1.out.to ii) _ uu65 rfl kr kr ?_)|(refine stepStore2 rfl _ (.tmp 4) (.tmp 32) rfl (w.heap.size+1) 0 kr (us:=[.int .i64 (nextR c.Seed),.int .i64 c.Burst,.int .i64 c.Loss]) (cs2:=[.int .i64 (nextR c.Seed),.int .i64 c.Burst,.int .i64 c.Loss]) (HR1.out.to ii) rfl kr rfl (by simp) rfl (w0:=w) ii (Nat.le_succ _) ?_;intro z9 hx9 kx9;have HX9:=lH hx9;clear hx9;have KX9:=lH kx9;clear kx9))
  refine bodyPost_ret (v:=.tuple #[.agg #[.int .i64 (nextR c.Seed),.int .i64 c.Burst,.int .i64 c.Loss],.string (⟨#[]⟩)]) (results_cell2 (P:=Tryz.prog) (u:=.string (⟨#[]⟩)) rfl rfl HX9.out _ uu65 rfl kr rfl) rfl ⟨by rw[HV.out],Later.of⟩
def cmdBlk(x:TSent):ByteArray:=encCmd 0 x.Seq x.Data
def cmdBlocks(s:TSender):List ByteArray:=s.Waiting.map cmdBlk
theorem sentGo_at{next n:Int}:∀ {l:List TSent} {j:Nat},sentGo next n j l=true→∀ x∈l,inB x.Data.size 1 40=true∧0≤x.Seq∧x.Seq≤255
 | [],_,_,x,hx=>by simp at hx
 | y::l,j,h,x,hx=>by
  rw[sentGo,Bool.and_eq_true]at h
  rcases List.mem_cons.1 hx with rfl|hx
  ·have h1:=h.1
   rw[sentGood,Bool.and_eq_true,beq_iff_eq]at h1
   refine⟨h1.1,?_⟩
   rw[h1.2];omega
  ·exact sentGo_at h.2 x hx
theorem senderOk_at{s:TSender}(h:senderOk s=true):s.Waiting.length≤20∧∀ x∈s.Waiting,1≤x.Data.size∧x.Data.size≤40∧0≤x.Seq∧x.Seq≤255:=by
 simp only[senderOk,Bool.and_eq_true,decide_eq_true_eq]at h
 refine⟨by have:=inB_iff.1 h.2.1;omega,fun x hx=>?_⟩
 obtain⟨h1,h2⟩:=sentGo_at h.2.2.2.2 x hx
 have:=inB_iff.1 h1
 omega
theorem cmdBlocks_app{s:TSender}{L:List ByteArray}{k:Nat}{x:TSent}(h:L=(cmdBlocks s).take k)(hd:s.Waiting.drop k=x::s.Waiting.drop (k+1)):L++[cmdBlk x]=(cmdBlocks s).take (k+1):=by
 rw[h,cmdBlocks,← List.map_take,← List.map_take,take_snoc' hd];simp
theorem c_iSealText{s:ByteArray}{w:World}(hm:s.size≤100000000):Calls Tryz.prog 171 #[.string s] w (Gives w (.string (sealText s))):=by
 have⟨h0,h1⟩:=checkOf_bd s
 have hz:(word2 (checkOf s)).size=2:=rfl
 go_enter Tryz.func171,Tryz.ntmps171
 go_wp2_with (first|(go_at_call 253;refine gm (c_iCheckOf (by omega)) ?_;intro y9)|(go_at_call 172;refine gm (c_iPutWord2 h0 (by omega)) ?_;intro y9))
 go_ret
 exact Gives.mk rfl
theorem c_iEncodeCommand{kind seq:Int}{s:ByteArray}{w:World}(hk:kind=0∨kind=1)(h0:0≤seq)(h1:seq≤255)(hs:s.size≤40):Calls Tryz.prog 65 #[.int .i64 kind,.int .i64 seq,.string s] w (Gives w (.string (encCmd kind seq s))):=by
 rcases hk with rfl|rfl
 ·have c2:inB seq 0 255=true:=inB_iff.2 ⟨h0,h1⟩
  have c3:decide (40<(s.size:Int))=false:=by simp;omega
  have hz1:(word1 0).size=1:=rfl
  have hz2:(word1 seq).size=1:=rfl
  have hz3:(word1 0++word1 seq++s).size=2+s.size:=by rw[ByteArray.size_append,ByteArray.size_append];rfl
  go_enter Tryz.func65,Tryz.ntmps65
  go_wp2_with (first|(go_at_call 120;refine gm (c_ibetween) ?_;intro x)|(go_at_call 172;refine gm (c_iPutWord1 (by omega) (by omega)) ?_;intro y9)|(go_at_call 171;refine gm (c_iSealText (by omega)) ?_;intro y9))
  go_ret
  exact Gives.mk rfl
 ·have c2:inB seq 0 255=true:=inB_iff.2 ⟨h0,h1⟩
  have c3:decide (40<(s.size:Int))=false:=by simp;omega
  have hz1:(word1 1).size=1:=rfl
  have hz2:(word1 seq).size=1:=rfl
  have hz3:(word1 1++word1 seq++s).size=2+s.size:=by rw[ByteArray.size_append,ByteArray.size_append];rfl
  go_enter Tryz.func65,Tryz.ntmps65
  go_wp2_with (first|(go_at_call 120;refine gm (c_ibetween) ?_;intro x)|(go_at_call 172;refine gm (c_iPutWord1 (by omega) (by omega)) ?_;intro y9)|(go_at_call 171;refine gm (c_iSealText (by omega)) ?_;intro y9))
  go_ret
  exact Gives.mk rfl
theorem c_iCommandBlocks{B:Nat}{a:Option Addr}{c:Nat}{sD:TSender}{w:World}(hs:RdS B w a c sD.Waiting)(hi:okDTSender sD)(h0:senderOk sD=true):Calls Tryz.prog 64 #[.agg #[.int .i64 sD.Next,.int .i64 sD.Window,.slice a sD.Waiting.length c,.int .i64 sD.Done]] w (GivesSl encStr 9 1 w (cmdBlocks sD)):=by
 obtain⟨n,hn⟩:∃ n,sD.Waiting.length=n:=⟨_,rfl⟩
 have⟨hl,hel⟩:=senderOk_at h0
 have HEL:=lH hel;clear hel
 have HN:=lH hn
 have HI:=lH hi;clear hi
 have HLB:=lH (show(cmdBlocks sD).length=n by rw[cmdBlocks,List.length_map];exact hn)
 rw[hn]at hl ⊢
 clear hn
 go_enter Tryz.func64,Tryz.ntmps64
 go_upto_region 5 with(first|(go_at_call 170;refine gm (k_iSenderOkN (sD:=sD) hs HN.out (by omega) HI.out) ?_;intro y9;rw[h0]))
 go_loopw [3,12] (fun u v wr=>∃ (k:Nat) (L:List ByteArray) (sa:Option Addr) (sc:Nat),u=.slice sa k sc∧v=.int .i64 k∧k≤n∧L.length=k∧Hid (L=(cmdBlocks sD).take k)∧Hid (Own encStr 9 1 w.heap.size wr sa sc L)∧∃ x:Later w,wr=x.w) (fun _ v _=>(n - intOf v).toNat)
 case atStart=>exact⟨0,[],none,0,rfl,rfl,by omega,rfl,rfl,lH (Own.nil encStr_len),Later.of⟩
 case round =>
  obtain⟨k,L,sa,sc,rfl,rfl,hk,hL,HL,hO,y,rfl⟩:=hrel
  by_cases h:k<n
  ·have hkl:k<sD.Waiting.length:=by have:=HN.out;omega
   obtain⟨eb,eoff,ex,rfl,ehb,ehd,eok,eh0,eh1⟩:=hs.atTSent hkl
   have⟨hq2,hq3,hq0,hq1⟩:=HEL.out ex (List.mem_of_mem_drop (show ex∈sD.Waiting.drop k by rw[ehd.out];simp))
   clear eok hkl
   go_wp2_with (first|(go_at_call 65;refine gm (c_iEncodeCommand (.inl rfl) hq0 hq1 hq3) ?_;intro y9)|((at_builtin;refine wpList_app1X (enc:=encStr) (w0:=w) (B:=w.heap.size) (z:=.string ⟨#[]⟩) (size:=1) (bytes:=16) (encCmd 0 ex.Seq ex.Data) rfl (.tmp 16) (.tmp 22) rfl Tryz.underlying30 kr rfl (by decide) (by decide) rfl rfl hL (Own.to hO.out ii) bk rfl (encStr_one _) (by omega) LeN.out ii LeN.out ?_;intro sa1 sc1 x1 hown1 hgr1);have HO6:=lH hown1;clear hown1 hgr1))
   go_roundw
   case rel=>exact⟨k+1,L++[cmdBlk ex],sa1,sc1,rfl,by go_num,by omega,by simp[hL],lH (cmdBlocks_app HL.out ehd.out),HO6,Later.of⟩
   case measure=>simp[intOf];omega
  ·obtain rfl:n=k:=by omega
   go_wp2_with (fail)
   go_ret
   exact⟨sa,sc,by rw[HLB.out];rfl,by have:=hO.out;rw[HL.out,List.take_of_length_le (by rw[HLB.out];exact Nat.le_refl _)]at this;exact this,Later.of⟩
