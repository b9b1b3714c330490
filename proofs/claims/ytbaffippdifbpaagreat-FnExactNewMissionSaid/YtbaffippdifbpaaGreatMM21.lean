/- Steps for functions that copy structs: single loads out of boxes, the colours of what is made one after the other. No condition. Appends to slices of the call's own: the block is the old one or a new one. No condition but on lengths. The contracts of functions that copy structs: the code's. No condition but on sizes. Slices of files: what their copies leave, one after the other. No condition but on lengths. The contracts of functions that copy structs: the reference's. No condition but on sizes. The contracts of the mirrors, sizes and equalities of waiting orders. No condition but on sizes. -/
import Derived.Test.YtbaffippdifbpaaGreatMOwnS
import Derived.Test.YtbaffippdifbpaaGreatMDF1
import Derived.Test.YtbaffippdifbpaaGreatMM13
import Derived.Test.YtbaffippdifbpaaGreatMM8
import Derived.Test.YtbaffippdifbpaaGreatMOkF
import Derived.Laws.StructEq
import Derived.MapKept
import Derived.Maps.Own
namespace Go.Proofs.YtbaffippdifbpaaGreat
set_option linter.unusedVariables false
open Go.ChangeShapes Go.WideShapes Go.ChangeAt Go.RowKit
section
variable {P:Program} {ops:Array Oper} {rest:List Oper} {op:Oper} {a:Act} {w:World} {Q:Exit→Act→World→Prop}
theorem stepLoad1(hgd:op.guard=none)(ty:TypeId)(x:Operand)(ho:op.op=.load ty x)(b o:Nat)(hx:a.eval x=.pointer (some ⟨b,o,none⟩)){cs:List Value}{T:TypeId}(H:Held w b cs T)(v:Value)(hv:cs[o]?=some v)
  (d:TypeDesc) (hu:P.underlying ty=some d) (hd:d.isRow=false) (h:wpList P ops Q rest (a.put op.dst v) w):wpList P ops Q (op::rest) a w:=by
 refine wpList_plain hgd fun _ hK=>?_
 have hagg:(isAgg ty).run P w=.ok false w:=by
  unfold isAgg
  rw[Sem.run_bind,run_underlying hu w]
  cases d<;>simp_all [TypeDesc.isRow]
 have hl:(loadVar ty ⟨b,o,none⟩).run P w=.ok v w:=by
  have hc:=H.cell o
  rw[hv]at hc
  simp[loadVar,Sem.run_bind,hagg,go_sem,hc]
 unfold Oper.wp execOp
 simp only[ho,hx,Instr.loadAt,Instr.sureAddr,Sem.run_bind,Sem.run_pure,Result.andThen_ok,hl]
 exact hK _ _ h
end
end Go.Proofs.YtbaffippdifbpaaGreat
namespace Go.Proofs.YtbaffippdifbpaaGreat
set_option linter.unusedVariables false
open Go.ChangeShapes Go.WideShapes Go.ChangeAt Go.RowKit
section
variable {P:Program} {w:World}
theorem append_block(base:Nat)(t ty e:TypeId)(i:TypeInfo)(z:Value)(size bytes:Nat)(ht:P.underlying t=some (.slice e))(hi:P.info? e=some i)(hz:i.zero=some z)
  (hsize:i.size=size) (hby:i.bytes=bytes)
  (v:Value) (n:Nat) (xs:List Value) (hown:w.ownsRow base e size v n xs)
  (a:Addr) (m c:Nat) (news:List Value) (hl:news.length=m*size) (hnews:∀ j u,news[j]?=some u→w.cell? (a.add j)=some u) (h1:∀ u∈news,u.oneCell'=true)
  (h63:n+m≤maxLen) (hbytes:(n+m)*bytes≤140737488355328) {v':Value} {w':World}
  (hr:(Builtin.append_ #[t,t] ty #[v,.slice (some a) m c]).run P w=.ok v' w'):v'.ownBlock=v.ownBlock∨v'.ownBlock=some w.heap.size:=by
 subst hsize
 subst hby
 have hsmall:n+m≤9223372036854775807:=by simp only[maxLen]at h63;omega
 rcases hown.2 with⟨rfl,rfl⟩|⟨g,cap,cur,rfl,hbg,hg,hnc,hcm,hcs,htake⟩
 ·by_cases hm:m=0
  ·subst hm
   have hn:news=[]:=List.eq_nil_of_length_eq_zero (by simpa using hl)
   subst hn
   have hr2:(Builtin.append_ #[t,t] ty #[.slice none 0 0,.slice (some a) 0 c]).run P w=.ok (.slice none 0 0) w:=by
    simp[Builtin.append_,run_underlying ht,sizeOf,typeInfo,hi,Builtin.lenOf,Builtin.firstCells,loadCells,loadCellsFrom]
   have:=hr.symm.trans hr2
   injection this with e1 _
   exact .inl (by rw[e1])
  ·have hr2:=run_append_nil (P:=P) w t ty e i z ht hi hz a m c news hl hnews (by omega) (by omega) (by have hb:=hbytes;simp only[Nat.zero_add]at hb;omega)
   have:=hr.symm.trans hr2
   injection this with e1 _
   exact .inr (by rw[e1];rfl)
 ·by_cases hroom:n+m≤cap
  ·have hfit:n*i.size+news.length≤cur.size:=by rw[hl,hcs,← Nat.add_mul];exact Nat.mul_le_mul_right _ hroom
   have hr2:=run_append_room (P:=P) w t ty e i ht hi g n cap cur hg a m c news hl hnews h1 hroom hfit
   have:=hr.symm.trans hr2
   injection this with e1 _
   exact .inl (by rw[e1];rfl)
  ·have holds:∀ j u,xs[j]?=some u→w.cell? ((⟨g,0,none⟩:Addr).add j)=some u:=hown.cells (g:=g) rfl
   have hr2:=run_append_grow (P:=P) w t ty e i z ht hi hz ⟨g,0,none⟩ n cap xs hown.1 holds a m c news hl hnews (by omega) (by omega) (growslice_fits (by omega) hbytes)
   have:=hr.symm.trans hr2
   injection this with e1 _
   exact .inr (by rw[e1];rfl)
variable {o:Oper} {a:Act} {K:Act→World→Prop} {Q:Exit→Act→World→Prop} {α:Type} {enc:α→List Value} {T size:Nat}
theorem wp_app1F{w0:World}{T1:TypeId}{cs:Array Value}{t:TypeId}{bytes:Nat}{z:Value}(y:α)
  (s x:Operand) (ho:o.op=.call { callee:=.builtin .append,args:=#[s,x],argTypes:=#[t,t] })
  (ht:P.underlying t=some (.slice T)) (hinfo:(P.info? T).map (fun i=>(i.zero,i.size,i.bytes))=some (some z,size,bytes)) (hzs:z.cells.size=size) (hsz:0<size) (hby:bytes≤1000)
  {l:List α} {n:Nat} {sa:Option Addr} {sc:Nat} (hs:a.eval s=.slice sa n sc) {xb:Nat} (hx:a.eval x=.slice (some ⟨xb,0,none⟩) 1 1) (hn:l.length=n) {B:Nat} (hown:Own enc T size B w sa sc l)
  (hxc:w.heap[xb]?=some (.cells cs T1 (0,0))) (hy:cs.toList=enc y) (h1:∀ u∈enc y,u.oneCell'=true) (hb:n≤1000000000) (hB:B≤w.heap.size) (g:Grows w0 w) (hB0:w0.heap.size≤B)
  (h:∀ (sa':Option Addr) (sc':Nat) (x':Later w0),Own enc T size B x'.w sa' sc' (l++[y])→w.grownBy x'.w (Value.ownBlock (.slice sa n sc))→(blkOf sa'=blkOf sa∨blkOf sa'=some w.heap.size)→K (a.put o.dst (.slice sa' (n+1) sc')) x'.w) :
  Oper.wp P o a w K Q:=by
 obtain⟨i,hi,h3⟩:=Option.map_eq_some_iff.1 hinfo
 simp only[Prod.mk.injEq]at h3
 obtain⟨h4,h5,h6⟩:=h3
 subst hn
 have hb':(l.length+1)*bytes≤140737488355328:=by
  have:(l.length+1)*bytes≤(l.length+1)*1000:=Nat.mul_le_mul_left _ hby
  omega
 have hnl:(enc y).length=1*size:=by rw[hown.1];omega
 have hnews:∀ (j:Nat) (u:Value),(enc y)[j]?=some u→w.cell? ((⟨xb,0,none⟩:Addr).add j)=some u:=fun j u hj=>by
  have e:(⟨xb,0,none⟩:Addr).add j=⟨xb,j,none⟩:=by
   unfold Addr.add;split
   ·rename_i h;rw[h]
   ·simp
  rw[e]
  rw[← hy,Array.getElem?_toList]at hj
  simp[World.cell?,hxc,hj]
 obtain⟨v',w',hr,ho',hg',-⟩:=run_append_own (P:=P) w B t o.type T i z size bytes ht hi h4 h5 h6 hzs hsz _ l.length (l.flatMap enc) hown.2 ⟨xb,0,none⟩ 1 1 (enc y) hnl hnews h1 (by unfold maxLen;omega) hb' hB
 have hblk:=append_block B t o.type T i z size bytes ht hi h4 h5 h6 _ l.length (l.flatMap enc) hown.2 ⟨xb,0,none⟩ 1 1 (enc y) hnl hnews h1 (by unfold maxLen;omega) hb' hr
 have hlt:=hown.2.lt
 have hbel:Below w0.heap.size w0 w':=g.out.grown hg' g.out.size (fun k hk=>Nat.le_trans hB0 (hlt k hk).1)
 have hf:xs_form v' (l.length+1):=by
  rcases ho'.2 with⟨hv,hn0⟩|⟨g',cap,cur,hv,-⟩
  ·omega
  ·exact⟨_,_,hv⟩
 obtain⟨sa',sc',rfl⟩:=hf
 rw[ownBlock_eq,ownBlock_eq]at hblk
 unfold Oper.wp execOp
 simp only[ho,resolve,invoke,builtin,Sem.run_bind,Sem.run_pure,Result.andThen_ok,List.map_toArray,List.map_cons,List.map_nil,hs,hx,hr]
 refine h sa' sc' ⟨w',hbel⟩ ⟨hown.1,?_⟩ hg' hblk
 rw[List.flatMap_append,List.flatMap_singleton,List.length_append,List.length_singleton];exact ho'
theorem wpList_app1F{ops':Array Oper}{rest:List Oper}{w0:World}{T1:TypeId}{cs:Array Value}{t:TypeId}{bytes:Nat}{z:Value}(y:α)(hgd:o.guard=none)
  (s x:Operand) (ho:o.op=.call { callee:=.builtin .append,args:=#[s,x],argTypes:=#[t,t] })
  (ht:P.underlying t=some (.slice T)) (hinfo:(P.info? T).map (fun i=>(i.zero,i.size,i.bytes))=some (some z,size,bytes)) (hzs:z.cells.size=size) (hsz:0<size) (hby:bytes≤1000)
  {l:List α} {n:Nat} {sa:Option Addr} {sc:Nat} (hs:a.eval s=.slice sa n sc) {xb:Nat} (hx:a.eval x=.slice (some ⟨xb,0,none⟩) 1 1) (hn:l.length=n) {B:Nat} (hown:Own enc T size B w sa sc l)
  (hxc:w.heap[xb]?=some (.cells cs T1 (0,0))) (hy:cs.toList=enc y) (h1:∀ u∈enc y,u.oneCell'=true) (hb:n≤1000000000) (hB:B≤w.heap.size) (g:Grows w0 w) (hB0:w0.heap.size≤B)
  (h:∀ (sa':Option Addr) (sc':Nat) (x':Later w0),Own enc T size B x'.w sa' sc' (l++[y])→w.grownBy x'.w (Value.ownBlock (.slice sa n sc))→(blkOf sa'=blkOf sa∨blkOf sa'=some w.heap.size)→wpList P ops' Q rest (a.put o.dst (.slice sa' (n+1) sc')) x'.w) :
  wpList P ops' Q (o::rest) a w :=
 wpList_plain hgd fun _ hK=>wp_app1F (w0:=w0) y s x ho ht hinfo hzs hsz hby hs hx hn hown hxc hy h1 hb hB g hB0 fun sa' sc' x' h2 h3 h4=>hK _ _ (h sa' sc' x' h2 h3 h4)
end
end Go.Proofs.YtbaffippdifbpaaGreat
namespace Go.Proofs.YtbaffippdifbpaaGreat
set_option linter.unusedVariables false
open Go.ChangeShapes Go.WideShapes Go.ChangeAt Go.RowKit
end Go.Proofs.YtbaffippdifbpaaGreat
namespace Go.Proofs.YtbaffippdifbpaaGreat
set_option linter.unusedVariables false
open Go.ChangeShapes Go.WideShapes Go.ChangeAt Go.RowKit
theorem encN_one{α β:Type}[N:Nest α β](r:NRow α):∀ u∈encN r,u.oneCell'=true:=N.one _ _ _
class NestInv(α:Type){β:Type}[N:Nest α β][F:Flat β]:Prop where
 inv:∀ {B w vs x},N.Rd B w vs x→∃ a c,vs=N.cells x a c∧N.good x∧RdS B w a c (N.inner x)
section
variable {α β:Type} [N:Nest α β] [F:Flat β]
variable {B k:Nat} {χ χ2:Nat→Col} {w W1 W2 Z:World} {a ra:Option Addr} {c rc:Nat} {rows0 rows:List (NRow α)} {x:α}
def grown(U V:Nat)(χ:Nat→Col)(n:Nat):Nat→Col:=paint U χ (paint V (fun _=>(0,n)) (fun _=>(0,0)) id) id
theorem OwnN.grow{χ2:Nat→Col}{W2:World}{ra:Option Addr}{rc:Nat}{x:α}(h:OwnN B χ 0 w a c rows)(g:Grows w W1)(hB:B≤W1.heap.size){i0:Col}(hi:OwnC W1.heap.size χ2 i0 W2 ra rc (N.inner x))(g2:Grows W1 W2)(hgd:N.good x){a':Option Addr}{c':Nat}{W3:World}(g3:Grows W2 W3)
  (hown:Own (encN (α:=α)) N.ty N.size B Z a' c' (rows++[⟨x,ra,rc⟩])) (hg:W3.grownBy Z (blkOf a)) (hb:blkOf a'=blkOf a∨blkOf a'=some W3.heap.size) :
  OwnN B (grown W1.heap.size W3.heap.size χ (rows.length+1)) 0 Z a' c' (rows++[⟨x,ra,rc⟩]):=by
 have hblk:=h.own.blk
 have l1:=g.out.size
 have l2:=g2.out.size
 have l3:=g3.out.size
 have hcol:∀ b,blkOf a=some b→grown W1.heap.size W3.heap.size χ (rows.length+1) b=(0,0):=fun b hb=>by
  have:=(hblk b hb).2
  rw[grown,paint,if_pos (by omega)];exact h.col b hb
 have hfr:Fr B (grown W1.heap.size W3.heap.size χ (rows.length+1)) (·=(0,0)) W3 Z:=⟨hg.os,hg.tape,hg.output,hg.size,fun b h2 h3=>hg.block b h2 (fun e=>h3 ⟨(hblk b e.symm).1,hcol b e.symm⟩)⟩
 refine⟨hown,fun k hk=>?_,fun i r hr=>?_⟩
 ·rcases hb with hb|hb
  ·exact hcol k (by rw[← hb];exact hk)
  ·rw[hb]at hk
   cases hk
   rw[grown,paint,if_neg (by omega),paint,if_neg (by omega)];rfl
 ·by_cases hi2:i<rows.length
  ·rw[List.getElem?_append_left hi2]at hr
   obtain⟨h1,h2⟩:=h.each i r hr
   refine⟨h1,((h2.old l1).to ⟨g.out.trans ((g2.out.trans (g3.out.mono l2)).mono l1)⟩).fr hfr ?_⟩
   intro e;simp at e
  ·have hlt:=(List.getElem?_eq_some_iff.1 hr).1
   simp at hlt
   obtain rfl:i=rows.length:=by omega
   rw[List.getElem?_append_right (Nat.le_refl _)]at hr
   simp at hr
   subst hr
   refine⟨hgd,(((hi.recol (χ':=grown W1.heap.size W3.heap.size χ (rows.length+1)) (i':=(0,rows.length+1)) (fun k h1 h2 _=>?_)).mono hB).to g3).fr hfr ?_⟩
   ·rw[grown,paint,if_neg (by omega),paint,if_pos (by omega)];rfl
   ·intro e;simp at e
end
instance NestInv.iTFileIn:NestInv TFileIn where
 inv:=by rintro _ _ _ _ ⟨a0,c0,rfl,q0,hok⟩;exact⟨a0,c0,rfl,hok,q0⟩
instance NestInv.iTFileOut:NestInv TFileOut where
 inv:=by rintro _ _ _ _ ⟨a0,c0,rfl,q0,hok⟩;exact⟨a0,c0,rfl,hok,q0⟩
theorem Sl.nFileOut{w:World}{a:Option Addr}{l:List (NRow TFileOut)}(h:Sl (encN (α:=TFileOut)) w a l){k:Nat}(hk:k<l.length) :
  ∃ b off r,a=some ⟨b,off,none⟩∧LtN b w.heap.size∧Hid (l.drop k=r::l.drop (k+1))∧(∀ (W:World) [Grows w W],W.cell? ⟨b,off+k*4,none⟩=some (.int .i64 r.x.File))∧(∀ (W:World) [Grows w W],W.cell? ⟨b,off+k*4+1,none⟩=some (.string r.x.Data))∧(∀ (W:World) [Grows w W],W.cell? ⟨b,off+k*4+2,none⟩=some (.slice r.a r.x.Queue.length r.c))∧(∀ (W:World) [Grows w W],W.cell? ⟨b,off+k*4+3,none⟩=some (.bool r.x.Done)):=by
 obtain⟨r,hs,hd⟩:=drop_at hk
 obtain⟨b,off,ha,hb,hc⟩:=h k r hs
 exact⟨b,off,r,ha,⟨hb⟩,hd,cell_grown hb (hc 0 _ rfl),cell_grown hb (hc 1 _ rfl),cell_grown hb (hc 2 _ rfl),cell_grown hb (hc 3 _ rfl)⟩
section
variable {P:Program} {ops:Array Oper} {op:Oper} {a:Act} {w:World} {Q:Exit→Act→World→Prop} {K:Act→World→Prop} {E:Prop} {α:Type} {enc:α→List Value} {T B g:Nat} {c:Nat} {l:List α}
end
end Go.Proofs.YtbaffippdifbpaaGreat
namespace Go.Proofs.YtbaffippdifbpaaGreat
set_option linter.unusedVariables false
open Go.ChangeShapes Go.WideShapes Go.ChangeAt Go.RowKit
end Go.Proofs.YtbaffippdifbpaaGreat
namespace Go.Proofs.YtbaffippdifbpaaGreat
set_option linter.unusedVariables false
open Go.ChangeShapes Go.WideShapes Go.ChangeAt Go.RowKit
theorem d_leqWaiting{B B2:Nat}{vs vs2:List Value}{x:TWaiting}{w:World}(h:Enc.Rd B w vs x)(h2:Enc.Rd B2 w vs2 x) :
  Calls Tryz.prog 305 #[.agg vs.toArray,.agg vs2.toArray] w (Gives w (.bool true)):=by
 obtain⟨rfl,hok⟩:=h
 obtain⟨rfl,-⟩:=h2
 have HOK:=lH hok;clear hok
 go_enter Tryz.func305,Tryz.ntmps305
 go_wp2_with fail
 refine(d_leqOrder (B:=0) (B2:=0) (x:=x.Order) ⟨rfl,HOK.out.2.1⟩ ⟨rfl,HOK.out.2.1⟩).mono ?_
 rintro _ _ ⟨rfl,y0,rfl⟩
 go_wp2_with fail
 go_ret
 exact Gives.mk rfl
theorem d_leqWaitingS{B B2:Nat}{a a2:Option Addr}{c c2:Nat}{l:List TWaiting}{w:World}(hs:RdS B w a c l)(hs2:RdS B2 w a2 c2 l) :
  Calls Tryz.prog 258 #[.slice a l.length c,.slice a2 l.length c2] w (Gives w (.bool true)):=by
 have hmx:=hs.max
 obtain⟨n,hn⟩:∃ n,l.length=n:=⟨_,rfl⟩
 rw[hn]at hmx
 rw[hn]
 have HN:=lH hn;clear hn
 have kn:((n:Int) != (n:Int))=false:=by simp
 go_enter Tryz.func258,Tryz.ntmps258
 go_wp2_with fail
 go_loopw [5] (fun v wr=>∃ k:Nat,v=.int .i64 k∧k≤n∧∃ x:Later w,wr=x.w) (fun v _=>(n - intOf v).toNat)
 case atStart=>exact⟨0,rfl,by omega,Later.of⟩
 case round =>
  obtain⟨k,rfl,hk,x,rfl⟩:=hrel
  by_cases h:k<n
  ·have hlk:k<l.length:=by have:=HN.out;omega
   obtain⟨eb,eoff,ex,rfl,ehb,ehd,eok,eh0,eh1,eh2,eh3,eh4⟩:=hs.atTWaiting (show k<l.length by omega)
   obtain⟨fb,foff,fx,rfl,fhb,fhd,fok,fh0,fh1,fh2,fh3,fh4⟩:=hs2.atTWaiting (show k<l.length by omega)
   obtain rfl:ex=fx:=by have:=ehd.out.symm.trans fhd.out;simpa using this
   clear ehd fhd hlk hs hs2
   have ce:∀ {W:World} [Grows w W],Calls Tryz.prog 305 #[.agg #[.int .i64 ex.Number,.int .i64 ex.Order.Kind,.int .i64 ex.Order.At,.int .i64 ex.Order.A,.int .i64 ex.Order.B],.agg #[.int .i64 ex.Number,.int .i64 ex.Order.Kind,.int .i64 ex.Order.At,.int .i64 ex.Order.A,.int .i64 ex.Order.B]] W (Gives W (.bool true)):=fun {W} _=>d_leqWaiting (B:=0) (B2:=0) (x:=ex) ⟨rfl,eok⟩ ⟨rfl,fok⟩
   clear eok fok
   go_wp2_with (first|((with_reducible refine wp_region_later (by kernel_rfl) (by kernel_rfl) ?_);(repeat(first|go_big_quiet_step (first|(go_at_call 305;exact Gives.quiet (ce)))));refine wpQuiet_nil ?_;rintro _ ⟨x,rfl⟩)|(go_at_call 305;refine(ce).mono ?_;rintro _ _ ⟨rfl,x,rfl⟩))
   go_roundw
   case rel=>exact⟨k+1,by go_num,by omega,Later.of⟩
   case measure=>simp[intOf];omega
  ·go_wp2_with fail
   go_ret
   exact Gives.mk rfl
end Go.Proofs.YtbaffippdifbpaaGreat
namespace Go.Proofs.YtbaffippdifbpaaGreat
set_option linter.unusedVariables false
open Go.ChangeShapes Go.WideShapes Go.ChangeAt Go.RowKit
theorem d_leqPacker{B B2:Nat}{vs vs2:List Value}{x:TPacker}{w:World}(h:Enc.Rd B w vs x)(h2:Enc.Rd B2 w vs2 x) :
  Calls Tryz.prog 169 #[.agg vs.toArray,.agg vs2.toArray] w (Gives w (.bool true)):=by
 obtain⟨a0,c0,rfl,q0,hok⟩:=h
 obtain⟨ma0,mc0,rfl,mq0,-⟩:=h2
 have HOK:=lH hok;clear hok
 go_enter Tryz.func169,Tryz.ntmps169
 go_wp2_with (first|((with_reducible refine wp_region_later (by kernel_rfl) (by kernel_rfl) ?_);(repeat(first|go_big_quiet_step (first|fail)));refine wpQuiet_nil ?_;rintro _ ⟨x,rfl⟩))
 refine(d_leqIntS (q0.keep inferInstance) (mq0.keep inferInstance)).mono ?_
 rintro _ _ ⟨rfl,y0,rfl⟩
 go_wp2_with (first|((with_reducible refine wp_region_later (by kernel_rfl) (by kernel_rfl) ?_);(repeat(first|go_big_quiet_step (first|fail)));refine wpQuiet_nil ?_;rintro _ ⟨x,rfl⟩))
 go_ret
 exact Gives.mk rfl
theorem d_leqSender{B B2:Nat}{vs vs2:List Value}{x:TSender}{w:World}(h:Enc.Rd B w vs x)(h2:Enc.Rd B2 w vs2 x) :
  Calls Tryz.prog 160 #[.agg vs.toArray,.agg vs2.toArray] w (Gives w (.bool true)):=by
 obtain⟨a0,c0,rfl,q0,hok⟩:=h
 obtain⟨ma0,mc0,rfl,mq0,-⟩:=h2
 have HOK:=lH hok;clear hok
 go_enter Tryz.func160,Tryz.ntmps160
 go_wp2_with (first|((with_reducible refine wp_region_later (by kernel_rfl) (by kernel_rfl) ?_);(repeat(first|go_big_quiet_step (first|fail)));refine wpQuiet_nil ?_;rintro _ ⟨x,rfl⟩))
 refine(d_leqSentS (q0.keep inferInstance) (mq0.keep inferInstance)).mono ?_
 rintro _ _ ⟨rfl,y0,rfl⟩
 go_wp2_with (first|((with_reducible refine wp_region_later (by kernel_rfl) (by kernel_rfl) ?_);(repeat(first|go_big_quiet_step (first|fail)));refine wpQuiet_nil ?_;rintro _ ⟨x,rfl⟩))
 go_ret
 exact Gives.mk rfl
theorem d_leqRecorder{B B2:Nat}{vs vs2:List Value}{x:TRecorder}{w:World}(h:Enc.Rd B w vs x)(h2:Enc.Rd B2 w vs2 x) :
  Calls Tryz.prog 260 #[.agg vs.toArray,.agg vs2.toArray] w (Gives w (.bool true)):=by
 obtain⟨a0,c0,a1,c1,rfl,q0,q1,hok⟩:=h
 obtain⟨ma0,mc0,ma1,mc1,rfl,mq0,mq1,-⟩:=h2
 have HOK:=lH hok;clear hok
 go_enter Tryz.func260,Tryz.ntmps260
 go_wp2_with (first|((with_reducible refine wp_region_later (by kernel_rfl) (by kernel_rfl) ?_);(repeat(first|go_big_quiet_step (first|fail)));refine wpQuiet_nil ?_;rintro _ ⟨x,rfl⟩))
 refine(d_leqRecordS (q0.keep inferInstance) (mq0.keep inferInstance)).mono ?_
 rintro _ _ ⟨rfl,y0,rfl⟩
 go_wp2_with (first|((with_reducible refine wp_region_later (by kernel_rfl) (by kernel_rfl) ?_);(repeat(first|go_big_quiet_step (first|fail)));refine wpQuiet_nil ?_;rintro _ ⟨x,rfl⟩))
 refine(d_leqIntS (q1.keep inferInstance) (mq1.keep inferInstance)).mono ?_
 rintro _ _ ⟨rfl,y1,rfl⟩
 go_wp2_with (first|((with_reducible refine wp_region_later (by kernel_rfl) (by kernel_rfl) ?_);(repeat(first|go_big_quiet_step (first|fail)));refine wpQuiet_nil ?_;rintro _ ⟨x,rfl⟩))
 go_ret
 exact Gives.mk rfl
end Go.Proofs.YtbaffippdifbpaaGreat
namespace Go.Proofs.YtbaffippdifbpaaGreat
set_option linter.unusedVariables false
open Go.ChangeShapes Go.WideShapes Go.ChangeAt Go.RowKit
end Go.Proofs.YtbaffippdifbpaaGreat
namespace Go.Proofs.YtbaffippdifbpaaGreat
set_option linter.unusedVariables false
open Go.ChangeShapes Go.WideShapes Go.ChangeAt Go.RowKit
theorem d_leqGround{B B2:Nat}{vs vs2:List Value}{x:TGround}{w:World}(h:Enc.Rd B w vs x)(h2:Enc.Rd B2 w vs2 x) :
  Calls Tryz.prog 75 #[.agg vs.toArray,.agg vs2.toArray] w (Gives w (.bool true)):=by
 obtain⟨A,rfl,F⟩:=h
 obtain⟨mA,rfl,mF⟩:=h2
 have HOK:=lH F.ok
 have HB:=lH ((Held.new w (cGround x A.a0 A.c0 A.a1 A.c1 A.a2 A.c2 A.a3 A.c3 A.a4 A.c4 A.a5 A.c5) 45 w.heap.size rfl).to (inferInstance:Grows _ ((w.alloc (.cells (cGround x A.a0 A.c0 A.a1 A.c1 A.a2 A.c2 A.a3 A.c3 A.a4 A.c4 A.a5 A.c5).toArray 45)).alloc (.cells (cGround x mA.a0 mA.c0 mA.a1 mA.c1 mA.a2 mA.c2 mA.a3 mA.c3 mA.a4 mA.c4 mA.a5 mA.c5).toArray 45))))
 have HC:=lH (Held.new (w.alloc (.cells (cGround x A.a0 A.c0 A.a1 A.c1 A.a2 A.c2 A.a3 A.c3 A.a4 A.c4 A.a5 A.c5).toArray 45)) (cGround x mA.a0 mA.c0 mA.a1 mA.c1 mA.a2 mA.c2 mA.a3 mA.c3 mA.a4 mA.c4 mA.a5 mA.c5) 45 (w.heap.size+1) (by simp))
 have HFF:=lH F;clear F
 have HMF:=lH mF;clear mF
 go_enter Tryz.func75,Tryz.ntmps75
 go_wp2_with (first|((with_reducible refine wp_region_later (by kernel_rfl) (by kernel_rfl) ?_);(repeat(first|go_big_quiet_step (first|fail)));refine wpQuiet_nil ?_;rintro _ ⟨x,rfl⟩))
 refine(d_leqStringS (HFF.out.q0.keep inferInstance) (HMF.out.q0.keep inferInstance)).mono ?_
 rintro _ _ ⟨rfl,y0,rfl⟩
 go_wp2_with (first|((with_reducible refine wp_region_later (by kernel_rfl) (by kernel_rfl) ?_);(repeat(first|go_big_quiet_step (first|fail)));refine wpQuiet_nil ?_;rintro _ ⟨x,rfl⟩)|(refine stepLoad rfl _ _ rfl (w.heap.size) 1 rfl (row:=[.int .i64 x.Sender.Next,.int .i64 x.Sender.Window,.slice A.a1 x.Sender.Waiting.length A.c1,.int .i64 x.Sender.Done]) (HB.out.to inferInstance) _ Tryz.underlying35 rfl (by kernel_rfl) (by kernel_rfl) ?_)|(refine stepLoad rfl _ _ rfl (w.heap.size+1) 1 rfl (row:=[.int .i64 x.Sender.Next,.int .i64 x.Sender.Window,.slice mA.a1 x.Sender.Waiting.length mA.c1,.int .i64 x.Sender.Done]) (HC.out.to inferInstance) _ Tryz.underlying35 rfl (by kernel_rfl) (by kernel_rfl) ?_))
 refine(d_leqSender (x:=x.Sender) ⟨A.a1,A.c1,rfl,HFF.out.q1.keep inferInstance,HOK.out.1⟩ ⟨mA.a1,mA.c1,rfl,HMF.out.q1.keep inferInstance,HOK.out.1⟩).mono ?_
 rintro _ _ ⟨rfl,y1,rfl⟩
 go_wp2_with (first|((with_reducible refine wp_region_later (by kernel_rfl) (by kernel_rfl) ?_);(repeat(first|go_big_quiet_step (first|fail)));refine wpQuiet_nil ?_;rintro _ ⟨x,rfl⟩)|(refine stepLoad rfl _ _ rfl (w.heap.size) 5 rfl (row:=[.int .i64 x.Notice.Expect,.bool x.Notice.Locked,.bool x.Notice.Again]) (HB.out.to inferInstance) _ Tryz.underlying37 rfl (by kernel_rfl) (by kernel_rfl) ?_)|(refine stepLoad rfl _ _ rfl (w.heap.size+1) 5 rfl (row:=[.int .i64 x.Notice.Expect,.bool x.Notice.Locked,.bool x.Notice.Again]) (HC.out.to inferInstance) _ Tryz.underlying37 rfl (by kernel_rfl) (by kernel_rfl) ?_))
 refine(d_leqNotice (B:=0) (B2:=0) (x:=x.Notice) ⟨rfl,HOK.out.2.1⟩ ⟨rfl,HOK.out.2.1⟩).mono ?_
 rintro _ _ ⟨rfl,y2,rfl⟩
 go_wp2_with (first|((with_reducible refine wp_region_later (by kernel_rfl) (by kernel_rfl) ?_);(repeat(first|go_big_quiet_step (first|fail)));refine wpQuiet_nil ?_;rintro _ ⟨x,rfl⟩)|(refine stepLoad rfl _ _ rfl (w.heap.size) 8 rfl (row:=[.int .i64 x.Unpacker.Channel,.int .i64 x.Unpacker.Next,.bool x.Unpacker.Synced,.string x.Unpacker.Rest,.int .i64 x.Unpacker.Lost]) (HB.out.to inferInstance) _ Tryz.underlying39 rfl (by kernel_rfl) (by kernel_rfl) ?_)|(refine stepLoad rfl _ _ rfl (w.heap.size+1) 8 rfl (row:=[.int .i64 x.Unpacker.Channel,.int .i64 x.Unpacker.Next,.bool x.Unpacker.Synced,.string x.Unpacker.Rest,.int .i64 x.Unpacker.Lost]) (HC.out.to inferInstance) _ Tryz.underlying39 rfl (by kernel_rfl) (by kernel_rfl) ?_))
 refine(d_leqUnpacker (B:=0) (B2:=0) (x:=x.Unpacker) ⟨rfl,HOK.out.2.2.1⟩ ⟨rfl,HOK.out.2.2.1⟩).mono ?_
 rintro _ _ ⟨rfl,y3,rfl⟩
 go_wp2_with (first|((with_reducible refine wp_region_later (by kernel_rfl) (by kernel_rfl) ?_);(repeat(first|go_big_quiet_step (first|fail)));refine wpQuiet_nil ?_;rintro _ ⟨x,rfl⟩))
 refine(d_leqPairS (HFF.out.q2.keep inferInstance) (HMF.out.q2.keep inferInstance)).mono ?_
 rintro _ _ ⟨rfl,y4,rfl⟩
 go_wp2_with (first|((with_reducible refine wp_region_later (by kernel_rfl) (by kernel_rfl) ?_);(repeat(first|go_big_quiet_step (first|fail)));refine wpQuiet_nil ?_;rintro _ ⟨x,rfl⟩))
 refine(d_leqRecordS (HFF.out.q3.keep inferInstance) (HMF.out.q3.keep inferInstance)).mono ?_
 rintro _ _ ⟨rfl,y5,rfl⟩
 go_wp2_with (first|((with_reducible refine wp_region_later (by kernel_rfl) (by kernel_rfl) ?_);(repeat(first|go_big_quiet_step (first|fail)));refine wpQuiet_nil ?_;rintro _ ⟨x,rfl⟩))
 refine(d_leqFileInS (HFF.out.q4.keep inferInstance) (HMF.out.q4.keep inferInstance)).mono ?_
 rintro _ _ ⟨rfl,y6,rfl⟩
 go_wp2_with (first|((with_reducible refine wp_region_later (by kernel_rfl) (by kernel_rfl) ?_);(repeat(first|go_big_quiet_step (first|fail)));refine wpQuiet_nil ?_;rintro _ ⟨x,rfl⟩))
 refine(d_leqBoolS (HFF.out.q5.keep inferInstance) (HMF.out.q5.keep inferInstance)).mono ?_
 rintro _ _ ⟨rfl,y7,rfl⟩
 go_wp2_with (first|((with_reducible refine wp_region_later (by kernel_rfl) (by kernel_rfl) ?_);(repeat(first|go_big_quiet_step (first|fail)));refine wpQuiet_nil ?_;rintro _ ⟨x,rfl⟩))
 go_ret
 exact Gives.mk rfl
end Go.Proofs.YtbaffippdifbpaaGreat
namespace Go.Proofs.YtbaffippdifbpaaGreat
set_option linter.unusedVariables false
open Go.ChangeShapes Go.WideShapes Go.ChangeAt Go.RowKit
theorem d_leqBoard{B B2:Nat}{vs vs2:List Value}{x:TBoard}{w:World}(h:Enc.Rd B w vs x)(h2:Enc.Rd B2 w vs2 x) :
  Calls Tryz.prog 168 #[.agg vs.toArray,.agg vs2.toArray] w (Gives w (.bool true)):=by
 obtain⟨A,rfl,F⟩:=h
 obtain⟨mA,rfl,mF⟩:=h2
 have HOK:=lH F.ok
 have HB:=lH ((Held.new w (cBoard x A.a0 A.c0 A.a1 A.c1 A.a2 A.c2 A.a3 A.c3 A.a4 A.c4 A.a5 A.c5 A.a6 A.c6) 55 w.heap.size rfl).to (inferInstance:Grows _ ((w.alloc (.cells (cBoard x A.a0 A.c0 A.a1 A.c1 A.a2 A.c2 A.a3 A.c3 A.a4 A.c4 A.a5 A.c5 A.a6 A.c6).toArray 55)).alloc (.cells (cBoard x mA.a0 mA.c0 mA.a1 mA.c1 mA.a2 mA.c2 mA.a3 mA.c3 mA.a4 mA.c4 mA.a5 mA.c5 mA.a6 mA.c6).toArray 55))))
 have HC:=lH (Held.new (w.alloc (.cells (cBoard x A.a0 A.c0 A.a1 A.c1 A.a2 A.c2 A.a3 A.c3 A.a4 A.c4 A.a5 A.c5 A.a6 A.c6).toArray 55)) (cBoard x mA.a0 mA.c0 mA.a1 mA.c1 mA.a2 mA.c2 mA.a3 mA.c3 mA.a4 mA.c4 mA.a5 mA.c5 mA.a6 mA.c6) 55 (w.heap.size+1) (by simp))
 have HFF:=lH F;clear F
 have HMF:=lH mF;clear mF
 go_enter Tryz.func168,Tryz.ntmps168
 go_wp2_with (first|((with_reducible refine wp_region_later (by kernel_rfl) (by kernel_rfl) ?_);(repeat(first|go_big_quiet_step (first|fail)));refine wpQuiet_nil ?_;rintro _ ⟨x,rfl⟩))
 refine(d_leqIntS (HFF.out.q0.keep inferInstance) (HMF.out.q0.keep inferInstance)).mono ?_
 rintro _ _ ⟨rfl,y0,rfl⟩
 go_wp2_with (first|((with_reducible refine wp_region_later (by kernel_rfl) (by kernel_rfl) ?_);(repeat(first|go_big_quiet_step (first|fail)));refine wpQuiet_nil ?_;rintro _ ⟨x,rfl⟩))
 refine(d_leqLimitS (HFF.out.q1.keep inferInstance) (HMF.out.q1.keep inferInstance)).mono ?_
 rintro _ _ ⟨rfl,y1,rfl⟩
 go_wp2_with (first|((with_reducible refine wp_region_later (by kernel_rfl) (by kernel_rfl) ?_);(repeat(first|go_big_quiet_step (first|fail)));refine wpQuiet_nil ?_;rintro _ ⟨x,rfl⟩))
 refine(d_leqWaitingS (HFF.out.q2.keep inferInstance) (HMF.out.q2.keep inferInstance)).mono ?_
 rintro _ _ ⟨rfl,y2,rfl⟩
 go_wp2_with (first|((with_reducible refine wp_region_later (by kernel_rfl) (by kernel_rfl) ?_);(repeat(first|go_big_quiet_step (first|fail)));refine wpQuiet_nil ?_;rintro _ ⟨x,rfl⟩))
 refine(d_leqDoneS (HFF.out.q3.keep inferInstance) (HMF.out.q3.keep inferInstance)).mono ?_
 rintro _ _ ⟨rfl,y3,rfl⟩
 go_wp2_with (first|((with_reducible refine wp_region_later (by kernel_rfl) (by kernel_rfl) ?_);(repeat(first|go_big_quiet_step (first|fail)));refine wpQuiet_nil ?_;rintro _ ⟨x,rfl⟩)|(refine stepLoad rfl _ _ rfl (w.heap.size) 6 rfl (row:=[.int .i64 x.Recorder.Room,.slice A.a4 x.Recorder.Records.length A.c4,.slice A.a5 x.Recorder.Dropped.length A.c5]) (HB.out.to inferInstance) _ Tryz.underlying53 rfl (by kernel_rfl) (by kernel_rfl) ?_)|(refine stepLoad rfl _ _ rfl (w.heap.size+1) 6 rfl (row:=[.int .i64 x.Recorder.Room,.slice mA.a4 x.Recorder.Records.length mA.c4,.slice mA.a5 x.Recorder.Dropped.length mA.c5]) (HC.out.to inferInstance) _ Tryz.underlying53 rfl (by kernel_rfl) (by kernel_rfl) ?_))
 refine(d_leqRecorder (x:=x.Recorder) ⟨A.a4,A.c4,A.a5,A.c5,rfl,HFF.out.q4.keep inferInstance,HFF.out.q5.keep inferInstance,HOK.out.2.1⟩ ⟨mA.a4,mA.c4,mA.a5,mA.c5,rfl,HMF.out.q4.keep inferInstance,HMF.out.q5.keep inferInstance,HOK.out.2.1⟩).mono ?_
 rintro _ _ ⟨rfl,y4,rfl⟩
 go_wp2_with (first|((with_reducible refine wp_region_later (by kernel_rfl) (by kernel_rfl) ?_);(repeat(first|go_big_quiet_step (first|fail)));refine wpQuiet_nil ?_;rintro _ ⟨x,rfl⟩))
 refine(d_leqIntS (HFF.out.q6.keep inferInstance) (HMF.out.q6.keep inferInstance)).mono ?_
 rintro _ _ ⟨rfl,y5,rfl⟩
 go_wp2_with (first|((with_reducible refine wp_region_later (by kernel_rfl) (by kernel_rfl) ?_);(repeat(first|go_big_quiet_step (first|fail)));refine wpQuiet_nil ?_;rintro _ ⟨x,rfl⟩))
 go_ret
 exact Gives.mk rfl
end Go.Proofs.YtbaffippdifbpaaGreat
namespace Go.Proofs.YtbaffippdifbpaaGreat
set_option linter.unusedVariables false
open Go.ChangeShapes Go.WideShapes Go.ChangeAt Go.RowKit
end Go.Proofs.YtbaffippdifbpaaGreat
namespace Go.Proofs.YtbaffippdifbpaaGreat
set_option linter.unusedVariables false
open Go.ChangeShapes Go.WideShapes Go.ChangeAt Go.RowKit
theorem d_leqSpace{B B2:Nat}{vs vs2:List Value}{x:TSpace}{w:World}(h:Enc.Rd B w vs x)(h2:Enc.Rd B2 w vs2 x) :
  Calls Tryz.prog 76 #[.agg vs.toArray,.agg vs2.toArray] w (Gives w (.bool true)):=by
 obtain⟨A,rfl,F⟩:=h
 obtain⟨mA,rfl,mF⟩:=h2
 have HOK:=lH F.ok
 have HB:=lH ((Held.new w (cSpace x A.a0 A.c0 A.a1 A.c1 A.a2 A.c2 A.a3 A.c3 A.a4 A.c4 A.a5 A.c5 A.a6 A.c6 A.a7 A.c7 A.a8 A.c8 A.a9 A.c9 A.a10 A.c10) 60 w.heap.size rfl).to (inferInstance:Grows _ ((w.alloc (.cells (cSpace x A.a0 A.c0 A.a1 A.c1 A.a2 A.c2 A.a3 A.c3 A.a4 A.c4 A.a5 A.c5 A.a6 A.c6 A.a7 A.c7 A.a8 A.c8 A.a9 A.c9 A.a10 A.c10).toArray 60)).alloc (.cells (cSpace x mA.a0 mA.c0 mA.a1 mA.c1 mA.a2 mA.c2 mA.a3 mA.c3 mA.a4 mA.c4 mA.a5 mA.c5 mA.a6 mA.c6 mA.a7 mA.c7 mA.a8 mA.c8 mA.a9 mA.c9 mA.a10 mA.c10).toArray 60))))
 have HC:=lH (Held.new (w.alloc (.cells (cSpace x A.a0 A.c0 A.a1 A.c1 A.a2 A.c2 A.a3 A.c3 A.a4 A.c4 A.a5 A.c5 A.a6 A.c6 A.a7 A.c7 A.a8 A.c8 A.a9 A.c9 A.a10 A.c10).toArray 60)) (cSpace x mA.a0 mA.c0 mA.a1 mA.c1 mA.a2 mA.c2 mA.a3 mA.c3 mA.a4 mA.c4 mA.a5 mA.c5 mA.a6 mA.c6 mA.a7 mA.c7 mA.a8 mA.c8 mA.a9 mA.c9 mA.a10 mA.c10) 60 (w.heap.size+1) (by simp))
 have HFF:=lH F;clear F
 have HMF:=lH mF;clear mF
 go_enter Tryz.func76,Tryz.ntmps76
 go_wp2_with (first|((with_reducible refine wp_region_later (by kernel_rfl) (by kernel_rfl) ?_);(repeat(first|go_big_quiet_step (first|fail)));refine wpQuiet_nil ?_;rintro _ ⟨x,rfl⟩)|(refine stepLoad rfl _ _ rfl (w.heap.size) 0 rfl (row:=[.int .i64 x.Receiver.Expect,.bool x.Receiver.Locked,.bool x.Receiver.Again,.int .i64 x.Receiver.Taken]) (HB.out.to inferInstance) _ Tryz.underlying47 rfl (by kernel_rfl) (by kernel_rfl) ?_)|(refine stepLoad rfl _ _ rfl (w.heap.size+1) 0 rfl (row:=[.int .i64 x.Receiver.Expect,.bool x.Receiver.Locked,.bool x.Receiver.Again,.int .i64 x.Receiver.Taken]) (HC.out.to inferInstance) _ Tryz.underlying47 rfl (by kernel_rfl) (by kernel_rfl) ?_))
 refine(d_leqReceiver (B:=0) (B2:=0) (x:=x.Receiver) ⟨rfl,HOK.out.1⟩ ⟨rfl,HOK.out.1⟩).mono ?_
 rintro _ _ ⟨rfl,y0,rfl⟩
 go_wp2_with (first|((with_reducible refine wp_region_later (by kernel_rfl) (by kernel_rfl) ?_);(repeat(first|go_big_quiet_step (first|fail)));refine wpQuiet_nil ?_;rintro _ ⟨x,rfl⟩)|(refine stepLoad rfl _ _ rfl (w.heap.size) 4 rfl (row:=(cBoard x.Board A.a0 A.c0 A.a1 A.c1 A.a2 A.c2 A.a3 A.c3 A.a4 A.c4 A.a5 A.c5 A.a6 A.c6)) (HB.out.to inferInstance) _ Tryz.underlying55 rfl (by kernel_rfl) (by kernel_rfl) ?_)|(refine stepLoad rfl _ _ rfl (w.heap.size+1) 4 rfl (row:=(cBoard x.Board mA.a0 mA.c0 mA.a1 mA.c1 mA.a2 mA.c2 mA.a3 mA.c3 mA.a4 mA.c4 mA.a5 mA.c5 mA.a6 mA.c6)) (HC.out.to inferInstance) _ Tryz.underlying55 rfl (by kernel_rfl) (by kernel_rfl) ?_))
 refine(d_leqBoard (x:=x.Board) ⟨⟨A.a0,A.c0,A.a1,A.c1,A.a2,A.c2,A.a3,A.c3,A.a4,A.c4,A.a5,A.c5,A.a6,A.c6⟩,rfl,⟨HFF.out.q0.keep inferInstance,HFF.out.q1.keep inferInstance,HFF.out.q2.keep inferInstance,HFF.out.q3.keep inferInstance,HFF.out.q4.keep inferInstance,HFF.out.q5.keep inferInstance,HFF.out.q6.keep inferInstance,HOK.out.2.1⟩⟩ ⟨⟨mA.a0,mA.c0,mA.a1,mA.c1,mA.a2,mA.c2,mA.a3,mA.c3,mA.a4,mA.c4,mA.a5,mA.c5,mA.a6,mA.c6⟩,rfl,⟨HMF.out.q0.keep inferInstance,HMF.out.q1.keep inferInstance,HMF.out.q2.keep inferInstance,HMF.out.q3.keep inferInstance,HMF.out.q4.keep inferInstance,HMF.out.q5.keep inferInstance,HMF.out.q6.keep inferInstance,HOK.out.2.1⟩⟩).mono ?_
 rintro _ _ ⟨rfl,y1,rfl⟩
 go_wp2_with (first|((with_reducible refine wp_region_later (by kernel_rfl) (by kernel_rfl) ?_);(repeat(first|go_big_quiet_step (first|fail)));refine wpQuiet_nil ?_;rintro _ ⟨x,rfl⟩)|(refine stepLoad rfl _ _ rfl (w.heap.size) 16 rfl (row:=[.int .i64 x.Packer.Channel,.int .i64 x.Packer.Count,.string x.Packer.Rest,.slice A.a7 x.Packer.Starts.length A.c7]) (HB.out.to inferInstance) _ Tryz.underlying57 rfl (by kernel_rfl) (by kernel_rfl) ?_)|(refine stepLoad rfl _ _ rfl (w.heap.size+1) 16 rfl (row:=[.int .i64 x.Packer.Channel,.int .i64 x.Packer.Count,.string x.Packer.Rest,.slice mA.a7 x.Packer.Starts.length mA.c7]) (HC.out.to inferInstance) _ Tryz.underlying57 rfl (by kernel_rfl) (by kernel_rfl) ?_))
 refine(d_leqPacker (x:=x.Packer) ⟨A.a7,A.c7,rfl,HFF.out.q7.keep inferInstance,HOK.out.2.2.1⟩ ⟨mA.a7,mA.c7,rfl,HMF.out.q7.keep inferInstance,HOK.out.2.2.1⟩).mono ?_
 rintro _ _ ⟨rfl,y2,rfl⟩
 go_wp2_with (first|((with_reducible refine wp_region_later (by kernel_rfl) (by kernel_rfl) ?_);(repeat(first|go_big_quiet_step (first|fail)));refine wpQuiet_nil ?_;rintro _ ⟨x,rfl⟩))
 refine(d_leqStringS (HFF.out.q8.keep inferInstance) (HMF.out.q8.keep inferInstance)).mono ?_
 rintro _ _ ⟨rfl,y3,rfl⟩
 go_wp2_with (first|((with_reducible refine wp_region_later (by kernel_rfl) (by kernel_rfl) ?_);(repeat(first|go_big_quiet_step (first|fail)));refine wpQuiet_nil ?_;rintro _ ⟨x,rfl⟩))
 refine(d_leqFileOutS (HFF.out.q9.keep inferInstance) (HMF.out.q9.keep inferInstance)).mono ?_
 rintro _ _ ⟨rfl,y4,rfl⟩
 go_wp2_with (first|((with_reducible refine wp_region_later (by kernel_rfl) (by kernel_rfl) ?_);(repeat(first|go_big_quiet_step (first|fail)));refine wpQuiet_nil ?_;rintro _ ⟨x,rfl⟩))
 refine(d_leqRecordS (HFF.out.q10.keep inferInstance) (HMF.out.q10.keep inferInstance)).mono ?_
 rintro _ _ ⟨rfl,y5,rfl⟩
 go_wp2_with (first|((with_reducible refine wp_region_later (by kernel_rfl) (by kernel_rfl) ?_);(repeat(first|go_big_quiet_step (first|fail)));refine wpQuiet_nil ?_;rintro _ ⟨x,rfl⟩))
 go_ret
 exact Gives.mk rfl
end Go.Proofs.YtbaffippdifbpaaGreat
namespace Go.Proofs.YtbaffippdifbpaaGreat
set_option linter.unusedVariables false
open Go.ChangeShapes Go.WideShapes Go.ChangeAt Go.RowKit
theorem RowsIn.list{α:Type}[E:Flat α]{B n:Nat}{w:World}{D:Array Value}{l:List α}(h:RowsIn B w D l)(hl:l.length=n)(hD:D.size=n*E.size):D.toList=l.flatMap E.enc:=by
 have hfl:(l.flatMap E.enc).length=n*E.size:=by rw[flatMap_length E.encLen,hl]
 refine List.ext_getElem? fun j=>?_
 by_cases hj:j<n*E.size
 ·have hs:0<E.size:=by
   rcases Nat.eq_zero_or_pos E.size with h0|h0
   ·rw[h0]at hj;omega
   ·exact h0
  have hq:j / E.size<l.length:=by rw[hl];exact Nat.div_lt_of_lt_mul (by rw[Nat.mul_comm];exact hj)
  have hx:=List.getElem?_eq_getElem hq
  obtain⟨vs,h1,h2⟩:=h _ _ hx
  obtain⟨rfl,-⟩:=E.inv h1
  have hm:j % E.size<(E.enc l[j / E.size]).length:=by rw[E.encLen];exact Nat.mod_lt _ hs
  have hu:=List.getElem?_eq_getElem hm
  have h3:=h2 _ _ hu
  have h4:=flatMap_at E.encLen l _ _ _ _ hx hu
  have hj':j / E.size*E.size+j % E.size=j:=by rw[Nat.mul_comm];exact Nat.div_add_mod _ _
  rw[hj']at h3 h4
  rw[h4,Array.getElem?_toList,h3]
 ·rw[List.getElem?_eq_none (by rw[Array.length_toList];omega),List.getElem?_eq_none (by omega)]
theorem RowsIn.own{α:Type}[E:Flat α]{B n:Nat}{W:World}{D:Array Value}{l:List α}(x:Later (W.alloc (.cells D E.ty)))(h:RowsIn B x.w D l)(hl:l.length=n)(hm:n≤1048576)(hD:D.size=n*E.size):Own E.enc E.ty E.size W.heap.size x.w (some ⟨W.heap.size,0,none⟩) n l :=
 own_block E.encLen hl (by omega) (Nat.le_refl _) hD (h.list hl hD) x
theorem o_ltoStringS{B:Nat}{a:Option Addr}{c:Nat}{l:List ByteArray}{w:World}(hs:RdS B w a c l)(ht:totL l≤1048576) :
  Calls Tryz.prog 23 #[.slice a l.length c] w (GivesOS w l):=by
 have hln:=totL_len l
 have HT:=lH (show ∀ x∈l,Enc.tot x≤1048576 from fun x hx=>Int.le_trans (totL_mem hx) ht)
 obtain⟨n,hn⟩:∃ n,l.length=n:=⟨_,rfl⟩
 have HN:=lH hn
 have hm:n≤1048576:=by omega
 rw[hn];clear ht hln hn
 obtain⟨C,hC,hmk⟩:=run_mk (P:=Tryz.prog) Tryz.underlying32 (e:=9) (z:=.string ByteArray.empty) (size:=1) (bytes:=16) (by kernel_rfl) n (by omega) (by omega)
 have hCz:C.size=n:=by rw[hC,size_madeCells,Nat.mul_one]
 clear hC
 go_enter Tryz.func23,Tryz.ntmps23
 go_wp2_with (first|((with_reducible refine wp_region_later (by kernel_rfl) (by kernel_rfl) ?_);(repeat(first|go_big_quiet_step (first|fail)));refine wpQuiet_nil ?_;rintro _ ⟨x,rfl⟩))
 clear hmk
 go_loopw [4] (fun v wr=>∃ k:Nat,v=.int .i64 k∧k≤n∧∃ (D:Array Value) (x:Later (w.alloc (.cells D 9))),D.size=n∧Hid (RowsIn (w.heap.size+1) x.w D (l.take k))∧wr=x.w) (fun v _=>(n - intOf v).toNat)
 case atStart=>exact⟨0,rfl,by omega,C,Later.here _,hCz,by rw[List.take_zero];exact RowsIn.nil,rfl⟩
 case round =>
  obtain⟨k,rfl,hk,D,x,hDz,hf,rfl⟩:=hrel
  by_cases h:k<n
  ·have hlk:k<l.length:=by have:=HN.out;omega
   obtain⟨eb,eoff,ex,rfl,ehb,ehd,eok,eh0⟩:=hs.atStr (show k<l.length by omega)
   obtain⟨o0,g0⟩:=getD_lt hDz (show k<n by omega)
   go_wp2_with (first|((with_reducible refine wp_region_later (by kernel_rfl) (by kernel_rfl) ?_);(repeat(first|go_big_quiet_step (first|fail)));refine wpQuiet_nil ?_;rintro _ ⟨x,rfl⟩))
   go_roundw
   case rel =>
    obtain⟨x2,hx2⟩:=Later.set1_at x k (.string ex)
    rw[hx2]
    have hP:=RowsIn.put (W':=x2.w) hf.out ehd.out h HN.out (show D.size=n*1 by omega) (vs:=[.string ex]) ⟨rfl,eok⟩ (by rw[← hx2];infer_instance)
    rw[show k*Enc.size ByteArray=k from Nat.mul_one k]at hP
    exact⟨k+1,by go_num,by omega,D.setIfInBounds k _,x2,by simpa using hDz,hP,rfl⟩
   case measure=>simp[intOf];omega
  ·go_wp2_with (first|((with_reducible refine wp_region_later (by kernel_rfl) (by kernel_rfl) ?_);(repeat(first|go_big_quiet_step (first|fail)));refine wpQuiet_nil ?_;rintro _ ⟨x,rfl⟩))
   go_ret
   have hf2:=hf.out
   rw[List.take_of_length_le (by have:=HN.out;omega)]at hf2
   exact⟨_,n,by rw[HN.out];rfl,OwnC.of (E:=Flat.iByteArray) (RowsIn.own (E:=Flat.iByteArray) x hf2 HN.out hm (by rw[hDz];exact(Nat.mul_one n).symm)) (RdS.goods (E:=Flat.iByteArray) hs) _,⟨x.w,Grows.out⟩,rfl⟩
theorem o_ltoLimitS{B:Nat}{a:Option Addr}{c:Nat}{l:List TLimit}{w:World}(hs:RdS B w a c l)(ht:totL l≤1048576) :
  Calls Tryz.prog 22 #[.slice a l.length c] w (GivesOS w l):=by
 have hln:=totL_len l
 have HT:=lH (show ∀ x∈l,Enc.tot x≤1048576 from fun x hx=>Int.le_trans (totL_mem hx) ht)
 obtain⟨n,hn⟩:∃ n,l.length=n:=⟨_,rfl⟩
 have HN:=lH hn
 have hm:n≤1048576:=by omega
 rw[hn];clear ht hln hn
 obtain⟨C,hC,hmk⟩:=run_mk (P:=Tryz.prog) Tryz.underlying49 (e:=149) (z:=.agg #[.int .i64 0,.int .i64 0,.int .i64 0]) (size:=3) (bytes:=24) (by kernel_rfl) n (by omega) (by omega)
 have hCz:C.size=n*3:=by rw[hC,size_madeCells]
 clear hC
 go_enter Tryz.func22,Tryz.ntmps22
 go_wp2_with (first|((with_reducible refine wp_region_later (by kernel_rfl) (by kernel_rfl) ?_);(repeat(first|go_big_quiet_step (first|fail)));refine wpQuiet_nil ?_;rintro _ ⟨x,rfl⟩))
 clear hmk
 go_loopw [4] (fun v wr=>∃ k:Nat,v=.int .i64 k∧k≤n∧∃ (D:Array Value) (x:Later (w.alloc (.cells D 149))),D.size=n*3∧Hid (RowsIn (w.heap.size+1) x.w D (l.take k))∧wr=x.w) (fun v _=>(n - intOf v).toNat)
 case atStart=>exact⟨0,rfl,by omega,C,Later.here _,hCz,by rw[List.take_zero];exact RowsIn.nil,rfl⟩
 case round =>
  obtain⟨k,rfl,hk,D,x,hDz,hf,rfl⟩:=hrel
  by_cases h:k<n
  ·have hlk:k<l.length:=by have:=HN.out;omega
   obtain⟨eb,eoff,ex,rfl,ehb,ehd,eok,eh0,eh1,eh2⟩:=hs.atTLimit (show k<l.length by omega)
   obtain⟨o0,g0⟩:=getD_lt hDz (show k*3<n*3 by omega)
   obtain⟨o1,g1⟩:=getD_lt hDz (show k*3+1<n*3 by omega)
   obtain⟨o2,g2⟩:=getD_lt hDz (show k*3+2<n*3 by omega)
   have hte:=HT.out ex (List.mem_of_mem_drop (by rw[ehd.out];exact List.mem_cons_self ..))
   have HEOK:=lH eok;clear eok
   go_wp2_with (first|((with_reducible refine wp_region_later (by kernel_rfl) (by kernel_rfl) ?_);(repeat(first|go_big_quiet_step (first|fail)));refine wpQuiet_nil ?_;rintro _ ⟨x,rfl⟩))
   refine(d_ltoLimit (B:=0) (x:=ex) ⟨rfl,HEOK.out⟩ hte).mono ?_
   rintro _ _ ⟨_,rfl,⟨rfl,-⟩,y,rfl⟩
   clear hte
   go_wp2_with (first|((with_reducible refine wp_region_later (by kernel_rfl) (by kernel_rfl) ?_);(repeat(first|go_big_quiet_step (first|fail)));refine wpQuiet_nil ?_;rintro _ ⟨x,rfl⟩))
   go_roundw
   case rel =>
    obtain⟨x2,hx2⟩:=Later.set3_at (x.andThen y) (k*3) (k*3+1) (k*3+2) (.int .i64 ex.Param) (.int .i64 ex.Low) (.int .i64 ex.High)
    rw[hx2]
    have hP:=RowsIn.put (W':=x2.w) hf.out ehd.out h HN.out hDz (vs:=[.int .i64 ex.Param,.int .i64 ex.Low,.int .i64 ex.High]) ⟨rfl,HEOK.out⟩ (by rw[← hx2];infer_instance)
    exact⟨k+1,by go_num,by omega,_,x2,by simpa using hDz,hP,rfl⟩
   case measure=>simp[intOf];omega
  ·go_wp2_with (first|((with_reducible refine wp_region_later (by kernel_rfl) (by kernel_rfl) ?_);(repeat(first|go_big_quiet_step (first|fail)));refine wpQuiet_nil ?_;rintro _ ⟨x,rfl⟩))
   go_ret
   have hf2:=hf.out
   rw[List.take_of_length_le (by have:=HN.out;omega)]at hf2
   exact⟨_,n,by rw[HN.out];rfl,OwnC.of (E:=Flat.iTLimit) (RowsIn.own (E:=Flat.iTLimit) x hf2 HN.out hm (by rw[hDz];rfl)) (RdS.goods (E:=Flat.iTLimit) hs) _,⟨x.w,Grows.out⟩,rfl⟩
end Go.Proofs.YtbaffippdifbpaaGreat
namespace Go.Proofs.YtbaffippdifbpaaGreat
set_option linter.unusedVariables false
open Go.ChangeShapes Go.WideShapes Go.ChangeAt Go.RowKit
instance(priority:=950) LeN.setL (a:Nat){W:World}(x:Later W)(p:Addr)(v:Value)[h:LeN a x.w.heap.size]:LeN a (x.set p v).w.heap.size:=⟨by show a≤(x.w.setCell p v).heap.size;simpa using h.out⟩
section
variable {α β:Type} [N:Nest α β] [F:Flat β] {B n:Nat} {χ χ2:Nat→Col} {w W1 W2 w2:World} {D:Array Value} {rows:List (NRow α)} {x:α} {ra:Option Addr} {rc:Nat}
end
end Go.Proofs.YtbaffippdifbpaaGreat
namespace Go.Proofs.YtbaffippdifbpaaGreat
set_option linter.unusedVariables false
open Go.ChangeShapes Go.WideShapes Go.ChangeAt Go.RowKit
def recV(x:TRecord):Value:=.agg #[.int .i64 x.Id,.int .i64 x.Priority,.int .i64 x.Time,.string x.Data]
def Ents:List MapEntry→List TRecord→Prop
 | [],[]=>True
 | e::es,r::rs=>(e.key=recV r∧e.val=.bool true)∧Ents es rs
 | _,_=>False
def MapR(w:World)(b:Nat)(rs:List TRecord):Prop:=∃ es clock,w.heap[b]?=some (.map es clock)∧Ents es.toList rs
theorem MapR.lt{w:World}{b:Nat}{rs:List TRecord}(h:MapR w b rs):b<w.heap.size:=by
 obtain⟨es,c,h,-⟩:=h
 exact(Array.getElem?_eq_some_iff.1 h).1
theorem Ents.set{x:TRecord}{q:MapEntry}(hq:q.key=recV x∧q.val=.bool true):∀ {es:List MapEntry} {rs:List TRecord} {j:Nat},Ents es rs→rs[j]?=some x→Ents (es.set j q) rs
 | [],[],_,_,h=>by cases h
 | [],_::_,_,h,_=>h.elim
 | _::_,[],_,h,_=>h.elim
 | e::es,r::rs,0,h,hx=>by simp at hx;subst hx;exact⟨hq,h.2⟩
 | e::es,r::rs,j+1,h,hx=>by simp at hx;exact⟨h.1,h.2.set hq hx⟩
end Go.Proofs.YtbaffippdifbpaaGreat
namespace Go.Proofs.YtbaffippdifbpaaGreat
set_option linter.unusedVariables false
open Go.ChangeShapes Go.WideShapes Go.ChangeAt Go.RowKit
@[go_sem] theorem run_makeMapR(w:World):(Instr.makeMap 219 none).run Tryz.prog w=.ok (.map (some w.heap.size)) (w.alloc (.map #[] 0)):=by
 simp[Instr.makeMap,go_sem]
theorem MapR.notOwn{α:Type}{enc:α→List Value}{T size B n:Nat}{w:World}{a:Option Addr}{c b:Nat}{l:List α}{rs:List TRecord}(hb:MapR w b rs)(h:Own enc T size B w a c l):some b≠Value.ownBlock (.slice a n c):=by
 obtain⟨es,clk,hb,-⟩:=hb
 obtain⟨-,-,⟨h1,-⟩|⟨g,cap,cur,hv,-,hh,-⟩⟩:=h
 ·simp only[Value.slice.injEq]at h1;obtain⟨rfl,-⟩:=h1;simp[Value.ownBlock]
 ·simp only[Value.slice.injEq]at hv;obtain⟨rfl,-⟩:=hv
  simp only[Value.ownBlock,ne_eq,Option.some.injEq]
  rintro rfl
  rw[hb]at hh
  simp at hh
theorem MapR.kept{α:Type}{enc:α→List Value}{T size B n:Nat}{w w':World}{a:Option Addr}{c b:Nat}{l:List α}{rs:List TRecord}(hb:MapR w b rs)(h:Own enc T size B w a c l)(hg:w.grownBy w' (Value.ownBlock (.slice a n c))):MapR w' b rs:=by
 have hne:=hb.notOwn (n:=n) h
 have hl:=hb.lt
 obtain⟨es,clk,hb,he⟩:=hb
 exact⟨es,clk,by rw[hg.block b hl hne];exact hb,he⟩
section
variable {ops:Array Oper} {rest:List Oper} {op:Oper} {a:Act} {w:World} {Q:Exit→Act→World→Prop}
end
section
variable {ops:Array Oper} {C:World→Prop} {Q:Act→Prop} {o:Oper} {rest:List Oper} {a:Act}
end
end Go.Proofs.YtbaffippdifbpaaGreat
namespace Go.Proofs.YtbaffippdifbpaaGreat
set_option linter.unusedVariables false
open Go.ChangeShapes Go.WideShapes Go.ChangeAt Go.RowKit
def flightOk(x:TFlight):Bool:=inB x.At 0 1000050 && inB x.Data.size 1 404
def flightsOk(l:List TFlight):Bool:=decide (l.length≤1000) && l.all flightOk
def recordsOk(l:List TRecord):Bool:=decide (l.length≤5000) && l.all recordOk
theorem k_iflightsOk{B:Nat}{a:Option Addr}{c:Nat}{l:List TFlight}{w:World}(hs:RdS B w a c l)(hm:l.length≤100000000) :
  Calls Tryz.prog 136 #[.slice a l.length c] w (Gives w (.bool (flightsOk l))):=by
 obtain⟨n,hn⟩:∃ n,l.length=n:=⟨_,rfl⟩
 have HN:=lH hn
 have HD:=lH (show flightsOk l=(decide (n≤1000) && l.all flightOk)by rw[flightsOk,hn])
 rw[hn]at hm ⊢
 clear hn
 by_cases hmx:n≤1000
 ·go_enter Tryz.func136,Tryz.ntmps136
  go_wp2_with fail
  go_loopw [10] (fun v wr=>∃ k:Nat,v=.int .i64 k∧k≤n∧Hid ((l.drop k).all flightOk=l.all flightOk)∧∃ x:Later w,wr=x.w) (fun v _=>(n - intOf v).toNat)
  case atStart=>exact⟨0,rfl,by omega,rfl,Later.of⟩
  case round =>
   obtain⟨k,rfl,hk,HV,x,rfl⟩:=hrel
   by_cases h:k<n
   ·have hkl:k<l.length:=by have:=HN.out;omega
    obtain⟨eb,eoff,ex,rfl,ehb,ehd,eok,eh0,eh1⟩:=hs.atTFlight hkl
    have hz:ex.Data.size≤9223372036854775807:=eok.2.1
    have EOK:=lH eok;clear eok hkl
    cases hg:flightOk ex
    ·have HF:=lH (show l.all flightOk=false by have:=HV.out;rw[ehd.out,List.all_cons,hg]at this;rw[← this];rfl)
     cases c1:inB ex.At 0 1000050
     ·clear hg
      go_wp2_with (first|(go_at_call 127;refine(c_ibetween).mono ?_;rintro _ _ ⟨rfl,x,rfl⟩))
      go_ret
      exact Gives.mk (by rw[HD.out,HF.out,Bool.and_false];rfl)
     ·have c2:inB ex.Data.size 1 404=false:=by rw[flightOk,c1]at hg;exact hg
      clear hg
      go_wp2_with (first|(go_at_call 127;refine(c_ibetween).mono ?_;rintro _ _ ⟨rfl,x,rfl⟩))
      go_ret
      exact Gives.mk (by rw[HD.out,HF.out,Bool.and_false];rfl)
    ·have HF:=lH (show(l.drop (k+1)).all flightOk=l.all flightOk by have:=HV.out;rw[ehd.out,List.all_cons,hg,Bool.true_and]at this;exact this)
     have c1:inB ex.At 0 1000050=true:=by simp only[flightOk,Bool.and_eq_true]at hg;exact hg.1
     have c2:inB ex.Data.size 1 404=true:=by simp only[flightOk,Bool.and_eq_true]at hg;exact hg.2
     clear hg
     go_wp2_with (first|(go_at_call 127;refine(c_ibetween).mono ?_;rintro _ _ ⟨rfl,x,rfl⟩))
     go_roundw
     case rel=>exact⟨k+1,by go_num,by omega,HF,Later.of⟩
     case measure=>simp[intOf];omega
   ·have HF:=lH (show l.all flightOk=true by have:=HV.out;rw[List.drop_of_length_le (by have:=HN.out;omega)]at this;rw[← this];rfl)
    go_wp2_with fail
    go_ret
    exact Gives.mk (by rw[HD.out,HF.out,decide_eq_true hmx];rfl)
 ·go_enter Tryz.func136,Tryz.ntmps136
  go_wp2_with fail
  go_ret
  exact Gives.mk (by rw[HD.out,decide_eq_false hmx];rfl)
theorem k_irecordsOk{B:Nat}{a:Option Addr}{c:Nat}{l:List TRecord}{w:World}(hs:RdS B w a c l)(hm:l.length≤100000000) :
  Calls Tryz.prog 243 #[.slice a l.length c] w (Gives w (.bool (recordsOk l))):=by
 obtain⟨n,hn⟩:∃ n,l.length=n:=⟨_,rfl⟩
 have HN:=lH hn
 have HD:=lH (show recordsOk l=(decide (n≤5000) && l.all recordOk)by rw[recordsOk,hn])
 rw[hn]at hm ⊢
 clear hn
 by_cases hmx:n≤5000
 ·go_enter Tryz.func243,Tryz.ntmps243
  go_wp2_with fail
  go_loopw [10] (fun v wr=>∃ k:Nat,v=.int .i64 k∧k≤n∧Hid ((l.drop k).all recordOk=l.all recordOk)∧∃ x:Later w,wr=x.w) (fun v _=>(n - intOf v).toNat)
  case atStart=>exact⟨0,rfl,by omega,rfl,Later.of⟩
  case round =>
   obtain⟨k,rfl,hk,HV,x,rfl⟩:=hrel
   by_cases h:k<n
   ·have hkl:k<l.length:=by have:=HN.out;omega
    obtain⟨eb,eoff,ex,rfl,ehb,ehd,eok,eh0,eh1,eh2,eh3⟩:=hs.atTRecord hkl
    have hz:ex.Data.size≤9223372036854775807:=eok.2.2.2.1
    have EOK:=lH eok;clear eok hkl
    cases hg:recordOk ex
    ·have HF:=lH (show l.all recordOk=false by have:=HV.out;rw[ehd.out,List.all_cons,hg]at this;rw[← this];rfl)
     go_wp2_with (first|(go_at_call 300;refine(k_iRecordOk (by omega)).mono ?_;rintro _ _ ⟨rfl,x,rfl⟩))
     go_ret
     exact Gives.mk (by rw[HD.out,HF.out,Bool.and_false];rfl)
    ·have HF:=lH (show(l.drop (k+1)).all recordOk=l.all recordOk by have:=HV.out;rw[ehd.out,List.all_cons,hg,Bool.true_and]at this;exact this)
     go_wp2_with (first|(go_at_call 300;refine(k_iRecordOk (by omega)).mono ?_;rintro _ _ ⟨rfl,x,rfl⟩))
     go_roundw
     case rel=>exact⟨k+1,by go_num,by omega,HF,Later.of⟩
     case measure=>simp[intOf];omega
   ·have HF:=lH (show l.all recordOk=true by have:=HV.out;rw[List.drop_of_length_le (by have:=HN.out;omega)]at this;rw[← this];rfl)
    go_wp2_with fail
    go_ret
    exact Gives.mk (by rw[HD.out,HF.out,decide_eq_true hmx];rfl)
 ·go_enter Tryz.func243,Tryz.ntmps243
  go_wp2_with fail
  go_ret
  exact Gives.mk (by rw[HD.out,decide_eq_false hmx];rfl)
theorem k_sflightsOk{B:Nat}{a:Option Addr}{c:Nat}{l:List TFlight}{w:World}(hs:RdS B w a c l)(hm:l.length≤100000000) :
  Calls Tryz.prog 155 #[.slice a l.length c] w (Gives w (.bool (flightsOk l))):=by
 obtain⟨n,hn⟩:∃ n,l.length=n:=⟨_,rfl⟩
 have HN:=lH hn
 have HD:=lH (show flightsOk l=(decide (n≤1000) && l.all flightOk)by rw[flightsOk,hn])
 rw[hn]at hm ⊢
 clear hn
 go_enter Tryz.func155,Tryz.ntmps155
 go_wp2_with fail
 go_loopw [3] (fun v wr=>∃ k:Nat,v=.int .i64 k∧k≤n∧Hid ((l.drop k).all flightOk=l.all flightOk)∧∃ x:Later w,wr=x.w) (fun v _=>(n - intOf v).toNat)
 case atStart=>exact⟨0,rfl,by omega,rfl,Later.of⟩
 case round =>
  obtain⟨k,rfl,hk,HV,x,rfl⟩:=hrel
  by_cases h:k<n
  ·have hkl:k<l.length:=by have:=HN.out;omega
   obtain⟨eb,eoff,ex,rfl,ehb,ehd,eok,eh0,eh1⟩:=hs.atTFlight hkl
   have hz:ex.Data.size≤9223372036854775807:=eok.2.1
   have EOK:=lH eok;clear eok hkl
   cases hg:flightOk ex
   ·have HF:=lH (show l.all flightOk=false by have:=HV.out;rw[ehd.out,List.all_cons,hg]at this;rw[← this];rfl)
    cases c1:inB ex.At 0 1000050
    ·clear hg
     go_wp2_with (first|(go_at_call 151;refine(c_sl01In).mono ?_;rintro _ _ ⟨rfl,x,rfl⟩))
     go_ret
     exact Gives.mk (by rw[HD.out,HF.out,Bool.and_false];rfl)
    ·have c2:inB ex.Data.size 1 404=false:=by rw[flightOk,c1]at hg;exact hg
     clear hg
     go_wp2_with (first|(go_at_call 151;refine(c_sl01In).mono ?_;rintro _ _ ⟨rfl,x,rfl⟩))
     go_ret
     exact Gives.mk (by rw[HD.out,HF.out,Bool.and_false];rfl)
   ·have HF:=lH (show(l.drop (k+1)).all flightOk=l.all flightOk by have:=HV.out;rw[ehd.out,List.all_cons,hg,Bool.true_and]at this;exact this)
    have c1:inB ex.At 0 1000050=true:=by simp only[flightOk,Bool.and_eq_true]at hg;exact hg.1
    have c2:inB ex.Data.size 1 404=true:=by simp only[flightOk,Bool.and_eq_true]at hg;exact hg.2
    clear hg
    go_wp2_with (first|(go_at_call 151;refine(c_sl01In).mono ?_;rintro _ _ ⟨rfl,x,rfl⟩))
    go_roundw
    case rel=>exact⟨k+1,by go_num,by omega,HF,Later.of⟩
    case measure=>simp[intOf];omega
  ·have HF:=lH (show l.all flightOk=true by have:=HV.out;rw[List.drop_of_length_le (by have:=HN.out;omega)]at this;rw[← this];rfl)
   by_cases hmx:n≤1000
   ·have kx:decide ((n:Int)≤1000)=true:=by simp;omega
    go_wp2_with fail
    go_ret
    exact Gives.mk (by rw[HD.out,HF.out,decide_eq_true hmx];rfl)
   ·have kx:decide ((n:Int)≤1000)=false:=by simp;omega
    go_wp2_with fail
    go_ret
    exact Gives.mk (by rw[HD.out,HF.out,decide_eq_false hmx];rfl)
theorem k_srecordsOk{B:Nat}{a:Option Addr}{c:Nat}{l:List TRecord}{w:World}(hs:RdS B w a c l)(hm:l.length≤100000000) :
  Calls Tryz.prog 250 #[.slice a l.length c] w (Gives w (.bool (recordsOk l))):=by
 obtain⟨n,hn⟩:∃ n,l.length=n:=⟨_,rfl⟩
 have HN:=lH hn
 have HD:=lH (show recordsOk l=(decide (n≤5000) && l.all recordOk)by rw[recordsOk,hn])
 rw[hn]at hm ⊢
 clear hn
 go_enter Tryz.func250,Tryz.ntmps250
 go_wp2_with fail
 go_loopw [3] (fun v wr=>∃ k:Nat,v=.int .i64 k∧k≤n∧Hid ((l.drop k).all recordOk=l.all recordOk)∧∃ x:Later w,wr=x.w) (fun v _=>(n - intOf v).toNat)
 case atStart=>exact⟨0,rfl,by omega,rfl,Later.of⟩
 case round =>
  obtain⟨k,rfl,hk,HV,x,rfl⟩:=hrel
  by_cases h:k<n
  ·have hkl:k<l.length:=by have:=HN.out;omega
   obtain⟨eb,eoff,ex,rfl,ehb,ehd,eok,eh0,eh1,eh2,eh3⟩:=hs.atTRecord hkl
   have hz:ex.Data.size≤9223372036854775807:=eok.2.2.2.1
   have EOK:=lH eok;clear eok hkl
   cases hg:recordOk ex
   ·have HF:=lH (show l.all recordOk=false by have:=HV.out;rw[ehd.out,List.all_cons,hg]at this;rw[← this];rfl)
    go_wp2_with (first|(go_at_call 302;refine(k_sRecordOk (by omega)).mono ?_;rintro _ _ ⟨rfl,x,rfl⟩))
    go_ret
    exact Gives.mk (by rw[HD.out,HF.out,Bool.and_false];rfl)
   ·have HF:=lH (show(l.drop (k+1)).all recordOk=l.all recordOk by have:=HV.out;rw[ehd.out,List.all_cons,hg,Bool.true_and]at this;exact this)
    go_wp2_with (first|(go_at_call 302;refine(k_sRecordOk (by omega)).mono ?_;rintro _ _ ⟨rfl,x,rfl⟩))
    go_roundw
    case rel=>exact⟨k+1,by go_num,by omega,HF,Later.of⟩
    case measure=>simp[intOf];omega
  ·have HF:=lH (show l.all recordOk=true by have:=HV.out;rw[List.drop_of_length_le (by have:=HN.out;omega)]at this;rw[← this];rfl)
   by_cases hmx:n≤5000
   ·have kx:decide ((n:Int)≤5000)=true:=by simp;omega
    go_wp2_with fail
    go_ret
    exact Gives.mk (by rw[HD.out,HF.out,decide_eq_true hmx];rfl)
   ·have kx:decide ((n:Int)≤5000)=false:=by simp;omega
    go_wp2_with fail
    go_ret
    exact Gives.mk (by rw[HD.out,HF.out,decide_eq_false hmx];rfl)
end Go.Proofs.YtbaffippdifbpaaGreat
namespace Go.Proofs.YtbaffippdifbpaaGreat
set_option linter.unusedVariables false
open Go.ChangeShapes Go.WideShapes Go.ChangeAt Go.RowKit
section
variable {P:Program} {ops:Array Oper} {op:Oper} {a:Act} {w:World} {Q:Exit→Act→World→Prop} {S:World→Prop} {md:Region.Mode} {fuel:Nat} {listed:Array Bool} {i j:Nat}
end
end Go.Proofs.YtbaffippdifbpaaGreat
