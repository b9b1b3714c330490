/- The link of the reference: blocks, what is drawn, bursts. No condition but on sizes. -/
import Derived.Test.YtdijmbipcgalfaaGreatHLnkS2
import Derived.Deep.CutRange
import Derived.Test.YtdijmbipcgalfaaGreatHLto1
import Derived.Test.YtdijmbipcgalfaaGreatHMisI
import Derived.Test.YtdijmbipcgalfaaGreatHMisS
import Derived.Test.YtdijmbipcgalfaaGreatHM18
import Derived.Test.YtdijmbipcgalfaaGreatHM23
import Derived.Test.YtdijmbipcgalfaaGreatHRcvI
import Derived.Test.YtdijmbipcgalfaaGreatHM29
namespace Go.Proofs.YtdijmbipcgalfaaGreat
set_option maxRecDepth 100000
set_option maxHeartbeats 4000000
set_option linter.unusedVariables false
open Go.ChangeShapes Go.WideShapes Go.ChangeAt Go.RowKit
variable {s:ByteArray}{vs:List Value}{B:Nat}{w:World}
private abbrev aF2:=Tryz.underlying258
private abbrev uu5:=Tryz.underlying5
private abbrev uu9:=Tryz.underlying9
instance(priority:=950) LeN.setL (a:Nat){W:World}(x:b7 W)(p:Addr)(v:Value)[h:LeN a x.w.heap.size]:LeN a (x.set p v).w.heap.size:=⟨by show a≤(x.w.setCell p v).heap.size;simpa using h.out⟩
def bL2{α β:Type}[N:ap4 α β][F:D7 β](w:World)(l:List α):Ending→World→Prop:=fun e w'=>∃ (a:Option Addr) (c:Nat) (χ:Nat→Col) (rows:List (N2 α)),e=.returned (.slice a l.length c)∧rows.map (·.x)=l∧M3 w.heap.size χ 0 w' a c rows∧∃ y:b7 w,w'=y.w
structure at6{α β:Type}[N:ap4 α β][F:D7 β](B:Nat)(χ:Nat→Col)(w:World)(D:Array Value)(rows:List (N2 α)):Prop where
 cell:∀ i r,rows[i]?=some r→∀ (j:Nat) (u:Value),(aa0 r)[j]?=some u→D[i*N.size+j]?=some u
 each:∀ i r,rows[i]?=some r→N.good r.x∧B6 B χ (0,i+1) w r.a r.c (N.inner r.x)
section
variable {α β:Type} [N:ap4 α β] [F:D7 β] {B n:Nat} {χ χ2:Nat→Col} {w W1 W2 w2:World} {D:Array Value} {rows:List (N2 α)} {x:α} {ra:Option Addr} {rc:Nat}
theorem at6.nil:at6 B χ w D ([]:List (N2 α)):=⟨fun i r h=>by simp at h,fun i r h=>by simp at h⟩
theorem at6.put{k:Nat}{vs:List Value}(h:at6 B χ w D rows)(hk:rows.length=k)(hkn:k<n)(hD:D.size=n*N.size)(g:b8 w W1)(hB:B≤W1.heap.size){i0:Col}(hi:B6 W1.heap.size χ2 i0 W2 ra rc (N.inner x))(g2:b8 W1 W2)(hgd:N.good x)(g3:d7 B W2 w2)(hv:aa0 (⟨x,ra,rc⟩:N2 α)=vs) :
  at6 B (I7 W1.heap.size χ χ2 (fun _=>(0,k+1))) w2 (aV4 D (k*N.size) 0 vs) (rows++[⟨x,ra,rc⟩]):=by
 subst hk;subst hv
 have hle:rows.length*N.size+N.size≤n*N.size:=by rw[← Nat.succ_mul];exact Nat.mul_le_mul_right _ hkn
 refine⟨fun i r hr j u hu=>?_,fun i r hr=>?_⟩
 ·by_cases hi2:i<rows.length
  ·rw[List.getElem?_append_left hi2]at hr
   have hj:j<N.size:=by rw[← ae1 r];exact(List.getElem?_eq_some_iff.1 hu).1
   have:(i+1)*N.size≤rows.length*N.size:=Nat.mul_le_mul_right _ hi2
   rw[Nat.succ_mul]at this
   rw[aH0 _ _ _ _ _ om];exact h.cell i r hr j u hu
  ·have hlt:=(List.getElem?_eq_some_iff.1 hr).1
   simp at hlt
   obtain rfl:i=rows.length:=by omega
   rw[List.getElem?_append_right nl]at hr
   simp at hr
   subst hr
   exact aS2 _ D _ 0 (by rw[ae1];omega) j u hu
 ·by_cases hi2:i<rows.length
  ·rw[List.getElem?_append_left hi2]at hr
   obtain⟨h1,h2⟩:=h.each i r hr
   exact⟨h1,(((h2.old g.out.size).to ⟨g.out.trans (g2.out.mono g.out.size)⟩).keep g3)⟩
  ·have hlt:=(List.getElem?_eq_some_iff.1 hr).1
   simp at hlt
   obtain rfl:i=rows.length:=by omega
   rw[List.getElem?_append_right nl]at hr
   simp at hr
   subst hr
   exact⟨hgd,((hi.new (B:=W1.heap.size) nl).mono hB).keep g3⟩
theorem at6.list(h:at6 B χ w D rows)(hl:rows.length=n)(hD:D.size=n*N.size):D.toList=rows.flatMap aa0:=by
 have hfl:(rows.flatMap (aa0 (α:=α))).length=n*N.size:=by rw[N4 ae1,hl]
 refine List.ext_getElem? fun j=>?_
 by_cases hj:j<n*N.size
 ·have hs:0<N.size:=by
   rcases Nat.eq_zero_or_pos N.size with h0|h0
   ·rw[h0]at hj;omega
   ·exact h0
  have hq:j / N.size<rows.length:=by rw[hl];exact Nat.div_lt_of_lt_mul (by rw[Nat.mul_comm];exact hj)
  have hx:=List.getElem?_eq_getElem hq
  have hm:j % N.size<(aa0 rows[j / N.size]).length:=by rw[ae1];exact Nat.mod_lt _ hs
  have hu:=List.getElem?_eq_getElem hm
  have h3:=h.cell _ _ hx _ _ hu
  have h4:=ag3 ae1 rows _ _ _ _ hx hu
  have hj':j / N.size*N.size+j % N.size=j:=by rw[Nat.mul_comm];exact Nat.div_add_mod _ _
  rw[hj']at h3 h4
  rw[h4,Array.getElem?_toList,h3]
 ·rw[List.getElem?_eq_none (by rw[Array.length_toList];omega),List.getElem?_eq_none om]
theorem at6.done{W:World}(x:b7 (W.alloc (.cells D N.ty)))(h:at6 B χ x.w D rows)(hl:rows.length=n)(hm:n≤1048576)(hD:D.size=n*N.size)(hB:W.heap.size+1≤B):M3 W.heap.size (I7 (W.heap.size+1) (fun _=>(0,0)) χ id) 0 x.w (some ⟨W.heap.size,0,none⟩) n rows :=
 ⟨bm6 ae1 hl om nl hD (h.list hl hD) x,fun k hk=>by cases hk;rw[I7,if_pos (Nat.lt_succ_self _)],fun i r hr=>⟨(h.each i r hr).1,B6.mono (B:=W.heap.size+1) (B6.recol (B6.mono (h.each i r hr).2 hB) (fun k h1 _ h3=>by rw[I7,if_neg (Nat.not_lt.2 h1),h3];rfl)) (Nat.le_succ _)⟩⟩
end
theorem bC1{x:Q8}(h:Enc.Rd B w vs x)(ht:Enc.tot x≤1048576) :
  Calls Tryz.prog 131 #[.agg vs.toArray] w (R3 w x):=by
 obtain⟨a0,c0,rfl,q0,hok⟩:=h
 have HT:=lH (show d9 x.Starts≤1048576∧True from by
  have ht2:(x.Rest.size:Int)+d9 x.Starts≤1048576:=ht
  have n0:=d6 x.Starts
  refine⟨?_,trivial⟩<;>omega)
 clear ht
 have HOK:=lH hok;clear hok
 go_enter Tryz.func131,Tryz.ntmps131
 go_wp2_with (fail)
 refine(ax5 (q0.keep ii) (HT.out.1)).mono ?_
 rintro _ _ ⟨na0,nc0,rfl,nq0,y0,rfl⟩
 have Q0:=lH nq0;clear nq0
 go_wp2_with (fail)
 refine bodyPost_ret (v:=.agg #[.int .i64 x.Channel,.int .i64 x.Count,.string x.Rest,.slice na0 x.Starts.length nc0]) ?_ rfl ⟨[.int .i64 x.Channel,.int .i64 x.Count,.string x.Rest,.slice na0 x.Starts.length nc0],j9 [(y0.w.heap.size,0,(fun _=>(0,0)))],rfl,⟨na0,nc0,rfl,⟨(((Q0.out.re (χ:=j9 [(y0.w.heap.size,0,(fun _=>(0,0)))]) (d:=0) (fun b h1 h2=>aq5 h2)).mono (B':=w.heap.size+3) LeN.out).keep ii).mono om,HOK.out⟩⟩,b7.of⟩
 simp[results,Tryz.results131,go_sem]
theorem bC2{x:E8}(h:Enc.Rd B w vs x)(ht:Enc.tot x≤1048576) :
  Calls Tryz.prog 122 #[.agg vs.toArray] w (R3 w x):=by
 obtain⟨a0,c0,rfl,q0,hok⟩:=h
 have HT:=lH (show d9 x.Waiting≤1048576∧True from by
  have ht2:d9 x.Waiting≤1048576:=ht
  have n0:=d6 x.Waiting
  refine⟨?_,trivial⟩<;>omega)
 clear ht
 have HOK:=lH hok;clear hok
 go_enter Tryz.func122,Tryz.ntmps122
 go_wp2_with (fail)
 refine(bJ9 (q0.keep ii) (HT.out.1)).mono ?_
 rintro _ _ ⟨na0,nc0,rfl,nq0,y0,rfl⟩
 have Q0:=lH nq0;clear nq0
 go_wp2_with (fail)
 refine bodyPost_ret (v:=.agg #[.int .i64 x.Next,.int .i64 x.Window,.slice na0 x.Waiting.length nc0,.int .i64 x.Done]) ?_ rfl ⟨[.int .i64 x.Next,.int .i64 x.Window,.slice na0 x.Waiting.length nc0,.int .i64 x.Done],j9 [(y0.w.heap.size,0,(fun _=>(0,0)))],rfl,⟨na0,nc0,rfl,⟨(((Q0.out.re (χ:=j9 [(y0.w.heap.size,0,(fun _=>(0,0)))]) (d:=0) (fun b h1 h2=>aq5 h2)).mono (B':=w.heap.size+3) LeN.out).keep ii).mono om,HOK.out⟩⟩,b7.of⟩
 simp[results,Tryz.results122,go_sem]
theorem bk1{x:I9}(h:Enc.Rd B w vs x)(ht:Enc.tot x≤1048576) :
  Calls Tryz.prog 251 #[.agg vs.toArray] w (R3 w x):=by
 obtain⟨a0,c0,a1,c1,rfl,q0,q1,hok⟩:=h
 have HT:=lH (show d9 x.Records≤1048576∧d9 x.Dropped≤1048576∧True from by
  have ht2:d9 x.Records+d9 x.Dropped≤1048576:=ht
  have n0:=d6 x.Records
  have n1:=d6 x.Dropped
  refine⟨?_,?_,trivial⟩<;>omega)
 clear ht
 have HOK:=lH hok;clear hok
 go_enter Tryz.func251,Tryz.ntmps251
 go_wp2_with (fail)
 refine(az7 (q0.keep ii) (HT.out.1)).mono ?_
 rintro _ _ ⟨na0,nc0,rfl,nq0,y0,rfl⟩
 have Q0:=lH nq0;clear nq0
 go_wp2_with (fail)
 refine(ax5 (q1.keep ii) (HT.out.2.1)).mono ?_
 rintro _ _ ⟨na1,nc1,rfl,nq1,y1,rfl⟩
 have Q1:=lH nq1;clear nq1
 go_wp2_with (fail)
 refine bodyPost_ret (v:=.agg #[.int .i64 x.Room,.slice na0 x.Records.length nc0,.slice na1 x.Dropped.length nc1]) ?_ rfl ⟨[.int .i64 x.Room,.slice na0 x.Records.length nc0,.slice na1 x.Dropped.length nc1],j9 [(y0.w.heap.size,0,(fun _=>(0,0))),(y1.w.heap.size,1,(fun _=>(0,0)))],rfl,⟨na0,nc0,na1,nc1,rfl,⟨(((Q0.out.re (χ:=j9 [(y0.w.heap.size,0,(fun _=>(0,0))),(y1.w.heap.size,1,(fun _=>(0,0)))]) (d:=0) (fun b h1 h2=>aq5 h2)).mono (B':=w.heap.size+3) LeN.out).keep ii).mono om,(((Q1.out.re (χ:=j9 [(y0.w.heap.size,0,(fun _=>(0,0))),(y1.w.heap.size,1,(fun _=>(0,0)))]) (d:=1) (fun b h1 h2=>(bm7 (Nat.le_trans (LeN.out (a:=y0.w.heap.size)) h1)).trans (aq5 h2))).mono (B':=w.heap.size+3) LeN.out).keep ii).mono om,HOK.out⟩⟩,b7.of⟩
 simp[results,Tryz.results251,go_sem]
theorem bB8{x:A8}(h:Enc.Rd B w vs x)(ht:Enc.tot x≤1048576) :
  Calls Tryz.prog 246 #[.agg vs.toArray] w (R3 w x):=by
 obtain⟨a0,c0,rfl,q0,hok⟩:=h
 have HT:=lH (show d9 x.Parts≤1048576∧True from by
  have ht2:d9 x.Parts≤1048576:=ht
  have n0:=d6 x.Parts
  refine⟨?_,trivial⟩<;>omega)
 clear ht
 have HOK:=lH hok;clear hok
 go_enter Tryz.func246,Tryz.ntmps246
 go_wp2_with (fail)
 refine(ao7 (q0.keep ii) (HT.out.1)).mono ?_
 rintro _ _ ⟨na0,nc0,rfl,nq0,y0,rfl⟩
 have Q0:=lH nq0;clear nq0
 go_wp2_with (fail)
 refine bodyPost_ret (v:=.agg #[.int .i64 x.File,.int .i64 x.Size,.int .i64 x.Check,.slice na0 x.Parts.length nc0]) ?_ rfl ⟨[.int .i64 x.File,.int .i64 x.Size,.int .i64 x.Check,.slice na0 x.Parts.length nc0],j9 [(y0.w.heap.size,0,(fun _=>(0,0)))],rfl,⟨na0,nc0,rfl,⟨(((Q0.out.re (χ:=j9 [(y0.w.heap.size,0,(fun _=>(0,0)))]) (d:=0) (fun b h1 h2=>aq5 h2)).mono (B':=w.heap.size+3) LeN.out).keep ii).mono om,HOK.out⟩⟩,b7.of⟩
 simp[results,Tryz.results246,go_sem]
theorem bu3{x:s7}(h:Enc.Rd B w vs x)(ht:Enc.tot x≤1048576) :
  Calls Tryz.prog 252 #[.agg vs.toArray] w (R3 w x):=by
 obtain⟨a0,c0,rfl,q0,hok⟩:=h
 have HT:=lH (show d9 x.Queue≤1048576∧True from by
  have ht2:(x.Data.size:Int)+d9 x.Queue≤1048576:=ht
  have n0:=d6 x.Queue
  refine⟨?_,trivial⟩<;>omega)
 clear ht
 have HOK:=lH hok;clear hok
 go_enter Tryz.func252,Tryz.ntmps252
 go_wp2_with (fail)
 refine(ax5 (q0.keep ii) (HT.out.1)).mono ?_
 rintro _ _ ⟨na0,nc0,rfl,nq0,y0,rfl⟩
 have Q0:=lH nq0;clear nq0
 go_wp2_with (fail)
 refine bodyPost_ret (v:=.agg #[.int .i64 x.File,.string x.Data,.slice na0 x.Queue.length nc0,.bool x.Done]) ?_ rfl ⟨[.int .i64 x.File,.string x.Data,.slice na0 x.Queue.length nc0,.bool x.Done],j9 [(y0.w.heap.size,0,(fun _=>(0,0)))],rfl,⟨na0,nc0,rfl,⟨(((Q0.out.re (χ:=j9 [(y0.w.heap.size,0,(fun _=>(0,0)))]) (d:=0) (fun b h1 h2=>aq5 h2)).mono (B':=w.heap.size+3) LeN.out).keep ii).mono om,HOK.out⟩⟩,b7.of⟩
 simp[results,Tryz.results252,go_sem]
theorem bu2{a:Option Addr}{c:Nat}{l:List A8}(hs:RdS B w a c l)(ht:d9 l≤1048576) :
  Calls Tryz.prog 127 #[.slice a l.length c] w (bL2 w l):=by
 have hln:=f6 l
 have HT:=lH (tm ht)
 obtain⟨n,hn⟩:∃ n,l.length=n:=⟨_,rfl⟩
 have HN:=lH hn
 have hm:n≤1048576:=by omega
 rw[hn];clear ht hln hn
 obtain⟨C,hC,hmk⟩:=aq6 (P:=Tryz.prog) Tryz.underlying74 (e:=179) (z:=.agg #[.int .i64 0,.int .i64 0,.int .i64 0,.slice none 0 0]) (size:=4) (bytes:=48) kr n om om
 have hCz:C.size=n*4:=by rw[hC,size_madeCells]
 clear hC
 go_enter Tryz.func127,Tryz.ntmps127
 go_wp2_with (fail)
 clear hmk
 go_loopw [4] (fun v wr=>∃ k:Nat,v=.int .i64 k∧k≤n∧∃ (D:Array Value) (χ:Nat→Col) (rows:List (N2 A8)) (x:b7 (w.alloc (.cells D 179))),D.size=n*4∧Hid (at6 (w.heap.size+1) χ x.w D rows)∧Hid (rows.map (fun q=>q.x)=l.take k)∧wr=x.w) (fun v _=>(n - intOf v).toNat)
 case atStart=>exact⟨0,rfl,by omega,C,fun _=>(0,0),[],b7.here _,hCz,at6.nil,rfl,rfl⟩
 case round =>
  obtain⟨k,rfl,hk,D,χ,rows,x,hDz,hf,hX,rfl⟩:=hrel
  by_cases h:k<n
  ·have hlk:k<l.length:=by have:=HN.out;omega
   obtain⟨eb,eoff,ex,ea0,ec0,rfl,ehb,ehd,eq0,eok,eh0,eh1,eh2,eh3⟩:=hs.atTFileIn (show k<l.length by omega)
   obtain⟨o0,g0⟩:=J8 hDz (show k*4<n*4 by omega)
   obtain⟨o1,g1⟩:=J8 hDz (show k*4+1<n*4 by omega)
   obtain⟨o2,g2⟩:=J8 hDz (show k*4+2<n*4 by omega)
   obtain⟨o3,g3⟩:=J8 hDz (show k*4+3<n*4 by omega)
   have hte:=HT.out ex (List.mem_of_mem_drop (by rw[ehd.out];exact List.mem_cons_self ..))
   have HEOK:=lH eok;clear eok
   go_wp2_with (fail)
   refine(bB8 (x:=ex) ⟨ea0,ec0,rfl,eq0.keep ii,HEOK.out⟩ hte).mono ?_
   rintro _ _ ⟨_,χ2,rfl,⟨fa0,fc0,rfl,no⟩,y,rfl⟩
   have NO:=lH no;clear no
   have HLN:=lH (show rows.length=k from by have:=congrArg List.length hX.out;simp at this;omega)
   have HXN:=lH (show(rows.map (fun q=>q.x))++[ex]=l.take (k+1)from by rw[hX.out,List.take_add_one];congr 1;have:=congrArg (fun m=>m[0]?) ehd.out;simp at this;rw[this];rfl);clear hX
   clear hte
   go_wp2_with (fail)
   go_roundw
   case rel =>
    obtain⟨x2,hx2⟩:=b7.set4_at (x.andThen y) (k*4) (k*4+1) (k*4+2) (k*4+3) (.int .i64 ex.File) (.int .i64 ex.Size) (.int .i64 ex.Check) (.slice fa0 ex.Parts.length fc0)
    rw[hx2]
    have hP:=hf.out.put (n:=n) (w2:=x2.w) (ra:=fa0) (rc:=fc0) (x:=ex) (vs:=[.int .i64 ex.File,.int .i64 ex.Size,.int .i64 ex.Check,.slice fa0 ex.Parts.length fc0]) HLN.out h hDz (b8.same x.w) LeN.out NO.out.o0 ii HEOK.out (by rw[← hx2];infer_instance) rfl
    exact⟨k+1,by go_num,by omega,_,_,_,x2,by simpa using hDz,hP,by rw[List.map_append];exact HXN.out,rfl⟩
   case measure=>simp[intOf];omega
  ·go_wp2_with (fail)
   go_ret
   obtain rfl:k=n:=by omega
   have hXL:=hX.out
   rw[List.take_of_length_le (by have:=HN.out;omega)]at hXL
   exact⟨_,k,_,rows,by rw[HN.out];rfl,hXL,at6.done x hf.out ((show(rows.map (fun q=>q.x)).length=rows.length by simp).symm.trans ((congrArg List.length hXL).trans HN.out)) hm hDz nl,⟨x.w,b8.out⟩,rfl⟩
theorem bk0{a:Option Addr}{c:Nat}{l:List s7}(hs:RdS B w a c l)(ht:d9 l≤1048576) :
  Calls Tryz.prog 132 #[.slice a l.length c] w (bL2 w l):=by
 have hln:=f6 l
 have HT:=lH (tm ht)
 obtain⟨n,hn⟩:∃ n,l.length=n:=⟨_,rfl⟩
 have HN:=lH hn
 have hm:n≤1048576:=by omega
 rw[hn];clear ht hln hn
 obtain⟨C,hC,hmk⟩:=aq6 (P:=Tryz.prog) Tryz.underlying86 (e:=183) (z:=.agg #[.int .i64 0,.string ByteArray.empty,.slice none 0 0,.bool false]) (size:=4) (bytes:=56) kr n om om
 have hCz:C.size=n*4:=by rw[hC,size_madeCells]
 clear hC
 go_enter Tryz.func132,Tryz.ntmps132
 go_wp2_with (fail)
 clear hmk
 go_loopw [4] (fun v wr=>∃ k:Nat,v=.int .i64 k∧k≤n∧∃ (D:Array Value) (χ:Nat→Col) (rows:List (N2 s7)) (x:b7 (w.alloc (.cells D 183))),D.size=n*4∧Hid (at6 (w.heap.size+1) χ x.w D rows)∧Hid (rows.map (fun q=>q.x)=l.take k)∧wr=x.w) (fun v _=>(n - intOf v).toNat)
 case atStart=>exact⟨0,rfl,by omega,C,fun _=>(0,0),[],b7.here _,hCz,at6.nil,rfl,rfl⟩
 case round =>
  obtain⟨k,rfl,hk,D,χ,rows,x,hDz,hf,hX,rfl⟩:=hrel
  by_cases h:k<n
  ·have hlk:k<l.length:=by have:=HN.out;omega
   obtain⟨eb,eoff,ex,ea0,ec0,rfl,ehb,ehd,eq0,eok,eh0,eh1,eh2,eh3⟩:=hs.atTFileOut (show k<l.length by omega)
   obtain⟨o0,g0⟩:=J8 hDz (show k*4<n*4 by omega)
   obtain⟨o1,g1⟩:=J8 hDz (show k*4+1<n*4 by omega)
   obtain⟨o2,g2⟩:=J8 hDz (show k*4+2<n*4 by omega)
   obtain⟨o3,g3⟩:=J8 hDz (show k*4+3<n*4 by omega)
   have hte:=HT.out ex (List.mem_of_mem_drop (by rw[ehd.out];exact List.mem_cons_self ..))
   have HEOK:=lH eok;clear eok
   go_wp2_with (fail)
   refine(bu3 (x:=ex) ⟨ea0,ec0,rfl,eq0.keep ii,HEOK.out⟩ hte).mono ?_
   rintro _ _ ⟨_,χ2,rfl,⟨fa0,fc0,rfl,no⟩,y,rfl⟩
   have NO:=lH no;clear no
   have HLN:=lH (show rows.length=k from by have:=congrArg List.length hX.out;simp at this;omega)
   have HXN:=lH (show(rows.map (fun q=>q.x))++[ex]=l.take (k+1)from by rw[hX.out,List.take_add_one];congr 1;have:=congrArg (fun m=>m[0]?) ehd.out;simp at this;rw[this];rfl);clear hX
   clear hte
   go_wp2_with (fail)
   go_roundw
   case rel =>
    obtain⟨x2,hx2⟩:=b7.set4_at (x.andThen y) (k*4) (k*4+1) (k*4+2) (k*4+3) (.int .i64 ex.File) (.string ex.Data) (.slice fa0 ex.Queue.length fc0) (.bool ex.Done)
    rw[hx2]
    have hP:=hf.out.put (n:=n) (w2:=x2.w) (ra:=fa0) (rc:=fc0) (x:=ex) (vs:=[.int .i64 ex.File,.string ex.Data,.slice fa0 ex.Queue.length fc0,.bool ex.Done]) HLN.out h hDz (b8.same x.w) LeN.out NO.out.o0 ii HEOK.out (by rw[← hx2];infer_instance) rfl
    exact⟨k+1,by go_num,by omega,_,_,_,x2,by simpa using hDz,hP,by rw[List.map_append];exact HXN.out,rfl⟩
   case measure=>simp[intOf];omega
  ·go_wp2_with (fail)
   go_ret
   obtain rfl:k=n:=by omega
   have hXL:=hX.out
   rw[List.take_of_length_le (by have:=HN.out;omega)]at hXL
   exact⟨_,k,_,rows,by rw[HN.out];rfl,hXL,at6.done x hf.out ((show(rows.map (fun q=>q.x)).length=rows.length by simp).symm.trans ((congrArg List.length hXL).trans HN.out)) hm hDz nl,⟨x.w,b8.out⟩,rfl⟩
theorem cb7{r o:Int}(h:av9 r o=true):aF5 r o 0=o:=by
 rw[aF5,h];simp[inB]
theorem bg2(hm:s.size≤400):Calls Tryz.prog 268 #[.string s] w (b5 w (.string (strOfNums (ao1 (s5 s))))):=by
 have hlen:=M7 s
 obtain⟨n,hn⟩:∃ n,s.size=n:=⟨_,rfl⟩
 have hln:(s5 s).length=n:=by omega
 have hmk:=bu9 (P:=Tryz.prog) (t:=258) (e:=5) aF2 kr (l:=n) (c:=n) (a:=n) (b:=n) nl om rfl rfl
 go_enter Tryz.func268,Tryz.ntmps268
 go_wp2_with (first|((with_reducible refine rl ?_);(repeat(first|go_big_quiet_step (first|fail)|simp only[hn]));refine wpQuiet_nil ?_;intro x))
 go_loopw [5] (fun v wr=>∃ (m:Nat) (D:List Int),v=I m∧m≤n∧D.length=n∧Hid ((aV5 (aH3 (s5 s)) m (n - m)).foldl (up1 orU) D=ao1 (s5 s))∧Hid (ar3 wr w.heap.size D)∧∃ x:b7 w,wr=x.w) (fun v _=>(n - intOf v).toNat)
 case atStart=>exact⟨0,List.replicate n 0,rfl,by omega,by simp,lH (by have:=aC8 (s5 s);rw[hln]at this;exact this),lH (ar3.made rfl),b7.of⟩
 case round =>
  obtain⟨m,D,rfl,hm,hDn,HF,HD,x0,rfl⟩:=hrel
  by_cases hmn:m<n
  ·go_wp2_with (first|((with_reducible refine rl ?_);refine rq ?_;intro x))
   go_loopw [6] (fun v wr=>∃ (k:Nat) (D:List Int),v=I k∧k≤8∧D.length=n∧Hid ((aV5 (aH3 (s5 s)) (m+1) (n - (m+1))).foldl (up1 orU) ((bQ3 (aH3 (s5 s)) m k (8 - k)).foldl (up1 orU) D)=ao1 (s5 s))∧Hid (ar3 wr w.heap.size D)∧∃ y:b7 w,wr=y.w) (fun v _=>(8 - intOf v).toNat)
   case atStart=>exact⟨0,D,rfl,by omega,hDn,lH (by have:=HF.out;rw[bK6 _ hmn,List.foldl_append]at this;exact this),HD.out.to ii,b7.of⟩
   case round =>
    obtain⟨k,D,rfl,hk,hDn,HF,HD,y,rfl⟩:=hrel
    by_cases hk8:k<8
    ·have hln:(s5 s).length=n:=by rw[hlen];exact hn
     obtain⟨q,hq9⟩:∃ x:Nat,k*n=x:=⟨_,rfl⟩
     have HQ:=lH hq9
     have hq7:q≤7*n:=hq9▸Nat.mul_le_mul_right n om
     have HOV:=lH (show(k:Int)*n=(q:Int)by rw[← hq9];exact(Int.natCast_mul k n).symm)
     clear hq9
     obtain⟨p,hp9⟩:∃ x:Nat,q+m=x:=⟨_,rfl⟩
     have HP:=lH hp9
     obtain⟨j,hj9⟩:∃ x:Nat,p / 8=x:=⟨_,rfl⟩
     have HJ:=lH hj9
     obtain⟨r,hr9⟩:∃ x:Nat,p % 8=x:=⟨_,rfl⟩
     have HR:=lH hr9
     have hjn:j<n:=by omega
     have hr8:r<8:=by omega
     have hpb:p≤4000:=by omega
     have HPE:=lH (show wrap64 (wrap64 (q:Int)+m)=(p:Int)by rw[w64 (n:=(q:Int)) om om,w64 (n:=(q:Int)+m) om om];omega)
     clear hp9 hj9 hr9
     obtain⟨d,hd9⟩:∃ x:Int,D.getD m 0=x:=⟨_,rfl⟩
     have Hd:=lH hd9
     have hcell:∀ (W:World) [b8 y.w W],W.cell? ⟨w.heap.size,0+m*1,none⟩=some (.int .u8 d):=fun W g=>by rw[Nat.zero_add,Nat.mul_one,← Hd.out];exact((HD.out.to g).at om).1
     clear hd9
     have hjs:j<s.size:=by omega
     obtain⟨hb1,hdr⟩:=ab4 hjs
     obtain⟨b,hb⟩:∃ b:Int,((s[j]'hjs).toNat:Int)=b:=⟨_,rfl⟩
     have hb0:0≤b:=by omega
     rw[hb]at hb1 hdr
     have Hb:=lH (show(s5 s).getD j 0=b by have:=congrArg (fun l=>l[0]?) hdr;simp only[List.getElem?_drop,Nat.add_zero,List.getElem?_cons_zero]at this;rw[List.getD,this];rfl)
     clear hdr
     have⟨hs0,hs1⟩:=bU4 hb0 hb1 r
     obtain⟨bs,hbs9⟩:∃ x:Int,b / 2 ^ r=x:=⟨_,rfl⟩
     have HS:=lH hbs9
     rw[hbs9]at hs0 hs1
     clear hbs9
     obtain⟨b1,hb19⟩:∃ x:Int,bs % 2=x:=⟨_,rfl⟩
     have HS1:=lH hb19
     clear hb19
     obtain⟨v,hv9⟩:∃ x:Int,IntKind.u8.wrap (b1*2 ^ k)=x:=⟨_,rfl⟩
     have HV:=lH hv9
     clear hv9
     obtain⟨ov,hov9⟩:∃ x:Int,orU d v=x:=⟨_,rfl⟩
     have HO:=lH hov9
     clear hov9
     go_upto_region 10 with(first|((with_reducible refine rl ?_);refine rq ?_;intro x)|(rw[HOV.out]))
     rw[HPE.out]
     refine I5 kr (T:=[16]) (Zs:=[]) (H:=[(2,[]),(3,[]),(6,[]),(7,[]),(9,[]),(10,[]),(11,[]),(13,[]),(14,[]),(15,[])]) (C:=[]) (Fs:=[(some 26,.v (.slice (some ⟨w.heap.size,0,none⟩) n n)),(some 27,.v (I (m))),(some 28,.v (.pointer (some ⟨w.heap.size,0+m*1,none⟩))),(some 29,.v (.int .u8 (d))),(some 30,.v (.string s)),(some 31,.v (I ((p:Int)))),(some 32,.v (I ((j:Int)))),(some 33,.v (.int .u8 (b))),(some 34,.v (I ((p:Int)))),(some 35,.v (I ((r:Int)))),(some 36,.v (.int .u8 (bs))),(some 37,.v (.int .u8 (b1))),(some 38,.v (I (k))),(some 39,.v (.int .u8 (v))),(some 40,.v (.int .u8 (ov))),(some 41,.v (.pointer (some ⟨w.heap.size,0+m*1,none⟩))),(none,.v (undef))]) kr (fun val W=>by kernel_rfl) ?ob10 ?lz10 ?pn10 ?tl10
     case ob10 =>
      refine⟨fun x=>?_,fun x=>?_,fun x=>?_,fun x=>?_,fun x=>?_,fun x=>?_,fun x=>?_,fun x=>?_,fun x=>?_,fun x=>?_,trivial⟩
      ·exact bI3 (size:=1) (o:=0) (j:=m) (n:=n) (c:=n) rfl kr aF2 kr hmn
      ·exact am3 (hcell x.w) rfl kr _ uu5 rfl
      ·exact ak9 (o:=.quo) (p:=.i64) (s:=(p:Int)) (q:=.i64) (t:=8) rfl kr (fun ty ty2 w=>by exact HJ.out▸bD3 rfl hpb ty ty2 w)
      ·exact au1 rfl kr uu9 hjs hb
      ·exact ak9 (o:=.rem) (p:=.i64) (s:=(p:Int)) (q:=.i64) (t:=8) rfl kr (fun ty ty2 w=>by exact HR.out▸bD4 rfl hpb ty ty2 w)
      ·exact ak9 (o:=.shr) (p:=.u8) (s:=b) (q:=.i64) (t:=(r:Int)) rfl kr (fun ty ty2 w=>by exact HS.out▸bD6 hr8 ty ty2 w)
      ·exact ak9 (o:=.and) (p:=.u8) (s:=bs) (q:=.u8) (t:=1) rfl kr (fun ty ty2 w=>by exact HS1.out▸bD2 hs0 hs1 ty ty2 w)
      ·exact ak9 (o:=.shl) (p:=.u8) (s:=b1) (q:=.i64) (t:=k) rfl kr (fun ty ty2 w=>by exact HV.out▸bD5 hk8 ty ty2 w)
      ·exact ak9 (o:=.or) (p:=.u8) (s:=d) (q:=.u8) (t:=v) rfl kr (fun ty ty2 w=>by exact HO.out▸bU0 ty ty2 w)
      ·exact bI3 (size:=1) (o:=0) (j:=m) (n:=n) (c:=n) rfl kr aF2 kr hmn
     case lz10 =>
      exact trivial
     case pn10=>exact fun _ _ _ _ _ _ h=>h
     case tl10 =>
      intro x
      refine aF1 rfl ?_
      simp only[ag8,ae9]
      simp only[nrm,if_true]
      refine aS3 rfl _ (.tmp 41) (.tmp 40) rfl w.heap.size (0+m*1) rfl (L2:=up1 orU D (aH3 (s5 s) m k)) (HD.out.to (ii:b8 y.w x.w)) rfl kr om (by rw[up1,aH3,Nat.zero_add,Nat.mul_one,hln,HQ.out,HP.out,HJ.out,HR.out,Hb.out,HS.out,HS1.out,HV.out,Hd.out,HO.out]) (w0:=w) ii nl ?_
      intro z hz
      have HZ:=lH hz;clear hz hcell
      (try simp only[Act.put,List.setIfInBounds_toArray])
      go_wp2_with (first|((with_reducible refine rl ?_);refine rq ?_;intro x))
      go_roundw
      case rel=>exact⟨k+1,up1 orU D (aH3 (s5 s) m k),by go_num,by omega,by rw[bv3];exact hDn,lH (by have:=HF.out;rw[bQ4 _ _ hk8,List.foldl_cons]at this;exact this),HZ,b7.of⟩
      case measure=>simp[intOf];omega
    ·obtain rfl:k=8:=by omega
     go_wp2_with (first|((with_reducible refine rl ?_);refine rq ?_;intro x))
     go_roundw
     case rel=>exact⟨m+1,D,by go_num,by omega,hDn,lH (by have:=HF.out; exact this),HD,b7.of⟩
     case measure=>simp[intOf];omega
  ·obtain rfl:n=m:=by omega
   have hcv:=HD.out.str (P:=Tryz.prog) (c:=n) hDn aF2 uu5 uu9
   have hcv1:=hcv x0.w
   clear hcv
   have HF2:=lH (show D=ao1 (s5 s)by have:=HF.out;rw[Nat.sub_self]at this;exact this)
   go_wp2_with (first|((with_reducible refine rl ?_);refine rq ?_;intro x))
   go_ret
   exact b5.mk (by rw[HF2.out];rfl)
theorem bo5(hm:s.size≤400):Calls Tryz.prog 154 #[.string s] w (aZ4 w (aw5 s)):=by
 by_cases h0:s.size=0
 ·obtain rfl:s=⟨#[]⟩:=bn1 h0
  go_enter Tryz.func154,Tryz.ntmps154
  go_wp2_with (fail)
  refine bodyPost_ret (v:=.tuple #[.string ⟨#[]⟩,I 0,.bool false]) ?_ rfl (⟨0,rfl,b7.of⟩)
  simp[results,Tryz.results154,go_sem]
 have he:=aV2 h0
 have HV:=lH (show aw5 s=an8 (aJ8 s)by rw[aw5,if_neg h0])
 have hz2:(strOfNums (scr 255 (s5 s))).size≤400:=by rw[strOfNums_size,aZ9,M7];exact hm
 have hz3:=bf3 s
 have HG:=bf2 s
 go_enter Tryz.func154,Tryz.ntmps154
 go_wp2_with (first|(go_at_call 269;refine gm (bw7 hm) ?_;intro y1)|(go_at_call 268;refine gm (bg2 hz2) ?_;intro y2)|(go_at_call 267;refine(ba9 om).mono ?_;rintro _ _ ⟨n9,rfl,y3,rfl⟩))
 refine bodyPost_ret (v:=.tuple #[.string (aB6 (an8 (aJ8 s))),I n9,.bool (an8 (aJ8 s)).isSome]) ?_ rfl (⟨n9,by rw[HV.out],b7.of⟩)
 simp[results,Tryz.results154,go_sem]
theorem bn3:bf9.toList=([26,207,252,29]:List UInt8):=by rw[ByteArray.toList_eq];rfl
theorem bh0(hm:s.size≤404):Calls Tryz.prog 266 #[.string s,.string ⟨#[26,207,252,29]⟩] w (b5 w (.bool (am2 s))):=by
 by_cases h4:4≤s.size
 ·have c0:decide (4≤(s.size:Int))=true:=by simp;omega
  have h4i:(4:Int)≤(s.size:Int):=by omega
  have HV:=lH (show am2 s=((s.extract 0 4).toList == ([26,207,252,29]:List UInt8))by rw[am2,decide_eq_true h4,bn3,Bool.true_and])
  go_enter Tryz.func266,Tryz.ntmps266
  go_wp2_with (fail)
  refine bodyPost_ret (v:=.bool ((s.extract 0 4).toList == ([26,207,252,29]:List UInt8))) ?_ rfl (b5.mk (by rw[HV.out]))
  simp[results,Tryz.results266,go_sem]
 ·have c0:decide (4≤(s.size:Int))=false:=by simp;omega
  have HV:=lH (show am2 s=false by rw[am2,decide_eq_false h4];rfl)
  go_enter Tryz.func266,Tryz.ntmps266
  go_wp2_with (fail)
  refine bodyPost_ret (v:=.bool false) ?_ rfl (b5.mk (by rw[HV.out]))
  simp[results,Tryz.results266,go_sem]
theorem aT4(hm:s.size≤404):Calls Tryz.prog 153 #[.string s,.string ⟨#[26,207,252,29]⟩] w (b5 w (.bool (am2 s))):=by
 go_enter Tryz.func153,Tryz.ntmps153
 go_wp2_with (first|(go_at_call 266;refine gm (bh0 hm) ?_;intro y9))
 go_ret
 exact b5.mk rfl
theorem bw2(hm:s.size≤404):Calls Tryz.prog 38 #[.string s] w (b5 w (.tuple #[.string (aB6 (ad3 s)),.bool (ad3 s).isSome])):=by
 cases c1:am2 s
 ·have HV:=lH (show ad3 s=none by rw[ad3,c1];rfl)
  go_enter Tryz.func38,Tryz.ntmps38
  go_wp2_with (first|(go_at_call 153;refine gm (aT4 hm) ?_;intro y9))
  refine bodyPost_ret (v:=.tuple #[.string ⟨#[]⟩,.bool false]) ?_ rfl (b5.mk (by rw[HV.out];rfl))
  simp[results,Tryz.results38,go_sem]
 ·have h4:4≤s.size:=by simp only[am2,Bool.and_eq_true,decide_eq_true_eq]at c1;exact c1.1
  have h4i:(4:Int)≤(s.size:Int):=by omega
  have hz:(s.extract 4 s.size).size≤400:=by rw[ByteArray.size_extract];omega
  have HV:=lH (show ad3 s=aw5 (s.extract 4 s.size)by rw[ad3,c1];rfl)
  go_enter Tryz.func38,Tryz.ntmps38
  go_wp2_with (first|(go_at_call 153;refine gm (aT4 hm) ?_;intro y9)|(go_at_call 154;refine(bo5 hz).mono ?_;rintro _ _ ⟨n9,rfl,y3,rfl⟩))
  refine bodyPost_ret (v:=.tuple #[.string (aB6 (aw5 (s.extract 4 s.size))),.bool (aw5 (s.extract 4 s.size)).isSome]) ?_ rfl (b5.mk (by rw[HV.out]))
  simp[results,Tryz.results38,go_sem]
def cb5:Option ByteArray→ByteArray
 | some t=>t
 | none=>⟨#[]⟩
theorem aT6(hm:s.size≤100000000):Calls Tryz.prog 155 #[.string s] w (b5 w (.tuple #[.string (cb5 (V2 s)),.bool (V2 s).isSome])):=by
 by_cases h2:s.size<2
 ·have HV:=lH (show V2 s=none by rw[V2,if_pos h2])
  have c0:decide ((s.size:Int)<2)=true:=by simp;omega
  go_enter Tryz.func155,Tryz.ntmps155
  go_wp2_with (fail)
  refine bodyPost_ret (v:=.tuple #[.string ⟨#[]⟩,.bool false]) ?_ rfl (b5.mk (by rw[HV.out];rfl))
  simp[results,Tryz.results155,go_sem]
 have c0:decide ((s.size:Int)<2)=false:=by simp;omega
 have hz2:((s.size:Int) - 2).toNat=s.size - 2:=by omega
 have hz3:(0:Int)≤(s.size:Int) - 2:=by omega
 have hz4:(s.size:Int) - 2≤(s.size:Int):=by omega
 obtain⟨t,ht⟩:∃ t,s.extract 0 (s.size - 2)=t:=⟨_,rfl⟩
 have htz:t.size≤100000000:=by rw[← ht];simp only[ByteArray.size_extract];omega
 cases c1:((aF0 t).toList == s.toList)
 ·have HV:=lH (show V2 s=none by rw[V2,if_neg h2,ht,if_neg (by rw[c1];simp)])
  go_enter Tryz.func155,Tryz.ntmps155
  go_wp2_with (first|(go_at_call 221;refine gm (aT7 htz) ?_;intro y9))
  refine bodyPost_ret (v:=.tuple #[.string ⟨#[]⟩,.bool false]) ?_ rfl (b5.mk (by rw[HV.out];rfl))
  simp[results,Tryz.results155,go_sem]
 ·have HV:=lH (show V2 s=some t by rw[V2,if_neg h2,ht,if_pos c1])
  go_enter Tryz.func155,Tryz.ntmps155
  go_wp2_with (first|(go_at_call 221;refine gm (aT7 htz) ?_;intro y9))
  refine bodyPost_ret (v:=.tuple #[.string t,.bool true]) ?_ rfl (b5.mk (by rw[HV.out];rfl))
  simp[results,Tryz.results155,go_sem]
theorem aB0{z0:Int}(h0:0≤z0)(h1:z0≤255):Calls Tryz.prog 320 #[I z0] w (b5 w (.tuple #[I (al2 z0).1,I (al2 z0).2])):=by
 have c0:inB z0 0 255=true:=D8.2 ⟨h0,h1⟩
 go_enter Tryz.func320,Tryz.ntmps320
 go_wp2_with (fail)
 go_loopw [4] (fun v wr=>∃ k:Nat,v=I k∧k≤16∧Hid (ar4 z0 (16 - k) k=al2 z0)∧∃ y:b7 w,wr=y.w) (fun v _=>(16 - intOf v).toNat)
 case atStart=>exact⟨0,rfl,by omega,lH (bq7 z0).symm,b7.of⟩
 case round =>
  obtain⟨k,rfl,hk,HF,y,rfl⟩:=hrel
  by_cases h:k<16
  ·have⟨hx0,hx1,hxc⟩:=bN7 (n:=(k:Int)) om om h0 h1
   obtain⟨x,hx⟩:∃ x,bits .xor .i64 (nib k) z0=x:=⟨_,rfl⟩
   rw[hx]at hx0 hx1 hxc
   obtain⟨q,hq⟩:∃ q,av5 x=q:=⟨_,rfl⟩
   have hq9:=be7 x
   rw[hq]at hq9
   have HST:=lH (show al2 z0=if q≤1 then((k:Int),q)else ar4 z0 (16 - (k+1)) ((k+1:Nat):Int)by rw[← HF.out,show 16 - k=16 - (k+1)+1 by omega,ar4,bR5,hx,hq];rfl)
   clear HF
   have kc:decide ((k:Int)<16)=true:=by simp;omega
   cases c1:decide (q≤1)
   ·have HV:=lH (show al2 z0=ar4 z0 (16 - (k+1)) ((k+1:Nat):Int)by rw[HST.out,if_neg (of_decide_eq_false c1)])
    have c1:decide (q<2)=false:=by have:=of_decide_eq_false c1;simp;omega
    go_wp2_with (first|(go_at_call 101;refine gm (f5) ?_;intro x)|(go_at_call 302;refine gm (aB1 om om) ?_;intro y9)|(go_at_call 334;refine gm (ay4 hx0 hx1) ?_;intro y8))
    go_roundw
    case rel=>exact⟨k+1,by go_num,by omega,lH HV.out.symm,b7.of⟩
    case measure=>simp[intOf];omega
   ·have HV:=lH (show al2 z0=((k:Int),q)by rw[HST.out,if_pos (of_decide_eq_true c1)])
    have c1:decide (q<2)=true:=by have:=of_decide_eq_true c1;simp;omega
    go_wp2_with (first|(go_at_call 101;refine gm (f5) ?_;intro x)|(go_at_call 302;refine gm (aB1 om om) ?_;intro y9)|(go_at_call 334;refine gm (ay4 hx0 hx1) ?_;intro y8))
    refine bodyPost_ret (v:=.tuple #[I k,I q]) ?_ rfl (b5.mk (by rw[HV.out]))
    simp[results,Tryz.results320,go_sem]
  ·obtain rfl:k=16:=by omega
   have HV:=lH (show al2 z0=(-1,2)from HF.out.symm)
   have kc:decide (((16:Nat):Int)<16)=false:=by simp
   go_wp2_with (first|(go_at_call 101;refine gm (f5) ?_;intro x))
   refine bodyPost_ret (v:=.tuple #[I (-1),I 2]) ?_ rfl (b5.mk (by rw[HV.out]))
   simp[results,Tryz.results320,go_sem]
theorem bb6(hm:s.size≤100000000):Calls Tryz.prog 238 #[.string s] w (aZ4 w (an8 s)):=by
 have hlen:=M7 s
 obtain⟨N,hN⟩:∃ N,s.size=N:=⟨_,rfl⟩
 rw[hN]at hlen hm
 have HN:=lH hN
 by_cases h2:N % 2=0
 ·have c1:((N:Int) % 2 != 0)=false:=by simp;omega
  cases c2:decide (400<(N:Int))
  ·have HV:=lH (show an8 s=at8 [] (s5 s)by rw[an8,if_neg (by have:=of_decide_eq_false c2;omega)])
   have hN4:N≤400:=by have:=of_decide_eq_false c2;omega
   have HN2:=lH h2
   clear h2
   go_enter Tryz.func238,Tryz.ntmps238
   go_wp2_with (fail)
   go_loopw [5,6,7] (fun a u v wr=>∃ (k q:Nat) (m:Int) (L:List Int) (sa:Option Addr) (sc:Nat),a=.slice sa q sc∧u=I m∧v=I k∧k≤N∧Hid (k=2*q)∧L.length=q∧Hid (at8 L ((s5 s).drop k)=at8 [] (s5 s))∧Hid (q=0→sa=some ⟨w.heap.size,0,none⟩)∧Hid (Own Y1 5 1 w.heap.size wr sa sc L)∧∃ x:b7 w,wr=x.w) (fun _ _ v _=>(N - intOf v).toNat)
   case atStart=>exact⟨0,0,0,[],_,_,rfl,rfl,rfl,by omega,rfl,rfl,rfl,fun _=>rfl,Own.empty0 ar5 nl,b7.of⟩
   case round =>
    obtain⟨k,q,m,L,sa,sc,rfl,rfl,rfl,hk,hq,hL,HL,h00,hO,y0,rfl⟩:=hrel
    by_cases h:k<N
    ·have h1:k+1<N:=by have:=hq.out;have:=HN2.out;omega
     have hks:k<s.size:=by have:=HN.out;omega
     have hks1:k+1<s.size:=by have:=HN.out;omega
     obtain⟨hb1,hd⟩:=ab4 hks
     obtain⟨hc1,hd1⟩:=ab4 hks1
     obtain⟨b,hb⟩:∃ b:Int,((s[k]'hks).toNat:Int)=b:=⟨_,rfl⟩
     obtain⟨c,hc⟩:∃ c:Int,((s[k+1]'hks1).toNat:Int)=c:=⟨_,rfl⟩
     have hb0:0≤b:=by omega
     have hc0:0≤c:=by omega
     rw[hb]at hb1 hd
     rw[hc]at hc1 hd1
     have⟨p0,p1,p2,p3⟩:=aZ5 b
     have⟨r0,r1,r2,r3⟩:=aZ5 c
     obtain⟨x,hx⟩:∃ x,(al2 b).1=x:=⟨_,rfl⟩
     obtain⟨x2,hx2⟩:∃ x,(al2 b).2=x:=⟨_,rfl⟩
     obtain⟨z,hz⟩:∃ x,(al2 c).1=x:=⟨_,rfl⟩
     obtain⟨z2,hz2⟩:∃ x,(al2 c).2=x:=⟨_,rfl⟩
     have HST:=lH (show at8 L ((s5 s).drop k)=if x<0∨z<0 then none else at8 (L++[16*x+z]) ((s5 s).drop (k+2))by rw[hd,hd1,at8,hx,hz])
     rw[hx]at p0 p1
     rw[hx2]at p2 p3
     rw[hz]at r0 r1
     rw[hz2]at r2 r3
     clear hd hd1
     have hjj:(0:Int)≤(k:Int)+1:=by omega
     have hjt:((k:Int)+1).toNat=k+1:=by omega
     have hjl:(k:Int)+1<(N:Int):=by omega
     go_wp2_with (fail)
     (try simp only[hb])
     refine gm (aB0 hb0 hb1) ?_
     intro y8
     (try simp only[hx,hx2])
     go_wp2_with (fail)
     (try simp only[hc])
     refine gm (aB0 hc0 hc1) ?_
     intro y9
     (try simp only[hz,hz2])
     go_upto_region 10 with(fail)
     cases c3:decide (x<0)
     ·cases c4:decide (z<0)
      ·have HF:=lH (show at8 (L++[16*x+z]) ((s5 s).drop (k+2))=at8 [] (s5 s)by rw[← HL.out,HST.out,if_neg (by have h3:=of_decide_eq_false c3;have h4:=of_decide_eq_false c4;omega)])
       have hx0:0≤x:=by have:=of_decide_eq_false c3;omega
       have hz0:0≤z:=by have:=of_decide_eq_false c4;omega
       have hw8:IntKind.u8.wrap (16*x+z)=16*x+z:=bU9 om om
       have hqb:q≤400:=by have:=hq.out;omega
       go_wp2_with (first|((at_builtin;refine ak7 (enc:=Y1) (w0:=w) (B:=w.heap.size) (z:=.int .u8 0) (size:=1) (bytes:=1) (16*x+z) rfl (.tmp 51) (.tmp 57) rfl aF2 kr rfl de de rfl rfl hL (Own.to hO.out ii) bk rfl (am7 _) om LeN.out ii LeN.out ?_;intro sa1 sc1 x1 hown1 hgr1);have HO6:=lH hown1;clear hown1 hgr1))
       go_roundw
       case rel=>exact⟨k+2,q+1,_,L++[16*x+z],sa1,sc1,rfl,rfl,by go_num,by omega,(by have:=hq.out;show _=_;omega),by simp[hL],HF,lH fun e=>by omega,HO6,b7.of⟩
       case measure=>simp[intOf];omega
      ·have HV:=lH (show an8 s=none by rw[HV.out,← HL.out,HST.out,if_pos (.inr (of_decide_eq_true c4))])
       go_wp2_with (fail)
       refine bodyPost_ret (v:=.tuple #[.string ⟨#[]⟩,I 0,.bool false]) ?_ rfl (⟨0,by rw[HV.out];rfl,b7.of⟩)
       simp[results,Tryz.results238,go_sem]
     ·have HV:=lH (show an8 s=none by rw[HV.out,← HL.out,HST.out,if_pos (.inl (of_decide_eq_true c3))])
      go_wp2_with (fail)
      refine bodyPost_ret (v:=.tuple #[.string ⟨#[]⟩,I 0,.bool false]) ?_ rfl (⟨0,by rw[HV.out];rfl,b7.of⟩)
      simp[results,Tryz.results238,go_sem]
    ·obtain rfl:k=N:=by omega
     have hcv:∀ (W':World) [b8 y0.w W'],(convert 258 9 (.slice sa q sc)).run Tryz.prog W'=.ok (.string (strOfNums L)) W':=by
      by_cases hq0:q=0
      ·intro W' _
       rw[h00.out hq0]
       exact run_convert_bytes_arg W' 258 5 aF2 uu5 w.heap.size 0 q sc L hL (fun i hi=>by omega) 9 uu9
      ·exact at7 (P:=Tryz.prog) (c:=sc) aF2 uu5 uu9 hO.out.sl hL om
     have hcv1:=hcv y0.w
     clear hcv
     have HV2:=lH (show an8 s=some L by rw[HV.out,← HL.out,List.drop_of_length_le om];rfl)
     go_wp2_with (fail)
     refine bodyPost_ret (v:=.tuple #[.string (strOfNums L),I m,.bool true]) ?_ rfl (⟨m,by rw[HV2.out];rfl,b7.of⟩)
     simp[results,Tryz.results238,go_sem]
  ·have HV:=lH (show an8 s=none by rw[an8,if_pos (.inr (by have:=of_decide_eq_true c2;omega))])
   go_enter Tryz.func238,Tryz.ntmps238
   go_wp2_with (fail)
   refine bodyPost_ret (v:=.tuple #[.string ⟨#[]⟩,I 0,.bool false]) ?_ rfl (⟨0,by rw[HV.out];rfl,b7.of⟩)
   simp[results,Tryz.results238,go_sem]
 ·have HV:=lH (show an8 s=none by rw[an8,if_pos (.inl om)])
  have c1:((N:Int) % 2 != 0)=true:=by simp;omega
  go_enter Tryz.func238,Tryz.ntmps238
  go_wp2_with (fail)
  refine bodyPost_ret (v:=.tuple #[.string ⟨#[]⟩,I 0,.bool false]) ?_ rfl (⟨0,by rw[HV.out];rfl,b7.of⟩)
  simp[results,Tryz.results238,go_sem]
theorem bg8(hm:s.size≤400):Calls Tryz.prog 239 #[.string s] w (b5 w (.string (strOfNums (ao1 (s5 s))))):=by
 have hlen:=M7 s
 obtain⟨n,hn⟩:∃ n,s.size=n:=⟨_,rfl⟩
 have hln:(s5 s).length=n:=by omega
 have hmk:=bu9 (P:=Tryz.prog) (t:=258) (e:=5) aF2 kr (l:=n) (c:=n) (a:=n) (b:=n) nl om rfl rfl
 go_enter Tryz.func239,Tryz.ntmps239
 go_wp2_with (first|((with_reducible refine rl ?_);(repeat(first|go_big_quiet_step (first|fail)|simp only[hn]));refine wpQuiet_nil ?_;intro x))
 go_loopw [5] (fun v wr=>∃ (k:Nat) (D:List Int),v=I k∧k≤8∧D.length=n∧Hid ((bc1 (aH3 (s5 s)) n k (8 - k)).foldl (up1 orU) D=ao1 (s5 s))∧Hid (ar3 wr w.heap.size D)∧∃ x:b7 w,wr=x.w) (fun v _=>(8 - intOf v).toNat)
 case atStart=>exact⟨0,List.replicate n 0,rfl,by omega,by simp,lH (by have:=bz9 (s5 s);rw[hln]at this;exact this),lH (ar3.made rfl),b7.of⟩
 case round =>
  obtain⟨k,D,rfl,hk,hDn,HF,HD,x0,rfl⟩:=hrel
  by_cases hk8:k<8
  ·have HK:=lH (show decide ((k:Int)<8)=true by simp;omega)
   go_wp2_with (first|((with_reducible refine rl ?_);refine rq ?_;intro x))
   (try rw[HK.out])
   go_loopw [6] (fun v wr=>∃ (m:Nat) (D:List Int),v=I m∧m≤n∧D.length=n∧Hid ((bc1 (aH3 (s5 s)) n (k+1) (8 - (k+1))).foldl (up1 orU) ((bO1 (aH3 (s5 s)) k m (n - m)).foldl (up1 orU) D)=ao1 (s5 s))∧Hid (ar3 wr w.heap.size D)∧∃ y:b7 w,wr=y.w) (fun v _=>(n - intOf v).toNat)
   case atStart=>exact⟨0,D,rfl,by omega,hDn,lH (by have:=HF.out;rw[bF7 _ _ hk8,List.foldl_append]at this;exact this),HD.out.to ii,b7.of⟩
   case round =>
    obtain⟨m,D,rfl,hm,hDn,HF,HD,y,rfl⟩:=hrel
    by_cases hmn:m<n
    ·have hln:(s5 s).length=n:=by rw[hlen];exact hn
     obtain⟨q,hq9⟩:∃ x:Nat,k*n=x:=⟨_,rfl⟩
     have HQ:=lH hq9
     have hq7:q≤7*n:=hq9▸Nat.mul_le_mul_right n om
     have HOV:=lH (show(k:Int)*n=(q:Int)by rw[← hq9];exact(Int.natCast_mul k n).symm)
     clear hq9
     obtain⟨p,hp9⟩:∃ x:Nat,q+m=x:=⟨_,rfl⟩
     have HP:=lH hp9
     obtain⟨j,hj9⟩:∃ x:Nat,p / 8=x:=⟨_,rfl⟩
     have HJ:=lH hj9
     obtain⟨r,hr9⟩:∃ x:Nat,p % 8=x:=⟨_,rfl⟩
     have HR:=lH hr9
     have hjn:j<n:=by omega
     have hr8:r<8:=by omega
     have hpb:p≤4000:=by omega
     have HPE:=lH (show wrap64 (wrap64 (q:Int)+m)=(p:Int)by rw[w64 (n:=(q:Int)) om om,w64 (n:=(q:Int)+m) om om];omega)
     clear hp9 hj9 hr9
     obtain⟨d,hd9⟩:∃ x:Int,D.getD m 0=x:=⟨_,rfl⟩
     have Hd:=lH hd9
     have hcell:∀ (W:World) [b8 y.w W],W.cell? ⟨w.heap.size,0+m*1,none⟩=some (.int .u8 d):=fun W g=>by rw[Nat.zero_add,Nat.mul_one,← Hd.out];exact((HD.out.to g).at om).1
     clear hd9
     have hjs:j<s.size:=by omega
     obtain⟨hb1,hdr⟩:=ab4 hjs
     obtain⟨b,hb⟩:∃ b:Int,((s[j]'hjs).toNat:Int)=b:=⟨_,rfl⟩
     have hb0:0≤b:=by omega
     rw[hb]at hb1 hdr
     have Hb:=lH (show(s5 s).getD j 0=b by have:=congrArg (fun l=>l[0]?) hdr;simp only[List.getElem?_drop,Nat.add_zero,List.getElem?_cons_zero]at this;rw[List.getD,this];rfl)
     clear hdr
     have⟨hs0,hs1⟩:=bU4 hb0 hb1 r
     obtain⟨bs,hbs9⟩:∃ x:Int,b / 2 ^ r=x:=⟨_,rfl⟩
     have HS:=lH hbs9
     rw[hbs9]at hs0 hs1
     clear hbs9
     obtain⟨b1,hb19⟩:∃ x:Int,bs % 2=x:=⟨_,rfl⟩
     have HS1:=lH hb19
     clear hb19
     obtain⟨v,hv9⟩:∃ x:Int,IntKind.u8.wrap (b1*2 ^ k)=x:=⟨_,rfl⟩
     have HV:=lH hv9
     clear hv9
     obtain⟨ov,hov9⟩:∃ x:Int,orU d v=x:=⟨_,rfl⟩
     have HO:=lH hov9
     clear hov9
     go_upto_region 10 with(first|((with_reducible refine rl ?_);refine rq ?_;intro x)|(rw[HOV.out]))
     rw[HPE.out]
     refine I5 kr (T:=[18]) (Zs:=[]) (H:=[(4,[]),(5,[]),(8,[]),(9,[]),(11,[]),(12,[]),(13,[]),(15,[]),(16,[]),(17,[])]) (C:=[]) (Fs:=[(some 26,.v (.slice (some ⟨w.heap.size,0,none⟩) n n)),(some 27,.v (I (m))),(some 28,.v (.slice (some ⟨w.heap.size,0,none⟩) n n)),(some 29,.v (I (m))),(some 30,.v (.pointer (some ⟨w.heap.size,0+m*1,none⟩))),(some 31,.v (.int .u8 (d))),(some 32,.v (.string s)),(some 33,.v (I ((p:Int)))),(some 34,.v (I ((j:Int)))),(some 35,.v (.int .u8 (b))),(some 36,.v (I ((p:Int)))),(some 37,.v (I ((r:Int)))),(some 38,.v (.int .u8 (bs))),(some 39,.v (.int .u8 (b1))),(some 40,.v (I (k))),(some 41,.v (.int .u8 (v))),(some 42,.v (.int .u8 (ov))),(some 43,.v (.pointer (some ⟨w.heap.size,0+m*1,none⟩))),(none,.v (undef))]) kr (fun val W=>by kernel_rfl) ?ob10 ?lz10 ?pn10 ?tl10
     case ob10 =>
      refine⟨fun x=>?_,fun x=>?_,fun x=>?_,fun x=>?_,fun x=>?_,fun x=>?_,fun x=>?_,fun x=>?_,fun x=>?_,fun x=>?_,trivial⟩
      ·exact bI3 (size:=1) (o:=0) (j:=m) (n:=n) (c:=n) rfl kr aF2 kr hmn
      ·exact am3 (hcell x.w) rfl kr _ uu5 rfl
      ·exact ak9 (o:=.quo) (p:=.i64) (s:=(p:Int)) (q:=.i64) (t:=8) rfl kr (fun ty ty2 w=>by exact HJ.out▸bD3 rfl hpb ty ty2 w)
      ·exact au1 rfl kr uu9 hjs hb
      ·exact ak9 (o:=.rem) (p:=.i64) (s:=(p:Int)) (q:=.i64) (t:=8) rfl kr (fun ty ty2 w=>by exact HR.out▸bD4 rfl hpb ty ty2 w)
      ·exact ak9 (o:=.shr) (p:=.u8) (s:=b) (q:=.i64) (t:=(r:Int)) rfl kr (fun ty ty2 w=>by exact HS.out▸bD6 hr8 ty ty2 w)
      ·exact ak9 (o:=.and) (p:=.u8) (s:=bs) (q:=.u8) (t:=1) rfl kr (fun ty ty2 w=>by exact HS1.out▸bD2 hs0 hs1 ty ty2 w)
      ·exact ak9 (o:=.shl) (p:=.u8) (s:=b1) (q:=.i64) (t:=k) rfl kr (fun ty ty2 w=>by exact HV.out▸bD5 hk8 ty ty2 w)
      ·exact ak9 (o:=.or) (p:=.u8) (s:=d) (q:=.u8) (t:=v) rfl kr (fun ty ty2 w=>by exact HO.out▸bU0 ty ty2 w)
      ·exact bI3 (size:=1) (o:=0) (j:=m) (n:=n) (c:=n) rfl kr aF2 kr hmn
     case lz10 =>
      exact trivial
     case pn10=>exact fun _ _ _ _ _ _ h=>h
     case tl10 =>
      intro x
      refine aF1 rfl ?_
      simp only[ag8,ae9]
      simp only[nrm,if_true]
      refine aS3 rfl _ (.tmp 43) (.tmp 42) rfl w.heap.size (0+m*1) rfl (L2:=up1 orU D (aH3 (s5 s) m k)) (HD.out.to (ii:b8 y.w x.w)) rfl kr om (by rw[up1,aH3,Nat.zero_add,Nat.mul_one,hln,HQ.out,HP.out,HJ.out,HR.out,Hb.out,HS.out,HS1.out,HV.out,Hd.out,HO.out]) (w0:=w) ii nl ?_
      intro z hz
      have HZ:=lH hz;clear hz hcell
      (try simp only[Act.put,List.setIfInBounds_toArray])
      go_wp2_with (first|((with_reducible refine rl ?_);refine rq ?_;intro x))
      go_roundw
      case rel=>exact⟨m+1,up1 orU D (aH3 (s5 s) m k),by go_num,by omega,by rw[bv3];exact hDn,lH (by have:=HF.out;rw[bO2 _ _ hmn,List.foldl_cons]at this;exact this),HZ,b7.of⟩
      case measure=>simp[intOf];omega
    ·obtain rfl:n=m:=by omega
     go_wp2_with (first|((with_reducible refine rl ?_);refine rq ?_;intro x))
     go_roundw
     case rel=>exact⟨k+1,D,by go_num,by omega,hDn,lH (by have:=HF.out;rw[Nat.sub_self]at this;exact this),HD,b7.of⟩
     case measure=>simp[intOf];omega
  ·obtain rfl:k=8:=by omega
   have hcv:=HD.out.str (P:=Tryz.prog) (c:=n) hDn aF2 uu5 uu9
   have hcv1:=hcv x0.w
   clear hcv
   have HF2:=lH (show D=ao1 (s5 s)by have:=HF.out;rw[Nat.sub_self]at this;exact this)
   go_wp2_with (first|((with_reducible refine rl ?_);refine rq ?_;intro x))
   go_ret
   exact b5.mk (by rw[HF2.out];rfl)
theorem bp5(hm:s.size≤400):Calls Tryz.prog 108 #[.string s] w (aZ4 w (aw5 s)):=by
 by_cases h0:s.size=0
 ·obtain rfl:s=⟨#[]⟩:=bn1 h0
  go_enter Tryz.func108,Tryz.ntmps108
  go_wp2_with (fail)
  refine bodyPost_ret (v:=.tuple #[.string ⟨#[]⟩,I 0,.bool false]) ?_ rfl (⟨0,rfl,b7.of⟩)
  simp[results,Tryz.results108,go_sem]
 have he:=aV2 h0
 have HV:=lH (show aw5 s=an8 (aJ8 s)by rw[aw5,if_neg h0])
 have hz2:(strOfNums (scr 255 (s5 s))).size≤400:=by rw[strOfNums_size,aZ9,M7];exact hm
 have hz3:=bf3 s
 have HG:=bf2 s
 go_enter Tryz.func108,Tryz.ntmps108
 go_wp2_with (first|(go_at_call 206;refine gm (bx4 hm) ?_;intro y1)|(go_at_call 239;refine gm (bg8 hz2) ?_;intro y2)|(go_at_call 238;refine(bb6 om).mono ?_;rintro _ _ ⟨n9,rfl,y3,rfl⟩))
 refine bodyPost_ret (v:=.tuple #[.string (aB6 (an8 (aJ8 s))),I n9,.bool (an8 (aJ8 s)).isSome]) ?_ rfl (⟨n9,by rw[HV.out],b7.of⟩)
 simp[results,Tryz.results108,go_sem]
theorem bF6(hm:s.size≤404):Calls Tryz.prog 22 #[.string s] w (b5 w (.tuple #[.string (aB6 (ad3 s)),.bool (ad3 s).isSome])):=by
 by_cases h4:4≤s.size
 ·have c0:decide ((s.size:Int)<4)=false:=by simp;omega
  have h4i:(4:Int)≤(s.size:Int):=by omega
  have hz:(s.extract 4 s.size).size≤400:=by rw[ByteArray.size_extract];omega
  have HM:=lH (show am2 s=((s.extract 0 4).toList == ([26,207,252,29]:List UInt8))by rw[am2,decide_eq_true h4,bn3,Bool.true_and])
  cases c1:((s.extract 0 4).toList == ([26,207,252,29]:List UInt8))
  ·have HV:=lH (show ad3 s=none by rw[ad3,HM.out,c1];rfl)
   go_enter Tryz.func22,Tryz.ntmps22
   go_wp2_with (fail)
   refine bodyPost_ret (v:=.tuple #[.string ⟨#[]⟩,.bool false]) ?_ rfl (b5.mk (by rw[HV.out];rfl))
   simp[results,Tryz.results22,go_sem]
  ·have HV:=lH (show ad3 s=aw5 (s.extract 4 s.size)by rw[ad3,HM.out,c1];rfl)
   go_enter Tryz.func22,Tryz.ntmps22
   go_wp2_with (first|(go_at_call 108;refine(bp5 hz).mono ?_;rintro _ _ ⟨n9,rfl,y3,rfl⟩))
   refine bodyPost_ret (v:=.tuple #[.string (aB6 (aw5 (s.extract 4 s.size))),.bool (aw5 (s.extract 4 s.size)).isSome]) ?_ rfl (b5.mk (by rw[HV.out]))
   simp[results,Tryz.results22,go_sem]
 ·have c0:decide ((s.size:Int)<4)=true:=by simp;omega
  have HV:=lH (show ad3 s=none by rw[ad3,am2,decide_eq_false h4];rfl)
  go_enter Tryz.func22,Tryz.ntmps22
  go_wp2_with (fail)
  refine bodyPost_ret (v:=.tuple #[.string ⟨#[]⟩,.bool false]) ?_ rfl (b5.mk (by rw[HV.out];rfl))
  simp[results,Tryz.results22,go_sem]
