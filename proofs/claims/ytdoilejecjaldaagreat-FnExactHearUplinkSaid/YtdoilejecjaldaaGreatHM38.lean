/- laws. No condition but on sizes. -/
import Derived.Test.YtdoilejecjaldaaGreatHLto1
import Derived.Test.YtdoilejecjaldaaGreatHM26
import Derived.Test.YtdoilejecjaldaaGreatHOkAs
import Derived.Test.YtdoilejecjaldaaGreatHM31
import Derived.Test.YtdoilejecjaldaaGreatHM22
import Derived.Test.YtdoilejecjaldaaGreatHM6
import Derived.Test.YtdoilejecjaldaaGreatHRcvI3
import Derived.Test.YtdoilejecjaldaaGreatHOkF
import Derived.Test.YtdoilejecjaldaaGreatHStepH
import Derived.Deep.CutRange
namespace Go.Proofs.YtdoilejecjaldaaGreat
set_option maxRecDepth 100000
set_option maxHeartbeats 8000000
set_option linter.unusedVariables false
open Go.ChangeShapes Go.WideShapes Go.ChangeAt Go.RowKit
private abbrev aQ7:=Tryz.underlying65
private abbrev ad5:=Tryz.underlying77
instance(priority:=950) LeN.setL (a:Nat){W:World}(x:b5 W)(p:Addr)(v:Value)[h:LeN a x.w.heap.size]:LeN a (x.set p v).w.heap.size:=⟨by show a≤(x.w.setCell p v).heap.size;simpa using h.out⟩
def bG3{α β:Type}[N:ao2 α β][F:D9 β](w:World)(l:List α):Ending→World→Prop:=fun e w'=>∃ (a:Option Addr) (c:Nat) (χ:Nat→Col) (rows:List (N7 α)),e=.returned (.slice a l.length c)∧rows.map (·.x)=l∧M9 w.heap.size χ 0 w' a c rows∧∃ y:b5 w,w'=y.w
structure as3{α β:Type}[N:ao2 α β][F:D9 β](B:Nat)(χ:Nat→Col)(w:World)(D:Array Value)(rows:List (N7 α)):Prop where
 cell:∀ i r,rows[i]?=some r→∀ (j:Nat) (u:Value),(Z0 r)[j]?=some u→D[i*N.size+j]?=some u
 each:∀ i r,rows[i]?=some r→N.good r.x∧D0 B χ (0,i+1) w r.a r.c (N.inner r.x)
section
variable {α β:Type} [N:ao2 α β] [F:D9 β] {B n:Nat} {χ χ2:Nat→Col} {w W1 W2 w2:World} {D:Array Value} {rows:List (N7 α)} {x:α} {ra:Option Addr} {rc:Nat}
theorem as3.nil:as3 B χ w D ([]:List (N7 α)):=⟨fun i r h=>by simp at h,fun i r h=>by simp at h⟩
theorem as3.put{k:Nat}{vs:List Value}(h:as3 B χ w D rows)(hk:rows.length=k)(hkn:k<n)(hD:D.size=n*N.size)(g:d5 w W1)(hB:B≤W1.heap.size){i0:Col}(hi:D0 W1.heap.size χ2 i0 W2 ra rc (N.inner x))(g2:d5 W1 W2)(hgd:N.good x)(g3:b8 B W2 w2)(hv:Z0 (⟨x,ra,rc⟩:N7 α)=vs) :
  as3 B (E9 W1.heap.size χ χ2 (fun _=>(0,k+1))) w2 (aT4 D (k*N.size) 0 vs) (rows++[⟨x,ra,rc⟩]):=by
 subst hk;subst hv
 have hle:rows.length*N.size+N.size≤n*N.size:=by rw[← Nat.succ_mul];exact Nat.mul_le_mul_right _ hkn
 refine⟨fun i r hr j u hu=>?_,fun i r hr=>?_⟩
 ·by_cases hi2:i<rows.length
  ·rw[List.getElem?_append_left hi2]at hr
   have hj:j<N.size:=by rw[← ae0 r];exact(List.getElem?_eq_some_iff.1 hu).1
   have:(i+1)*N.size≤rows.length*N.size:=Nat.mul_le_mul_right _ hi2
   rw[Nat.succ_mul]at this
   rw[aF3 _ _ _ _ _ (by omega)];exact h.cell i r hr j u hu
  ·have hlt:=(List.getElem?_eq_some_iff.1 hr).1
   simp at hlt
   obtain rfl:i=rows.length:=by omega
   rw[List.getElem?_append_right nl]at hr
   simp at hr
   subst hr
   exact aQ5 _ D _ 0 (by rw[ae0];omega) j u hu
 ·by_cases hi2:i<rows.length
  ·rw[List.getElem?_append_left hi2]at hr
   obtain⟨h1,h2⟩:=h.each i r hr
   exact⟨h1,(((h2.old g.out.size).to ⟨g.out.trans (g2.out.mono g.out.size)⟩).keep g3)⟩
  ·have hlt:=(List.getElem?_eq_some_iff.1 hr).1
   simp at hlt
   obtain rfl:i=rows.length:=by omega
   rw[List.getElem?_append_right nl]at hr
   simp at hr
   subst hr
   exact⟨hgd,((hi.new (B:=W1.heap.size) nl).mono hB).keep g3⟩
theorem as3.list(h:as3 B χ w D rows)(hl:rows.length=n)(hD:D.size=n*N.size):D.toList=rows.flatMap Z0:=by
 have hfl:(rows.flatMap (Z0 (α:=α))).length=n*N.size:=by rw[F8 ae0,hl]
 refine List.ext_getElem? fun j=>?_
 by_cases hj:j<n*N.size
 ·have hs:0<N.size:=by
   rcases Nat.eq_zero_or_pos N.size with h0|h0
   ·rw[h0]at hj;omega
   ·exact h0
  have hq:j / N.size<rows.length:=by rw[hl];exact Nat.div_lt_of_lt_mul (by rw[Nat.mul_comm];exact hj)
  have hx:=List.getElem?_eq_getElem hq
  have hm:j % N.size<(Z0 rows[j / N.size]).length:=by rw[ae0];exact Nat.mod_lt _ hs
  have hu:=List.getElem?_eq_getElem hm
  have h3:=h.cell _ _ hx _ _ hu
  have h4:=af6 ae0 rows _ _ _ _ hx hu
  have hj':j / N.size*N.size+j % N.size=j:=by rw[Nat.mul_comm];exact Nat.div_add_mod _ _
  rw[hj']at h3 h4
  rw[h4,Array.getElem?_toList,h3]
 ·rw[List.getElem?_eq_none (by rw[Array.length_toList];omega),List.getElem?_eq_none (by omega)]
theorem as3.done{W:World}(x:b5 (W.alloc (.cells D N.ty)))(h:as3 B χ x.w D rows)(hl:rows.length=n)(hm:n≤1048576)(hD:D.size=n*N.size)(hB:W.heap.size+1≤B):M9 W.heap.size (E9 (W.heap.size+1) (fun _=>(0,0)) χ id) 0 x.w (some ⟨W.heap.size,0,none⟩) n rows :=
 ⟨bk7 ae0 hl (by omega) nl hD (h.list hl hD) x,fun k hk=>by cases hk;rw[E9,if_pos (Nat.lt_succ_self _)],fun i r hr=>⟨(h.each i r hr).1,D0.mono (B:=W.heap.size+1) (D0.recol (D0.mono (h.each i r hr).2 hB) (fun k h1 _ h3=>by rw[E9,if_neg (Nat.not_lt.2 h1),h3];rfl)) (Nat.le_succ _)⟩⟩
end
theorem bx6{B:Nat}{vs:List Value}{x:R5}{w:World}(h:Enc.Rd B w vs x)(ht:Enc.tot x≤1048576) :
  Calls Tryz.prog 99 #[.agg vs.toArray] w (U0 w x):=by
 obtain⟨a0,c0,rfl,q0,hok⟩:=h
 have HT:=lH (show d7 x.Starts≤1048576∧True from by
  have ht2:(x.Rest.size:Int)+d7 x.Starts≤1048576:=ht
  have n0:=b7 x.Starts
  refine⟨?_,trivial⟩<;>omega)
 clear ht
 have HOK:=lH hok;clear hok
 go_enter Tryz.func99,Tryz.ntmps99
 go_wp2_with (fail)
 refine(aw5 (q0.keep ii) (HT.out.1)).mono ?_
 rintro _ _ ⟨na0,nc0,rfl,nq0,y0,rfl⟩
 have Q0:=lH nq0;clear nq0
 go_wp2_with (fail)
 refine bodyPost_ret (v:=.agg #[.int .i64 x.Channel,.int .i64 x.Count,.string x.Rest,.slice na0 x.Starts.length nc0]) ?_ rfl ⟨[.int .i64 x.Channel,.int .i64 x.Count,.string x.Rest,.slice na0 x.Starts.length nc0],s5 [(y0.w.heap.size,0,(fun _=>(0,0)))],rfl,⟨na0,nc0,rfl,⟨(((Q0.out.re (χ:=s5 [(y0.w.heap.size,0,(fun _=>(0,0)))]) (d:=0) (fun b h1 h2=>ao7 h2)).mono (B':=w.heap.size+3) LeN.out).keep ii).mono (by omega),HOK.out⟩⟩,b5.of⟩
 simp[results,Tryz.results99,go_sem]
theorem bx7{B:Nat}{vs:List Value}{x:R6}{w:World}(h:Enc.Rd B w vs x)(ht:Enc.tot x≤1048576) :
  Calls Tryz.prog 90 #[.agg vs.toArray] w (U0 w x):=by
 obtain⟨a0,c0,rfl,q0,hok⟩:=h
 have HT:=lH (show d7 x.Waiting≤1048576∧True from by
  have ht2:d7 x.Waiting≤1048576:=ht
  have n0:=b7 x.Waiting
  refine⟨?_,trivial⟩<;>omega)
 clear ht
 have HOK:=lH hok;clear hok
 go_enter Tryz.func90,Tryz.ntmps90
 go_wp2_with (fail)
 refine(bE5 (q0.keep ii) (HT.out.1)).mono ?_
 rintro _ _ ⟨na0,nc0,rfl,nq0,y0,rfl⟩
 have Q0:=lH nq0;clear nq0
 go_wp2_with (fail)
 refine bodyPost_ret (v:=.agg #[.int .i64 x.Next,.int .i64 x.Window,.slice na0 x.Waiting.length nc0,.int .i64 x.Done]) ?_ rfl ⟨[.int .i64 x.Next,.int .i64 x.Window,.slice na0 x.Waiting.length nc0,.int .i64 x.Done],s5 [(y0.w.heap.size,0,(fun _=>(0,0)))],rfl,⟨na0,nc0,rfl,⟨(((Q0.out.re (χ:=s5 [(y0.w.heap.size,0,(fun _=>(0,0)))]) (d:=0) (fun b h1 h2=>ao7 h2)).mono (B':=w.heap.size+3) LeN.out).keep ii).mono (by omega),HOK.out⟩⟩,b5.of⟩
 simp[results,Tryz.results90,go_sem]
theorem bi6{B:Nat}{vs:List Value}{x:J0}{w:World}(h:Enc.Rd B w vs x)(ht:Enc.tot x≤1048576) :
  Calls Tryz.prog 194 #[.agg vs.toArray] w (U0 w x):=by
 obtain⟨a0,c0,a1,c1,rfl,q0,q1,hok⟩:=h
 have HT:=lH (show d7 x.Records≤1048576∧d7 x.Dropped≤1048576∧True from by
  have ht2:d7 x.Records+d7 x.Dropped≤1048576:=ht
  have n0:=b7 x.Records
  have n1:=b7 x.Dropped
  refine⟨?_,?_,trivial⟩<;>omega)
 clear ht
 have HOK:=lH hok;clear hok
 go_enter Tryz.func194,Tryz.ntmps194
 go_wp2_with (fail)
 refine(az0 (q0.keep ii) (HT.out.1)).mono ?_
 rintro _ _ ⟨na0,nc0,rfl,nq0,y0,rfl⟩
 have Q0:=lH nq0;clear nq0
 go_wp2_with (fail)
 refine(aw5 (q1.keep ii) (HT.out.2.1)).mono ?_
 rintro _ _ ⟨na1,nc1,rfl,nq1,y1,rfl⟩
 have Q1:=lH nq1;clear nq1
 go_wp2_with (fail)
 refine bodyPost_ret (v:=.agg #[.int .i64 x.Room,.slice na0 x.Records.length nc0,.slice na1 x.Dropped.length nc1]) ?_ rfl ⟨[.int .i64 x.Room,.slice na0 x.Records.length nc0,.slice na1 x.Dropped.length nc1],s5 [(y0.w.heap.size,0,(fun _=>(0,0))),(y1.w.heap.size,1,(fun _=>(0,0)))],rfl,⟨na0,nc0,na1,nc1,rfl,⟨(((Q0.out.re (χ:=s5 [(y0.w.heap.size,0,(fun _=>(0,0))),(y1.w.heap.size,1,(fun _=>(0,0)))]) (d:=0) (fun b h1 h2=>ao7 h2)).mono (B':=w.heap.size+3) LeN.out).keep ii).mono (by omega),(((Q1.out.re (χ:=s5 [(y0.w.heap.size,0,(fun _=>(0,0))),(y1.w.heap.size,1,(fun _=>(0,0)))]) (d:=1) (fun b h1 h2=>(bk8 (Nat.le_trans (LeN.out (a:=y0.w.heap.size)) h1)).trans (ao7 h2))).mono (B':=w.heap.size+3) LeN.out).keep ii).mono (by omega),HOK.out⟩⟩,b5.of⟩
 simp[results,Tryz.results194,go_sem]
theorem bx3{B:Nat}{vs:List Value}{x:D4}{w:World}(h:Enc.Rd B w vs x)(ht:Enc.tot x≤1048576) :
  Calls Tryz.prog 189 #[.agg vs.toArray] w (U0 w x):=by
 obtain⟨a0,c0,rfl,q0,hok⟩:=h
 have HT:=lH (show d7 x.Parts≤1048576∧True from by
  have ht2:d7 x.Parts≤1048576:=ht
  have n0:=b7 x.Parts
  refine⟨?_,trivial⟩<;>omega)
 clear ht
 have HOK:=lH hok;clear hok
 go_enter Tryz.func189,Tryz.ntmps189
 go_wp2_with (fail)
 refine(an3 (q0.keep ii) (HT.out.1)).mono ?_
 rintro _ _ ⟨na0,nc0,rfl,nq0,y0,rfl⟩
 have Q0:=lH nq0;clear nq0
 go_wp2_with (fail)
 refine bodyPost_ret (v:=.agg #[.int .i64 x.File,.int .i64 x.Size,.int .i64 x.Check,.slice na0 x.Parts.length nc0]) ?_ rfl ⟨[.int .i64 x.File,.int .i64 x.Size,.int .i64 x.Check,.slice na0 x.Parts.length nc0],s5 [(y0.w.heap.size,0,(fun _=>(0,0)))],rfl,⟨na0,nc0,rfl,⟨(((Q0.out.re (χ:=s5 [(y0.w.heap.size,0,(fun _=>(0,0)))]) (d:=0) (fun b h1 h2=>ao7 h2)).mono (B':=w.heap.size+3) LeN.out).keep ii).mono (by omega),HOK.out⟩⟩,b5.of⟩
 simp[results,Tryz.results189,go_sem]
theorem bq8{B:Nat}{vs:List Value}{x:j7}{w:World}(h:Enc.Rd B w vs x)(ht:Enc.tot x≤1048576) :
  Calls Tryz.prog 195 #[.agg vs.toArray] w (U0 w x):=by
 obtain⟨a0,c0,rfl,q0,hok⟩:=h
 have HT:=lH (show d7 x.Queue≤1048576∧True from by
  have ht2:(x.Data.size:Int)+d7 x.Queue≤1048576:=ht
  have n0:=b7 x.Queue
  refine⟨?_,trivial⟩<;>omega)
 clear ht
 have HOK:=lH hok;clear hok
 go_enter Tryz.func195,Tryz.ntmps195
 go_wp2_with (fail)
 refine(aw5 (q0.keep ii) (HT.out.1)).mono ?_
 rintro _ _ ⟨na0,nc0,rfl,nq0,y0,rfl⟩
 have Q0:=lH nq0;clear nq0
 go_wp2_with (fail)
 refine bodyPost_ret (v:=.agg #[.int .i64 x.File,.string x.Data,.slice na0 x.Queue.length nc0,.bool x.Done]) ?_ rfl ⟨[.int .i64 x.File,.string x.Data,.slice na0 x.Queue.length nc0,.bool x.Done],s5 [(y0.w.heap.size,0,(fun _=>(0,0)))],rfl,⟨na0,nc0,rfl,⟨(((Q0.out.re (χ:=s5 [(y0.w.heap.size,0,(fun _=>(0,0)))]) (d:=0) (fun b h1 h2=>ao7 h2)).mono (B':=w.heap.size+3) LeN.out).keep ii).mono (by omega),HOK.out⟩⟩,b5.of⟩
 simp[results,Tryz.results195,go_sem]
theorem bq7{B:Nat}{a:Option Addr}{c:Nat}{l:List D4}{w:World}(hs:RdS B w a c l)(ht:d7 l≤1048576) :
  Calls Tryz.prog 95 #[.slice a l.length c] w (bG3 w l):=by
 have hln:=d9 l
 have HT:=lH (tm ht)
 obtain⟨n,hn⟩:∃ n,l.length=n:=⟨_,rfl⟩
 have HN:=lH hn
 have hm:n≤1048576:=by omega
 rw[hn];clear ht hln hn
 obtain⟨C,hC,hmk⟩:=ao8 (P:=Tryz.prog) Tryz.underlying74 (e:=150) (z:=.agg #[.int .i64 0,.int .i64 0,.int .i64 0,.slice none 0 0]) (size:=4) (bytes:=48) kr n (by omega) (by omega)
 have hCz:C.size=n*4:=by rw[hC,size_madeCells]
 clear hC
 go_enter Tryz.func95,Tryz.ntmps95
 go_wp2_with (fail)
 clear hmk
 go_loopw [4] (fun v wr=>∃ k:Nat,v=.int .i64 k∧k≤n∧∃ (D:Array Value) (χ:Nat→Col) (rows:List (N7 D4)) (x:b5 (w.alloc (.cells D 150))),D.size=n*4∧Hid (as3 (w.heap.size+1) χ x.w D rows)∧Hid (rows.map (fun q=>q.x)=l.take k)∧wr=x.w) (fun v _=>(n - intOf v).toNat)
 case atStart=>exact⟨0,rfl,by omega,C,fun _=>(0,0),[],b5.here _,hCz,as3.nil,rfl,rfl⟩
 case round =>
  obtain⟨k,rfl,hk,D,χ,rows,x,hDz,hf,hX,rfl⟩:=hrel
  by_cases h:k<n
  ·have hlk:k<l.length:=by have:=HN.out;omega
   obtain⟨eb,eoff,ex,ea0,ec0,rfl,ehb,ehd,eq0,eok,eh0,eh1,eh2,eh3⟩:=hs.atTFileIn (show k<l.length by omega)
   obtain⟨o0,g0⟩:=L9 hDz (show k*4<n*4 by omega)
   obtain⟨o1,g1⟩:=L9 hDz (show k*4+1<n*4 by omega)
   obtain⟨o2,g2⟩:=L9 hDz (show k*4+2<n*4 by omega)
   obtain⟨o3,g3⟩:=L9 hDz (show k*4+3<n*4 by omega)
   have hte:=HT.out ex (List.mem_of_mem_drop (by rw[ehd.out];exact List.mem_cons_self ..))
   have HEOK:=lH eok;clear eok
   go_wp2_with (fail)
   refine(bx3 (x:=ex) ⟨ea0,ec0,rfl,eq0.keep ii,HEOK.out⟩ hte).mono ?_
   rintro _ _ ⟨_,χ2,rfl,⟨fa0,fc0,rfl,no⟩,y,rfl⟩
   have NO:=lH no;clear no
   have HLN:=lH (show rows.length=k from by have:=congrArg List.length hX.out;simp at this;omega)
   have HXN:=lH (show(rows.map (fun q=>q.x))++[ex]=l.take (k+1)from by rw[hX.out,List.take_add_one];congr 1;have:=congrArg (fun m=>m[0]?) ehd.out;simp at this;rw[this];rfl);clear hX
   clear hte
   go_wp2_with (fail)
   go_roundw
   case rel =>
    obtain⟨x2,hx2⟩:=b5.set4_at (x.andThen y) (k*4) (k*4+1) (k*4+2) (k*4+3) (.int .i64 ex.File) (.int .i64 ex.Size) (.int .i64 ex.Check) (.slice fa0 ex.Parts.length fc0)
    rw[hx2]
    have hP:=hf.out.put (n:=n) (w2:=x2.w) (ra:=fa0) (rc:=fc0) (x:=ex) (vs:=[.int .i64 ex.File,.int .i64 ex.Size,.int .i64 ex.Check,.slice fa0 ex.Parts.length fc0]) HLN.out h hDz (d5.same x.w) LeN.out NO.out.o0 ii HEOK.out (by rw[← hx2];infer_instance) rfl
    exact⟨k+1,by go_num,by omega,_,_,_,x2,by simpa using hDz,hP,by rw[List.map_append];exact HXN.out,rfl⟩
   case measure=>simp[intOf];omega
  ·go_wp2_with (fail)
   go_ret
   obtain rfl:k=n:=by omega
   have hXL:=hX.out
   rw[List.take_of_length_le (by have:=HN.out;omega)]at hXL
   exact⟨_,k,_,rows,by rw[HN.out];rfl,hXL,as3.done x hf.out ((show(rows.map (fun q=>q.x)).length=rows.length by simp).symm.trans ((congrArg List.length hXL).trans HN.out)) hm hDz nl,⟨x.w,d5.out⟩,rfl⟩
theorem bi5{B:Nat}{a:Option Addr}{c:Nat}{l:List j7}{w:World}(hs:RdS B w a c l)(ht:d7 l≤1048576) :
  Calls Tryz.prog 100 #[.slice a l.length c] w (bG3 w l):=by
 have hln:=d9 l
 have HT:=lH (tm ht)
 obtain⟨n,hn⟩:∃ n,l.length=n:=⟨_,rfl⟩
 have HN:=lH hn
 have hm:n≤1048576:=by omega
 rw[hn];clear ht hln hn
 obtain⟨C,hC,hmk⟩:=ao8 (P:=Tryz.prog) Tryz.underlying86 (e:=155) (z:=.agg #[.int .i64 0,.string ByteArray.empty,.slice none 0 0,.bool false]) (size:=4) (bytes:=56) kr n (by omega) (by omega)
 have hCz:C.size=n*4:=by rw[hC,size_madeCells]
 clear hC
 go_enter Tryz.func100,Tryz.ntmps100
 go_wp2_with (fail)
 clear hmk
 go_loopw [4] (fun v wr=>∃ k:Nat,v=.int .i64 k∧k≤n∧∃ (D:Array Value) (χ:Nat→Col) (rows:List (N7 j7)) (x:b5 (w.alloc (.cells D 155))),D.size=n*4∧Hid (as3 (w.heap.size+1) χ x.w D rows)∧Hid (rows.map (fun q=>q.x)=l.take k)∧wr=x.w) (fun v _=>(n - intOf v).toNat)
 case atStart=>exact⟨0,rfl,by omega,C,fun _=>(0,0),[],b5.here _,hCz,as3.nil,rfl,rfl⟩
 case round =>
  obtain⟨k,rfl,hk,D,χ,rows,x,hDz,hf,hX,rfl⟩:=hrel
  by_cases h:k<n
  ·have hlk:k<l.length:=by have:=HN.out;omega
   obtain⟨eb,eoff,ex,ea0,ec0,rfl,ehb,ehd,eq0,eok,eh0,eh1,eh2,eh3⟩:=hs.atTFileOut (show k<l.length by omega)
   obtain⟨o0,g0⟩:=L9 hDz (show k*4<n*4 by omega)
   obtain⟨o1,g1⟩:=L9 hDz (show k*4+1<n*4 by omega)
   obtain⟨o2,g2⟩:=L9 hDz (show k*4+2<n*4 by omega)
   obtain⟨o3,g3⟩:=L9 hDz (show k*4+3<n*4 by omega)
   have hte:=HT.out ex (List.mem_of_mem_drop (by rw[ehd.out];exact List.mem_cons_self ..))
   have HEOK:=lH eok;clear eok
   go_wp2_with (fail)
   refine(bq8 (x:=ex) ⟨ea0,ec0,rfl,eq0.keep ii,HEOK.out⟩ hte).mono ?_
   rintro _ _ ⟨_,χ2,rfl,⟨fa0,fc0,rfl,no⟩,y,rfl⟩
   have NO:=lH no;clear no
   have HLN:=lH (show rows.length=k from by have:=congrArg List.length hX.out;simp at this;omega)
   have HXN:=lH (show(rows.map (fun q=>q.x))++[ex]=l.take (k+1)from by rw[hX.out,List.take_add_one];congr 1;have:=congrArg (fun m=>m[0]?) ehd.out;simp at this;rw[this];rfl);clear hX
   clear hte
   go_wp2_with (fail)
   go_roundw
   case rel =>
    obtain⟨x2,hx2⟩:=b5.set4_at (x.andThen y) (k*4) (k*4+1) (k*4+2) (k*4+3) (.int .i64 ex.File) (.string ex.Data) (.slice fa0 ex.Queue.length fc0) (.bool ex.Done)
    rw[hx2]
    have hP:=hf.out.put (n:=n) (w2:=x2.w) (ra:=fa0) (rc:=fc0) (x:=ex) (vs:=[.int .i64 ex.File,.string ex.Data,.slice fa0 ex.Queue.length fc0,.bool ex.Done]) HLN.out h hDz (d5.same x.w) LeN.out NO.out.o0 ii HEOK.out (by rw[← hx2];infer_instance) rfl
    exact⟨k+1,by go_num,by omega,_,_,_,x2,by simpa using hDz,hP,by rw[List.map_append];exact HXN.out,rfl⟩
   case measure=>simp[intOf];omega
  ·go_wp2_with (fail)
   go_ret
   obtain rfl:k=n:=by omega
   have hXL:=hX.out
   rw[List.take_of_length_le (by have:=HN.out;omega)]at hXL
   exact⟨_,k,_,rows,by rw[HN.out];rfl,hXL,as3.done x hf.out ((show(rows.map (fun q=>q.x)).length=rows.length by simp).symm.trans ((congrArg List.length hXL).trans HN.out)) hm hDz nl,⟨x.w,d5.out⟩,rfl⟩
theorem bm8{B:Nat}{vs:List Value}{m:f5}{w:World}(h:Enc.Rd B w vs m)(ht:Enc.tot m≤100000000) :
  Calls Tryz.prog 17 #[.agg vs.toArray] w (b4 w (.bool (j9 m))):=by
 obtain⟨A,hvs,F⟩:=h
 have M:=lH (aH8 ht)
 have FH:=lH F
 clear F ht
 obtain⟨n0,hn0⟩:∃ n,m.Plan.length=n:=⟨_,rfl⟩
 obtain⟨n20,hn20⟩:∃ n,m.Offered.length=n:=⟨_,rfl⟩
 obtain⟨n21,hn21⟩:∃ n,m.Took.length=n:=⟨_,rfl⟩
 rw[hn0,hn20,hn21]at hvs
 have hm0:n0≤100000000:=hn0▸M.out.m0
 have hm20:n20≤100000000:=hn20▸M.out.m20
 have hm21:n21≤100000000:=hn21▸M.out.m21
 have HN0:=lH hn0;have HN20:=lH hn20;have HN21:=lH hn21
 clear hn0 hn20 hn21
 have HB:=lH (i9.new w vs 90 w.heap.size rfl)
 have e0:=HB.out.cellG 0 (.int .i64 m.Time) (by rw[hvs];rfl)
 have e1:=HB.out.cellG 1 (.int .i64 m.Light) (by rw[hvs];rfl)
 have e7:=HB.out.cellG 7 (.slice A.a0 n0 A.c0) (by rw[hvs];rfl)
 have e14:=HB.out.cellG 14 (.slice A.a1 m.Ups.length A.c1) (by rw[hvs];rfl)
 have e15:=HB.out.cellG 15 (.slice A.a2 m.Downs.length A.c2) (by rw[hvs];rfl)
 have e58:=HB.out.cellG 58 (.slice A.a20 n20 A.c20) (by rw[hvs];rfl)
 have e59:=HB.out.cellG 59 (.slice A.a21 n21 A.c21) (by rw[hvs];rfl)
 have e60:=HB.out.cellG 60 (.int .i64 m.Bad) (by rw[hvs];rfl)
 have HVS:=lH hvs;clear hvs
 go_enter Tryz.func17,Tryz.ntmps17
 dsimp only[List.append]
 go_wp2_with (fail)
 refine gm (d8) ?_
 intro y1
 cases g1:inB m.Time 0 1000000
 ·have HF:=lH (show j9 m=false from aG8 g1)
  clear g1
  go_wp2_with (fail)
  go_ret
  exact b4.mk (by rw[HF.out];rfl)
 have T1:=lH g1;clear g1
 go_wp2_with (fail)
 refine gm (d8) ?_
 intro y2
 cases g2:inB m.Light 0 50
 ·have HF:=lH (show j9 m=false from aG9 g2)
  clear g2
  go_wp2_with (fail)
  go_ret
  exact b4.mk (by rw[HF.out];rfl)
 have T2:=lH g2;clear g2
 go_wp2_with (fail)
 refine gm (d8) ?_
 intro y3
 cases g3:inB m.Bad 0 1000000
 ·have HF:=lH (show j9 m=false from aH0 g3)
  clear g3
  go_wp2_with (fail)
  go_ret
  exact b4.mk (by rw[HF.out];rfl)
 have T3:=lH g3;clear g3
 go_wp2_with (first|(refine X1 kg _ _ rfl w.heap.size 2 rfl (row:=[.int .i64 m.Drift.Rate,.int .i64 m.Drift.Offset]) (HB.out.to ii) _ Tryz.underlying62 rfl kr (by rw[HVS.out];kernel_rfl) ?_)|(refine step_loadw kg _ _ rfl w.heap.size 2 rfl (row:=[.int .i64 m.Drift.Rate,.int .i64 m.Drift.Offset]) (HB.out.to ii) _ Tryz.underlying62 rfl kr (by rw[HVS.out];kernel_rfl) ?_)|(refine step_loadp _ _ rfl w.heap.size 2 rfl (row:=[.int .i64 m.Drift.Rate,.int .i64 m.Drift.Offset]) (HB.out.to ii) _ Tryz.underlying62 rfl kr (by rw[HVS.out];kernel_rfl) ?_))
 refine gm (bD7 (x:=m.Drift)) ?_
 intro y4
 cases g4:as5 m.Drift
 ·have HF:=lH (show j9 m=false from aH1 g4)
  clear g4
  go_wp2_with (fail)
  go_ret
  exact b4.mk (by rw[HF.out];rfl)
 have T4:=lH g4;clear g4
 go_wp2_with (first|(refine X1 kg _ _ rfl w.heap.size 4 rfl (row:=[.int .i64 m.Orbit.Period,.int .i64 m.Orbit.Start,.int .i64 m.Orbit.Length]) (HB.out.to ii) _ Tryz.underlying63 rfl kr (by rw[HVS.out];kernel_rfl) ?_)|(refine step_loadw kg _ _ rfl w.heap.size 4 rfl (row:=[.int .i64 m.Orbit.Period,.int .i64 m.Orbit.Start,.int .i64 m.Orbit.Length]) (HB.out.to ii) _ Tryz.underlying63 rfl kr (by rw[HVS.out];kernel_rfl) ?_)|(refine step_loadp _ _ rfl w.heap.size 4 rfl (row:=[.int .i64 m.Orbit.Period,.int .i64 m.Orbit.Start,.int .i64 m.Orbit.Length]) (HB.out.to ii) _ Tryz.underlying63 rfl kr (by rw[HVS.out];kernel_rfl) ?_))
 refine gm (bD8 (x:=m.Orbit)) ?_
 intro y5
 cases g5:au0 m.Orbit
 ·have HF:=lH (show j9 m=false from aH2 g5)
  clear g5
  go_wp2_with (fail)
  go_ret
  exact b4.mk (by rw[HF.out];rfl)
 have T5:=lH g5;clear g5
 go_wp2_with (first|(refine X1 kg _ _ rfl w.heap.size 8 rfl (row:=[.int .i64 m.Up.Seed,.int .i64 m.Up.Burst,.int .i64 m.Up.Loss]) (HB.out.to ii) _ aQ7 rfl kr (by rw[HVS.out];kernel_rfl) ?_)|(refine step_loadw kg _ _ rfl w.heap.size 8 rfl (row:=[.int .i64 m.Up.Seed,.int .i64 m.Up.Burst,.int .i64 m.Up.Loss]) (HB.out.to ii) _ aQ7 rfl kr (by rw[HVS.out];kernel_rfl) ?_)|(refine step_loadp _ _ rfl w.heap.size 8 rfl (row:=[.int .i64 m.Up.Seed,.int .i64 m.Up.Burst,.int .i64 m.Up.Loss]) (HB.out.to ii) _ aQ7 rfl kr (by rw[HVS.out];kernel_rfl) ?_))
 refine gm (aM9 (x:=m.Up)) ?_
 intro y6
 cases g6:J2 m.Up
 ·have HF:=lH (show j9 m=false from aH3 g6)
  clear g6
  go_wp2_with (fail)
  go_ret
  exact b4.mk (by rw[HF.out];rfl)
 have T6:=lH g6;clear g6
 go_wp2_with (first|(refine X1 kg _ _ rfl w.heap.size 11 rfl (row:=[.int .i64 m.Down.Seed,.int .i64 m.Down.Burst,.int .i64 m.Down.Loss]) (HB.out.to ii) _ aQ7 rfl kr (by rw[HVS.out];kernel_rfl) ?_)|(refine step_loadw kg _ _ rfl w.heap.size 11 rfl (row:=[.int .i64 m.Down.Seed,.int .i64 m.Down.Burst,.int .i64 m.Down.Loss]) (HB.out.to ii) _ aQ7 rfl kr (by rw[HVS.out];kernel_rfl) ?_)|(refine step_loadp _ _ rfl w.heap.size 11 rfl (row:=[.int .i64 m.Down.Seed,.int .i64 m.Down.Burst,.int .i64 m.Down.Loss]) (HB.out.to ii) _ aQ7 rfl kr (by rw[HVS.out];kernel_rfl) ?_))
 refine gm (aM9 (x:=m.Down)) ?_
 intro y7
 cases g7:J2 m.Down
 ·have HF:=lH (show j9 m=false from aH4 g7)
  clear g7
  go_wp2_with (fail)
  go_ret
  exact b4.mk (by rw[HF.out];rfl)
 have T7:=lH g7;clear g7
 by_cases h8:n0≤1500
 rotate_left
 ·have k8:decide (1500<(n0:Int))=true:=by simp;omega
  have k8b:decide ((n0:Int)≤1500)=false:=by simp;omega
  have HF:=lH (show j9 m=false from aH5 (by rw[HN0.out];exact k8b))
  clear h8
  go_wp2_with (fail)
  go_ret
  exact b4.mk (by rw[HF.out];rfl)
 have k8:decide (1500<(n0:Int))=false:=by simp;omega
 have k8b:decide ((n0:Int)≤1500)=true:=by simp;omega
 have T8:=lH (show decide ((m.Plan.length:Int)≤1500)=true by rw[HN0.out];exact k8b)
 clear h8
 go_wp2_with (fail)
 refine gm (aG6 (l:=m.Ups) FH.out.q1 rfl M.out.m1) ?_
 intro y9
 cases g9:Q8 m.Ups
 ·have HF:=lH (show j9 m=false from aH6 g9)
  clear g9
  go_wp2_with (fail)
  go_ret
  exact b4.mk (by rw[HF.out];rfl)
 have T9:=lH g9;clear g9
 go_wp2_with (fail)
 refine gm (aG6 (l:=m.Downs) FH.out.q2 rfl M.out.m2) ?_
 intro y10
 cases g10:Q8 m.Downs
 ·have HF:=lH (show j9 m=false from aC4 g10)
  clear g10
  go_wp2_with (fail)
  go_ret
  exact b4.mk (by rw[HF.out];rfl)
 have T10:=lH g10;clear g10
 go_wp2_with (first|(refine X1 kg _ _ rfl w.heap.size 16 rfl (row:=(X0 m.Ground A.a3 A.c3 A.a4 A.c4 A.a5 A.c5 A.a6 A.c6 A.a7 A.c7 A.a8 A.c8)) (HB.out.to ii) _ Tryz.underlying76 rfl kr (by rw[HVS.out];kernel_rfl) ?_)|(refine step_loadw kg _ _ rfl w.heap.size 16 rfl (row:=(X0 m.Ground A.a3 A.c3 A.a4 A.c4 A.a5 A.c5 A.a6 A.c6 A.a7 A.c7 A.a8 A.c8)) (HB.out.to ii) _ Tryz.underlying76 rfl kr (by rw[HVS.out];kernel_rfl) ?_)|(refine step_loadp _ _ rfl w.heap.size 16 rfl (row:=(X0 m.Ground A.a3 A.c3 A.a4 A.c4 A.a5 A.c5 A.a6 A.c6 A.a7 A.c7 A.a8 A.c8)) (HB.out.to ii) _ Tryz.underlying76 rfl kr (by rw[HVS.out];kernel_rfl) ?_))
 refine gm (bw6 (bd:=m.Ground) FH.out.q3 FH.out.q4 FH.out.q5 FH.out.q6 FH.out.q7 FH.out.q8 FH.out.ok.2.2.2.2.2.2.1 rfl rfl rfl rfl rfl rfl M.out.m3 M.out.m4 M.out.m5 M.out.m6 M.out.m7 M.out.m8 M.out.hxf) ?_
 intro y11
 cases g11:B5 m.Ground
 ·have HF:=lH (show j9 m=false from aC5 g11)
  clear g11
  go_wp2_with (fail)
  go_ret
  exact b4.mk (by rw[HF.out];rfl)
 have T11:=lH g11;clear g11
 go_wp2_with (first|(refine X1 kg _ _ rfl w.heap.size 33 rfl (row:=(ad9 m.Space A.a9 A.c9 A.a10 A.c10 A.a11 A.c11 A.a12 A.c12 A.a13 A.c13 A.a14 A.c14 A.a15 A.c15 A.a16 A.c16 A.a17 A.c17 A.a18 A.c18 A.a19 A.c19)) (HB.out.to ii) _ Tryz.underlying88 rfl kr (by rw[HVS.out];kernel_rfl) ?_)|(refine step_loadw kg _ _ rfl w.heap.size 33 rfl (row:=(ad9 m.Space A.a9 A.c9 A.a10 A.c10 A.a11 A.c11 A.a12 A.c12 A.a13 A.c13 A.a14 A.c14 A.a15 A.c15 A.a16 A.c16 A.a17 A.c17 A.a18 A.c18 A.a19 A.c19)) (HB.out.to ii) _ Tryz.underlying88 rfl kr (by rw[HVS.out];kernel_rfl) ?_)|(refine step_loadp _ _ rfl w.heap.size 33 rfl (row:=(ad9 m.Space A.a9 A.c9 A.a10 A.c10 A.a11 A.c11 A.a12 A.c12 A.a13 A.c13 A.a14 A.c14 A.a15 A.c15 A.a16 A.c16 A.a17 A.c17 A.a18 A.c18 A.a19 A.c19)) (HB.out.to ii) _ Tryz.underlying88 rfl kr (by rw[HVS.out];kernel_rfl) ?_))
 refine gm (bD9 (bd:=m.Space) FH.out.q9 FH.out.q10 FH.out.q11 FH.out.q12 FH.out.q13 FH.out.q14 FH.out.q15 FH.out.q16 FH.out.q17 FH.out.q18 FH.out.q19 FH.out.ok.2.2.2.2.2.2.2.1 rfl rfl rfl rfl rfl rfl rfl rfl rfl rfl rfl M.out.m9 M.out.m10 M.out.m11 M.out.m12 M.out.m13 M.out.m14 M.out.m15 M.out.m16 M.out.m17 M.out.m18 M.out.m19 M.out.hzr M.out.hxo M.out.hxs) ?_
 intro y12
 cases g12:D7 m.Space
 ·have HF:=lH (show j9 m=false from aC6 g12)
  clear g12
  go_wp2_with (fail)
  go_ret
  exact b4.mk (by rw[HF.out];rfl)
 have T12:=lH g12;clear g12
 by_cases h13:n20≤5000
 rotate_left
 ·have k13:decide (5000<(n20:Int))=true:=by simp;omega
  have k13b:decide ((n20:Int)≤5000)=false:=by simp;omega
  have HF:=lH (show j9 m=false from aC7 (by rw[HN20.out];exact k13b))
  clear h13
  go_wp2_with (fail)
  go_ret
  exact b4.mk (by rw[HF.out];rfl)
 have k13:decide (5000<(n20:Int))=false:=by simp;omega
 have k13b:decide ((n20:Int)≤5000)=true:=by simp;omega
 have T13:=lH (show decide ((m.Offered.length:Int)≤5000)=true by rw[HN20.out];exact k13b)
 clear h13
 by_cases h14:n21≤5000
 rotate_left
 ·have k14:decide (5000<(n21:Int))=true:=by simp;omega
  have k14b:decide ((n21:Int)≤5000)=false:=by simp;omega
  have HF:=lH (show j9 m=false from aC8 (by rw[HN21.out];exact k14b))
  clear h14
  go_wp2_with (fail)
  go_ret
  exact b4.mk (by rw[HF.out];rfl)
 have k14:decide (5000<(n21:Int))=false:=by simp;omega
 have k14b:decide ((n21:Int)≤5000)=true:=by simp;omega
 have T14:=lH (show decide ((m.Took.length:Int)≤5000)=true by rw[HN21.out];exact k14b)
 clear h14
 go_wp2_with (fail)
 go_ret
 exact b4.mk (by rw[aH7 T1.out T2.out T3.out T4.out T5.out T6.out T7.out T8.out T9.out T10.out T11.out T12.out T13.out T14.out];rfl)
theorem bV5{r o:Int}(h:au8 r o=true):aE1 r o 0=o:=by
 rw[aE1,h];simp[inB]
theorem F6{P:Program}{w:World}{fn:Func}{p t q q2:Nat}(hf:fn.results=#[.cell p t,.tmp q,.tmp q2]){tmps:Array Value}{b:Nat}(hp:tmps.getD p undef=.pointer (some ⟨b,0,none⟩)){cs:List Value}{T:TypeId}(H:i9 w b cs T)
  (d:TypeDesc) (hu:P.underlying t=some d) (hd:d.isRow=true) (hi:(P.info? t).map (·.size)=some cs.length) {u v:Value} (hq:tmps.getD q undef=u) (hv:tmps.getD q2 undef=v):(results fn tmps).run P w=.ok (.tuple #[.agg cs.toArray,u,v]) w:=by
 have:=run_loadVar_mid w b 0 t cs d (H.range (o:=0) (n:=cs.length) (by simp)) hu hd hi
 have hp2:tmps[p]?.getD undef=.pointer (some ⟨b,0,none⟩):=by rw[← hp];simp[Array.getD_eq_getD_getElem?]
 have hq2:tmps[q]?.getD undef=u:=by rw[← hq];simp[Array.getD_eq_getD_getElem?]
 have hv2:tmps[q2]?.getD undef=v:=by rw[← hv];simp[Array.getD_eq_getD_getElem?]
 simp[results,hf,hp2,hq2,hv2,asAddr,this]
def bV0(q:M4 × ByteArray × Bool):Value:=.tuple #[.agg #[.int .i64 q.1.Expect,.bool q.1.Locked,.bool q.1.Again,.int .i64 q.1.Taken],.string q.2.1,.bool q.2.2]
theorem aY9{r:M4}{s:ByteArray}{w:World}(hm:s.size≤100000000):Calls Tryz.prog 38 #[.agg #[.int .i64 r.Expect,.bool r.Locked,.bool r.Again,.int .i64 r.Taken],.string s] w (b4 w (bV0 (F9 r s))):=by
 obtain⟨e,lk,ag,tk⟩:=r
 have HB:=lH ((i9.new w [.int .i64 e,.bool lk,.bool ag,.int .i64 tk] 77 w.heap.size rfl).to (ii:d5 _ ((w.alloc (.cells #[.int .i64 e,.bool lk,.bool ag,.int .i64 tk] 77)).alloc (.cells #[.int .i64 0,.bool false,.bool false,.int .i64 0] 77))))
 have HR:=lH (i9.new (w.alloc (.cells #[.int .i64 e,.bool lk,.bool ag,.int .i64 tk] 77)) [.int .i64 0,.bool false,.bool false,.int .i64 0] 77 (w.heap.size+1) (by simp))
 have gW:d5 w ((w.alloc (.cells #[.int .i64 e,.bool lk,.bool ag,.int .i64 tk] 77)).alloc (.cells #[.int .i64 0,.bool false,.bool false,.int .i64 0] 77)):=inferInstance
 go_enter Tryz.func38,Tryz.ntmps38
 go_upto_region 1 with(fail)
 generalize ((w.alloc (.cells #[.int .i64 e,.bool lk,.bool ag,.int .i64 tk] 77)).alloc (.cells #[.int .i64 0,.bool false,.bool false,.int .i64 0] 77))=W2 at HB HR gW ⊢
 have HDC:=lH (fun(W:World)=>aw0 (s:=s) (w:=W) hm)
 cases hd:N8 s with
 | none =>
  have HV:=lH (show F9 ⟨e,lk,ag,tk⟩ s=(⟨e,lk,ag,tk⟩,⟨#[]⟩,false)by rw[F9,hd])
  rw[hd]at HDC
  have HDC:=lH (show ∀ W,Calls Tryz.prog 36 #[.string s] W (b4 W (.tuple #[.int .i64 0,.int .i64 0,.string ⟨#[]⟩,.bool false]))from HDC.out)
  clear hd
  cases c0:A9 ⟨e,lk,ag,tk⟩
  ·go_wp2_with (first|(go_at_call 114;refine gm (d6) ?_;intro x)|(go_at_call 36;refine gm (HDC.out _) ?_;intro y1)|(go_at_call 124;refine gm (M0 (x:=⟨e,lk,ag,tk⟩)) ?_;intro y2)|(refine f7 rfl _ _ rfl (w.heap.size) 0 kr (row:=[.int .i64 e,.bool lk,.bool ag,.int .i64 tk]) (HB.out.to ii) _ ad5 rfl kr kr ?_)|(refine v8 rfl _ (.tmp 4) (.tmp 26) rfl (w.heap.size+1) 0 kr (us:=[.int .i64 e,.bool lk,.bool ag,.int .i64 tk]) (cs2:=[.int .i64 e,.bool lk,.bool ag,.int .i64 tk]) (HR.out.to ii) rfl kr rfl (by simp) rfl (w0:=w) ii (Nat.le_succ _) ?_;intro z9 hx9 kx9;have HX9:=lH hx9;clear hx9;have KX9:=lH kx9;clear kx9))
   refine bodyPost_ret (v:=.tuple #[.agg #[.int .i64 e,.bool lk,.bool ag,.int .i64 tk],.string ⟨#[]⟩,.bool false]) (F6 (P:=Tryz.prog) (u:=.string ⟨#[]⟩) (v:=.bool false) rfl rfl HX9.out _ ad5 rfl kr rfl rfl) rfl ⟨by rw[HV.out];rfl,b5.of⟩
  ·go_wp2_with (first|(go_at_call 114;refine gm (d6) ?_;intro x)|(go_at_call 36;refine gm (HDC.out _) ?_;intro y1)|(go_at_call 124;refine gm (M0 (x:=⟨e,lk,ag,tk⟩)) ?_;intro y2)|(refine f7 rfl _ _ rfl (w.heap.size) 0 kr (row:=[.int .i64 e,.bool lk,.bool ag,.int .i64 tk]) (HB.out.to ii) _ ad5 rfl kr kr ?_)|(refine v8 rfl _ (.tmp 4) (.tmp 26) rfl (w.heap.size+1) 0 kr (us:=[.int .i64 e,.bool lk,.bool ag,.int .i64 tk]) (cs2:=[.int .i64 e,.bool lk,.bool ag,.int .i64 tk]) (HR.out.to ii) rfl kr rfl (by simp) rfl (w0:=w) ii (Nat.le_succ _) ?_;intro z9 hx9 kx9;have HX9:=lH hx9;clear hx9;have KX9:=lH kx9;clear kx9))
   refine bodyPost_ret (v:=.tuple #[.agg #[.int .i64 e,.bool lk,.bool ag,.int .i64 tk],.string ⟨#[]⟩,.bool false]) (F6 (P:=Tryz.prog) (u:=.string ⟨#[]⟩) (v:=.bool false) rfl rfl HX9.out _ ad5 rfl kr rfl rfl) rfl ⟨by rw[HV.out];rfl,b5.of⟩
 | some q =>
  obtain⟨k,seq,d⟩:=q
  have hq:=aB5 hd
  simp only at hq
  obtain⟨k0,k1,s0,s1,-⟩:=hq
  have HTK:=lH (show F9 ⟨e,lk,ag,tk⟩ s=if A9 ⟨e,lk,ag,tk⟩=true then(if (k == 1)=true then(⟨e,false,false,tk⟩,⟨#[]⟩,false)else if lk=true then(⟨e,lk,ag,tk⟩,⟨#[]⟩,false)else ak5 ⟨e,lk,ag,tk⟩ seq d)else(⟨e,lk,ag,tk⟩,⟨#[]⟩,false)by rw[F9,hd])
  rw[hd]at HDC
  have HDC:=lH (show ∀ W,Calls Tryz.prog 36 #[.string s] W (b4 W (.tuple #[.int .i64 k,.int .i64 seq,.string d,.bool true]))from HDC.out)
  clear hd
  cases c0:A9 ⟨e,lk,ag,tk⟩
  ·have HV:=lH (show F9 ⟨e,lk,ag,tk⟩ s=(⟨e,lk,ag,tk⟩,⟨#[]⟩,false)by rw[HTK.out,c0];rfl)
   go_wp2_with (first|(go_at_call 114;refine gm (d6) ?_;intro x)|(go_at_call 36;refine gm (HDC.out _) ?_;intro y1)|(go_at_call 124;refine gm (M0 (x:=⟨e,lk,ag,tk⟩)) ?_;intro y2)|(refine f7 rfl _ _ rfl (w.heap.size) 0 kr (row:=[.int .i64 e,.bool lk,.bool ag,.int .i64 tk]) (HB.out.to ii) _ ad5 rfl kr kr ?_)|(refine v8 rfl _ (.tmp 4) (.tmp 26) rfl (w.heap.size+1) 0 kr (us:=[.int .i64 e,.bool lk,.bool ag,.int .i64 tk]) (cs2:=[.int .i64 e,.bool lk,.bool ag,.int .i64 tk]) (HR.out.to ii) rfl kr rfl (by simp) rfl (w0:=w) ii (Nat.le_succ _) ?_;intro z9 hx9 kx9;have HX9:=lH hx9;clear hx9;have KX9:=lH kx9;clear kx9))
   refine bodyPost_ret (v:=.tuple #[.agg #[.int .i64 e,.bool lk,.bool ag,.int .i64 tk],.string ⟨#[]⟩,.bool false]) (F6 (P:=Tryz.prog) (u:=.string ⟨#[]⟩) (v:=.bool false) rfl rfl HX9.out _ ad5 rfl kr rfl rfl) rfl ⟨by rw[HV.out];rfl,b5.of⟩
  ·have hr:=c0
   simp only[A9,Bool.and_eq_true]at hr
   have he:=D6.1 hr.1;have ht:=D6.1 hr.2
   clear hr
   have he0:=he.1;have he1:=he.2;have ht0:=ht.1;have ht1:=ht.2
   clear he ht
   go_upto_region 4 with(first|(go_at_call 36;refine gm (HDC.out _) ?_;intro y1)|(refine f7 rfl _ _ rfl (w.heap.size) 0 kr (row:=[.int .i64 e,.bool lk,.bool ag,.int .i64 tk]) (HB.out.to ii) _ ad5 rfl kr kr ?_)|(go_at_call 124;refine gm (M0 (x:=⟨e,lk,ag,tk⟩)) ?_;intro y2))
   cases c1:(k == 1)
   ·have e1:=HB.out.cellG 1 _ rfl
    have e0:=HB.out.cellG 0 _ rfl
    have e3:=HB.out.cellG 3 _ rfl
    cases lk
    ·have HST:=lH (show F9 ⟨e,false,ag,tk⟩ s=ak5 ⟨e,false,ag,tk⟩ seq d by rw[HTK.out,c0,c1];rfl)
     obtain⟨n,hn⟩:∃ n,(seq - e+256) % 256=n:=⟨_,rfl⟩
     have hn0:0≤n∧n≤255:=by omega
     have HS2:=lH (show ak5 ⟨e,false,ag,tk⟩ seq d=if n=0∧tk<1000000 then(⟨(e+1) % 256,false,false,tk+1⟩,d,true)else if inB n 1 40=true then(⟨e,false,true,tk⟩,⟨#[]⟩,false)else if inB n 41 215=true then(⟨e,true,ag,tk⟩,⟨#[]⟩,false)else(⟨e,false,ag,tk⟩,⟨#[]⟩,false)by rw[ak5,hn])
     go_upto_region 11 with(fail)
     clear e1
     cases c3:(n == 0)
     ·cases c5:inB n 1 40
      ·cases c6:inB n 41 215
       ·have HV:=lH (show F9 ⟨e,false,ag,tk⟩ s=(⟨e,false,ag,tk⟩,⟨#[]⟩,false)by rw[HST.out,HS2.out,if_neg (by have h3:¬ n=0:=(by simpa using c3);omega),if_neg (by rw[c5];decide),if_neg (by rw[c6];decide)])
        go_wp2_with (first|(go_at_call 114;refine gm (d6) ?_;intro x)|(refine f7 rfl _ _ rfl (w.heap.size) 0 kr (row:=[.int .i64 e,.bool false,.bool ag,.int .i64 tk]) (HB.out.to ii) _ ad5 rfl kr kr ?_)|(refine v8 rfl _ (.tmp 4) (.tmp 66) rfl (w.heap.size+1) 0 kr (us:=[.int .i64 e,.bool false,.bool ag,.int .i64 tk]) (cs2:=[.int .i64 e,.bool false,.bool ag,.int .i64 tk]) (HR.out.to ii) rfl kr rfl (by simp) rfl (w0:=w) ii (Nat.le_succ _) ?_;intro z9 hx9 kx9;have HX9:=lH hx9;clear hx9;have KX9:=lH kx9;clear kx9))
        refine bodyPost_ret (v:=.tuple #[.agg #[.int .i64 e,.bool false,.bool ag,.int .i64 tk],.string ⟨#[]⟩,.bool false]) (F6 (P:=Tryz.prog) (u:=.string ⟨#[]⟩) (v:=.bool false) rfl rfl HX9.out _ ad5 rfl kr rfl rfl) rfl ⟨by rw[HV.out];rfl,b5.of⟩
       ·have HV:=lH (show F9 ⟨e,false,ag,tk⟩ s=(⟨e,true,ag,tk⟩,⟨#[]⟩,false)by rw[HST.out,HS2.out,if_neg (by have h3:¬ n=0:=(by simpa using c3);omega),if_neg (by rw[c5];decide),if_pos c6])
        go_upto_region 20 with(first|(go_at_call 114;refine gm (d6) ?_;intro x)|(refine v8 rfl _ (.tmp 65) _ rfl (w.heap.size) 1 kr (us:=[.bool true]) (cs2:=[.int .i64 e,.bool true,.bool ag,.int .i64 tk]) (HB.out.to ii) rfl kr rfl (by simp) rfl (w0:=w) ii nl ?_;intro z1 hx1 kx1;have HX1:=lH hx1;clear hx1;have KX1:=lH kx1;clear kx1))
        (try simp only[Act.put])
        have HR1:=lH ((HR.out.to (ii:d5 W2 _)).but KX1.out (by omega))
        clear KX1
        go_wp2_with (first|(go_at_call 114;refine gm (d6) ?_;intro x)|(refine f7 rfl _ _ rfl (w.heap.size) 0 kr (row:=[.int .i64 e,.bool true,.bool ag,.int .i64 tk]) (HX1.out.to ii) _ ad5 rfl kr kr ?_)|(refine v8 rfl _ (.tmp 4) (.tmp 66) rfl (w.heap.size+1) 0 kr (us:=[.int .i64 e,.bool true,.bool ag,.int .i64 tk]) (cs2:=[.int .i64 e,.bool true,.bool ag,.int .i64 tk]) (HR1.out.to ii) rfl kr rfl (by simp) rfl (w0:=w) ii (Nat.le_succ _) ?_;intro z9 hx9 kx9;have HX9:=lH hx9;clear hx9;have KX9:=lH kx9;clear kx9))
        refine bodyPost_ret (v:=.tuple #[.agg #[.int .i64 e,.bool true,.bool ag,.int .i64 tk],.string ⟨#[]⟩,.bool false]) (F6 (P:=Tryz.prog) (u:=.string ⟨#[]⟩) (v:=.bool false) rfl rfl HX9.out _ ad5 rfl kr rfl rfl) rfl ⟨by rw[HV.out];rfl,b5.of⟩
      ·have HV:=lH (show F9 ⟨e,false,ag,tk⟩ s=(⟨e,false,true,tk⟩,⟨#[]⟩,false)by rw[HST.out,HS2.out,if_neg (by have h3:¬ n=0:=(by simpa using c3);omega),if_pos c5])
       go_upto_region 20 with(first|(go_at_call 114;refine gm (d6) ?_;intro x)|(refine v8 rfl _ (.tmp 62) _ rfl (w.heap.size) 2 kr (us:=[.bool true]) (cs2:=[.int .i64 e,.bool false,.bool true,.int .i64 tk]) (HB.out.to ii) rfl kr rfl (by simp) rfl (w0:=w) ii nl ?_;intro z1 hx1 kx1;have HX1:=lH hx1;clear hx1;have KX1:=lH kx1;clear kx1))
       (try simp only[Act.put])
       have HR1:=lH ((HR.out.to (ii:d5 W2 _)).but KX1.out (by omega))
       clear KX1
       go_wp2_with (first|(go_at_call 114;refine gm (d6) ?_;intro x)|(refine f7 rfl _ _ rfl (w.heap.size) 0 kr (row:=[.int .i64 e,.bool false,.bool true,.int .i64 tk]) (HX1.out.to ii) _ ad5 rfl kr kr ?_)|(refine v8 rfl _ (.tmp 4) (.tmp 66) rfl (w.heap.size+1) 0 kr (us:=[.int .i64 e,.bool false,.bool true,.int .i64 tk]) (cs2:=[.int .i64 e,.bool false,.bool true,.int .i64 tk]) (HR1.out.to ii) rfl kr rfl (by simp) rfl (w0:=w) ii (Nat.le_succ _) ?_;intro z9 hx9 kx9;have HX9:=lH hx9;clear hx9;have KX9:=lH kx9;clear kx9))
       refine bodyPost_ret (v:=.tuple #[.agg #[.int .i64 e,.bool false,.bool true,.int .i64 tk],.string ⟨#[]⟩,.bool false]) (F6 (P:=Tryz.prog) (u:=.string ⟨#[]⟩) (v:=.bool false) rfl rfl HX9.out _ ad5 rfl kr rfl rfl) rfl ⟨by rw[HV.out];rfl,b5.of⟩
     ·cases c4:decide (tk<1000000)
      ·have hn00:n=0:=by simpa using c3
       have c5:inB n 1 40=false:=by rw[hn00];rfl
       have c6:inB n 41 215=false:=by rw[hn00];rfl
       have HV:=lH (show F9 ⟨e,false,ag,tk⟩ s=(⟨e,false,ag,tk⟩,⟨#[]⟩,false)by rw[HST.out,HS2.out,if_neg (by have:=of_decide_eq_false c4;omega),if_neg (by rw[c5];decide),if_neg (by rw[c6];decide)])
       go_wp2_with (first|(go_at_call 114;refine gm (d6) ?_;intro x)|(refine f7 rfl _ _ rfl (w.heap.size) 0 kr (row:=[.int .i64 e,.bool false,.bool ag,.int .i64 tk]) (HB.out.to ii) _ ad5 rfl kr kr ?_)|(refine v8 rfl _ (.tmp 4) (.tmp 66) rfl (w.heap.size+1) 0 kr (us:=[.int .i64 e,.bool false,.bool ag,.int .i64 tk]) (cs2:=[.int .i64 e,.bool false,.bool ag,.int .i64 tk]) (HR.out.to ii) rfl kr rfl (by simp) rfl (w0:=w) ii (Nat.le_succ _) ?_;intro z9 hx9 kx9;have HX9:=lH hx9;clear hx9;have KX9:=lH kx9;clear kx9))
       refine bodyPost_ret (v:=.tuple #[.agg #[.int .i64 e,.bool false,.bool ag,.int .i64 tk],.string ⟨#[]⟩,.bool false]) (F6 (P:=Tryz.prog) (u:=.string ⟨#[]⟩) (v:=.bool false) rfl rfl HX9.out _ ad5 rfl kr rfl rfl) rfl ⟨by rw[HV.out];rfl,b5.of⟩
      ·have HV:=lH (show F9 ⟨e,false,ag,tk⟩ s=(⟨(e+1) % 256,false,false,tk+1⟩,d,true)by rw[HST.out,HS2.out,if_pos ⟨by simpa using c3,of_decide_eq_true c4⟩])
       go_upto_region 13 with(first|(go_at_call 114;refine gm (d6) ?_;intro x)|(refine v8 rfl _ (.tmp 52) _ rfl (w.heap.size) 0 kr (us:=[.int .i64 ((e+1) % 256)]) (cs2:=[.int .i64 ((e+1) % 256),.bool false,.bool ag,.int .i64 tk]) (HB.out.to ii) rfl kr rfl (by simp) rfl (w0:=w) ii nl ?_;intro z1 hx1 kx1;have HX1:=lH hx1;clear hx1;have KX1:=lH kx1;clear kx1))
       (try simp only[Act.put])
       have HR1:=lH ((HR.out.to (ii:d5 W2 _)).but KX1.out (by omega))
       clear KX1
       have e5:=HX1.out.cellG 3 _ rfl
       clear e0 e3
       go_upto_region 14 with(first|(go_at_call 114;refine gm (d6) ?_;intro x)|(refine v8 rfl _ (.tmp 56) _ rfl (w.heap.size) 3 kr (us:=[.int .i64 (tk+1)]) (cs2:=[.int .i64 ((e+1) % 256),.bool false,.bool ag,.int .i64 (tk+1)]) (HX1.out.to ii) rfl kr rfl (by simp) rfl (w0:=w) ii nl ?_;intro z2 hx2 kx2;have HX2:=lH hx2;clear hx2;have KX2:=lH kx2;clear kx2))
       (try simp only[Act.put])
       have HR2:=lH ((HR1.out.to (ii:d5 z1.w _)).but KX2.out (by omega))
       clear KX2
       clear e5
       go_upto_region 15 with(first|(go_at_call 114;refine gm (d6) ?_;intro x)|(refine v8 rfl _ (.tmp 57) _ rfl (w.heap.size) 2 kr (us:=[.bool false]) (cs2:=[.int .i64 ((e+1) % 256),.bool false,.bool false,.int .i64 (tk+1)]) (HX2.out.to ii) rfl kr rfl (by simp) rfl (w0:=w) ii nl ?_;intro z3 hx3 kx3;have HX3:=lH hx3;clear hx3;have KX3:=lH kx3;clear kx3))
       (try simp only[Act.put])
       have HR3:=lH ((HR2.out.to (ii:d5 z2.w _)).but KX3.out (by omega))
       clear KX3
       go_wp2_with (first|(refine f7 rfl _ _ rfl (w.heap.size) 0 kr (row:=[.int .i64 ((e+1) % 256),.bool false,.bool false,.int .i64 (tk+1)]) (HX3.out.to ii) _ ad5 rfl kr kr ?_)|(refine v8 rfl _ (.tmp 4) (.tmp 58) rfl (w.heap.size+1) 0 kr (us:=[.int .i64 ((e+1) % 256),.bool false,.bool false,.int .i64 (tk+1)]) (cs2:=[.int .i64 ((e+1) % 256),.bool false,.bool false,.int .i64 (tk+1)]) (HR3.out.to ii) rfl kr rfl (by simp) rfl (w0:=w) ii (Nat.le_succ _) ?_;intro z9 hx9 kx9;have HX9:=lH hx9;clear hx9;have KX9:=lH kx9;clear kx9))
       refine bodyPost_ret (v:=.tuple #[.agg #[.int .i64 ((e+1) % 256),.bool false,.bool false,.int .i64 (tk+1)],.string d,.bool true]) (F6 (P:=Tryz.prog) (u:=.string d) (v:=.bool true) rfl rfl HX9.out _ ad5 rfl kr rfl rfl) rfl ⟨by rw[HV.out];rfl,b5.of⟩
    ·have HV:=lH (show F9 ⟨e,true,ag,tk⟩ s=(⟨e,true,ag,tk⟩,⟨#[]⟩,false)by rw[HTK.out,c0,c1];rfl)
     go_wp2_with (first|(go_at_call 114;refine gm (d6) ?_;intro x)|(refine f7 rfl _ _ rfl (w.heap.size) 0 kr (row:=[.int .i64 e,.bool true,.bool ag,.int .i64 tk]) (HB.out.to ii) _ ad5 rfl kr kr ?_)|(refine v8 rfl _ (.tmp 4) (.tmp 34) rfl (w.heap.size+1) 0 kr (us:=[.int .i64 e,.bool true,.bool ag,.int .i64 tk]) (cs2:=[.int .i64 e,.bool true,.bool ag,.int .i64 tk]) (HR.out.to ii) rfl kr rfl (by simp) rfl (w0:=w) ii (Nat.le_succ _) ?_;intro z9 hx9 kx9;have HX9:=lH hx9;clear hx9;have KX9:=lH kx9;clear kx9))
     refine bodyPost_ret (v:=.tuple #[.agg #[.int .i64 e,.bool true,.bool ag,.int .i64 tk],.string ⟨#[]⟩,.bool false]) (F6 (P:=Tryz.prog) (u:=.string ⟨#[]⟩) (v:=.bool false) rfl rfl HX9.out _ ad5 rfl kr rfl rfl) rfl ⟨by rw[HV.out];rfl,b5.of⟩
   ·have HV:=lH (show F9 ⟨e,lk,ag,tk⟩ s=(⟨e,false,false,tk⟩,⟨#[]⟩,false)by rw[HTK.out,c0,c1];rfl)
    go_upto_region 6 with(first|(go_at_call 114;refine gm (d6) ?_;intro x)|(refine v8 rfl _ (.tmp 29) _ rfl (w.heap.size) 1 kr (us:=[.bool false]) (cs2:=[.int .i64 e,.bool false,.bool ag,.int .i64 tk]) (HB.out.to ii) rfl kr rfl (by simp) rfl (w0:=w) ii nl ?_;intro z1 hx1 kx1;have HX1:=lH hx1;clear hx1;have KX1:=lH kx1;clear kx1))
    (try simp only[Act.put])
    have HR1:=lH ((HR.out.to (ii:d5 W2 _)).but KX1.out (by omega))
    clear KX1
    go_upto_region 7 with(first|(go_at_call 114;refine gm (d6) ?_;intro x)|(refine v8 rfl _ (.tmp 30) _ rfl (w.heap.size) 2 kr (us:=[.bool false]) (cs2:=[.int .i64 e,.bool false,.bool false,.int .i64 tk]) (HX1.out.to ii) rfl kr rfl (by simp) rfl (w0:=w) ii nl ?_;intro z2 hx2 kx2;have HX2:=lH hx2;clear hx2;have KX2:=lH kx2;clear kx2))
    (try simp only[Act.put])
    have HR2:=lH ((HR1.out.to (ii:d5 z1.w _)).but KX2.out (by omega))
    clear KX2
    go_wp2_with (first|(go_at_call 114;refine gm (d6) ?_;intro x)|(refine f7 rfl _ _ rfl (w.heap.size) 0 kr (row:=[.int .i64 e,.bool false,.bool false,.int .i64 tk]) (HX2.out.to ii) _ ad5 rfl kr kr ?_)|(refine v8 rfl _ (.tmp 4) (.tmp 31) rfl (w.heap.size+1) 0 kr (us:=[.int .i64 e,.bool false,.bool false,.int .i64 tk]) (cs2:=[.int .i64 e,.bool false,.bool false,.int .i64 tk]) (HR2.out.to ii) rfl kr rfl (by simp) rfl (w0:=w) ii (Nat.le_succ _) ?_;intro z9 hx9 kx9;have HX9:=lH hx9;clear hx9;have KX9:=lH kx9;clear kx9))
    refine bodyPost_ret (v:=.tuple #[.agg #[.int .i64 e,.bool false,.bool false,.int .i64 tk],.string ⟨#[]⟩,.bool false]) (F6 (P:=Tryz.prog) (u:=.string ⟨#[]⟩) (v:=.bool false) rfl rfl HX9.out _ ad5 rfl kr rfl rfl) rfl ⟨by rw[HV.out];rfl,b5.of⟩
