/- laws.toX of structs with slices, and of slices of files: all their slices the call's own. No condition but on sizes. -/
import Derived.Test.YtbaffippdifbpaaGreatWM17
namespace Go.Proofs.YtbaffippdifbpaaGreat
set_option linter.unusedVariables false
open Go.ChangeShapes Go.WideShapes Go.ChangeAt Go.RowKit
instance(priority:=950) LeN.setL (a:Nat){W:World}(x:Later W)(p:Addr)(v:Value)[h:LeN a x.w.heap.size]:LeN a (x.set p v).w.heap.size:=⟨by show a≤(x.w.setCell p v).heap.size;simpa using h.out⟩
def GivesON{α β:Type}[N:Nest α β][F:Flat β](w:World)(l:List α):Ending→World→Prop:=fun e w'=>∃ (a:Option Addr) (c:Nat) (χ:Nat→Col) (rows:List (NRow α)),e=.returned (.slice a l.length c)∧rows.map (·.x)=l∧OwnN w.heap.size χ 0 w' a c rows∧∃ y:Later w,w'=y.w
structure RowsN{α β:Type}[N:Nest α β][F:Flat β](B:Nat)(χ:Nat→Col)(w:World)(D:Array Value)(rows:List (NRow α)):Prop where
 cell:∀ i r,rows[i]?=some r→∀ (j:Nat) (u:Value),(encN r)[j]?=some u→D[i*N.size+j]?=some u
 each:∀ i r,rows[i]?=some r→N.good r.x∧OwnC B χ (0,i+1) w r.a r.c (N.inner r.x)
section
variable {α β:Type} [N:Nest α β] [F:Flat β] {B n:Nat} {χ χ2:Nat→Col} {w W1 W2 w2:World} {D:Array Value} {rows:List (NRow α)} {x:α} {ra:Option Addr} {rc:Nat}
theorem RowsN.nil:RowsN B χ w D ([]:List (NRow α)):=⟨fun i r h=>by simp at h,fun i r h=>by simp at h⟩
theorem RowsN.put{k:Nat}{vs:List Value}(h:RowsN B χ w D rows)(hk:rows.length=k)(hkn:k<n)(hD:D.size=n*N.size)(g:Grows w W1)(hB:B≤W1.heap.size){i0:Col}(hi:OwnC W1.heap.size χ2 i0 W2 ra rc (N.inner x))(g2:Grows W1 W2)(hgd:N.good x)(g3:Keeps B W2 w2)(hv:encN (⟨x,ra,rc⟩:NRow α)=vs) :
  RowsN B (paint W1.heap.size χ χ2 (fun _=>(0,k+1))) w2 (putAt D (k*N.size) 0 vs) (rows++[⟨x,ra,rc⟩]):=by
 subst hk;subst hv
 have hle:rows.length*N.size+N.size≤n*N.size:=by rw[← Nat.succ_mul];exact Nat.mul_le_mul_right _ hkn
 refine⟨fun i r hr j u hu=>?_,fun i r hr=>?_⟩
 ·by_cases hi2:i<rows.length
  ·rw[List.getElem?_append_left hi2]at hr
   have hj:j<N.size:=by rw[← encN_len r];exact(List.getElem?_eq_some_iff.1 hu).1
   have:(i+1)*N.size≤rows.length*N.size:=Nat.mul_le_mul_right _ hi2
   rw[Nat.succ_mul]at this
   rw[putAt_low _ _ _ _ _ (by omega)];exact h.cell i r hr j u hu
  ·have hlt:=(List.getElem?_eq_some_iff.1 hr).1
   simp at hlt
   obtain rfl:i=rows.length:=by omega
   rw[List.getElem?_append_right (Nat.le_refl _)]at hr
   simp at hr
   subst hr
   exact putAt_new _ D _ 0 (by rw[encN_len];omega) j u hu
 ·by_cases hi2:i<rows.length
  ·rw[List.getElem?_append_left hi2]at hr
   obtain⟨h1,h2⟩:=h.each i r hr
   exact⟨h1,(((h2.old g.out.size).to ⟨g.out.trans (g2.out.mono g.out.size)⟩).keep g3)⟩
  ·have hlt:=(List.getElem?_eq_some_iff.1 hr).1
   simp at hlt
   obtain rfl:i=rows.length:=by omega
   rw[List.getElem?_append_right (Nat.le_refl _)]at hr
   simp at hr
   subst hr
   exact⟨hgd,((hi.new (B:=W1.heap.size) (Nat.le_refl _)).mono hB).keep g3⟩
theorem RowsN.list(h:RowsN B χ w D rows)(hl:rows.length=n)(hD:D.size=n*N.size):D.toList=rows.flatMap encN:=by
 have hfl:(rows.flatMap (encN (α:=α))).length=n*N.size:=by rw[flatMap_length encN_len,hl]
 refine List.ext_getElem? fun j=>?_
 by_cases hj:j<n*N.size
 ·have hs:0<N.size:=by
   rcases Nat.eq_zero_or_pos N.size with h0|h0
   ·rw[h0]at hj;omega
   ·exact h0
  have hq:j / N.size<rows.length:=by rw[hl];exact Nat.div_lt_of_lt_mul (by rw[Nat.mul_comm];exact hj)
  have hx:=List.getElem?_eq_getElem hq
  have hm:j % N.size<(encN rows[j / N.size]).length:=by rw[encN_len];exact Nat.mod_lt _ hs
  have hu:=List.getElem?_eq_getElem hm
  have h3:=h.cell _ _ hx _ _ hu
  have h4:=flatMap_at encN_len rows _ _ _ _ hx hu
  have hj':j / N.size*N.size+j % N.size=j:=by rw[Nat.mul_comm];exact Nat.div_add_mod _ _
  rw[hj']at h3 h4
  rw[h4,Array.getElem?_toList,h3]
 ·rw[List.getElem?_eq_none (by rw[Array.length_toList];omega),List.getElem?_eq_none (by omega)]
theorem RowsN.done{W:World}(x:Later (W.alloc (.cells D N.ty)))(h:RowsN B χ x.w D rows)(hl:rows.length=n)(hm:n≤1048576)(hD:D.size=n*N.size)(hB:W.heap.size+1≤B):OwnN W.heap.size (paint (W.heap.size+1) (fun _=>(0,0)) χ id) 0 x.w (some ⟨W.heap.size,0,none⟩) n rows :=
 ⟨own_block encN_len hl (by omega) (Nat.le_refl _) hD (h.list hl hD) x,fun k hk=>by cases hk;rw[paint,if_pos (Nat.lt_succ_self _)],fun i r hr=>⟨(h.each i r hr).1,OwnC.mono (B:=W.heap.size+1) (OwnC.recol (OwnC.mono (h.each i r hr).2 hB) (fun k h1 _ h3=>by rw[paint,if_neg (Nat.not_lt.2 h1),h3];rfl)) (Nat.le_succ _)⟩⟩
end
theorem o_ltoPacker{B:Nat}{vs:List Value}{x:TPacker}{w:World}(h:Enc.Rd B w vs x)(ht:Enc.tot x≤1048576) :
  Calls Tryz.prog 213 #[.agg vs.toArray] w (GivesO w x):=by
 obtain⟨a0,c0,rfl,q0,hok⟩:=h
 have HT:=lH (show totL x.Starts≤1048576∧True from by
  have ht2:(x.Rest.size:Int)+totL x.Starts≤1048576:=ht
  have n0:=totL_nonneg x.Starts
  refine⟨?_,trivial⟩<;>omega)
 clear ht
 have HOK:=lH hok;clear hok
 go_enter Tryz.func213,Tryz.ntmps213
 go_wp2_with fail
 refine(o_ltoIntS (q0.keep inferInstance) (HT.out.1)).mono ?_
 rintro _ _ ⟨na0,nc0,rfl,nq0,y0,rfl⟩
 have Q0:=lH nq0;clear nq0
 go_wp2_with fail
 refine bodyPost_ret (v:=.agg #[.int .i64 x.Channel,.int .i64 x.Count,.string x.Rest,.slice na0 x.Starts.length nc0]) ?_ rfl ⟨[.int .i64 x.Channel,.int .i64 x.Count,.string x.Rest,.slice na0 x.Starts.length nc0],pick [(y0.w.heap.size,0,(fun _=>(0,0)))],rfl,⟨na0,nc0,rfl,⟨(((Q0.out.re (χ:=pick [(y0.w.heap.size,0,(fun _=>(0,0)))]) (d:=0) (fun b h1 h2=>pick_here h2)).mono (B':=w.heap.size+3) LeN.out).keep inferInstance).mono (by omega),HOK.out⟩⟩,Later.of⟩
 simp[results,Tryz.results213,go_sem]
theorem o_ltoSender{B:Nat}{vs:List Value}{x:TSender}{w:World}(h:Enc.Rd B w vs x)(ht:Enc.tot x≤1048576) :
  Calls Tryz.prog 204 #[.agg vs.toArray] w (GivesO w x):=by
 obtain⟨a0,c0,rfl,q0,hok⟩:=h
 have HT:=lH (show totL x.Waiting≤1048576∧True from by
  have ht2:totL x.Waiting≤1048576:=ht
  have n0:=totL_nonneg x.Waiting
  refine⟨?_,trivial⟩<;>omega)
 clear ht
 have HOK:=lH hok;clear hok
 go_enter Tryz.func204,Tryz.ntmps204
 go_wp2_with fail
 refine(o_ltoSentS (q0.keep inferInstance) (HT.out.1)).mono ?_
 rintro _ _ ⟨na0,nc0,rfl,nq0,y0,rfl⟩
 have Q0:=lH nq0;clear nq0
 go_wp2_with fail
 refine bodyPost_ret (v:=.agg #[.int .i64 x.Next,.int .i64 x.Window,.slice na0 x.Waiting.length nc0,.int .i64 x.Done]) ?_ rfl ⟨[.int .i64 x.Next,.int .i64 x.Window,.slice na0 x.Waiting.length nc0,.int .i64 x.Done],pick [(y0.w.heap.size,0,(fun _=>(0,0)))],rfl,⟨na0,nc0,rfl,⟨(((Q0.out.re (χ:=pick [(y0.w.heap.size,0,(fun _=>(0,0)))]) (d:=0) (fun b h1 h2=>pick_here h2)).mono (B':=w.heap.size+3) LeN.out).keep inferInstance).mono (by omega),HOK.out⟩⟩,Later.of⟩
 simp[results,Tryz.results204,go_sem]
theorem o_ltoRecorder{B:Nat}{vs:List Value}{x:TRecorder}{w:World}(h:Enc.Rd B w vs x)(ht:Enc.tot x≤1048576) :
  Calls Tryz.prog 289 #[.agg vs.toArray] w (GivesO w x):=by
 obtain⟨a0,c0,a1,c1,rfl,q0,q1,hok⟩:=h
 have HT:=lH (show totL x.Records≤1048576∧totL x.Dropped≤1048576∧True from by
  have ht2:totL x.Records+totL x.Dropped≤1048576:=ht
  have n0:=totL_nonneg x.Records
  have n1:=totL_nonneg x.Dropped
  refine⟨?_,?_,trivial⟩<;>omega)
 clear ht
 have HOK:=lH hok;clear hok
 go_enter Tryz.func289,Tryz.ntmps289
 go_wp2_with fail
 refine(o_ltoRecordS (q0.keep inferInstance) (HT.out.1)).mono ?_
 rintro _ _ ⟨na0,nc0,rfl,nq0,y0,rfl⟩
 have Q0:=lH nq0;clear nq0
 go_wp2_with fail
 refine(o_ltoIntS (q1.keep inferInstance) (HT.out.2.1)).mono ?_
 rintro _ _ ⟨na1,nc1,rfl,nq1,y1,rfl⟩
 have Q1:=lH nq1;clear nq1
 go_wp2_with fail
 refine bodyPost_ret (v:=.agg #[.int .i64 x.Room,.slice na0 x.Records.length nc0,.slice na1 x.Dropped.length nc1]) ?_ rfl ⟨[.int .i64 x.Room,.slice na0 x.Records.length nc0,.slice na1 x.Dropped.length nc1],pick [(y0.w.heap.size,0,(fun _=>(0,0))),(y1.w.heap.size,1,(fun _=>(0,0)))],rfl,⟨na0,nc0,na1,nc1,rfl,⟨(((Q0.out.re (χ:=pick [(y0.w.heap.size,0,(fun _=>(0,0))),(y1.w.heap.size,1,(fun _=>(0,0)))]) (d:=0) (fun b h1 h2=>pick_here h2)).mono (B':=w.heap.size+3) LeN.out).keep inferInstance).mono (by omega),(((Q1.out.re (χ:=pick [(y0.w.heap.size,0,(fun _=>(0,0))),(y1.w.heap.size,1,(fun _=>(0,0)))]) (d:=1) (fun b h1 h2=>(pick_skip (Nat.le_trans (LeN.out (a:=y0.w.heap.size)) h1)).trans (pick_here h2))).mono (B':=w.heap.size+3) LeN.out).keep inferInstance).mono (by omega),HOK.out⟩⟩,Later.of⟩
 simp[results,Tryz.results289,go_sem]
theorem o_ltoFileIn{B:Nat}{vs:List Value}{x:TFileIn}{w:World}(h:Enc.Rd B w vs x)(ht:Enc.tot x≤1048576) :
  Calls Tryz.prog 285 #[.agg vs.toArray] w (GivesO w x):=by
 obtain⟨a0,c0,rfl,q0,hok⟩:=h
 have HT:=lH (show totL x.Parts≤1048576∧True from by
  have ht2:totL x.Parts≤1048576:=ht
  have n0:=totL_nonneg x.Parts
  refine⟨?_,trivial⟩<;>omega)
 clear ht
 have HOK:=lH hok;clear hok
 go_enter Tryz.func285,Tryz.ntmps285
 go_wp2_with fail
 refine(o_ltoStringS (q0.keep inferInstance) (HT.out.1)).mono ?_
 rintro _ _ ⟨na0,nc0,rfl,nq0,y0,rfl⟩
 have Q0:=lH nq0;clear nq0
 go_wp2_with fail
 refine bodyPost_ret (v:=.agg #[.int .i64 x.File,.int .i64 x.Size,.int .i64 x.Check,.slice na0 x.Parts.length nc0]) ?_ rfl ⟨[.int .i64 x.File,.int .i64 x.Size,.int .i64 x.Check,.slice na0 x.Parts.length nc0],pick [(y0.w.heap.size,0,(fun _=>(0,0)))],rfl,⟨na0,nc0,rfl,⟨(((Q0.out.re (χ:=pick [(y0.w.heap.size,0,(fun _=>(0,0)))]) (d:=0) (fun b h1 h2=>pick_here h2)).mono (B':=w.heap.size+3) LeN.out).keep inferInstance).mono (by omega),HOK.out⟩⟩,Later.of⟩
 simp[results,Tryz.results285,go_sem]
theorem o_ltoFileOut{B:Nat}{vs:List Value}{x:TFileOut}{w:World}(h:Enc.Rd B w vs x)(ht:Enc.tot x≤1048576) :
  Calls Tryz.prog 290 #[.agg vs.toArray] w (GivesO w x):=by
 obtain⟨a0,c0,rfl,q0,hok⟩:=h
 have HT:=lH (show totL x.Queue≤1048576∧True from by
  have ht2:(x.Data.size:Int)+totL x.Queue≤1048576:=ht
  have n0:=totL_nonneg x.Queue
  refine⟨?_,trivial⟩<;>omega)
 clear ht
 have HOK:=lH hok;clear hok
 go_enter Tryz.func290,Tryz.ntmps290
 go_wp2_with fail
 refine(o_ltoIntS (q0.keep inferInstance) (HT.out.1)).mono ?_
 rintro _ _ ⟨na0,nc0,rfl,nq0,y0,rfl⟩
 have Q0:=lH nq0;clear nq0
 go_wp2_with fail
 refine bodyPost_ret (v:=.agg #[.int .i64 x.File,.string x.Data,.slice na0 x.Queue.length nc0,.bool x.Done]) ?_ rfl ⟨[.int .i64 x.File,.string x.Data,.slice na0 x.Queue.length nc0,.bool x.Done],pick [(y0.w.heap.size,0,(fun _=>(0,0)))],rfl,⟨na0,nc0,rfl,⟨(((Q0.out.re (χ:=pick [(y0.w.heap.size,0,(fun _=>(0,0)))]) (d:=0) (fun b h1 h2=>pick_here h2)).mono (B':=w.heap.size+3) LeN.out).keep inferInstance).mono (by omega),HOK.out⟩⟩,Later.of⟩
 simp[results,Tryz.results290,go_sem]
theorem o_ltoFileInS{B:Nat}{a:Option Addr}{c:Nat}{l:List TFileIn}{w:World}(hs:RdS B w a c l)(ht:totL l≤1048576) :
  Calls Tryz.prog 209 #[.slice a l.length c] w (GivesON w l):=by
 have hln:=totL_len l
 have HT:=lH (show ∀ x∈l,Enc.tot x≤1048576 from fun x hx=>Int.le_trans (totL_mem hx) ht)
 obtain⟨n,hn⟩:∃ n,l.length=n:=⟨_,rfl⟩
 have HN:=lH hn
 have hm:n≤1048576:=by omega
 rw[hn];clear ht hln hn
 obtain⟨C,hC,hmk⟩:=run_mk (P:=Tryz.prog) Tryz.underlying42 (e:=140) (z:=.agg #[.int .i64 0,.int .i64 0,.int .i64 0,.slice none 0 0]) (size:=4) (bytes:=48) (by kernel_rfl) n (by omega) (by omega)
 have hCz:C.size=n*4:=by rw[hC,size_madeCells]
 clear hC
 go_enter Tryz.func209,Tryz.ntmps209
 go_wp2_with fail
 clear hmk
 go_loopw [4] (fun v wr=>∃ k:Nat,v=.int .i64 k∧k≤n∧∃ (D:Array Value) (χ:Nat→Col) (rows:List (NRow TFileIn)) (x:Later (w.alloc (.cells D 140))),D.size=n*4∧Hid (RowsN (w.heap.size+1) χ x.w D rows)∧Hid (rows.map (fun q=>q.x)=l.take k)∧wr=x.w) (fun v _=>(n - intOf v).toNat)
 case atStart=>exact⟨0,rfl,by omega,C,fun _=>(0,0),[],Later.here _,hCz,RowsN.nil,rfl,rfl⟩
 case round =>
  obtain⟨k,rfl,hk,D,χ,rows,x,hDz,hf,hX,rfl⟩:=hrel
  by_cases h:k<n
  ·have hlk:k<l.length:=by have:=HN.out;omega
   obtain⟨eb,eoff,ex,ea0,ec0,rfl,ehb,ehd,eq0,eok,eh0,eh1,eh2,eh3⟩:=hs.atTFileIn (show k<l.length by omega)
   obtain⟨o0,g0⟩:=getD_lt hDz (show k*4<n*4 by omega)
   obtain⟨o1,g1⟩:=getD_lt hDz (show k*4+1<n*4 by omega)
   obtain⟨o2,g2⟩:=getD_lt hDz (show k*4+2<n*4 by omega)
   obtain⟨o3,g3⟩:=getD_lt hDz (show k*4+3<n*4 by omega)
   have hte:=HT.out ex (List.mem_of_mem_drop (by rw[ehd.out];exact List.mem_cons_self ..))
   have HEOK:=lH eok;clear eok
   go_wp2_with fail
   refine(o_ltoFileIn (x:=ex) ⟨ea0,ec0,rfl,eq0.keep inferInstance,HEOK.out⟩ hte).mono ?_
   rintro _ _ ⟨_,χ2,rfl,⟨fa0,fc0,rfl,no⟩,y,rfl⟩
   have NO:=lH no;clear no
   have HLN:=lH (show rows.length=k from by have:=congrArg List.length hX.out;simp at this;omega)
   have HXN:=lH (show(rows.map (fun q=>q.x))++[ex]=l.take (k+1)from by rw[hX.out,List.take_add_one];congr 1;have:=congrArg (fun m=>m[0]?) ehd.out;simp at this;rw[this];rfl);clear hX
   clear hte
   go_wp2_with fail
   go_roundw
   case rel =>
    obtain⟨x2,hx2⟩:=Later.set4_at (x.andThen y) (k*4) (k*4+1) (k*4+2) (k*4+3) (.int .i64 ex.File) (.int .i64 ex.Size) (.int .i64 ex.Check) (.slice fa0 ex.Parts.length fc0)
    rw[hx2]
    have hP:=hf.out.put (n:=n) (w2:=x2.w) (ra:=fa0) (rc:=fc0) (x:=ex) (vs:=[.int .i64 ex.File,.int .i64 ex.Size,.int .i64 ex.Check,.slice fa0 ex.Parts.length fc0]) HLN.out h hDz (Grows.same x.w) LeN.out NO.out.o0 inferInstance HEOK.out (by rw[← hx2];infer_instance) rfl
    exact⟨k+1,by go_num,by omega,_,_,_,x2,by simpa using hDz,hP,by rw[List.map_append];exact HXN.out,rfl⟩
   case measure=>simp[intOf];omega
  ·go_wp2_with fail
   go_ret
   obtain rfl:k=n:=by omega
   have hXL:=hX.out
   rw[List.take_of_length_le (by have:=HN.out;omega)]at hXL
   exact⟨_,k,_,rows,by rw[HN.out];rfl,hXL,RowsN.done x hf.out ((show(rows.map (fun q=>q.x)).length=rows.length by simp).symm.trans ((congrArg List.length hXL).trans HN.out)) hm hDz (Nat.le_refl _),⟨x.w,Grows.out⟩,rfl⟩
theorem o_ltoFileOutS{B:Nat}{a:Option Addr}{c:Nat}{l:List TFileOut}{w:World}(hs:RdS B w a c l)(ht:totL l≤1048576) :
  Calls Tryz.prog 214 #[.slice a l.length c] w (GivesON w l):=by
 have hln:=totL_len l
 have HT:=lH (show ∀ x∈l,Enc.tot x≤1048576 from fun x hx=>Int.le_trans (totL_mem hx) ht)
 obtain⟨n,hn⟩:∃ n,l.length=n:=⟨_,rfl⟩
 have HN:=lH hn
 have hm:n≤1048576:=by omega
 rw[hn];clear ht hln hn
 obtain⟨C,hC,hmk⟩:=run_mk (P:=Tryz.prog) Tryz.underlying58 (e:=143) (z:=.agg #[.int .i64 0,.string ByteArray.empty,.slice none 0 0,.bool false]) (size:=4) (bytes:=56) (by kernel_rfl) n (by omega) (by omega)
 have hCz:C.size=n*4:=by rw[hC,size_madeCells]
 clear hC
 go_enter Tryz.func214,Tryz.ntmps214
 go_wp2_with fail
 clear hmk
 go_loopw [4] (fun v wr=>∃ k:Nat,v=.int .i64 k∧k≤n∧∃ (D:Array Value) (χ:Nat→Col) (rows:List (NRow TFileOut)) (x:Later (w.alloc (.cells D 143))),D.size=n*4∧Hid (RowsN (w.heap.size+1) χ x.w D rows)∧Hid (rows.map (fun q=>q.x)=l.take k)∧wr=x.w) (fun v _=>(n - intOf v).toNat)
 case atStart=>exact⟨0,rfl,by omega,C,fun _=>(0,0),[],Later.here _,hCz,RowsN.nil,rfl,rfl⟩
 case round =>
  obtain⟨k,rfl,hk,D,χ,rows,x,hDz,hf,hX,rfl⟩:=hrel
  by_cases h:k<n
  ·have hlk:k<l.length:=by have:=HN.out;omega
   obtain⟨eb,eoff,ex,ea0,ec0,rfl,ehb,ehd,eq0,eok,eh0,eh1,eh2,eh3⟩:=hs.atTFileOut (show k<l.length by omega)
   obtain⟨o0,g0⟩:=getD_lt hDz (show k*4<n*4 by omega)
   obtain⟨o1,g1⟩:=getD_lt hDz (show k*4+1<n*4 by omega)
   obtain⟨o2,g2⟩:=getD_lt hDz (show k*4+2<n*4 by omega)
   obtain⟨o3,g3⟩:=getD_lt hDz (show k*4+3<n*4 by omega)
   have hte:=HT.out ex (List.mem_of_mem_drop (by rw[ehd.out];exact List.mem_cons_self ..))
   have HEOK:=lH eok;clear eok
   go_wp2_with fail
   refine(o_ltoFileOut (x:=ex) ⟨ea0,ec0,rfl,eq0.keep inferInstance,HEOK.out⟩ hte).mono ?_
   rintro _ _ ⟨_,χ2,rfl,⟨fa0,fc0,rfl,no⟩,y,rfl⟩
   have NO:=lH no;clear no
   have HLN:=lH (show rows.length=k from by have:=congrArg List.length hX.out;simp at this;omega)
   have HXN:=lH (show(rows.map (fun q=>q.x))++[ex]=l.take (k+1)from by rw[hX.out,List.take_add_one];congr 1;have:=congrArg (fun m=>m[0]?) ehd.out;simp at this;rw[this];rfl);clear hX
   clear hte
   go_wp2_with fail
   go_roundw
   case rel =>
    obtain⟨x2,hx2⟩:=Later.set4_at (x.andThen y) (k*4) (k*4+1) (k*4+2) (k*4+3) (.int .i64 ex.File) (.string ex.Data) (.slice fa0 ex.Queue.length fc0) (.bool ex.Done)
    rw[hx2]
    have hP:=hf.out.put (n:=n) (w2:=x2.w) (ra:=fa0) (rc:=fc0) (x:=ex) (vs:=[.int .i64 ex.File,.string ex.Data,.slice fa0 ex.Queue.length fc0,.bool ex.Done]) HLN.out h hDz (Grows.same x.w) LeN.out NO.out.o0 inferInstance HEOK.out (by rw[← hx2];infer_instance) rfl
    exact⟨k+1,by go_num,by omega,_,_,_,x2,by simpa using hDz,hP,by rw[List.map_append];exact HXN.out,rfl⟩
   case measure=>simp[intOf];omega
  ·go_wp2_with fail
   go_ret
   obtain rfl:k=n:=by omega
   have hXL:=hX.out
   rw[List.take_of_length_le (by have:=HN.out;omega)]at hXL
   exact⟨_,k,_,rows,by rw[HN.out];rfl,hXL,RowsN.done x hf.out ((show(rows.map (fun q=>q.x)).length=rows.length by simp).symm.trans ((congrArg List.length hXL).trans HN.out)) hm hDz (Nat.le_refl _),⟨x.w,Grows.out⟩,rfl⟩
end Go.Proofs.YtbaffippdifbpaaGreat
