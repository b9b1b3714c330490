/- laws.toX of structs with slices, and of slices of files: all their slices the call's own. No condition but on sizes. -/
import Derived.Test.YtgmikiidcpbjbaaGreatSLto1
import Derived.Test.YtgmikiidcpbjbaaGreatSOkQ
import Derived.Test.YtgmikiidcpbjbaaGreatSOkN
import Derived.Test.YtgmikiidcpbjbaaGreatSM21
namespace Go.Proofs.YtgmikiidcpbjbaaGreat
set_option linter.unusedVariables false
open Go.ChangeShapes Go.WideShapes Go.ChangeAt Go.RowKit
instance(priority:=950) LeN.setL (a:Nat){W:World}(x:Later W)(p:Addr)(v:Value)[h:LeN a x.w.heap.size]:LeN a (x.set p v).w.heap.size:=⟨by show a≤(x.w.setCell p v).heap.size;simpa using h.out⟩
def GivesON{α β:Type}[N:Nest α β][F:Flat β](w:World)(l:List α):Ending→World→Prop:=fun e w'=>∃ (a:Option Addr) (c:Nat) (χ:Nat→Col) (rows:List (NRow α)),e=.returned (.slice a l.length c)∧rows.map (·.x)=l∧OwnN w.heap.size χ 0 w' a c rows∧∃ y:Later w,w'=y.w
structure RowsN{α β:Type}[N:Nest α β][F:Flat β](B:Nat)(χ:Nat→Col)(w:World)(D:Array Value)(rows:List (NRow α)):Prop where
 cell:∀ i r,rows[i]?=some r→∀ (j:Nat) (u:Value),(encN r)[j]?=some u→D[i*N.size+j]?=some u
 each:∀ i r,rows[i]?=some r→N.good r.x∧OwnC B χ (0,i+1) w r.a r.c (N.inner r.x)
section
variable {α β:Type} [N:Nest α β] [F:Flat β] {B n:Nat} {χ χ2:Nat→Col} {w W1 W2 w2:World} {D:Array Value} {rows:List (NRow α)} {x:α} {ra:Option Addr} {rc:Nat}
theorem RowsN.nil:RowsN B χ w D ([]:List (NRow α)):=⟨fun i r h=>by simp at h,fun i r h=>by simp at h⟩
theorem RowsN.put{k:Nat}{vs:List Value}(h:RowsN B χ w D rows)(hk:rows.length=k)(hkn:k<n)(hD:D.size=n*N.size)(g:Grows w W1)(hB:B≤W1.heap.size){i0:Col}(hi:OwnC W1.heap.size χ2 i0 W2 ra rc (N.inner x))(g2:Grows W1 W2)(hgd:N.good x)(g3:Keeps B W2 w2)(hv:encN (⟨x,ra,rc⟩:NRow α)=vs) :
  RowsN B (paint W1.heap.size χ χ2 (fun _=>(0,k+1))) w2 (putAt D (k*N.size) 0 vs) (rows++[⟨x,ra,rc⟩]):=by
 subst hk;subst hv
 have hle:rows.length*N.size+N.size≤n*N.size:=by rw[← Nat.succ_mul];exact Nat.mul_le_mul_right _ hkn
 refine⟨fun i r hr j u hu=>?_,fun i r hr=>?_⟩
 ·by_cases hi2:i<rows.length
  ·rw[List.getElem?_append_left hi2]at hr
   have hj:j<N.size:=by rw[← encN_len r];exact(List.getElem?_eq_some_iff.1 hu).1
   have:(i+1)*N.size≤rows.length*N.size:=Nat.mul_le_mul_right _ hi2
   rw[Nat.succ_mul]at this
   rw[putAt_low _ _ _ _ _ (by omega)];exact h.cell i r hr j u hu
  ·have hlt:=(List.getElem?_eq_some_iff.1 hr).1
   simp at hlt
   obtain rfl:i=rows.length:=by omega
   rw[List.getElem?_append_right (Nat.le_refl _)]at hr
   simp at hr
   subst hr
   exact putAt_new _ D _ 0 (by rw[encN_len];omega) j u hu
 ·by_cases hi2:i<rows.length
  ·rw[List.getElem?_append_left hi2]at hr
   obtain⟨h1,h2⟩:=h.each i r hr
   exact⟨h1,(((h2.old g.out.size).to ⟨g.out.trans (g2.out.mono g.out.size)⟩).keep g3)⟩
  ·have hlt:=(List.getElem?_eq_some_iff.1 hr).1
   simp at hlt
   obtain rfl:i=rows.length:=by omega
   rw[List.getElem?_append_right (Nat.le_refl _)]at hr
   simp at hr
   subst hr
   exact⟨hgd,((hi.new (B:=W1.heap.size) (Nat.le_refl _)).mono hB).keep g3⟩
theorem RowsN.list(h:RowsN B χ w D rows)(hl:rows.length=n)(hD:D.size=n*N.size):D.toList=rows.flatMap encN:=by
 have hfl:(rows.flatMap (encN (α:=α))).length=n*N.size:=by rw[flatMap_length encN_len,hl]
 refine List.ext_getElem? fun j=>?_
 by_cases hj:j<n*N.size
 ·have hs:0<N.size:=by
   rcases Nat.eq_zero_or_pos N.size with h0|h0
   ·rw[h0]at hj;omega
   ·exact h0
  have hq:j / N.size<rows.length:=by rw[hl];exact Nat.div_lt_of_lt_mul (by rw[Nat.mul_comm];exact hj)
  have hx:=List.getElem?_eq_getElem hq
  have hm:j % N.size<(encN rows[j / N.size]).length:=by rw[encN_len];exact Nat.mod_lt _ hs
  have hu:=List.getElem?_eq_getElem hm
  have h3:=h.cell _ _ hx _ _ hu
  have h4:=flatMap_at encN_len rows _ _ _ _ hx hu
  have hj':j / N.size*N.size+j % N.size=j:=by rw[Nat.mul_comm];exact Nat.div_add_mod _ _
  rw[hj']at h3 h4
  rw[h4,Array.getElem?_toList,h3]
 ·rw[List.getElem?_eq_none (by rw[Array.length_toList];omega),List.getElem?_eq_none (by omega)]
theorem RowsN.done{W:World}(x:Later (W.alloc (.cells D N.ty)))(h:RowsN B χ x.w D rows)(hl:rows.length=n)(hm:n≤1048576)(hD:D.size=n*N.size)(hB:W.heap.size+1≤B):OwnN W.heap.size (paint (W.heap.size+1) (fun _=>(0,0)) χ id) 0 x.w (some ⟨W.heap.size,0,none⟩) n rows :=
 ⟨own_block encN_len hl (by omega) (Nat.le_refl _) hD (h.list hl hD) x,fun k hk=>by cases hk;rw[paint,if_pos (Nat.lt_succ_self _)],fun i r hr=>⟨(h.each i r hr).1,OwnC.mono (B:=W.heap.size+1) (OwnC.recol (OwnC.mono (h.each i r hr).2 hB) (fun k h1 _ h3=>by rw[paint,if_neg (Nat.not_lt.2 h1),h3];rfl)) (Nat.le_succ _)⟩⟩
end
theorem o_ltoPacker{B:Nat}{vs:List Value}{x:TPacker}{w:World}(h:Enc.Rd B w vs x)(ht:Enc.tot x≤1048576) :
  Calls Tryz.prog 215 #[.agg vs.toArray] w (GivesO w x):=by
 obtain⟨a0,c0,rfl,q0,hok⟩:=h
 have HT:=lH (show totL x.Starts≤1048576∧True from by
  have ht2:(x.Rest.size:Int)+totL x.Starts≤1048576:=ht
  have n0:=totL_nonneg x.Starts
  refine⟨?_,trivial⟩<;>omega)
 clear ht
 have HOK:=lH hok;clear hok
 go_enter Tryz.func215,Tryz.ntmps215
 go_wp2_with (first|((with_reducible refine wp_region_later (by kernel_rfl) (by kernel_rfl) ?_);(repeat(first|go_big_quiet_step (first|fail)));refine wpQuiet_nil ?_;rintro _ ⟨x,rfl⟩))
 refine(o_ltoIntS (q0.keep inferInstance) (HT.out.1)).mono ?_
 rintro _ _ ⟨na0,nc0,rfl,nq0,y0,rfl⟩
 have Q0:=lH nq0;clear nq0
 go_wp2_with (first|((with_reducible refine wp_region_later (by kernel_rfl) (by kernel_rfl) ?_);(repeat(first|go_big_quiet_step (first|fail)));refine wpQuiet_nil ?_;rintro _ ⟨x,rfl⟩))
 refine bodyPost_ret (v:=.agg #[.int .i64 x.Channel,.int .i64 x.Count,.string x.Rest,.slice na0 x.Starts.length nc0]) ?_ rfl ⟨[.int .i64 x.Channel,.int .i64 x.Count,.string x.Rest,.slice na0 x.Starts.length nc0],pick [(y0.w.heap.size,0,(fun _=>(0,0)))],rfl,⟨na0,nc0,rfl,⟨(((Q0.out.re (χ:=pick [(y0.w.heap.size,0,(fun _=>(0,0)))]) (d:=0) (fun b h1 h2=>pick_here h2)).mono (B':=w.heap.size+3) LeN.out).keep inferInstance).mono (by omega),HOK.out⟩⟩,Later.of⟩
 simp[results,Tryz.results215,go_sem]
theorem o_ltoSender{B:Nat}{vs:List Value}{x:TSender}{w:World}(h:Enc.Rd B w vs x)(ht:Enc.tot x≤1048576) :
  Calls Tryz.prog 206 #[.agg vs.toArray] w (GivesO w x):=by
 obtain⟨a0,c0,rfl,q0,hok⟩:=h
 have HT:=lH (show totL x.Waiting≤1048576∧True from by
  have ht2:totL x.Waiting≤1048576:=ht
  have n0:=totL_nonneg x.Waiting
  refine⟨?_,trivial⟩<;>omega)
 clear ht
 have HOK:=lH hok;clear hok
 go_enter Tryz.func206,Tryz.ntmps206
 go_wp2_with (first|((with_reducible refine wp_region_later (by kernel_rfl) (by kernel_rfl) ?_);(repeat(first|go_big_quiet_step (first|fail)));refine wpQuiet_nil ?_;rintro _ ⟨x,rfl⟩))
 refine(o_ltoSentS (q0.keep inferInstance) (HT.out.1)).mono ?_
 rintro _ _ ⟨na0,nc0,rfl,nq0,y0,rfl⟩
 have Q0:=lH nq0;clear nq0
 go_wp2_with (first|((with_reducible refine wp_region_later (by kernel_rfl) (by kernel_rfl) ?_);(repeat(first|go_big_quiet_step (first|fail)));refine wpQuiet_nil ?_;rintro _ ⟨x,rfl⟩))
 refine bodyPost_ret (v:=.agg #[.int .i64 x.Next,.int .i64 x.Window,.slice na0 x.Waiting.length nc0,.int .i64 x.Done]) ?_ rfl ⟨[.int .i64 x.Next,.int .i64 x.Window,.slice na0 x.Waiting.length nc0,.int .i64 x.Done],pick [(y0.w.heap.size,0,(fun _=>(0,0)))],rfl,⟨na0,nc0,rfl,⟨(((Q0.out.re (χ:=pick [(y0.w.heap.size,0,(fun _=>(0,0)))]) (d:=0) (fun b h1 h2=>pick_here h2)).mono (B':=w.heap.size+3) LeN.out).keep inferInstance).mono (by omega),HOK.out⟩⟩,Later.of⟩
 simp[results,Tryz.results206,go_sem]
theorem o_ltoRecorder{B:Nat}{vs:List Value}{x:TRecorder}{w:World}(h:Enc.Rd B w vs x)(ht:Enc.tot x≤1048576) :
  Calls Tryz.prog 367 #[.agg vs.toArray] w (GivesO w x):=by
 obtain⟨a0,c0,a1,c1,rfl,q0,q1,hok⟩:=h
 have HT:=lH (show totL x.Records≤1048576∧totL x.Dropped≤1048576∧True from by
  have ht2:totL x.Records+totL x.Dropped≤1048576:=ht
  have n0:=totL_nonneg x.Records
  have n1:=totL_nonneg x.Dropped
  refine⟨?_,?_,trivial⟩<;>omega)
 clear ht
 have HOK:=lH hok;clear hok
 go_enter Tryz.func367,Tryz.ntmps367
 go_wp2_with (first|((with_reducible refine wp_region_later (by kernel_rfl) (by kernel_rfl) ?_);(repeat(first|go_big_quiet_step (first|fail)));refine wpQuiet_nil ?_;rintro _ ⟨x,rfl⟩))
 refine(o_ltoRecordS (q0.keep inferInstance) (HT.out.1)).mono ?_
 rintro _ _ ⟨na0,nc0,rfl,nq0,y0,rfl⟩
 have Q0:=lH nq0;clear nq0
 go_wp2_with (first|((with_reducible refine wp_region_later (by kernel_rfl) (by kernel_rfl) ?_);(repeat(first|go_big_quiet_step (first|fail)));refine wpQuiet_nil ?_;rintro _ ⟨x,rfl⟩))
 refine(o_ltoIntS (q1.keep inferInstance) (HT.out.2.1)).mono ?_
 rintro _ _ ⟨na1,nc1,rfl,nq1,y1,rfl⟩
 have Q1:=lH nq1;clear nq1
 go_wp2_with (first|((with_reducible refine wp_region_later (by kernel_rfl) (by kernel_rfl) ?_);(repeat(first|go_big_quiet_step (first|fail)));refine wpQuiet_nil ?_;rintro _ ⟨x,rfl⟩))
 refine bodyPost_ret (v:=.agg #[.int .i64 x.Room,.slice na0 x.Records.length nc0,.slice na1 x.Dropped.length nc1]) ?_ rfl ⟨[.int .i64 x.Room,.slice na0 x.Records.length nc0,.slice na1 x.Dropped.length nc1],pick [(y0.w.heap.size,0,(fun _=>(0,0))),(y1.w.heap.size,1,(fun _=>(0,0)))],rfl,⟨na0,nc0,na1,nc1,rfl,⟨(((Q0.out.re (χ:=pick [(y0.w.heap.size,0,(fun _=>(0,0))),(y1.w.heap.size,1,(fun _=>(0,0)))]) (d:=0) (fun b h1 h2=>pick_here h2)).mono (B':=w.heap.size+3) LeN.out).keep inferInstance).mono (by omega),(((Q1.out.re (χ:=pick [(y0.w.heap.size,0,(fun _=>(0,0))),(y1.w.heap.size,1,(fun _=>(0,0)))]) (d:=1) (fun b h1 h2=>(pick_skip (Nat.le_trans (LeN.out (a:=y0.w.heap.size)) h1)).trans (pick_here h2))).mono (B':=w.heap.size+3) LeN.out).keep inferInstance).mono (by omega),HOK.out⟩⟩,Later.of⟩
 simp[results,Tryz.results367,go_sem]
theorem o_ltoFileIn{B:Nat}{vs:List Value}{x:TFileIn}{w:World}(h:Enc.Rd B w vs x)(ht:Enc.tot x≤1048576) :
  Calls Tryz.prog 362 #[.agg vs.toArray] w (GivesO w x):=by
 obtain⟨a0,c0,rfl,q0,hok⟩:=h
 have HT:=lH (show totL x.Parts≤1048576∧True from by
  have ht2:totL x.Parts≤1048576:=ht
  have n0:=totL_nonneg x.Parts
  refine⟨?_,trivial⟩<;>omega)
 clear ht
 have HOK:=lH hok;clear hok
 go_enter Tryz.func362,Tryz.ntmps362
 go_wp2_with (first|((with_reducible refine wp_region_later (by kernel_rfl) (by kernel_rfl) ?_);(repeat(first|go_big_quiet_step (first|fail)));refine wpQuiet_nil ?_;rintro _ ⟨x,rfl⟩))
 refine(o_ltoStringS (q0.keep inferInstance) (HT.out.1)).mono ?_
 rintro _ _ ⟨na0,nc0,rfl,nq0,y0,rfl⟩
 have Q0:=lH nq0;clear nq0
 go_wp2_with (first|((with_reducible refine wp_region_later (by kernel_rfl) (by kernel_rfl) ?_);(repeat(first|go_big_quiet_step (first|fail)));refine wpQuiet_nil ?_;rintro _ ⟨x,rfl⟩))
 refine bodyPost_ret (v:=.agg #[.int .i64 x.File,.int .i64 x.Size,.int .i64 x.Check,.slice na0 x.Parts.length nc0]) ?_ rfl ⟨[.int .i64 x.File,.int .i64 x.Size,.int .i64 x.Check,.slice na0 x.Parts.length nc0],pick [(y0.w.heap.size,0,(fun _=>(0,0)))],rfl,⟨na0,nc0,rfl,⟨(((Q0.out.re (χ:=pick [(y0.w.heap.size,0,(fun _=>(0,0)))]) (d:=0) (fun b h1 h2=>pick_here h2)).mono (B':=w.heap.size+3) LeN.out).keep inferInstance).mono (by omega),HOK.out⟩⟩,Later.of⟩
 simp[results,Tryz.results362,go_sem]
theorem o_ltoFileOut{B:Nat}{vs:List Value}{x:TFileOut}{w:World}(h:Enc.Rd B w vs x)(ht:Enc.tot x≤1048576) :
  Calls Tryz.prog 368 #[.agg vs.toArray] w (GivesO w x):=by
 obtain⟨a0,c0,rfl,q0,hok⟩:=h
 have HT:=lH (show totL x.Queue≤1048576∧True from by
  have ht2:(x.Data.size:Int)+totL x.Queue≤1048576:=ht
  have n0:=totL_nonneg x.Queue
  refine⟨?_,trivial⟩<;>omega)
 clear ht
 have HOK:=lH hok;clear hok
 go_enter Tryz.func368,Tryz.ntmps368
 go_wp2_with (first|((with_reducible refine wp_region_later (by kernel_rfl) (by kernel_rfl) ?_);(repeat(first|go_big_quiet_step (first|fail)));refine wpQuiet_nil ?_;rintro _ ⟨x,rfl⟩))
 refine(o_ltoIntS (q0.keep inferInstance) (HT.out.1)).mono ?_
 rintro _ _ ⟨na0,nc0,rfl,nq0,y0,rfl⟩
 have Q0:=lH nq0;clear nq0
 go_wp2_with (first|((with_reducible refine wp_region_later (by kernel_rfl) (by kernel_rfl) ?_);(repeat(first|go_big_quiet_step (first|fail)));refine wpQuiet_nil ?_;rintro _ ⟨x,rfl⟩))
 refine bodyPost_ret (v:=.agg #[.int .i64 x.File,.string x.Data,.slice na0 x.Queue.length nc0,.bool x.Done]) ?_ rfl ⟨[.int .i64 x.File,.string x.Data,.slice na0 x.Queue.length nc0,.bool x.Done],pick [(y0.w.heap.size,0,(fun _=>(0,0)))],rfl,⟨na0,nc0,rfl,⟨(((Q0.out.re (χ:=pick [(y0.w.heap.size,0,(fun _=>(0,0)))]) (d:=0) (fun b h1 h2=>pick_here h2)).mono (B':=w.heap.size+3) LeN.out).keep inferInstance).mono (by omega),HOK.out⟩⟩,Later.of⟩
 simp[results,Tryz.results368,go_sem]
theorem o_ltoFileInS{B:Nat}{a:Option Addr}{c:Nat}{l:List TFileIn}{w:World}(hs:RdS B w a c l)(ht:totL l≤1048576) :
  Calls Tryz.prog 211 #[.slice a l.length c] w (GivesON w l):=by
 have hln:=totL_len l
 have HT:=lH (show ∀ x∈l,Enc.tot x≤1048576 from fun x hx=>Int.le_trans (totL_mem hx) ht)
 obtain⟨n,hn⟩:∃ n,l.length=n:=⟨_,rfl⟩
 have HN:=lH hn
 have hm:n≤1048576:=by omega
 rw[hn];clear ht hln hn
 obtain⟨C,hC,hmk⟩:=run_mk (P:=Tryz.prog) Tryz.underlying74 (e:=126) (z:=.agg #[.int .i64 0,.int .i64 0,.int .i64 0,.slice none 0 0]) (size:=4) (bytes:=48) (by kernel_rfl) n (by omega) (by omega)
 have hCz:C.size=n*4:=by rw[hC,size_madeCells]
 clear hC
 go_enter Tryz.func211,Tryz.ntmps211
 go_wp2_with (first|((with_reducible refine wp_region_later (by kernel_rfl) (by kernel_rfl) ?_);(repeat(first|go_big_quiet_step (first|fail)));refine wpQuiet_nil ?_;rintro _ ⟨x,rfl⟩))
 clear hmk
 go_loopw [4] (fun v wr=>∃ k:Nat,v=.int .i64 k∧k≤n∧∃ (D:Array Value) (χ:Nat→Col) (rows:List (NRow TFileIn)) (x:Later (w.alloc (.cells D 126))),D.size=n*4∧Hid (RowsN (w.heap.size+1) χ x.w D rows)∧Hid (rows.map (fun q=>q.x)=l.take k)∧wr=x.w) (fun v _=>(n - intOf v).toNat)
 case atStart=>exact⟨0,rfl,by omega,C,fun _=>(0,0),[],Later.here _,hCz,RowsN.nil,rfl,rfl⟩
 case round =>
  obtain⟨k,rfl,hk,D,χ,rows,x,hDz,hf,hX,rfl⟩:=hrel
  by_cases h:k<n
  ·have hlk:k<l.length:=by have:=HN.out;omega
   obtain⟨eb,eoff,ex,ea0,ec0,rfl,ehb,ehd,eq0,eok,eh0,eh1,eh2,eh3⟩:=hs.atTFileIn (show k<l.length by omega)
   obtain⟨o0,g0⟩:=getD_lt hDz (show k*4<n*4 by omega)
   obtain⟨o1,g1⟩:=getD_lt hDz (show k*4+1<n*4 by omega)
   obtain⟨o2,g2⟩:=getD_lt hDz (show k*4+2<n*4 by omega)
   obtain⟨o3,g3⟩:=getD_lt hDz (show k*4+3<n*4 by omega)
   have hte:=HT.out ex (List.mem_of_mem_drop (by rw[ehd.out];exact List.mem_cons_self ..))
   have HEOK:=lH eok;clear eok
   go_wp2_with (first|((with_reducible refine wp_region_later (by kernel_rfl) (by kernel_rfl) ?_);(repeat(first|go_big_quiet_step (first|fail)));refine wpQuiet_nil ?_;rintro _ ⟨x,rfl⟩))
   refine(o_ltoFileIn (x:=ex) ⟨ea0,ec0,rfl,eq0.keep inferInstance,HEOK.out⟩ hte).mono ?_
   rintro _ _ ⟨_,χ2,rfl,⟨fa0,fc0,rfl,no⟩,y,rfl⟩
   have NO:=lH no;clear no
   have HLN:=lH (show rows.length=k from by have:=congrArg List.length hX.out;simp at this;omega)
   have HXN:=lH (show(rows.map (fun q=>q.x))++[ex]=l.take (k+1)from by rw[hX.out,List.take_add_one];congr 1;have:=congrArg (fun m=>m[0]?) ehd.out;simp at this;rw[this];rfl);clear hX
   clear hte
   go_wp2_with (first|((with_reducible refine wp_region_later (by kernel_rfl) (by kernel_rfl) ?_);(repeat(first|go_big_quiet_step (first|fail)));refine wpQuiet_nil ?_;rintro _ ⟨x,rfl⟩))
   go_roundw
   case rel =>
    obtain⟨x2,hx2⟩:=Later.set4_at (x.andThen y) (k*4) (k*4+1) (k*4+2) (k*4+3) (.int .i64 ex.File) (.int .i64 ex.Size) (.int .i64 ex.Check) (.slice fa0 ex.Parts.length fc0)
    rw[hx2]
    have hP:=hf.out.put (n:=n) (w2:=x2.w) (ra:=fa0) (rc:=fc0) (x:=ex) (vs:=[.int .i64 ex.File,.int .i64 ex.Size,.int .i64 ex.Check,.slice fa0 ex.Parts.length fc0]) HLN.out h hDz (Grows.same x.w) LeN.out NO.out.o0 inferInstance HEOK.out (by rw[← hx2];infer_instance) rfl
    exact⟨k+1,by go_num,by omega,_,_,_,x2,by simpa using hDz,hP,by rw[List.map_append];exact HXN.out,rfl⟩
   case measure=>simp[intOf];omega
  ·go_wp2_with (first|((with_reducible refine wp_region_later (by kernel_rfl) (by kernel_rfl) ?_);(repeat(first|go_big_quiet_step (first|fail)));refine wpQuiet_nil ?_;rintro _ ⟨x,rfl⟩))
   go_ret
   obtain rfl:k=n:=by omega
   have hXL:=hX.out
   rw[List.take_of_length_le (by have:=HN.out;omega)]at hXL
   exact⟨_,k,_,rows,by rw[HN.out];rfl,hXL,RowsN.done x hf.out ((show(rows.map (fun q=>q.x)).length=rows.length by simp).symm.trans ((congrArg List.length hXL).trans HN.out)) hm hDz (Nat.le_refl _),⟨x.w,Grows.out⟩,rfl⟩
theorem o_ltoFileOutS{B:Nat}{a:Option Addr}{c:Nat}{l:List TFileOut}{w:World}(hs:RdS B w a c l)(ht:totL l≤1048576) :
  Calls Tryz.prog 216 #[.slice a l.length c] w (GivesON w l):=by
 have hln:=totL_len l
 have HT:=lH (show ∀ x∈l,Enc.tot x≤1048576 from fun x hx=>Int.le_trans (totL_mem hx) ht)
 obtain⟨n,hn⟩:∃ n,l.length=n:=⟨_,rfl⟩
 have HN:=lH hn
 have hm:n≤1048576:=by omega
 rw[hn];clear ht hln hn
 obtain⟨C,hC,hmk⟩:=run_mk (P:=Tryz.prog) Tryz.underlying86 (e:=152) (z:=.agg #[.int .i64 0,.string ByteArray.empty,.slice none 0 0,.bool false]) (size:=4) (bytes:=56) (by kernel_rfl) n (by omega) (by omega)
 have hCz:C.size=n*4:=by rw[hC,size_madeCells]
 clear hC
 go_enter Tryz.func216,Tryz.ntmps216
 go_wp2_with (first|((with_reducible refine wp_region_later (by kernel_rfl) (by kernel_rfl) ?_);(repeat(first|go_big_quiet_step (first|fail)));refine wpQuiet_nil ?_;rintro _ ⟨x,rfl⟩))
 clear hmk
 go_loopw [4] (fun v wr=>∃ k:Nat,v=.int .i64 k∧k≤n∧∃ (D:Array Value) (χ:Nat→Col) (rows:List (NRow TFileOut)) (x:Later (w.alloc (.cells D 152))),D.size=n*4∧Hid (RowsN (w.heap.size+1) χ x.w D rows)∧Hid (rows.map (fun q=>q.x)=l.take k)∧wr=x.w) (fun v _=>(n - intOf v).toNat)
 case atStart=>exact⟨0,rfl,by omega,C,fun _=>(0,0),[],Later.here _,hCz,RowsN.nil,rfl,rfl⟩
 case round =>
  obtain⟨k,rfl,hk,D,χ,rows,x,hDz,hf,hX,rfl⟩:=hrel
  by_cases h:k<n
  ·have hlk:k<l.length:=by have:=HN.out;omega
   obtain⟨eb,eoff,ex,ea0,ec0,rfl,ehb,ehd,eq0,eok,eh0,eh1,eh2,eh3⟩:=hs.atTFileOut (show k<l.length by omega)
   obtain⟨o0,g0⟩:=getD_lt hDz (show k*4<n*4 by omega)
   obtain⟨o1,g1⟩:=getD_lt hDz (show k*4+1<n*4 by omega)
   obtain⟨o2,g2⟩:=getD_lt hDz (show k*4+2<n*4 by omega)
   obtain⟨o3,g3⟩:=getD_lt hDz (show k*4+3<n*4 by omega)
   have hte:=HT.out ex (List.mem_of_mem_drop (by rw[ehd.out];exact List.mem_cons_self ..))
   have HEOK:=lH eok;clear eok
   go_wp2_with (first|((with_reducible refine wp_region_later (by kernel_rfl) (by kernel_rfl) ?_);(repeat(first|go_big_quiet_step (first|fail)));refine wpQuiet_nil ?_;rintro _ ⟨x,rfl⟩))
   refine(o_ltoFileOut (x:=ex) ⟨ea0,ec0,rfl,eq0.keep inferInstance,HEOK.out⟩ hte).mono ?_
   rintro _ _ ⟨_,χ2,rfl,⟨fa0,fc0,rfl,no⟩,y,rfl⟩
   have NO:=lH no;clear no
   have HLN:=lH (show rows.length=k from by have:=congrArg List.length hX.out;simp at this;omega)
   have HXN:=lH (show(rows.map (fun q=>q.x))++[ex]=l.take (k+1)from by rw[hX.out,List.take_add_one];congr 1;have:=congrArg (fun m=>m[0]?) ehd.out;simp at this;rw[this];rfl);clear hX
   clear hte
   go_wp2_with (first|((with_reducible refine wp_region_later (by kernel_rfl) (by kernel_rfl) ?_);(repeat(first|go_big_quiet_step (first|fail)));refine wpQuiet_nil ?_;rintro _ ⟨x,rfl⟩))
   go_roundw
   case rel =>
    obtain⟨x2,hx2⟩:=Later.set4_at (x.andThen y) (k*4) (k*4+1) (k*4+2) (k*4+3) (.int .i64 ex.File) (.string ex.Data) (.slice fa0 ex.Queue.length fc0) (.bool ex.Done)
    rw[hx2]
    have hP:=hf.out.put (n:=n) (w2:=x2.w) (ra:=fa0) (rc:=fc0) (x:=ex) (vs:=[.int .i64 ex.File,.string ex.Data,.slice fa0 ex.Queue.length fc0,.bool ex.Done]) HLN.out h hDz (Grows.same x.w) LeN.out NO.out.o0 inferInstance HEOK.out (by rw[← hx2];infer_instance) rfl
    exact⟨k+1,by go_num,by omega,_,_,_,x2,by simpa using hDz,hP,by rw[List.map_append];exact HXN.out,rfl⟩
   case measure=>simp[intOf];omega
  ·go_wp2_with (first|((with_reducible refine wp_region_later (by kernel_rfl) (by kernel_rfl) ?_);(repeat(first|go_big_quiet_step (first|fail)));refine wpQuiet_nil ?_;rintro _ ⟨x,rfl⟩))
   go_ret
   obtain rfl:k=n:=by omega
   have hXL:=hX.out
   rw[List.take_of_length_le (by have:=HN.out;omega)]at hXL
   exact⟨_,k,_,rows,by rw[HN.out];rfl,hXL,RowsN.done x hf.out ((show(rows.map (fun q=>q.x)).length=rows.length by simp).symm.trans ((congrArg List.length hXL).trans HN.out)) hm hDz (Nat.le_refl _),⟨x.w,Grows.out⟩,rfl⟩
def limitOk(x:TLimit):Bool:=inB x.Param 0 7 && (inB x.Low 0 65535 && inB x.High 0 65535)
def doneOk(t:Int)(x:TDone):Bool:=inB x.Number 0 (t - 1) && (inB x.Time 0 1000000 && inB x.Result 0 1)
def idOk(t:Int)(x:TRecord):Bool:=!decide (t≤x.Id)
def offerOk(s:ByteArray):Bool:=inB s.size 1 40
def filesFrom:Nat→List TFileIn→Bool
 | _,[]=>true
 | k,y::r=>(fileInOkT y && (y.File == (k:Int))) && filesFrom (k+1) r
def outOk(s:ByteArray)(k:Nat)(y:TFileOut):Bool:=!decide (600<(s.size:Int)) && (fileOutOkT y && ((y.File == (k:Int)) && (y.Data.toList == s.toList)))
def outsFrom(files:List ByteArray):Nat→List TFileOut→Bool
 | _,[]=>true
 | k,y::r=>outOk (files.getD k ByteArray.empty) k y && outsFrom files (k+1) r
def boardOk(b:TBoard):Bool:=inB b.Clock 0 1000000 && (((b.Params.length:Int) == 8) && (allB 0 65535 b.Params && (decide ((b.Limits.length:Int)≤8) && (b.Limits.all limitOk && (inB b.Made 0 65535 && (inB b.Taken 0 65535 && (ordersOk b.Taken b.Orders && (decide ((b.Done.length:Int)≤5000) && (b.Done.all (doneOk b.Taken) && (recorderOk b.Recorder && (b.Recorder.Records.all (idOk b.Made) && (decide ((b.Asked.length:Int)≤5000) && (allB 0 7 b.Asked)))))))))))))
theorem boardOk_no1{b:TBoard}(h:inB b.Clock 0 1000000=false):boardOk b=false:=by rw[boardOk,h];simp
theorem boardOk_no2{b:TBoard}(h:((b.Params.length:Int) == 8)=false):boardOk b=false:=by rw[boardOk,h];simp
theorem boardOk_no3{b:TBoard}(h:allB 0 65535 b.Params=false):boardOk b=false:=by rw[boardOk,h];simp
theorem boardOk_no4{b:TBoard}(h:decide ((b.Limits.length:Int)≤8)=false):boardOk b=false:=by rw[boardOk,h];simp
theorem boardOk_no5{b:TBoard}(h:b.Limits.all limitOk=false):boardOk b=false:=by rw[boardOk,h];simp
theorem boardOk_no6{b:TBoard}(h:inB b.Made 0 65535=false):boardOk b=false:=by rw[boardOk,h];simp
theorem boardOk_no7{b:TBoard}(h:inB b.Taken 0 65535=false):boardOk b=false:=by rw[boardOk,h];simp
theorem boardOk_no8{b:TBoard}(h:ordersOk b.Taken b.Orders=false):boardOk b=false:=by rw[boardOk,h];simp
theorem boardOk_no9{b:TBoard}(h:decide ((b.Done.length:Int)≤5000)=false):boardOk b=false:=by rw[boardOk,h];simp
theorem boardOk_no10{b:TBoard}(h:b.Done.all (doneOk b.Taken)=false):boardOk b=false:=by rw[boardOk,h];simp
theorem boardOk_no11{b:TBoard}(h:recorderOk b.Recorder=false):boardOk b=false:=by rw[boardOk,h];simp
theorem boardOk_no12{b:TBoard}(h:b.Recorder.Records.all (idOk b.Made)=false):boardOk b=false:=by rw[boardOk,h];simp
theorem boardOk_no13{b:TBoard}(h:decide ((b.Asked.length:Int)≤5000)=false):boardOk b=false:=by rw[boardOk,h];simp
theorem boardOk_no14{b:TBoard}(h:allB 0 7 b.Asked=false):boardOk b=false:=by rw[boardOk,h];simp
theorem boardOk_yes{b:TBoard}(h1:inB b.Clock 0 1000000=true)(h2:((b.Params.length:Int) == 8)=true)(h3:allB 0 65535 b.Params=true)(h4:decide ((b.Limits.length:Int)≤8)=true)(h5:b.Limits.all limitOk=true)(h6:inB b.Made 0 65535=true)(h7:inB b.Taken 0 65535=true)(h8:ordersOk b.Taken b.Orders=true)(h9:decide ((b.Done.length:Int)≤5000)=true)(h10:b.Done.all (doneOk b.Taken)=true)(h11:recorderOk b.Recorder=true)(h12:b.Recorder.Records.all (idOk b.Made)=true)(h13:decide ((b.Asked.length:Int)≤5000)=true)(h14:allB 0 7 b.Asked=true):boardOk b=true:=by rw[boardOk,h1,h2,h3,h4,h5,h6,h7,h8,h9,h10,h11,h12,h13,h14];rfl
def groundOk(b:TGround):Bool:=senderOk b.Sender && (unpackerOk b.Unpacker && (pairsOk b.Pairs && ((b.Unpacker.Channel == 0) && (inB b.Notice.Expect 0 255 && (decide ((b.Offers.length:Int)≤200) && (recordsOk b.Records && (b.Offers.all offerOk && (((b.Files.length:Int) == 8) && (((b.Told.length:Int) == 8) && (filesFrom 0 b.Files))))))))))
theorem groundOk_no1{b:TGround}(h:senderOk b.Sender=false):groundOk b=false:=by rw[groundOk,h];simp
theorem groundOk_no2{b:TGround}(h:unpackerOk b.Unpacker=false):groundOk b=false:=by rw[groundOk,h];simp
theorem groundOk_no3{b:TGround}(h:pairsOk b.Pairs=false):groundOk b=false:=by rw[groundOk,h];simp
theorem groundOk_no4{b:TGround}(h:(b.Unpacker.Channel == 0)=false):groundOk b=false:=by rw[groundOk,h];simp
theorem groundOk_no5{b:TGround}(h:inB b.Notice.Expect 0 255=false):groundOk b=false:=by rw[groundOk,h];simp
theorem groundOk_no6{b:TGround}(h:decide ((b.Offers.length:Int)≤200)=false):groundOk b=false:=by rw[groundOk,h];simp
theorem groundOk_no7{b:TGround}(h:recordsOk b.Records=false):groundOk b=false:=by rw[groundOk,h];simp
theorem groundOk_no8{b:TGround}(h:b.Offers.all offerOk=false):groundOk b=false:=by rw[groundOk,h];simp
theorem groundOk_no9{b:TGround}(h:((b.Files.length:Int) == 8)=false):groundOk b=false:=by rw[groundOk,h];simp
theorem groundOk_no10{b:TGround}(h:((b.Told.length:Int) == 8)=false):groundOk b=false:=by rw[groundOk,h];simp
theorem groundOk_no11{b:TGround}(h:filesFrom 0 b.Files=false):groundOk b=false:=by rw[groundOk,h];simp
theorem groundOk_yes{b:TGround}(h1:senderOk b.Sender=true)(h2:unpackerOk b.Unpacker=true)(h3:pairsOk b.Pairs=true)(h4:(b.Unpacker.Channel == 0)=true)(h5:inB b.Notice.Expect 0 255=true)(h6:decide ((b.Offers.length:Int)≤200)=true)(h7:recordsOk b.Records=true)(h8:b.Offers.all offerOk=true)(h9:((b.Files.length:Int) == 8)=true)(h10:((b.Told.length:Int) == 8)=true)(h11:filesFrom 0 b.Files=true):groundOk b=true:=by rw[groundOk,h1,h2,h3,h4,h5,h6,h7,h8,h9,h10,h11];rfl
def spaceOk(b:TSpace):Bool:=receiverOk b.Receiver && (boardOk b.Board && (packerOk b.Packer && ((b.Packer.Channel == 0) && (inB b.Seq 0 65535 && (inB b.Begun 0 b.Board.Asked.length && (recordsOk b.Sent && (((b.Files.length:Int) == 8) && (((b.Outs.length:Int) == 8) && (outsFrom b.Files 0 b.Outs)))))))))
theorem spaceOk_no1{b:TSpace}(h:receiverOk b.Receiver=false):spaceOk b=false:=by rw[spaceOk,h];simp
theorem spaceOk_no2{b:TSpace}(h:boardOk b.Board=false):spaceOk b=false:=by rw[spaceOk,h];simp
theorem spaceOk_no3{b:TSpace}(h:packerOk b.Packer=false):spaceOk b=false:=by rw[spaceOk,h];simp
theorem spaceOk_no4{b:TSpace}(h:(b.Packer.Channel == 0)=false):spaceOk b=false:=by rw[spaceOk,h];simp
theorem spaceOk_no5{b:TSpace}(h:inB b.Seq 0 65535=false):spaceOk b=false:=by rw[spaceOk,h];simp
theorem spaceOk_no6{b:TSpace}(h:inB b.Begun 0 b.Board.Asked.length=false):spaceOk b=false:=by rw[spaceOk,h];simp
theorem spaceOk_no7{b:TSpace}(h:recordsOk b.Sent=false):spaceOk b=false:=by rw[spaceOk,h];simp
theorem spaceOk_no8{b:TSpace}(h:((b.Files.length:Int) == 8)=false):spaceOk b=false:=by rw[spaceOk,h];simp
theorem spaceOk_no9{b:TSpace}(h:((b.Outs.length:Int) == 8)=false):spaceOk b=false:=by rw[spaceOk,h];simp
theorem spaceOk_no10{b:TSpace}(h:outsFrom b.Files 0 b.Outs=false):spaceOk b=false:=by rw[spaceOk,h];simp
theorem spaceOk_yes{b:TSpace}(h1:receiverOk b.Receiver=true)(h2:boardOk b.Board=true)(h3:packerOk b.Packer=true)(h4:(b.Packer.Channel == 0)=true)(h5:inB b.Seq 0 65535=true)(h6:inB b.Begun 0 b.Board.Asked.length=true)(h7:recordsOk b.Sent=true)(h8:((b.Files.length:Int) == 8)=true)(h9:((b.Outs.length:Int) == 8)=true)(h10:outsFrom b.Files 0 b.Outs=true):spaceOk b=true:=by rw[spaceOk,h1,h2,h3,h4,h5,h6,h7,h8,h9,h10];rfl
theorem boardOk_taken{b:TBoard}(h:inB b.Taken 0 65535=true):0≤b.Taken∧b.Taken≤65535:=inB_iff.1 h
theorem k_iRecorderOkN{B n n2:Nat}{a a2:Option Addr}{c c2:Nat}{rr:TRecorder}{w0 w:World}(hs0:RdS B w0 a c rr.Records:=by first|assumption|(apply Sl.to<;>first|assumption|infer_instance)|omega)(hs20:RdS B w0 a2 c2 rr.Dropped:=by first|assumption|(apply Sl.to<;>first|assumption|infer_instance)|omega)[g:Keeps B w0 w](hn:rr.Records.length=n:=by first|assumption|(apply Sl.to<;>first|assumption|infer_instance)|omega)(hn2:rr.Dropped.length=n2:=by first|assumption|(apply Sl.to<;>first|assumption|infer_instance)|omega)(hm:n≤100000000:=by first|assumption|(apply Sl.to<;>first|assumption|infer_instance)|omega)(hm2:n2≤100000000:=by first|assumption|(apply Sl.to<;>first|assumption|infer_instance)|omega) :
  Calls Tryz.prog 400 #[.agg #[.int .i64 rr.Room,.slice a n c,.slice a2 n2 c2]] w (Gives w (.bool (recorderOk rr))):=by
 subst hn;subst hn2;exact k_iRecorderOk (hs0.to g) (hs20.to g) hm hm2
theorem k_sRecorderOkN{B n n2:Nat}{a a2:Option Addr}{c c2:Nat}{rr:TRecorder}{w0 w:World}(hs0:RdS B w0 a c rr.Records:=by first|assumption|(apply Sl.to<;>first|assumption|infer_instance)|omega)(hs20:RdS B w0 a2 c2 rr.Dropped:=by first|assumption|(apply Sl.to<;>first|assumption|infer_instance)|omega)[g:Keeps B w0 w](hn:rr.Records.length=n:=by first|assumption|(apply Sl.to<;>first|assumption|infer_instance)|omega)(hn2:rr.Dropped.length=n2:=by first|assumption|(apply Sl.to<;>first|assumption|infer_instance)|omega)(hm:n≤100000000:=by first|assumption|(apply Sl.to<;>first|assumption|infer_instance)|omega)(hm2:n2≤100000000:=by first|assumption|(apply Sl.to<;>first|assumption|infer_instance)|omega) :
  Calls Tryz.prog 320 #[.agg #[.int .i64 rr.Room,.slice a n c,.slice a2 n2 c2]] w (Gives w (.bool (recorderOk rr))):=by
 subst hn;subst hn2;exact k_sRecorderOk (hs0.to g) (hs20.to g) hm hm2
theorem k_sl05OrdersN{B n0 n1 n2 n3 n4 n5 n6:Nat}{a0 a1 a2 a3 a4 a5 a6:Option Addr}{c0 c1 c2 c3 c4 c5 c6:Nat}{bd:TBoard}{w0 w:World}(hq0:RdS B w0 a0 c0 bd.Params:=by first|assumption|(apply Sl.to<;>first|assumption|infer_instance)|omega)(hq1:RdS B w0 a1 c1 bd.Limits:=by first|assumption|(apply Sl.to<;>first|assumption|infer_instance)|omega)(hq2:RdS B w0 a2 c2 bd.Orders:=by first|assumption|(apply Sl.to<;>first|assumption|infer_instance)|omega)(hq3:RdS B w0 a3 c3 bd.Done:=by first|assumption|(apply Sl.to<;>first|assumption|infer_instance)|omega)(hq4:RdS B w0 a4 c4 bd.Recorder.Records:=by first|assumption|(apply Sl.to<;>first|assumption|infer_instance)|omega)(hq5:RdS B w0 a5 c5 bd.Recorder.Dropped:=by first|assumption|(apply Sl.to<;>first|assumption|infer_instance)|omega)(hq6:RdS B w0 a6 c6 bd.Asked:=by first|assumption|(apply Sl.to<;>first|assumption|infer_instance)|omega)[g:Keeps B w0 w](ok:okDTBoard bd:=by first|assumption|(apply Sl.to<;>first|assumption|infer_instance)|omega)(hn0:bd.Params.length=n0:=by first|assumption|(apply Sl.to<;>first|assumption|infer_instance)|omega)(hn1:bd.Limits.length=n1:=by first|assumption|(apply Sl.to<;>first|assumption|infer_instance)|omega)(hn2:bd.Orders.length=n2:=by first|assumption|(apply Sl.to<;>first|assumption|infer_instance)|omega)(hn3:bd.Done.length=n3:=by first|assumption|(apply Sl.to<;>first|assumption|infer_instance)|omega)(hn4:bd.Recorder.Records.length=n4:=by first|assumption|(apply Sl.to<;>first|assumption|infer_instance)|omega)(hn5:bd.Recorder.Dropped.length=n5:=by first|assumption|(apply Sl.to<;>first|assumption|infer_instance)|omega)(hn6:bd.Asked.length=n6:=by first|assumption|(apply Sl.to<;>first|assumption|infer_instance)|omega)(hm0:n0≤100000000:=by first|assumption|(apply Sl.to<;>first|assumption|infer_instance)|omega)(hm1:n1≤100000000:=by first|assumption|(apply Sl.to<;>first|assumption|infer_instance)|omega)(hm2:n2≤100000000:=by first|assumption|(apply Sl.to<;>first|assumption|infer_instance)|omega)(hm3:n3≤100000000:=by first|assumption|(apply Sl.to<;>first|assumption|infer_instance)|omega)(hm4:n4≤100000000:=by first|assumption|(apply Sl.to<;>first|assumption|infer_instance)|omega)(hm5:n5≤100000000:=by first|assumption|(apply Sl.to<;>first|assumption|infer_instance)|omega)(hm6:n6≤100000000:=by first|assumption|(apply Sl.to<;>first|assumption|infer_instance)|omega)  (ht0:0≤bd.Taken:=by first|assumption|(apply Sl.to<;>first|assumption|infer_instance)|omega)(ht1:bd.Taken≤65535:=by first|assumption|(apply Sl.to<;>first|assumption|infer_instance)|omega) :
  Calls Tryz.prog 396 #[.agg #[.int .i64 bd.Clock,.slice a0 n0 c0,.bool bd.Safe,.slice a1 n1 c1,.slice a2 n2 c2,.slice a3 n3 c3,.int .i64 bd.Recorder.Room,.slice a4 n4 c4,.slice a5 n5 c5,.int .i64 bd.Made,.int .i64 bd.Taken,.slice a6 n6 c6]] w (Gives w (.bool (ordersOk bd.Taken bd.Orders))):=by
 subst hn0;subst hn1;subst hn2;subst hn3;subst hn4;subst hn5;subst hn6
 exact k_sl05Orders (A:=⟨a0,c0,a1,c1,a2,c2,a3,c3,a4,c4,a5,c5,a6,c6⟩) ⟨hq0,hq1,hq2,hq3,hq4,hq5,hq6,ok⟩ hm2 ht0 ht1
def missionOk(b:TMission):Bool:=inB b.Time 0 1000000 && (inB b.Light 0 50 && (inB b.Bad 0 1000000 && (driftOkT b.Drift && (orbitOkT b.Orbit && (channelOk b.Up && (channelOk b.Down && (decide ((b.Plan.length:Int)≤1500) && (flightsOk b.Ups && (flightsOk b.Downs && (groundOk b.Ground && (spaceOk b.Space && (decide ((b.Offered.length:Int)≤5000) && (decide ((b.Took.length:Int)≤5000))))))))))))))
theorem missionOk_no1{b:TMission}(h:inB b.Time 0 1000000=false):missionOk b=false:=by rw[missionOk,h];simp
theorem missionOk_no2{b:TMission}(h:inB b.Light 0 50=false):missionOk b=false:=by rw[missionOk,h];simp
theorem missionOk_no3{b:TMission}(h:inB b.Bad 0 1000000=false):missionOk b=false:=by rw[missionOk,h];simp
theorem missionOk_no4{b:TMission}(h:driftOkT b.Drift=false):missionOk b=false:=by rw[missionOk,h];simp
theorem missionOk_no5{b:TMission}(h:orbitOkT b.Orbit=false):missionOk b=false:=by rw[missionOk,h];simp
theorem missionOk_no6{b:TMission}(h:channelOk b.Up=false):missionOk b=false:=by rw[missionOk,h];simp
theorem missionOk_no7{b:TMission}(h:channelOk b.Down=false):missionOk b=false:=by rw[missionOk,h];simp
theorem missionOk_no8{b:TMission}(h:decide ((b.Plan.length:Int)≤1500)=false):missionOk b=false:=by rw[missionOk,h];simp
theorem missionOk_no9{b:TMission}(h:flightsOk b.Ups=false):missionOk b=false:=by rw[missionOk,h];simp
theorem missionOk_no10{b:TMission}(h:flightsOk b.Downs=false):missionOk b=false:=by rw[missionOk,h];simp
theorem missionOk_no11{b:TMission}(h:groundOk b.Ground=false):missionOk b=false:=by rw[missionOk,h];simp
theorem missionOk_no12{b:TMission}(h:spaceOk b.Space=false):missionOk b=false:=by rw[missionOk,h];simp
theorem missionOk_no13{b:TMission}(h:decide ((b.Offered.length:Int)≤5000)=false):missionOk b=false:=by rw[missionOk,h];simp
theorem missionOk_no14{b:TMission}(h:decide ((b.Took.length:Int)≤5000)=false):missionOk b=false:=by rw[missionOk,h];simp
theorem missionOk_yes{b:TMission}(h1:inB b.Time 0 1000000=true)(h2:inB b.Light 0 50=true)(h3:inB b.Bad 0 1000000=true)(h4:driftOkT b.Drift=true)(h5:orbitOkT b.Orbit=true)(h6:channelOk b.Up=true)(h7:channelOk b.Down=true)(h8:decide ((b.Plan.length:Int)≤1500)=true)(h9:flightsOk b.Ups=true)(h10:flightsOk b.Downs=true)(h11:groundOk b.Ground=true)(h12:spaceOk b.Space=true)(h13:decide ((b.Offered.length:Int)≤5000)=true)(h14:decide ((b.Took.length:Int)≤5000)=true):missionOk b=true:=by rw[missionOk,h1,h2,h3,h4,h5,h6,h7,h8,h9,h10,h11,h12,h13,h14];rfl
section
variable {P:Program} {ops:Array Oper} {rest:List Oper} {op:Oper} {a:Act} {w:World} {Q:Exit→Act→World→Prop}
theorem stepLoadW(hw:Region.wanted op (yielded ops a.tmps)=true)(ty:TypeId)(x:Operand)(ho:op.op=.load ty x)(b o:Nat)(hx:a.eval x=.pointer (some ⟨b,o,none⟩)){cs row:List Value}{T:TypeId}(H:Held w b cs T)
  (d:TypeDesc) (hu:P.underlying ty=some d) (hd:d.isRow=true) (hi:(P.info? ty).map (·.size)=some row.length) (hr:(cs.drop o).take row.length=row)
  (h:wpList P ops Q rest (a.put op.dst (.agg row.toArray)) w):wpList P ops Q (op::rest) a w :=
 BigFrame.wpList_want hw fun _ hK=>wp_load_mid ty x ho b o hx row d (H.range hr) hu hd hi (hK _ _ h)
end
structure MSmall(bd:TMission):Prop where
 m0:bd.Plan.length≤100000000
 m1:bd.Ups.length≤100000000
 m2:bd.Downs.length≤100000000
 m3:bd.Ground.Offers.length≤100000000
 m4:bd.Ground.Sender.Waiting.length≤100000000
 m5:bd.Ground.Pairs.length≤100000000
 m6:bd.Ground.Records.length≤100000000
 m7:bd.Ground.Files.length≤100000000
 m8:bd.Ground.Told.length≤100000000
 m9:bd.Space.Board.Params.length≤100000000
 m10:bd.Space.Board.Limits.length≤100000000
 m11:bd.Space.Board.Orders.length≤100000000
 m12:bd.Space.Board.Done.length≤100000000
 m13:bd.Space.Board.Recorder.Records.length≤100000000
 m14:bd.Space.Board.Recorder.Dropped.length≤100000000
 m15:bd.Space.Board.Asked.length≤100000000
 m16:bd.Space.Packer.Starts.length≤100000000
 m17:bd.Space.Files.length≤100000000
 m18:bd.Space.Outs.length≤100000000
 m19:bd.Space.Sent.length≤100000000
 m20:bd.Offered.length≤100000000
 m21:bd.Took.length≤100000000
 hxf:∀ y∈bd.Ground.Files,y.Parts.length≤100000000∧∀ s∈y.Parts,s.size≤100000000
 hzr:bd.Space.Packer.Rest.size≤100000000
 hxo:∀ y∈bd.Space.Outs,y.Queue.length≤100000000∧y.Data.size≤100000000
 hxs:∀ s∈bd.Space.Files,s.size≤100000000
theorem mission_small{m:TMission}(ht:Enc.tot m≤100000000):MSmall m:=by
 have h:=mbounds ht
 have hg:totL m.Ground.Offers+totL m.Ground.Sender.Waiting+(m.Ground.Unpacker.Rest.size:Int)+totL m.Ground.Pairs+totL m.Ground.Records+totL m.Ground.Files+totL m.Ground.Told≤100000000:=h.2.2.1
 have hsp:(totL m.Space.Board.Params+totL m.Space.Board.Limits+totL m.Space.Board.Orders+totL m.Space.Board.Done+(totL m.Space.Board.Recorder.Records+totL m.Space.Board.Recorder.Dropped)+totL m.Space.Board.Asked)+((m.Space.Packer.Rest.size:Int)+totL m.Space.Packer.Starts)+totL m.Space.Files+totL m.Space.Outs+totL m.Space.Sent≤100000000:=h.2.2.2.1
 have l0:=totL_len m.Plan
 have l1:=totL_len m.Ups
 have l2:=totL_len m.Downs
 have l3:=totL_len m.Ground.Offers
 have l4:=totL_len m.Ground.Sender.Waiting
 have l5:=totL_len m.Ground.Pairs
 have l6:=totL_len m.Ground.Records
 have l7:=totL_len m.Ground.Files
 have l8:=totL_len m.Ground.Told
 have l9:=totL_len m.Space.Board.Params
 have l10:=totL_len m.Space.Board.Limits
 have l11:=totL_len m.Space.Board.Orders
 have l12:=totL_len m.Space.Board.Done
 have l13:=totL_len m.Space.Board.Recorder.Records
 have l14:=totL_len m.Space.Board.Recorder.Dropped
 have l15:=totL_len m.Space.Board.Asked
 have l16:=totL_len m.Space.Packer.Starts
 have l17:=totL_len m.Space.Files
 have l18:=totL_len m.Space.Outs
 have l19:=totL_len m.Space.Sent
 have l20:=totL_len m.Offered
 have l21:=totL_len m.Took
 refine⟨by omega,by omega,by omega,by omega,by omega,by omega,by omega,by omega,by omega,by omega,by omega,by omega,by omega,by omega,by omega,by omega,by omega,by omega,by omega,by omega,by omega,by omega,fun y hy=>?_,by omega,fun y hy=>?_,fun s hs=>?_⟩
 ·have hx1:Enc.tot y≤totL m.Ground.Files:=totL_mem hy
  have hx2:totL y.Parts≤totL m.Ground.Files:=hx1
  have hx3:=totL_len y.Parts
  refine⟨by omega,fun s hs=>?_⟩
  have hs1:(s.size:Int)≤totL y.Parts:=totL_mem hs
  omega
 ·have hx1:Enc.tot y≤totL m.Space.Outs:=totL_mem hy
  have hx2:(y.Data.size:Int)+totL y.Queue≤totL m.Space.Outs:=hx1
  have hx3:=totL_len y.Queue
  exact⟨by omega,by omega⟩
 ·have hs1:(s.size:Int)≤totL m.Space.Files:=totL_mem hs
  omega
set_option maxRecDepth 100000 in
set_option maxHeartbeats 4000000 in
theorem k_iBoardOk{B n0 n1 n2 n3 n4 n5 n6:Nat}{a0 a1 a2 a3 a4 a5 a6:Option Addr}{c0 c1 c2 c3 c4 c5 c6:Nat}{bd:TBoard}{w0 w:World}(hq0:RdS B w0 a0 c0 bd.Params:=by first|assumption|(apply Sl.to<;>first|assumption|infer_instance)|omega)(hq1:RdS B w0 a1 c1 bd.Limits:=by first|assumption|(apply Sl.to<;>first|assumption|infer_instance)|omega)(hq2:RdS B w0 a2 c2 bd.Orders:=by first|assumption|(apply Sl.to<;>first|assumption|infer_instance)|omega)(hq3:RdS B w0 a3 c3 bd.Done:=by first|assumption|(apply Sl.to<;>first|assumption|infer_instance)|omega)(hq4:RdS B w0 a4 c4 bd.Recorder.Records:=by first|assumption|(apply Sl.to<;>first|assumption|infer_instance)|omega)(hq5:RdS B w0 a5 c5 bd.Recorder.Dropped:=by first|assumption|(apply Sl.to<;>first|assumption|infer_instance)|omega)(hq6:RdS B w0 a6 c6 bd.Asked:=by first|assumption|(apply Sl.to<;>first|assumption|infer_instance)|omega)[g:Keeps B w0 w](ok:okDTBoard bd:=by first|assumption|(apply Sl.to<;>first|assumption|infer_instance)|omega)(hn0:bd.Params.length=n0:=by first|assumption|(apply Sl.to<;>first|assumption|infer_instance)|omega)(hn1:bd.Limits.length=n1:=by first|assumption|(apply Sl.to<;>first|assumption|infer_instance)|omega)(hn2:bd.Orders.length=n2:=by first|assumption|(apply Sl.to<;>first|assumption|infer_instance)|omega)(hn3:bd.Done.length=n3:=by first|assumption|(apply Sl.to<;>first|assumption|infer_instance)|omega)(hn4:bd.Recorder.Records.length=n4:=by first|assumption|(apply Sl.to<;>first|assumption|infer_instance)|omega)(hn5:bd.Recorder.Dropped.length=n5:=by first|assumption|(apply Sl.to<;>first|assumption|infer_instance)|omega)(hn6:bd.Asked.length=n6:=by first|assumption|(apply Sl.to<;>first|assumption|infer_instance)|omega)(hm0:n0≤100000000:=by first|assumption|(apply Sl.to<;>first|assumption|infer_instance)|omega)(hm1:n1≤100000000:=by first|assumption|(apply Sl.to<;>first|assumption|infer_instance)|omega)(hm2:n2≤100000000:=by first|assumption|(apply Sl.to<;>first|assumption|infer_instance)|omega)(hm3:n3≤100000000:=by first|assumption|(apply Sl.to<;>first|assumption|infer_instance)|omega)(hm4:n4≤100000000:=by first|assumption|(apply Sl.to<;>first|assumption|infer_instance)|omega)(hm5:n5≤100000000:=by first|assumption|(apply Sl.to<;>first|assumption|infer_instance)|omega)(hm6:n6≤100000000:=by first|assumption|(apply Sl.to<;>first|assumption|infer_instance)|omega)  :
  Calls Tryz.prog 267 #[.agg #[.int .i64 bd.Clock,.slice a0 n0 c0,.bool bd.Safe,.slice a1 n1 c1,.slice a2 n2 c2,.slice a3 n3 c3,.int .i64 bd.Recorder.Room,.slice a4 n4 c4,.slice a5 n5 c5,.int .i64 bd.Made,.int .i64 bd.Taken,.slice a6 n6 c6]] w (Gives w (.bool (boardOk bd))):=by
 have hs0:=hq0.to g
 have hs1:=hq1.to g
 have hs2:=hq2.to g
 have hs3:=hq3.to g
 have hs4:=hq4.to g
 have hs5:=hq5.to g
 have hs6:=hq6.to g
 have HN0:=lH hn0
 have HN1:=lH hn1
 have HN2:=lH hn2
 have HN3:=lH hn3
 have HN4:=lH hn4
 have HN5:=lH hn5
 have HN6:=lH hn6
 clear hq0 hn0 hq1 hn1 hq2 hn2 hq3 hn3 hq4 hn4 hq5 hn5 hq6 hn6
 cases g1:inB bd.Clock 0 1000000
 ·have HF:=lH (show boardOk bd=false from boardOk_no1 g1)
  go_enter Tryz.func267,Tryz.ntmps267
  go_wp2_with (first|(go_at_call 156;refine(c_ibetween).mono ?_;rintro _ _ ⟨rfl,x,rfl⟩))
  go_ret
  exact Gives.mk (by rw[HF.out];rfl)
 have T1:=lH g1
 by_cases h2:n0=8
 rotate_left
 ·have k2:((n0:Int) != 8)=true:=by simp;omega
  have k2b:((n0:Int) == 8)=false:=by simp;omega
  have HF:=lH (show boardOk bd=false from boardOk_no2 (by rw[HN0.out];exact k2b))
  clear h2
  go_enter Tryz.func267,Tryz.ntmps267
  go_wp2_with (first|(go_at_call 156;refine(c_ibetween).mono ?_;rintro _ _ ⟨rfl,x,rfl⟩))
  go_ret
  exact Gives.mk (by rw[HF.out];rfl)
 subst h2
 have T2:=lH (show((bd.Params.length:Int) == 8)=true by rw[HN0.out];rfl)
 have hsl0:=hs0.toSlInt
 have hl0:=HN0.out
 cases g3:allB 0 65535 bd.Params
 ·have HF:=lH (show boardOk bd=false from boardOk_no3 g3)
  go_enter Tryz.func267,Tryz.ntmps267
  go_wp2_with (first|(go_at_call 156;refine(c_ibetween).mono ?_;rintro _ _ ⟨rfl,x,rfl⟩)|(go_at_call 233;refine(c_iallBetween).mono ?_;rintro _ _ ⟨rfl,x,rfl⟩))
  go_ret
  exact Gives.mk (by rw[HF.out];rfl)
 have T3:=lH g3
 by_cases h4:n1≤8
 rotate_left
 ·have k4:decide (8<(n1:Int))=true:=by simp;omega
  have k4b:decide ((n1:Int)≤8)=false:=by simp;omega
  have HF:=lH (show boardOk bd=false from boardOk_no4 (by rw[HN1.out];exact k4b))
  clear h4
  go_enter Tryz.func267,Tryz.ntmps267
  go_wp2_with (first|(go_at_call 156;refine(c_ibetween).mono ?_;rintro _ _ ⟨rfl,x,rfl⟩)|(go_at_call 233;refine(c_iallBetween).mono ?_;rintro _ _ ⟨rfl,x,rfl⟩))
  go_ret
  exact Gives.mk (by rw[HF.out];rfl)
 have k4:decide (8<(n1:Int))=false:=by simp;omega
 have k4b:decide ((n1:Int)≤8)=true:=by simp;omega
 have T4:=lH (show decide ((bd.Limits.length:Int)≤8)=true by rw[HN1.out];exact k4b)
 clear h4
 go_enter Tryz.func267,Tryz.ntmps267
 go_wp2_with (first|(go_at_call 156;refine(c_ibetween).mono ?_;rintro _ _ ⟨rfl,x,rfl⟩)|(go_at_call 233;refine(c_iallBetween).mono ?_;rintro _ _ ⟨rfl,x,rfl⟩))
 clear g1 g3 k4 k4b hsl0 hl0
 go_loopw [32] (fun v wr=>∃ k:Nat,v=.int .i64 k∧k≤n1∧Hid ((bd.Limits.drop k).all limitOk=bd.Limits.all limitOk)∧∃ X:Later (w.alloc (.cells #[.int .i64 bd.Clock,.slice a0 8 c0,.bool bd.Safe,.slice a1 n1 c1,.slice a2 n2 c2,.slice a3 n3 c3,.int .i64 bd.Recorder.Room,.slice a4 n4 c4,.slice a5 n5 c5,.int .i64 bd.Made,.int .i64 bd.Taken,.slice a6 n6 c6] 84)),wr=X.w) (fun v _=>(n1 - intOf v).toNat)
 case atStart=>exact⟨0,rfl,by omega,rfl,Later.of⟩
 case round =>
  obtain⟨k,rfl,hk,HV,X,rfl⟩:=hrel
  by_cases h:k<n1
  ·have hkl:k<bd.Limits.length:=by have:=HN1.out;omega
   obtain⟨eb,eoff,es,rfl,ehb,ehd,eok,eh0,eh1,eh2⟩:=hs1.atTLimit hkl
   have EOK:=lH eok;clear eok
   clear hkl
   cases d1:inB es.Param 0 7
   ·have HF:=lH (show boardOk bd=false from boardOk_no5 (by have:=HV.out;rw[ehd.out,List.all_cons]at this;rw[← this,limitOk,d1]<;>rfl))
    go_wp2_with (first|(go_at_call 156;refine(c_ibetween).mono ?_;rintro _ _ ⟨rfl,x,rfl⟩))
    go_ret
    exact Gives.mk (by rw[HF.out];rfl)
   cases d2:inB es.Low 0 65535
   ·have HF:=lH (show boardOk bd=false from boardOk_no5 (by have:=HV.out;rw[ehd.out,List.all_cons]at this;rw[← this,limitOk,d1,d2]<;>rfl))
    go_wp2_with (first|(go_at_call 156;refine(c_ibetween).mono ?_;rintro _ _ ⟨rfl,x,rfl⟩))
    go_ret
    exact Gives.mk (by rw[HF.out];rfl)
   cases d3:inB es.High 0 65535
   ·have HF:=lH (show boardOk bd=false from boardOk_no5 (by have:=HV.out;rw[ehd.out,List.all_cons]at this;rw[← this,limitOk,d1,d2,d3]<;>rfl))
    go_wp2_with (first|(go_at_call 156;refine(c_ibetween).mono ?_;rintro _ _ ⟨rfl,x,rfl⟩))
    go_ret
    exact Gives.mk (by rw[HF.out];rfl)
   have HF:=lH (show(bd.Limits.drop (k+1)).all limitOk=bd.Limits.all limitOk by have:=HV.out;rw[ehd.out,List.all_cons]at this;rw[← this,limitOk,d1,d2,d3]<;>rfl)
   go_wp2_with (first|(go_at_call 156;refine(c_ibetween).mono ?_;rintro _ _ ⟨rfl,x,rfl⟩))
   go_roundw
   case rel=>exact⟨k+1,by go_num,by omega,HF,Later.of⟩
   case measure=>simp[intOf];omega
  ·have T5:=lH (show bd.Limits.all limitOk=true by have:=HV.out;rw[List.drop_of_length_le (by have:=HN1.out;omega)]at this;rw[← this];rfl)
   clear HV
   cases g6:inB bd.Made 0 65535
   ·have HF:=lH (show boardOk bd=false from boardOk_no6 g6)
    go_wp2_with (first|(go_at_call 156;refine(c_ibetween).mono ?_;rintro _ _ ⟨rfl,x,rfl⟩))
    go_ret
    exact Gives.mk (by rw[HF.out];rfl)
   have T6:=lH g6
   cases g7:inB bd.Taken 0 65535
   ·have HF:=lH (show boardOk bd=false from boardOk_no7 g7)
    go_wp2_with (first|(go_at_call 156;refine(c_ibetween).mono ?_;rintro _ _ ⟨rfl,x,rfl⟩))
    go_ret
    exact Gives.mk (by rw[HF.out];rfl)
   have T7:=lH g7
   have⟨htk0,htk1⟩:=boardOk_taken T7.out
   have hl2:=HN2.out
   cases g8:ordersOk bd.Taken bd.Orders
   ·have HF:=lH (show boardOk bd=false from boardOk_no8 g8)
    go_wp2_with (first|(go_at_call 156;refine(c_ibetween).mono ?_;rintro _ _ ⟨rfl,x,rfl⟩)|(go_at_call 399;refine(k_iordersOk).mono ?_;rintro _ _ ⟨rfl,x,rfl⟩))
    go_ret
    exact Gives.mk (by rw[HF.out];rfl)
   have T8:=lH g8
   by_cases h9:n3≤5000
   rotate_left
   ·have k9:decide (5000<(n3:Int))=true:=by simp;omega
    have k9b:decide ((n3:Int)≤5000)=false:=by simp;omega
    have HF:=lH (show boardOk bd=false from boardOk_no9 (by rw[HN3.out];exact k9b))
    clear h9
    go_wp2_with (first|(go_at_call 156;refine(c_ibetween).mono ?_;rintro _ _ ⟨rfl,x,rfl⟩)|(go_at_call 399;refine(k_iordersOk).mono ?_;rintro _ _ ⟨rfl,x,rfl⟩))
    go_ret
    exact Gives.mk (by rw[HF.out];rfl)
   have k9:decide (5000<(n3:Int))=false:=by simp;omega
   have k9b:decide ((n3:Int)≤5000)=true:=by simp;omega
   have T9:=lH (show decide ((bd.Done.length:Int)≤5000)=true by rw[HN3.out];exact k9b)
   clear h9
   go_wp2_with (first|(go_at_call 156;refine(c_ibetween).mono ?_;rintro _ _ ⟨rfl,x,rfl⟩)|(go_at_call 399;refine(k_iordersOk).mono ?_;rintro _ _ ⟨rfl,x,rfl⟩))
   clear g6 g7 g8 k9 k9b hl2
   go_loopw [78] (fun v wr=>∃ k:Nat,v=.int .i64 k∧k≤n3∧Hid ((bd.Done.drop k).all (doneOk bd.Taken)=bd.Done.all (doneOk bd.Taken))∧∃ X:Later (w.alloc (.cells #[.int .i64 bd.Clock,.slice a0 8 c0,.bool bd.Safe,.slice a1 n1 c1,.slice a2 n2 c2,.slice a3 n3 c3,.int .i64 bd.Recorder.Room,.slice a4 n4 c4,.slice a5 n5 c5,.int .i64 bd.Made,.int .i64 bd.Taken,.slice a6 n6 c6] 84)),wr=X.w) (fun v _=>(n3 - intOf v).toNat)
   case atStart=>exact⟨0,rfl,by omega,rfl,Later.of⟩
   case round =>
    obtain⟨k,rfl,hk,HV,X,rfl⟩:=hrel
    by_cases h:k<n3
    ·have hkl:k<bd.Done.length:=by have:=HN3.out;omega
     obtain⟨eb,eoff,es,rfl,ehb,ehd,eok,eh0,eh1,eh2⟩:=hs3.atTDone hkl
     have EOK:=lH eok;clear eok
     have⟨htt0,htt1⟩:=boardOk_taken T7.out
     clear hkl
     cases d1:inB es.Number 0 (bd.Taken - 1)
     ·have HF:=lH (show boardOk bd=false from boardOk_no10 (by have:=HV.out;rw[ehd.out,List.all_cons]at this;rw[← this,doneOk,d1]<;>rfl))
      go_wp2_with (first|(go_at_call 156;refine(c_ibetween).mono ?_;rintro _ _ ⟨rfl,x,rfl⟩))
      go_ret
      exact Gives.mk (by rw[HF.out];rfl)
     cases d2:inB es.Time 0 1000000
     ·have HF:=lH (show boardOk bd=false from boardOk_no10 (by have:=HV.out;rw[ehd.out,List.all_cons]at this;rw[← this,doneOk,d1,d2]<;>rfl))
      go_wp2_with (first|(go_at_call 156;refine(c_ibetween).mono ?_;rintro _ _ ⟨rfl,x,rfl⟩))
      go_ret
      exact Gives.mk (by rw[HF.out];rfl)
     cases d3:inB es.Result 0 1
     ·have HF:=lH (show boardOk bd=false from boardOk_no10 (by have:=HV.out;rw[ehd.out,List.all_cons]at this;rw[← this,doneOk,d1,d2,d3]<;>rfl))
      go_wp2_with (first|(go_at_call 156;refine(c_ibetween).mono ?_;rintro _ _ ⟨rfl,x,rfl⟩))
      go_ret
      exact Gives.mk (by rw[HF.out];rfl)
     have HF:=lH (show(bd.Done.drop (k+1)).all (doneOk bd.Taken)=bd.Done.all (doneOk bd.Taken)by have:=HV.out;rw[ehd.out,List.all_cons]at this;rw[← this,doneOk,d1,d2,d3]<;>rfl)
     go_wp2_with (first|(go_at_call 156;refine(c_ibetween).mono ?_;rintro _ _ ⟨rfl,x,rfl⟩))
     go_roundw
     case rel=>exact⟨k+1,by go_num,by omega,HF,Later.of⟩
     case measure=>simp[intOf];omega
    ·have T10:=lH (show bd.Done.all (doneOk bd.Taken)=true by have:=HV.out;rw[List.drop_of_length_le (by have:=HN3.out;omega)]at this;rw[← this];rfl)
     clear HV
     have hr4:=HN4.out
     have hr5:=HN5.out
     cases g11:recorderOk bd.Recorder
     ·have HF:=lH (show boardOk bd=false from boardOk_no11 g11)
      go_wp2_with (first|(go_at_call 156;refine(c_ibetween).mono ?_;rintro _ _ ⟨rfl,x,rfl⟩)|(go_at_call 400;refine(k_iRecorderOkN).mono ?_;rintro _ _ ⟨rfl,x,rfl⟩))
      go_ret
      exact Gives.mk (by rw[HF.out];rfl)
     have T11:=lH g11
     go_wp2_with (first|(go_at_call 156;refine(c_ibetween).mono ?_;rintro _ _ ⟨rfl,x,rfl⟩)|(go_at_call 400;refine(k_iRecorderOkN).mono ?_;rintro _ _ ⟨rfl,x,rfl⟩))
     clear g11 hr4 hr5
     go_loopw [110] (fun v wr=>∃ k:Nat,v=.int .i64 k∧k≤n4∧Hid ((bd.Recorder.Records.drop k).all (idOk bd.Made)=bd.Recorder.Records.all (idOk bd.Made))∧∃ X:Later (w.alloc (.cells #[.int .i64 bd.Clock,.slice a0 8 c0,.bool bd.Safe,.slice a1 n1 c1,.slice a2 n2 c2,.slice a3 n3 c3,.int .i64 bd.Recorder.Room,.slice a4 n4 c4,.slice a5 n5 c5,.int .i64 bd.Made,.int .i64 bd.Taken,.slice a6 n6 c6] 84)),wr=X.w) (fun v _=>(n4 - intOf v).toNat)
     case atStart=>exact⟨0,rfl,by omega,rfl,Later.of⟩
     case round =>
      obtain⟨k,rfl,hk,HV,X,rfl⟩:=hrel
      by_cases h:k<n4
      ·have hkl:k<bd.Recorder.Records.length:=by have:=HN4.out;omega
       obtain⟨eb,eoff,es,rfl,ehb,ehd,eok,eh0,eh1,eh2,eh3⟩:=hs4.atTRecord hkl
       have hz9:es.Data.size≤9223372036854775807:=eok.2.2.2.1
       have EOK:=lH eok;clear eok
       clear hkl
       cases d1:decide (bd.Made≤es.Id)
       rotate_left
       ·have HF:=lH (show boardOk bd=false from boardOk_no12 (by have:=HV.out;rw[ehd.out,List.all_cons]at this;rw[← this,idOk,d1]<;>rfl))
        go_wp2_with fail
        go_ret
        exact Gives.mk (by rw[HF.out];rfl)
       have HF:=lH (show(bd.Recorder.Records.drop (k+1)).all (idOk bd.Made)=bd.Recorder.Records.all (idOk bd.Made)by have:=HV.out;rw[ehd.out,List.all_cons]at this;rw[← this,idOk,d1]<;>rfl)
       go_wp2_with fail
       go_roundw
       case rel=>exact⟨k+1,by go_num,by omega,HF,Later.of⟩
       case measure=>simp[intOf];omega
      ·have T12:=lH (show bd.Recorder.Records.all (idOk bd.Made)=true by have:=HV.out;rw[List.drop_of_length_le (by have:=HN4.out;omega)]at this;rw[← this];rfl)
       clear HV
       by_cases h13:n6≤5000
       rotate_left
       ·have k13:decide (5000<(n6:Int))=true:=by simp;omega
        have k13b:decide ((n6:Int)≤5000)=false:=by simp;omega
        have HF:=lH (show boardOk bd=false from boardOk_no13 (by rw[HN6.out];exact k13b))
        clear h13
        go_wp2_with (first|(go_at_call 156;refine(c_ibetween).mono ?_;rintro _ _ ⟨rfl,x,rfl⟩))
        go_ret
        exact Gives.mk (by rw[HF.out];rfl)
       have k13:decide (5000<(n6:Int))=false:=by simp;omega
       have k13b:decide ((n6:Int)≤5000)=true:=by simp;omega
       have T13:=lH (show decide ((bd.Asked.length:Int)≤5000)=true by rw[HN6.out];exact k13b)
       clear h13
       have hsl6:=hs6.toSlInt
       have hl6:=HN6.out
       go_wp2_with (first|(go_at_call 156;refine(c_ibetween).mono ?_;rintro _ _ ⟨rfl,x,rfl⟩)|(go_at_call 233;refine(c_iallBetween).mono ?_;rintro _ _ ⟨rfl,x,rfl⟩))
       go_ret
       exact Gives.mk (by
        cases g14:allB 0 7 bd.Asked
        ·rw[boardOk_no14 g14];rfl
        ·rw[boardOk_yes T1.out T2.out T3.out T4.out T5.out T6.out T7.out T8.out T9.out T10.out T11.out T12.out T13.out g14];rfl)
set_option maxRecDepth 100000 in
set_option maxHeartbeats 4000000 in
theorem k_igroundOk{B n0 n1 n2 n3 n4 n5:Nat}{a0 a1 a2 a3 a4 a5:Option Addr}{c0 c1 c2 c3 c4 c5:Nat}{bd:TGround}{w0 w:World}(hq0:RdS B w0 a0 c0 bd.Offers)(hq1:RdS B w0 a1 c1 bd.Sender.Waiting)(hq2:RdS B w0 a2 c2 bd.Pairs)(hq3:RdS B w0 a3 c3 bd.Records)(hq4:RdS B w0 a4 c4 bd.Files)(hq5:RdS B w0 a5 c5 bd.Told)[g:Keeps B w0 w](ok:okDTGround bd)(hn0:bd.Offers.length=n0)(hn1:bd.Sender.Waiting.length=n1)(hn2:bd.Pairs.length=n2)(hn3:bd.Records.length=n3)(hn4:bd.Files.length=n4)(hn5:bd.Told.length=n5)(hm0:n0≤100000000)(hm1:n1≤100000000)(hm2:n2≤100000000)(hm3:n3≤100000000)(hm4:n4≤100000000)(hm5:n5≤100000000)(hxf:∀ y∈bd.Files,y.Parts.length≤100000000∧∀ s∈y.Parts,s.size≤100000000) :
  Calls Tryz.prog 180 #[.agg #[.slice a0 n0 c0,.int .i64 bd.Sender.Next,.int .i64 bd.Sender.Window,.slice a1 n1 c1,.int .i64 bd.Sender.Done,.int .i64 bd.Notice.Expect,.bool bd.Notice.Locked,.bool bd.Notice.Again,.int .i64 bd.Unpacker.Channel,.int .i64 bd.Unpacker.Next,.bool bd.Unpacker.Synced,.string bd.Unpacker.Rest,.int .i64 bd.Unpacker.Lost,.slice a2 n2 c2,.slice a3 n3 c3,.slice a4 n4 c4,.slice a5 n5 c5]] w (Gives w (.bool (groundOk bd))):=by
 have hs0:=hq0.to g
 have hs1:=hq1.to g
 have hs2:=hq2.to g
 have hs3:=hq3.to g
 have hs4:=hq4.to g
 have hs5:=hq5.to g
 have HN0:=lH hn0
 have HN1:=lH hn1
 have HN2:=lH hn2
 have HN3:=lH hn3
 have HN4:=lH hn4
 have HN5:=lH hn5
 clear hq0 hn0 hq1 hn1 hq2 hn2 hq3 hn3 hq4 hn4 hq5 hn5
 have hd1:=HN1.out
 have oks:=ok.1
 cases g1:senderOk bd.Sender
 ·have HF:=lH (show groundOk bd=false from groundOk_no1 g1)
  go_enter Tryz.func180,Tryz.ntmps180
  go_wp2_with (first|(go_at_call 156;refine(c_ibetween).mono ?_;rintro _ _ ⟨rfl,x,rfl⟩)|(go_at_call 277;refine(k_iSenderOkN).mono ?_;rintro _ _ ⟨rfl,x,rfl⟩))
  go_ret
  exact Gives.mk (by rw[HF.out];rfl)
 have T1:=lH g1
 have hzu:bd.Unpacker.Rest.size≤9223372036854775807:=ok.2.2.1.2.2.1
 cases g2:unpackerOk bd.Unpacker
 ·have HF:=lH (show groundOk bd=false from groundOk_no2 g2)
  go_enter Tryz.func180,Tryz.ntmps180
  go_wp2_with (first|(go_at_call 156;refine(c_ibetween).mono ?_;rintro _ _ ⟨rfl,x,rfl⟩)|(go_at_call 277;refine(k_iSenderOkN).mono ?_;rintro _ _ ⟨rfl,x,rfl⟩)|(go_at_call 297;refine(k_iUnpackerOk).mono ?_;rintro _ _ ⟨rfl,x,rfl⟩))
  go_ret
  exact Gives.mk (by rw[HF.out];rfl)
 have T2:=lH g2
 have hd2:=HN2.out
 cases g3:pairsOk bd.Pairs
 ·have HF:=lH (show groundOk bd=false from groundOk_no3 g3)
  go_enter Tryz.func180,Tryz.ntmps180
  go_wp2_with (first|(go_at_call 156;refine(c_ibetween).mono ?_;rintro _ _ ⟨rfl,x,rfl⟩)|(go_at_call 277;refine(k_iSenderOkN).mono ?_;rintro _ _ ⟨rfl,x,rfl⟩)|(go_at_call 297;refine(k_iUnpackerOk).mono ?_;rintro _ _ ⟨rfl,x,rfl⟩)|(go_at_call 343;refine(k_iPairsOk).mono ?_;rintro _ _ ⟨rfl,x,rfl⟩))
  go_ret
  exact Gives.mk (by rw[HF.out];rfl)
 have T3:=lH g3
 cases g4:(bd.Unpacker.Channel == 0)
 ·have HF:=lH (show groundOk bd=false from groundOk_no4 g4)
  have g4b:(bd.Unpacker.Channel != 0)=true:=by rw[bne,g4];rfl
  go_enter Tryz.func180,Tryz.ntmps180
  go_wp2_with (first|(go_at_call 156;refine(c_ibetween).mono ?_;rintro _ _ ⟨rfl,x,rfl⟩)|(go_at_call 277;refine(k_iSenderOkN).mono ?_;rintro _ _ ⟨rfl,x,rfl⟩)|(go_at_call 297;refine(k_iUnpackerOk).mono ?_;rintro _ _ ⟨rfl,x,rfl⟩)|(go_at_call 343;refine(k_iPairsOk).mono ?_;rintro _ _ ⟨rfl,x,rfl⟩))
  go_ret
  exact Gives.mk (by rw[HF.out];rfl)
 have T4:=lH g4
 have g4b:(bd.Unpacker.Channel != 0)=false:=by rw[bne,g4];rfl
 cases g5:inB bd.Notice.Expect 0 255
 ·have HF:=lH (show groundOk bd=false from groundOk_no5 g5)
  go_enter Tryz.func180,Tryz.ntmps180
  go_wp2_with (first|(go_at_call 156;refine(c_ibetween).mono ?_;rintro _ _ ⟨rfl,x,rfl⟩)|(go_at_call 277;refine(k_iSenderOkN).mono ?_;rintro _ _ ⟨rfl,x,rfl⟩)|(go_at_call 297;refine(k_iUnpackerOk).mono ?_;rintro _ _ ⟨rfl,x,rfl⟩)|(go_at_call 343;refine(k_iPairsOk).mono ?_;rintro _ _ ⟨rfl,x,rfl⟩))
  go_ret
  exact Gives.mk (by rw[HF.out];rfl)
 have T5:=lH g5
 by_cases h6:n0≤200
 rotate_left
 ·have k6:decide (200<(n0:Int))=true:=by simp;omega
  have k6b:decide ((n0:Int)≤200)=false:=by simp;omega
  have HF:=lH (show groundOk bd=false from groundOk_no6 (by rw[HN0.out];exact k6b))
  clear h6
  go_enter Tryz.func180,Tryz.ntmps180
  go_wp2_with (first|(go_at_call 156;refine(c_ibetween).mono ?_;rintro _ _ ⟨rfl,x,rfl⟩)|(go_at_call 277;refine(k_iSenderOkN).mono ?_;rintro _ _ ⟨rfl,x,rfl⟩)|(go_at_call 297;refine(k_iUnpackerOk).mono ?_;rintro _ _ ⟨rfl,x,rfl⟩)|(go_at_call 343;refine(k_iPairsOk).mono ?_;rintro _ _ ⟨rfl,x,rfl⟩))
  go_ret
  exact Gives.mk (by rw[HF.out];rfl)
 have k6:decide (200<(n0:Int))=false:=by simp;omega
 have k6b:decide ((n0:Int)≤200)=true:=by simp;omega
 have T6:=lH (show decide ((bd.Offers.length:Int)≤200)=true by rw[HN0.out];exact k6b)
 clear h6
 have hd3:=HN3.out
 cases g7:recordsOk bd.Records
 ·have HF:=lH (show groundOk bd=false from groundOk_no7 g7)
  go_enter Tryz.func180,Tryz.ntmps180
  go_wp2_with (first|(go_at_call 156;refine(c_ibetween).mono ?_;rintro _ _ ⟨rfl,x,rfl⟩)|(go_at_call 277;refine(k_iSenderOkN).mono ?_;rintro _ _ ⟨rfl,x,rfl⟩)|(go_at_call 297;refine(k_iUnpackerOk).mono ?_;rintro _ _ ⟨rfl,x,rfl⟩)|(go_at_call 343;refine(k_iPairsOk).mono ?_;rintro _ _ ⟨rfl,x,rfl⟩)|(go_at_call 348;refine(k_irecordsOkN).mono ?_;rintro _ _ ⟨rfl,x,rfl⟩))
  go_ret
  exact Gives.mk (by rw[HF.out];rfl)
 have T7:=lH g7
 go_enter Tryz.func180,Tryz.ntmps180
 go_wp2_with (first|(go_at_call 156;refine(c_ibetween).mono ?_;rintro _ _ ⟨rfl,x,rfl⟩)|(go_at_call 277;refine(k_iSenderOkN).mono ?_;rintro _ _ ⟨rfl,x,rfl⟩)|(go_at_call 297;refine(k_iUnpackerOk).mono ?_;rintro _ _ ⟨rfl,x,rfl⟩)|(go_at_call 343;refine(k_iPairsOk).mono ?_;rintro _ _ ⟨rfl,x,rfl⟩)|(go_at_call 348;refine(k_irecordsOkN).mono ?_;rintro _ _ ⟨rfl,x,rfl⟩))
 clear g1 g2 g3 g4 g4b g5 k6 k6b g7 hd1 oks hzu hd2 hd3
 go_loopw [49] (fun v wr=>∃ k:Nat,v=.int .i64 k∧k≤n0∧Hid ((bd.Offers.drop k).all offerOk=bd.Offers.all offerOk)∧∃ X:Later (w.alloc (.cells #[.slice a0 n0 c0,.int .i64 bd.Sender.Next,.int .i64 bd.Sender.Window,.slice a1 n1 c1,.int .i64 bd.Sender.Done,.int .i64 bd.Notice.Expect,.bool bd.Notice.Locked,.bool bd.Notice.Again,.int .i64 bd.Unpacker.Channel,.int .i64 bd.Unpacker.Next,.bool bd.Unpacker.Synced,.string bd.Unpacker.Rest,.int .i64 bd.Unpacker.Lost,.slice a2 n2 c2,.slice a3 n3 c3,.slice a4 n4 c4,.slice a5 n5 c5] 76)),wr=X.w) (fun v _=>(n0 - intOf v).toNat)
 case atStart=>exact⟨0,rfl,by omega,rfl,Later.of⟩
 case round =>
  obtain⟨k,rfl,hk,HV,X,rfl⟩:=hrel
  by_cases h:k<n0
  ·have hkl:k<bd.Offers.length:=by have:=HN0.out;omega
   obtain⟨eb,eoff,es,rfl,ehb,ehd,eok,eh0⟩:=hs0.atStr hkl
   clear hkl
   cases d1:inB es.size 1 40
   ·have HF:=lH (show groundOk bd=false from groundOk_no8 (by have:=HV.out;rw[ehd.out,List.all_cons]at this;rw[← this,offerOk,d1]<;>rfl))
    go_wp2_with (first|(go_at_call 156;refine(c_ibetween).mono ?_;rintro _ _ ⟨rfl,x,rfl⟩))
    go_ret
    exact Gives.mk (by rw[HF.out];rfl)
   have HF:=lH (show(bd.Offers.drop (k+1)).all offerOk=bd.Offers.all offerOk by have:=HV.out;rw[ehd.out,List.all_cons]at this;rw[← this,offerOk,d1]<;>rfl)
   go_wp2_with (first|(go_at_call 156;refine(c_ibetween).mono ?_;rintro _ _ ⟨rfl,x,rfl⟩))
   go_roundw
   case rel=>exact⟨k+1,by go_num,by omega,HF,Later.of⟩
   case measure=>simp[intOf];omega
  ·have T8:=lH (show bd.Offers.all offerOk=true by have:=HV.out;rw[List.drop_of_length_le (by have:=HN0.out;omega)]at this;rw[← this];rfl)
   clear HV
   by_cases h9:n4=8
   rotate_left
   ·have k9:((n4:Int) != 8)=true:=by simp;omega
    have k9b:((n4:Int) == 8)=false:=by simp;omega
    have HF:=lH (show groundOk bd=false from groundOk_no9 (by rw[HN4.out];exact k9b))
    clear h9
    go_wp2_with (first|(go_at_call 156;refine(c_ibetween).mono ?_;rintro _ _ ⟨rfl,x,rfl⟩))
    go_ret
    exact Gives.mk (by rw[HF.out];rfl)
   subst h9
   have T9:=lH (show((bd.Files.length:Int) == 8)=true by rw[HN4.out];rfl)
   by_cases h10:n5=8
   rotate_left
   ·have k10:((n5:Int) != 8)=true:=by simp;omega
    have k10b:((n5:Int) == 8)=false:=by simp;omega
    have HF:=lH (show groundOk bd=false from groundOk_no10 (by rw[HN5.out];exact k10b))
    clear h10
    go_wp2_with (first|(go_at_call 156;refine(c_ibetween).mono ?_;rintro _ _ ⟨rfl,x,rfl⟩))
    go_ret
    exact Gives.mk (by rw[HF.out];rfl)
   subst h10
   have T10:=lH (show((bd.Told.length:Int) == 8)=true by rw[HN5.out];rfl)
   go_wp2_with (first|(go_at_call 156;refine(c_ibetween).mono ?_;rintro _ _ ⟨rfl,x,rfl⟩))
   go_loopw [71] (fun v wr=>∃ k:Nat,v=.int .i64 k∧k≤8∧Hid (filesFrom k (bd.Files.drop k)=filesFrom 0 bd.Files)∧∃ X:Later (w.alloc (.cells #[.slice a0 n0 c0,.int .i64 bd.Sender.Next,.int .i64 bd.Sender.Window,.slice a1 n1 c1,.int .i64 bd.Sender.Done,.int .i64 bd.Notice.Expect,.bool bd.Notice.Locked,.bool bd.Notice.Again,.int .i64 bd.Unpacker.Channel,.int .i64 bd.Unpacker.Next,.bool bd.Unpacker.Synced,.string bd.Unpacker.Rest,.int .i64 bd.Unpacker.Lost,.slice a2 n2 c2,.slice a3 n3 c3,.slice a4 8 c4,.slice a5 8 c5] 76)),wr=X.w) (fun v _=>(8 - intOf v).toNat)
   case atStart=>exact⟨0,rfl,by omega,rfl,Later.of⟩
   case round =>
    obtain⟨k,rfl,hk,HV,X,rfl⟩:=hrel
    by_cases h:k<8
    ·have hkl:k<bd.Files.length:=by have:=HN4.out;omega
     obtain⟨eb,eoff,es,ea0,ec0,he,ehb,ehd,eq0,eok,eh0,eh1,eh2,eh3⟩:=hs4.atTFileIn hkl
     cases he
     have EOK:=lH eok;clear eok
     clear hkl
     have hx1:=(hxf es (memDrop ehd.out)).1
     have hx2:=(hxf es (memDrop ehd.out)).2
     obtain⟨pn,hpn⟩:∃ pn,es.Parts.length=pn:=⟨_,rfl⟩
     rw[hpn]at hx1 eh3
     cases d1:fileInOkT es
     ·have HF:=lH (show groundOk bd=false from groundOk_no11 (by have:=HV.out;rw[ehd.out,filesFrom]at this;rw[← this,d1]<;>rfl))
      go_wp2_with (first|(go_at_call 230;refine(k_iFileInOk).mono ?_;rintro _ _ ⟨rfl,x,rfl⟩))
      go_ret
      exact Gives.mk (by rw[HF.out];rfl)
     cases d2:(es.File == (k:Int))
     ·have HF:=lH (show groundOk bd=false from groundOk_no11 (by have:=HV.out;rw[ehd.out,filesFrom]at this;rw[← this,d1,d2]<;>rfl))
      have d2b:(es.File != (k:Int))=true:=by rw[bne,d2];rfl
      go_wp2_with (first|(go_at_call 230;refine(k_iFileInOk).mono ?_;rintro _ _ ⟨rfl,x,rfl⟩))
      go_ret
      exact Gives.mk (by rw[HF.out];rfl)
     have d2b:(es.File != (k:Int))=false:=by rw[bne,d2];rfl
     have HF:=lH (show filesFrom (k+1) (bd.Files.drop (k+1))=filesFrom 0 bd.Files by have:=HV.out;rw[ehd.out,filesFrom]at this;rw[← this,d1,d2]<;>rfl)
     go_wp2_with (first|(go_at_call 230;refine(k_iFileInOk).mono ?_;rintro _ _ ⟨rfl,x,rfl⟩))
     go_roundw
     case rel=>exact⟨k+1,by go_num,by omega,HF,Later.of⟩
     case measure=>simp[intOf];omega
    ·have T11:=lH (show filesFrom 0 bd.Files=true by have:=HV.out;rw[List.drop_of_length_le (by have:=HN4.out;omega)]at this;rw[← this];rfl)
     clear HV
     go_wp2_with (first|(go_at_call 156;refine(c_ibetween).mono ?_;rintro _ _ ⟨rfl,x,rfl⟩))
     go_ret
     exact Gives.mk (by rw[groundOk_yes T1.out T2.out T3.out T4.out T5.out T6.out T7.out T8.out T9.out T10.out T11.out];rfl)
end Go.Proofs.YtgmikiidcpbjbaaGreat
