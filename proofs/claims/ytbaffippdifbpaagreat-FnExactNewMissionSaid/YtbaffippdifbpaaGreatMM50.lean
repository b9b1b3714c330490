/- The contracts of what draws a mission that begins: l09New. No condition. The walk of the law on NewMission. No condition but on sizes. FnExactNewMission: whatever the arguments, the program's function and the reference's return the same mission and the same Boolean; the result shares no memory with the arguments, which read as they did. No condition. -/
import Derived.Test.YtbaffippdifbpaaGreatMNewS
import Derived.Test.YtbaffippdifbpaaGreatMNewD
import Derived.Test.YtbaffippdifbpaaGreatMM46
import Derived.Test.YtbaffippdifbpaaGreatMNewI
import Derived.Test.YtbaffippdifbpaaGreatMM8
import Derived.Test.YtbaffippdifbpaaGreatMDM6
import Derived.Test.YtbaffippdifbpaaGreatMStab3
import Derived.Test.YtbaffippdifbpaaGreatMM13
import Derived.Test.YtbaffippdifbpaaGreatMM0
namespace Go.Proofs.YtbaffippdifbpaaGreat
set_option linter.unusedVariables false
open Go.ChangeShapes Go.WideShapes Go.ChangeAt Go.RowKit
def CurR(p:Nat)(a:Option Addr)(n c:Nat)(l:List Int):World→World→Prop:=fun u v=>u.grownBy v (some p)∧((∃ i,IsCur u p a n c l i)→∃ i,IsCur v p a n c l i)
theorem CurR.refl{p:Nat}{a:Option Addr}{n c:Nat}{l:List Int}(w:World):CurR p a n c l w w:=⟨grownBy_refl _ _,id⟩
theorem CurR.trans{p:Nat}{a:Option Addr}{n c:Nat}{l:List Int}(u v w:World)(h:CurR p a n c l u v)(k:CurR p a n c l v w):CurR p a n c l u w:=⟨grownBy_trans h.1 k.1,fun x=>k.2 (h.2 x)⟩
theorem CurR.drew{p:Nat}{a:Option Addr}{n c:Nat}{l:List Int}(w W:World)(h:CurR p a n c l w.drew W):CurR p a n c l w W :=
 ⟨⟨h.1.os,h.1.tape,h.1.output,h.1.size,h.1.block⟩,fun⟨i,x⟩=>h.2 ⟨i,x.drew⟩⟩
theorem CurR.of{p:Nat}{a:Option Addr}{n c:Nat}{l:List Int}{u v:World}{i:Nat}(g:u.grownBy v (some p))(h:IsCur v p a n c l i):CurR p a n c l u v:=⟨g,fun _=>⟨i,h⟩⟩
def fst2:List Value→Value
 | [.tuple t]=>t.getD 0 undef
 | _=>undef
def snd2:List Value→Value
 | [.tuple t]=>t.getD 1 undef
 | _=>undef
def one1:List Value→Value
 | [v]=>v
 | _=>undef
section
variable {p B:Nat} {a:Option Addr} {n c:Nat} {l:List Int}
end
theorem chain0{R:World→World→Prop}{Fs:EntL R}{w:World}{G:(Nat→Value)→Prop}{val:Nat→Value}(h:G val):chain Fs w G [] val:=h
theorem chain1{R:World→World→Prop}{Fs:EntL R}{w:World}{G:(Nat→Value)→Prop}{val:Nat→Value}{i:Nat}{r:List Nat}(h:∀ v,(entAt Fs i).p v w→chain Fs w G r (upd i v val)):chain Fs w G (i::r) val:=h
theorem OwnC.wr{α:Type}[E:Flat α]{B T':Nat}{χ:Nat→Col}{i:Col}{w w':World}{a:Option Addr}{c:Nat}{l:List α}(h:OwnC B χ i w a c l)(g:Wr T' w w')(hT:E.ty≠T'):OwnC B χ i w' a c l:=⟨h.own.wr g hT,h.col,h.good⟩
theorem om_wr{B o:Nat}{χ:Nat→Col}{w w':World}{vs:List Value}{m:TMission}(h:EncO.O B χ o w vs m)(g:Wr 62 w w'):EncO.O B χ o w' vs m:=by
 obtain⟨A,e,h⟩:=h
 refine⟨A,e,⟨h.o0.wr g (by decide),h.o1.wr g (by decide),h.o2.wr g (by decide),h.o3.wr g (by decide),h.o4.wr g (by decide),h.o5.wr g (by decide),h.o6.wr g (by decide),h.o7.elim fun r hr=>⟨r,hr.1,hr.2.wr g (by decide) (by decide)⟩,h.o8.wr g (by decide),h.o9.wr g (by decide),h.o10.wr g (by decide),h.o11.wr g (by decide),h.o12.wr g (by decide),h.o13.wr g (by decide),h.o14.wr g (by decide),h.o15.wr g (by decide),h.o16.wr g (by decide),h.o17.wr g (by decide),h.o18.elim fun r hr=>⟨r,hr.1,hr.2.wr g (by decide) (by decide)⟩,h.o19.wr g (by decide),h.o20.wr g (by decide),h.o21.wr g (by decide),h.ok⟩⟩
end Go.Proofs.YtbaffippdifbpaaGreat
namespace Go.Proofs.YtbaffippdifbpaaGreat
set_option linter.unusedVariables false
open Go.ChangeShapes Go.WideShapes Go.ChangeAt Go.RowKit
theorem planFrom_len2{p s l:Int}{list:List Request}:∀ {f:Nat} {t:Int} {gs:List Int},(planFrom p s l list f t gs).length≤f
 | 0,t,gs=>by simp[planFrom]
 | f+1,t,gs=>by
  rw[planFrom_step,List.length_append]
  have:=planFrom_len2 (p:=p) (s:=s) (l:=l) (list:=list) (f:=f) (t:=t+1) (gs:=stepLeft p s l list t gs)
  rcases step_cases p s l t list gs with⟨h1,-,-⟩|⟨hv,k,r,g,h1,h2,h3,h4,-,-⟩
  ·rw[h1];simp;omega
  ·rw[h4];simp;omega
theorem planAll_len2{p s l:Int}{list:List Request}:(planAll p s l list).length≤1000001:=by
 unfold planAll
 split
 ·exact planFrom_len2
 ·simp
theorem OwnC.reb{α:Type}[E:Flat α]{B b T:Nat}{χ:Nat→Col}{i:Col}{w:World}{a:Option Addr}{c:Nat}{l:List α}{cs:List Value}(h:OwnC B χ i w a c l)(hb:Held w b cs T)(hT:E.ty≠T):OwnC B (fun k=>if k=b then(1000,0)else χ k) i w a c l :=
 ⟨h.own,fun k hk=>by
  show(if k=b then((1000,0):Col)else χ k)=i
  rw[if_neg]
  ·exact h.col k hk
  ·rintro rfl
   obtain⟨D,e⟩:=h.own.tyAt k hk
   rw[show w.heap[k]?=_ from hb]at e
   cases e
   exact hT rfl,h.good⟩
theorem OwnN.reb{α β:Type}[N:Nest α β][F:Flat β]{B b T:Nat}{χ:Nat→Col}{o:Nat}{w:World}{a:Option Addr}{c:Nat}{rows:List (NRow α)}{cs:List Value}(h:OwnN B χ o w a c rows)(hb:Held w b cs T)(h1:N.ty≠T)(h2:F.ty≠T):OwnN B (fun k=>if k=b then(1000,0)else χ k) o w a c rows :=
 ⟨h.own,fun k hk=>by
  show(if k=b then((1000,0):Col)else χ k)=(o,0)
  rw[if_neg]
  ·exact h.col k hk
  ·rintro rfl
   obtain⟨D,e⟩:=h.own.tyAt k hk
   rw[show w.heap[k]?=_ from hb]at e
   cases e
   exact h1 rfl,fun k r hr=>⟨(h.each k r hr).1,(h.each k r hr).2.reb hb h2⟩⟩
theorem om_reb{B b o:Nat}{χ:Nat→Col}{w:World}{vs cs:List Value}{m:TMission}(h:EncO.O B χ o w vs m)(g:Held w b cs 62):EncO.O B (fun k=>if k=b then(1000,0)else χ k) o w vs m:=by
 obtain⟨A,e,h⟩:=h
 refine⟨A,e,⟨h.o0.reb g (by decide),h.o1.reb g (by decide),h.o2.reb g (by decide),h.o3.reb g (by decide),h.o4.reb g (by decide),h.o5.reb g (by decide),h.o6.reb g (by decide),h.o7.elim fun r hr=>⟨r,hr.1,hr.2.reb g (by decide) (by decide)⟩,h.o8.reb g (by decide),h.o9.reb g (by decide),h.o10.reb g (by decide),h.o11.reb g (by decide),h.o12.reb g (by decide),h.o13.reb g (by decide),h.o14.reb g (by decide),h.o15.reb g (by decide),h.o16.reb g (by decide),h.o17.reb g (by decide),h.o18.elim fun r hr=>⟨r,hr.1,hr.2.reb g (by decide) (by decide)⟩,h.o19.reb g (by decide),h.o20.reb g (by decide),h.o21.reb g (by decide),h.ok⟩⟩
theorem mk_below{w w' u:World}{a:Option Addr}{n c:Nat}(g:w.grownBy w' (Value.ownBlock (.slice a n c)))(hb:∀ k,blkOf a=some k→u.heap.size≤k)(h:Grows u w):Grows u w' :=
 ⟨⟨g.os.trans h.out.os,g.tape.trans h.out.tape,g.output.trans h.out.output,Nat.le_trans h.out.size g.size,fun b hl=>(g.block b (Nat.lt_of_lt_of_le hl h.out.size) (by rw[ownBlock_eq];exact fun e=>by have:=hb b e.symm;omega)).trans (h.out.block b hl)⟩⟩
theorem mk_keeps{w w':World}{a:Option Addr}{n c U:Nat}(g:w.grownBy w' (Value.ownBlock (.slice a n c)))(hb:∀ k,blkOf a=some k→k<U):Keeps U w w' :=
 ⟨g.size,fun b h1 h2=>g.block b h2 (by rw[ownBlock_eq];exact fun e=>by have:=hb b e.symm;omega)⟩
def isRq(Q:List Request)(v:Value)(w:World):Prop:=∃ a c,v=.slice a Q.length c∧Q.length≤c∧Sl encRequest w a Q
def isDs{α:Type}[Enc α](l:List α)(v:Value)(w:World):Prop:=∃ a c,v=.slice a l.length c∧RdS 0 w a c l
def isM2(U:Nat)(m:TMission)(b:Bool)(v:Value)(w:World):Prop:=∃ vs χ B,v=.tuple #[.agg vs.toArray,.bool b]∧U≤B∧B≤w.heap.size∧EncO.O B χ 0 w vs m
def eRq(Q:List Request):Ent Gr:=.of (isRq Q) (fun _ _ _ g ⟨a,c,e,h1,h2⟩=>⟨a,c,e,h1,h2.to ⟨g⟩⟩)
def eDs{α:Type}[Enc α](l:List α):Ent Gr:=.of (isDs l) (fun _ _ _ g ⟨a,c,e,h⟩=>⟨a,c,e,h.keep (@Keeps.grows 0 _ _ ⟨g⟩)⟩)
def eM2(U:Nat)(m:TMission)(b:Bool):Ent Gr:=.of (isM2 U m b) (fun _ _ _ g ⟨vs,χ,B,e,h1,h2,h3⟩=>⟨vs,χ,B,e,h1,Nat.le_trans h2 g.size,om_to h3 ⟨g⟩⟩)
set_option maxRecDepth 100000 in
set_option maxHeartbeats 16000000 in
theorem c_lFnExactNewMission{light room:Int}{ds os us ns:List Value}{d:TDrift}{o:TOrbit}{up down:TChannel}{qa la fa:Option Addr}{qn qc lc fc:Nat}{Q:List Request}{L:List TLimit}{fs:List ByteArray}{w:World}
  (h0:i64 light) (hd:Enc.Rd 0 w ds d) (ho:Enc.Rd 0 w os o) (hq:Sl encRequest w qa Q) (hqn:Q.length=qn) (hqc:qn≤qc) (hqm:qn≤9223372036854775807) (hqr:∀ r∈Q,okRequest r) (hu:Enc.Rd 0 w us up) (hn:Enc.Rd 0 w ns down) (hr:i64 room) (hl:RdS 0 w la lc L) (hf:RdS 0 w fa fc fs) :
  Calls Tryz.prog 4 #[.int .i64 light,.agg ds.toArray,.agg os.toArray,.slice qa qn qc,.agg us.toArray,.agg ns.toArray,.int .i64 room,.slice la L.length lc,.slice fa fs.length fc] w (Gives w (.bool true)):=by
 subst hqn
 obtain⟨rfl,hokd⟩:=hd
 obtain⟨rfl,hoko⟩:=ho
 obtain⟨rfl,hoku⟩:=hu
 obtain⟨rfl,hokn⟩:=hn
 have HOKd:=lH hokd;have HOKo:=lH hoko;have HOKu:=lH hoku;have HOKn:=lH hokn;clear hokd hoko hoku hokn
 have HRQ:=lH hq;have HRL:=lH hl;have HRF:=lH hf;have HQR:=lH hqr;clear hq hl hf hqr
 have t1:=totL_nonneg L;have t2:=totL_nonneg fs;have t3:=totL_len L;have t4:=totL_len fs
 by_cases h1:(1048576:Int) - Q.length<0
 ·have ht:=h1;clear h1
  go_enter Tryz.func4,Tryz.ntmps4
  go_wp2_with (first|((with_reducible refine wp_region_later (by kernel_rfl) (by kernel_rfl) ?_);(repeat(first|go_big_quiet_step (first|fail)));refine wpQuiet_nil ?_;rintro _ ⟨x,rfl⟩))
  refine(c_lszRequestS (by omega) (by omega) (by omega)).mono ?_
  rintro _ _ ⟨rfl,y0,rfl⟩
  rw[if_pos (by omega)]
  go_wp2_with (first|((with_reducible refine wp_region_later (by kernel_rfl) (by kernel_rfl) ?_);(repeat(first|go_big_quiet_step (first|fail)));refine wpQuiet_nil ?_;rintro _ ⟨x,rfl⟩))
  go_ret
  exact Gives.mk rfl
 by_cases h2:(1048576:Int) - Q.length - totL L<0
 ·have ht:=h2;clear h2
  go_enter Tryz.func4,Tryz.ntmps4
  go_wp2_with (first|((with_reducible refine wp_region_later (by kernel_rfl) (by kernel_rfl) ?_);(repeat(first|go_big_quiet_step (first|fail)));refine wpQuiet_nil ?_;rintro _ ⟨x,rfl⟩))
  refine(c_lszRequestS (by omega) (by omega) (by omega)).mono ?_
  rintro _ _ ⟨rfl,y0,rfl⟩
  rw[if_neg (by omega)]
  go_wp2_with (first|((with_reducible refine wp_region_later (by kernel_rfl) (by kernel_rfl) ?_);(repeat(first|go_big_quiet_step (first|fail)));refine wpQuiet_nil ?_;rintro _ ⟨x,rfl⟩))
  refine(d_lszLimitS (HRL.out.keep (@Keeps.grows 0 _ _ inferInstance)) (by omega) (by omega)).mono ?_
  rintro _ _ ⟨rfl,y1,rfl⟩
  rw[szD_neg (by omega)]
  go_wp2_with (first|((with_reducible refine wp_region_later (by kernel_rfl) (by kernel_rfl) ?_);(repeat(first|go_big_quiet_step (first|fail)));refine wpQuiet_nil ?_;rintro _ ⟨x,rfl⟩))
  go_ret
  exact Gives.mk rfl
 by_cases h3:(1048576:Int) - Q.length - totL L - totL fs<0
 ·have ht:=h3;clear h3
  go_enter Tryz.func4,Tryz.ntmps4
  go_wp2_with (first|((with_reducible refine wp_region_later (by kernel_rfl) (by kernel_rfl) ?_);(repeat(first|go_big_quiet_step (first|fail)));refine wpQuiet_nil ?_;rintro _ ⟨x,rfl⟩))
  refine(c_lszRequestS (by omega) (by omega) (by omega)).mono ?_
  rintro _ _ ⟨rfl,y0,rfl⟩
  rw[if_neg (by omega)]
  go_wp2_with (first|((with_reducible refine wp_region_later (by kernel_rfl) (by kernel_rfl) ?_);(repeat(first|go_big_quiet_step (first|fail)));refine wpQuiet_nil ?_;rintro _ ⟨x,rfl⟩))
  refine(d_lszLimitS (HRL.out.keep (@Keeps.grows 0 _ _ inferInstance)) (by omega) (by omega)).mono ?_
  rintro _ _ ⟨rfl,y1,rfl⟩
  rw[szD_pos (by omega)]
  go_wp2_with (first|((with_reducible refine wp_region_later (by kernel_rfl) (by kernel_rfl) ?_);(repeat(first|go_big_quiet_step (first|fail)));refine wpQuiet_nil ?_;rintro _ ⟨x,rfl⟩))
  refine(d_lszStringS (HRF.out.keep (@Keeps.grows 0 _ _ inferInstance)) (by omega) (by omega)).mono ?_
  rintro _ _ ⟨rfl,y2,rfl⟩
  rw[szD_neg (by omega)]
  go_wp2_with (first|((with_reducible refine wp_region_later (by kernel_rfl) (by kernel_rfl) ?_);(repeat(first|go_big_quiet_step (first|fail)));refine wpQuiet_nil ?_;rintro _ ⟨x,rfl⟩))
  go_ret
  exact Gives.mk rfl
 have HQM:=lH (show Q.length≤1048576 by omega);have HLM:=lH (show L.length≤1048576 by omega);have HFM:=lH (show fs.length≤1048576 by omega)
 have HTL:=lH (show totL L≤1048576 by omega);have HTS:=lH (show totL fs≤1048576 by omega)
 have HPN:=lH (show(planAll o.Period o.Start o.Length Q).length≤1048576 from Nat.le_trans planAll_len2 (by decide))
 have HPL:=lH (plan_okD (p:=o.Period) (s:=o.Start) (l:=o.Length) (Q:=Q) (fun r hr=>⟨(HQR.out r hr).1,(HQR.out r hr).2.1,(HQR.out r hr).2.2.1⟩))
 have HOKM:=lH (newM_okD (pl:=planAll o.Period o.Start o.Length Q) (L:=L) (fs:=fs) h0 HOKd.out HOKo.out HOKu.out HOKn.out hr)
 have HTT:=lH (show Enc.tot (newM light d o (planAll o.Period o.Start o.Length Q) up down room L fs)≤100000000 by rw[newM_tot];have:=HPN.out;omega)
 obtain⟨fm,hfm⟩:∃ fm,newMission light d o (planAll o.Period o.Start o.Length Q) up down room L fs=fm:=⟨_,rfl⟩
 have HF:=lH hfm;clear hfm
 obtain⟨b2,hb2⟩:∃ b2,newOk light d o (planAll o.Period o.Start o.Length Q) up down room L fs=b2:=⟨_,rfl⟩
 have HB2:=lH hb2;clear hb2
 have HTF:=lH (show Enc.tot fm≤100000000 by rw[← HF.out];unfold newMission;split;exact HTT.out;exact(by decide))
 obtain⟨K,hK⟩:∃ K,mnMMission fm 1=K:=⟨_,rfl⟩
 have hKb:=mnMMission_le fm 1
 rw[hK]at hKb
 have hK1:1≤K:=hKb.1
 have hK2:¬ K<0:=by omega
 have HK:=lH hK;clear hK hKb
 have kb:(K != K)=false:=by simp
 have kbb:(b2 != b2)=false:=by simp
 have HBd0:=lH ((Held.new w [.int .i64 d.Rate,.int .i64 d.Offset] 70 w.heap.size rfl).to (inferInstance:Grows _ ((((w.alloc (.cells #[.int .i64 d.Rate,.int .i64 d.Offset] 70)).alloc (.cells #[.int .i64 o.Period,.int .i64 o.Start,.int .i64 o.Length] 71)).alloc (.cells #[.int .i64 up.Seed,.int .i64 up.Burst,.int .i64 up.Loss] 73)).alloc (.cells #[.int .i64 down.Seed,.int .i64 down.Burst,.int .i64 down.Loss] 73))))
 have HBo0:=lH ((Held.new (w.alloc (.cells #[.int .i64 d.Rate,.int .i64 d.Offset] 70)) [.int .i64 o.Period,.int .i64 o.Start,.int .i64 o.Length] 71 (w.heap.size+1) (by simp)).to (inferInstance:Grows _ ((((w.alloc (.cells #[.int .i64 d.Rate,.int .i64 d.Offset] 70)).alloc (.cells #[.int .i64 o.Period,.int .i64 o.Start,.int .i64 o.Length] 71)).alloc (.cells #[.int .i64 up.Seed,.int .i64 up.Burst,.int .i64 up.Loss] 73)).alloc (.cells #[.int .i64 down.Seed,.int .i64 down.Burst,.int .i64 down.Loss] 73))))
 have HBu0:=lH ((Held.new ((w.alloc (.cells #[.int .i64 d.Rate,.int .i64 d.Offset] 70)).alloc (.cells #[.int .i64 o.Period,.int .i64 o.Start,.int .i64 o.Length] 71)) [.int .i64 up.Seed,.int .i64 up.Burst,.int .i64 up.Loss] 73 (w.heap.size+2) (by simp)).to (inferInstance:Grows _ ((((w.alloc (.cells #[.int .i64 d.Rate,.int .i64 d.Offset] 70)).alloc (.cells #[.int .i64 o.Period,.int .i64 o.Start,.int .i64 o.Length] 71)).alloc (.cells #[.int .i64 up.Seed,.int .i64 up.Burst,.int .i64 up.Loss] 73)).alloc (.cells #[.int .i64 down.Seed,.int .i64 down.Burst,.int .i64 down.Loss] 73))))
 have HBn0:=lH (Held.new (((w.alloc (.cells #[.int .i64 d.Rate,.int .i64 d.Offset] 70)).alloc (.cells #[.int .i64 o.Period,.int .i64 o.Start,.int .i64 o.Length] 71)).alloc (.cells #[.int .i64 up.Seed,.int .i64 up.Burst,.int .i64 up.Loss] 73)) [.int .i64 down.Seed,.int .i64 down.Burst,.int .i64 down.Loss] 73 (w.heap.size+3) (by simp))
 go_enter Tryz.func4,Tryz.ntmps4
 go_wp2_with (first|((with_reducible refine wp_region_later (by kernel_rfl) (by kernel_rfl) ?_);(repeat(first|go_big_quiet_step (first|fail)));refine wpQuiet_nil ?_;rintro _ ⟨x,rfl⟩))
 refine(c_lszRequestS (by omega) (by omega) (by omega)).mono ?_
 rintro _ _ ⟨rfl,y0,rfl⟩
 rw[if_neg (by omega)]
 go_wp2_with (first|((with_reducible refine wp_region_later (by kernel_rfl) (by kernel_rfl) ?_);(repeat(first|go_big_quiet_step (first|fail)));refine wpQuiet_nil ?_;rintro _ ⟨x,rfl⟩))
 refine(d_lszLimitS (HRL.out.keep (@Keeps.grows 0 _ _ inferInstance)) (by omega) (by omega)).mono ?_
 rintro _ _ ⟨rfl,y1,rfl⟩
 rw[szD_pos (by omega)]
 go_wp2_with (first|((with_reducible refine wp_region_later (by kernel_rfl) (by kernel_rfl) ?_);(repeat(first|go_big_quiet_step (first|fail)));refine wpQuiet_nil ?_;rintro _ ⟨x,rfl⟩))
 refine(d_lszStringS (HRF.out.keep (@Keeps.grows 0 _ _ inferInstance)) (by omega) (by omega)).mono ?_
 rintro _ _ ⟨rfl,y2,rfl⟩
 rw[szD_pos (by omega)]
 obtain⟨V0,hV0⟩:∃ v:Later ((((w.alloc (.cells #[.int .i64 d.Rate,.int .i64 d.Offset] 70)).alloc (.cells #[.int .i64 o.Period,.int .i64 o.Start,.int .i64 o.Length] 71)).alloc (.cells #[.int .i64 up.Seed,.int .i64 up.Burst,.int .i64 up.Loss] 73)).alloc (.cells #[.int .i64 down.Seed,.int .i64 down.Burst,.int .i64 down.Loss] 73)),y2.w=v.w:=Later.ofG inferInstance
 rw[hV0];clear hV0
 obtain⟨W0,hW0⟩:∃ W0,V0.w=W0:=⟨_,rfl⟩
 have HG0:=lH (show Grows ((((w.alloc (.cells #[.int .i64 d.Rate,.int .i64 d.Offset] 70)).alloc (.cells #[.int .i64 o.Period,.int .i64 o.Start,.int .i64 o.Length] 71)).alloc (.cells #[.int .i64 up.Seed,.int .i64 up.Burst,.int .i64 up.Loss] 73)).alloc (.cells #[.int .i64 down.Seed,.int .i64 down.Burst,.int .i64 down.Loss] 73)) W0 from hW0▸inferInstance)
 rw[hW0];clear hW0
 haveI:Grows w W0:=growsTr (inferInstance:Grows w ((((w.alloc (.cells #[.int .i64 d.Rate,.int .i64 d.Offset] 70)).alloc (.cells #[.int .i64 o.Period,.int .i64 o.Start,.int .i64 o.Length] 71)).alloc (.cells #[.int .i64 up.Seed,.int .i64 up.Burst,.int .i64 up.Loss] 73)).alloc (.cells #[.int .i64 down.Seed,.int .i64 down.Burst,.int .i64 down.Loss] 73))) HG0.out
 have HBd:=lH (HBd0.out.to (HG0.out:Grows _ W0));have HBo:=lH (HBo0.out.to (HG0.out:Grows _ W0));have HBu:=lH (HBu0.out.to (HG0.out:Grows _ W0));have HBn:=lH (HBn0.out.to (HG0.out:Grows _ W0))
 go_wp2_with (first|((with_reducible refine wp_region_later (by kernel_rfl) (by kernel_rfl) ?_);(repeat(first|go_big_quiet_step (first|fail)));refine wpQuiet_nil ?_;rintro _ ⟨x,rfl⟩))
 (try simp only[Act.put])
 refine wp_region_stabZ (by kernel_rfl) (T:=[21,22]) (Zs:=[(19,[6,13,15,16])]) (H:=[(1,[]),(2,[]),(3,[]),(4,[]),(6,[]),(7,[]),(8,[6]),(9,[]),(10,[6]),(13,[6]),(15,[6,13]),(16,[6,13,15]),(17,[6,13,15,16]),(18,[6,13,15,16]),(19,[6,13,15,16]),(20,[])]) (C:=[6,13,15,16,20]) (Fs:=[(some 48,.v (.int .i64 light)),(some 49,.v (.agg #[.int .i64 d.Rate,.int .i64 d.Offset])),(some 50,.v (.agg #[.int .i64 d.Rate,.int .i64 d.Offset])),(some 51,.v (.agg #[.int .i64 o.Period,.int .i64 o.Start,.int .i64 o.Length])),(some 52,.v (.agg #[.int .i64 o.Period,.int .i64 o.Start,.int .i64 o.Length])),(some 53,.v (.slice qa Q.length qc)),(some 54,eRq Q),(some 55,.v (.agg #[.int .i64 up.Seed,.int .i64 up.Burst,.int .i64 up.Loss])),(some 56,.v (.agg #[.int .i64 up.Seed,.int .i64 up.Burst,.int .i64 up.Loss])),(some 57,.v (.agg #[.int .i64 down.Seed,.int .i64 down.Burst,.int .i64 down.Loss])),(some 58,.v (.agg #[.int .i64 down.Seed,.int .i64 down.Burst,.int .i64 down.Loss])),(some 59,.v (.int .i64 room)),(some 60,.v (.slice la L.length lc)),(some 61,eDs L),(some 62,.v (.slice fa fs.length fc)),(some 63,eDs fs),(some 64,eM2 W0.heap.size fm b2),(some 47,.fn [16] one1),(some 65,.fn [16] fst2),(some 66,.fn [16] snd2),(some 20,.box W0.heap.size nmZ 62),(none,.v undef),(none,.v undef)]) (by kernel_rfl) (fun val W=>by kernel_rfl) ?obw ?lzw ?pnw ?tlw
 case obw =>
  refine⟨fun x=>?_,fun x=>?_,fun x=>?_,fun x=>?_,fun x=>?_,fun x=>?_,fun x=>?_,fun x=>?_,fun x=>?_,fun x=>?_,fun x=>?_,fun x=>?_,fun x=>?_,fun x=>?_,fun x=>?_,fun x=>?_,trivial⟩
  ·exact g_row (o:=0) (HBd.out.to (inferInstance:Grows _ x.w)) rfl (by kernel_rfl) _ Tryz.underlying70 rfl (by kernel_rfl) (by kernel_rfl)
  ·refine g_call (f:=18) (args:=[.agg #[.int .i64 d.Rate,.int .i64 d.Offset]]) Tryz.func18 (by kernel_rfl) (by kernel_rfl) ((d_ltoDrift (x:=d) (vs:=[.int .i64 d.Rate,.int .i64 d.Offset]) (B:=0) ⟨rfl,HOKd.out⟩ (by show(0:Int)≤_;decide)).mono ?_)
   rintro _ _ ⟨_,rfl,⟨rfl,-⟩,y,rfl⟩
   exact⟨_,rfl,⟨y,rfl⟩,rfl⟩
  ·exact g_row (o:=0) (HBo.out.to (inferInstance:Grows _ x.w)) rfl (by kernel_rfl) _ Tryz.underlying71 rfl (by kernel_rfl) (by kernel_rfl)
  ·refine g_call (f:=19) (args:=[.agg #[.int .i64 o.Period,.int .i64 o.Start,.int .i64 o.Length]]) Tryz.func19 (by kernel_rfl) (by kernel_rfl) ((d_ltoOrbit (x:=o) (vs:=[.int .i64 o.Period,.int .i64 o.Start,.int .i64 o.Length]) (B:=0) ⟨rfl,HOKo.out⟩ (by show(0:Int)≤_;decide)).mono ?_)
   rintro _ _ ⟨_,rfl,⟨rfl,-⟩,y,rfl⟩
   exact⟨_,rfl,⟨y,rfl⟩,rfl⟩
  ·refine g_call (f:=20) (args:=[.slice qa Q.length qc]) Tryz.func20 (by kernel_rfl) (by kernel_rfl) ((c_ltoRequestS (HRQ.out.to (inferInstance:Grows _ x.w)) rfl HQM.out).mono ?_)
   rintro _ _ ⟨a6,c6,rfl,o6,y,rfl⟩
   exact⟨_,rfl,⟨y,rfl⟩,a6,c6,rfl,o6.cap,o6.sl⟩
  ·exact g_row (o:=0) (HBu.out.to (inferInstance:Grows _ x.w)) rfl (by kernel_rfl) _ Tryz.underlying73 rfl (by kernel_rfl) (by kernel_rfl)
  ·refine chain1 fun v6 q6=>chain0 ?_
   refine g_call (f:=21) (args:=[.agg #[.int .i64 up.Seed,.int .i64 up.Burst,.int .i64 up.Loss]]) Tryz.func21 (by kernel_rfl) (by kernel_rfl) ((d_ltoChannel (x:=up) (vs:=[.int .i64 up.Seed,.int .i64 up.Burst,.int .i64 up.Loss]) (B:=0) ⟨rfl,HOKu.out⟩ (by show(0:Int)≤_;decide)).mono ?_)
   rintro _ _ ⟨_,rfl,⟨rfl,-⟩,y,rfl⟩
   exact⟨_,rfl,⟨y,rfl⟩,rfl⟩
  ·exact g_row (o:=0) (HBn.out.to (inferInstance:Grows _ x.w)) rfl (by kernel_rfl) _ Tryz.underlying73 rfl (by kernel_rfl) (by kernel_rfl)
  ·refine chain1 fun v6 q6=>chain0 ?_
   refine g_call (f:=21) (args:=[.agg #[.int .i64 down.Seed,.int .i64 down.Burst,.int .i64 down.Loss]]) Tryz.func21 (by kernel_rfl) (by kernel_rfl) ((d_ltoChannel (x:=down) (vs:=[.int .i64 down.Seed,.int .i64 down.Burst,.int .i64 down.Loss]) (B:=0) ⟨rfl,HOKn.out⟩ (by show(0:Int)≤_;decide)).mono ?_)
   rintro _ _ ⟨_,rfl,⟨rfl,-⟩,y,rfl⟩
   exact⟨_,rfl,⟨y,rfl⟩,rfl⟩
  ·refine chain1 fun v6 q6=>chain0 ?_
   refine g_call (f:=22) (args:=[.slice la L.length lc]) Tryz.func22 (by kernel_rfl) (by kernel_rfl) ((o_ltoLimitS (HRL.out.keep (@Keeps.grows 0 _ _ (inferInstance:Grows _ x.w))) HTL.out).mono ?_)
   rintro _ _ ⟨a9,c9,rfl,o9,y,rfl⟩
   exact⟨_,rfl,⟨y,rfl⟩,a9,c9,rfl,o9.rd.mono (Nat.zero_le _)⟩
  ·refine chain1 fun v6 q6=>chain1 fun v13 q13=>chain0 ?_
   refine g_call (f:=23) (args:=[.slice fa fs.length fc]) Tryz.func23 (by kernel_rfl) (by kernel_rfl) ((o_ltoStringS (HRF.out.keep (@Keeps.grows 0 _ _ (inferInstance:Grows _ x.w))) HTS.out).mono ?_)
   rintro _ _ ⟨a9,c9,rfl,o9,y,rfl⟩
   exact⟨_,rfl,⟨y,rfl⟩,a9,c9,rfl,o9.rd.mono (Nat.zero_le _)⟩
  ·refine chain1 fun v6 q6=>chain1 fun v13 q13=>chain1 fun v15 q15=>chain0 ?_
   obtain⟨a6,c6,rfl,hc6,hs6⟩:=(show isRq Q v6 x.w from q6)
   obtain⟨a13,c13,rfl,h13⟩:=(show isDs L v13 x.w from q13)
   obtain⟨a15,c15,rfl,h15⟩:=(show isDs fs v15 x.w from q15)
   refine g_call (f:=17) (args:=[.int .i64 light,.agg #[.int .i64 d.Rate,.int .i64 d.Offset],.agg #[.int .i64 o.Period,.int .i64 o.Start,.int .i64 o.Length],.slice a6 Q.length c6,.agg #[.int .i64 up.Seed,.int .i64 up.Burst,.int .i64 up.Loss],.agg #[.int .i64 down.Seed,.int .i64 down.Burst,.int .i64 down.Loss],.int .i64 room,.slice a13 L.length c13,.slice a15 fs.length c15]) Tryz.func17 (by kernel_rfl) (by kernel_rfl) ((o_sNewMission (light:=light) (d:=d) (o:=o) (up:=up) (down:=down) (room:=room) (Q:=Q) (L:=L) (fs:=fs) hs6 rfl hc6 HQM.out h13 rfl HLM.out h15 rfl HFM.out HOKM.out HPL.out HPN.out HTT.out).mono ?_)
   rintro _ _ ⟨vs,χ,rfl,hO,y,rfl⟩
   rw[HF.out]at hO
   rw[HB2.out]
   exact⟨_,rfl,⟨y,rfl⟩,vs,χ,_,rfl,LeN.out,y.size_le,hO⟩
  ·refine chain1 fun v6 q6=>chain1 fun v13 q13=>chain1 fun v15 q15=>chain1 fun v16 q16=>chain0 ?_
   obtain⟨vs,χ,B9,rfl,-⟩:=(show isM2 W0.heap.size fm b2 v16 x.w from q16)
   exact g_fn (k:=17) (by kernel_rfl) (by kernel_rfl)
  ·refine chain1 fun v6 q6=>chain1 fun v13 q13=>chain1 fun v15 q15=>chain1 fun v16 q16=>chain0 ?_
   obtain⟨vs,χ,B9,rfl,-⟩:=(show isM2 W0.heap.size fm b2 v16 x.w from q16)
   exact g_fn (k:=18) (by kernel_rfl) (by kernel_rfl)
  ·refine chain1 fun v6 q6=>chain1 fun v13 q13=>chain1 fun v15 q15=>chain1 fun v16 q16=>chain0 ?_
   obtain⟨vs,χ,B9,rfl,-⟩:=(show isM2 W0.heap.size fm b2 v16 x.w from q16)
   exact g_fn (k:=19) (by kernel_rfl) (by kernel_rfl)
  ·exact g_box rfl (by kernel_rfl) LeN.out
 case lzw =>
  refine⟨fun W hW=>?_,trivial⟩
  refine chain1 fun v6 q6=>chain1 fun v13 q13=>chain1 fun v15 q15=>chain1 fun v16 q16=>chain0 ?_
  obtain⟨vs,χ,B9,rfl,-⟩:=(show isM2 W0.heap.size fm b2 v16 W from q16)
  intro W2
  kernel_rfl
 case pnw=>exact fun _ _ _ _ _ _ h=>h
 case tlw =>
  intro xw
  refine chain1 fun v6 q6=>chain1 fun v13 q13=>chain1 fun v15 q15=>chain1 fun v16 q16=>chain1 fun v20 q20=>?_
  obtain⟨vsw,χw,Bw,rfl,hUw,hBBw,hOw⟩:=(show isM2 W0.heap.size fm b2 v16 xw.w from q16)
  obtain⟨bw,rfl,hbw,hBxw⟩:=(show ∃ b,v20=.pointer (some ⟨b,0,none⟩)∧W0.heap.size≤b∧Held xw.w b nmZ 62 from q20)
  clear q6 q13 q15 q16 q20
  have HLw:=lH (len_mission (EncO.toRd hOw));have HOnw:=lH (one_mission (EncO.toRd hOw));have HOOw:=lH hOw;clear hOw
  refine tail2 rfl rfl ?_
  simp only[put_nrm,put_nrm2,List.map,one1,fst2,snd2]
  simp only[Act.put,List.setIfInBounds_toArray,List.set_cons_succ,List.set_cons_zero,if_true,if_false,Nat.reduceEqDiff,Nat.reduceAdd]
  go_wp2_with (first|((with_reducible refine wp_region_later (by kernel_rfl) (by kernel_rfl) ?_);(repeat(first|go_big_quiet_step (first|fail)));refine wpQuiet_nil ?_;rintro _ ⟨x,rfl⟩)|(refine stepStore2 rfl _ _ _ rfl bw 0 rfl (us:=vsw) (cs2:=vsw) hBxw ?cz1w ?cz2w ?cz3w ?cz4w ?cz5w (w0:=W0) inferInstance hbw ?_;(case cz1w=>rfl);(case cz2w=>(rw[HLw.out];kernel_rfl));(case cz3w=>exact HOnw.out);(case cz4w=>(rw[HLw.out];exact Nat.le_of_ble_eq_true rfl));(case cz5w=>exact splice_all HLw.out);intro zw hx kx;have HXw:=lH hx;clear hx;have KXw:=lH kx;clear kx))
  have hsw:=KXw.out.size
  have HZw:=lH (om_wr HOOw.out (Wr.box hBxw (KXw.out.grown1 inferInstance)));clear HOOw KXw hBxw
  have HWR:=lH (Enc.mono (EncO.toRd HZw.out) (Nat.zero_le _));clear HZw HBd HBo HBu HBn
  refine(c_ltoRequestS (HRQ.out.to inferInstance) rfl HQM.out).mono ?_
  rintro _ _ ⟨a3,c3,rfl,o3,y3,rfl⟩
  have HX3:=lH o3;clear o3
  go_wp2_with (first|((with_reducible refine wp_region_later (by kernel_rfl) (by kernel_rfl) ?_);(repeat(first|go_big_quiet_step (first|fail)));refine wpQuiet_nil ?_;rintro _ ⟨x,rfl⟩))
  refine(o_ltoLimitS (HRL.out.keep (@Keeps.grows 0 _ _ inferInstance)) HTL.out).mono ?_
  rintro _ _ ⟨a7,c7,rfl,o7,y7,rfl⟩
  have HX7:=lH o7;clear o7
  go_wp2_with (first|((with_reducible refine wp_region_later (by kernel_rfl) (by kernel_rfl) ?_);(repeat(first|go_big_quiet_step (first|fail)));refine wpQuiet_nil ?_;rintro _ ⟨x,rfl⟩))
  refine(o_ltoStringS (HRF.out.keep (@Keeps.grows 0 _ _ inferInstance)) HTS.out).mono ?_
  rintro _ _ ⟨a8,c8,rfl,o8,y8,rfl⟩
  have HX8:=lH o8;clear o8
  go_wp2_with (first|((with_reducible refine wp_region_later (by kernel_rfl) (by kernel_rfl) ?_);(repeat(first|go_big_quiet_step (first|fail)));refine wpQuiet_nil ?_;rintro _ ⟨x,rfl⟩))
  have HBd:=lH (HBd0.out.to (growsTr HG0.out (inferInstance:Grows W0 y8.w)));have HBo:=lH (HBo0.out.to (growsTr HG0.out (inferInstance:Grows W0 y8.w)));have HBu:=lH (HBu0.out.to (growsTr HG0.out (inferInstance:Grows W0 y8.w)));have HBn:=lH (HBn0.out.to (growsTr HG0.out (inferInstance:Grows W0 y8.w)))
  (try simp only[Act.put])
  refine wp_region_stabZ (by kernel_rfl) (T:=[18,19]) (Zs:=[(16,[13])]) (H:=[(1,[]),(2,[]),(3,[]),(4,[]),(6,[]),(7,[]),(8,[]),(9,[]),(13,[]),(14,[13]),(15,[13]),(16,[13]),(17,[])]) (C:=[13,17]) (Fs:=[(some 74,.v (.int .i64 light)),(some 75,.v (.agg #[.int .i64 d.Rate,.int .i64 d.Offset])),(some 76,.v (.agg #[.int .i64 d.Rate,.int .i64 d.Offset])),(some 77,.v (.agg #[.int .i64 o.Period,.int .i64 o.Start,.int .i64 o.Length])),(some 78,.v (.agg #[.int .i64 o.Period,.int .i64 o.Start,.int .i64 o.Length])),(some 79,.v (.slice a3 Q.length c3)),(some 80,.v (.agg #[.int .i64 up.Seed,.int .i64 up.Burst,.int .i64 up.Loss])),(some 81,.v (.agg #[.int .i64 up.Seed,.int .i64 up.Burst,.int .i64 up.Loss])),(some 82,.v (.agg #[.int .i64 down.Seed,.int .i64 down.Burst,.int .i64 down.Loss])),(some 83,.v (.agg #[.int .i64 down.Seed,.int .i64 down.Burst,.int .i64 down.Loss])),(some 84,.v (.int .i64 room)),(some 85,.v (.slice a7 L.length c7)),(some 86,.v (.slice a8 fs.length c8)),(some 87,eM2 y8.w.heap.size fm b2),(some 73,.fn [13] one1),(some 88,.fn [13] fst2),(some 89,.fn [13] snd2),(some 25,.box y8.w.heap.size nmZ 62),(none,.v undef),(none,.v undef)]) (by kernel_rfl) (fun val W=>by kernel_rfl) ?obg ?lzg ?png ?tlg
  case obg =>
   refine⟨fun x=>?_,fun x=>?_,fun x=>?_,fun x=>?_,fun x=>?_,fun x=>?_,fun x=>?_,fun x=>?_,fun x=>?_,fun x=>?_,fun x=>?_,fun x=>?_,fun x=>?_,trivial⟩
   ·exact g_row (o:=0) (HBd.out.to (inferInstance:Grows _ x.w)) rfl (by kernel_rfl) _ Tryz.underlying70 rfl (by kernel_rfl) (by kernel_rfl)
   ·refine g_call (f:=18) (args:=[.agg #[.int .i64 d.Rate,.int .i64 d.Offset]]) Tryz.func18 (by kernel_rfl) (by kernel_rfl) ((d_ltoDrift (x:=d) (vs:=[.int .i64 d.Rate,.int .i64 d.Offset]) (B:=0) ⟨rfl,HOKd.out⟩ (by show(0:Int)≤_;decide)).mono ?_)
    rintro _ _ ⟨_,rfl,⟨rfl,-⟩,y,rfl⟩
    exact⟨_,rfl,⟨y,rfl⟩,rfl⟩
   ·exact g_row (o:=0) (HBo.out.to (inferInstance:Grows _ x.w)) rfl (by kernel_rfl) _ Tryz.underlying71 rfl (by kernel_rfl) (by kernel_rfl)
   ·refine g_call (f:=19) (args:=[.agg #[.int .i64 o.Period,.int .i64 o.Start,.int .i64 o.Length]]) Tryz.func19 (by kernel_rfl) (by kernel_rfl) ((d_ltoOrbit (x:=o) (vs:=[.int .i64 o.Period,.int .i64 o.Start,.int .i64 o.Length]) (B:=0) ⟨rfl,HOKo.out⟩ (by show(0:Int)≤_;decide)).mono ?_)
    rintro _ _ ⟨_,rfl,⟨rfl,-⟩,y,rfl⟩
    exact⟨_,rfl,⟨y,rfl⟩,rfl⟩
   ·exact g_row (o:=0) (HBu.out.to (inferInstance:Grows _ x.w)) rfl (by kernel_rfl) _ Tryz.underlying73 rfl (by kernel_rfl) (by kernel_rfl)
   ·refine g_call (f:=21) (args:=[.agg #[.int .i64 up.Seed,.int .i64 up.Burst,.int .i64 up.Loss]]) Tryz.func21 (by kernel_rfl) (by kernel_rfl) ((d_ltoChannel (x:=up) (vs:=[.int .i64 up.Seed,.int .i64 up.Burst,.int .i64 up.Loss]) (B:=0) ⟨rfl,HOKu.out⟩ (by show(0:Int)≤_;decide)).mono ?_)
    rintro _ _ ⟨_,rfl,⟨rfl,-⟩,y,rfl⟩
    exact⟨_,rfl,⟨y,rfl⟩,rfl⟩
   ·exact g_row (o:=0) (HBn.out.to (inferInstance:Grows _ x.w)) rfl (by kernel_rfl) _ Tryz.underlying73 rfl (by kernel_rfl) (by kernel_rfl)
   ·refine g_call (f:=21) (args:=[.agg #[.int .i64 down.Seed,.int .i64 down.Burst,.int .i64 down.Loss]]) Tryz.func21 (by kernel_rfl) (by kernel_rfl) ((d_ltoChannel (x:=down) (vs:=[.int .i64 down.Seed,.int .i64 down.Burst,.int .i64 down.Loss]) (B:=0) ⟨rfl,HOKn.out⟩ (by show(0:Int)≤_;decide)).mono ?_)
    rintro _ _ ⟨_,rfl,⟨rfl,-⟩,y,rfl⟩
    exact⟨_,rfl,⟨y,rfl⟩,rfl⟩
   ·refine g_call (f:=11) (args:=[.int .i64 light,.agg #[.int .i64 d.Rate,.int .i64 d.Offset],.agg #[.int .i64 o.Period,.int .i64 o.Start,.int .i64 o.Length],.slice a3 Q.length c3,.agg #[.int .i64 up.Seed,.int .i64 up.Burst,.int .i64 up.Loss],.agg #[.int .i64 down.Seed,.int .i64 down.Burst,.int .i64 down.Loss],.int .i64 room,.slice a7 L.length c7,.slice a8 fs.length c8]) Tryz.func11 (by kernel_rfl) (by kernel_rfl) ((o_iNewMission (light:=light) (d:=d) (o:=o) (up:=up) (down:=down) (room:=room) (Q:=Q) (L:=L) (fs:=fs) (HX3.out.sl.to (inferInstance:Grows _ x.w)) rfl HX3.out.cap HQM.out (HX7.out.rd.keep (@Keeps.grows _ _ _ (inferInstance:Grows _ x.w))) rfl HLM.out (HX8.out.rd.keep (@Keeps.grows _ _ _ (inferInstance:Grows _ x.w))) rfl HFM.out HOKM.out HPL.out HPN.out HTT.out).mono ?_)
    rintro _ _ ⟨vs,χ,rfl,hO,y,rfl⟩
    rw[HF.out]at hO
    rw[HB2.out]
    exact⟨_,rfl,⟨y,rfl⟩,vs,χ,_,rfl,LeN.out,y.size_le,hO⟩
   ·refine chain1 fun v13 q13=>chain0 ?_
    obtain⟨vs,χ,B9,rfl,-⟩:=(show isM2 y8.w.heap.size fm b2 v13 x.w from q13)
    exact g_fn (k:=14) (by kernel_rfl) (by kernel_rfl)
   ·refine chain1 fun v13 q13=>chain0 ?_
    obtain⟨vs,χ,B9,rfl,-⟩:=(show isM2 y8.w.heap.size fm b2 v13 x.w from q13)
    exact g_fn (k:=15) (by kernel_rfl) (by kernel_rfl)
   ·refine chain1 fun v13 q13=>chain0 ?_
    obtain⟨vs,χ,B9,rfl,-⟩:=(show isM2 y8.w.heap.size fm b2 v13 x.w from q13)
    exact g_fn (k:=16) (by kernel_rfl) (by kernel_rfl)
   ·exact g_box rfl (by kernel_rfl) LeN.out
  case lzg =>
   refine⟨fun W hW=>?_,trivial⟩
   refine chain1 fun v13 q13=>chain0 ?_
   obtain⟨vs,χ,B9,rfl,-⟩:=(show isM2 y8.w.heap.size fm b2 v13 W from q13)
   intro W2
   kernel_rfl
  case png=>exact fun _ _ _ _ _ _ h=>h
  case tlg =>
   intro xg
   refine chain1 fun v13 q13=>chain1 fun v17 q17=>?_
   obtain⟨vsg,χg,Bg,rfl,hUg,hBBg,hOg⟩:=(show isM2 y8.w.heap.size fm b2 v13 xg.w from q13)
   obtain⟨bg,rfl,hbg,hBxg⟩:=(show ∃ b,v17=.pointer (some ⟨b,0,none⟩)∧y8.w.heap.size≤b∧Held xg.w b nmZ 62 from q17)
   clear q13 q17
   have HLg:=lH (len_mission (EncO.toRd hOg));have HOng:=lH (one_mission (EncO.toRd hOg));have HOOg:=lH hOg;clear hOg
   refine tail2 rfl rfl ?_
   simp only[put_nrm,put_nrm2,List.map,one1,fst2,snd2]
   simp only[Act.put,List.setIfInBounds_toArray,List.set_cons_succ,List.set_cons_zero,if_true,if_false,Nat.reduceEqDiff,Nat.reduceAdd]
   go_wp2_with (first|((with_reducible refine wp_region_later (by kernel_rfl) (by kernel_rfl) ?_);(repeat(first|go_big_quiet_step (first|fail)|simp only[kbb]));refine wpQuiet_nil ?_;rintro _ ⟨x,rfl⟩)|(refine stepStore2 rfl _ _ _ rfl bg 0 rfl (us:=vsg) (cs2:=vsg) hBxg ?cz1g ?cz2g ?cz3g ?cz4g ?cz5g (w0:=y8.w) inferInstance hbg ?_;(case cz1g=>rfl);(case cz2g=>(rw[HLg.out];kernel_rfl));(case cz3g=>exact HOng.out);(case cz4g=>(rw[HLg.out];exact Nat.le_of_ble_eq_true rfl));(case cz5g=>exact splice_all HLg.out);intro zg hx kx;have HXg:=lH hx;clear hx;have KXg:=lH kx;clear kx)|(refine stepLoad rfl _ _ rfl _ 0 rfl (row:=vsg) (HXg.out.to inferInstance) _ Tryz.underlying62 rfl (by rw[HLg.out];kernel_rfl) (by rw[List.drop_zero,List.take_length]) ?_)|(refine stepLoad rfl _ _ rfl _ 0 rfl (row:=vsw) (HXw.out.to inferInstance) _ Tryz.underlying62 rfl (by rw[HLw.out];kernel_rfl) (by rw[List.drop_zero,List.take_length]) ?_))
   have hsg:=KXg.out.size
   have HZg:=lH (om_wr HOOg.out (Wr.box hBxg (KXg.out.grown1 inferInstance)));clear HOOg KXg hBxg
   clear HBd HBo HBu HBn
   refine(d_leqMission (x:=fm) (EncO.toRd HZg.out) (Enc.keep HWR.out (@Keeps.grows 0 _ _ inferInstance))).mono ?_
   rintro _ _ ⟨rfl,y9,rfl⟩
   obtain⟨V4,hV4⟩:∃ V4,y9.w=V4:=⟨_,rfl⟩
   have HG4:=lH (show Grows zg.w V4 from hV4▸inferInstance)
   rw[hV4];clear hV4
   haveI:Grows w V4:=growsTr (inferInstance:Grows w zg.w) HG4.out;haveI:Grows y3.w V4:=growsTr (inferInstance:Grows y3.w zg.w) HG4.out;haveI:Grows y7.w V4:=growsTr (inferInstance:Grows y7.w zg.w) HG4.out;haveI:Grows y8.w V4:=growsTr (inferInstance:Grows y8.w zg.w) HG4.out
   go_wp2_with (first|((with_reducible refine wp_region_later (by kernel_rfl) (by kernel_rfl) ?_);(repeat(first|go_big_quiet_step (first|fail)|simp only[kbb]));refine wpQuiet_nil ?_;rintro _ ⟨x,rfl⟩))
   refine(c_ltoRequestS (HRQ.out.to inferInstance) rfl HQM.out).mono ?_
   rintro _ _ ⟨a4,c4,rfl,o4,y10,rfl⟩
   go_wp2_with (first|((with_reducible refine wp_region_later (by kernel_rfl) (by kernel_rfl) ?_);(repeat(first|go_big_quiet_step (first|fail)));refine wpQuiet_nil ?_;rintro _ ⟨x,rfl⟩))
   refine(c_leqRequestS (HX3.out.sl.to inferInstance) (o4.sl.to inferInstance) rfl rfl (by have:=HQM.out;omega) (by have:=HQM.out;omega)).mono ?_
   rintro _ _ ⟨rfl,y11,rfl⟩
   rw[show((Q.length == Q.length) && eqAll eqRequest Q Q)=true by simp[eqAll_self eqRequest_self]]
   clear o4
   go_wp2_with (first|((with_reducible refine wp_region_later (by kernel_rfl) (by kernel_rfl) ?_);(repeat(first|go_big_quiet_step (first|fail)));refine wpQuiet_nil ?_;rintro _ ⟨x,rfl⟩))
   refine(o_ltoLimitS (HRL.out.keep (@Keeps.grows 0 _ _ inferInstance)) HTL.out).mono ?_
   rintro _ _ ⟨a5,c5,rfl,o5,y12,rfl⟩
   go_wp2_with (first|((with_reducible refine wp_region_later (by kernel_rfl) (by kernel_rfl) ?_);(repeat(first|go_big_quiet_step (first|fail)));refine wpQuiet_nil ?_;rintro _ ⟨x,rfl⟩))
   refine(d_leqLimitS (HX7.out.rd.keep (@Keeps.grows _ _ _ inferInstance)) (o5.rd.keep (@Keeps.grows _ _ _ inferInstance))).mono ?_
   rintro _ _ ⟨rfl,y13,rfl⟩
   clear o5
   go_wp2_with (first|((with_reducible refine wp_region_later (by kernel_rfl) (by kernel_rfl) ?_);(repeat(first|go_big_quiet_step (first|fail)));refine wpQuiet_nil ?_;rintro _ ⟨x,rfl⟩))
   refine(o_ltoStringS (HRF.out.keep (@Keeps.grows 0 _ _ inferInstance)) HTS.out).mono ?_
   rintro _ _ ⟨a6,c6,rfl,o6,y14,rfl⟩
   go_wp2_with (first|((with_reducible refine wp_region_later (by kernel_rfl) (by kernel_rfl) ?_);(repeat(first|go_big_quiet_step (first|fail)));refine wpQuiet_nil ?_;rintro _ ⟨x,rfl⟩))
   refine(d_leqStringS (HX8.out.rd.keep (@Keeps.grows _ _ _ inferInstance)) (o6.rd.keep (@Keeps.grows _ _ _ inferInstance))).mono ?_
   rintro _ _ ⟨rfl,y15,rfl⟩
   clear o6
   obtain⟨V5,hV5⟩:∃ V5,y15.w=V5:=⟨_,rfl⟩
   have HGg:=lH (growsTr HG4.out (show Grows V4 V5 from hV5▸inferInstance))
   rw[hV5];clear hV5
   go_wp2_with (first|((with_reducible refine wp_region_later (by kernel_rfl) (by kernel_rfl) ?_);(repeat(first|go_big_quiet_step (first|fail)));refine wpQuiet_nil ?_;rintro _ ⟨x,rfl⟩))
   have H3:=lH (HX3.out.to (growsTr (inferInstance:Grows y3.w zg.w) HGg.out))
   have H7:=lH ((HX7.out.old (U:=y7.w.heap.size) (χ2:=fun _=>(0,0)) (f:=fun _=>(1000,0)) (Nat.le_refl _)).to (growsTr (inferInstance:Grows y7.w zg.w) HGg.out))
   have H8:=lH ((HX8.out.old (U:=y8.w.heap.size) (χ2:=fun _=>(0,0)) (f:=fun _=>(1000,0)) (Nat.le_refl _)).to (growsTr (inferInstance:Grows y8.w zg.w) HGg.out))
   have HZ5:=lH (om_to HZg.out HGg.out);have HXg5:=lH (HXg.out.to HGg.out)
   have hs3:zw.w.heap.size≤y3.w.heap.size:=y3.size_le
   have hs7:y3.w.heap.size≤y7.w.heap.size:=y7.size_le
   have hs8:y7.w.heap.size≤y8.w.heap.size:=y8.size_le
   have hBg:=hUg;have hbg:=hbg
   have hsV0:=HGg.out.out.size
   obtain⟨k1,hk1⟩:∃ k1:Int,1+(Q.length:Int)*4=k1:=⟨_,rfl⟩
   have hq1:=HQM.out;have hl1:=HLM.out;have hf1:=HFM.out
   refine(c_lmarkRequestS H3.out rfl (by omega) (by omega) (by omega)).mono ?_
   intro e5 Z5 hq5
   obtain⟨he,hgr,-⟩:=hq5
   rw[hk1]at he
   subst he
   have hb3:=fun k hk=>(HX3.out.blk k hk)
   have HG5:=lH (mk_below hgr (fun k hk=>(hb3 k hk).1) (growsTr (inferInstance:Grows zw.w zg.w) HGg.out))
   have HK5:=lH (mk_keeps hgr (fun k hk=>(hb3 k hk).2))
   have h5s:=hgr.size
   clear hgr hb3
   have H7a:=lH (H7.out.keep HK5.out);have H8a:=lH (H8.out.keep (HK5.out.more hs7));have HZ6:=lH (om_keep HZ5.out (HK5.out.more (by omega)));have HXg6:=lH (HK5.out.ofU _ _ _ (by omega) HXg5.out)
   clear H3 H7 H8 HZ5 HXg5 HK5 HGg
   go_wp2_with (first|((with_reducible refine wp_region_later (by kernel_rfl) (by kernel_rfl) ?_);(repeat(first|go_big_quiet_step (first|fail)));refine wpQuiet_nil ?_;rintro _ ⟨x,rfl⟩))
   obtain⟨k2,hk2⟩:∃ k2:Int,k1+(L.length:Int)*((Enc.size TLimit:Nat):Int)=k2:=⟨_,rfl⟩
   have hk2b:1≤k2∧k2≤100000000:=by have e:k2=k1+L.length*3:=hk2.symm;omega
   refine(o_lmarkLimitS H7a.out (by omega) (by omega) (by omega)).mono ?_
   intro e6 Z6 hq6
   obtain⟨he,-,hF⟩:=hq6
   rw[hk2]at he
   subst he
   have HG6:=lH (hF.below HG5.out hs3)
   have h6s:=hF.size
   have HK6:=lH (hF.keepsU (by simp));clear hF
   have H8b:=lH (H8a.out.keep HK6.out);have HZ7:=lH (om_keep HZ6.out (HK6.out.more (by omega)));have HXg7:=lH (HK6.out.ofU _ _ _ (by omega) HXg6.out)
   clear H7a H8a HZ6 HXg6 HG5 HK6
   go_wp2_with (first|((with_reducible refine wp_region_later (by kernel_rfl) (by kernel_rfl) ?_);(repeat(first|go_big_quiet_step (first|fail)));refine wpQuiet_nil ?_;rintro _ ⟨x,rfl⟩))
   obtain⟨k3,hk3⟩:∃ k3:Int,k2+(fs.length:Int)*((Enc.size ByteArray:Nat):Int)=k3:=⟨_,rfl⟩
   have hk3b:1≤k3∧k3≤200000000:=by have e:k3=k2+fs.length*1:=hk3.symm;omega
   refine(o_lmarkStringS H8b.out (by omega) (by omega) (by omega)).mono ?_
   intro e7 Z7 hq7
   obtain⟨he,-,hF⟩:=hq7
   rw[hk3]at he
   subst he
   have HG7:=lH (hF.below HG6.out (Nat.le_trans hs3 hs7))
   have h7s:=hF.size
   have HK7:=lH (hF.keepsU (by simp));clear hF
   have HZ8:=lH (om_keep HZ7.out (HK7.out.more (by omega)));have HXg8:=lH (HK7.out.ofU _ _ _ (by omega) HXg7.out)
   clear H8b HZ7 HXg7 HG6 HK7
   obtain⟨V7,rfl⟩:∃ x:Later zw.w,Z7=x.w:=Later.ofG HG7.out
   have hsV:zg.w.heap.size≤V7.w.heap.size:=by omega
   clear HG7 h5s h6s h7s
   have hk30:¬ k3<0:=by omega
   clear hk1 hk2 hk3
   have HXw7:=lH (HXw.out.to (inferInstance:Grows _ V7.w))
   go_wp2_with (first|((with_reducible refine wp_region_later (by kernel_rfl) (by kernel_rfl) ?_);(repeat(first|go_big_quiet_step (first|fail)|simp only[hk30]|simp only[kbb]));refine wpQuiet_nil ?_;rintro _ ⟨x,rfl⟩)|(refine stepLoadG (by go_simp) _ _ rfl _ 0 rfl (row:=vsg) (HXg8.out.to inferInstance) _ Tryz.underlying62 rfl (by rw[HLg.out];kernel_rfl) (by rw[List.drop_zero,List.take_length]) ?_)|(refine stepLoadG (by go_simp) _ _ rfl _ 0 rfl (row:=vsw) (HXw7.out.to inferInstance) _ Tryz.underlying62 rfl (by rw[HLw.out];kernel_rfl) (by rw[List.drop_zero,List.take_length]) ?_))
   refine(d_leqMission (x:=fm) (EncO.toRd HZ8.out) (Enc.keep HWR.out (@Keeps.grows 0 _ _ inferInstance))).mono ?_
   rintro _ _ ⟨rfl,y16,rfl⟩
   obtain⟨V8,hV8⟩:∃ V8,y16.w=V8:=⟨_,rfl⟩
   have HG8:=lH (show Grows V7.w V8 from hV8▸inferInstance)
   rw[hV8];clear hV8
   haveI:Grows zw.w V8:=growsTr (inferInstance:Grows zw.w V7.w) HG8.out
   have HZ9:=lH (om_to HZ8.out HG8.out);have HXg9:=lH (HXg8.out.to HG8.out)
   go_wp2_with (first|((with_reducible refine wp_region_later (by kernel_rfl) (by kernel_rfl) ?_);(repeat(first|go_big_quiet_step (first|fail)|simp only[kbb]));refine wpQuiet_nil ?_;rintro _ ⟨x,rfl⟩)|(refine stepLoad rfl _ _ rfl _ 0 rfl (row:=vsg) (HXg9.out.to inferInstance) _ Tryz.underlying62 rfl (by rw[HLg.out];kernel_rfl) (by rw[List.drop_zero,List.take_length]) ?_))
   have hBs:Bg≤V8.heap.size:=Nat.le_trans hBBg (Nat.le_trans (show xg.w.heap.size≤zg.w.heap.size from hsg) (Nat.le_trans hsV HG8.out.out.size))
   refine(o_markM (k:=1) (om_old (om_reb HZ9.out HXg9.out) (Nat.le_refl _)) (freshU (Nat.le_refl _)) hBs HTF.out (by omega) (by omega)).mono ?_
   intro e8 Z8 hq8
   obtain⟨he,hO8,hF⟩:=hq8
   rw[HK.out]at he
   subst he
   have HGa:=lH (hF.below (inferInstance:Grows zw.w V8) (by omega))
   have HXga:=lH (HXg9.out.frm hF (by decide) (by rw[paint,if_pos HXg9.out.lt];simp));have HOa:=lH hO8;clear hF hO8 HZ9 HXg9
   obtain⟨V9,rfl⟩:∃ x:Later zw.w,Z8=x.w:=Later.ofG HGa.out
   clear HGa
   go_wp2_with (first|((with_reducible refine wp_region_later (by kernel_rfl) (by kernel_rfl) ?_);(repeat(first|go_big_quiet_step (first|fail)));refine wpQuiet_nil ?_;rintro _ ⟨x,rfl⟩)|(refine stepLoad rfl _ _ rfl _ 0 rfl (row:=vsg) (HXga.out.to inferInstance) _ Tryz.underlying62 rfl (by rw[HLg.out];kernel_rfl) (by rw[List.drop_zero,List.take_length]) ?_))
   refine(o_heldM (k:=1) (EncO.toRd HOa.out) HTF.out (by omega) (by omega)).mono ?_
   intro e9 Z9 hq9
   obtain⟨he,y17,hw⟩:=hq9
   rw[HK.out]at he
   subst he;subst hw
   obtain⟨Va,hVa⟩:∃ Va,y17.w=Va:=⟨_,rfl⟩
   have HGb:=lH (show Grows V9.w Va from hVa▸inferInstance)
   rw[hVa];clear hVa
   go_wp2_with (first|((with_reducible refine wp_region_later (by kernel_rfl) (by kernel_rfl) ?_);(repeat(first|go_big_quiet_step (first|fail)|simp only[kb]));refine wpQuiet_nil ?_;rintro _ ⟨x,rfl⟩))
   (try simp only[Act.put])
   have HGw:=lH (growsTr (inferInstance:Grows zw.w V9.w) HGb.out)
   haveI:Grows w Va:=growsTr (inferInstance:Grows w zw.w) HGw.out;haveI:Grows zw.w Va:=HGw.out
   have HXgb:=lH (HXga.out.to HGb.out);have HOb:=lH (om_to HOa.out HGb.out)
   have HBd:=lH (HBd0.out.to (growsTr HG0.out (growsTr (inferInstance:Grows W0 zw.w) HGw.out)));have HBo:=lH (HBo0.out.to (growsTr HG0.out (growsTr (inferInstance:Grows W0 zw.w) HGw.out)));have HBu:=lH (HBu0.out.to (growsTr HG0.out (growsTr (inferInstance:Grows W0 zw.w) HGw.out)));have HBn:=lH (HBn0.out.to (growsTr HG0.out (growsTr (inferInstance:Grows W0 zw.w) HGw.out)))
   refine wp_region_stabZ (by kernel_rfl) (T:=[21,22]) (Zs:=[(19,[6,13,15,16])]) (H:=[(1,[]),(2,[]),(3,[]),(4,[]),(6,[]),(7,[]),(8,[6]),(9,[]),(10,[6]),(13,[6]),(15,[6,13]),(16,[6,13,15]),(17,[6,13,15,16]),(18,[6,13,15,16]),(19,[6,13,15,16]),(20,[])]) (C:=[6,13,15,16,20]) (Fs:=[(some 148,.v (.int .i64 light)),(some 149,.v (.agg #[.int .i64 d.Rate,.int .i64 d.Offset])),(some 150,.v (.agg #[.int .i64 d.Rate,.int .i64 d.Offset])),(some 151,.v (.agg #[.int .i64 o.Period,.int .i64 o.Start,.int .i64 o.Length])),(some 152,.v (.agg #[.int .i64 o.Period,.int .i64 o.Start,.int .i64 o.Length])),(some 153,.v (.slice qa Q.length qc)),(some 154,eRq Q),(some 155,.v (.agg #[.int .i64 up.Seed,.int .i64 up.Burst,.int .i64 up.Loss])),(some 156,.v (.agg #[.int .i64 up.Seed,.int .i64 up.Burst,.int .i64 up.Loss])),(some 157,.v (.agg #[.int .i64 down.Seed,.int .i64 down.Burst,.int .i64 down.Loss])),(some 158,.v (.agg #[.int .i64 down.Seed,.int .i64 down.Burst,.int .i64 down.Loss])),(some 159,.v (.int .i64 room)),(some 160,.v (.slice la L.length lc)),(some 161,eDs L),(some 162,.v (.slice fa fs.length fc)),(some 163,eDs fs),(some 164,eM2 Va.heap.size fm b2),(some 147,.fn [16] one1),(some 165,.fn [16] fst2),(some 166,.fn [16] snd2),(some 30,.box Va.heap.size nmZ 62),(none,.v undef),(none,.v undef)]) (by kernel_rfl) (fun val W=>by kernel_rfl) ?obh ?lzh ?pnh ?tlh
   case obh =>
    refine⟨fun x=>?_,fun x=>?_,fun x=>?_,fun x=>?_,fun x=>?_,fun x=>?_,fun x=>?_,fun x=>?_,fun x=>?_,fun x=>?_,fun x=>?_,fun x=>?_,fun x=>?_,fun x=>?_,fun x=>?_,fun x=>?_,trivial⟩
    ·exact g_row (o:=0) (HBd.out.to (inferInstance:Grows _ x.w)) rfl (by kernel_rfl) _ Tryz.underlying70 rfl (by kernel_rfl) (by kernel_rfl)
    ·refine g_call (f:=18) (args:=[.agg #[.int .i64 d.Rate,.int .i64 d.Offset]]) Tryz.func18 (by kernel_rfl) (by kernel_rfl) ((d_ltoDrift (x:=d) (vs:=[.int .i64 d.Rate,.int .i64 d.Offset]) (B:=0) ⟨rfl,HOKd.out⟩ (by show(0:Int)≤_;decide)).mono ?_)
     rintro _ _ ⟨_,rfl,⟨rfl,-⟩,y,rfl⟩
     exact⟨_,rfl,⟨y,rfl⟩,rfl⟩
    ·exact g_row (o:=0) (HBo.out.to (inferInstance:Grows _ x.w)) rfl (by kernel_rfl) _ Tryz.underlying71 rfl (by kernel_rfl) (by kernel_rfl)
    ·refine g_call (f:=19) (args:=[.agg #[.int .i64 o.Period,.int .i64 o.Start,.int .i64 o.Length]]) Tryz.func19 (by kernel_rfl) (by kernel_rfl) ((d_ltoOrbit (x:=o) (vs:=[.int .i64 o.Period,.int .i64 o.Start,.int .i64 o.Length]) (B:=0) ⟨rfl,HOKo.out⟩ (by show(0:Int)≤_;decide)).mono ?_)
     rintro _ _ ⟨_,rfl,⟨rfl,-⟩,y,rfl⟩
     exact⟨_,rfl,⟨y,rfl⟩,rfl⟩
    ·refine g_call (f:=20) (args:=[.slice qa Q.length qc]) Tryz.func20 (by kernel_rfl) (by kernel_rfl) ((c_ltoRequestS (HRQ.out.to (inferInstance:Grows _ x.w)) rfl HQM.out).mono ?_)
     rintro _ _ ⟨a6,c6,rfl,o6,y,rfl⟩
     exact⟨_,rfl,⟨y,rfl⟩,a6,c6,rfl,o6.cap,o6.sl⟩
    ·exact g_row (o:=0) (HBu.out.to (inferInstance:Grows _ x.w)) rfl (by kernel_rfl) _ Tryz.underlying73 rfl (by kernel_rfl) (by kernel_rfl)
    ·refine chain1 fun v6 q6=>chain0 ?_
     refine g_call (f:=21) (args:=[.agg #[.int .i64 up.Seed,.int .i64 up.Burst,.int .i64 up.Loss]]) Tryz.func21 (by kernel_rfl) (by kernel_rfl) ((d_ltoChannel (x:=up) (vs:=[.int .i64 up.Seed,.int .i64 up.Burst,.int .i64 up.Loss]) (B:=0) ⟨rfl,HOKu.out⟩ (by show(0:Int)≤_;decide)).mono ?_)
     rintro _ _ ⟨_,rfl,⟨rfl,-⟩,y,rfl⟩
     exact⟨_,rfl,⟨y,rfl⟩,rfl⟩
    ·exact g_row (o:=0) (HBn.out.to (inferInstance:Grows _ x.w)) rfl (by kernel_rfl) _ Tryz.underlying73 rfl (by kernel_rfl) (by kernel_rfl)
    ·refine chain1 fun v6 q6=>chain0 ?_
     refine g_call (f:=21) (args:=[.agg #[.int .i64 down.Seed,.int .i64 down.Burst,.int .i64 down.Loss]]) Tryz.func21 (by kernel_rfl) (by kernel_rfl) ((d_ltoChannel (x:=down) (vs:=[.int .i64 down.Seed,.int .i64 down.Burst,.int .i64 down.Loss]) (B:=0) ⟨rfl,HOKn.out⟩ (by show(0:Int)≤_;decide)).mono ?_)
     rintro _ _ ⟨_,rfl,⟨rfl,-⟩,y,rfl⟩
     exact⟨_,rfl,⟨y,rfl⟩,rfl⟩
    ·refine chain1 fun v6 q6=>chain0 ?_
     refine g_call (f:=22) (args:=[.slice la L.length lc]) Tryz.func22 (by kernel_rfl) (by kernel_rfl) ((o_ltoLimitS (HRL.out.keep (@Keeps.grows 0 _ _ (inferInstance:Grows _ x.w))) HTL.out).mono ?_)
     rintro _ _ ⟨a9,c9,rfl,o9,y,rfl⟩
     exact⟨_,rfl,⟨y,rfl⟩,a9,c9,rfl,o9.rd.mono (Nat.zero_le _)⟩
    ·refine chain1 fun v6 q6=>chain1 fun v13 q13=>chain0 ?_
     refine g_call (f:=23) (args:=[.slice fa fs.length fc]) Tryz.func23 (by kernel_rfl) (by kernel_rfl) ((o_ltoStringS (HRF.out.keep (@Keeps.grows 0 _ _ (inferInstance:Grows _ x.w))) HTS.out).mono ?_)
     rintro _ _ ⟨a9,c9,rfl,o9,y,rfl⟩
     exact⟨_,rfl,⟨y,rfl⟩,a9,c9,rfl,o9.rd.mono (Nat.zero_le _)⟩
    ·refine chain1 fun v6 q6=>chain1 fun v13 q13=>chain1 fun v15 q15=>chain0 ?_
     obtain⟨a6,c6,rfl,hc6,hs6⟩:=(show isRq Q v6 x.w from q6)
     obtain⟨a13,c13,rfl,h13⟩:=(show isDs L v13 x.w from q13)
     obtain⟨a15,c15,rfl,h15⟩:=(show isDs fs v15 x.w from q15)
     refine g_call (f:=11) (args:=[.int .i64 light,.agg #[.int .i64 d.Rate,.int .i64 d.Offset],.agg #[.int .i64 o.Period,.int .i64 o.Start,.int .i64 o.Length],.slice a6 Q.length c6,.agg #[.int .i64 up.Seed,.int .i64 up.Burst,.int .i64 up.Loss],.agg #[.int .i64 down.Seed,.int .i64 down.Burst,.int .i64 down.Loss],.int .i64 room,.slice a13 L.length c13,.slice a15 fs.length c15]) Tryz.func11 (by kernel_rfl) (by kernel_rfl) ((o_iNewMission (light:=light) (d:=d) (o:=o) (up:=up) (down:=down) (room:=room) (Q:=Q) (L:=L) (fs:=fs) hs6 rfl hc6 HQM.out h13 rfl HLM.out h15 rfl HFM.out HOKM.out HPL.out HPN.out HTT.out).mono ?_)
     rintro _ _ ⟨vs,χ,rfl,hO,y,rfl⟩
     rw[HF.out]at hO
     rw[HB2.out]
     exact⟨_,rfl,⟨y,rfl⟩,vs,χ,_,rfl,LeN.out,y.size_le,hO⟩
    ·refine chain1 fun v6 q6=>chain1 fun v13 q13=>chain1 fun v15 q15=>chain1 fun v16 q16=>chain0 ?_
     obtain⟨vs,χ,B9,rfl,-⟩:=(show isM2 Va.heap.size fm b2 v16 x.w from q16)
     exact g_fn (k:=17) (by kernel_rfl) (by kernel_rfl)
    ·refine chain1 fun v6 q6=>chain1 fun v13 q13=>chain1 fun v15 q15=>chain1 fun v16 q16=>chain0 ?_
     obtain⟨vs,χ,B9,rfl,-⟩:=(show isM2 Va.heap.size fm b2 v16 x.w from q16)
     exact g_fn (k:=18) (by kernel_rfl) (by kernel_rfl)
    ·refine chain1 fun v6 q6=>chain1 fun v13 q13=>chain1 fun v15 q15=>chain1 fun v16 q16=>chain0 ?_
     obtain⟨vs,χ,B9,rfl,-⟩:=(show isM2 Va.heap.size fm b2 v16 x.w from q16)
     exact g_fn (k:=19) (by kernel_rfl) (by kernel_rfl)
    ·exact g_box rfl (by kernel_rfl) LeN.out
   case lzh =>
    refine⟨fun W hW=>?_,trivial⟩
    refine chain1 fun v6 q6=>chain1 fun v13 q13=>chain1 fun v15 q15=>chain1 fun v16 q16=>chain0 ?_
    obtain⟨vs,χ,B9,rfl,-⟩:=(show isM2 Va.heap.size fm b2 v16 W from q16)
    intro W2
    kernel_rfl
   case pnh=>exact fun _ _ _ _ _ _ h=>h
   case tlh =>
    intro xh
    refine chain1 fun v6 q6=>chain1 fun v13 q13=>chain1 fun v15 q15=>chain1 fun v16 q16=>chain1 fun v20 q20=>?_
    obtain⟨vsh,χh,Bh,rfl,hUh,hBBh,hOh⟩:=(show isM2 Va.heap.size fm b2 v16 xh.w from q16)
    obtain⟨bh,rfl,hbh,hBxh⟩:=(show ∃ b,v20=.pointer (some ⟨b,0,none⟩)∧Va.heap.size≤b∧Held xh.w b nmZ 62 from q20)
    clear q6 q13 q15 q16 q20
    have HLh:=lH (len_mission (EncO.toRd hOh));have HOnh:=lH (one_mission (EncO.toRd hOh));have HOOh:=lH hOh;clear hOh
    refine tail2 rfl rfl ?_
    simp only[put_nrm,put_nrm2,List.map,one1,fst2,snd2]
    simp only[Act.put,List.setIfInBounds_toArray,List.set_cons_succ,List.set_cons_zero,if_true,if_false,Nat.reduceEqDiff,Nat.reduceAdd]
    go_wp2_with (first|((with_reducible refine wp_region_later (by kernel_rfl) (by kernel_rfl) ?_);(repeat(first|go_big_quiet_step (first|fail)));refine wpQuiet_nil ?_;rintro _ ⟨x,rfl⟩)|(refine stepStore2 rfl _ _ _ rfl bh 0 rfl (us:=vsh) (cs2:=vsh) hBxh ?cz1h ?cz2h ?cz3h ?cz4h ?cz5h (w0:=Va) inferInstance hbh ?_;(case cz1h=>rfl);(case cz2h=>(rw[HLh.out];kernel_rfl));(case cz3h=>exact HOnh.out);(case cz4h=>(rw[HLh.out];exact Nat.le_of_ble_eq_true rfl));(case cz5h=>exact splice_all HLh.out);intro zh hx kx;have HXh:=lH hx;clear hx;have KXh:=lH kx;clear kx)|(refine stepLoad rfl _ _ rfl _ 0 rfl (row:=vsh) (HXh.out.to inferInstance) _ Tryz.underlying62 rfl (by rw[HLh.out];kernel_rfl) (by rw[List.drop_zero,List.take_length]) ?_)|(refine stepLoad rfl _ _ rfl _ 0 rfl (row:=vsw) (HXw.out.to inferInstance) _ Tryz.underlying62 rfl (by rw[HLw.out];kernel_rfl) (by rw[List.drop_zero,List.take_length]) ?_))
    have hsh:=KXh.out.size
    have HZh:=lH (om_wr HOOh.out (Wr.box hBxh (KXh.out.grown1 inferInstance)));clear HOOh KXh hBxh
    clear HBd HBo HBu HBn
    refine(d_leqMission (x:=fm) (EncO.toRd HZh.out) (Enc.keep HWR.out (@Keeps.grows 0 _ _ inferInstance))).mono ?_
    rintro _ _ ⟨rfl,y18,rfl⟩
    go_wp2_with (first|((with_reducible refine wp_region_later (by kernel_rfl) (by kernel_rfl) ?_);(repeat(first|go_big_quiet_step (first|fail)|simp only[kbb]));refine wpQuiet_nil ?_;rintro _ ⟨x,rfl⟩)|(refine stepLoad rfl _ _ rfl _ 0 rfl (row:=vsg) (HXgb.out.to inferInstance) _ Tryz.underlying62 rfl (by rw[HLg.out];kernel_rfl) (by rw[List.drop_zero,List.take_length]) ?_))
    refine(o_heldM (k:=1) (Enc.keep (EncO.toRd HOb.out) (@Keeps.grows _ _ _ inferInstance)) HTF.out (by omega) (by omega)).mono ?_
    intro ea Za hqa
    obtain⟨he,y19,hw⟩:=hqa
    rw[HK.out]at he
    subst he;subst hw
    go_wp2_with (first|((with_reducible refine wp_region_later (by kernel_rfl) (by kernel_rfl) ?_);(repeat(first|go_big_quiet_step (first|fail)|simp only[kb]));refine wpQuiet_nil ?_;rintro _ ⟨x,rfl⟩))
    go_ret
    exact Gives.mk rfl
end Go.Proofs.YtbaffippdifbpaaGreat
namespace Go.Proofs.YtbaffippdifbpaaGreat
set_option linter.unusedVariables false
open Go.ChangeShapes Go.WideShapes Go.ChangeAt Go.RowKit
set_option maxRecDepth 100000 in
theorem FnExactNewMission_lifted(os:Os)(started:os.Started)(H:Type)(enc:TypeId × Value→H) :
  ReturnsInHanded {} Tryz.checked os 4 .any (Rows.fnExactNewMissionSpec.pre6 enc Tryz.prog Tryz.f4 Rows.fnExactNewMissionRow.domain false) (Rows.fnExactNewMissionSpec.post enc Tryz.prog Tryz.f4 false true false false):=by
 refine returnsInHanded_of_change (C:=Tryz.checked) own started (by kernel_rfl) Tryz.func4
  (ChangeSpec.witness6 (enc:=enc) (C:=Tryz.checked) false ⟨#[],#[.int .i64 0,.agg #[.int .i64 0,.int .i64 0],.agg #[.int .i64 0,.int .i64 0,.int .i64 0],.slice none 0 0,.agg #[.int .i64 0,.int .i64 0,.int .i64 0],.agg #[.int .i64 0,.int .i64 0,.int .i64 0],.int .i64 0,.slice none 0 0,.slice none 0 0],[]⟩ 8 (by kernel_rfl) (by kernel_rfl) (by kernel_rfl) (by kernel_rfl)) ?_
 intro W base args ds gs before hval0 hW hcnd _
 have hval:∀ (j:Nat) t v,Tryz.f4.params[j]?=some t→args[j]?=some v→Value.okWide Tryz.prog W .any base t v:=hval0
 have hW':=hW
 obtain⟨p,q,hA0,hV,rfl,hfz,hnd⟩:=hW
 have hA:DataW.TrodAll enc Tryz.prog W 0 (fun _=>true) true Tryz.f4.params.toList args.toList ds p:=hA0
 rw[Tryz.params4]at hA hval
 obtain⟨rfl,rfl⟩:=trodVars_none hV
 obtain⟨v0,vs0,d0,ds0,p0,q0,hargs,rfl,rfl,h0,r0⟩:=trodAll_cons hA
 obtain⟨v1,vs1,d1,ds1,p1,q1,rfl,rfl,rfl,h1,r1⟩:=trodAll_cons r0
 obtain⟨v2,vs2,d2,ds2,p2,q2,rfl,rfl,rfl,h2,r2⟩:=trodAll_cons r1
 obtain⟨v3,vs3,d3,ds3,p3,q3,rfl,rfl,rfl,h3,r3⟩:=trodAll_cons r2
 obtain⟨v4,vs4,d4,ds4,p4,q4,rfl,rfl,rfl,h4,r4⟩:=trodAll_cons r3
 obtain⟨v5,vs5,d5,ds5,p5,q5,rfl,rfl,rfl,h5,r5⟩:=trodAll_cons r4
 obtain⟨v6,vs6,d6,ds6,p6,q6,rfl,rfl,rfl,h6,r6⟩:=trodAll_cons r5
 obtain⟨v7,vs7,d7,ds7,p7,q7,rfl,rfl,rfl,h7,r7⟩:=trodAll_cons r6
 obtain⟨v8,vs8,d8,ds8,p8,q8,rfl,rfl,rfl,h8,r8⟩:=trodAll_cons r7
 obtain⟨rfl,rfl,rfl⟩:=trodAll_nil r8
 obtain rfl:args=#[v0,v1,v2,v3,v4,v5,v6,v7,v8]:=by cases args;simp_all
 obtain⟨a0,rfl,rfl,rfl,w0⟩:=open_int Tryz.underlying3 (hval 0 3 v0 rfl rfl) h0
 obtain⟨cb1,rfl,hcz1⟩:=okWide_struct Tryz.underlying70 (hval 1 70 v1 rfl rfl)
 obtain⟨ca1,rfl⟩:∃ ca:List Value,cb1=ca.toArray:=⟨cb1.toList,by simp⟩
 obtain⟨f1,t1⟩:=h1
 obtain⟨hl1,rd1⟩:=codes_sound 10 _ _ _ _ _ (show codes Tryz.prog 10 70=some [.int,.int]by kernel_rfl) t1
 obtain⟨x1,hx1⟩:=ofTDrift _ hl1 rd1
 obtain⟨cb2,rfl,hcz2⟩:=okWide_struct Tryz.underlying71 (hval 2 71 v2 rfl rfl)
 obtain⟨ca2,rfl⟩:∃ ca:List Value,cb2=ca.toArray:=⟨cb2.toList,by simp⟩
 obtain⟨f2,t2⟩:=h2
 obtain⟨hl2,rd2⟩:=codes_sound 10 _ _ _ _ _ (show codes Tryz.prog 10 71=some [.int,.int,.int]by kernel_rfl) t2
 obtain⟨x2,hx2⟩:=ofTOrbit _ hl2 rd2
 obtain⟨xa3,xn3,xc3,rfl⟩:=okWide_slice Tryz.underlying72 (hval 3 72 v3 rfl rfl)
 obtain⟨f3,t3⟩:=h3
 obtain⟨-,rd3⟩:=codes_sound 4 _ _ _ _ _ (show codes Tryz.prog 4 72=some [.sl [.int,.int,.int,.int]]by kernel_rfl) t3
 obtain⟨u3,g3,rc3⟩:=rd3.at (j:=0) rfl
 obtain rfl:Value.slice xa3 xn3 xc3=u3:=by simpa[Value.cells]using g3
 obtain⟨a3,n3,k3,l3,e3,hn3,hc3,hm3,ok3,sl3⟩:=open_sl (fun cs=>flatRequest) rc3
 cases e3
 have hz3:xn3≤9223372036854775807:=by unfold maxLen at hm3;omega
 obtain⟨cb4,rfl,hcz4⟩:=okWide_struct Tryz.underlying73 (hval 4 73 v4 rfl rfl)
 obtain⟨ca4,rfl⟩:∃ ca:List Value,cb4=ca.toArray:=⟨cb4.toList,by simp⟩
 obtain⟨f4,t4⟩:=h4
 obtain⟨hl4,rd4⟩:=codes_sound 10 _ _ _ _ _ (show codes Tryz.prog 10 73=some [.int,.int,.int]by kernel_rfl) t4
 obtain⟨x4,hx4⟩:=ofTChannel _ hl4 rd4
 obtain⟨cb5,rfl,hcz5⟩:=okWide_struct Tryz.underlying73 (hval 5 73 v5 rfl rfl)
 obtain⟨ca5,rfl⟩:∃ ca:List Value,cb5=ca.toArray:=⟨cb5.toList,by simp⟩
 obtain⟨f5,t5⟩:=h5
 obtain⟨hl5,rd5⟩:=codes_sound 10 _ _ _ _ _ (show codes Tryz.prog 10 73=some [.int,.int,.int]by kernel_rfl) t5
 obtain⟨x5,hx5⟩:=ofTChannel _ hl5 rd5
 obtain⟨a6,rfl,rfl,rfl,w6⟩:=open_int Tryz.underlying3 (hval 6 3 v6 rfl rfl) h6
 obtain⟨xa7,xn7,xc7,rfl⟩:=okWide_slice Tryz.underlying74 (hval 7 74 v7 rfl rfl)
 obtain⟨f7,t7⟩:=h7
 obtain⟨-,rd7⟩:=codes_sound 4 _ _ _ _ _ (show codes Tryz.prog 4 74=some [.sl [.int,.int,.int]]by kernel_rfl) t7
 obtain⟨u7,g7,rc7⟩:=rd7.at (j:=0) rfl
 obtain rfl:Value.slice xa7 xn7 xc7=u7:=by simpa[Value.cells]using g7
 obtain⟨a7,k7,l7,e7,hx7⟩:=openS (α:=TLimit) (es:=[.int,.int,.int]) rfl ofTLimit rc7
 cases e7
 obtain⟨xa8,xn8,xc8,rfl⟩:=okWide_slice Tryz.underlying32 (hval 8 32 v8 rfl rfl)
 obtain⟨f8,t8⟩:=h8
 obtain⟨-,rd8⟩:=codes_sound 4 _ _ _ _ _ (show codes Tryz.prog 4 32=some [.sl [.str]]by kernel_rfl) t8
 obtain⟨u8,g8,rc8⟩:=rd8.at (j:=0) rfl
 obtain rfl:Value.slice xa8 xn8 xc8=u8:=by simpa[Value.cells]using g8
 obtain⟨a8,k8,l8,e8,hx8⟩:=openS (α:=ByteArray) (es:=[.str]) rfl openStr rc8
 cases e8
 clear hA0 hval0
 refine(Gives.below (c_lFnExactNewMission (i64_wf w0) hx1 hx2 sl3 hn3 hc3 hz3 ok3 hx4 hx5 (i64_wf w6) hx7 hx8)).mono fun e W' ⟨he,hb⟩=>?_
 subst he
 exact⟨_,rfl,law_post laidOut (by kernel_rfl) rfl rfl rfl Tryz.underlying4 hW' hb⟩
end Go.Proofs.YtbaffippdifbpaaGreat
