/- What walks of functions from a mission to a mission share. No condition but on sizes. A mission's marks, and what is held. No condition but on sizes. -/
import Derived.Test.YtdinhfeflobafaaGreatSCopyMI
import Derived.Test.YtdinhfeflobafaaGreatSCopyMS
import Derived.Test.YtdinhfeflobafaaGreatSM27
import Derived.Test.YtdinhfeflobafaaGreatSM5
import Derived.Test.YtdinhfeflobafaaGreatSM33
import Derived.Test.YtdinhfeflobafaaGreatSLto3
import Derived.Test.YtdinhfeflobafaaGreatSM12
import Derived.Test.YtdinhfeflobafaaGreatSM19
import Derived.Test.YtdinhfeflobafaaGreatSM29
import Derived.Test.YtdinhfeflobafaaGreatSStepH
import Derived.Test.YtdinhfeflobafaaGreatSStab3
import Derived.Test.YtdinhfeflobafaaGreatSWholeL
import Derived.Test.YtdinhfeflobafaaGreatSOkR
import Derived.Deep.CutRange
namespace Go.Proofs.YtdinhfeflobafaaGreat
set_option linter.unusedVariables false
open Go.ChangeShapes Go.WideShapes Go.ChangeAt Go.RowKit
theorem om_to{B o:Nat}{χ:Nat→Col}{w w2:World}{vs:List Value}{m:TMission}(h:EncO.O B χ o w vs m)(g:Grows w w2):EncO.O B χ o w2 vs m:=by
 obtain⟨A,h0,h1⟩:=h
 exact⟨A,h0,h1.to g⟩
theorem om_keep{B o:Nat}{χ:Nat→Col}{w w2:World}{vs:List Value}{m:TMission}(h:EncO.O B χ o w vs m)(g:Keeps B w w2):EncO.O B χ o w2 vs m:=by
 obtain⟨A,h0,h1⟩:=h
 exact⟨A,h0,h1.keep g⟩
theorem om_mono{B B2 o:Nat}{χ:Nat→Col}{w:World}{vs:List Value}{m:TMission}(h:EncO.O B χ o w vs m)(g:B2≤B):EncO.O B2 χ o w vs m:=by
 obtain⟨A,h0,h1⟩:=h
 exact⟨A,h0,h1.mono g⟩
theorem len_mission{B:Nat}{w:World}{vs:List Value}{m:TMission}(h:Enc.Rd B w vs m):vs.length=61:=Enc.len h
theorem om_old{B U o:Nat}{χ:Nat→Col}{w:World}{vs:List Value}{m:TMission}(h:EncO.O B χ o w vs m)(g:w.heap.size≤U):EncO.O B (paint U χ (fun _=>(0,0)) (fun _=>(1000,0))) o w vs m:=by
 obtain⟨A,h0,h1⟩:=h
 exact⟨A,h0,h1.old g⟩
theorem Held.past{u W z:World}{b c:Nat}{cs:List Value}{T:TypeId}(h:Held u c cs T)(g:Keeps 0 u W)(k:But b W z)(hb:u.heap.size≤b):Held z c cs T:=by
 have hl:=h.lt
 unfold Held
 rw[k.block c (by omega) (Nat.lt_of_lt_of_le hl g.size),g.block c (Nat.zero_le _) hl];exact h
theorem growsTr{a b c:World}(h:Grows a b)(k:Grows b c):Grows a c:=⟨h.out.trans (k.out.mono h.out.size)⟩
theorem stepLoadG{P:Program}{ops:Array Oper}{rest:List Oper}{op:Oper}{a:Act}{w:World}{Q:Exit→Act→World→Prop}(hw:Region.wanted op (yielded ops a.tmps)=true)(ty:TypeId)(x:Operand)(ho:op.op=.load ty x)(b o:Nat)(hx:a.eval x=.pointer (some ⟨b,o,none⟩)){cs row:List Value}{T:TypeId}(H:Held w b cs T)
  (d:TypeDesc) (hu:P.underlying ty=some d) (hd:d.isRow=true) (hi:(P.info? ty).map (·.size)=some row.length) (hr:(cs.drop o).take row.length=row)
  (h:wpList P ops Q rest (a.put op.dst (.agg row.toArray)) w):wpList P ops Q (op::rest) a w :=
 wpList_step fun K hK=>st_loadH hw ty x ho b o hx H d hu hd hi hr (hK _ _ h)
def wordN(m n:Int):ByteArray:=if m=1 then word1 n else if m=2 then word2 n else word3 n
@[go_sem] theorem word3_size(n:Int):(word3 n).size=3:=rfl
@[go_sem] theorem wordN_one(n:Int):wordN 1 n=word1 n:=rfl
@[go_sem] theorem wordN_two(n:Int):wordN 2 n=word2 n:=rfl
@[go_sem] theorem wordN_three(n:Int):wordN 3 n=word3 n:=rfl
theorem c_iPutWordN{n m:Int}{w:World}(h0:0≤n:=by first|assumption|(apply Sl.to<;>first|assumption|infer_instance)|omega)(h:m=1∧n<256∨m=2∧n<65536∨m=3∧n<16777216:=by first|assumption|(apply Sl.to<;>first|assumption|infer_instance)|omega) :
  Calls Tryz.prog 194 #[.int .i64 n,.int .i64 m] w (Gives w (.string (wordN m n))):=by
 rcases h with⟨rfl,h1⟩|⟨rfl,h1⟩|⟨rfl,h1⟩
 ·exact c_iPutWord1 h0 h1
 ·exact c_iPutWord2 h0 h1
 ·exact c_iPutWord3 h0 h1
theorem c_sPutWordN{n m:Int}{w:World}(h0:0≤n)(h:m=1∧n<256∨m=2∧n<65536∨m=3∧n<16777216) :
  Calls Tryz.prog 83 #[.int .i64 n,.int .i64 m] w (Gives w (.string (wordN m n))):=by
 rcases h with⟨rfl,h1⟩|⟨rfl,h1⟩|⟨rfl,h1⟩
 ·exact c_sPutWord1 h0 h1
 ·exact c_sPutWord2 h0 h1
 ·exact c_sPutWord3 h0 h1
def encOrder(x:TOrder):ByteArray:=if orderOk x=true then word1 x.Kind++word3 x.At++word1 x.A++word2 x.B else⟨#[]⟩
theorem encOrder_size(x:TOrder):(encOrder x).size≤7:=by
 unfold encOrder
 split
 ·simp only[ByteArray.size_append,word1_size,word2_size,word3_size]
  omega
 ·show(0:Nat)≤7;omega
theorem orderOk_bd{x:TOrder}(h:orderOk x=true):(0≤x.Kind∧x.Kind<256)∧(0≤x.At∧x.At<16777216)∧(0≤x.A∧x.A<256)∧(0≤x.B∧x.B<65536):=by
 unfold orderOk at h
 rw[Bool.and_eq_true,Bool.and_eq_true]at h
 obtain⟨h1,h2,h3⟩:=h
 have a:=inB_iff.1 h1;have b:=inB_iff.1 h2
 refine⟨⟨by omega,by omega⟩,⟨by omega,by omega⟩,?_⟩
 split at h3
 ·rw[Bool.and_eq_true]at h3;have c:=inB_iff.1 h3.1;have d:=inB_iff.1 h3.2;exact⟨⟨by omega,by omega⟩,⟨by omega,by omega⟩⟩
 split at h3
 ·rw[Bool.and_eq_true]at h3;have c:=inB_iff.1 h3.1;have d:x.B=0:=by simpa using h3.2
  exact⟨⟨by omega,by omega⟩,⟨by omega,by omega⟩⟩
 split at h3
 ·rw[Bool.and_eq_true]at h3;have c:=inB_iff.1 h3.1;have d:x.B=0:=by simpa using h3.2
  exact⟨⟨by omega,by omega⟩,⟨by omega,by omega⟩⟩
 split at h3
 ·rw[Bool.and_eq_true]at h3;have c:=inB_iff.1 h3.1;have d:x.B=0:=by simpa using h3.2
  exact⟨⟨by omega,by omega⟩,⟨by omega,by omega⟩⟩
 ·rw[Bool.and_eq_true]at h3;have c:=inB_iff.1 h3.1;have d:x.B=0:=by simpa using h3.2
  exact⟨⟨by omega,by omega⟩,⟨by omega,by omega⟩⟩
theorem c_sEncodeOrder{x:TOrder}{w:World} :
  Calls Tryz.prog 84 #[.agg #[.int .i64 x.Kind,.int .i64 x.At,.int .i64 x.A,.int .i64 x.B]] w (Gives w (.string (encOrder x))):=by
 cases c1:orderOk x
 ·go_enter Tryz.func84,Tryz.ntmps84
  go_wp2_with (first|((with_reducible refine wp_region_later (by kernel_rfl) (by kernel_rfl) ?_);(repeat(first|go_big_quiet_step (first|(go_at_call 82;exact Gives.quiet (k_sOrderOk)))|simp only[c1]));refine wpQuiet_nil ?_;rintro _ ⟨x,rfl⟩)|(go_at_call 82;refine(k_sOrderOk).mono ?_;rintro _ _ ⟨rfl,x,rfl⟩))
  go_ret
  exact Gives.mk (by simp[encOrder,c1])
 ·obtain⟨⟨k0,k1⟩,⟨a0,a1⟩,⟨b0,b1⟩,⟨d0,d1⟩⟩:=orderOk_bd c1
  go_enter Tryz.func84,Tryz.ntmps84
  go_wp2_with (first|((with_reducible refine wp_region_later (by kernel_rfl) (by kernel_rfl) ?_);(repeat(first|go_big_quiet_step (first|(go_at_call 82;exact Gives.quiet (k_sOrderOk))|(go_at_call 83;exact Gives.quiet (c_sPutWordN (by first|assumption|(apply Sl.to<;>first|assumption|infer_instance)|omega) (by first|assumption|(apply Sl.to<;>first|assumption|infer_instance)|omega))))|simp only[c1]));refine wpQuiet_nil ?_;rintro _ ⟨x,rfl⟩)|(go_at_call 82;refine(k_sOrderOk).mono ?_;rintro _ _ ⟨rfl,x,rfl⟩)|(go_at_call 83;refine(c_sPutWordN (by first|assumption|(apply Sl.to<;>first|assumption|infer_instance)|omega) (by first|assumption|(apply Sl.to<;>first|assumption|infer_instance)|omega)).mono ?_;rintro _ _ ⟨rfl,x,rfl⟩))
  go_ret
  exact Gives.mk (by simp[encOrder,c1])
def payOrder(x:TOrder):ByteArray:=word1 0++encOrder x
theorem payOrder_size(x:TOrder):(payOrder x).size≤8:=by
 have h1:=encOrder_size x
 unfold payOrder
 simp only[ByteArray.size_append,word1_size]
 omega
def offer(m:TMission)(p:ByteArray):TMission:={ m with Ground:={ m.Ground with Offers:=m.Ground.Offers++[p] } }
theorem totL_snoc{α:Type}[Enc α](l:List α)(y:α):totL (l++[y])=totL l+1+Enc.tot y:=by
 rw[totL_app];simp only[totL];omega
theorem offer_tot(m:TMission)(p:ByteArray):Enc.tot (offer m p)=Enc.tot m+1+p.size:=by
 have h1:Enc.tot (offer m p)=totL m.Plan+totL m.Ups+totL m.Downs+(totL (m.Ground.Offers++[p])+Enc.tot m.Ground.Sender+Enc.tot m.Ground.Unpacker+totL m.Ground.Pairs+totL m.Ground.Records+totL m.Ground.Files+totL m.Ground.Told)+Enc.tot m.Space+totL m.Offered+totL m.Took:=rfl
 have h2:Enc.tot m=totL m.Plan+totL m.Ups+totL m.Downs+(totL m.Ground.Offers+Enc.tot m.Ground.Sender+Enc.tot m.Ground.Unpacker+totL m.Ground.Pairs+totL m.Ground.Records+totL m.Ground.Files+totL m.Ground.Told)+Enc.tot m.Space+totL m.Offered+totL m.Took:=rfl
 have h3:Enc.tot p=(p.size:Int):=rfl
 rw[h1,h2,totL_snoc,h3];omega
def giveOrder(m:TMission)(x:TOrder):TMission × Bool :=
 if orderOk x=true then(if missionOk m=true then(if missionOk (offer m (payOrder x))=true then(offer m (payOrder x),true)else(m,false))else(m,false))else(m,false)
theorem giveOrder_tot(m:TMission)(x:TOrder):Enc.tot (giveOrder m x).1≤Enc.tot m+9:=by
 have h1:=offer_tot m (payOrder x)
 have h2:=payOrder_size x
 unfold giveOrder
 split
 ·split
  ·split
   ·show Enc.tot (offer m (payOrder x))≤_;omega
   ·show Enc.tot m≤_;omega
  ·show Enc.tot m≤_;omega
 ·show Enc.tot m≤_;omega
def GivesOB{α:Type}[E:EncO α](w:World)(x:α)(b:Bool):Ending→World→Prop:=fun e w'=>∃ (vs:List Value) (χ:Nat→Col),e=.returned (.tuple #[.agg vs.toArray,.bool b])∧E.O w.heap.size χ 0 w' vs x∧∃ y:Later w,w'=y.w
theorem OwnC.app{α:Type}[E:Flat α]{B:Nat}{χ:Nat→Col}{i:Col}{w w2:World}{a a2:Option Addr}{c c2:Nat}{l:List α}{y:α}(h:OwnC B χ i w a c l)(ho:Own E.enc E.ty E.size B w2 a2 c2 (l++[y]))(hb:blkOf a2=blkOf a∨blkOf a2=some w.heap.size)(hg:E.good y) :
  OwnC B (paint w.heap.size χ (fun _=>i) id) i w2 a2 c2 (l++[y]):=by
 refine⟨ho,fun k hk=>?_,fun x hx=>?_⟩
 ·rcases hb with hb|hb
  ·rw[hb]at hk
   have:=(h.own.blk k hk).2
   rw[paint,if_pos this];exact h.col k hk
  ·rw[hb]at hk
   cases hk
   rw[paint,if_neg (by omega)];rfl
 ·rcases List.mem_append.1 hx with hx|hx
  ·exact h.good x hx
  ·obtain rfl:=List.mem_singleton.1 hx;exact hg
section
variable {P:Program} {ops:Array Oper} {op:Oper} {a:Act} {w:World} {Q:Exit→Act→World→Prop} {S:World→Prop} {md:Region.Mode} {fuel:Nat} {listed:Array Bool} {i:Nat}
theorem set1_all(A:Array Value)(c0:Value)(h:A.size=1):A.setIfInBounds 0 c0=#[c0]:=by
 obtain⟨l⟩:=A
 match l,h with
 | [_],_=>rfl
theorem run_buildSlice1{t T:TypeId}{z:Value}{s0:ByteArray}(ht:P.underlying t=some (.slice T))(hi:(P.info? T).map (fun i=>(i.zero,i.size))=some (some z,1)) :
  (Instr.buildSlice t 1 #[(0,.string s0)]).run P w=.ok (.slice (some ⟨w.heap.size,0,none⟩) 1 1) (w.alloc (.cells #[.string s0] T)):=by
 obtain⟨ti,hti,h3⟩:=Option.map_eq_some_iff.1 hi
 simp only[Prod.mk.injEq]at h3
 obtain⟨h4,h5⟩:=h3
 simp[Instr.buildSlice,Sem.run_bind,run_underlying ht,sizeOf,typeInfo,hti,h4,h5,zeroValue,Instr.fill,newRow,Array.zipIdx,Array.range,go_sem]
 rw[set1_all _ _ (by simp[h5])]
theorem one_build1(ho1:ops[i]?=some op)(hw:Region.wanted op (yielded ops a.tmps)=true)(t:TypeId)(x:Operand)(ho:op.op=.buildSlice t 1 #[(0,x)]){T:TypeId}{z:Value}(ht:P.underlying t=some (.slice T))(hi:(P.info? T).map (fun i=>(i.zero,i.size))=some (some z,1))
  {s0:ByteArray} (hx:a.eval x=.string s0) (hS:S (w.alloc (.cells #[.string s0] T))) (h:wpAnyH P md ops Q S fuel (listed.setIfInBounds i true) (a.put op.dst (.slice (some ⟨w.heap.size,0,none⟩) 1 1)) (w.alloc (.cells #[.string s0] T))):OneH P md ops Q S fuel listed a w i :=
 wpOp_step ho1 (fun _ hK=>by
  rw[if_pos hw]
  unfold Oper.wp execOp
  simp only[ho]
  have:=run_buildSlice1 (P:=P) (w:=w) (s0:=s0) ht hi
  simp only[hx,List.map_toArray,List.map_cons,List.map_nil,this,Sem.run_bind,Result.andThen_ok,Sem.run_pure]
  exact hK _ _ ⟨hS,h⟩)
end
def bytesOn(s:ByteArray)(l:List Int):ByteArray:=l.foldl (fun s k=>s++word1 k) s
theorem bytesOn_snoc(s:ByteArray)(l:List Int)(k:Int):bytesOn s (l++[k])=bytesOn s l++word1 k:=by simp[bytesOn,List.foldl_append]
theorem bytesOn_size:∀ (l:List Int) (s:ByteArray),(bytesOn s l).size=s.size+l.length
 | [],s=>rfl
 | k::r,s=>by
  show(bytesOn (s++word1 k) r).size=_
  rw[bytesOn_size r,ByteArray.size_append,word1_size,List.length_cons];omega
def encMiss(f:Int)(l:List Int):ByteArray:=if (inB f 0 7 && (decide ((l.length:Int)≤20) && allB 0 24 l))=true then bytesOn (word1 f) l else⟨#[]⟩
theorem encMiss_size(f:Int)(l:List Int):(encMiss f l).size≤21:=by
 unfold encMiss
 split
 ·rename_i h
  rw[Bool.and_eq_true,Bool.and_eq_true]at h
  have h2:(l.length:Int)≤20:=by simpa using h.2.1
  rw[bytesOn_size,word1_size];omega
 ·show(0:Nat)≤21;omega
theorem allB_drop{lo hi y:Int}{l r:List Int}{k:Nat}(h:allB lo hi l=true)(hd:l.drop k=y::r):inB y lo hi=true:=by
 have hm:y∈l:=List.mem_of_mem_drop (by rw[hd];exact List.mem_cons_self ..)
 clear hd
 induction l with
 | nil=>cases hm
 | cons x r ih =>
  rw[allB,Bool.and_eq_true]at h
  rcases List.mem_cons.1 hm with rfl|hm
  ·exact h.1
  ·exact ih h.2 hm
theorem take_snoc1{y:Int}{l r:List Int}{k:Nat}(hd:l.drop k=y::r):l.take (k+1)=l.take k++[y]:=by
 rw[List.take_add_one];congr 1
 have:=congrArg (fun m=>m[0]?) hd
 simp only[List.getElem?_drop,Nat.add_zero,List.getElem?_cons_zero]at this
 rw[this];rfl
set_option maxRecDepth 100000 in
set_option maxHeartbeats 2000000 in
theorem c_iEncodeMissing{a:Option Addr}{n c:Nat}{f:Int}{l:List Int}{w:World}(hs:Sl encInt w a l)(hn:l.length=n)(hm:n≤1000000000) :
  Calls Tryz.prog 296 #[.int .i64 f,.slice a n c] w (Gives w (.string (encMiss f l))):=by
 cases c1:inB f 0 7
 ·go_enter Tryz.func296,Tryz.ntmps296
  go_wp2_with (first|((with_reducible refine wp_region_later (by kernel_rfl) (by kernel_rfl) ?_);(repeat(first|go_big_quiet_step (first|(go_at_call 85;exact Gives.quiet (c_ibetween)))|simp only[c1]));refine wpQuiet_nil ?_;rintro _ ⟨x,rfl⟩)|(go_at_call 85;refine(c_ibetween).mono ?_;rintro _ _ ⟨rfl,x,rfl⟩))
  go_ret
  exact Gives.mk (by simp[encMiss,c1])
 have HN:=lH hn
 by_cases h2:(20:Int)<n
 ·have HF:=lH (show encMiss f l=⟨#[]⟩by unfold encMiss;rw[if_neg];rw[hn];simp;omega)
  clear hn
  go_enter Tryz.func296,Tryz.ntmps296
  go_wp2_with (first|((with_reducible refine wp_region_later (by kernel_rfl) (by kernel_rfl) ?_);(repeat(first|go_big_quiet_step (first|(go_at_call 85;exact Gives.quiet (c_ibetween)))|simp only[c1]));refine wpQuiet_nil ?_;rintro _ ⟨x,rfl⟩)|(go_at_call 85;refine(c_ibetween).mono ?_;rintro _ _ ⟨rfl,x,rfl⟩))
  go_ret
  exact Gives.mk (by rw[HF.out];rfl)
 cases c3:allB 0 24 l
 ·have HF:=lH (show encMiss f l=⟨#[]⟩by unfold encMiss;rw[if_neg];rw[c3];simp)
  go_enter Tryz.func296,Tryz.ntmps296
  go_wp2_with (first|((with_reducible refine wp_region_later (by kernel_rfl) (by kernel_rfl) ?_);(repeat(first|go_big_quiet_step (first|(go_at_call 85;exact Gives.quiet (c_ibetween))|(go_at_call 210;exact Gives.quiet (c_iallBetween)))|simp only[c1]|simp only[c3]));refine wpQuiet_nil ?_;rintro _ ⟨x,rfl⟩)|(go_at_call 85;refine(c_ibetween).mono ?_;rintro _ _ ⟨rfl,x,rfl⟩)|(go_at_call 210;refine(c_iallBetween).mono ?_;rintro _ _ ⟨rfl,x,rfl⟩))
  go_ret
  exact Gives.mk (by rw[HF.out];rfl)
 have HF:=lH (show encMiss f l=bytesOn (word1 f) l by unfold encMiss;rw[if_pos];rw[c1,c3,hn];simp;omega)
 have HC:=lH c3
 have⟨f0,f1⟩:=inB_iff.1 c1
 go_enter Tryz.func296,Tryz.ntmps296
 go_wp2_with (first|((with_reducible refine wp_region_later (by kernel_rfl) (by kernel_rfl) ?_);(repeat(first|go_big_quiet_step (first|(go_at_call 85;exact Gives.quiet (c_ibetween))|(go_at_call 210;exact Gives.quiet (c_iallBetween))|(go_at_call 194;exact Gives.quiet (c_iPutWordN)))|simp only[c1]|simp only[c3]));refine wpQuiet_nil ?_;rintro _ ⟨x,rfl⟩)|(go_at_call 85;refine(c_ibetween).mono ?_;rintro _ _ ⟨rfl,x,rfl⟩)|(go_at_call 210;refine(c_iallBetween).mono ?_;rintro _ _ ⟨rfl,x,rfl⟩)|(go_at_call 194;refine(c_iPutWordN).mono ?_;rintro _ _ ⟨rfl,x,rfl⟩))
 clear c3 hn
 go_loopw [5,25] (fun u v wr=>∃ (k:Nat) (s:ByteArray),v=.int .i64 k∧u=.string s∧k≤n∧s.size=1+k∧Hid (s=bytesOn (word1 f) (l.take k))∧∃ x:Later w,wr=x.w) (fun _ v _=>(n - intOf v).toNat)
 case atStart=>exact⟨0,word1 f,rfl,rfl,by omega,rfl,rfl,Later.of⟩
 case round =>
  obtain⟨k,s,rfl,rfl,hk,hsz,hf,x,rfl⟩:=hrel
  have HS:=lH hsz
  have hle:¬ 9223372036854775807<s.size+1:=by omega
  clear hsz
  by_cases h:k<n
  ·obtain⟨b,off,y,rfl,hb,hd,h0⟩:=hs.int (show k<l.length by have:=HN.out;omega)
   have⟨y0,y1⟩:=inB_iff.1 (allB_drop HC.out hd.out)
   go_wp2_with (first|((with_reducible refine wp_region_later (by kernel_rfl) (by kernel_rfl) ?_);(repeat(first|go_big_quiet_step (first|(go_at_call 194;exact Gives.quiet (c_iPutWordN)))));refine wpQuiet_nil ?_;rintro _ ⟨x,rfl⟩)|(go_at_call 194;refine(c_iPutWordN).mono ?_;rintro _ _ ⟨rfl,x,rfl⟩))
   go_roundw
   case rel=>exact⟨k+1,s++word1 y,by go_num,rfl,by omega,by rw[ByteArray.size_append,HS.out,word1_size];omega,(show _=_ by rw[take_snoc1 hd.out,bytesOn_snoc,← hf.out]),Later.of⟩
   case measure=>simp[intOf];omega
  ·go_wp2_with (first|((with_reducible refine wp_region_later (by kernel_rfl) (by kernel_rfl) ?_);(repeat(first|go_big_quiet_step (first|fail)));refine wpQuiet_nil ?_;rintro _ ⟨x,rfl⟩))
   go_ret
   have e:=hf.out
   rw[List.take_of_length_le (by have:=HN.out;omega)]at e
   exact Gives.mk (by rw[HF.out,e];rfl)
def payMiss(k:Int)(l:List Int):ByteArray:=word1 1++encMiss k l
theorem payMiss_size(k:Int)(l:List Int):(payMiss k l).size≤22:=by
 have h:=encMiss_size k l
 unfold payMiss
 rw[ByteArray.size_append,word1_size];omega
def wholeF(f:TFileIn):Bool:=textIs f.File f.Size f.Check f.Parts
def missF(f:TFileIn):List Int:=missL f.File f.Size f.Check f.Parts
def askStep(k:Nat)(f:TFileIn)(s:List ByteArray × List Bool):List ByteArray × List Bool :=
 if (wholeF f && !(s.2.getD k false))=true then(s.1++[payMiss k []],s.2.set k true)
 else if (0:Int)<(missF f).length then(s.1++[payMiss k (missF f)],s.2)else s
def askFrom:Nat→List TFileIn→List ByteArray × List Bool→List ByteArray × List Bool
 | _,[],s=>s
 | k,f::r,s=>askFrom (k+1) r (askStep k f s)
theorem askFrom_snoc(f:TFileIn):∀ (l:List TFileIn) (k:Nat) (s:List ByteArray × List Bool),askFrom k (l++[f]) s=askStep (k+l.length) f (askFrom k l s)
 | [],k,s=>rfl
 | g::r,k,s=>by
  show askFrom (k+1) (r++[f]) (askStep k g s)=_
  rw[askFrom_snoc f r (k+1)]
  show askStep (k+1+r.length) f _=askStep (k+(r.length+1)) f _
  rw[show k+1+r.length=k+(r.length+1)by omega];rfl
theorem askStep_told(k:Nat)(f:TFileIn)(s:List ByteArray × List Bool):(askStep k f s).2.length=s.2.length:=by
 unfold askStep
 split
 ·simp
 ·split<;>rfl
theorem askFrom_told:∀ (l:List TFileIn) (k:Nat) (s:List ByteArray × List Bool),(askFrom k l s).2.length=s.2.length
 | [],_,_=>rfl
 | f::r,k,s=>by rw[askFrom,askFrom_told r,askStep_told]
theorem totL_bools:∀ l:List Bool,totL l=l.length
 | []=>rfl
 | b::r=>by
  have h:Enc.tot b=0:=rfl
  simp only[totL,totL_bools r,h,List.length_cons];omega
theorem askStep_tot(k:Nat)(f:TFileIn)(s:List ByteArray × List Bool):totL (askStep k f s).1≤totL s.1+23:=by
 have h1:=payMiss_size k [];have h2:=payMiss_size k (missF f)
 have e1:Enc.tot (payMiss k [])=((payMiss k []).size:Int):=rfl
 have e2:Enc.tot (payMiss k (missF f))=((payMiss k (missF f)).size:Int):=rfl
 unfold askStep
 split
 ·show totL (s.1++[payMiss k []])≤_
  rw[totL_snoc,e1];omega
 ·split
  ·show totL (s.1++[payMiss k (missF f)])≤_
   rw[totL_snoc,e2];omega
  ·omega
theorem askFrom_tot:∀ (l:List TFileIn) (k:Nat) (s:List ByteArray × List Bool),totL (askFrom k l s).1≤totL s.1+23*l.length
 | [],_,s=>by show totL s.1≤_;simp
 | f::r,k,s=>by
  have h1:=askFrom_tot r (k+1) (askStep k f s)
  have h2:=askStep_tot k f s
  show totL (askFrom (k+1) r (askStep k f s)).1≤_
  rw[List.length_cons];omega
def tellM(m:TMission)(s:List ByteArray × List Bool):TMission:={ m with Ground:={ m.Ground with Offers:=s.1,Told:=s.2 } }
theorem tellM_tot(m:TMission)(s:List ByteArray × List Bool)(h:s.2.length=m.Ground.Told.length):Enc.tot (tellM m s)=Enc.tot m+totL s.1 - totL m.Ground.Offers:=by
 have h1:Enc.tot (tellM m s)=totL m.Plan+totL m.Ups+totL m.Downs+(totL s.1+Enc.tot m.Ground.Sender+Enc.tot m.Ground.Unpacker+totL m.Ground.Pairs+totL m.Ground.Records+totL m.Ground.Files+totL s.2)+Enc.tot m.Space+totL m.Offered+totL m.Took:=rfl
 have h2:Enc.tot m=totL m.Plan+totL m.Ups+totL m.Downs+(totL m.Ground.Offers+Enc.tot m.Ground.Sender+Enc.tot m.Ground.Unpacker+totL m.Ground.Pairs+totL m.Ground.Records+totL m.Ground.Files+totL m.Ground.Told)+Enc.tot m.Space+totL m.Offered+totL m.Took:=rfl
 rw[h1,h2,totL_bools s.2,totL_bools m.Ground.Told,h];omega
def askNow(m:TMission):Bool:=missionOk m && (decide (m.Time % 20=0) && (decide ((m.Ground.Offers.length:Int)≤0) && decide ((m.Ground.Sender.Waiting.length:Int)≤0)))
def askMissing(m:TMission):TMission :=
 if askNow m=true then(if missionOk (tellM m (askFrom 0 m.Ground.Files (m.Ground.Offers,m.Ground.Told)))=true then tellM m (askFrom 0 m.Ground.Files (m.Ground.Offers,m.Ground.Told))else m)else m
def recSize(x:TRecord):Int:=6+x.Data.size
def pr(l:List TRecord)(j:Nat):Int:=match l[j]? with|some y=>y.Priority|none=>0
def leastTo(p:Int)(l:List TRecord):Nat→Int
 | 0=>-1
 | k+1=>if pr l k<p∧(leastTo p l k<0∨pr l k<pr l (leastTo p l k).toNat)then(k:Int)else leastTo p l k
def leastBelow(p:Int)(l:List TRecord):Int:=leastTo p l l.length
def keepGo(room need p:Int):Nat→List TRecord→List Int→Option (List TRecord × List Int)
 | 0,l,d=>if used l+need≤room then some (l,d)else none
 | n+1,l,d=>if used l+need≤room then some (l,d)else if leastBelow p l<0 then none else
  match l[(leastBelow p l).toNat]? with
  | some y=>keepGo room need p n (l.eraseIdx (leastBelow p l).toNat) (d++[y.Id])
  | none=>none
def keepNow(r:TRecorder)(x:TRecord):Bool:=recorderOk r && (recordOk x && (match r.Records.getLast? with|some y=>decide (y.Id<x.Id)|none=>true))
def keepRes(r:TRecorder)(x:TRecord):TRecorder :=
 match keepGo r.Room (recSize x) x.Priority r.Records.length r.Records r.Dropped with
 | some (l,d)=>{ r with Records:=l++[x],Dropped:=d }
 | none=>{ r with Dropped:=r.Dropped++[x.Id] }
def keepRecord(r:TRecorder)(x:TRecord):TRecorder:=if keepNow r x=true then(if recorderOk (keepRes r x)=true then keepRes r x else r)else r
def setParam(b:TBoard)(p v:Int):TBoard:={ b with Params:=b.Params.set p.toNat v,Safe:=b.Safe || b.Limits.any (fun l=>(l.Param == p) && (decide (v<l.Low) || decide (l.High<v))) }
def paramText(l:List Int):ByteArray:=l.foldl (fun s k=>s++word2 k) ⟨#[]⟩
def makeRec(b:TBoard)(p:Int):TBoard:={ b with Recorder:=keepRecord b.Recorder ⟨b.Made,p,b.Clock,paramText b.Params⟩,Made:=b.Made+1 }
def doOrder(b:TBoard)(x:TOrder):TBoard × Int :=
 if x.Kind=0 then(setParam b x.A x.B,1)
 else if x.Kind=1 then(if b.Safe=true then(b,0)else(makeRec b x.A,1))
 else if x.Kind=2 then({ b with Safe:=(x.A == 1) },1)
 else if x.Kind=3 then(if b.Safe=true then(b,0)else({ b with Asked:=b.Asked++[x.A] },1))
 else if firstAt x.A 0 b.Orders<0 then(b,0)else({ b with Orders:=b.Orders.eraseIdx (firstAt x.A 0 b.Orders).toNat,Done:=b.Done++[⟨x.A,b.Clock,0⟩] },1)
def performNow(b:TBoard)(w:TWaiting):Bool:=boardOk b && (orderOk w.Order && (inB w.Number 0 (b.Taken - 1) && decide (firstAt w.Number 0 b.Orders<0)))
def performRes(b:TBoard)(w:TWaiting):TBoard:={ (doOrder b w.Order).1 with Done:=(doOrder b w.Order).1.Done++[⟨w.Number,b.Clock,(doOrder b w.Order).2⟩] }
def performOrder(b:TBoard)(w:TWaiting):TBoard:=if performNow b w=true then(if boardOk (performRes b w)=true then performRes b w else b)else b
def tickGo:Nat→TBoard→TBoard
 | 0,b=>b
 | n+1,b=>match b.Orders with
  | []=>b
  | w::r=>if w.Order.At≤b.Clock then tickGo n (performOrder { b with Orders:=r } w)else b
def tickNow(b:TBoard):Bool:=boardOk b && (!(b.Clock == 1000000) && (decide (b.Made≤60000) && (decide (b.Taken≤60000) && (decide ((b.Done.length:Int)≤4900) && decide ((b.Asked.length:Int)≤4900)))))
def tickBoard(b:TBoard):TBoard:=if tickNow b=true then tickGo b.Orders.length { b with Clock:=b.Clock+1 } else b
theorem allB_all{lo hi:Int}:∀ {l:List Int},allB lo hi l=true↔∀ y∈l,lo≤y∧y≤hi
 | []=>by simp[allB]
 | x::r=>by simp only[allB,Bool.and_eq_true,allB_all (l:=r),inB_iff,List.mem_cons,forall_eq_or_imp]
theorem totL_zero{α:Type}[Enc α](h:∀ x:α,Enc.tot x=0):∀ l:List α,totL l=l.length
 | []=>rfl
 | x::r=>by simp only[totL,totL_zero h r,h x,List.length_cons];omega
theorem totL_used:∀ l:List TRecord,totL l≤used l
 | []=>Int.le_refl _
 | x::r=>by
  have h:Enc.tot x=(x.Data.size:Int):=rfl
  have ih:=totL_used r
  simp only[totL,used,h];omega
theorem board_tot(b:TBoard):Enc.tot b=b.Params.length+b.Limits.length+b.Orders.length+b.Done.length+(totL b.Recorder.Records+b.Recorder.Dropped.length)+b.Asked.length:=by
 have h:Enc.tot b=totL b.Params+totL b.Limits+totL b.Orders+totL b.Done+(totL b.Recorder.Records+totL b.Recorder.Dropped)+totL b.Asked:=rfl
 rw[h,totL_zero (fun _=>rfl) b.Params,totL_zero (fun _=>rfl) b.Limits,totL_zero (fun _=>rfl) b.Orders,totL_zero (fun _=>rfl) b.Done,totL_zero (fun _=>rfl) b.Recorder.Dropped,totL_zero (fun _=>rfl) b.Asked]
theorem recorder_tot(r:TRecorder):Enc.tot r=totL r.Records+r.Dropped.length:=by
 have h:Enc.tot r=totL r.Records+totL r.Dropped:=rfl
 rw[h,totL_zero (fun _=>rfl) r.Dropped]
theorem recorderOk_tot{r:TRecorder}(h:recorderOk r=true):Enc.tot r≤70000:=by
 simp only[recorderOk,Bool.and_eq_true,decide_eq_true_eq]at h
 have h1:=inB_iff.1 h.1
 have h2:=totL_used r.Records
 rw[recorder_tot];omega
theorem boardOk_tot{b:TBoard}(h:boardOk b=true):Enc.tot b≤81000:=by
 simp only[boardOk,Bool.and_eq_true,decide_eq_true_eq,beq_iff_eq]at h
 obtain⟨-,h1,-,h2,-,-,-,h3,h4,-,h5,-,h6,-⟩:=h
 have h7:=recorderOk_tot h5
 rw[recorder_tot]at h7
 have h8:(b.Orders.length:Int)≤40:=by
  rw[ordersOk,Bool.and_eq_true,decide_eq_true_eq]at h3;exact h3.1
 rw[board_tot];omega
def askedOk(b:TBoard):Prop:=b.Asked.length≤5000∧∀ f∈b.Asked,0≤f∧f≤7
theorem boardOk_asked{b:TBoard}(h:boardOk b=true):askedOk b:=by
 simp only[boardOk,Bool.and_eq_true,decide_eq_true_eq]at h
 obtain⟨-,-,-,-,-,-,-,-,-,-,-,-,h6,h7⟩:=h
 exact⟨by omega,allB_all.1 h7⟩
theorem doOrder_asked(b:TBoard)(x:TOrder):b.Asked <+: (doOrder b x).1.Asked:=by
 unfold doOrder setParam makeRec
 repeat' split
 all_goals first|exact List.prefix_refl _|exact List.prefix_append _ _
theorem perform_asked(b:TBoard)(w:TWaiting):b.Asked <+: (performOrder b w).Asked∧(askedOk b→askedOk (performOrder b w))∧(Enc.tot (performOrder b w)=Enc.tot b∨Enc.tot (performOrder b w)≤81000):=by
 unfold performOrder
 split
 ·split
  ·rename_i h
   exact⟨doOrder_asked b w.Order,fun _=>boardOk_asked h,.inr (boardOk_tot h)⟩
  ·exact⟨List.prefix_refl _,id,.inl rfl⟩
 ·exact⟨List.prefix_refl _,id,.inl rfl⟩
theorem tickGo_asked:∀ (n:Nat) (b:TBoard),b.Asked <+: (tickGo n b).Asked∧(askedOk b→askedOk (tickGo n b))∧(Enc.tot (tickGo n b)≤Enc.tot b∨Enc.tot (tickGo n b)≤81000)
 | 0,b=>⟨List.prefix_refl _,id,.inl (Int.le_refl _)⟩
 | n+1,b=>by
  rw[tickGo]
  split
  ·exact⟨List.prefix_refl _,id,.inl (Int.le_refl _)⟩
  ·rename_i w r hr
   split
   ·have h1:=perform_asked { b with Orders:=r } w
    have h2:=tickGo_asked n (performOrder { b with Orders:=r } w)
    have h3:Enc.tot ({ b with Orders:=r }:TBoard)≤Enc.tot b:=by
     rw[board_tot,board_tot,hr,List.length_cons];simp only;omega
    refine⟨h1.1.trans h2.1,fun h=>h2.2.1 (h1.2.1 h),?_⟩
    rcases h2.2.2 with h4|h4
    ·rcases h1.2.2 with h5|h5
     ·left;omega
     ·right;omega
    ·exact .inr h4
   ·exact⟨List.prefix_refl _,id,.inl (Int.le_refl _)⟩
theorem tickBoard_asked(b:TBoard):b.Asked <+: (tickBoard b).Asked∧(askedOk b→askedOk (tickBoard b))∧(Enc.tot (tickBoard b)≤Enc.tot b∨Enc.tot (tickBoard b)≤81000):=by
 unfold tickBoard
 split
 ·exact tickGo_asked _ { b with Clock:=b.Clock+1 }
 ·exact⟨List.prefix_refl _,id,.inl (Int.le_refl _)⟩
def tickN:Nat→TBoard→TBoard
 | 0,b=>b
 | n+1,b=>tickN n (tickBoard b)
theorem tickN_asked:∀ (n:Nat) (b:TBoard),b.Asked <+: (tickN n b).Asked∧(askedOk b→askedOk (tickN n b))∧(Enc.tot (tickN n b)≤Enc.tot b∨Enc.tot (tickN n b)≤81000)
 | 0,b=>⟨List.prefix_refl _,id,.inl (Int.le_refl _)⟩
 | n+1,b=>by
  have h1:=tickBoard_asked b
  have h2:=tickN_asked n (tickBoard b)
  rw[tickN]
  refine⟨h1.1.trans h2.1,fun h=>h2.2.1 (h1.2.1 h),?_⟩
  rcases h2.2.2 with h4|h4
  ·rcases h1.2.2 with h5|h5
   ·left;omega
   ·right;omega
  ·exact .inr h4
/-! ### The senders of files -/
def segNums(n:Int):List Int:=(List.range n.toNat).map (fun j:Nat=>(j:Int))
def newOut(f:Int)(s:ByteArray):TFileOut:=⟨f,s,segNums (countSeg s.size)++[-1],false⟩
theorem newOut_tot(f:Int)(s:ByteArray):Enc.tot (newOut f s)≤s.size+26:=by
 have h:Enc.tot (newOut f s)=(s.size:Int)+totL (segNums (countSeg s.size)++[-1]):=rfl
 have h1:=countSeg_bd s.size
 rw[h,totL_zero (fun _=>rfl)]
 simp[segNums];omega
def beginFiles(fs:List ByteArray):List Int→List TFileOut→List TFileOut
 | [],o=>o
 | f::r,o=>beginFiles fs r (o.set f.toNat (newOut f (fs.getD f.toNat ByteArray.empty)))
theorem beginFiles_len(fs:List ByteArray):∀ (l:List Int) (o:List TFileOut),(beginFiles fs l o).length=o.length
 | [],_=>rfl
 | _::r,_=>by rw[beginFiles,beginFiles_len fs r,List.length_set]
def advNow(m:TMission):Bool:=missionOk m && !(m.Time == 1000000)
def advN(m:TMission):Nat:=(ticksDue m.Drift.Rate m.Drift.Offset m.Time).toNat
def advB(m:TMission):TBoard:=tickN (advN m) m.Space.Board
def advO(m:TMission):List TFileOut:=beginFiles m.Space.Files ((advB m).Asked.drop m.Space.Begun.toNat) m.Space.Outs
def advanceBoard(m:TMission):TMission :=
 if advNow m=true then { m with Time:=m.Time+1,Space:={ m.Space with Board:=advB m,Outs:=advO m,Begun:=(advB m).Asked.length } } else m
theorem outs_small{fs:List ByteArray}:∀ {l:List TFileOut} {k:Nat},outsFrom fs k l=true→∀ o∈l,Enc.tot o≤1600
 | [],_,_,o,ho=>by cases ho
 | x::r,k,h,o,ho=>by
  rw[outsFrom,Bool.and_eq_true]at h
  rcases List.mem_cons.1 ho with rfl|ho
  ·have h1:=h.1
   simp only[outOk,fileOutOkT,fileOutOk,Bool.and_eq_true,decide_eq_true_eq]at h1
   have h2:Enc.tot o=(o.Data.size:Int)+totL o.Queue:=rfl
   rw[h2,totL_zero (fun _=>rfl)];omega
  ·exact outs_small h.2 o ho
theorem totL_le{α:Type}[Enc α]{b:Int}:∀ {l:List α},(∀ x∈l,Enc.tot x≤b)→totL l≤l.length*(b+1)
 | [],_=>by simp[totL]
 | x::r,h=>by
  have h1:=h x (by simp)
  have h2:=totL_le (l:=r) (fun t ht=>h t (by simp[ht]))
  have h4:((r.length+1:Nat):Int)*(b+1)=r.length*(b+1)+(b+1):=by rw[Int.natCast_add,Int.add_mul];simp
  simp only[totL,List.length_cons]
  rw[h4];omega
theorem begin_small{fs:List ByteArray}(hf:∀ s∈fs,s.size≤600):∀ (l:List Int) (o:List TFileOut),(∀ x∈o,Enc.tot x≤1600)→∀ x∈beginFiles fs l o,Enc.tot x≤1600
 | [],_,h=>h
 | f::r,o,h=>begin_small hf r _ fun x hx=>by
  rcases List.mem_or_eq_of_mem_set hx with hx|rfl
  ·exact h x hx
  ·have h1:=newOut_tot f (fs.getD f.toNat ByteArray.empty)
   have h2:(fs.getD f.toNat ByteArray.empty).size≤600:=by
    rw[List.getD_eq_getElem?_getD]
    cases e:fs[f.toNat]? with
    | none=>exact Nat.zero_le _
    | some s=>exact hf s (List.mem_of_getElem? e)
   omega
theorem adv_parts{m:TMission}(h:advNow m=true):missionOk m=true∧0≤m.Time∧m.Time≤999999∧boardOk m.Space.Board=true∧0≤m.Space.Begun∧m.Space.Begun≤m.Space.Board.Asked.length∧m.Space.Files.length=8∧m.Space.Outs.length=8∧outsFrom m.Space.Files 0 m.Space.Outs=true:=by
 rw[advNow,Bool.and_eq_true]at h
 obtain⟨h,h0⟩:=h
 have h1:=h
 simp only[missionOk,spaceOk,Bool.and_eq_true,decide_eq_true_eq,beq_iff_eq]at h
 have ht:=inB_iff.1 h.1
 have hb:=inB_iff.1 h.2.2.2.2.2.2.2.2.2.2.2.1.2.2.2.2.2.1
 have hs:=h.2.2.2.2.2.2.2.2.2.2.2.1
 simp at h0
 exact⟨h1,ht.1,by omega,hs.2.1,hb.1,hb.2,by omega,by omega,hs.2.2.2.2.2.2.2.2.2⟩
theorem files_small{fs:List ByteArray}:∀ {l:List TFileOut} {k:Nat},outsFrom fs k l=true→∀ i,k≤i→i<k+l.length→(fs.getD i ByteArray.empty).size≤600
 | [],k,_,i,h1,h2=>by simp at h2;omega
 | x::r,k,h,i,h1,h2=>by
  rw[outsFrom,Bool.and_eq_true]at h
  by_cases hi:i=k
  ·subst hi
   have h3:=h.1
   simp only[outOk,Bool.and_eq_true,Bool.not_eq_true',decide_eq_false_iff_not]at h3
   omega
  ·simp only[List.length_cons]at h2
   exact files_small h.2 i (by omega) (by omega)
theorem adv_files{m:TMission}(h:advNow m=true):∀ s∈m.Space.Files,s.size≤600:=fun s hs=>by
 obtain⟨-,-,-,-,-,-,h1,h2,h3⟩:=adv_parts h
 obtain⟨i,hi,rfl⟩:=List.getElem_of_mem hs
 have:=files_small h3 i (Nat.zero_le _) (by omega)
 rwa[List.getD_eq_getElem?_getD,List.getElem?_eq_getElem hi]at this
theorem adv_asked{m:TMission}(h:advNow m=true):m.Space.Begun.toNat≤(advB m).Asked.length∧(∀ f∈(advB m).Asked,0≤f∧f≤7)∧(advB m).Asked.length≤5000∧(Enc.tot (advB m)≤Enc.tot m.Space.Board∨Enc.tot (advB m)≤81000):=by
 obtain⟨-,-,-,h1,h2,h3,-⟩:=adv_parts h
 have h4:=tickN_asked (advN m) m.Space.Board
 have h5:=h4.2.1 (boardOk_asked h1)
 have h6:=h4.1.length_le
 exact⟨by unfold advB;omega,h5.2,h5.1,h4.2.2⟩
theorem advanceBoard_tot(m:TMission):Enc.tot (advanceBoard m)≤Enc.tot m+100000:=by
 unfold advanceBoard
 split
 ·rename_i h
  obtain⟨-,-,-,-,-,-,h1,h2,h3⟩:=adv_parts h
  obtain⟨-,-,-,h4⟩:=adv_asked h
  have h5:totL (advO m)≤8*1601:=by
   have h6:=totL_le (begin_small (adv_files h) ((advB m).Asked.drop m.Space.Begun.toNat) m.Space.Outs (outs_small h3))
   rw[beginFiles_len,h2]at h6
   exact h6
  have h6:=totL_nonneg m.Space.Outs
  have h7:=Enc.tot_nonneg m.Space.Board
  have e1:Enc.tot m=totL m.Plan+totL m.Ups+totL m.Downs+Enc.tot m.Ground+(Enc.tot m.Space.Board+Enc.tot m.Space.Packer+totL m.Space.Files+totL m.Space.Outs+totL m.Space.Sent)+totL m.Offered+totL m.Took:=rfl
  have e2:Enc.tot ({ m with Time:=m.Time+1,Space:={ m.Space with Board:=advB m,Outs:=advO m,Begun:=(advB m).Asked.length } }:TMission)=totL m.Plan+totL m.Ups+totL m.Downs+Enc.tot m.Ground+(Enc.tot (advB m)+Enc.tot m.Space.Packer+totL m.Space.Files+totL (advO m)+totL m.Space.Sent)+totL m.Offered+totL m.Took:=rfl
  rw[e1,e2];omega
 ·omega
theorem Fr.ofBox{B b:Nat}{χ:Nat→Col}{i:Col}{w w':World}(g:w.grownBy w' (some b))(h:χ b=i)(hB:B≤b):Fr B χ (·=i) w w' :=
 ⟨g.os,g.tape,g.output,g.size,fun k hk hn=>g.block k hk (fun e=>hn (by cases e;exact⟨hB,h⟩))⟩
theorem TMissionO.box{B o b:Nat}{χ:Nat→Col}{w w2:World}{A:TMissionA}{m:TMission}(h:TMissionO B χ o w A m)(g:w.grownBy w2 (some b))(hc:χ b=(1000,0))(hB:B≤b)(ho:o+22≤1000):TMissionO B χ o w2 A m :=
 h.fr (Fr.ofBox g hc hB) (fun j k _ h2 e=>by cases e;omega)
theorem offer_app{B0 n:Nat}{χ:Nat→Col}{u W W2:World}{A:TMissionA}{m:TMission}{p:ByteArray}{sa:Option Addr}{sc:Nat}(h:TMissionO B0 χ 0 u A m)(hown:Own encStr 9 1 B0 W2 sa sc (m.Ground.Offers++[p]))(hgr:W.grownBy W2 (Value.ownBlock (.slice A.a3 n A.c3)))
  (hblk:blkOf sa=blkOf A.a3∨blkOf sa=some W.heap.size) (hp:p.size≤9223372036854775807) (g:Grows u W) :
  Fr B0 χ (·=(0+3,0)) W W2∧TMissionO B0 (paint W.heap.size χ (fun _=>(0+3,0)) id) 0 W2 { A with a3:=sa,c3:=sc } (offer m p):=by
 have hT:=h.to g
 have hF:=hT.o3.wrote hgr
 exact⟨hF,(hT.old (Nat.le_refl _)).put3 (hF.old (Nat.le_refl _)) (hT.o3.app hown hblk hp)⟩
theorem offer_cells{B:Nat}{χ:Nat→Col}{w:World}{cs:List Value}{m:TMission}{p:ByteArray}{A:TMissionA}{sa:Option Addr}{sc:Nat}(hcs:cs=(dMission m A))(h:TMissionO B χ 0 w { A with a3:=sa,c3:=sc } (offer m p)) :
  EncO.O B χ 0 w (cs.set 16 (.slice sa (m.Ground.Offers.length+1) sc)) (offer m p):=by
 refine⟨_,?_,h⟩
 have e:(offer m p).Ground.Offers.length=m.Ground.Offers.length+1:=by simp[offer]
 rw[hcs,← e]
 rfl
theorem Own.tyAt{α:Type}{enc:α→List Value}{T size B:Nat}{w:World}{a:Option Addr}{c:Nat}{l:List α}(h:Own enc T size B w a c l):∀ k,blkOf a=some k→∃ D,w.heap[k]?=some (.cells D T (0,0)):=by
 obtain⟨-,-,⟨h1,-⟩|⟨g,cap,cur,hv,-,hh,-⟩⟩:=h
 ·simp only[Value.slice.injEq]at h1
  obtain⟨rfl,-⟩:=h1
  exact fun k hk=>by cases hk
 ·simp only[Value.slice.injEq]at hv
  obtain⟨rfl,-⟩:=hv
  exact fun k hk=>by cases hk;exact⟨cur,hh⟩
def tyOf(w:World)(b:Nat):Nat:=match w.heap[b]? with|some (.cells _ T _)=>T|_=>0
def newCol(w:World)(U:Nat)(χ:Nat→Col)(b:Nat):Col :=
 if tyOf w b=201 then(0,0)else if tyOf w b=4 then(8,0)else if tyOf w b=3 then(9,0)else if tyOf w b=288 then(10,0)else if tyOf w b=116 then(18,0)else
 if b<U then(17,0)else((χ b).1+7,(χ b).2)
theorem newM_own{B U:Nat}{w:World}{χ1 χ2:Nat→Col}{light:Int}{d:TDrift}{o:TOrbit}{pl:List Slot}{up down:TChannel}{room:Int}{L:List TLimit}{fs:List ByteArray}{a0 a7 a8 a9 a10 a17 a18:Option Addr}{c0 c7 c8 c9 c10 c17 c18:Nat}{rows:List (NRow TFileIn)}{rows2:List (NRow TFileOut)}
  (h0:Own encSlot 201 2 B w a0 c0 pl) (g0:∀ x∈pl,okDSlot x) (h7:OwnN U χ1 0 w a7 c7 rows) (e7:rows.map (·.x)=insOf 0 fs) (hU:B≤U) (h8:Own encBoo 4 1 B w a8 c8 (List.replicate 8 false)) (h9:Own encInt 3 1 B w a9 c9 (List.replicate 8 0))
  (h10:Own encTLimit 288 3 B w a10 c10 L) (g10:∀ x∈L,okDTLimit x) (h17:Own encStr 9 1 B w a17 c17 fs) (g17:∀ s∈fs,s.size≤9223372036854775807) (l17:∀ k,blkOf a17=some k→k<U)
  (h18:OwnN B χ2 0 w a18 c18 rows2) (e18:rows2.map (·.x)=outsOf 0 fs) (n18:∀ r∈rows2,r.a=none) (hok:okDTMission (newM light d o pl up down room L fs)) :
  TMissionO B (newCol w U χ1) 0 w ⟨a0,c0,none,0,none,0,none,0,none,0,none,0,none,0,a7,c7,a8,c8,a9,c9,a10,c10,none,0,none,0,none,0,none,0,none,0,none,0,a17,c17,a18,c18,none,0,none,0,none,0⟩ (newM light d o pl up down room L fs):=by
 have ty:∀ {b:Nat} {D:Array Value} {T:Nat},w.heap[b]?=some (.cells D T (0,0))→tyOf w b=T:=fun h=>by rw[tyOf,h]
 refine⟨⟨h0,fun k hk=>?_,g0⟩,OwnC.nil,OwnC.nil,OwnC.nil,OwnC.nil,OwnC.nil,OwnC.nil,⟨rows,e7,(h7.mono hU).own,fun k hk=>?_,fun k r hr=>⟨(h7.each k r hr).1,((h7.each k r hr).2.own).mono hU,fun b hb=>?_,(h7.each k r hr).2.good⟩⟩,⟨h8,fun k hk=>?_,fun _ _=>trivial⟩,
  ⟨h9,fun k hk=>?_,fun x hx=>by rw[List.eq_of_mem_replicate hx];show i64 0;unfold i64;omega⟩,⟨h10,fun k hk=>?_,g10⟩,OwnC.nil,OwnC.nil,OwnC.nil,OwnC.nil,OwnC.nil,OwnC.nil,⟨h17,fun k hk=>?_,g17⟩,⟨rows2,e18,h18.own,fun k hk=>?_,fun k r hr=>⟨(h18.each k r hr).1,(h18.each k r hr).2.own,fun b hb=>?_,(h18.each k r hr).2.good⟩⟩,OwnC.nil,OwnC.nil,OwnC.nil,hok⟩
 ·obtain⟨D,hD⟩:=h0.tyAt k hk;simp[newCol,ty hD]
 ·obtain⟨D,hD⟩:=h7.own.tyAt k hk
  have h2:=(h7.own.blk k hk).1
  have h3:=h7.col k hk
  simp[newCol,ty (show w.heap[k]?=some (.cells D 172 (0,0))from hD),show ¬ k<U by omega,h3]
 ·obtain⟨D,hD⟩:=(h7.each k r hr).2.own.tyAt b hb
  have h2:=((h7.each k r hr).2.own.blk b hb).1
  have h3:=(h7.each k r hr).2.col b hb
  simp[newCol,ty (show w.heap[b]?=some (.cells D 9 (0,0))from hD),show ¬ b<U by omega,h3]
 ·obtain⟨D,hD⟩:=h8.tyAt k hk;simp[newCol,ty hD]
 ·obtain⟨D,hD⟩:=h9.tyAt k hk;simp[newCol,ty hD]
 ·obtain⟨D,hD⟩:=h10.tyAt k hk;simp[newCol,ty hD]
 ·obtain⟨D,hD⟩:=h17.tyAt k hk;simp[newCol,ty hD,l17 k hk]
 ·obtain⟨D,hD⟩:=h18.own.tyAt k hk;simp[newCol,ty (show w.heap[k]?=some (.cells D 116 (0,0))from hD)]
 ·rw[n18 r (List.mem_of_getElem? hr)]at hb;cases hb
theorem zeroM_own{B:Nat}{χ:Nat→Col}{w:World}:EncO.O B χ 0 w [.int .i64 0,.int .i64 0,.int .i64 0,.int .i64 0,.int .i64 0,.int .i64 0,.int .i64 0,.slice none 0 0,.int .i64 0,.int .i64 0,.int .i64 0,.int .i64 0,.int .i64 0,.int .i64 0,.slice none 0 0,.slice none 0 0,.slice none 0 0,.int .i64 0,.int .i64 0,.slice none 0 0,.int .i64 0,.int .i64 0,.bool false,.bool false,.int .i64 0,.int .i64 0,.bool false,.string ⟨#[]⟩,.int .i64 0,.slice none 0 0,.slice none 0 0,.slice none 0 0,.slice none 0 0,.int .i64 0,.bool false,.bool false,.int .i64 0,.int .i64 0,.slice none 0 0,.bool false,.slice none 0 0,.slice none 0 0,.slice none 0 0,.int .i64 0,.slice none 0 0,.slice none 0 0,.int .i64 0,.int .i64 0,.slice none 0 0,.int .i64 0,.int .i64 0,.string ⟨#[]⟩,.slice none 0 0,.int .i64 0,.slice none 0 0,.slice none 0 0,.int .i64 0,.slice none 0 0,.slice none 0 0,.slice none 0 0,.int .i64 0] zeroM :=
 ⟨⟨none,0,none,0,none,0,none,0,none,0,none,0,none,0,none,0,none,0,none,0,none,0,none,0,none,0,none,0,none,0,none,0,none,0,none,0,none,0,none,0,none,0,none,0⟩,rfl,OwnC.nil,OwnC.nil,OwnC.nil,OwnC.nil,OwnC.nil,OwnC.nil,OwnC.nil,⟨[],rfl,OwnN.nil⟩,OwnC.nil,OwnC.nil,OwnC.nil,OwnC.nil,OwnC.nil,OwnC.nil,OwnC.nil,OwnC.nil,OwnC.nil,OwnC.nil,⟨[],rfl,OwnN.nil⟩,OwnC.nil,OwnC.nil,OwnC.nil,by
  have z:i64 0:=by unfold i64;omega
  exact⟨z,z,⟨z,z,trivial⟩,⟨z,z,z,trivial⟩,⟨z,z,z,trivial⟩,⟨z,z,z,trivial⟩,⟨⟨z,z,z,trivial⟩,⟨z,trivial⟩,⟨z,z,Nat.zero_le _,z,trivial⟩,trivial⟩,⟨⟨z,z,trivial⟩,⟨z,⟨z,trivial⟩,z,z,trivial⟩,⟨z,z,Nat.zero_le _,trivial⟩,z,z,trivial⟩,z,trivial⟩⟩
def cM(m:TMission)(A:TMissionA):List Value:=[.int .i64 m.Time,.int .i64 m.Light,.int .i64 m.Drift.Rate,.int .i64 m.Drift.Offset,.int .i64 m.Orbit.Period,.int .i64 m.Orbit.Start,.int .i64 m.Orbit.Length,.slice A.a0 m.Plan.length A.c0,.int .i64 m.Up.Seed,.int .i64 m.Up.Burst,.int .i64 m.Up.Loss,.int .i64 m.Down.Seed,.int .i64 m.Down.Burst,.int .i64 m.Down.Loss,.slice A.a1 m.Ups.length A.c1,.slice A.a2 m.Downs.length A.c2,.slice A.a3 m.Ground.Offers.length A.c3,.int .i64 m.Ground.Sender.Next,.int .i64 m.Ground.Sender.Window,.slice A.a4 m.Ground.Sender.Waiting.length A.c4,.int .i64 m.Ground.Sender.Done,.int .i64 m.Ground.Notice.Expect,.bool m.Ground.Notice.Locked,.bool m.Ground.Notice.Again,.int .i64 m.Ground.Unpacker.Channel,.int .i64 m.Ground.Unpacker.Next,.bool m.Ground.Unpacker.Synced,.string m.Ground.Unpacker.Rest,.int .i64 m.Ground.Unpacker.Lost,.slice A.a5 m.Ground.Pairs.length A.c5,.slice A.a6 m.Ground.Records.length A.c6,.slice A.a7 m.Ground.Files.length A.c7,.slice A.a8 m.Ground.Told.length A.c8,.int .i64 m.Space.Receiver.Expect,.bool m.Space.Receiver.Locked,.bool m.Space.Receiver.Again,.int .i64 m.Space.Receiver.Taken,.int .i64 m.Space.Board.Clock,.slice A.a9 m.Space.Board.Params.length A.c9,.bool m.Space.Board.Safe,.slice A.a10 m.Space.Board.Limits.length A.c10,.slice A.a11 m.Space.Board.Orders.length A.c11,.slice A.a12 m.Space.Board.Done.length A.c12,.int .i64 m.Space.Board.Recorder.Room,.slice A.a13 m.Space.Board.Recorder.Records.length A.c13,.slice A.a14 m.Space.Board.Recorder.Dropped.length A.c14,.int .i64 m.Space.Board.Made,.int .i64 m.Space.Board.Taken,.slice A.a15 m.Space.Board.Asked.length A.c15,.int .i64 m.Space.Packer.Channel,.int .i64 m.Space.Packer.Count,.string m.Space.Packer.Rest,.slice A.a16 m.Space.Packer.Starts.length A.c16,.int .i64 m.Space.Seq,.slice A.a17 m.Space.Files.length A.c17,.slice A.a18 m.Space.Outs.length A.c18,.int .i64 m.Space.Begun,.slice A.a19 m.Space.Sent.length A.c19,.slice A.a20 m.Offered.length A.c20,.slice A.a21 m.Took.length A.c21,.int .i64 m.Bad]
theorem cM_len(m:TMission)(A:TMissionA):(cM m A).length=61:=rfl
theorem cM_one(m:TMission)(A:TMissionA):(cM m A).all (·.oneCell')=true:=rfl
structure Fld(α:Type)[E:Flat α] where
 off:Nat
 col:Nat
 get:TMission→List α
 set:TMission→List α→TMission
 ga:TMissionA→Option Addr
 gc:TMissionA→Nat
 sa:TMissionA→Option Addr→Nat→TMissionA
 own:∀ {B χ w A x},TMissionO B χ 0 w A x→OwnC B χ (col,0) w (ga A) (gc A) (get x)
 put:∀ {B χ w w2 A x a c l},TMissionO B χ 0 w A x→Fr B χ (·=(col,0)) w w2→OwnC B χ (col,0) w2 a c l→TMissionO B χ 0 w2 (sa A a c) (set x l)
 cell:∀ x A,(cM x A)[off]?=some (.slice (ga A) (get x).length (gc A))
 cells:∀ x A l a c,(cM x A).set off (.slice a l.length c)=cM (set x l) (sa A a c)
 lt:off<61
 clt:col<22
 eta:∀ A,sa A (ga A) (gc A)=A
def fGOffers:Fld ByteArray:=⟨16,3,(·.Ground.Offers),fun m l=>{ m with Ground.Offers:=l },(·.a3),(·.c3),fun A a c=>{ A with a3:=a,c3:=c },fun h=>h.o3,fun h f k=>h.put3 f k,fun _ _=>rfl,fun _ _ _ _ _=>rfl,by decide,by decide,fun _=>rfl⟩
def fGTold:Fld Bool:=⟨32,8,(·.Ground.Told),fun m l=>{ m with Ground.Told:=l },(·.a8),(·.c8),fun A a c=>{ A with a8:=a,c8:=c },fun h=>h.o8,fun h f k=>h.put8 f k,fun _ _=>rfl,fun _ _ _ _ _=>rfl,by decide,by decide,fun _=>rfl⟩
theorem Own.held{α:Type}{T size g B c:Nat}{w:World}{enc:α→List Value}{l:List α}(h:Own enc T size B w (some ⟨g,0,none⟩) c l):∃ cs:List Value,Held w g cs T∧l.length*size≤cs.length:=by
 obtain⟨hsz,-,⟨hv,hn0⟩|⟨g',cap,cur,hv,hB,hheap,hle,hmax,hcs,-⟩⟩:=h
 ·simp at hv
 ·simp only[Value.slice.injEq,Option.some.injEq,Addr.mk.injEq]at hv
  obtain⟨⟨rfl,-,-⟩,-,rfl⟩:=hv
  refine⟨cur.toList,by unfold Held;simpa using hheap,?_⟩
  rw[show cur.toList.length=cur.size by simp,hcs];exact Nat.mul_le_mul_right _ hle
def MB(X:Nat→Prop)(B b:Nat)(w:World)(A:TMissionA)(m:TMission):Prop :=
 ∃ χ:Nat→Col,Held w b (cM m A) 90∧TMissionO B χ 0 w A m∧1000≤(χ b).1∧Fresh χ w∧B≤b∧∀ k,X k→1000≤(χ k).1∧k≠b∧k<w.heap.size
def MBp{α:Type}[E:Flat α](F:Fld α)(X:Nat→Prop)(B b:Nat)(w:World)(A:TMissionA)(m:TMission)(l:List α)(a:Option Addr)(c:Nat):Prop :=
 ∃ χ:Nat→Col,Held w b (cM m A) 90∧TMissionO B χ 0 w (F.sa A a c) (F.set m l)∧1000≤(χ b).1∧Fresh χ w∧B≤b∧∀ k,X k→1000≤(χ k).1∧k≠b∧k<w.heap.size
section
variable {X:Nat→Prop} {B b:Nat} {w w':World} {A:TMissionA} {m:TMission}
theorem MB.held(h:MB X B b w A m):Held w b (cM m A) 90:=h.elim fun _ h=>h.1
theorem MB.le(h:MB X B b w A m):B≤b:=h.elim fun _ h=>h.2.2.2.2.1
theorem MB.lt(h:MB X B b w A m):b<w.heap.size:=h.held.lt
theorem MB.f(h:MB X B b w A m):TMissionF B w A m:=h.elim fun _ h=>h.2.1.f
theorem MB.rd(h:MB X B b w A m):Enc.Rd B w (cM m A) m:=⟨A,rfl,h.f⟩
theorem MB.o(h:MB X B b w A m):∃ χ,EncO.O B χ 0 w (cM m A) m:=h.elim fun χ h=>⟨χ,A,rfl,h.2.1⟩
theorem MB.to(h:MB X B b w A m)(g:Grows w w'):MB X B b w' A m :=
 h.elim fun χ h=>⟨χ,h.1.to g,h.2.1.to g,h.2.2.1,h.2.2.2.1.mono g.out.size,h.2.2.2.2.1,fun k hk=>⟨(h.2.2.2.2.2 k hk).1,(h.2.2.2.2.2 k hk).2.1,Nat.lt_of_lt_of_le (h.2.2.2.2.2 k hk).2.2 g.out.size⟩⟩
theorem MB.keep(h:MB X B b w A m)(g:Keeps B w w'):MB X B b w' A m :=
 h.elim fun χ h=>⟨χ,by have h1:=h.1;unfold Held at h1 ⊢;rw[g.block b h.2.2.2.2.1 h.1.lt];exact h1,h.2.1.keep g,h.2.2.1,h.2.2.2.1.mono g.size,h.2.2.2.2.1,fun k hk=>⟨(h.2.2.2.2.2 k hk).1,(h.2.2.2.2.2 k hk).2.1,Nat.lt_of_lt_of_le (h.2.2.2.2.2 k hk).2.2 g.size⟩⟩
theorem MB.mono{B':Nat}(h:MB X B b w A m)(g:B'≤B):MB X B' b w A m :=
 h.elim fun χ h=>⟨χ,h.1,h.2.1.mono g,h.2.2.1,h.2.2.2.1,Nat.le_trans g h.2.2.2.2.1,h.2.2.2.2.2⟩
theorem MB.of{χ:Nat→Col}{u z:World}{vs:List Value}(h:EncO.O B χ 0 u vs m)(k:Keeps 0 u z)(hB:B≤u.heap.size)(H:Held z u.heap.size vs 90):∃ A,vs=cM m A∧MB (fun _=>False) B u.heap.size z A m:=by
 obtain⟨A,rfl,h1⟩:=om_old (U:=u.heap.size) h (Nat.le_refl _)
 exact⟨A,rfl,_,H,h1.keep (k.more (Nat.zero_le _)),by rw[paint,if_neg (Nat.lt_irrefl _)];exact Nat.le_refl _,freshU k.size,hB,fun _ h=>h.elim⟩
variable {α:Type} [E:Flat α] {F:Fld α} {l:List α} {a:Option Addr} {c:Nat}
theorem MB.own(F:Fld α)(h:MB X B b w A m):Own E.enc E.ty E.size B w (F.ga A) (F.gc A) (F.get m):=h.elim fun _ h=>(F.own h.2.1).own
theorem MB.good(F:Fld α)(h:MB X B b w A m):∀ x∈F.get m,E.good x:=h.elim fun _ h=>(F.own h.2.1).good
theorem MB.fr{χ:Nat→Col}{i:Col}(hF:Fr B χ (·=i) w w')(hi:i.1<1000){k:Nat}(hk:1000≤(χ k).1)(hl:k<w.heap.size):w'.heap[k]?=w.heap[k]? :=
 hF.block k hl fun e=>by have:=e.2;rw[this]at hk;omega
theorem MBp.app{n:Nat}{u W W2:World}{p:α}{sa:Option Addr}{sc:Nat}(h:MB X B b u A m)(g:Grows u W)(hown:Own E.enc E.ty E.size B W2 sa sc (F.get m++[p]))(hgr:W.grownBy W2 (Value.ownBlock (.slice (F.ga A) n (F.gc A))))
  (hblk:blkOf sa=blkOf (F.ga A)∨blkOf sa=some W.heap.size) (hg:E.good p):MBp F X B b W2 A m (F.get m++[p]) sa sc∧∀ k,X k→W2.heap[k]?=W.heap[k]?:=by
 obtain⟨χ,h1,h2,h3,h4,h5,h6⟩:=h.to g
 have hO:=F.own h2
 have hF:=hO.wrote hgr
 have hc:=F.clt
 have hlt:=h1.lt
 have hs:=hF.size
 have hX:∀ k,X k→W2.heap[k]?=W.heap[k]?:=fun k hk=>MB.fr hF (by show F.col<1000;omega) (h6 k hk).1 (h6 k hk).2.2
 have hp:∀ k,k<W.heap.size→paint W2.heap.size (paint W.heap.size χ (fun _=>(F.col,0)) id) (fun _=>(0,0)) (fun _=>(1000,0)) k=χ k:=fun k hk=>by rw[paint,if_pos (by omega),paint,if_pos hk]
 refine⟨⟨paint W2.heap.size (paint W.heap.size χ (fun _=>(F.col,0)) id) (fun _=>(0,0)) (fun _=>(1000,0)),?_,?_,?_,freshU (Nat.le_refl _),h5,fun k hk=>⟨?_,(h6 k hk).2.1,Nat.lt_of_lt_of_le (h6 k hk).2.2 hs⟩⟩,hX⟩
 ·unfold Held at h1 ⊢
  rw[MB.fr hF (by show F.col<1000;omega) h3 hlt];exact h1
 ·exact TMissionO.old (F.put (h2.old (Nat.le_refl _)) (hF.old (Nat.le_refl _)) (hO.app hown hblk hg)) (Nat.le_refl _)
 ·rw[hp b hlt];exact h3
 ·rw[hp k (h6 k hk).2.2];exact(h6 k hk).1
theorem MBp.held(h:MBp F X B b w A m l a c):Held w b (cM m A) 90:=h.elim fun _ h=>h.1
theorem MBp.le(h:MBp F X B b w A m l a c):B≤b:=h.elim fun _ h=>h.2.2.2.2.1
theorem box_fr{χ:Nat→Col}{A':TMissionA}{m':TMission}(h:TMissionO B χ 0 w A' m')(hc:1000≤(χ b).1)(hB:B≤b)(g:w.grownBy w' (some b)):TMissionO B χ 0 w' A' m' :=
 h.fr (C:=fun i=>i=χ b) ⟨g.os,g.tape,g.output,g.size,fun k hk hn=>g.block k hk (fun e=>hn (by cases e;exact⟨hB,rfl⟩))⟩ (fun j k _ h2 e=>by rw[← e]at hc;simp only at hc;omega)
theorem MBp.stored(h:MBp F X B b w A m l a c)(H:Held w' b ((cM m A).set F.off (.slice a l.length c)) 90)(g:w.grownBy w' (some b)):MB X B b w' (F.sa A a c) (F.set m l)∧∀ k,X k→w'.heap[k]?=w.heap[k]?:=by
 obtain⟨χ,h1,h2,h3,h4,h5,h6⟩:=h
 rw[F.cells]at H
 exact⟨⟨χ,H,box_fr h2 h3 h5 g,h3,h4.mono g.size,h5,fun k hk=>⟨(h6 k hk).1,(h6 k hk).2.1,Nat.lt_of_lt_of_le (h6 k hk).2.2 g.size⟩⟩,fun k hk=>g.block k (h6 k hk).2.2 (fun e=>(h6 k hk).2.1 (by cases e;rfl))⟩
theorem set_sameV{l:List Value}{i:Nat}{v:Value}(h:l[i]?=some v):l.set i v=l:=by
 obtain⟨hi,rfl⟩:=List.getElem?_eq_some_iff.1 h
 exact List.set_getElem_self hi
theorem MB.put1{n c2:Nat}(h:MB X B b w A m)(hown:Own E.enc E.ty E.size B w' (F.ga A) (F.gc A) l)(hl:l.length=(F.get m).length)(hg:∀ x∈l,E.good x)(g:w.grownBy w' (Value.ownBlock (.slice (F.ga A) n c2))):MB X B b w' A (F.set m l)∧∀ k,X k→w'.heap[k]?=w.heap[k]?:=by
 obtain⟨χ,h1,h2,h3,h4,h5,h6⟩:=h
 have hO:=F.own h2
 have hF:=hO.wrote g
 have hc:=F.clt
 have hX:∀ k,X k→w'.heap[k]?=w.heap[k]?:=fun k hk=>MB.fr hF (by show F.col<1000;omega) (h6 k hk).1 (h6 k hk).2.2
 have hP:=F.put h2 hF ⟨hown,hO.col,hg⟩
 have hC:cM (F.set m l) A=cM m A:=by
  have e1:=F.cells m A l (F.ga A) (F.gc A)
  rw[F.eta]at e1
  rw[← e1,hl]
  exact set_sameV (F.cell m A)
 rw[F.eta]at hP
 refine⟨⟨χ,?_,hP,h3,h4.mono g.size,h5,fun k hk=>⟨(h6 k hk).1,(h6 k hk).2.1,Nat.lt_of_lt_of_le (h6 k hk).2.2 g.size⟩⟩,hX⟩
 rw[hC]
 have hlt:=h1.lt
 unfold Held at h1 ⊢
 rw[MB.fr hF (by show F.col<1000;omega) h3 hlt];exact h1
end
section
variable {P:Program} {ops:Array Oper} {rest:List Oper} {op:Oper} {a:Act} {w w0:World} {Q:Exit→Act→World→Prop} {X:Nat→Prop} {B b:Nat} {A:TMissionA} {m:TMission} {α:Type} [E:Flat α] {F:Fld α} {l:List α}
theorem step_mbS{sa:Option Addr}{sc:Nat}(hgd:op.guard=none)(ty:TypeId)(x y:Operand)(ho:op.op=.store ty x y)(h:MBp F X B b w A m l sa sc)(hx:a.eval x=.pointer (some ⟨b,F.off,none⟩))(hv:a.eval y=.slice sa l.length sc)(hi:(P.info? ty).map (·.size)=some 1)
  (g:Grows w0 w) (hb:w0.heap.size≤B) (K:∀ z:Later w0,MB X B b z.w (F.sa A sa sc) (F.set m l)→(∀ k,X k→z.w.heap[k]?=w.heap[k]?)→wpList P ops Q rest (a.put op.dst undef) z.w):wpList P ops Q (op::rest) a w :=
 stepStore2 hgd ty x y ho b F.off hx h.held (us:=[.slice sa l.length sc]) (cs2:=(cM m A).set F.off (.slice sa l.length sc)) (by rw[hv];rfl) hi rfl (by have:=F.lt;rw[cM_len];simp;omega) rfl g (Nat.le_trans hb h.le) fun z hz hk =>
  K z (h.stored hz (hk.grown1 g)).1 (h.stored hz (hk.grown1 g)).2
theorem step_mbE{q j:Nat}{y0:α}{v0:Value}(hgd:op.guard=none)(ty:TypeId)(x y:Operand)(ho:op.op=.store ty x y)(F:Fld α)(h:MB X B b w A m)(hga:F.ga A=some ⟨q,0,none⟩)(hsz:E.size=1)(hx:a.eval x=.pointer (some ⟨q,j,none⟩))(hv:(a.eval y).cells.toList=[v0])(hi:(P.info? ty).map (·.size)=some 1)(h1:v0.oneCell'=true)
  (hj:j<(F.get m).length) (hy:E.enc y0=[v0]) (hg:E.good y0) (g:Grows w0 w) (hb:w0.heap.size≤B) (K:∀ z:Later w0,MB X B b z.w A (F.set m ((F.get m).set j y0))→(∀ k,X k→z.w.heap[k]?=w.heap[k]?)→wpList P ops Q rest (a.put op.dst undef) z.w):wpList P ops Q (op::rest) a w:=by
 have hO:=h.own F
 rw[hga]at hO
 obtain⟨cs,hH,hc⟩:=hO.held
 refine wpList_plain hgd fun _ hK=>?_
 unfold Oper.wp execOp
 simp only[ho,hx,Instr.storeAt,Instr.sureAddr,Sem.run_bind,Sem.run_pure,Result.andThen_ok,run_storeVar_held hv (hH.there (o:=j) (n:=1) (by rw[hsz]at hc;omega)) hi (fun u hu=>by simp at hu;subst hu;exact h1)]
 have hO1:Own E.enc E.ty 1 B w (some ⟨q,0,none⟩) (F.gc A) (F.get m):=hsz▸hO
 obtain⟨p1,p2⟩:=hO1.put1 hj hy
 have p1':Own E.enc E.ty E.size B (w.setCell ⟨q,j,none⟩ v0) (F.ga A) (F.gc A) ((F.get m).set j y0):=by rw[hga,hsz];exact p1
 have hq:B≤q:=(hO.blk q rfl).1
 have r:=h.put1 (F:=F) (n:=(F.get m).length) (c2:=F.gc A) p1' (by simp) (fun x hx=>by
  rcases List.mem_or_eq_of_mem_set hx with hx|rfl
  ·exact h.good F x hx
  ·exact hg) (by rw[ownBlock_eq,hga];exact p2)
 exact hK _ _ (K ⟨_,g.out.setCell (Nat.le_trans hb hq) v0⟩ r.1 r.2)
end
structure NMs where
 w5:Int:=0
 nx:Int:=0
 ck:Int:=0
 room:Int:=0
 a0:Option Addr:=none
 n0:Nat:=0
 c0:Nat:=0
 a7:Option Addr:=none
 n7:Nat:=0
 c7:Nat:=0
 a8:Option Addr:=none
 n8:Nat:=0
 c8:Nat:=0
 a9:Option Addr:=none
 n9:Nat:=0
 c9:Nat:=0
 a10:Option Addr:=none
 n10:Nat:=0
 c10:Nat:=0
 a17:Option Addr:=none
 n17:Nat:=0
 c17:Nat:=0
 a18:Option Addr:=none
 n18:Nat:=0
 c18:Nat:=0
abbrev nmC(light:Int)(d:TDrift)(o:TOrbit)(up down:TChannel)(S:NMs):List Value:=[.int .i64 0,.int .i64 light,.int .i64 d.Rate,.int .i64 d.Offset,.int .i64 o.Period,.int .i64 o.Start,.int .i64 o.Length,.slice S.a0 S.n0 S.c0,.int .i64 up.Seed,.int .i64 up.Burst,.int .i64 up.Loss,.int .i64 down.Seed,.int .i64 down.Burst,.int .i64 down.Loss,.slice none 0 0,.slice none 0 0,.slice none 0 0,.int .i64 0,.int .i64 S.w5,.slice none 0 0,.int .i64 0,.int .i64 0,.bool false,.bool false,.int .i64 0,.int .i64 S.nx,.bool false,.string ⟨#[]⟩,.int .i64 0,.slice none 0 0,.slice none 0 0,.slice S.a7 S.n7 S.c7,.slice S.a8 S.n8 S.c8,.int .i64 0,.bool false,.bool false,.int .i64 0,.int .i64 S.ck,.slice S.a9 S.n9 S.c9,.bool false,.slice S.a10 S.n10 S.c10,.slice none 0 0,.slice none 0 0,.int .i64 S.room,.slice none 0 0,.slice none 0 0,.int .i64 0,.int .i64 0,.slice none 0 0,.int .i64 0,.int .i64 0,.string ⟨#[]⟩,.slice none 0 0,.int .i64 0,.slice S.a17 S.n17 S.c17,.slice S.a18 S.n18 S.c18,.int .i64 0,.slice none 0 0,.slice none 0 0,.slice none 0 0,.int .i64 0]
abbrev nmZ:List Value:=[.int .i64 0,.int .i64 0,.int .i64 0,.int .i64 0,.int .i64 0,.int .i64 0,.int .i64 0,.slice none 0 0,.int .i64 0,.int .i64 0,.int .i64 0,.int .i64 0,.int .i64 0,.int .i64 0,.slice none 0 0,.slice none 0 0,.slice none 0 0,.int .i64 0,.int .i64 0,.slice none 0 0,.int .i64 0,.int .i64 0,.bool false,.bool false,.int .i64 0,.int .i64 0,.bool false,.string ⟨#[]⟩,.int .i64 0,.slice none 0 0,.slice none 0 0,.slice none 0 0,.slice none 0 0,.int .i64 0,.bool false,.bool false,.int .i64 0,.int .i64 0,.slice none 0 0,.bool false,.slice none 0 0,.slice none 0 0,.slice none 0 0,.int .i64 0,.slice none 0 0,.slice none 0 0,.int .i64 0,.int .i64 0,.slice none 0 0,.int .i64 0,.int .i64 0,.string ⟨#[]⟩,.slice none 0 0,.int .i64 0,.slice none 0 0,.slice none 0 0,.int .i64 0,.slice none 0 0,.slice none 0 0,.slice none 0 0,.int .i64 0]
theorem own_step{α:Type}{enc:α→List Value}{T T' size B:Nat}{w0 W w':World}{a:Option Addr}{c b:Nat}{l:List α}{cs:List Value}(h:Own enc T size B w0 a c l)(hb:Held w0 b cs T')(hT:T≠T')(hg:W.grownBy w' (some b))[g:Grows w0 W]:Own enc T size B w' a c l :=
 (h.to g).at (hb.to g) hT hg
def Wr(T:Nat)(w w':World):Prop:=∃ row,w.grownBy w' row∧∀ b,row=some b→∃ D,w.heap[b]?=some (.cells D T (0,0))
theorem Wr.box{T b:Nat}{w w':World}{cs:List Value}(h:Held w b cs T)(g:w.grownBy w' (some b)):Wr T w w':=⟨_,g,fun _ e=>by cases e;exact⟨_,h⟩⟩
theorem Wr.sl{α:Type}{enc:α→List Value}{T size B n c2:Nat}{w w':World}{a:Option Addr}{c:Nat}{l:List α}(h:Own enc T size B w a c l)(g:w.grownBy w' (Value.ownBlock (.slice a n c2))):Wr T w w':=⟨_,g,fun b e=>h.tyAt b (by rw[← ownBlock_eq a n c2];exact e)⟩
theorem Own.wr{α:Type}{enc:α→List Value}{T T' size B:Nat}{w w':World}{a:Option Addr}{c:Nat}{l:List α}(h:Own enc T size B w a c l)(g:Wr T' w w')(hT:T≠T'):Own enc T size B w' a c l:=by
 obtain⟨row,g1,g2⟩:=g
 refine h.same fun k hk _ h2=>g1.block k h2 fun e=>?_
 obtain⟨D,hD⟩:=h.tyAt k hk
 obtain⟨D',hD'⟩:=g2 k e.symm
 rw[hD]at hD'
 simp only[Option.some.injEq,Obj.cells.injEq]at hD'
 exact hT hD'.2.1
theorem Held.wr{T T' b:Nat}{w w':World}{cs:List Value}(h:Held w b cs T)(g:Wr T' w w')(hT:T≠T'):Held w' b cs T:=by
 obtain⟨row,g1,g2⟩:=g
 have h':w.heap[b]?=some (.cells cs.toArray T (0,0)):=h
 unfold Held
 rw[g1.block b h.lt (fun e=>by
  obtain⟨D',hD'⟩:=g2 b e.symm
  rw[h']at hD'
  simp only[Option.some.injEq,Obj.cells.injEq]at hD'
  exact hT hD'.2.1)]
 exact h
theorem OwnN.wr{α β:Type}[N:Nest α β][F:Flat β]{B T':Nat}{χ:Nat→Col}{o:Nat}{w w':World}{a:Option Addr}{c:Nat}{rows:List (NRow α)}(h:OwnN B χ o w a c rows)(g:Wr T' w w')(h1:N.ty≠T')(h2:F.ty≠T'):OwnN B χ o w' a c rows :=
 ⟨h.own.wr g h1,h.col,fun k r hr=>⟨(h.each k r hr).1,(h.each k r hr).2.own.wr g h2,(h.each k r hr).2.col,(h.each k r hr).2.good⟩⟩
theorem held_step{T T2 c b:Nat}{w0 W w':World}{cs cs2:List Value}(h:Held w0 c cs T)(hb:Held w0 b cs2 T2)(hT:T≠T2)(hg:W.grownBy w' (some b))[g:Grows w0 W]:Held w' c cs T:=(h.to g).wr (Wr.box (hb.to g) hg) hT
theorem grows_new{b:Nat}{w W2:World}{o:Obj}{z:Later W2}(h:But b (w.alloc o) z.w)(hb:b=w.heap.size)(g:Grows W2 w):Grows w z.w :=
 ⟨⟨z.h.os.trans g.out.os.symm,z.h.tape.trans g.out.tape.symm,z.h.output.trans g.out.output.symm,Nat.le_trans (by simp) h.size,fun k hk=>(h.block k (by omega) (by simp;omega)).trans (Below.heap_alloc _ _ _ hk)⟩⟩
theorem grows_apE{w w':World}{o:Obj}{row:Option Nat}(h:(w.alloc o).grownBy w' row)(hr:row=some w.heap.size):Grows w w':=by
 subst hr
 exact⟨⟨h.os,h.tape,h.output,Nat.le_trans (by simp) h.size,fun k hk=>(h.block k (by simp;omega) (by simp;omega)).trans (Below.heap_alloc _ _ _ hk)⟩⟩
structure NF(B U bm:Nat)(w:World)(pl:List Slot)(fs:List ByteArray)(L:List TLimit)(cs:List Value)(S:NMs)(χ1 χ2:Nat→Col)(rows:List (NRow TFileIn))(rows2:List (NRow TFileOut)):Prop where
 box:Held w bm cs 90
 pl:Own encSlot 201 2 B w S.a0 S.c0 pl
 tl:Own encBoo 4 1 B w S.a8 S.c8 (List.replicate 8 false)
 fs:Own encStr 9 1 B w S.a17 S.c17 fs
 pa:Own encInt 3 1 B w S.a9 S.c9 (List.replicate 8 0)
 la:Own encTLimit 288 3 B w S.a10 S.c10 L
 ins:OwnN U χ1 0 w S.a7 S.c7 rows
 outs:OwnN U χ2 0 w S.a18 S.c18 rows2
theorem NF.grow{B U bm:Nat}{w w':World}{pl:List Slot}{fs:List ByteArray}{L:List TLimit}{cs:List Value}{S:NMs}{χ1 χ2:Nat→Col}{rows:List (NRow TFileIn)}{rows2:List (NRow TFileOut)}(h:NF B U bm w pl fs L cs S χ1 χ2 rows rows2)(g:Grows w w'):NF B U bm w' pl fs L cs S χ1 χ2 rows rows2 :=
 ⟨h.box.to g,h.pl.to g,h.tl.to g,h.fs.to g,h.pa.to g,h.la.to g,h.ins.to g,h.outs.to g⟩
theorem NF.put{B U bm:Nat}{w w':World}{pl:List Slot}{fs:List ByteArray}{L:List TLimit}{cs cs2:List Value}{S:NMs}{χ1 χ2:Nat→Col}{rows:List (NRow TFileIn)}{rows2:List (NRow TFileOut)}(h:NF B U bm w pl fs L cs S χ1 χ2 rows rows2)(g:w.grownBy w' (some bm))(h2:Held w' bm cs2 90):NF B U bm w' pl fs L cs2 S χ1 χ2 rows rows2 :=
 have g1:=Wr.box h.box g
 ⟨h2,h.pl.wr g1 (by decide),h.tl.wr g1 (by decide),h.fs.wr g1 (by decide),h.pa.wr g1 (by decide),h.la.wr g1 (by decide),h.ins.wr g1 (by decide) (by decide),h.outs.wr g1 (by decide) (by decide)⟩
theorem NF.addIn{B U bm k:Nat}{w W w':World}{pl:List Slot}{fs:List ByteArray}{L:List TLimit}{cs:List Value}{S:NMs}{χ1 χ2:Nat→Col}{rows:List (NRow TFileIn)}{rows2:List (NRow TFileOut)}{a1 a':Option Addr}{c1 c' c2 n2:Nat}(h:NF B U bm w pl fs L cs S χ1 χ2 rows rows2)(g:Grows w W)(hU:U≤w.heap.size)(hk:(k:Int)≤8)
  (hi:Own encStr 9 1 w.heap.size W a1 c1 (List.replicate 25 ⟨#[]⟩)) (ho:Own (encN (α:=TFileIn)) 172 4 U w' a' c' (rows++[⟨fileIn0 k,a1,c1⟩])) (hg:W.grownBy w' (Value.ownBlock (.slice S.a7 n2 c2))) (hb:blkOf a'=blkOf S.a7∨blkOf a'=some W.heap.size) :
  ∃ χ,NF B U bm w' pl fs L cs { S with a7:=a',c7:=c' } χ χ2 (rows++[⟨fileIn0 k,a1,c1⟩]) rows2 :=
 have h1:=h.grow g
 have g1:Wr 172 W w':=Wr.sl (h1.ins.own) hg
 ⟨_,h1.box.wr g1 (by decide),h1.pl.wr g1 (by decide),h1.tl.wr g1 (by decide),h1.fs.wr g1 (by decide),h1.pa.wr g1 (by decide),h1.la.wr g1 (by decide),
  OwnN.grow (W1:=w) (W3:=W) h.ins (Grows.same _) hU (OwnC.of hi (fun x hx=>by rw[List.eq_of_mem_replicate hx];exact Nat.zero_le _) (0,0)) g ⟨by unfold i64 fileIn0;simp only;omega,by unfold i64 fileIn0;simp only;omega,by unfold i64 fileIn0;simp only;omega,trivial⟩ (Grows.same _) ho (by rw[ownBlock_eq]at hg;exact hg) hb,
  h1.outs.wr g1 (by decide) (by decide)⟩
theorem NF.addOut{B U bm k:Nat}{w w':World}{pl:List Slot}{fs:List ByteArray}{L:List TLimit}{cs:List Value}{S:NMs}{χ1 χ2:Nat→Col}{rows:List (NRow TFileIn)}{rows2:List (NRow TFileOut)}{a':Option Addr}{c' c2 n2:Nat}{s:ByteArray}(h:NF B U bm w pl fs L cs S χ1 χ2 rows rows2)(hU:U≤w.heap.size)(hk:(k:Int)≤8)(hs:s.size≤9223372036854775807)
  (ho:Own (encN (α:=TFileOut)) 116 4 U w' a' c' (rows2++[⟨fileOut0 k s,none,0⟩])) (hg:w.grownBy w' (Value.ownBlock (.slice S.a18 n2 c2))) (hb:blkOf a'=blkOf S.a18∨blkOf a'=some w.heap.size) :
  ∃ χ,NF B U bm w' pl fs L cs { S with a18:=a',c18:=c' } χ1 χ rows (rows2++[⟨fileOut0 k s,none,0⟩]) :=
 have g1:Wr 116 w w':=Wr.sl (h.outs.own) hg
 ⟨_,h.box.wr g1 (by decide),h.pl.wr g1 (by decide),h.tl.wr g1 (by decide),h.fs.wr g1 (by decide),h.pa.wr g1 (by decide),h.la.wr g1 (by decide),h.ins.wr g1 (by decide) (by decide),
  OwnN.grow (W1:=w) (W2:=w) (W3:=w) (χ2:=fun _=>(0,0)) (i0:=(0,0)) h.outs (Grows.same _) hU OwnC.nil (Grows.same _) ⟨by unfold i64 fileOut0;simp only;omega,hs,trivial⟩ (Grows.same _) ho (by rw[ownBlock_eq]at hg;exact hg) hb⟩
theorem take_snoc{α:Type}{l r:List α}{k:Nat}{s:α}(h:l.drop k=s::r):l.take (k+1)=l.take k++[s]:=by
 have h0:=congrArg (fun m=>m[0]?) h
 simp only[List.getElem?_drop,Nat.add_zero,List.getElem?_cons_zero]at h0
 rw[List.take_add_one,h0];rfl
theorem ins_next{fs r:List ByteArray}{k:Nat}{s:ByteArray}{a:Option Addr}{c:Nat}{rows:List (NRow TFileIn)}(h:rows.map (·.x)=insOf 0 (fs.take k))(hd:fs.drop k=s::r)(hk:k<fs.length):(rows++[(⟨fileIn0 k,a,c⟩:NRow TFileIn)]).map (·.x)=insOf 0 (fs.take (k+1)):=by
 rw[take_snoc hd,insOf_snoc,List.map_append,h,List.length_take,Nat.min_eq_left (Nat.le_of_lt hk),Nat.zero_add];rfl
theorem outs_next{fs r:List ByteArray}{k:Nat}{s:ByteArray}{rows:List (NRow TFileOut)}(h:rows.map (·.x)=outsOf 0 (fs.take k))(hd:fs.drop k=s::r)(hk:k<fs.length):(rows++[(⟨fileOut0 k s,none,0⟩:NRow TFileOut)]).map (·.x)=outsOf 0 (fs.take (k+1)):=by
 rw[take_snoc hd,outsOf_snoc,List.map_append,h,List.length_take,Nat.min_eq_left (Nat.le_of_lt hk),Nat.zero_add];rfl
theorem newM_O{B:Nat}{χ:Nat→Col}{w:World}{light:Int}{d:TDrift}{o:TOrbit}{pl:List Slot}{up down:TChannel}{room:Int}{L:List TLimit}{ln:Nat}{fs:List ByteArray}{a0 a7 a8 a9 a10 a17 a18:Option Addr}{c0 c7 c8 c9 c10 c17 c18:Nat}(hf:fs.length=8)(hl:L.length=ln)
  (h:TMissionO B χ 0 w ⟨a0,c0,none,0,none,0,none,0,none,0,none,0,none,0,a7,c7,a8,c8,a9,c9,a10,c10,none,0,none,0,none,0,none,0,none,0,none,0,a17,c17,a18,c18,none,0,none,0,none,0⟩ (newM light d o pl up down room L fs)) :
  EncO.O B χ 0 w (nmC light d o up down { w5:=5,nx:=-1,ck:=boardTime d.Rate d.Offset 0,room:=room,a0:=a0,n0:=pl.length,c0:=c0,a7:=a7,n7:=8,c7:=c7,a8:=a8,n8:=8,c8:=c8,a9:=a9,n9:=8,c9:=c9,a10:=a10,n10:=ln,c10:=c10,a17:=a17,n17:=8,c17:=c17,a18:=a18,n18:=8,c18:=c18 }) (newM light d o pl up down room L fs):=by
 have e1:(insOf 0 fs).length=8:=by rw[insOf_len,hf]
 have e2:(outsOf 0 fs).length=8:=by rw[outsOf_len,hf]
 refine⟨_,?_,h⟩
 simp only[dMission,cMission,newM,newBoard,e1,e2,hf,hl,List.length_replicate,List.length_nil]
def nmOf(light:Int)(d:TDrift)(o:TOrbit)(up down:TChannel):List Value→Value
 | [.slice a n c]=>.agg (nmC light d o up down { a0:=a,n0:=n,c0:=c }).toArray
 | _=>undef
theorem ask_len{m:TMission}(h:missionOk m=true):m.Ground.Files.length=8∧m.Ground.Told.length=8:=by
 simp only[missionOk,Bool.and_eq_true]at h
 have g:=h.2.2.2.2.2.2.2.2.2.2.1
 simp only[groundOk,Bool.and_eq_true,beq_iff_eq]at g
 have g1:=g.2.2.2.2.2.2.2.2.1
 have g2:=g.2.2.2.2.2.2.2.2.2.1
 omega
def askSt(m:TMission)(k:Nat):List ByteArray × List Bool:=askFrom 0 (m.Ground.Files.take k) (m.Ground.Offers,m.Ground.Told)
theorem askSt_next{m:TMission}{k:Nat}{f:TFileIn}{r:List TFileIn}(h:m.Ground.Files.drop k=f::r):askSt m (k+1)=askStep k f (askSt m k):=by
 have hk:k<m.Ground.Files.length:=by
  have:=congrArg List.length h
  simp at this;omega
 rw[askSt,take_snoc h,askFrom_snoc,List.length_take,Nat.min_eq_left (by omega),Nat.zero_add];rfl
theorem askSt_told(m:TMission)(k:Nat):(askSt m k).2.length=m.Ground.Told.length:=askFrom_told _ _ _
theorem askSt_tot(m:TMission)(k:Nat):totL (askSt m k).1≤totL m.Ground.Offers+23*m.Ground.Files.length:=by
 have:=askFrom_tot (m.Ground.Files.take k) 0 (m.Ground.Offers,m.Ground.Told)
 have h:(m.Ground.Files.take k).length≤m.Ground.Files.length:=by simp;omega
 simp only at this
 unfold askSt;omega
theorem ask_parts{m:TMission}{f:TFileIn}(ht:Enc.tot m≤4000000)(hf:f∈m.Ground.Files):f.Parts.length≤100000000∧∀ s∈f.Parts,s.size≤100000000:=by
 have h1:=totL_mem hf
 have h2:Enc.tot m.Ground=totL m.Ground.Offers+Enc.tot m.Ground.Sender+Enc.tot m.Ground.Unpacker+totL m.Ground.Pairs+totL m.Ground.Records+totL m.Ground.Files+totL m.Ground.Told:=rfl
 have h3:=(mbounds ht).2.2.1
 have:=totL_nonneg m.Ground.Offers;have:=Enc.tot_nonneg m.Ground.Sender;have:=Enc.tot_nonneg m.Ground.Unpacker;have:=totL_nonneg m.Ground.Pairs;have:=totL_nonneg m.Ground.Records;have:=totL_nonneg m.Ground.Told
 have h4:Enc.tot f=totL f.Parts:=rfl
 have h5:=totL_len f.Parts
 refine⟨by omega,fun s hs=>?_⟩
 have h6:=totL_mem hs
 have h7:Enc.tot s=(s.size:Int):=rfl
 omega
theorem ask_offers{m:TMission}(ht:Enc.tot m≤4000000)(k:Nat):(askSt m k).1.length≤1000000000:=by
 have h1:=askSt_tot m k
 have h2:Enc.tot m.Ground=totL m.Ground.Offers+Enc.tot m.Ground.Sender+Enc.tot m.Ground.Unpacker+totL m.Ground.Pairs+totL m.Ground.Records+totL m.Ground.Files+totL m.Ground.Told:=rfl
 have h3:=(mbounds ht).2.2.1
 have:=totL_nonneg m.Ground.Offers;have:=Enc.tot_nonneg m.Ground.Sender;have:=Enc.tot_nonneg m.Ground.Unpacker;have:=totL_nonneg m.Ground.Pairs;have:=totL_nonneg m.Ground.Records;have:=totL_nonneg m.Ground.Files;have:=totL_nonneg m.Ground.Told
 have h4:=totL_len (askSt m k).1;have h5:=totL_len m.Ground.Files
 omega
theorem ask_w{k n:Nat}(h:k<n)(h8:n=8):wrap64 ((k:Int)+1)=((k+1:Nat):Int):=by unfold wrap64;omega
theorem ask_m{k n:Nat}(h:k<n):((n:Int) - intOf (.int .i64 ((k+1:Nat):Int))).toNat<((n:Int) - intOf (.int .i64 (k:Int))).toNat:=by simp only[intOf];omega
theorem missGo_len:∀ (p:List ByteArray) (i cnt:Nat),(missGo i cnt p).length≤p.length
 | [],i,cnt=>by simp[missGo]
 | s::r,i,cnt=>by
  have h1:=missGo_len r (i+1) cnt
  have h2:=missGo_len r (i+1) (cnt - 1)
  rw[missGo]
  repeat' split
  all_goals simp only[List.length_cons,List.length_nil]
  all_goals omega
theorem ask_miss(f:TFileIn)(h:f.Parts.length≤100000000):(missL f.File f.Size f.Check f.Parts).length≤1000000000:=by
 unfold missL
 split
 ·have h1:=missGo_len (segsIn f.Size f.Parts) 0 20
  have h2:(segsIn f.Size f.Parts).length≤f.Parts.length:=by unfold segsIn;simp;omega
  omega
 ·simp
theorem ask_offer{m:TMission}{k:Nat}{f:TFileIn}{wf b:Bool}{r:List TFileIn}(hd:m.Ground.Files.drop k=f::r)(hw:wholeF f=wf)(hb:(askSt m k).2.getD k false=b)(h:(wf && !b)=false)(hm:0<(missL f.File f.Size f.Check f.Parts).length):tellM m (askSt m (k+1))=fGOffers.set (tellM m (askSt m k)) ((askSt m k).1++[wordN 1 1++encMiss k (missL f.File f.Size f.Check f.Parts)]):=by
 rw[askSt_next hd,askStep,hw,hb,if_neg (by rw[h];decide),if_pos (show(0:Int)<(missF f).length by unfold missF;omega)];rfl
theorem ask_same{m:TMission}{k:Nat}{f:TFileIn}{wf b:Bool}{r:List TFileIn}(hd:m.Ground.Files.drop k=f::r)(hw:wholeF f=wf)(hb:(askSt m k).2.getD k false=b)(h:(wf && !b)=false)(hm:¬ 0<(missL f.File f.Size f.Check f.Parts).length):tellM m (askSt m (k+1))=tellM m (askSt m k):=by
 rw[askSt_next hd,askStep,hw,hb,if_neg (by rw[h];decide),if_neg (show ¬ (0:Int)<(missF f).length by unfold missF;omega)]
theorem ask_tot{m:TMission}(ht:Enc.tot m≤4000000):Enc.tot (tellM m (askFrom 0 m.Ground.Files (m.Ground.Offers,m.Ground.Told)))≤100000000:=by
 rw[tellM_tot _ _ (askFrom_told _ _ _)]
 have h1:=askFrom_tot m.Ground.Files 0 (m.Ground.Offers,m.Ground.Told)
 have h2:=totL_len m.Ground.Files
 have h3:=(mbounds ht).2.2.1
 have h4:Enc.tot m.Ground=totL m.Ground.Offers+Enc.tot m.Ground.Sender+Enc.tot m.Ground.Unpacker+totL m.Ground.Pairs+totL m.Ground.Records+totL m.Ground.Files+totL m.Ground.Told:=rfl
 have:=totL_nonneg m.Ground.Offers;have:=Enc.tot_nonneg m.Ground.Sender;have:=Enc.tot_nonneg m.Ground.Unpacker;have:=totL_nonneg m.Ground.Pairs;have:=totL_nonneg m.Ground.Records;have:=totL_nonneg m.Ground.Told
 simp only at h1
 omega
theorem pay_le(k:Int)(l:List Int):(wordN 1 1).size+(encMiss k l).size≤9223372036854775807:=by
 have h:(wordN 1 1++encMiss k l).size≤22:=payMiss_size k l
 rw[ByteArray.size_append]at h
 omega
theorem pay_good(k:Int)(l:List Int):Flat.good (wordN 1 1++encMiss k l):=by
 have h:(wordN 1 1++encMiss k l).size≤22:=payMiss_size k l
 show _≤_
 omega
theorem ask_tell{m:TMission}{k:Nat}{f:TFileIn}{wf b:Bool}{r:List TFileIn}(hd:m.Ground.Files.drop k=f::r)(hw:wholeF f=wf)(hb:(askSt m k).2.getD k false=b)(h:(wf && !b)=true):tellM m (askSt m (k+1))=fGTold.set (fGOffers.set (tellM m (askSt m k)) ((askSt m k).1++[wordN 1 1++encMiss k []])) ((askSt m k).2.set k true):=by
 rw[askSt_next hd,askStep,hw,hb,if_pos h];rfl
theorem ask_cases(m:TMission):(askNow m=false∧((missionOk m=false∧True∧True∧True)∨(missionOk m=true∧¬ Int.tmod m.Time 20=0∧True∧True)∨(missionOk m=true∧Int.tmod m.Time 20=0∧0<m.Ground.Offers.length∧True)∨(missionOk m=true∧Int.tmod m.Time 20=0∧¬ 0<m.Ground.Offers.length∧0<m.Ground.Sender.Waiting.length))) ∨
  (askNow m=true∧missionOk m=true∧Int.tmod m.Time 20=0∧¬ 0<m.Ground.Offers.length∧¬ 0<m.Ground.Sender.Waiting.length):=by
 cases h1:missionOk m
 ·exact .inl ⟨by unfold askNow;rw[h1];rfl,.inl ⟨rfl,trivial,trivial,trivial⟩⟩
 have hti:0≤m.Time:=by unfold missionOk at h1;rw[Bool.and_eq_true]at h1;exact(inB_iff.1 h1.1).1
 rw[Int.tmod_eq_emod_of_nonneg hti]
 by_cases h2:m.Time % 20=0
 ·by_cases h3:(m.Ground.Offers.length:Int)≤0
  ·by_cases h4:(m.Ground.Sender.Waiting.length:Int)≤0
   ·exact .inr ⟨by simp only[askNow,h1,h2,decide_true,Bool.true_and,decide_eq_true h3,decide_eq_true h4],rfl,h2,by omega,by omega⟩
   ·exact .inl ⟨by unfold askNow;rw[decide_eq_false h4];simp,.inr (.inr (.inr ⟨rfl,h2,by omega,by omega⟩))⟩
  ·exact .inl ⟨by unfold askNow;rw[decide_eq_false h3];simp,.inr (.inr (.inl ⟨rfl,h2,by omega,trivial⟩))⟩
 ·exact .inl ⟨by unfold askNow;rw[decide_eq_false h2];simp,.inr (.inl ⟨rfl,h2,trivial,trivial⟩)⟩
theorem ask_no{m:TMission}(h:askNow m=false):askMissing m=m:=by unfold askMissing;rw[h];rfl
structure Tr(n B:Nat)(χ:Nat→Col)(o:Nat)(w:World)(B':Nat)(χ':Nat→Col)(o':Nat)(w':World):Prop where
 c:∀ {γ:Type} [Flat γ] (i:Nat),i<n→∀ {a:Option Addr} {c:Nat} {l:List γ},OwnC B χ (o+i,0) w a c l→OwnC B' χ' (o'+i,0) w' a c l
 r:∀ {γ δ:Type} [Nest γ δ] [Flat δ] (i:Nat),i<n→∀ {a:Option Addr} {c:Nat} {l:List (NRow γ)},OwnN B χ (o+i) w a c l→OwnN B' χ' (o'+i) w' a c l
section
variable {n B o:Nat} {χ χ2:Nat→Col} {w w':World}
theorem Tr.fr{C:Col→Prop}(f:Fr B χ C w w')(hi:∀ j k,o≤j→j<o+n→¬ C (j,k)):Tr n B χ o w B χ o w':=⟨fun i h=>fun k=>k.fr f (hi _ _ (by omega) (by omega)),fun i h=>fun k=>k.fr f fun j=>hi _ _ (by omega) (by omega)⟩
theorem Tr.to(g:Grows w w'):Tr n B χ o w B χ o w':=⟨fun _ _=>fun k=>k.to g,fun _ _=>fun k=>k.to g⟩
theorem Tr.keep(g:Keeps B w w'):Tr n B χ o w B χ o w':=⟨fun _ _=>fun k=>k.keep g,fun _ _=>fun k=>k.keep g⟩
theorem Tr.mono{B2:Nat}(g:B2≤B):Tr n B χ o w B2 χ o w:=⟨fun _ _=>fun k=>k.mono g,fun _ _=>fun k=>k.mono g⟩
theorem Tr.old{f:Col→Col}{U:Nat}(g:w.heap.size≤U):Tr n B χ o w B (paint U χ χ2 f) o w:=⟨fun _ _=>fun k=>k.old g,fun _ _=>fun k=>k.old g⟩
theorem Tr.new{d U:Nat}(g:U≤B):Tr n B χ2 0 w B (paint U χ χ2 (shift d)) d w:=⟨fun i _=>fun k=>(k.new g).ic (by simp[shift,Nat.add_comm]),fun i _=>fun k=>k.new g fun j=>by simp[shift,Nat.add_comm]⟩
end
class OBox(α:Type) extends EncO α where
 ty:Nat
 n:Nat
 one:∀ {B χ o w vs x},O B χ o w vs x→vs.all (·.oneCell')=true
 map:∀ {B χ o w B' χ' o' w' vs x},O B χ o w vs x→Tr n B χ o w B' χ' o' w'→O B' χ' o' w' vs x
 nle:n≤1000
structure FS(α β:Type)[A:OBox α][E:Flat β] where
 off:Nat
 col:Nat
 get:α→List β
 set:α→List β→α
 own:∀ {B χ w vs x},A.O B χ 0 w vs x→∃ a c,vs[off]?=some (.slice a (get x).length c)∧OwnC B χ (col,0) w a c (get x)
 put:∀ {B χ w w2 vs x a c l},A.O B χ 0 w vs x→Fr B χ (·=(col,0)) w w2→OwnC B χ (col,0) w2 a c l→A.O B χ 0 w2 (vs.set off (.slice a l.length c)) (set x l)
 lt:off<A.size
 clt:col<A.n
structure FD(α β:Type)[A:OBox α][E:OBox β] where
 off:Nat
 col:Nat
 get:α→β
 set:α→β→α
 own:∀ {B χ w vs x},A.O B χ 0 w vs x→E.O B χ col w ((vs.drop off).take E.size) (get x)
 put:∀ {B χ w w2 vs us x y},A.O B χ 0 w vs x→Fr B χ (fun i=>col≤i.1∧i.1<col+E.n) w w2→E.O B χ col w2 us y→A.O B χ 0 w2 (splice vs off us) (set x y)
 le:off+E.size≤A.size
 cle:col+E.n≤A.n
def GB{α:Type}[E:OBox α](X:Nat→Prop)(B b:Nat)(w:World)(x:α):Prop :=
 ∃ (χ:Nat→Col) (vs:List Value),Held w b vs E.ty∧E.O B χ 0 w vs x∧1000≤(χ b).1∧Fresh χ w∧B≤b∧∀ k,X k→1000≤(χ k).1∧k≠b∧k<w.heap.size
def GBp{α β:Type}[E:OBox α][Flat β](F:FS α β)(X:Nat→Prop)(B b:Nat)(w:World)(x:α)(l:List β)(a:Option Addr)(c:Nat):Prop :=
 ∃ (χ:Nat→Col) (vs:List Value),Held w b vs E.ty∧vs.length=E.size∧E.O B χ 0 w (vs.set F.off (.slice a l.length c)) (F.set x l)∧1000≤(χ b).1∧Fresh χ w∧B≤b∧∀ k,X k→1000≤(χ k).1∧k≠b∧k<w.heap.size
def GBq{α β:Type}[E:OBox α][E2:OBox β](F:FD α β)(X:Nat→Prop)(B b:Nat)(w:World)(x:α)(us:List Value)(y:β):Prop :=
 ∃ (χ:Nat→Col) (vs:List Value),Held w b vs E.ty∧vs.length=E.size∧us.length=E2.size∧us.all (·.oneCell')=true∧E.O B χ 0 w (splice vs F.off us) (F.set x y)∧1000≤(χ b).1∧Fresh χ w∧B≤b∧∀ k,X k→1000≤(χ k).1∧k≠b∧k<w.heap.size
theorem obox_len{α:Type}[E:OBox α]{B o:Nat}{χ:Nat→Col}{w:World}{vs:List Value}{x:α}(h:E.O B χ o w vs x):vs.length=E.size:=E.len (E.toRd h)
section
variable {α β δ:Type} [E:OBox α] [E2:Flat β] [E3:OBox δ] {X:Nat→Prop} {B b:Nat} {w w':World} {x:α} {F:FS α β} {D:FD α δ} {l:List β} {a:Option Addr} {c:Nat} {y:δ} {us:List Value}
theorem GB.vs(h:GB X B b w x):∃ vs,Held w b vs E.ty∧vs.length=E.size∧vs.all (·.oneCell')=true∧E.Rd B w vs x∧∃ χ,E.O B χ 0 w vs x:=h.elim fun χ h=>h.elim fun vs h=>⟨vs,h.1,obox_len h.2.1,E.one h.2.1,E.toRd h.2.1,χ,h.2.1⟩
theorem GB.le(h:GB X B b w x):B≤b:=h.elim fun _ h=>h.elim fun _ h=>h.2.2.2.2.1
theorem GB.lt(h:GB X B b w x):b<w.heap.size:=h.elim fun _ h=>h.elim fun _ h=>h.1.lt
theorem GB.to(h:GB X B b w x)(g:Grows w w'):GB X B b w' x :=
 h.elim fun χ h=>h.elim fun vs h=>⟨χ,vs,h.1.to g,E.map h.2.1 (.to g),h.2.2.1,h.2.2.2.1.mono g.out.size,h.2.2.2.2.1,fun k hk=>⟨(h.2.2.2.2.2 k hk).1,(h.2.2.2.2.2 k hk).2.1,Nat.lt_of_lt_of_le (h.2.2.2.2.2 k hk).2.2 g.out.size⟩⟩
theorem GB.keep(h:GB X B b w x)(g:Keeps B w w'):GB X B b w' x :=
 h.elim fun χ h=>h.elim fun vs h=>⟨χ,vs,by have h1:=h.1;unfold Held at h1 ⊢;rw[g.block b h.2.2.2.2.1 h.1.lt];exact h1,E.map h.2.1 (.keep g),h.2.2.1,h.2.2.2.1.mono g.size,h.2.2.2.2.1,fun k hk=>⟨(h.2.2.2.2.2 k hk).1,(h.2.2.2.2.2 k hk).2.1,Nat.lt_of_lt_of_le (h.2.2.2.2.2 k hk).2.2 g.size⟩⟩
theorem GB.mono{B':Nat}(h:GB X B b w x)(g:B'≤B):GB X B' b w x :=
 h.elim fun χ h=>h.elim fun vs h=>⟨χ,vs,h.1,E.map h.2.1 (.mono g),h.2.2.1,h.2.2.2.1,Nat.le_trans g h.2.2.2.2.1,h.2.2.2.2.2⟩
theorem GB.of{χ:Nat→Col}{u z:World}{vs:List Value}(h:E.O B χ 0 u vs x)(k:Keeps 0 u z)(hB:B≤u.heap.size)(H:Held z u.heap.size vs E.ty):GB (fun _=>False) B u.heap.size z x :=
 ⟨paint u.heap.size χ (fun _=>(0,0)) (fun _=>(1000,0)),vs,H,E.map (E.map h (.old (Nat.le_refl _))) (.keep (k.more (Nat.zero_le _))),by rw[paint,if_neg (Nat.lt_irrefl _)];exact Nat.le_refl _,freshU k.size,hB,fun _ h=>h.elim⟩
theorem gb_fr{χ:Nat→Col}{C:Col→Prop}(hF:Fr B χ C w w')(hC:∀ i,C i→i.1<1000){k:Nat}(hk:1000≤(χ k).1)(hl:k<w.heap.size):w'.heap[k]?=w.heap[k]? :=
 hF.block k hl fun e=>by have:=hC _ e.2;omega
theorem FS.c1000(F:FS α β):F.col<1000:=Nat.lt_of_lt_of_le F.clt E.nle
theorem GB.own(F:FS α β)(h:GB X B b w x):∃ a c,(∀ (W:World) [Grows w W],W.cell? ⟨b,F.off,none⟩=some (.slice a (F.get x).length c))∧Own E2.enc E2.ty E2.size B w a c (F.get x)∧(∀ s∈F.get x,E2.good s)∧RdS B w a c (F.get x):=by
 obtain⟨χ,vs,h1,h2,-⟩:=h
 obtain⟨a,c,hv,k⟩:=F.own h2
 exact⟨a,c,h1.cellG F.off _ hv,k.own,k.good,k.rd⟩
theorem GBp.app{n sc0:Nat}{u W W2:World}{p:β}{sa0 sa:Option Addr}{sc:Nat}(h:GB X B b u x)(hc0:u.cell? ⟨b,F.off,none⟩=some (.slice sa0 (F.get x).length sc0))(g:Grows u W)(hown:Own E2.enc E2.ty E2.size B W2 sa sc (F.get x++[p]))(hgr:W.grownBy W2 (Value.ownBlock (.slice sa0 n sc0)))
  (hblk:blkOf sa=blkOf sa0∨blkOf sa=some W.heap.size) (hg:E2.good p):GBp F X B b W2 x (F.get x++[p]) sa sc∧∀ k,X k→W2.heap[k]?=W.heap[k]?:=by
 obtain⟨χ,vs,h1,h2,h3,h4,h5,h6⟩:=h
 obtain⟨a0,c0,hv,hO⟩:=F.own h2
 rw[h1.cell,hv]at hc0
 simp only[Option.some.injEq,Value.slice.injEq,true_and]at hc0
 obtain⟨rfl,rfl⟩:=hc0
 have hlu:=h1.lt
 have hF:=(hO.to g).wrote hgr
 have hc:=F.c1000
 have hsu:=g.out.size
 have hs:=hF.size
 have hlen:=obox_len h2
 have hX:∀ k,1000≤(χ k).1→k<u.heap.size→W2.heap[k]?=W.heap[k]?:=fun k hk hl=>gb_fr hF (fun i e=>by rw[e];exact hc) hk (by omega)
 have hp:∀ k,k<W.heap.size→paint W2.heap.size (paint W.heap.size χ (fun _=>(F.col,0)) id) (fun _=>(0,0)) (fun _=>(1000,0)) k=χ k:=fun k hk=>by rw[paint,if_pos (by omega),paint,if_pos hk]
 refine⟨⟨paint W2.heap.size (paint W.heap.size χ (fun _=>(F.col,0)) id) (fun _=>(0,0)) (fun _=>(1000,0)),vs,?_,hlen,?_,?_,freshU (Nat.le_refl _),h5,fun k hk=>⟨?_,(h6 k hk).2.1,by have:=(h6 k hk).2.2;omega⟩⟩,fun k hk=>hX k (h6 k hk).1 (h6 k hk).2.2⟩
 ·have h1':=h1.to g
  unfold Held at h1' ⊢
  rw[hX b h3 hlu];exact h1'
 ·exact E.map (F.put (E.map (E.map h2 (.to g)) (.old (Nat.le_refl _))) (hF.old (Nat.le_refl _)) ((hO.to g).app hown hblk hg)) (.old (Nat.le_refl _))
 ·rw[hp b (by omega)];exact h3
 ·rw[hp k (by have:=(h6 k hk).2.2;omega)];exact(h6 k hk).1
theorem GBp.new{u:World}{a:Option Addr}{c:Nat}{l:List β}(h:GB X B b u x)(g:Grows u w)(k:OwnC u.heap.size (fun _=>(0,0)) (0,0) w a c l):GBp F X B b w x l a c:=by
 have hlu:=h.lt
 obtain⟨χ,vs,h1,h2,h3,h4,h5,h6⟩:=h
 have hs:=g.out.size
 have hp:∀ k,k<u.heap.size→paint w.heap.size (paint u.heap.size χ (fun _=>(0,0)) (fun _=>(F.col,0))) (fun _=>(0,0)) (fun _=>(1000,0)) k=χ k:=fun k hk=>by rw[paint,if_pos (by omega),paint,if_pos hk]
 refine⟨_,vs,h1.to g,obox_len h2,E.map (F.put (E.map (E.map h2 (.old (χ2:=fun _=>(0,0)) (f:=fun _=>(F.col,0)) (Nat.le_refl _))) (.to g)) (Fr.refl _ _ _ _) ((k.new (f:=fun _=>(F.col,0)) (Nat.le_refl _)).mono (by omega))) (.old (Nat.le_refl _)),?_,freshU (Nat.le_refl _),h5,fun k hk=>⟨?_,(h6 k hk).2.1,Nat.lt_of_lt_of_le (h6 k hk).2.2 hs⟩⟩
 ·rw[hp b hlu];exact h3
 ·rw[hp k (h6 k hk).2.2];exact(h6 k hk).1
theorem GBq.new{u:World}{χ2:Nat→Col}(h:GB X B b u x)(g:Grows u w)(k:E3.O u.heap.size χ2 0 w us y):GBq D X B b w x us y:=by
 have hlu:=h.lt
 obtain⟨χ,vs,h1,h2,h3,h4,h5,h6⟩:=h
 have hs:=g.out.size
 have hp:∀ k,k<u.heap.size→paint w.heap.size (paint u.heap.size χ χ2 (shift D.col)) (fun _=>(0,0)) (fun _=>(1000,0)) k=χ k:=fun k hk=>by rw[paint,if_pos (by omega),paint,if_pos hk]
 refine⟨_,vs,h1.to g,obox_len h2,obox_len k,E3.one k,E.map (D.put (E.map (E.map h2 (.old (χ2:=χ2) (f:=shift D.col) (Nat.le_refl _))) (.to g)) (Fr.refl _ _ _ _) (E3.map (E3.map k (.new (Nat.le_refl _))) (.mono (by omega)))) (.old (Nat.le_refl _)),?_,freshU (Nat.le_refl _),h5,fun k hk=>⟨?_,(h6 k hk).2.1,Nat.lt_of_lt_of_le (h6 k hk).2.2 hs⟩⟩
 ·rw[hp b hlu];exact h3
 ·rw[hp k (h6 k hk).2.2];exact(h6 k hk).1
theorem gb_box{χ:Nat→Col}{vs:List Value}(h:E.O B χ 0 w vs x)(hc:1000≤(χ b).1)(hB:B≤b)(g:w.grownBy w' (some b)):E.O B χ 0 w' vs x :=
 E.map h (.fr (C:=fun i=>i=χ b) ⟨g.os,g.tape,g.output,g.size,fun k hk hn=>g.block k hk (fun e=>hn (by cases e;exact⟨hB,rfl⟩))⟩ (fun j k _ h2 e=>by have:=E.nle;rw[← e]at hc;simp only at hc;omega))
end
section
variable {P:Program} {ops:Array Oper} {rest:List Oper} {op:Oper} {act:Act} {w w0:World} {Q:Exit→Act→World→Prop} {X:Nat→Prop} {B b:Nat} {α β δ:Type} [E:OBox α] [E2:Flat β] [E3:OBox δ] {x x':α} {F:FS α β} {D:FD α δ} {l:List β} {a:Option Addr} {c:Nat} {y:δ} {us:List Value}
theorem step_gbS(hgd:op.guard=none)(ty:TypeId)(p v:Operand)(ho:op.op=.store ty p v)(h:GBp F X B b w x l a c)(hx:act.eval p=.pointer (some ⟨b,F.off,none⟩))(hv:act.eval v=.slice a l.length c)(hi:(P.info? ty).map (·.size)=some 1)
  (g:Grows w0 w) (hb:w0.heap.size≤B) (K:∀ z:Later w0,GB X B b z.w (F.set x l)→(∀ k,X k→z.w.heap[k]?=w.heap[k]?)→wpList P ops Q rest (act.put op.dst undef) z.w):wpList P ops Q (op::rest) act w:=by
 obtain⟨χ,vs,h1,hl,h2,h3,h4,h5,h6⟩:=h
 exact stepStore2 hgd ty p v ho b F.off hx h1 (us:=[.slice a l.length c]) (cs2:=vs.set F.off (.slice a l.length c)) (by rw[hv];rfl) hi rfl (by have:=F.lt;rw[hl];exact this) rfl g (Nat.le_trans hb h5) fun z hz hk =>
  K z ⟨χ,_,hz,gb_box h2 h3 h5 (hk.grown1 g),h3,h4.mono (hk.grown1 g).size,h5,fun k hk'=>⟨(h6 k hk').1,(h6 k hk').2.1,Nat.lt_of_lt_of_le (h6 k hk').2.2 (hk.grown1 g).size⟩⟩ (fun k hk'=>(hk.grown1 g).block k (h6 k hk').2.2 (fun e=>(h6 k hk').2.1 (by cases e;rfl)))
theorem step_gbD(hgd:op.guard=none)(ty:TypeId)(p v:Operand)(ho:op.op=.store ty p v)(h:GBq D X B b w x us y)(hx:act.eval p=.pointer (some ⟨b,D.off,none⟩))(hv:(act.eval v).cells.toList=us)(hi:(P.info? ty).map (·.size)=some us.length)
  (g:Grows w0 w) (hb:w0.heap.size≤B) (K:∀ z:Later w0,GB X B b z.w (D.set x y)→(∀ k,X k→z.w.heap[k]?=w.heap[k]?)→wpList P ops Q rest (act.put op.dst undef) z.w):wpList P ops Q (op::rest) act w:=by
 obtain⟨χ,vs,h1,hl,hu,hu1,h2,h3,h4,h5,h6⟩:=h
 exact stepStore2 hgd ty p v ho b D.off hx h1 (us:=us) (cs2:=splice vs D.off us) hv hi hu1 (by have:=D.le;rw[hl,hu];exact this) rfl g (Nat.le_trans hb h5) fun z hz hk =>
  K z ⟨χ,_,hz,gb_box h2 h3 h5 (hk.grown1 g),h3,h4.mono (hk.grown1 g).size,h5,fun k hk'=>⟨(h6 k hk').1,(h6 k hk').2.1,Nat.lt_of_lt_of_le (h6 k hk').2.2 (hk.grown1 g).size⟩⟩ (fun k hk'=>(hk.grown1 g).block k (h6 k hk').2.2 (fun e=>(h6 k hk').2.1 (by cases e;rfl)))
theorem step_gbC{o:Nat}(x':α)(hgd:op.guard=none)(ty:TypeId)(p v:Operand)(ho:op.op=.store ty p v)(h:GB X B b w x)(hx:act.eval p=.pointer (some ⟨b,o,none⟩))(hv:(act.eval v).cells.toList=us)(hi:(P.info? ty).map (·.size)=some us.length)(h1:us.all (·.oneCell')=true)(hl:o+us.length≤E.size)
  (hm:∀ {χ vs w},E.O B χ 0 w vs x→E.O B χ 0 w (splice vs o us) x') (g:Grows w0 w) (hb:w0.heap.size≤B) (K:∀ z:Later w0,GB X B b z.w x'→(∀ k,X k→z.w.heap[k]?=w.heap[k]?)→wpList P ops Q rest (act.put op.dst undef) z.w):wpList P ops Q (op::rest) act w:=by
 obtain⟨χ,vs,h0,h2,h3,h4,h5,h6⟩:=h
 exact stepStore2 hgd ty p v ho b o hx h0 (us:=us) (cs2:=splice vs o us) hv hi h1 (by rw[obox_len h2];exact hl) rfl g (Nat.le_trans hb h5) fun z hz hk =>
  K z ⟨χ,_,hz,gb_box (hm h2) h3 h5 (hk.grown1 g),h3,h4.mono (hk.grown1 g).size,h5,fun k hk'=>⟨(h6 k hk').1,(h6 k hk').2.1,Nat.lt_of_lt_of_le (h6 k hk').2.2 (hk.grown1 g).size⟩⟩ (fun k hk'=>(hk.grown1 g).block k (h6 k hk').2.2 (fun e=>(h6 k hk').2.1 (by cases e;rfl)))
end
instance OBox.iRecorder:OBox TRecorder where
 toEncO:=inferInstance
 ty:=82
 n:=2
 one:=by rintro _ _ _ _ _ _ ⟨a0,c0,a1,c1,rfl,-⟩;rfl
 map:=by rintro _ _ _ _ _ _ _ _ _ _ ⟨a0,c0,a1,c1,rfl,h⟩ t;exact⟨a0,c0,a1,c1,rfl,t.c 0 (by decide) h.o0,t.c 1 (by decide) h.o1,h.ok⟩
 nle:=by decide
instance OBox.iPacker:OBox TPacker where
 toEncO:=inferInstance
 ty:=85
 n:=1
 one:=by rintro _ _ _ _ _ _ ⟨a0,c0,rfl,-⟩;rfl
 map:=by rintro _ _ _ _ _ _ _ _ _ _ ⟨a0,c0,rfl,h⟩ t;exact⟨a0,c0,rfl,t.c 0 (by decide) h.o0,h.ok⟩
 nle:=by decide
instance OBox.iSender:OBox TSender where
 toEncO:=inferInstance
 ty:=69
 n:=1
 one:=by rintro _ _ _ _ _ _ ⟨a0,c0,rfl,-⟩;rfl
 map:=by rintro _ _ _ _ _ _ _ _ _ _ ⟨a0,c0,rfl,h⟩ t;exact⟨a0,c0,rfl,t.c 0 (by decide) h.o0,h.ok⟩
 nle:=by decide
def fSenderWaiting:FS TSender TSent where
 off:=2
 col:=0
 get:=(·.Waiting)
 set:=fun x l=>{ x with Waiting:=l }
 own:=by rintro _ _ _ _ _ ⟨a0,c0,rfl,h⟩;exact⟨_,_,rfl,h.o0⟩
 put:=by rintro _ _ _ _ _ _ a c _ ⟨a0,c0,rfl,h⟩ f k;exact⟨a,c,rfl,k,h.ok⟩
 lt:=by decide
 clt:=by decide
instance OBox.iBoard:OBox TBoard where
 toEncO:=inferInstance
 ty:=84
 n:=7
 one:=by rintro _ _ _ _ _ _ ⟨A,rfl,-⟩;rfl
 map:=by rintro _ _ _ _ _ _ _ _ _ _ ⟨A,rfl,h⟩ t;exact⟨A,rfl,t.c 0 (by decide) h.o0,t.c 1 (by decide) h.o1,t.c 2 (by decide) h.o2,t.c 3 (by decide) h.o3,t.c 4 (by decide) h.o4,t.c 5 (by decide) h.o5,t.c 6 (by decide) h.o6,h.ok⟩
 nle:=by decide
def fBoardOrders:FS TBoard TWaiting where
 off:=4
 col:=2
 get:=(·.Orders)
 set:=fun x l=>{ x with Orders:=l }
 own:=by rintro _ _ _ _ _ ⟨A,rfl,h⟩;exact⟨_,_,rfl,h.o2⟩
 put:=by rintro _ _ _ _ _ _ a c _ ⟨A,rfl,h⟩ f k;exact⟨{ A with a2:=a,c2:=c },rfl,h.o0.fr f (by simp),h.o1.fr f (by simp),k,h.o3.fr f (by simp),h.o4.fr f (by simp),h.o5.fr f (by simp),h.o6.fr f (by simp),h.ok⟩
 lt:=by decide
 clt:=by decide
instance OBox.iFileOut:OBox TFileOut where
 toEncO:=inferInstance
 ty:=116
 n:=1
 one:=by rintro _ _ _ _ _ _ ⟨a0,c0,rfl,-⟩;rfl
 map:=by rintro _ _ _ _ _ _ _ _ _ _ ⟨a0,c0,rfl,h⟩ t;exact⟨a0,c0,rfl,t.c 0 (by decide) h.o0,h.ok⟩
 nle:=by decide
instance OBox.iFileIn:OBox TFileIn where
 toEncO:=inferInstance
 ty:=172
 n:=1
 one:=by rintro _ _ _ _ _ _ ⟨a0,c0,rfl,-⟩;rfl
 map:=by rintro _ _ _ _ _ _ _ _ _ _ ⟨a0,c0,rfl,h⟩ t;exact⟨a0,c0,rfl,t.c 0 (by decide) h.o0,h.ok⟩
 nle:=by decide
section
variable {α β δ:Type} [E:OBox α] [E2:Flat β] {X:Nat→Prop} {B b:Nat} {w w':World} {x:α} {F:FS α β} {l:List β} {a:Option Addr} {c:Nat}
theorem GBp.upd{n sc0:Nat}{u W W2:World}{l':List β}{sa0 sa:Option Addr}{sc:Nat}(h:GB X B b u x)(hc0:u.cell? ⟨b,F.off,none⟩=some (.slice sa0 (F.get x).length sc0))(g:Grows u W)(hown:Own E2.enc E2.ty E2.size B W2 sa sc l')(hgr:W.grownBy W2 (Value.ownBlock (.slice sa0 n sc0)))
  (hblk:blkOf sa=blkOf sa0∨blkOf sa=some W.heap.size) (hg:∀ p∈l',E2.good p):GBp F X B b W2 x l' sa sc∧∀ k,X k→W2.heap[k]?=W.heap[k]?:=by
 obtain⟨χ,vs,h1,h2,h3,h4,h5,h6⟩:=h
 obtain⟨a0,c0,hv,hO⟩:=F.own h2
 rw[h1.cell,hv]at hc0
 simp only[Option.some.injEq,Value.slice.injEq,true_and]at hc0
 obtain⟨rfl,rfl⟩:=hc0
 have hlu:=h1.lt
 have hF:=(hO.to g).wrote hgr
 have hc:=F.c1000
 have hsu:=g.out.size
 have hs:=hF.size
 have hlen:=obox_len h2
 have hX:∀ k,1000≤(χ k).1→k<u.heap.size→W2.heap[k]?=W.heap[k]?:=fun k hk hl=>gb_fr hF (fun i e=>by rw[e];exact hc) hk (by omega)
 have hp:∀ k,k<W.heap.size→paint W2.heap.size (paint W.heap.size χ (fun _=>(F.col,0)) id) (fun _=>(0,0)) (fun _=>(1000,0)) k=χ k:=fun k hk=>by rw[paint,if_pos (by omega),paint,if_pos hk]
 refine⟨⟨paint W2.heap.size (paint W.heap.size χ (fun _=>(F.col,0)) id) (fun _=>(0,0)) (fun _=>(1000,0)),vs,?_,hlen,?_,?_,freshU (Nat.le_refl _),h5,fun k hk=>⟨?_,(h6 k hk).2.1,by have:=(h6 k hk).2.2;omega⟩⟩,fun k hk=>hX k (h6 k hk).1 (h6 k hk).2.2⟩
 ·have h1':=h1.to g
  unfold Held at h1' ⊢
  rw[hX b h3 hlu];exact h1'
 ·exact E.map (F.put (E.map (E.map h2 (.to g)) (.old (Nat.le_refl _))) (hF.old (Nat.le_refl _)) ((hO.to g).appd hown hblk hg)) (.old (Nat.le_refl _))
 ·rw[hp b (by omega)];exact h3
 ·rw[hp k (by have:=(h6 k hk).2.2;omega)];exact(h6 k hk).1
theorem obox_fin{χ:Nat→Col}{B0 k:Nat}{u z:World}{vs:List Value}(h:E.O B χ 0 u vs x)(hk:But k u z)(hb:k<B)(h0:B0≤B):E.O B0 χ 0 z vs x:=E.map (E.map h (.keep (hk.keeps hb))) (.mono h0)
theorem obox_to{χ:Nat→Col}{u z:World}{vs:List Value}(h:E.O B χ 0 u vs x)(g:Grows u z):E.O B χ 0 z vs x:=E.map h (.to g)
end
section
variable {P:Program} {ops:Array Oper} {rest:List Oper} {op:Oper} {act:Act} {w w0:World} {Q:Exit→Act→World→Prop} {X:Nat→Prop} {B b:Nat} {α β:Type} [E:OBox α] [E2:Flat β] {x:α} {F:FS α β} {l:List β} {a:Option Addr} {c n:Nat}
theorem app_len{α:Type}{l:List α}{n:Nat}{y:α}(h:l.length=n):(l++[y]).length=n+1:=by rw[List.length_append,h];rfl
theorem step_gbN(hn:l.length=n)(hgd:op.guard=none)(ty:TypeId)(p v:Operand)(ho:op.op=.store ty p v)(h:GBp F X B b w x l a c)(hx:act.eval p=.pointer (some ⟨b,F.off,none⟩))(hv:act.eval v=.slice a n c)(hi:(P.info? ty).map (·.size)=some 1)
  (g:Grows w0 w) (hb:w0.heap.size≤B) (K:∀ z:Later w0,GB X B b z.w (F.set x l)→wpList P ops Q rest (act.put op.dst undef) z.w):wpList P ops Q (op::rest) act w :=
 step_gbS hgd ty p v ho h hx (by rw[hn];exact hv) hi g hb fun z h1 _=>K z h1
end
instance OBox.iMission:OBox TMission where
 toEncO:=inferInstance
 ty:=90
 n:=22
 one:=by rintro _ _ _ _ _ _ ⟨A,rfl,-⟩;rfl
 map:=by rintro _ _ _ _ _ _ _ _ _ _ ⟨A,rfl,h⟩ t;exact⟨A,rfl,t.c 0 (by decide) h.o0,t.c 1 (by decide) h.o1,t.c 2 (by decide) h.o2,t.c 3 (by decide) h.o3,t.c 4 (by decide) h.o4,t.c 5 (by decide) h.o5,t.c 6 (by decide) h.o6,h.o7.elim fun r hr=>⟨r,hr.1,t.r 7 (by decide) hr.2⟩,t.c 8 (by decide) h.o8,t.c 9 (by decide) h.o9,t.c 10 (by decide) h.o10,t.c 11 (by decide) h.o11,t.c 12 (by decide) h.o12,t.c 13 (by decide) h.o13,t.c 14 (by decide) h.o14,t.c 15 (by decide) h.o15,t.c 16 (by decide) h.o16,t.c 17 (by decide) h.o17,h.o18.elim fun r hr=>⟨r,hr.1,t.r 18 (by decide) hr.2⟩,t.c 19 (by decide) h.o19,t.c 20 (by decide) h.o20,t.c 21 (by decide) h.o21,h.ok⟩
 nle:=by decide
def mUps:FS TMission TFlight where
 off:=14
 col:=1
 get:=(·.Ups)
 set:=fun x l=>{ x with Ups:=l }
 own:=by rintro _ _ _ _ _ ⟨A,rfl,h⟩;exact⟨_,_,rfl,h.o1⟩
 put:=by rintro _ _ _ _ _ _ a c _ ⟨A,rfl,h⟩ f k;exact⟨{ A with a1:=a,c1:=c },rfl,h.put1 f k⟩
 lt:=by decide
 clt:=by decide
def mDowns:FS TMission TFlight where
 off:=15
 col:=2
 get:=(·.Downs)
 set:=fun x l=>{ x with Downs:=l }
 own:=by rintro _ _ _ _ _ ⟨A,rfl,h⟩;exact⟨_,_,rfl,h.o2⟩
 put:=by rintro _ _ _ _ _ _ a c _ ⟨A,rfl,h⟩ f k;exact⟨{ A with a2:=a,c2:=c },rfl,h.put2 f k⟩
 lt:=by decide
 clt:=by decide
def mGOffers:FS TMission ByteArray where
 off:=16
 col:=3
 get:=(·.Ground.Offers)
 set:=fun x l=>{ x with Ground.Offers:=l }
 own:=by rintro _ _ _ _ _ ⟨A,rfl,h⟩;exact⟨_,_,rfl,h.o3⟩
 put:=by rintro _ _ _ _ _ _ a c _ ⟨A,rfl,h⟩ f k;exact⟨{ A with a3:=a,c3:=c },rfl,h.put3 f k⟩
 lt:=by decide
 clt:=by decide
def mAsked:FS TMission Int where
 off:=48
 col:=15
 get:=(·.Space.Board.Asked)
 set:=fun x l=>{ x with Space.Board.Asked:=l }
 own:=by rintro _ _ _ _ _ ⟨A,rfl,h⟩;exact⟨_,_,rfl,h.o15⟩
 put:=by rintro _ _ _ _ _ _ a c _ ⟨A,rfl,h⟩ f k;exact⟨{ A with a15:=a,c15:=c },rfl,h.put15 f k⟩
 lt:=by decide
 clt:=by decide
def mOffered:FS TMission ByteArray where
 off:=58
 col:=20
 get:=(·.Offered)
 set:=fun x l=>{ x with Offered:=l }
 own:=by rintro _ _ _ _ _ ⟨A,rfl,h⟩;exact⟨_,_,rfl,h.o20⟩
 put:=by rintro _ _ _ _ _ _ a c _ ⟨A,rfl,h⟩ f k;exact⟨{ A with a20:=a,c20:=c },rfl,h.put20 f k⟩
 lt:=by decide
 clt:=by decide
def mBoard:FD TMission TBoard where
 off:=37
 col:=9
 get:=(·.Space.Board)
 set:=fun x y=>{ x with Space.Board:=y }
 own:=by rintro _ _ _ _ _ ⟨A,rfl,h⟩;exact⟨⟨A.a9,A.c9,A.a10,A.c10,A.a11,A.c11,A.a12,A.c12,A.a13,A.c13,A.a14,A.c14,A.a15,A.c15⟩,rfl,h.o9,h.o10,h.o11,h.o12,h.o13,h.o14,h.o15,h.ok.2.2.2.2.2.2.2.1.2.1⟩
 put:=by
  rintro _ _ _ _ _ _ _ _ ⟨A,rfl,h⟩ f ⟨A2,rfl,k⟩
  exact⟨{ A with a9:=A2.a0,c9:=A2.c0,a10:=A2.a1,c10:=A2.c1,a11:=A2.a2,c11:=A2.c2,a12:=A2.a3,c12:=A2.c3,a13:=A2.a4,c13:=A2.c4,a14:=A2.a5,c14:=A2.c5,a15:=A2.a6,c15:=A2.c6 },rfl,h.o0.fr f (by simp[OBox.n]),h.o1.fr f (by simp[OBox.n]),h.o2.fr f (by simp[OBox.n]),h.o3.fr f (by simp[OBox.n]),h.o4.fr f (by simp[OBox.n]),h.o5.fr f (by simp[OBox.n]),h.o6.fr f (by simp[OBox.n]),h.o7.elim fun r hr=>⟨r,hr.1,hr.2.fr f (by simp[OBox.n])⟩,h.o8.fr f (by simp[OBox.n]),k.o0,k.o1,k.o2,k.o3,k.o4,k.o5,k.o6,h.o16.fr f (by simp[OBox.n]),h.o17.fr f (by simp[OBox.n]),h.o18.elim fun r hr=>⟨r,hr.1,hr.2.fr f (by simp[OBox.n])⟩,h.o19.fr f (by simp[OBox.n]),h.o20.fr f (by simp[OBox.n]),h.o21.fr f (by simp[OBox.n]),by have q:=h.ok;exact⟨q.1,q.2.1,q.2.2.1,q.2.2.2.1,q.2.2.2.2.1,q.2.2.2.2.2.1,q.2.2.2.2.2.2.1,⟨q.2.2.2.2.2.2.2.1.1,k.ok,q.2.2.2.2.2.2.2.1.2.2⟩,q.2.2.2.2.2.2.2.2⟩⟩
 le:=by decide
 cle:=by decide
def mSender:FD TMission TSender where
 off:=17
 col:=4
 get:=(·.Ground.Sender)
 set:=fun x y=>{ x with Ground.Sender:=y }
 own:=by rintro _ _ _ _ _ ⟨A,rfl,h⟩;exact⟨_,_,rfl,h.o4,h.ok.2.2.2.2.2.2.1.1⟩
 put:=by
  rintro _ _ _ _ _ _ _ _ ⟨A,rfl,h⟩ f ⟨b0,d0,rfl,k⟩
  exact⟨{ A with a4:=b0,c4:=d0 },rfl,h.o0.fr f (by simp[OBox.n]),h.o1.fr f (by simp[OBox.n]),h.o2.fr f (by simp[OBox.n]),h.o3.fr f (by simp[OBox.n]),k.o0,h.o5.fr f (by simp[OBox.n]),h.o6.fr f (by simp[OBox.n]),h.o7.elim fun r hr=>⟨r,hr.1,hr.2.fr f (by simp[OBox.n])⟩,h.o8.fr f (by simp[OBox.n]),h.o9.fr f (by simp[OBox.n]),h.o10.fr f (by simp[OBox.n]),h.o11.fr f (by simp[OBox.n]),h.o12.fr f (by simp[OBox.n]),h.o13.fr f (by simp[OBox.n]),h.o14.fr f (by simp[OBox.n]),h.o15.fr f (by simp[OBox.n]),h.o16.fr f (by simp[OBox.n]),h.o17.fr f (by simp[OBox.n]),h.o18.elim fun r hr=>⟨r,hr.1,hr.2.fr f (by simp[OBox.n])⟩,h.o19.fr f (by simp[OBox.n]),h.o20.fr f (by simp[OBox.n]),h.o21.fr f (by simp[OBox.n]),by have q:=h.ok;exact⟨q.1,q.2.1,q.2.2.1,q.2.2.2.1,q.2.2.2.2.1,q.2.2.2.2.2.1,⟨k.ok,q.2.2.2.2.2.2.1.2⟩,q.2.2.2.2.2.2.2⟩⟩
 le:=by decide
 cle:=by decide
theorem grown_later{w0 W W2:World}{row:Option Nat}(g:Grows w0 W)(h:W.grownBy W2 row)(hr:∀ k,row=some k→w0.heap.size≤k):∃ z:Later w0,W2=z.w :=
 ⟨⟨W2,h.os.trans g.out.os,h.tape.trans g.out.tape,h.output.trans g.out.output,Nat.le_trans g.out.size h.size,fun k hk=>(h.block k (Nat.lt_of_lt_of_le hk g.out.size) (fun e=>by have:=hr k e.symm;omega)).trans (g.out.block k hk)⟩,rfl⟩
end Go.Proofs.YtdinhfeflobafaaGreat
