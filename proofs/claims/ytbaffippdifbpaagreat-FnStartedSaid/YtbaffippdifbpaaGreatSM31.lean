/- What the laws on missions share. No condition but on sizes. The contracts of CommandsOnce, both sides. No condition but on sizes. The contracts of FilesTrue, both sides. No condition but on sizes. The contracts of OrdersOnce, both sides. No condition but on sizes. -/
import Derived.Test.YtbaffippdifbpaaGreatSDM6
import Derived.Test.YtbaffippdifbpaaGreatSDM7
import Derived.Test.YtbaffippdifbpaaGreatSM9
import Derived.Test.YtbaffippdifbpaaGreatSM16
namespace Go.Proofs.YtbaffippdifbpaaGreat
set_option linter.unusedVariables false
open Go.ChangeShapes Go.WideShapes Go.ChangeAt Go.RowKit
theorem mbounds{m:TMission}{N:Int}(ht:Enc.tot m≤N):totL m.Took≤N∧totL m.Offered≤N∧Enc.tot m.Ground≤N∧Enc.tot m.Space≤N∧totL m.Plan≤N∧totL m.Ups≤N∧totL m.Downs≤N:=by
 have h:totL m.Plan+totL m.Ups+totL m.Downs+Enc.tot m.Ground+Enc.tot m.Space+totL m.Offered+totL m.Took≤N:=ht
 have h1:=totL_nonneg m.Plan;have h2:=totL_nonneg m.Ups;have h3:=totL_nonneg m.Downs;have h4:=Enc.tot_nonneg m.Ground;have h5:=Enc.tot_nonneg m.Space;have h6:=totL_nonneg m.Offered;have h7:=totL_nonneg m.Took
 omega
theorem one_mission{B:Nat}{w:World}{vs:List Value}{m:TMission}(h:Enc.Rd B w vs m):vs.all (·.oneCell')=true:=by
 obtain⟨A,h,-⟩:=h
 rw[h];rfl
end Go.Proofs.YtbaffippdifbpaaGreat
namespace Go.Proofs.YtbaffippdifbpaaGreat
set_option linter.unusedVariables false
open Go.ChangeShapes Go.WideShapes Go.ChangeAt Go.RowKit
theorem RdS.toSlStr{B:Nat}{w:World}{a:Option Addr}{c:Nat}{l:List ByteArray}(h:RdS B w a c l):Sl encStr w a l:=fun i x hx=>by
 obtain⟨b,off,vs,h0,-,h2,h3,h4⟩:=h.2.2.2 i x hx
 exact⟨b,off,h0,h2,fun j v hv=>by
  obtain⟨rfl,-⟩:=h3
  have:=h4 j v hv
  rw[show Enc.size ByteArray=(encStr x).length from rfl]at this
  exact this⟩
theorem RdS.take{α:Type}[E:Enc α]{B:Nat}{w:World}{a:Option Addr}{c:Nat}{l:List α}(h:RdS B w a c l)(n:Nat):RdS B w a c (l.take n):=by
 refine⟨by have:=h.1;simp;omega,h.2.1,h.2.2.1,fun i x hx=>?_⟩
 refine h.2.2.2 i x ?_
 rw[List.getElem?_take]at hx
 split at hx
 ·exact hx
 ·cases hx
theorem mcell{B:Nat}{w:World}{vs:List Value}{m:TMission}(h:Enc.Rd B w vs m):∃ A:TMissionA,vs=(cMission m A.a0 A.c0 A.a1 A.c1 A.a2 A.c2 A.a3 A.c3 A.a4 A.c4 A.a5 A.c5 A.a6 A.c6 A.a7 A.c7 A.a8 A.c8 A.a9 A.c9 A.a10 A.c10 A.a11 A.c11 A.a12 A.c12 A.a13 A.c13 A.a14 A.c14 A.a15 A.c15 A.a16 A.c16 A.a17 A.c17 A.a18 A.c18 A.a19 A.c19 A.a20 A.c20 A.a21 A.c21)∧TMissionF B w A m:=h
set_option maxRecDepth 100000 in
set_option maxHeartbeats 2000000 in
theorem c_equalStr{a a':Option Addr}{n n' c c':Nat}{l l':List ByteArray}{w:World}(hs:Sl encStr w a l)(hs':Sl encStr w a' l')(hn:l.length=n)(hn':l'.length=n')(hm:n≤4611686018427387904)(hm':n'≤4611686018427387904) :
  Calls Tryz.prog 139 #[.slice a n c,.slice a' n' c'] w (Gives w (.bool ((n == n') && eqAll eqStr l l'))):=by
 by_cases hnn:n=n'
 ·subst hnn
  have kn:((n:Int) != (n:Int))=false:=by simp
  go_enter Tryz.func139,Tryz.ntmps139
  go_wp2_with (first|((with_reducible refine wp_region_later (by kernel_rfl) (by kernel_rfl) ?_);(repeat(first|go_big_quiet_step (first|fail)|simp only[kn]));refine wpQuiet_nil ?_;rintro _ ⟨x,rfl⟩))
  go_loopw [13] (fun v wr=>∃ k:Nat,v=.int .i64 k∧k≤n∧Hid (eqAll eqStr (l.drop k) (l'.drop k)=eqAll eqStr l l')∧∃ x:Later w,wr=x.w) (fun v _=>(n - intOf v).toNat)
  case atStart=>exact⟨0,rfl,by omega,rfl,Later.here w,rfl⟩
  case round =>
   obtain⟨k,rfl,hk,hf,x,rfl⟩:=hrel
   by_cases h:k<n
   ·obtain⟨b,off,s,rfl,hb,hd,h0⟩:=hs.str (show k<l.length by omega)
    obtain⟨b',off',s',rfl,hb',hd',h0'⟩:=hs'.str (show k<l'.length by omega)
    cases he:(s.toList == s'.toList)
    ·have he2:(s.toList != s'.toList)=true:=by simp[bne,he]
     go_wp2_with (first|((with_reducible refine wp_region_later (by kernel_rfl) (by kernel_rfl) ?_);(repeat(first|go_big_quiet_step (first|fail)|simp only[he2]));refine wpQuiet_nil ?_;rintro _ ⟨x,rfl⟩))
     go_ret
     exact Gives.mk (by have:=hf.out;rw[hd.out,hd'.out,eqAll,eqStr,he]at this;simp[← this])
    ·have he2:(s.toList != s'.toList)=false:=by simp[bne,he]
     go_wp2_with (first|((with_reducible refine wp_region_later (by kernel_rfl) (by kernel_rfl) ?_);(repeat(first|go_big_quiet_step (first|fail)|simp only[he2]));refine wpQuiet_nil ?_;rintro _ ⟨x,rfl⟩))
     go_roundw
     case rel=>exact⟨k+1,by go_num,by omega,by have:=hf.out;rw[hd.out,hd'.out,eqAll,eqStr,he,Bool.true_and]at this;exact this,Later.of⟩
     case measure=>simp[intOf];omega
   ·go_wp2_with (first|((with_reducible refine wp_region_later (by kernel_rfl) (by kernel_rfl) ?_);(repeat(first|go_big_quiet_step (first|fail)));refine wpQuiet_nil ?_;rintro _ ⟨x,rfl⟩))
    go_ret
    exact Gives.mk (by have:=hf.out;rw[List.drop_of_length_le (by omega),List.drop_of_length_le (by omega)]at this;simp[← this,eqAll])
 ·have kn:((n:Int) != (n':Int))=true:=by simp;omega
  go_enter Tryz.func139,Tryz.ntmps139
  go_wp2_with (first|((with_reducible refine wp_region_later (by kernel_rfl) (by kernel_rfl) ?_);(repeat(first|go_big_quiet_step (first|fail)|simp only[kn]));refine wpQuiet_nil ?_;rintro _ ⟨x,rfl⟩))
  go_ret
  exact Gives.mk (by simp[hnn])
def commandsOnce(m:TMission):Bool:=decide (m.Took.length≤m.Offered.length) && (eqAll eqStr m.Took (m.Offered.take m.Took.length) && (m.Space.Receiver.Taken == (m.Took.length:Int)))
set_option maxRecDepth 100000 in
set_option maxHeartbeats 2000000 in
theorem c_iCommandsOnce{B:Nat}{vs:List Value}{m:TMission}{w:World}(h:Enc.Rd B w vs m)(ht:Enc.tot m≤1048576) :
  Calls Tryz.prog 56 #[.agg vs.toArray] w (Gives w (.bool (commandsOnce m))):=by
 obtain⟨A,hvs,F⟩:=mcell h
 have hb:=mbounds ht
 have hb1:=totL_len m.Took;have hb2:=totL_len m.Offered
 clear ht h
 have HB:=Held.new w vs 62 w.heap.size rfl
 have e20:=HB.cellG 58 (.slice A.a20 m.Offered.length A.c20) (by rw[hvs];rfl)
 have e21:=HB.cellG 59 (.slice A.a21 m.Took.length A.c21) (by rw[hvs];rfl)
 have eT:=HB.cellG 36 (.int .i64 m.Space.Receiver.Taken) (by rw[hvs];rfl)
 clear HB hvs
 have hm1:m.Offered.length≤1048576:=by omega
 have hm2:m.Took.length≤1048576:=by omega
 clear hb hb1 hb2
 have hc1:=F.q20.cap
 have q1:=lH (And.intro F.q20.cap F.q20.nilcap)
 have HQ:=lH (And.intro F.q21.toSlStr (F.q20.take m.Took.length).toSlStr)
 clear F
 obtain⟨n,hn⟩:∃ n,m.Took.length=n:=⟨_,rfl⟩
 obtain⟨n2,hn2⟩:∃ n,m.Offered.length=n:=⟨_,rfl⟩
 obtain⟨t,htk⟩:∃ t,m.Space.Receiver.Taken=t:=⟨_,rfl⟩
 have HV:=lH (show commandsOnce m=(decide (n≤n2) && (eqAll eqStr m.Took (m.Offered.take n) && (t == (n:Int))))by rw[commandsOnce,hn,hn2,htk])
 rw[hn]at e21 hm2 HQ;rw[hn2]at e20 hm1 hc1 q1
 rw[htk]at eT
 have HN:=lH (And.intro hn hn2);clear hn hn2 htk
 by_cases hle:n≤n2
 ·have k1:decide ((n:Int)≤(n2:Int))=true:=by simp;omega
  have hle1:(n:Int)≤(A.c20:Int):=by omega
  have hle2:n≤A.c20:=by omega
  obtain⟨e,he⟩:∃ e,eqAll eqStr m.Took (m.Offered.take n)=e:=⟨_,rfl⟩
  have ce:∀ {W:World} [Grows w W],Calls Tryz.prog 139 #[.slice A.a21 n A.c21,.slice A.a20 n A.c20] W (Gives W (.bool e)):=fun {W} _=>by
   have:=c_equalStr (w:=W) (n:=n) (n':=n) (c:=A.c21) (c':=A.c20) (HQ.out.1.to inferInstance) (HQ.out.2.to inferInstance) HN.out.1 (by have:=HN.out.2;rw[List.length_take];omega) (by omega) (by omega)
   rw[he]at this
   simpa using this
  have HV2:=lH (show commandsOnce m=(e && (t == (n:Int)))by rw[HV.out,he,decide_eq_true hle];rfl)
  clear he HV q1
  cases e
  ·go_enter Tryz.func56,Tryz.ntmps56
   go_wp2_with (first|((with_reducible refine wp_region_later (by kernel_rfl) (by kernel_rfl) ?_);(repeat(first|go_big_quiet_step (first|(go_at_call 139;exact Gives.quiet (ce)))|simp only[k1]));refine wpQuiet_nil ?_;rintro _ ⟨x,rfl⟩)|(go_at_call 139;refine(ce).mono ?_;rintro _ _ ⟨rfl,x,rfl⟩))
   go_ret
   exact Gives.mk (by rw[HV2.out];rfl)
  ·go_enter Tryz.func56,Tryz.ntmps56
   go_wp2_with (first|((with_reducible refine wp_region_later (by kernel_rfl) (by kernel_rfl) ?_);(repeat(first|go_big_quiet_step (first|(go_at_call 139;exact Gives.quiet (ce)))|simp only[k1]));refine wpQuiet_nil ?_;rintro _ ⟨x,rfl⟩)|(go_at_call 139;refine(ce).mono ?_;rintro _ _ ⟨rfl,x,rfl⟩))
   go_ret
   exact Gives.mk (by rw[HV2.out];rfl)
 ·have k1:decide ((n:Int)≤(n2:Int))=false:=by simp;omega
  have HV2:=lH (show commandsOnce m=false by rw[HV.out,decide_eq_false hle];rfl)
  clear HV
  go_enter Tryz.func56,Tryz.ntmps56
  go_wp2_with (first|((with_reducible refine wp_region_later (by kernel_rfl) (by kernel_rfl) ?_);(repeat(first|go_big_quiet_step (first|fail)|simp only[k1]));refine wpQuiet_nil ?_;rintro _ ⟨x,rfl⟩))
  go_ret
  exact Gives.mk (by rw[HV2.out];rfl)
end Go.Proofs.YtbaffippdifbpaaGreat
namespace Go.Proofs.YtbaffippdifbpaaGreat
set_option linter.unusedVariables false
open Go.ChangeShapes Go.WideShapes Go.ChangeAt Go.RowKit
def xText(x:TFileIn):ByteArray:=fileText x.File x.Size x.Check x.Parts
def xIs(x:TFileIn):Bool:=textIs x.File x.Size x.Check x.Parts
def fileGood(files:List ByteArray)(told:List Bool)(k:Nat)(x:TFileIn):Bool :=
 if xIs x=true then(match files[k]? with|some s=>((xText x).toList == s.toList)|none=>false)else !(told.getD k false)
def filesGo(files:List ByteArray)(told:List Bool):Nat→List TFileIn→Bool
 | _,[]=>true
 | k,x::r=>fileGood files told k x && filesGo files told (k+1) r
def filesTrue(m:TMission):Bool:=filesGo m.Space.Files m.Ground.Told 0 m.Ground.Files
theorem parts_small{m:TMission}(ht:Enc.tot m≤1048576):m.Ground.Files.length≤1048576∧m.Space.Files.length≤1048576∧m.Ground.Told.length≤1048576∧∀ x∈m.Ground.Files,x.Parts.length≤1048576∧∀ s∈x.Parts,s.size≤1048576:=by
 have h:=mbounds ht
 have hg:totL m.Ground.Offers+Enc.tot m.Ground.Sender+Enc.tot m.Ground.Unpacker+totL m.Ground.Pairs+totL m.Ground.Records+totL m.Ground.Files+totL m.Ground.Told≤1048576:=h.2.2.1
 have hsp:Enc.tot m.Space.Board+Enc.tot m.Space.Packer+totL m.Space.Files+totL m.Space.Outs+totL m.Space.Sent≤1048576:=h.2.2.2.1
 have n1:=totL_nonneg m.Ground.Offers;have n2:=Enc.tot_nonneg m.Ground.Sender;have n3:=Enc.tot_nonneg m.Ground.Unpacker;have n4:=totL_nonneg m.Ground.Pairs;have n5:=totL_nonneg m.Ground.Records;have n6:=totL_nonneg m.Ground.Files;have n7:=totL_nonneg m.Ground.Told
 have n8:=Enc.tot_nonneg m.Space.Board;have n9:=Enc.tot_nonneg m.Space.Packer;have n10:=totL_nonneg m.Space.Files;have n11:=totL_nonneg m.Space.Outs;have n12:=totL_nonneg m.Space.Sent
 have l1:=totL_len m.Ground.Files;have l2:=totL_len m.Space.Files;have l3:=totL_len m.Ground.Told
 refine⟨by omega,by omega,by omega,fun x hx=>?_⟩
 have hx1:Enc.tot x≤totL m.Ground.Files:=totL_mem hx
 have hx2:totL x.Parts≤totL m.Ground.Files:=hx1
 have hx3:=totL_len x.Parts
 refine⟨by omega,fun s hs=>?_⟩
 have hs1:(s.size:Int)≤totL x.Parts:=totL_mem hs
 omega
theorem RdS.atB{B:Nat}{w:World}{a:Option Addr}{c:Nat}{l:List Bool}(h:RdS B w a c l){k:Nat}(hk:k<l.length) :
  ∃ b off,a=some ⟨b,off,none⟩∧LtN b w.heap.size∧(∀ (W:World) [Grows w W],W.cell? ⟨b,off+k,none⟩=some (.bool (l.getD k false))):=by
 obtain⟨b,off,x,h0,h1,h2,h3⟩:=h.atBool hk
 have:l.getD k false=x:=by
  have:=congrArg (fun m=>m[0]?) h2.out
  simp only[List.getElem?_drop,Nat.add_zero,List.getElem?_cons_zero]at this
  simp[this]
 exact⟨b,off,h0,h1,by rw[this];exact h3⟩
set_option maxRecDepth 100000 in
set_option maxHeartbeats 2000000 in
theorem c_iFilesTrue{B:Nat}{vs:List Value}{m:TMission}{w:World}(h:Enc.Rd B w vs m)(ht:Enc.tot m≤1048576) :
  Calls Tryz.prog 59 #[.agg vs.toArray] w (Gives w (.bool (filesTrue m))):=by
 obtain⟨A,hvs,F⟩:=mcell h
 have hsm:=parts_small ht
 clear ht h
 have HB:=Held.new w vs 62 w.heap.size rfl
 have e7:=HB.cellG 31 (.slice A.a7 m.Ground.Files.length A.c7) (by rw[hvs];rfl)
 have e8:=HB.cellG 32 (.slice A.a8 m.Ground.Told.length A.c8) (by rw[hvs];rfl)
 have e17:=HB.cellG 54 (.slice A.a17 m.Space.Files.length A.c17) (by rw[hvs];rfl)
 clear HB hvs
 have F7:=lH F.q7;have F8:=lH F.q8;have F17:=lH F.q17
 clear F
 obtain⟨n,hn⟩:∃ n,m.Ground.Files.length=n:=⟨_,rfl⟩
 obtain⟨nf,hnf⟩:∃ n,m.Space.Files.length=n:=⟨_,rfl⟩
 obtain⟨nt,hnt⟩:∃ n,m.Ground.Told.length=n:=⟨_,rfl⟩
 have HS:=lH hsm.2.2.2
 have hm1:n≤1048576:=by omega
 have hm2:nf≤1048576:=by omega
 have hm3:nt≤1048576:=by omega
 clear hsm
 rw[hn]at e7;rw[hnf]at e17;rw[hnt]at e8
 have HN:=lH (And.intro hn (And.intro hnf hnt));clear hn hnf hnt
 go_enter Tryz.func59,Tryz.ntmps59
 go_wp2_with (first|((with_reducible refine wp_region_later (by kernel_rfl) (by kernel_rfl) ?_);(repeat(first|go_big_quiet_step (first|fail)));refine wpQuiet_nil ?_;rintro _ ⟨x,rfl⟩))
 go_loopw [11] (fun v wr=>∃ k:Nat,v=.int .i64 k∧k≤n∧Hid (filesGo m.Space.Files m.Ground.Told k (m.Ground.Files.drop k)=filesTrue m)∧∃ x:Later (w.alloc (.cells vs.toArray 62)),wr=x.w) (fun v _=>(n - intOf v).toNat)
 case atStart=>exact⟨0,rfl,by omega,rfl,Later.of⟩
 case round =>
  obtain⟨k,rfl,hk,HV,x,rfl⟩:=hrel
  by_cases h:k<n
  ·have hkl:k<m.Ground.Files.length:=by have:=HN.out.1;omega
   obtain⟨eb,eoff,ex,ea0,ec0,he,ehb,ehd,eq0,eok,eh0,eh1,eh2,eh3⟩:=F7.out.atTFileIn hkl
   have hxm:ex∈m.Ground.Files:=List.mem_of_mem_drop (by rw[ehd.out];exact List.mem_cons_self ..)
   have HX:=lH (HS.out ex hxm)
   rw[he]at e7
   (try rw[he])
   obtain⟨T,hT⟩:∃ T,xText ex=T:=⟨_,rfl⟩
   obtain⟨K,hK⟩:∃ K,xIs ex=K:=⟨_,rfl⟩
   have HT:=lH (And.intro hT hK)
   have EOK:=lH eok;clear eok hxm hkl he
   cases K
   ·have hgd:fileGood m.Space.Files m.Ground.Told k ex=!(m.Ground.Told.getD k false):=by rw[fileGood,hK];rfl
    clear hT hK
    by_cases hkt:k<nt
    ·obtain⟨tb,toff,ha8,htb,ht0⟩:=F8.out.atB (k:=k) (by have:=HN.out.2.2;omega)
     rw[ha8]at e8
     clear ha8
     have k1:decide ((k:Int)<(nt:Int))=true:=by simp;omega
     cases hB:m.Ground.Told.getD k false
     ·have hg:fileGood m.Space.Files m.Ground.Told k ex=true:=by rw[hgd,hB];rfl
      rw[hB]at ht0
      clear hgd hB
      have HF:=lH (show filesGo m.Space.Files m.Ground.Told (k+1) (m.Ground.Files.drop (k+1))=filesTrue m by have:=HV.out;rw[ehd.out,filesGo,hg,Bool.true_and]at this;exact this)
      clear hg
      go_wp2_with (first|((with_reducible refine wp_region_later (by kernel_rfl) (by kernel_rfl) ?_);(repeat(first|go_big_quiet_step (first|fail)));refine wpQuiet_nil ?_;rintro _ ⟨x,rfl⟩))
      refine(c_iFileText (eq0.toSlStr.to inferInstance) rfl (Nat.le_trans HX.out.1 (by decide)) (fun s hs=>Nat.le_trans (HX.out.2 s hs) (by decide))).mono ?_
      rintro _ _ ⟨rfl,y1,rfl⟩
      rw[show fileText ex.File ex.Size ex.Check ex.Parts=T from HT.out.1,show textIs ex.File ex.Size ex.Check ex.Parts=_ from HT.out.2];simp only[tupText]
      go_wp2_with (first|((with_reducible refine wp_region_later (by kernel_rfl) (by kernel_rfl) ?_);(repeat(first|go_big_quiet_step (first|fail)|simp only[k1]));refine wpQuiet_nil ?_;rintro _ ⟨x,rfl⟩))
      go_roundw
      case rel=>exact⟨k+1,by go_num,by omega,HF,Later.of⟩
      case measure=>simp[intOf];omega
     ·have hg:fileGood m.Space.Files m.Ground.Told k ex=false:=by rw[hgd,hB];rfl
      rw[hB]at ht0
      clear hgd hB
      have HF:=lH (show filesTrue m=false by have:=HV.out;rw[ehd.out,filesGo,hg]at this;rw[← this];rfl)
      clear hg
      go_wp2_with (first|((with_reducible refine wp_region_later (by kernel_rfl) (by kernel_rfl) ?_);(repeat(first|go_big_quiet_step (first|fail)));refine wpQuiet_nil ?_;rintro _ ⟨x,rfl⟩))
      refine(c_iFileText (eq0.toSlStr.to inferInstance) rfl (Nat.le_trans HX.out.1 (by decide)) (fun s hs=>Nat.le_trans (HX.out.2 s hs) (by decide))).mono ?_
      rintro _ _ ⟨rfl,y1,rfl⟩
      rw[show fileText ex.File ex.Size ex.Check ex.Parts=T from HT.out.1,show textIs ex.File ex.Size ex.Check ex.Parts=_ from HT.out.2];simp only[tupText]
      go_wp2_with (first|((with_reducible refine wp_region_later (by kernel_rfl) (by kernel_rfl) ?_);(repeat(first|go_big_quiet_step (first|fail)|simp only[k1]));refine wpQuiet_nil ?_;rintro _ ⟨x,rfl⟩))
      go_ret
      exact Gives.mk (by rw[HF.out];rfl)
    ·have k1:decide ((k:Int)<(nt:Int))=false:=by simp;omega
     have hg:fileGood m.Space.Files m.Ground.Told k ex=true:=by
      have h5:m.Ground.Told[k]?=none:=List.getElem?_eq_none (by have:=HN.out.2.2;omega)
      rw[hgd];simp[List.getD,h5]
     clear hgd
     have HF:=lH (show filesGo m.Space.Files m.Ground.Told (k+1) (m.Ground.Files.drop (k+1))=filesTrue m by have:=HV.out;rw[ehd.out,filesGo,hg,Bool.true_and]at this;exact this)
     clear hg
     go_wp2_with (first|((with_reducible refine wp_region_later (by kernel_rfl) (by kernel_rfl) ?_);(repeat(first|go_big_quiet_step (first|fail)));refine wpQuiet_nil ?_;rintro _ ⟨x,rfl⟩))
     refine(c_iFileText (eq0.toSlStr.to inferInstance) rfl (Nat.le_trans HX.out.1 (by decide)) (fun s hs=>Nat.le_trans (HX.out.2 s hs) (by decide))).mono ?_
     rintro _ _ ⟨rfl,y1,rfl⟩
     rw[show fileText ex.File ex.Size ex.Check ex.Parts=T from HT.out.1,show textIs ex.File ex.Size ex.Check ex.Parts=_ from HT.out.2];simp only[tupText]
     go_wp2_with (first|((with_reducible refine wp_region_later (by kernel_rfl) (by kernel_rfl) ?_);(repeat(first|go_big_quiet_step (first|fail)|simp only[k1]));refine wpQuiet_nil ?_;rintro _ ⟨x,rfl⟩))
     go_roundw
     case rel=>exact⟨k+1,by go_num,by omega,HF,Later.of⟩
     case measure=>simp[intOf];omega
   ·by_cases hkf:k<nf
    ·have hkf2:k<m.Space.Files.length:=by have:=HN.out.2.1;omega
     obtain⟨fb,foff,fs,ha17,hfb,hfd,hf0⟩:=F17.out.toSlStr.str hkf2
     rw[ha17]at e17
     clear ha17
     have hfs:m.Space.Files[k]?=some fs:=by
      have:=congrArg (fun m=>m[0]?) hfd.out
      simpa using this
     have k1:decide ((nf:Int)≤(k:Int))=false:=by simp;omega
     have hgd:fileGood m.Space.Files m.Ground.Told k ex=(T.toList == fs.toList):=by rw[fileGood,hK,hT,hfs];rfl
     clear hT hK hfs hfd hkf2
     cases hB:(T.toList == fs.toList)
     ·have k2:(T.toList != fs.toList)=true:=by rw[bne,hB];rfl
      have hg:fileGood m.Space.Files m.Ground.Told k ex=false:=by rw[hgd,hB]
      clear hgd
      have HF:=lH (show filesTrue m=false by have:=HV.out;rw[ehd.out,filesGo,hg]at this;rw[← this];rfl)
      clear hg
      go_wp2_with (first|((with_reducible refine wp_region_later (by kernel_rfl) (by kernel_rfl) ?_);(repeat(first|go_big_quiet_step (first|fail)));refine wpQuiet_nil ?_;rintro _ ⟨x,rfl⟩))
      refine(c_iFileText (eq0.toSlStr.to inferInstance) rfl (Nat.le_trans HX.out.1 (by decide)) (fun s hs=>Nat.le_trans (HX.out.2 s hs) (by decide))).mono ?_
      rintro _ _ ⟨rfl,y1,rfl⟩
      rw[show fileText ex.File ex.Size ex.Check ex.Parts=T from HT.out.1,show textIs ex.File ex.Size ex.Check ex.Parts=_ from HT.out.2];simp only[tupText]
      go_wp2_with (first|((with_reducible refine wp_region_later (by kernel_rfl) (by kernel_rfl) ?_);(repeat(first|go_big_quiet_step (first|fail)|simp only[k1]|simp only[k2]));refine wpQuiet_nil ?_;rintro _ ⟨x,rfl⟩))
      go_ret
      exact Gives.mk (by rw[HF.out];rfl)
     ·have k2:(T.toList != fs.toList)=false:=by rw[bne,hB];rfl
      have hg:fileGood m.Space.Files m.Ground.Told k ex=true:=by rw[hgd,hB]
      clear hgd
      have HF:=lH (show filesGo m.Space.Files m.Ground.Told (k+1) (m.Ground.Files.drop (k+1))=filesTrue m by have:=HV.out;rw[ehd.out,filesGo,hg,Bool.true_and]at this;exact this)
      clear hg
      go_wp2_with (first|((with_reducible refine wp_region_later (by kernel_rfl) (by kernel_rfl) ?_);(repeat(first|go_big_quiet_step (first|fail)));refine wpQuiet_nil ?_;rintro _ ⟨x,rfl⟩))
      refine(c_iFileText (eq0.toSlStr.to inferInstance) rfl (Nat.le_trans HX.out.1 (by decide)) (fun s hs=>Nat.le_trans (HX.out.2 s hs) (by decide))).mono ?_
      rintro _ _ ⟨rfl,y1,rfl⟩
      rw[show fileText ex.File ex.Size ex.Check ex.Parts=T from HT.out.1,show textIs ex.File ex.Size ex.Check ex.Parts=_ from HT.out.2];simp only[tupText]
      go_wp2_with (first|((with_reducible refine wp_region_later (by kernel_rfl) (by kernel_rfl) ?_);(repeat(first|go_big_quiet_step (first|fail)|simp only[k1]|simp only[k2]));refine wpQuiet_nil ?_;rintro _ ⟨x,rfl⟩))
      go_roundw
      case rel=>exact⟨k+1,by go_num,by omega,HF,Later.of⟩
      case measure=>simp[intOf];omega
    ·have k1:decide ((nf:Int)≤(k:Int))=true:=by simp;omega
     have hg:fileGood m.Space.Files m.Ground.Told k ex=false:=by
      rw[fileGood,hK,List.getElem?_eq_none (by have:=HN.out.2.1;omega)];rfl
     clear hT hK
     have HF:=lH (show filesTrue m=false by have:=HV.out;rw[ehd.out,filesGo,hg]at this;rw[← this];rfl)
     clear hg
     go_wp2_with (first|((with_reducible refine wp_region_later (by kernel_rfl) (by kernel_rfl) ?_);(repeat(first|go_big_quiet_step (first|fail)));refine wpQuiet_nil ?_;rintro _ ⟨x,rfl⟩))
     refine(c_iFileText (eq0.toSlStr.to inferInstance) rfl (Nat.le_trans HX.out.1 (by decide)) (fun s hs=>Nat.le_trans (HX.out.2 s hs) (by decide))).mono ?_
     rintro _ _ ⟨rfl,y1,rfl⟩
     rw[show fileText ex.File ex.Size ex.Check ex.Parts=T from HT.out.1,show textIs ex.File ex.Size ex.Check ex.Parts=_ from HT.out.2];simp only[tupText]
     go_wp2_with (first|((with_reducible refine wp_region_later (by kernel_rfl) (by kernel_rfl) ?_);(repeat(first|go_big_quiet_step (first|fail)|simp only[k1]));refine wpQuiet_nil ?_;rintro _ ⟨x,rfl⟩))
     go_ret
     exact Gives.mk (by rw[HF.out];rfl)
  ·go_wp2_with (first|((with_reducible refine wp_region_later (by kernel_rfl) (by kernel_rfl) ?_);(repeat(first|go_big_quiet_step (first|fail)));refine wpQuiet_nil ?_;rintro _ ⟨x,rfl⟩))
   go_ret
   exact Gives.mk (by have:=HV.out;rw[List.drop_of_length_le (by have:=HN.out.1;omega),filesGo]at this;rw[← this];rfl)
end Go.Proofs.YtbaffippdifbpaaGreat
namespace Go.Proofs.YtbaffippdifbpaaGreat
set_option linter.unusedVariables false
open Go.ChangeShapes Go.WideShapes Go.ChangeAt Go.RowKit
def isOrd(s:ByteArray):Bool:=if h:0<s.size then decide (s[0].toNat=0)else false
def ordNums(m:TMission):List Int:=m.Space.Board.Orders.map (·.Number)++m.Space.Board.Done.map (·.Number)
def ordersOnce(m:TMission):Bool:=once (ordNums m) m.Space.Board.Taken && (m.Space.Board.Taken == ((m.Took.countP isOrd:Nat):Int))
theorem countP_snoc{l:List ByteArray}{k:Nat}{s:ByteArray}{r:List ByteArray}(h:l.drop k=s::r):(l.take (k+1)).countP isOrd=(l.take k).countP isOrd+(if isOrd s=true then 1 else 0):=by
 rw[take_snoc' h,List.countP_append];simp[List.countP_cons]
theorem map_snoc{α:Type}{f:α→Int}{l:List α}{k:Nat}{s:α}{r:List α}(h:l.drop k=s::r):(l.take (k+1)).map f=(l.take k).map f++[f s]:=by
 rw[take_snoc' h,List.map_append];rfl
theorem ord_small{m:TMission}(ht:Enc.tot m≤1048576):m.Space.Board.Orders.length≤1048576∧m.Space.Board.Done.length≤1048576∧m.Took.length≤1048576:=by
 have h:=mbounds ht
 have hsp:Enc.tot m.Space.Board+Enc.tot m.Space.Packer+totL m.Space.Files+totL m.Space.Outs+totL m.Space.Sent≤1048576:=h.2.2.2.1
 have n8:=Enc.tot_nonneg m.Space.Board;have n9:=Enc.tot_nonneg m.Space.Packer;have n10:=totL_nonneg m.Space.Files;have n11:=totL_nonneg m.Space.Outs;have n12:=totL_nonneg m.Space.Sent
 have hb:totL m.Space.Board.Params+totL m.Space.Board.Limits+totL m.Space.Board.Orders+totL m.Space.Board.Done+Enc.tot m.Space.Board.Recorder+totL m.Space.Board.Asked≤1048576:=by
  have:Enc.tot m.Space.Board≤1048576:=by omega
  exact this
 have m1:=totL_nonneg m.Space.Board.Params;have m2:=totL_nonneg m.Space.Board.Limits;have m3:=totL_nonneg m.Space.Board.Orders;have m4:=totL_nonneg m.Space.Board.Done;have m5:=Enc.tot_nonneg m.Space.Board.Recorder;have m6:=totL_nonneg m.Space.Board.Asked
 have l1:=totL_len m.Space.Board.Orders;have l2:=totL_len m.Space.Board.Done;have l3:=totL_len m.Took
 omega
set_option maxRecDepth 100000 in
set_option maxHeartbeats 2000000 in
theorem c_iOrdersOnce{B:Nat}{vs:List Value}{m:TMission}{w:World}(h:Enc.Rd B w vs m)(ht:Enc.tot m≤1048576) :
  Calls Tryz.prog 57 #[.agg vs.toArray] w (Gives w (.bool (ordersOnce m))):=by
 obtain⟨A,hvs,F⟩:=mcell h
 have hsm:=ord_small ht
 clear ht h
 have HVS:=lH hvs
 have HB:=lH (Held.new w vs 62 w.heap.size rfl)
 have e21:=HB.out.cellG 59 (.slice A.a21 m.Took.length A.c21) (by rw[hvs];rfl)
 clear hvs
 have F11:=lH F.q11;have F12:=lH F.q12;have F21:=lH F.q21.toSlStr
 have HI:=lH F.ok
 clear F
 obtain⟨n1,hn1⟩:∃ n,m.Space.Board.Orders.length=n:=⟨_,rfl⟩
 obtain⟨n2,hn2⟩:∃ n,m.Space.Board.Done.length=n:=⟨_,rfl⟩
 obtain⟨n3,hn3⟩:∃ n,m.Took.length=n:=⟨_,rfl⟩
 obtain⟨t,htk⟩:∃ t,m.Space.Board.Taken=t:=⟨_,rfl⟩
 have hm1:n1≤1048576:=by omega
 have hm2:n2≤1048576:=by omega
 have hm3:n3≤1048576:=by omega
 clear hsm
 rw[hn3]at e21
 have HN:=lH (And.intro hn1 (And.intro hn2 (And.intro hn3 htk)));clear hn1 hn2 hn3 htk
 go_enter Tryz.func57,Tryz.ntmps57
 go_wp2_with (first|((with_reducible refine wp_region_later (by kernel_rfl) (by kernel_rfl) ?_);(repeat(first|go_big_quiet_step (first|fail)));refine wpQuiet_nil ?_;rintro _ ⟨x,rfl⟩)|(refine stepStore2 rfl _ _ _ rfl (w.heap.size+1) 0 rfl (us:=(cBoard m.Space.Board A.a9 A.c9 A.a10 A.c10 A.a11 A.c11 A.a12 A.c12 A.a13 A.c13 A.a14 A.c14 A.a15 A.c15)) (cs2:=(cBoard m.Space.Board A.a9 A.c9 A.a10 A.c10 A.a11 A.c11 A.a12 A.c12 A.a13 A.c13 A.a14 A.c14 A.a15 A.c15)) (Held.new _ zBoard 55 _ (by simp)) ?a1 ?a2 ?a3 ?a4 ?a5 (w0:=(w.alloc (.cells vs.toArray 62))) inferInstance (by simp) ?a6;go_must ((case a1=>rfl);(case a2=>kernel_rfl);(case a3=>rfl);(case a4=>exact Nat.le_of_ble_eq_true rfl);(case a5=>kernel_rfl);intro z hx kx;have fO:=hx.cellG 4 (.slice A.a11 m.Space.Board.Orders.length A.c11) rfl;have fD:=hx.cellG 5 (.slice A.a12 m.Space.Board.Done.length A.c12) rfl;have fT:=hx.cellG 10 (.int .i64 m.Space.Board.Taken) rfl;rw[HN.out.1]at fO;rw[HN.out.2.1]at fD;rw[HN.out.2.2.2]at fT;have hzz:LtN (w.heap.size+1) z.w.heap.size:=⟨hx.lt⟩;clear hx kx))|(refine stepLoad rfl _ _ rfl w.heap.size 37 rfl (row:=(cBoard m.Space.Board A.a9 A.c9 A.a10 A.c10 A.a11 A.c11 A.a12 A.c12 A.a13 A.c13 A.a14 A.c14 A.a15 A.c15)) (HB.out.to inferInstance) _ Tryz.underlying55 rfl (by kernel_rfl) (by rw[HVS.out];kernel_rfl) ?_))
 go_loopw [4,18] (fun u v wr=>∃ (k:Nat) (acc:List Int) (q:Nat) (sa:Option Addr) (sc:Nat),v=.int .i64 k∧u=.slice sa q sc∧acc.length=q∧k≤n1∧q≤k∧Hid (acc=(m.Space.Board.Orders.take k).map (·.Number))∧Own encInt 3 1 z.w.heap.size wr sa sc acc∧∃ x:Later z.w,wr=x.w) (fun _ v _=>(n1 - intOf v).toNat)
 case atStart=>exact⟨0,[],0,_,0,rfl,rfl,rfl,by omega,by omega,rfl,Own.nil encInt_len,Later.of⟩
 case round =>
  obtain⟨k,acc,q,sa,sc,rfl,rfl,hacc,hk,hqk,hf,hown,x0,rfl⟩:=hrel
  by_cases h:k<n1
  ·have hkl:k<m.Space.Board.Orders.length:=by have:=HN.out.1;omega
   obtain⟨eb,eoff,ex,he,ehb,ehd,eok,eh0,eh1,eh2,eh3,eh4⟩:=F11.out.atTWaiting hkl
   rw[he]at fO
   (try rw[he])
   have HF:=lH (show acc++[ex.Number]=(m.Space.Board.Orders.take (k+1)).map (·.Number)by rw[map_snoc ehd.out,← hf.out])
   have EOK:=lH eok;clear eok he hkl
   go_wp2_with (first|((with_reducible refine wp_region_later (by kernel_rfl) (by kernel_rfl) ?_);(repeat(first|go_big_quiet_step (first|fail)));refine wpQuiet_nil ?_;rintro _ ⟨x,rfl⟩)|((at_builtin;refine wpList_app1X (enc:=encInt) (w0:=z.w) (B:=z.w.heap.size) (z:=.int .i64 0) (size:=1) (bytes:=8) ex.Number rfl (.tmp 22) (.tmp 25) rfl Tryz.underlying48 (by kernel_rfl) rfl (by decide) (by decide) rfl rfl hacc (Own.to hown inferInstance) (by first|(refine blk_alloc _ _ _ ?_;(first|rfl|(simp;done)))|(refine blk_past (blk_alloc _ _ _ ?_);(first|rfl|(simp;done)))|(refine blk_later _ (blk_alloc _ _ _ ?_);(first|rfl|(simp;done)))|(refine blk_later _ (blk_past (blk_alloc _ _ _ ?_));(first|rfl|(simp;done)))|(refine blk_past (blk_past (blk_alloc _ _ _ ?_));(first|rfl|(simp;done)))|assumption) rfl (encInt_one _) (by omega) LeN.out inferInstance LeN.out ?_;intro sa1 sc1 x1 hown1 hgr1)))
   go_roundw
   case rel=>exact⟨k+1,acc++[ex.Number],q+1,sa1,sc1,by go_num,rfl,by simp[hacc],by omega,by omega,HF,hown1,Later.of⟩
   case measure=>simp[intOf];omega
  ·have hkn:k=n1:=by omega
   have HF1:=lH (show acc=m.Space.Board.Orders.map (·.Number)by have:=hf.out;rw[List.take_of_length_le (by have:=HN.out.1;omega)]at this;exact this)
   have hq1:q≤1048576:=by omega
   clear hf hkn
   go_wp2_with (first|((with_reducible refine wp_region_later (by kernel_rfl) (by kernel_rfl) ?_);(repeat(first|go_big_quiet_step (first|fail)));refine wpQuiet_nil ?_;rintro _ ⟨x,rfl⟩))
   go_loopw [4,31] (fun u v wr=>∃ (k:Nat) (acc2:List Int) (q2:Nat) (sa:Option Addr) (sc:Nat),v=.int .i64 k∧u=.slice sa q2 sc∧acc2.length=q2∧k≤n2∧q2≤1048576+k∧Hid (acc2=acc++(m.Space.Board.Done.take k).map (·.Number))∧Own encInt 3 1 z.w.heap.size wr sa sc acc2∧∃ x:Later z.w,wr=x.w) (fun _ v _=>(n2 - intOf v).toNat)
   case atStart=>exact⟨0,acc,q,sa,sc,rfl,rfl,hacc,by omega,by omega,by simp[Hid],hown.to inferInstance,Later.of⟩
   case round =>
    obtain⟨k,acc2,q2,sa,sc,rfl,rfl,hacc2,hk,hqk2,hf,hown,x1,rfl⟩:=hrel
    by_cases h:k<n2
    ·have hkl:k<m.Space.Board.Done.length:=by have:=HN.out.2.1;omega
     obtain⟨eb,eoff,ex,he,ehb,ehd,eok,eh0,eh1,eh2⟩:=F12.out.atTDone hkl
     rw[he]at fD
     (try rw[he])
     have HF:=lH (show acc2++[ex.Number]=acc++(m.Space.Board.Done.take (k+1)).map (·.Number)by rw[map_snoc ehd.out,hf.out,List.append_assoc])
     have EOK:=lH eok;clear eok he hkl
     go_wp2_with (first|((with_reducible refine wp_region_later (by kernel_rfl) (by kernel_rfl) ?_);(repeat(first|go_big_quiet_step (first|fail)));refine wpQuiet_nil ?_;rintro _ ⟨x,rfl⟩)|((at_builtin;refine wpList_app1X (enc:=encInt) (w0:=z.w) (B:=z.w.heap.size) (z:=.int .i64 0) (size:=1) (bytes:=8) ex.Number rfl (.tmp 35) (.tmp 38) rfl Tryz.underlying48 (by kernel_rfl) rfl (by decide) (by decide) rfl rfl hacc2 (Own.to hown inferInstance) (by first|(refine blk_alloc _ _ _ ?_;(first|rfl|(simp;done)))|(refine blk_past (blk_alloc _ _ _ ?_);(first|rfl|(simp;done)))|(refine blk_later _ (blk_alloc _ _ _ ?_);(first|rfl|(simp;done)))|(refine blk_later _ (blk_past (blk_alloc _ _ _ ?_));(first|rfl|(simp;done)))|(refine blk_past (blk_past (blk_alloc _ _ _ ?_));(first|rfl|(simp;done)))|assumption) rfl (encInt_one _) (by omega) LeN.out inferInstance LeN.out ?_;intro sa1 sc1 x1 hown1 hgr1)))
     go_roundw
     case rel=>exact⟨k+1,acc2++[ex.Number],q2+1,sa1,sc1,by go_num,rfl,by simp[hacc2],by omega,by omega,HF,hown1,Later.of⟩
     case measure=>simp[intOf];omega
    ·have HF2:=lH (show acc2=ordNums m by have:=hf.out;rw[List.take_of_length_le (by have:=HN.out.2.1;omega),HF1.out]at this;exact this)
     have hq2:q2≤2097152:=by omega
     clear hf
     have HO:=lH hown.sl;clear hown
     go_wp2_with (first|((with_reducible refine wp_region_later (by kernel_rfl) (by kernel_rfl) ?_);(repeat(first|go_big_quiet_step (first|fail)));refine wpQuiet_nil ?_;rintro _ ⟨x,rfl⟩))
     go_loopw [9,44] (fun u v wr=>∃ (k r:Nat),v=.int .i64 k∧u=.int .i64 r∧k≤n3∧r≤k∧Hid (r=(m.Took.take k).countP isOrd)∧∃ x:Later x1.w,wr=x.w) (fun _ v _=>(n3 - intOf v).toNat)
     case atStart=>exact⟨0,0,rfl,rfl,by omega,by omega,rfl,Later.of⟩
     case round =>
      obtain⟨k,r,rfl,rfl,hk,hr,hf,x2,rfl⟩:=hrel
      by_cases h:k<n3
      ·obtain⟨b,off,s,ha,hb,hd,h0⟩:=F21.out.str (show k<m.Took.length by have:=HN.out.2.2.1;omega)
       rw[ha]at e21
       (try rw[ha])
       have hcs:=countP_snoc hd.out
       clear ha hd
       by_cases hz:0<s.size
       ·have c1:(s.toList == [])=false:=by
         rw[ByteArray.toList_eq]
         have h7:s.data.toList.length=s.size:=Array.length_toList
         cases h8:s.data.toList with
         | nil=>rw[h8]at h7;simp at h7;omega
         | cons _ _=>rfl
        have c2:(s.toList != [])=true:=by rw[bne,c1];rfl
        have j0:(0:Int)<s.size:=by omega
        by_cases g0:s[0].toNat=0
        ·have HF:=lH (show r+1=(m.Took.take (k+1)).countP isOrd by rw[hcs,← hf.out,if_pos (by rw[isOrd,dif_pos hz,decide_eq_true g0])])
         clear hcs hf
         go_wp2_with (first|((with_reducible refine wp_region_later (by kernel_rfl) (by kernel_rfl) ?_);(repeat(first|go_big_quiet_step (first|fail)|simp only[c2]|simp only[c1]));refine wpQuiet_nil ?_;rintro _ ⟨x,rfl⟩))
         go_roundw
         case rel=>exact⟨k+1,r+1,by go_num,by go_num,by omega,by omega,HF,Later.of⟩
         case measure=>simp[intOf];omega
        ·have HF:=lH (show r=(m.Took.take (k+1)).countP isOrd by rw[hcs,← hf.out,if_neg (by rw[isOrd,dif_pos hz,decide_eq_false g0];simp)];rfl)
         have c3:(((s[0].toNat:Nat):Int) == 0)=false:=by simp;omega
         clear hcs hf
         go_wp2_with (first|((with_reducible refine wp_region_later (by kernel_rfl) (by kernel_rfl) ?_);(repeat(first|go_big_quiet_step (first|fail)|simp only[c2]|simp only[c1]|simp only[c3]));refine wpQuiet_nil ?_;rintro _ ⟨x,rfl⟩))
         go_roundw
         case rel=>exact⟨k+1,r,by go_num,by go_num,by omega,by omega,HF,Later.of⟩
         case measure=>simp[intOf];omega
       ·have c1:(s.toList == [])=true:=by
         rw[ByteArray.toList_eq]
         have h7:s.data.toList.length=s.size:=Array.length_toList
         cases h8:s.data.toList with
         | nil=>rfl
         | cons _ _=>rw[h8]at h7;simp at h7;omega
        have c2:(s.toList != [])=false:=by rw[bne,c1];rfl
        have HF:=lH (show r=(m.Took.take (k+1)).countP isOrd by rw[hcs,← hf.out,if_neg (by rw[isOrd,dif_neg hz];simp)];rfl)
        clear hcs hf
        go_wp2_with (first|((with_reducible refine wp_region_later (by kernel_rfl) (by kernel_rfl) ?_);(repeat(first|go_big_quiet_step (first|fail)|simp only[c2]|simp only[c1]));refine wpQuiet_nil ?_;rintro _ ⟨x,rfl⟩))
        go_roundw
        case rel=>exact⟨k+1,r,by go_num,by go_num,by omega,by omega,HF,Later.of⟩
        case measure=>simp[intOf];omega
      ·have HF3:=lH (show ordersOnce m=(once acc2 t && (t == (r:Int)))by
        have:=hf.out
        rw[List.take_of_length_le (by have:=HN.out.2.2.1;omega)]at this
        rw[ordersOnce,HF2.out,HN.out.2.2.2,this])
       clear hf
       cases c5:once acc2 t
       ·go_wp2_with (first|((with_reducible refine wp_region_later (by kernel_rfl) (by kernel_rfl) ?_);(repeat(first|go_big_quiet_step (first|fail)));refine wpQuiet_nil ?_;rintro _ ⟨x,rfl⟩))
        refine(c_ieachOnce (HO.out.to inferInstance) hacc2 (by omega)).mono ?_
        rintro _ _ ⟨rfl,y9,rfl⟩
        go_wp2_with (first|((with_reducible refine wp_region_later (by kernel_rfl) (by kernel_rfl) ?_);(repeat(first|go_big_quiet_step (first|fail)|simp only[c5]));refine wpQuiet_nil ?_;rintro _ ⟨x,rfl⟩))
        go_ret
        exact Gives.mk (by rw[HF3.out,c5];rfl)
       ·go_wp2_with (first|((with_reducible refine wp_region_later (by kernel_rfl) (by kernel_rfl) ?_);(repeat(first|go_big_quiet_step (first|fail)));refine wpQuiet_nil ?_;rintro _ ⟨x,rfl⟩))
        refine(c_ieachOnce (HO.out.to inferInstance) hacc2 (by omega)).mono ?_
        rintro _ _ ⟨rfl,y9,rfl⟩
        go_wp2_with (first|((with_reducible refine wp_region_later (by kernel_rfl) (by kernel_rfl) ?_);(repeat(first|go_big_quiet_step (first|fail)|simp only[c5]));refine wpQuiet_nil ?_;rintro _ ⟨x,rfl⟩))
        go_ret
        exact Gives.mk (by rw[HF3.out,c5];rfl)
end Go.Proofs.YtbaffippdifbpaaGreat
