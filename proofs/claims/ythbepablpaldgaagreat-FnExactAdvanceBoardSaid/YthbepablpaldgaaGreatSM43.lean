/- KeepRecord of the program. No condition but on sizes. -/
import Derived.Test.YthbepablpaldgaaGreatSKp0
import Derived.Test.YthbepablpaldgaaGreatSM38
import Derived.Test.YthbepablpaldgaaGreatSM20
import Derived.Test.YthbepablpaldgaaGreatSM26
import Derived.Deep.CutRange
import Derived.Test.YthbepablpaldgaaGreatSCopyS
import Derived.Test.YthbepablpaldgaaGreatSStab5
import Derived.Deep.CutBlock
namespace Go.Proofs.YthbepablpaldgaaGreat
set_option maxRecDepth 100000
set_option maxHeartbeats 4000000
set_option linter.unusedVariables false
open Go.ChangeShapes Go.WideShapes Go.ChangeAt Go.RowKit
private abbrev uu197:=Tryz.underlying197
private abbrev uu46:=Tryz.underlying46
private abbrev uu73:=Tryz.underlying73
private abbrev uu82:=Tryz.underlying82
theorem c_iRoomLeftN{B n n2:Nat}{a a2:Option Addr}{c c2:Nat}{rr:TRecorder}{w0 w:World}(hs0:RdS B w0 a c rr.Records:=by exact sd)(hs20:RdS B w0 a2 c2 rr.Dropped:=by exact sd)[g:Keeps B w0 w](hn:rr.Records.length=n:=by exact sd)(hn2:rr.Dropped.length=n2:=by exact sd)(hm:n≤100000000:=by exact sd)(hm2:n2≤100000000:=by exact sd) :
  Calls Tryz.prog 280 #[.agg #[.int .i64 rr.Room,.slice a n c,.slice a2 n2 c2]] w (Gives w (.int .i64 (roomLeft rr))):=by
 subst hn hn2
 exact c_iRoomLeft (hs0.keep g) (hs20.keep g) hm hm2
theorem keepNow_cases(rr:TRecorder)(rx:TRecord):(recorderOk rr=false∧keepNow rr rx=false)∨(recorderOk rr=true∧recordOk rx=false∧keepNow rr rx=false)∨(recorderOk rr=true∧recordOk rx=true∧rr.Records=[]∧keepNow rr rx=true) ∨
  (∃ (k:Nat) (y:TRecord),recorderOk rr=true∧recordOk rx=true∧rr.Records.length=k+1∧rr.Records[k]?=some y∧keepNow rr rx=decide (y.Id<rx.Id)):=by
 cases c0:recorderOk rr
 ·exact .inl ⟨rfl,by rw[keepNow,c0];rfl⟩
 cases c1:recordOk rx
 ·exact .inr (.inl ⟨rfl,rfl,by rw[keepNow,c0,c1];rfl⟩)
 rcases Nat.eq_zero_or_pos rr.Records.length with h|h
 ·have h0:=List.length_eq_zero_iff.1 h
  exact .inr (.inr (.inl ⟨rfl,rfl,h0,by rw[keepNow,c0,c1,h0];rfl⟩))
 ·obtain⟨k,hk⟩:∃ k,rr.Records.length=k+1:=⟨rr.Records.length - 1,by omega⟩
  obtain⟨y,hy⟩:∃ y,rr.Records[k]?=some y:=⟨_,List.getElem?_eq_getElem (by omega)⟩
  refine .inr (.inr (.inr ⟨k,y,rfl,rfl,hk,hy,?_⟩))
  rw[keepNow,c0,c1,List.getLast?_eq_getElem?,hk,Nat.add_sub_cancel,hy];rfl
theorem or_len{B:Nat}{w:World}{vs:List Value}{r:TRecorder}(h:Enc.Rd B w vs r):vs.length=3:=Enc.len h
theorem or_one{B:Nat}{w:World}{vs:List Value}{r:TRecorder}(h:Enc.Rd B w vs r):vs.all (·.oneCell')=true:=by
 obtain⟨a,c,a2,c2,rfl,-⟩:=h;rfl
theorem keepGo_next{room need p:Int}:∀ {n:Nat} {l:List TRecord} {d:List Int} {r:List TRecord × List Int},keepGo room need p n l d=some r→¬ used l+need≤room→∃ n' y,n=n'+1∧minTo l l.length<l.length∧l[minTo l l.length]?=some y∧keepGo room need p n' (l.eraseIdx (minTo l l.length)) (d++[y.Id])=some r
 | 0,l,d,r,h,hu=>by rw[keepGo,if_neg hu]at h;cases h
 | n+1,l,d,r,h,hu=>by
  rw[keepGo,if_neg hu]at h
  split at h
  ·cases h
  ·rename_i h1
   obtain⟨h2,h3⟩:=minTo_least h1
   rw[h2,Int.toNat_natCast]at h
   split at h
   ·rename_i y hy
    exact⟨n,y,rfl,h3,hy,h⟩
   ·cases h
theorem keepGo_done{room need p:Int}{n:Nat}{l:List TRecord}{d:List Int}{r:List TRecord × List Int}(h:keepGo room need p n l d=some r)(hu:used l+need≤room):r=(l,d):=by
 cases n<;>(rw[keepGo,if_pos hu]at h;cases h;rfl)
theorem c_ileastRecordN{B n j:Nat}{a:Option Addr}{c:Nat}{l:List TRecord}{w0 w:World}(hs0:RdS B w0 a c l:=by exact sd)[g:Keeps B w0 w](hn:l.length=n:=by exact sd)(hm:n≤100000000:=by exact sd)(hj:minTo l l.length=j:=by exact sd) :
  Calls Tryz.prog 281 #[.slice a n c] w (Gives w (.int .i64 j)):=by
 subst hn hj
 exact c_ileastRecord (hs0.keep g) hm
theorem erase_len{α:Type}{l:List α}{n j:Nat}(h:l.length=n)(hj:j<n):(l.eraseIdx j).length=n - 1:=by rw[List.length_eraseIdx,h,if_pos hj]
theorem grown_later{w0 W W2:World}{row:Option Nat}(g:Grows w0 W)(h:W.grownBy W2 row)(hr:∀ k,row=some k→w0.heap.size≤k):∃ z:Later w0,W2=z.w :=
 ⟨⟨W2,h.os.trans g.out.os,h.tape.trans g.out.tape,h.output.trans g.out.output,Nat.le_trans g.out.size h.size,fun k hk=>(h.block k (Nat.lt_of_lt_of_le hk g.out.size) (fun e=>by have:=hr k e.symm;omega)).trans (g.out.block k hk)⟩,rfl⟩
theorem o_iKeepRecord{B:Nat}{vs:List Value}{rr:TRecorder}{rx:TRecord}{w:World}(h:Enc.Rd B w vs rr)(hx:okDTRecord rx)(ht:Enc.tot rr≤50000000) :
  Calls Tryz.prog 269 #[.agg vs.toArray,.agg #[.int .i64 rx.Id,.int .i64 rx.Priority,.int .i64 rx.Time,.string rx.Data]] w (GivesO w (keepRecord rr rx)):=by
 have HM:=lH h
 obtain⟨a,c,a2,c2,rfl,hs,hs2,hok⟩:=h
 rw[recorder_tot]at ht
 have h0:=totL_len rr.Records
 have HT:=lH (show Enc.tot rr≤100000000 by rw[recorder_tot];omega)
 obtain⟨n,hn⟩:∃ n,rr.Records.length=n:=⟨_,rfl⟩
 obtain⟨n2,hn2⟩:∃ n,rr.Dropped.length=n:=⟨_,rfl⟩
 have hm:n≤50000000:=by omega
 have hm2:n2≤50000000:=by omega
 have hnn:n+n2≤50000000:=by omega
 rw[hn,hn2]at HM ⊢
 have HN:=lH hn;have HN2:=lH hn2
 have hzx:rx.Data.size≤9223372036854775807:=hx.2.2.2.1
 clear ht h0
 have HS:=lH hs;have HS2:=lH hs2;clear hs hs2
 have HB:=lH ((Held.new w [.int .i64 rr.Room,.slice a n c,.slice a2 n2 c2] 82 w.heap.size rfl).to (ii:Grows _ (((w.alloc (.cells #[.int .i64 rr.Room,.slice a n c,.slice a2 n2 c2] 82)).alloc (.cells #[.int .i64 rx.Id,.int .i64 rx.Priority,.int .i64 rx.Time,.string rx.Data] 197)).alloc (.cells #[.int .i64 0,.slice none 0 0,.slice none 0 0] 82))))
 have HX:=lH ((Held.new (w.alloc (.cells #[.int .i64 rr.Room,.slice a n c,.slice a2 n2 c2] 82)) [.int .i64 rx.Id,.int .i64 rx.Priority,.int .i64 rx.Time,.string rx.Data] 197 (w.heap.size+1) (by simp)).to (ii:Grows _ (((w.alloc (.cells #[.int .i64 rr.Room,.slice a n c,.slice a2 n2 c2] 82)).alloc (.cells #[.int .i64 rx.Id,.int .i64 rx.Priority,.int .i64 rx.Time,.string rx.Data] 197)).alloc (.cells #[.int .i64 0,.slice none 0 0,.slice none 0 0] 82))))
 have HR:=lH (Held.new ((w.alloc (.cells #[.int .i64 rr.Room,.slice a n c,.slice a2 n2 c2] 82)).alloc (.cells #[.int .i64 rx.Id,.int .i64 rx.Priority,.int .i64 rx.Time,.string rx.Data] 197)) [.int .i64 0,.slice none 0 0,.slice none 0 0] 82 (w.heap.size+2) (by simp))
 go_enter Tryz.func269,Tryz.ntmps269
 go_wp2_with (first|((with_reducible refine rl ?_);refine rq ?_;intro x))
 go_cut [38]from 15 (fun s wx=>s=.bool (!keepNow rr rx)∧∃ y:Later (((w.alloc (.cells #[.int .i64 rr.Room,.slice a n c,.slice a2 n2 c2] 82)).alloc (.cells #[.int .i64 rx.Id,.int .i64 rx.Priority,.int .i64 rx.Time,.string rx.Data] 197)).alloc (.cells #[.int .i64 0,.slice none 0 0,.slice none 0 0] 82)),wx=y.w)
 case first =>
  have hs:=HS.out;have hs2:=HS2.out
  rcases keepNow_cases rr rx with⟨c0,hk⟩|⟨c0,c1,hk⟩|⟨c0,c1,hl,hk⟩|⟨k,y,c0,c1,hl,hy,hk⟩
  ·have HK:=lH hk;clear hk
   go_wp2_with (first|((with_reducible refine rl ?_);(repeat(first|go_big_quiet_step (first|(go_at_call 222;exact Gives.quiet (k_iRecorderOkN))|(go_at_call 267;exact Gives.quiet (k_iRecordOk (by omega))))|simp only[c0]));refine wpQuiet_nil ?_;intro x)|(go_at_call 222;refine gm (k_iRecorderOkN) ?_;intro x)|(go_at_call 267;refine gm (k_iRecordOk (by omega)) ?_;intro x))
   go_meet
   case rel=>exact⟨by rw[HK.out];rfl,Later.of⟩
  ·have HK:=lH hk;clear hk
   go_wp2_with (first|((with_reducible refine rl ?_);(repeat(first|go_big_quiet_step (first|(go_at_call 222;exact Gives.quiet (k_iRecorderOkN))|(go_at_call 267;exact Gives.quiet (k_iRecordOk (by omega))))|simp only[c0]|simp only[c1]));refine wpQuiet_nil ?_;intro x)|(go_at_call 222;refine gm (k_iRecorderOkN) ?_;intro x)|(go_at_call 267;refine gm (k_iRecordOk (by omega)) ?_;intro x))
   go_meet
   case rel=>exact⟨by rw[HK.out];rfl,Later.of⟩
  ·have HK:=lH hk;clear hk
   obtain rfl:n=0:=by rw[← hn,hl];rfl
   clear hl
   go_wp2_with (first|((with_reducible refine rl ?_);(repeat(first|go_big_quiet_step (first|(go_at_call 222;exact Gives.quiet (k_iRecorderOkN))|(go_at_call 267;exact Gives.quiet (k_iRecordOk (by omega))))|simp only[c0]|simp only[c1]));refine wpQuiet_nil ?_;intro x)|(go_at_call 222;refine gm (k_iRecorderOkN) ?_;intro x)|(go_at_call 267;refine gm (k_iRecordOk (by omega)) ?_;intro x))
   go_meet
   case rel=>exact⟨by rw[HK.out];rfl,Later.of⟩
  ·have HK:=lH hk;clear hk
   obtain rfl:n=k+1:=by rw[← hn,hl]
   clear hl
   obtain⟨eb,eoff,es,rfl,ehb,ehd,eok,eh0,eh1,eh2,eh3⟩:=hs.atTRecord (show k<rr.Records.length by rw[hn];omega)
   obtain rfl:es=y:=by
    have:=congrArg (fun m=>m[0]?) ehd.out
    simp only[List.getElem?_drop,Nat.add_zero,hy]at this
    simpa using this.symm
   clear hy eh1 eh2 eh3 eok
   cases c3:decide (rx.Id≤es.Id)
   ·have HK2:=lH (show keepNow rr rx=true by rw[HK.out];have:=of_decide_eq_false c3;exact decide_eq_true (by omega))
    go_wp2_with (first|((with_reducible refine rl ?_);(repeat(first|go_big_quiet_step (first|(go_at_call 222;exact Gives.quiet (k_iRecorderOkN))|(go_at_call 267;exact Gives.quiet (k_iRecordOk (by omega))))|simp only[c0]|simp only[c1]|simp only[c3]));refine wpQuiet_nil ?_;intro x)|(go_at_call 222;refine gm (k_iRecorderOkN) ?_;intro x)|(go_at_call 267;refine gm (k_iRecordOk (by omega)) ?_;intro x))
    go_meet
    case rel=>exact⟨by rw[HK2.out];rfl,Later.of⟩
   ·have HK2:=lH (show keepNow rr rx=false by rw[HK.out];have:=of_decide_eq_true c3;exact decide_eq_false (by omega))
    go_wp2_with (first|((with_reducible refine rl ?_);(repeat(first|go_big_quiet_step (first|(go_at_call 222;exact Gives.quiet (k_iRecorderOkN))|(go_at_call 267;exact Gives.quiet (k_iRecordOk (by omega))))|simp only[c0]|simp only[c1]|simp only[c3]));refine wpQuiet_nil ?_;intro x)|(go_at_call 222;refine gm (k_iRecorderOkN) ?_;intro x)|(go_at_call 267;refine gm (k_iRecordOk (by omega)) ?_;intro x))
    go_meet
    case rel=>exact⟨by rw[HK2.out];rfl,Later.of⟩
 case rest =>
  obtain⟨rfl,y0,rfl⟩:=hcut
  cases hk:keepNow rr rx
  ·have HK:=lH (show keepRecord rr rx=rr by rw[keepRecord,hk];rfl)
   clear hk
   go_wp2_with (first|((with_reducible refine rl ?_);refine rq ?_;intro x)|(refine stepLoad rfl _ (.tmp 2) rfl (w.heap.size) 0 rfl (row:=[.int .i64 rr.Room,.slice a n c,.slice a2 n2 c2]) (HB.out.to ii) _ uu82 rfl kr rfl ?_))
   refine(o_cloneRecorder (x:=rr) (Enc.keep HM.out ii) HT.out).mono ?_
   rintro _ _ ⟨cs,χ,rfl,hO,y1,rfl⟩
   have HLC:=lH (or_len (EncO.toRd hO));have HOC:=lH (or_one (EncO.toRd hO));have HO:=lH hO;clear hO
   go_wp2_with (first|((with_reducible refine rl ?_);refine rq ?_;intro x)|(refine sW rfl _ _ _ rfl (w.heap.size+2) rfl (us:=cs) (HR.out.to ii) HLC HOC (w0:=((w.alloc (.cells #[.int .i64 rr.Room,.slice a n c,.slice a2 n2 c2] 82)).alloc (.cells #[.int .i64 rx.Id,.int .i64 rx.Priority,.int .i64 rx.Time,.string rx.Data] 197))) ii (by simp) ?_;intro z9 HX9 KX9))
   refine bodyPost_ret (v:=.agg cs.toArray) (results_cell (P:=Tryz.prog) rfl rfl HX9.out _ uu82 rfl (by rw[HLC.out];kernel_rfl)) rfl ?_
   rw[HK.out]
   exact⟨cs,χ,rfl,obox_fin HO.out KX9.out (LtN.out) (LeN.out),Later.of⟩
  have HKN:=lH hk
  rw[keepNow,Bool.and_eq_true,Bool.and_eq_true]at hk
  have HRO:=lH hk.1
  have HXO:=lH hk.2.1
  have HALL:=lH (recorderOk_parts hk.1).2.2.2.2
  have hrl:roomLeft rr=rr.Room - used rr.Records:=by rw[roomLeft,hk.1];rfl
  have HRL:=lH hrl
  have hzx34:=recordOk_size hk.2.1
  clear hrl hk
  go_wp2_with (first|((with_reducible refine rl ?_);refine rq ?_;intro x)|(refine stepLoad rfl _ (.tmp 2) rfl (w.heap.size) 0 rfl (row:=[.int .i64 rr.Room,.slice a n c,.slice a2 n2 c2]) (HB.out.to ii) _ uu82 rfl kr rfl ?_))
  refine(o_cloneRecorder (x:=rr) (Enc.keep HM.out ii) HT.out).mono ?_
  rintro _ _ ⟨cs,χ,rfl,hO,y1,rfl⟩
  have HLC:=lH (or_len (EncO.toRd hO));have HOC:=lH (or_one (EncO.toRd hO));have HO:=lH hO;clear hO
  go_wp2_with (first|((with_reducible refine rl ?_);refine rq ?_;intro x)|(refine sW rfl _ _ _ rfl _ rfl (us:=cs) (Held.new _ [.int .i64 0,.slice none 0 0,.slice none 0 0] 82 _ rfl) HLC HOC (w0:=y0.w) ii LeN.out ?_;intro z1 HX1 KX1))
  (try simp only[Act.put])
  obtain⟨qb,hqb⟩:∃ qb,(y0.andThen y1).w.heap.size=qb:=⟨_,rfl⟩
  rw[hqb]
  have HG:=lH (show GB (fun _=>False) y0.w.heap.size qb z1.w rr from hqb▸GB.of HO.out (KX1.out.under ii nl) y1.size_le HX1.out)
  have hqB:y0.w.heap.size≤qb:=HG.out.le
  have hqlt:LtN qb z1.w.heap.size:=⟨HG.out.lt⟩
  clear hqb HX1 KX1 HO HLC HOC
  have e0:=HB.out.cellG 0 _ rfl
  have e1:=HB.out.cellG 1 _ rfl
  have e2:=HB.out.cellG 2 _ rfl
  have f0:=HX.out.cellG 0 _ rfl
  have f1:=HX.out.cellG 1 _ rfl
  have f2:=HX.out.cellG 2 _ rfl
  have f3:=HX.out.cellG 3 _ rfl
  have hs:=HS.out;have hs2:=HS2.out
  go_wp2_with (first|((with_reducible refine rl ?_);(repeat(first|go_big_quiet_step (first|(go_at_call 280;exact Gives.quiet (c_iRoomLeftN)))));refine wpQuiet_nil ?_;intro x)|(go_at_call 280;refine gm (c_iRoomLeftN) ?_;intro x))
  rw[HRL.out]
  have hro:=recorderOk_parts HRO.out
  have HA:=lH hro.2.2.2.2
  have hq1:=lesser_le (p:=rx.Priority) rr.Records
  obtain⟨L,hL⟩:∃ L,rr.Room - used rr.Records=L:=⟨_,rfl⟩
  obtain⟨M,hM⟩:∃ M,L+lesser rx.Priority rr.Records=M:=⟨_,rfl⟩
  have hL0:0≤L:=by omega
  have hM4:L≤M∧M≤4000:=by omega
  rw[hL]
  have HL:=lH hL;have HMM:=lH hM
  clear hq1 hro hL hM
  go_loopw [8,50] (fun u v wr=>∃ (k:Nat) (m:Int),v=.int .i64 k∧u=.int .i64 m∧k≤n∧0≤m∧m≤4000∧Hid (m+lesser rx.Priority (rr.Records.drop k)=M)∧∃ y:Later z1.w,wr=y.w) (fun _ v _=>(n - intOf v).toNat)
  case atStart=>exact⟨0,L,rfl,rfl,by omega,hL0,by omega,HMM,Later.of⟩
  case round =>
   obtain⟨k,m,rfl,rfl,hk,hm0,hm1,HV,y,rfl⟩:=hrel
   by_cases h:k<n
   ·obtain⟨eb,eoff,es,rfl,ehb,ehd,eok,eh0,eh1,eh2,eh3⟩:=hs.atTRecord (show k<rr.Records.length by have:=HN.out;omega)
    have hz:es.Data.size≤34:=recordOk_size (List.all_eq_true.1 HA.out es (memDrop ehd.out))
    have EOK:=lH eok;clear eok
    have hlr:=lesser_le (p:=rx.Priority) (rr.Records.drop (k+1))
    cases c1:decide (es.Priority<rx.Priority)
    ·have HF:=lH (show m+lesser rx.Priority (rr.Records.drop (k+1))=M by have:=HV.out;rw[ehd.out,lesser,if_neg (of_decide_eq_false c1)]at this;omega)
     go_wp2_with (first|((with_reducible refine rl ?_);(repeat(first|go_big_quiet_step (first|fail)|simp only[c1]));refine wpQuiet_nil ?_;intro x))
     go_roundw
     case rel=>exact⟨k+1,m,by go_num,rfl,by omega,by omega,by omega,HF,Later.of⟩
     case measure=>simp[intOf];omega
    ·have HF:=lH (show m+(6+(es.Data.size:Int))+lesser rx.Priority (rr.Records.drop (k+1))=M by have:=HV.out;rw[ehd.out,lesser,if_pos (of_decide_eq_true c1)]at this;unfold recSize at this;omega)
     have hm2':m+(6+(es.Data.size:Int))≤4000:=by have:=HF.out;omega
     go_wp2_with (first|((with_reducible refine rl ?_);(repeat(first|go_big_quiet_step (first|(go_at_call 268;exact Gives.quiet (k_irecordSize (by omega))))|simp only[c1]));refine wpQuiet_nil ?_;intro x)|(go_at_call 268;refine gm (k_irecordSize (by omega)) ?_;intro x))
     go_roundw
     case rel=>exact⟨k+1,m+(6+(es.Data.size:Int)),by go_num,by go_num,by omega,by omega,hm2',HF,Later.of⟩
     case measure=>simp[intOf];omega
   ·obtain rfl:m=M:=by have:=HV.out;rw[List.drop_of_length_le (by have:=HN.out;omega),lesser]at this;omega
    clear HV
    have kc:decide ((k:Int)<(n:Int))=false:=by simp;omega
    go_upto_if 67 with((first|((with_reducible refine rl ?_);(repeat(first|go_big_quiet_step (first|(go_at_call 268;exact Gives.quiet (k_irecordSize (by omega))))|simp only[kc]));refine wpQuiet_nil ?_;intro x)|(go_at_call 268;refine gm (k_irecordSize (by omega)) ?_;intro x)))
    clear e0 e2 f1 f2 hm0 hm1 HA HS2 hs2
    go_cut []from 64 (fun wx=>GB (fun _=>False) y0.w.heap.size qb wx (keepRes rr rx)∧∃ y:Later y0.w,wx=y.w)
    case first =>
     have hkg:=keepGo_none (room:=rr.Room) (need:=recSize rx) (p:=rx.Priority) rr.Records.length rr.Records rr.Dropped nl
     obtain⟨sa,sc,ec,hown,hgood,-⟩:=HG.out.own fRecorderDropped
     have HEC:=lH (ec z1.w)
     have ec2:∀ (W:World) [Grows z1.w W],W.cell? ⟨qb,2,none⟩=some (.slice sa n2 sc):=fun W g=>HN2.out▸ec W
     cases c2:decide (m<6+(rx.Data.size:Int))
     ·obtain⟨⟨l1,d1⟩,hkg1⟩:∃ r,keepGo rr.Room (recSize rx) rx.Priority rr.Records.length rr.Records rr.Dropped=some r:=Option.ne_none_iff_exists'.1 (fun e=>by have h1:=hkg.1 e;have:=of_decide_eq_false c2;have:=HL.out;have:=HMM.out;unfold recSize at h1;omega)
      have HKR:=lH (show keepRes rr rx={ rr with Records:=l1++[rx],Dropped:=d1 } by rw[keepRes,hkg1])
      have HKG:=lH hkg1
      have HROM:=lH (recorderOk_parts HRO.out).2.1
      clear hkg hkg1 ec ec2 hown hgood HEC
      go_wp2_with (first|((with_reducible refine rl ?_);(repeat(first|go_big_quiet_step (first|fail)|simp only[c2]));refine wpQuiet_nil ?_;intro x))
      go_loopw [7] (fun u wr=>∃ (l:List TRecord) (d:List Int) (fuel:Nat) (mm:Int),u=.int .i64 mm∧Hid (mm=rr.Room - used l)∧0≤mm∧mm≤4000∧Hid (keepGo rr.Room (recSize rx) rx.Priority fuel l d=some (l1,d1))∧l.length+d.length=n+n2∧Hid (l.all recordOk=true)∧Hid (GB (fun _=>False) y0.w.heap.size qb wr { rr with Records:=l,Dropped:=d })∧∃ y:Later y0.w,wr=y.w) (fun u _=>(4000 - intOf u).toNat)
      case atStart=>exact⟨rr.Records,rr.Dropped,_,L,rfl,HL.out.symm,hL0,by omega,HKG,by rw[HN.out,HN2.out],HALL,HG.out.to ii,Later.of⟩
      case round =>
       obtain⟨l,d,fuel,mm,rfl,HMV,hmm0,hmm1,HK1,hlen,HLA,HGR,y,rfl⟩:=hrel
       obtain⟨ln,hln⟩:∃ k,l.length=k:=⟨_,rfl⟩
       obtain⟨dn,hdn⟩:∃ k,d.length=k:=⟨_,rfl⟩
       rw[hln,hdn]at hlen
       have HLN:=lH hln;have HDN:=lH hdn
       cases c4:decide (mm<6+(rx.Data.size:Int))
       ·have hres:=keepGo_done HK1.out (by have:=of_decide_eq_false c4;have:=HMV.out;unfold recSize;omega)
        cases hres
        obtain⟨sa,sc,ec,hown,hgood,-⟩:=HGR.out.own fRecorderRecords
        have HEC:=lH (ec y.w)
        have ec2:∀ (W:World) [Grows y.w W],W.cell? ⟨qb,1,none⟩=some (.slice sa ln sc):=fun W g=>HLN.out▸ec W
        clear ec hgood
        go_wp2_with (first|((with_reducible refine rl ?_);(repeat(first|go_big_quiet_step (first|(go_at_call 268;exact Gives.quiet (k_irecordSize (by omega))))|simp only[c4]));refine wpQuiet_nil ?_;intro x)|(go_at_call 268;refine gm (k_irecordSize (by omega)) ?_;intro x)|(at_builtin;refine wpList_app1F (enc:=encTRecord) (w0:=y0.w) (z:=.agg #[.int .i64 0,.int .i64 0,.int .i64 0,.string ⟨#[]⟩]) (size:=4) (bytes:=40) (rx) rfl (.tmp 109) (.tmp 111) rfl uu73 kr rfl (by decide) (by decide) rfl rfl HLN.out (hown.to ii) bk rfl (encTRecord_one _) (by omega) LeN.out ii nl ?_;intro sa3 sc3 xa3 hown1 hgr1 hblk1;have hp3:=(GBp.app (F:=fRecorderRecords) HGR.out HEC.out ii hown1 hgr1 hblk1 hx).1;clear hown1 hgr1 hblk1)|(refine step_gbN (app_len HLN.out) rfl _ _ _ rfl hp3 rfl rfl kr ii nl ?_;intro z3 hz3))
        go_meet
        case rel=>exact⟨by rw[HKR.out];exact hz3,Later.of⟩
       ·obtain⟨fuel2,ys,rfl,hjl,hy,hk2⟩:=keepGo_next HK1.out (by have:=of_decide_eq_true c4;have:=HMV.out;unfold recSize;omega)
        obtain⟨j,hj⟩:∃ j,minTo l l.length=j:=⟨_,rfl⟩
        rw[hj,hln]at hjl;rw[hj]at hy hk2
        have HK2:=lH hk2;have HJ:=lH hj;clear hk2
        obtain⟨sa,sc,ec,-,hgood,hrd⟩:=HGR.out.own fRecorderRecords
        obtain⟨sb,sD,ed,hownd,-,-⟩:=HGR.out.own fRecorderDropped
        have HED:=lH (ed y.w)
        have ec2:∀ (W:World) [Grows y.w W],W.cell? ⟨qb,1,none⟩=some (.slice sa ln sc):=fun W g=>HLN.out▸ec W
        have ed2:∀ (W:World) [Grows y.w W],W.cell? ⟨qb,2,none⟩=some (.slice sb dn sD):=fun W g=>HDN.out▸ed W
        have hrdl:RdS y0.w.heap.size y.w sa sc l:=hrd
        have hyok:=hgood ys (List.mem_of_getElem? hy)
        obtain⟨eb,eoff,es,rfl,ehb,ehd,eok,eh0,eh1,eh2,eh3⟩:=hrdl.atTRecord (show j<l.length by omega)
        obtain rfl:es=ys:=by
         have:=congrArg (fun m=>m[0]?) ehd.out
         simp only[List.getElem?_drop,Nat.add_zero,hy]at this
         simpa using this.symm
        have hz:es.Data.size≤34:=recordOk_size (List.all_eq_true.1 HLA.out es (List.mem_of_getElem? hy))
        have HUS:=lH (used_erase l j es hy)
        have HALL2:=lH (show(l.eraseIdx j).all recordOk=true from List.all_eq_true.2 fun q hq=>List.all_eq_true.1 HLA.out q ((List.eraseIdx_sublist l j).subset hq))
        have hmm2:mm+(6+(es.Data.size:Int))≤4000:=by have h1:=HUS.out;have h2:=used_nonneg (l.eraseIdx j);have h3:=HMV.out;have h4:=HROM.out;unfold recSize at h1;omega
        have HYID:=lH hyok.1
        clear ec ed hgood hrd eok hyok hj hy
        go_upto_region 16 with((first|((with_reducible refine rl ?_);(repeat(first|go_big_quiet_step (first|(go_at_call 268;exact Gives.quiet (k_irecordSize (by omega)))|(go_at_call 281;exact Gives.quiet (c_ileastRecordN)))|simp only[c4]));refine wpQuiet_nil ?_;intro x)|(go_at_call 268;refine gm (k_irecordSize (by omega)) ?_;intro x)|(go_at_call 281;refine gm (c_ileastRecordN) ?_;intro x)))
        go_cut [7]from 82 to 107 (fun s wx=>s=.int .i64 (mm+(6+(es.Data.size:Int)))∧∃ V:Later y.w,wx=V.w)
        case first =>
         go_wp2_with (first|((with_reducible refine rl ?_);(repeat(first|go_big_quiet_step (first|(go_at_call 268;exact Gives.quiet (k_irecordSize (by omega))))));refine wpQuiet_nil ?_;intro x)|(go_at_call 268;refine gm (k_irecordSize (by omega)) ?_;intro x))
         go_meet
         case rel=>exact⟨by go_num,Later.of⟩
        case rest =>
         obtain⟨rfl,V,rfl⟩:=hcut
         clear eh1 eh2 eh3
         go_upto_region 17 with((first|((with_reducible refine rl ?_);refine rq ?_;intro x)))
         refine wp_region_stabZ kr (T:=[9,10,11]) (Zs:=[]) (H:=[(1,[]),(3,[]),(5,[]),(7,[]),(8,[])]) (C:=[8]) (Fs:=[(some 90,.v (.pointer (some ⟨qb,2,none⟩))),(some 91,.v (.slice sb dn sD)),(some 92,.v (.pointer (some ⟨qb,1,none⟩))),(some 93,.v (.slice (some ⟨eb,eoff,none⟩) ln sc)),(some 94,.v (.int .i64 j)),(some 95,.v (.pointer (some ⟨eb,eoff+j*4,none⟩))),(some 96,.v (.pointer (some ⟨eb,eoff+j*4,none⟩))),(some 97,.v (.int .i64 es.Id)),(some 98,.sl V.w.heap.size 1 [.int .i64 es.Id] 3),(none,.v undef),(none,.v undef),(none,.v undef)]) kr (fun val W=>by kernel_rfl) ?ob17 ?lz17 ?pn17 ?tl17
         case ob17 =>
          refine⟨fun x=>?_,fun x=>?_,fun x=>?_,fun x=>?_,fun x=>?_,trivial⟩
          ·exact g_cell (ed2 x.w) rfl kr _ uu46 rfl
          ·exact g_cell (ec2 x.w) rfl kr _ uu73 rfl
          ·exact g_ix (size:=4) (o:=eoff) (j:=j) (n:=ln) (c:=sc) rfl kr uu73 kr hjl
          ·exact g_cell (eh0 x.w) rfl kr _ Tryz.underlying3 rfl
          ·exact g_sl rfl kr LeN.out
         case lz17 =>
          exact trivial
         case pn17=>exact fun _ _ _ _ _ _ h=>h
         case tl17 =>
          intro x
          refine chain1 fun v8 q8=>?_
          obtain⟨bs,rfl,hbs,hH⟩:=(show ∃ b,v8=.slice (some ⟨b,0,none⟩) 1 1∧V.w.heap.size≤b∧Held x.w b [.int .i64 es.Id] 3 from q8)
          clear q8
          refine tail3 rfl rfl rfl ?_
          simp only[put_nrm,put_nrm2]
          simp only[nrm,if_true]
          have gx:Grows y.w x.w:=growsTr (ii:Grows y.w V.w) ii
          refine wpList_app1F (enc:=encInt) (w0:=y0.w) (z:=.int .i64 0) (size:=1) (bytes:=8) (n:=dn) es.Id rfl (.tmp 91) (.tmp 98) rfl uu46 kr rfl (by decide) (by decide) kr kr HDN.out (hownd.to gx) hH rfl (encInt_one _) (by omega) (Nat.le_trans y.size_le gx.out.size) (growsTr (ii:Grows y0.w y.w) gx) nl ?_
          intro sa3 sc3 xw hown1 hgr1 hblk1
          have hp4:=(GBp.app (F:=fRecorderDropped) HGR.out HED.out gx hown1 hgr1 hblk1 HYID.out).1
          clear hown1 hgr1 hblk1 gx hH hownd
          (try simp only[nrm])
          go_upto_region 18 with((first|((with_reducible refine rl ?_);refine rq ?_;intro x)|(refine step_gbN (app_len HDN.out) rfl _ _ _ rfl hp4 rfl rfl kr ii nl ?_;intro z4 hz4)))
          obtain⟨sa5,sc5,ec5,hown5,hgood5,-⟩:=hz4.own fRecorderRecords
          have HEC5:=lH (ec5 z4.w)
          have ec6:∀ (W:World) [Grows z4.w W],W.cell? ⟨qb,1,none⟩=some (.slice sa5 ln sc5):=fun W g=>HLN.out▸ec5 W
          have HZ4:=lH hz4;have HGD:=lH hgood5
          have HD5:=fun(W:World) (g:Grows z4.w W)=>HLN.out▸c_DeleteRecord (hown5.to g) (show j<l.length by rw[HLN.out];exact hjl) (show l.length≤100000000 by rw[HLN.out];omega)
          clear ec5 hgood5 hz4
          go_wp2_with (first|((with_reducible refine rl ?_);refine rq ?_;intro x)|(go_at_call 282;refine(HD5 _ ii).mono ?_;rintro _ w6 ⟨rfl,hown6,hgr6⟩;obtain⟨z6,rfl⟩:=grown_later (w0:=y0.w) ii hgr6 (fun k hk=>(hown5.blk k hk).1);have hp6:=(GBp.upd (F:=fRecorderRecords) (n:=0) HZ4.out HEC5.out ii hown6 ((ownBlock_eq _ _ _).symm▸hgr6) (.inl rfl) (fun q hq=>HGD.out q ((List.eraseIdx_sublist l j).subset hq))).1;clear hown6 hgr6)|(refine step_gbN (erase_len HLN.out hjl) rfl _ _ _ rfl hp6 rfl rfl kr ii nl ?_;intro z7 hz7))
          have HZ7:=lH hz7;clear hz7
          have hlt4:=of_decide_eq_true c4
          (try simp only[Act.put])
          go_roundw
          case rel=>exact⟨l.eraseIdx j,d++[es.Id],fuel2,mm+(6+(es.Data.size:Int)),rfl,(by have h1:=HUS.out;have h2:=HMV.out;unfold recSize at h1;show _=_;omega),by omega,hmm2,HK2,(by rw[List.length_eraseIdx,HLN.out,if_pos hjl,List.length_append,HDN.out,List.length_singleton];omega),HALL2,HZ7,Later.of⟩
          case measure=>simp[intOf];omega
     ·have HKR:=lH (show keepRes rr rx={ rr with Dropped:=rr.Dropped++[rx.Id] } by
       have h1:=hkg.2 (by have:=of_decide_eq_true c2;have:=HL.out;have:=HMM.out;unfold recSize;omega)
       rw[keepRes,h1])
      clear hkg ec
      go_wp2_with (first|((with_reducible refine rl ?_);(repeat(first|go_big_quiet_step (first|fail)|simp only[c2]));refine wpQuiet_nil ?_;intro x)|(at_builtin;refine wpList_app1F (enc:=encInt) (w0:=y0.w) (z:=.int .i64 0) (size:=1) (bytes:=8) (rx.Id) rfl (.tmp 69) (.tmp 72) rfl uu46 kr rfl (by decide) (by decide) rfl rfl HN2.out (hown.to ii) bk rfl (encInt_one _) (by omega) LeN.out ii nl ?_;intro sa2 sc2 xa2 hown1 hgr1 hblk1;have hp2:=(GBp.app (F:=fRecorderDropped) HG.out HEC.out ii hown1 hgr1 hblk1 hx.1).1;clear hown1 hgr1 hblk1)|(refine step_gbN (app_len HN2.out) rfl _ _ _ rfl hp2 rfl rfl kr ii nl ?_;intro z2 hz2))
      go_meet
      case rel=>exact⟨by rw[HKR.out];exact hz2,Later.of⟩
    case rest =>
     obtain⟨hgb,y9,rfl⟩:=hcut
     have HKT:=lH (keepRes_tot rr rx)
     obtain⟨vs9,hH9,-,h19,-,χ9,hO9⟩:=hgb.vs
     have hO9':=hO9
     obtain⟨a9,c9,b9,d9,rfl,hO⟩:=hO9'
     have hs9:=hO.o0.rd;have hs92:=hO.o1.rd
     have HH9:=lH hH9;have HO9:=lH hO9;have H19:=lH h19
     obtain⟨n9,hn9⟩:∃ k,(keepRes rr rx).Records.length=k:=⟨_,rfl⟩
     obtain⟨m9,hm9⟩:∃ k,(keepRes rr rx).Dropped.length=k:=⟨_,rfl⟩
     have hsum:n9+m9≤50000001:=by have:=HKT.out;rw[HN.out,HN2.out,hn9,hm9]at this;omega
     rw[hn9,hm9]at HH9 HO9 H19
     have HL9:=lH (or_len (EncO.toRd HO9.out))
     clear hO hgb hO9 hH9 h19 HKT hnn hs e1 f0 f3
     cases hr:recorderOk (keepRes rr rx)
     ·have HK:=lH (show keepRecord rr rx=rr by rw[keepRecord,HKN.out,hr];rfl)
      go_wp2_with (first|((with_reducible refine rl ?_);(repeat(first|go_big_quiet_step (first|(go_at_call 222;exact Gives.quiet (k_iRecorderOkN)))|simp only[hr]));refine wpQuiet_nil ?_;intro x)|(go_at_call 222;refine gm (k_iRecorderOkN) ?_;intro x)|(refine stepLoad rfl _ (.tmp 6) rfl (qb) 0 rfl (row:=[.int .i64 (keepRes rr rx).Room,.slice a9 n9 c9,.slice b9 m9 d9]) (HH9.out.to ii) _ uu82 rfl kr rfl ?_)|(refine stepLoad rfl _ (.tmp 2) rfl (w.heap.size) 0 rfl (row:=[.int .i64 rr.Room,.slice a n c,.slice a2 n2 c2]) (HB.out.to ii) _ uu82 rfl kr rfl ?_))
      refine(o_cloneRecorder (x:=rr) (Enc.keep HM.out ii) HT.out).mono ?_
      rintro _ _ ⟨cs9,χ8,rfl,hO8,y8,rfl⟩
      have HLC:=lH (or_len (EncO.toRd hO8));have HOC:=lH (or_one (EncO.toRd hO8));have HO:=lH hO8;clear hO8
      go_wp2_with (first|((with_reducible refine rl ?_);refine rq ?_;intro x)|(refine sW rfl _ _ _ rfl (w.heap.size+2) rfl (us:=cs9) (HR.out.to ii) HLC HOC (w0:=((w.alloc (.cells #[.int .i64 rr.Room,.slice a n c,.slice a2 n2 c2] 82)).alloc (.cells #[.int .i64 rx.Id,.int .i64 rx.Priority,.int .i64 rx.Time,.string rx.Data] 197))) ii (by simp) ?_;intro z8 HX8 KX8))
      refine bodyPost_ret (v:=.agg cs9.toArray) (results_cell (P:=Tryz.prog) rfl rfl HX8.out _ uu82 rfl (by rw[HLC.out];kernel_rfl)) rfl ?_
      rw[HK.out]
      exact⟨cs9,χ8,rfl,obox_fin HO.out KX8.out LtN.out LeN.out,Later.of⟩
     ·have HK:=lH (show keepRecord rr rx=keepRes rr rx by rw[keepRecord,HKN.out,if_pos rfl,if_pos hr])
      go_wp2_with (first|((with_reducible refine rl ?_);(repeat(first|go_big_quiet_step (first|(go_at_call 222;exact Gives.quiet (k_iRecorderOkN)))|simp only[hr]));refine wpQuiet_nil ?_;intro x)|(go_at_call 222;refine gm (k_iRecorderOkN) ?_;intro x)|(refine stepLoad rfl _ (.tmp 6) rfl (qb) 0 rfl (row:=[.int .i64 (keepRes rr rx).Room,.slice a9 n9 c9,.slice b9 m9 d9]) (HH9.out.to ii) _ uu82 rfl kr rfl ?_)|(refine stepStore2 rfl _ _ _ rfl (w.heap.size+2) 0 rfl (us:=[.int .i64 (keepRes rr rx).Room,.slice a9 n9 c9,.slice b9 m9 d9]) (cs2:=[.int .i64 (keepRes rr rx).Room,.slice a9 n9 c9,.slice b9 m9 d9]) (HR.out.to ii) ?a71 ?a72 ?a73 ?a74 ?a75 (w0:=((w.alloc (.cells #[.int .i64 rr.Room,.slice a n c,.slice a2 n2 c2] 82)).alloc (.cells #[.int .i64 rx.Id,.int .i64 rx.Priority,.int .i64 rx.Time,.string rx.Data] 197))) ii (by simp) ?_;(case a71=>rfl);(case a72=>(rw[HL9.out];kernel_rfl));(case a73=>exact H19.out);(case a74=>(rw[HL9.out];exact Nat.le_of_ble_eq_true rfl));(case a75=>exact splice_all HL9.out);intro z7 hx kx;have HX7:=lH hx;clear hx;have KX7:=lH kx;clear kx))
      refine bodyPost_ret (v:=.agg [.int .i64 (keepRes rr rx).Room,.slice a9 n9 c9,.slice b9 m9 d9].toArray) (results_cell (P:=Tryz.prog) rfl rfl HX7.out _ uu82 rfl (by rw[HL9.out];kernel_rfl)) rfl ?_
      rw[HK.out]
      exact⟨_,χ9,rfl,obox_fin (obox_to HO9.out ii) KX7.out LtN.out LeN.out,Later.of⟩
theorem c_sl05Least{B n:Nat}{a:Option Addr}{c:Nat}{p:Int}{l:List TRecord}{w0 w:World}(hs0:RdS B w0 a c l)[g:Keeps B w0 w](hn:l.length=n)(hm:n≤100000000) :
  Calls Tryz.prog 278 #[.slice a n c,.int .i64 p] w (Gives w (.int .i64 (leastBelow p l))):=by
 have HN:=lH hn
 have hs:=hs0.to g;clear hs0
 clear hn
 go_enter Tryz.func278,Tryz.ntmps278
 go_wp2_with (first|((with_reducible refine rl ?_);refine rq ?_;intro x))
 go_loopw [5,6] (fun u v wr=>∃ (k:Nat) (b:Int),v=.int .i64 k∧u=.int .i64 b∧k≤n∧-1≤b∧b<k∧Hid (b=leastTo p l k)∧∃ y:Later w,wr=y.w) (fun _ v _=>(n - intOf v).toNat)
 case atStart=>exact⟨0,-1,rfl,rfl,by omega,by omega,by omega,rfl,Later.of⟩
 case round =>
  obtain⟨k,b,rfl,rfl,hk,hb1,hb2,HV,y,rfl⟩:=hrel
  by_cases h:k<n
  ·obtain⟨eb,eoff,es,rfl,ehb,ehd,eok,eh0,eh1,eh2,eh3⟩:=hs.atTRecord (show k<l.length by have:=HN.out;omega)
   have EOK:=lH eok;clear eok
   have hpr:=pr_at ehd.out
   cases c1:decide (es.Priority<p)
   ·have HF:=lH (show b=leastTo p l (k+1)by rw[leastTo,← HV.out,hpr,if_neg (fun e=>of_decide_eq_false c1 e.1)])
    clear hpr
    go_wp2_with (first|((with_reducible refine rl ?_);(repeat(first|go_big_quiet_step (first|fail)|simp only[c1]));refine wpQuiet_nil ?_;intro x))
    go_roundw
    case rel=>exact⟨k+1,b,by go_num,rfl,by omega,by omega,by omega,HF,Later.of⟩
    case measure=>simp[intOf];omega
   ·cases c2:decide (b<0)
    ·obtain⟨q,rfl⟩:∃ q:Nat,b=(q:Int):=⟨b.toNat,by have:=of_decide_eq_false c2;omega⟩
     obtain⟨fb,foff,fs,hfe,fhb,fhd,fok,fh0,fh1,fh2,fh3⟩:=hs.atTRecord (show q<l.length by have:=HN.out;omega)
     simp only[Option.some.injEq,Addr.mk.injEq,and_true]at hfe
     obtain⟨rfl,rfl⟩:=hfe
     have hprq:=pr_at fhd.out
     have hqn:q<n:=by omega
     clear fh0 fh2 fh3 fok
     cases c3:decide (es.Priority<fs.Priority)
     ·have HF:=lH (show(q:Int)=leastTo p l (k+1)by rw[leastTo,← HV.out,Int.toNat_natCast,hpr,hprq,if_neg (fun e=>by rcases e.2 with e2|e2;exact of_decide_eq_false c2 e2;exact of_decide_eq_false c3 e2)])
      clear hpr hprq
      go_wp2_with (first|((with_reducible refine rl ?_);(repeat(first|go_big_quiet_step (first|fail)|simp only[c1]|simp only[c2]|simp only[c3]));refine wpQuiet_nil ?_;intro x))
      go_roundw
      case rel=>exact⟨k+1,q,by go_num,rfl,by omega,by omega,by omega,HF,Later.of⟩
      case measure=>simp[intOf];omega
     ·have HF:=lH (show(k:Int)=leastTo p l (k+1)by rw[leastTo,← HV.out,Int.toNat_natCast,hpr,hprq,if_pos ⟨of_decide_eq_true c1,.inr (of_decide_eq_true c3)⟩])
      clear hpr hprq
      go_wp2_with (first|((with_reducible refine rl ?_);(repeat(first|go_big_quiet_step (first|fail)|simp only[c1]|simp only[c2]|simp only[c3]));refine wpQuiet_nil ?_;intro x))
      go_roundw
      case rel=>exact⟨k+1,k,by go_num,rfl,by omega,by omega,by omega,HF,Later.of⟩
      case measure=>simp[intOf];omega
    ·have HF:=lH (show(k:Int)=leastTo p l (k+1)by rw[leastTo,← HV.out,hpr,if_pos ⟨of_decide_eq_true c1,.inl (of_decide_eq_true c2)⟩])
     clear hpr
     go_wp2_with (first|((with_reducible refine rl ?_);(repeat(first|go_big_quiet_step (first|fail)|simp only[c1]|simp only[c2]));refine wpQuiet_nil ?_;intro x))
     go_roundw
     case rel=>exact⟨k+1,k,by go_num,rfl,by omega,by omega,by omega,HF,Later.of⟩
     case measure=>simp[intOf];omega
  ·have HF:=lH (show b=leastBelow p l by rw[HV.out,leastBelow,show k=l.length by have:=HN.out;omega])
   go_wp2_with (first|((with_reducible refine rl ?_);refine rq ?_;intro x))
   go_ret
   exact Gives.mk (by rw[HF.out];rfl)
theorem c_sl05Index{B n b:Nat}{a:Option Addr}{c:Nat}{q:Int}{l:List TWaiting}{w0 w:World}(hb:b<w0.heap.size)(hc:w0.cell? ⟨b,4,none⟩=some (.slice a n c))(hs0:RdS B w0 a c l)(g:Grows w0 w)(hn:l.length=n)(hm:n≤100000000) :
  Calls Tryz.prog 195 #[.pointer (some ⟨b,0,none⟩),.int .i64 q] w (Gives w (.int .i64 (firstAt q 0 l))):=by
 have HN:=lH hn
 have hs:RdS B w a c l:=hs0.to (ii:Keeps B w0 w);clear hs0
 have hbl:LtN b w.heap.size:=⟨Nat.lt_of_lt_of_le hb g.out.size⟩
 have e4:∀ (W:World) [Grows w W],W.cell? ⟨b,4,none⟩=some (.slice a n c):=fun W g2=>@cell_grown w b 4 _ hbl.out (cell_grown hb hc w) W g2
 clear hn hc
 go_enter Tryz.func195,Tryz.ntmps195
 go_wp2_with (fail)
 go_loopw [5] (fun v wr=>∃ k:Nat,v=.int .i64 k∧k≤n∧Hid (firstAt q k (l.drop k)=firstAt q 0 l)∧∃ y:Later w,wr=y.w) (fun v _=>(n - intOf v).toNat)
 case atStart=>exact⟨0,rfl,by omega,rfl,Later.of⟩
 case round =>
  obtain⟨k,rfl,hk,HV,y,rfl⟩:=hrel
  by_cases h:k<n
  ·have hkl:k<l.length:=by have:=HN.out;omega
   obtain⟨eb,eoff,es,rfl,ehb,ehd,eok,eh0,eh1,eh2,eh3,eh4⟩:=hs.atTWaiting hkl
   have EOK:=lH eok;clear eok hkl
   by_cases hq:es.Number=q
   ·have kq:(es.Number == q)=true:=by simp[hq]
    have HF:=lH (show(k:Int)=firstAt q 0 l by have:=HV.out;rw[ehd.out,firstAt,if_pos hq]at this;exact this)
    clear hq
    go_wp2_with (fail)
    go_ret
    exact Gives.mk (by rw[← HF.out];rfl)
   ·have kq:(es.Number == q)=false:=by simp[hq]
    have HF:=lH (show firstAt q (k+1) (l.drop (k+1))=firstAt q 0 l by have:=HV.out;rw[ehd.out,firstAt,if_neg hq]at this;exact this)
    clear hq
    go_wp2_with (fail)
    go_roundw
    case rel=>exact⟨k+1,by go_num,by omega,HF,Later.of⟩
    case measure=>simp[intOf];omega
  ·have HF:=lH (show -1=firstAt q 0 l by have:=HV.out;rw[List.drop_of_length_le (by have:=HN.out;omega),firstAt]at this;exact this)
   go_wp2_with (fail)
   go_ret
   exact Gives.mk (by rw[← HF.out];rfl)
def kgOut(rr:TRecorder)(rx:TRecord)(KG:Option (List TRecord × List Int)):TRecorder:=match KG with
 | some (l,d)=>{ rr with Records:=l++[rx],Dropped:=d }
 | none=>{ rr with Dropped:=rr.Dropped++[rx.Id] }
theorem kg_stop{room need p:Int}{n:Nat}{l:List TRecord}{d:List Int}(hu:used l+need≤room):keepGo room need p n l d=some (l,d):=by
 cases n<;>(rw[keepGo,if_pos hu])
theorem kg_none{room need p:Int}{n:Nat}{l:List TRecord}{d:List Int}(hu:¬ used l+need≤room)(h:leastBelow p l<0):keepGo room need p n l d=none:=by
 cases n
 ·rw[keepGo,if_neg hu]
 ·rw[keepGo,if_neg hu,if_pos h]
theorem kg_next{room need p:Int}{n j:Nat}{l:List TRecord}{d:List Int}{y:TRecord}(hu:¬ used l+need≤room)(h:leastBelow p l=(j:Int))(hy:l[j]?=some y):keepGo room need p (n+1) l d=keepGo room need p n (l.eraseIdx j) (d++[y.Id]):=by
 rw[keepGo,if_neg hu,h,if_neg (by omega),Int.toNat_natCast,hy]
theorem c_sRecorderOkE{B:Nat}{vs:List Value}{r:TRecorder}{w:World}(h:Enc.Rd B w vs r)(ht:Enc.tot r≤100000000):Calls Tryz.prog 192 #[.agg vs.toArray] w (Gives w (.bool (recorderOk r))):=by
 obtain⟨a,c,a2,c2,rfl,h1,h2,-⟩:=h
 rw[recorder_tot]at ht
 have:=totL_len r.Records
 have:=totL_nonneg r.Records
 exact k_sRecorderOkN h1 h2 (g:=.same _ _) rfl rfl (by omega) (by omega)
theorem least_bd(p:Int)(l:List TRecord):-1≤leastBelow p l∧leastBelow p l<l.length:=by
 rcases leastBelow_is p l with⟨h,-⟩|⟨b,h,h2,-⟩
 ·omega
 ·have:=h2.lt;omega
theorem o_sKeepRecord{B:Nat}{vs:List Value}{rr:TRecorder}{rx:TRecord}{w:World}(h:Enc.Rd B w vs rr)(hx:okDTRecord rx)(ht:Enc.tot rr≤50000000) :
  Calls Tryz.prog 262 #[.agg vs.toArray,.agg #[.int .i64 rx.Id,.int .i64 rx.Priority,.int .i64 rx.Time,.string rx.Data]] w (GivesO w (keepRecord rr rx)):=by
 have HM:=lH h
 obtain⟨a,c,a2,c2,rfl,hs,hs2,hok⟩:=h
 rw[recorder_tot]at ht
 have h0:=totL_len rr.Records
 have HT:=lH (show Enc.tot rr≤100000000 by rw[recorder_tot];omega)
 obtain⟨n,hn⟩:∃ n,rr.Records.length=n:=⟨_,rfl⟩
 obtain⟨n2,hn2⟩:∃ n,rr.Dropped.length=n:=⟨_,rfl⟩
 have hm:n≤50000000:=by omega
 have hm2:n2≤50000000:=by omega
 have hnn:n+n2≤50000000:=by omega
 rw[hn,hn2]at HM ⊢
 have HN:=lH hn;have HN2:=lH hn2
 have hzx:rx.Data.size≤9223372036854775807:=hx.2.2.2.1
 clear ht h0
 have HS:=lH hs;have HS2:=lH hs2;clear hs hs2
 have HB:=lH ((Held.new w [.int .i64 rr.Room,.slice a n c,.slice a2 n2 c2] 82 w.heap.size rfl).to (ii:Grows _ (((w.alloc (.cells #[.int .i64 rr.Room,.slice a n c,.slice a2 n2 c2] 82)).alloc (.cells #[.int .i64 rx.Id,.int .i64 rx.Priority,.int .i64 rx.Time,.string rx.Data] 197)).alloc (.cells #[.int .i64 0,.slice none 0 0,.slice none 0 0] 82))))
 have HX:=lH ((Held.new (w.alloc (.cells #[.int .i64 rr.Room,.slice a n c,.slice a2 n2 c2] 82)) [.int .i64 rx.Id,.int .i64 rx.Priority,.int .i64 rx.Time,.string rx.Data] 197 (w.heap.size+1) (by simp)).to (ii:Grows _ (((w.alloc (.cells #[.int .i64 rr.Room,.slice a n c,.slice a2 n2 c2] 82)).alloc (.cells #[.int .i64 rx.Id,.int .i64 rx.Priority,.int .i64 rx.Time,.string rx.Data] 197)).alloc (.cells #[.int .i64 0,.slice none 0 0,.slice none 0 0] 82))))
 have HR:=lH (Held.new ((w.alloc (.cells #[.int .i64 rr.Room,.slice a n c,.slice a2 n2 c2] 82)).alloc (.cells #[.int .i64 rx.Id,.int .i64 rx.Priority,.int .i64 rx.Time,.string rx.Data] 197)) [.int .i64 0,.slice none 0 0,.slice none 0 0] 82 (w.heap.size+2) (by simp))
 have gW:Grows w (((w.alloc (.cells #[.int .i64 rr.Room,.slice a n c,.slice a2 n2 c2] 82)).alloc (.cells #[.int .i64 rx.Id,.int .i64 rx.Priority,.int .i64 rx.Time,.string rx.Data] 197)).alloc (.cells #[.int .i64 0,.slice none 0 0,.slice none 0 0] 82)):=inferInstance
 have hsz:((((w.alloc (.cells #[.int .i64 rr.Room,.slice a n c,.slice a2 n2 c2] 82)).alloc (.cells #[.int .i64 rx.Id,.int .i64 rx.Priority,.int .i64 rx.Time,.string rx.Data] 197)).alloc (.cells #[.int .i64 0,.slice none 0 0,.slice none 0 0] 82))).heap.size=w.heap.size+3:=by simp
 go_enter Tryz.func262,Tryz.ntmps262
 go_upto_region 1 with(first|((with_reducible refine rl ?_);refine rq ?_;intro x))
 generalize (((w.alloc (.cells #[.int .i64 rr.Room,.slice a n c,.slice a2 n2 c2] 82)).alloc (.cells #[.int .i64 rx.Id,.int .i64 rx.Priority,.int .i64 rx.Time,.string rx.Data] 197)).alloc (.cells #[.int .i64 0,.slice none 0 0,.slice none 0 0] 82))=W2 at HB HX HR gW hsz ⊢
 have iB:LtN w.heap.size W2.heap.size:=⟨by omega⟩
 have iX:LtN (w.heap.size+1) W2.heap.size:=⟨by omega⟩
 have iR:LtN (w.heap.size+2) W2.heap.size:=⟨by omega⟩
 have hW2:w.heap.size≤W2.heap.size:=by omega
 go_wp2_with (first|((with_reducible refine rl ?_);refine rq ?_;intro x)|(refine stepLoad rfl _ (.tmp 2) rfl (w.heap.size) 0 rfl (row:=[.int .i64 rr.Room,.slice a n c,.slice a2 n2 c2]) (HB.out.to ii) _ uu82 rfl kr rfl ?_))
 refine(o_copyRecorder (x:=rr) (Enc.keep HM.out ii) HT.out).mono ?_
 rintro _ _ ⟨cs,χ,rfl,hO,y1,rfl⟩
 have HLC:=lH (or_len (EncO.toRd hO));have HOC:=lH (or_one (EncO.toRd hO));have HO:=lH hO;clear hO
 go_upto_region 2 with(first|((with_reducible refine rl ?_);refine rq ?_;intro x)|(refine sW rfl _ _ _ rfl _ rfl (us:=cs) (Held.new _ [.int .i64 0,.slice none 0 0,.slice none 0 0] 82 _ rfl) HLC HOC (w0:=W2) ii LeN.out ?_;intro z1 HX1 KX1))
 (try simp only[Act.put])
 obtain⟨qb,hqb⟩:∃ qb,y1.w.heap.size=qb:=⟨_,rfl⟩
 rw[hqb]
 have HG:=lH (show GB (fun _=>False) W2.heap.size qb z1.w rr from hqb▸GB.of HO.out (KX1.out.under ii nl) y1.size_le HX1.out)
 have hqB:W2.heap.size≤qb:=HG.out.le
 have hqlt:LtN qb z1.w.heap.size:=⟨HG.out.lt⟩
 clear hqb HX1 KX1 HO HLC HOC
 have e0:=HB.out.cellG 0 _ rfl
 have e1:=HB.out.cellG 1 _ rfl
 have f0:=HX.out.cellG 0 _ rfl
 have f1:=HX.out.cellG 1 _ rfl
 have f3:=HX.out.cellG 3 _ rfl
 go_upto_region 3 with(first|((with_reducible refine rl ?_);refine rq ?_;intro x))
 go_cut [37]from 9 (fun s wx=>s=.bool (!keepNow rr rx)∧∃ y:Later z1.w,wx=y.w)
 case first =>
  have hs:=HS.out;have hs2:=HS2.out
  rcases keepNow_cases rr rx with⟨c0,hk⟩|⟨c0,c1,hk⟩|⟨c0,c1,hl,hk⟩|⟨k,y,c0,c1,hl,hy,hk⟩
  ·have HK:=lH hk;clear hk
   go_wp2_with (first|((with_reducible refine rl ?_);(repeat(first|go_big_quiet_step (first|(go_at_call 192;exact Gives.quiet (k_sRecorderOkN))|(go_at_call 260;exact Gives.quiet (k_sRecordOk (by omega))))|(refine quiet_load_rowW kr _ (.tmp 2) rfl (w.heap.size) 0 kr [.int .i64 rr.Room,.slice a n c,.slice a2 n2 c2] _ (fun W hW=>(by obtain⟨y7,rfl⟩:=hW;exact((HB.out).to ii).range (o:=0) (n:=3) rfl)) uu82 rfl kr ?_;(try simp only[nrm]))|(refine quiet_load_rowW kr _ (.tmp 3) rfl (w.heap.size+1) 0 kr [.int .i64 rx.Id,.int .i64 rx.Priority,.int .i64 rx.Time,.string rx.Data] _ (fun W hW=>(by obtain⟨y7,rfl⟩:=hW;exact((HX.out).to ii).range (o:=0) (n:=4) rfl)) uu197 rfl kr ?_;(try simp only[nrm]))|simp only[c0]));refine wpQuiet_nil ?_;intro x))
   go_meet
   case rel=>exact⟨by rw[HK.out];rfl,Later.of⟩
  ·have HK:=lH hk;clear hk
   go_wp2_with (first|((with_reducible refine rl ?_);(repeat(first|go_big_quiet_step (first|(go_at_call 192;exact Gives.quiet (k_sRecorderOkN))|(go_at_call 260;exact Gives.quiet (k_sRecordOk (by omega))))|(refine quiet_load_rowW kr _ (.tmp 2) rfl (w.heap.size) 0 kr [.int .i64 rr.Room,.slice a n c,.slice a2 n2 c2] _ (fun W hW=>(by obtain⟨y7,rfl⟩:=hW;exact((HB.out).to ii).range (o:=0) (n:=3) rfl)) uu82 rfl kr ?_;(try simp only[nrm]))|(refine quiet_load_rowW kr _ (.tmp 3) rfl (w.heap.size+1) 0 kr [.int .i64 rx.Id,.int .i64 rx.Priority,.int .i64 rx.Time,.string rx.Data] _ (fun W hW=>(by obtain⟨y7,rfl⟩:=hW;exact((HX.out).to ii).range (o:=0) (n:=4) rfl)) uu197 rfl kr ?_;(try simp only[nrm]))|simp only[c0]|simp only[c1]));refine wpQuiet_nil ?_;intro x))
   go_meet
   case rel=>exact⟨by rw[HK.out];rfl,Later.of⟩
  ·have HK:=lH hk;clear hk
   have kn:decide ((0:Int)<(n:Int))=false:=by rw[← hn,hl];rfl
   have kn2:decide (0<n)=false:=by rw[← hn,hl];rfl
   clear hl
   go_wp2_with (first|((with_reducible refine rl ?_);(repeat(first|go_big_quiet_step (first|(go_at_call 192;exact Gives.quiet (k_sRecorderOkN))|(go_at_call 260;exact Gives.quiet (k_sRecordOk (by omega))))|(refine quiet_load_rowW kr _ (.tmp 2) rfl (w.heap.size) 0 kr [.int .i64 rr.Room,.slice a n c,.slice a2 n2 c2] _ (fun W hW=>(by obtain⟨y7,rfl⟩:=hW;exact((HB.out).to ii).range (o:=0) (n:=3) rfl)) uu82 rfl kr ?_;(try simp only[nrm]))|(refine quiet_load_rowW kr _ (.tmp 3) rfl (w.heap.size+1) 0 kr [.int .i64 rx.Id,.int .i64 rx.Priority,.int .i64 rx.Time,.string rx.Data] _ (fun W hW=>(by obtain⟨y7,rfl⟩:=hW;exact((HX.out).to ii).range (o:=0) (n:=4) rfl)) uu197 rfl kr ?_;(try simp only[nrm]))|simp only[c0]|simp only[c1]|simp only[kn]|simp only[kn2]));refine wpQuiet_nil ?_;intro x))
   go_meet
   case rel=>exact⟨by rw[HK.out];rfl,Later.of⟩
  ·have HK:=lH hk;clear hk
   have hnk:n=k+1:=by rw[← hn,hl]
   have kn:decide ((0:Int)<(n:Int))=true:=decide_eq_true (by omega)
   have kn2:decide (0<n)=true:=decide_eq_true (by omega)
   have kt:(n:Int) - 1=(k:Int):=by omega
   have hkn:k<n:=by omega
   clear hl
   obtain⟨eb,eoff,es,rfl,ehb,ehd,eok,eh0,eh1,eh2,eh3⟩:=hs.atTRecord (show k<rr.Records.length by rw[hn];omega)
   obtain rfl:es=y:=by
    have:=congrArg (fun m=>m[0]?) ehd.out
    simp only[List.getElem?_drop,Nat.add_zero,hy]at this
    simpa using this.symm
   clear hy eh1 eh2 eh3 eok hnk
   cases c3:decide (rx.Id≤es.Id)
   ·have HK2:=lH (show keepNow rr rx=true by rw[HK.out];have:=of_decide_eq_false c3;exact decide_eq_true (by omega))
    go_wp2_with (first|((with_reducible refine rl ?_);(repeat(first|go_big_quiet_step (first|(go_at_call 192;exact Gives.quiet (k_sRecorderOkN))|(go_at_call 260;exact Gives.quiet (k_sRecordOk (by omega))))|(refine quiet_load_rowW kr _ (.tmp 2) rfl (w.heap.size) 0 kr [.int .i64 rr.Room,.slice (some ⟨eb,eoff,none⟩) n c,.slice a2 n2 c2] _ (fun W hW=>(by obtain⟨y7,rfl⟩:=hW;exact((HB.out).to ii).range (o:=0) (n:=3) rfl)) uu82 rfl kr ?_;(try simp only[nrm]))|(refine quiet_load_rowW kr _ (.tmp 3) rfl (w.heap.size+1) 0 kr [.int .i64 rx.Id,.int .i64 rx.Priority,.int .i64 rx.Time,.string rx.Data] _ (fun W hW=>(by obtain⟨y7,rfl⟩:=hW;exact((HX.out).to ii).range (o:=0) (n:=4) rfl)) uu197 rfl kr ?_;(try simp only[nrm]))|simp only[c0]|simp only[c1]|simp only[kn]|simp only[kn2]|simp only[kt]|simp only[c3]));refine wpQuiet_nil ?_;intro x))
    go_meet
    case rel=>exact⟨by rw[HK2.out];rfl,Later.of⟩
   ·have HK2:=lH (show keepNow rr rx=false by rw[HK.out];have:=of_decide_eq_true c3;exact decide_eq_false (by omega))
    go_wp2_with (first|((with_reducible refine rl ?_);(repeat(first|go_big_quiet_step (first|(go_at_call 192;exact Gives.quiet (k_sRecorderOkN))|(go_at_call 260;exact Gives.quiet (k_sRecordOk (by omega))))|(refine quiet_load_rowW kr _ (.tmp 2) rfl (w.heap.size) 0 kr [.int .i64 rr.Room,.slice (some ⟨eb,eoff,none⟩) n c,.slice a2 n2 c2] _ (fun W hW=>(by obtain⟨y7,rfl⟩:=hW;exact((HB.out).to ii).range (o:=0) (n:=3) rfl)) uu82 rfl kr ?_;(try simp only[nrm]))|(refine quiet_load_rowW kr _ (.tmp 3) rfl (w.heap.size+1) 0 kr [.int .i64 rx.Id,.int .i64 rx.Priority,.int .i64 rx.Time,.string rx.Data] _ (fun W hW=>(by obtain⟨y7,rfl⟩:=hW;exact((HX.out).to ii).range (o:=0) (n:=4) rfl)) uu197 rfl kr ?_;(try simp only[nrm]))|simp only[c0]|simp only[c1]|simp only[kn]|simp only[kn2]|simp only[kt]|simp only[c3]));refine wpQuiet_nil ?_;intro x))
    go_meet
    case rel=>exact⟨by rw[HK2.out];rfl,Later.of⟩
 case rest =>
  obtain⟨rfl,y0,rfl⟩:=hcut
  cases hk:keepNow rr rx
  ·have HK:=lH (show keepRecord rr rx=rr by rw[keepRecord,hk];rfl)
   clear hk
   obtain⟨vs9,hH9,hl9,h19,-,χ9,hO9⟩:=HG.out.vs
   have HH9:=lH hH9;have HO9:=lH hO9;have H19:=lH h19;have HL9:=lH (show vs9.length=3 from hl9)
   clear hO9 hH9 h19 hl9
   go_wp2_with (first|((with_reducible refine rl ?_);refine rq ?_;intro x)|(refine sL rfl _ (.tmp 5) rfl (qb) kr HH9 ii uu82 HL9 ?_)|(refine sW rfl _ _ _ rfl (w.heap.size+2) rfl (us:=vs9) (HR.out.to ii) HL9 H19 (w0:=w) ii (by omega) ?_;intro z9 HX9 KX9))
   refine bodyPost_ret (v:=.agg vs9.toArray) (results_cell (P:=Tryz.prog) rfl rfl HX9.out _ uu82 rfl (by rw[HL9.out];kernel_rfl)) rfl ?_
   rw[HK.out]
   exact⟨vs9,χ9,rfl,obox_fin (obox_to HO9.out ii) KX9.out (show w.heap.size+2<W2.heap.size by omega) hW2,Later.of⟩
  have HKN:=lH hk
  rw[keepNow,Bool.and_eq_true,Bool.and_eq_true]at hk
  have HRO:=lH hk.1
  have HALL:=lH (recorderOk_parts hk.1).2.2.2.2
  have HROM:=lH (recorderOk_parts hk.1)
  have hzx34:=recordOk_size hk.2.1
  have hrm:=HROM.out.2.1;have hrm0:=HROM.out.1
  clear hk
  (try simp only[Bool.not_true])
  obtain⟨KG,hKG⟩:∃ KG,keepGo rr.Room (recSize rx) rx.Priority rr.Records.length rr.Records rr.Dropped=KG:=⟨_,rfl⟩
  have HKR:=lH hKG
  clear hKG
  have HKM:=lH (show keepRes rr rx=kgOut rr rx KG by rw[← HKR.out];rfl)
  go_upto_block 0 with(first|((with_reducible refine rl ?_);refine rq ?_;intro x))
  go_wp2_with (first|((with_reducible refine rl ?_);refine rq ?_;intro x))
  go_loopw [] (fun wr=>∃ (l:List TRecord) (d:List Int) (fuel:Nat),Hid (keepGo rr.Room (recSize rx) rx.Priority fuel l d=KG)∧Hid (l.length≤fuel)∧l.length+d.length=n+n2∧Hid (used l≤rr.Room)∧Hid (l.all recordOk=true)∧Hid (GB (fun _=>False) W2.heap.size qb wr { rr with Records:=l,Dropped:=d })∧∃ y:Later W2,wr=y.w) (fun wr=>cellLen wr qb 1)
  case atStart=>exact⟨rr.Records,rr.Dropped,_,HKR.out,Nat.le_refl _,by rw[HN.out,HN2.out],HROM.out.2.2.2.1,HALL.out,HG.out.to ii,Later.of⟩
  case round =>
   obtain⟨l,d,fuel,HK1,HFU,hlen,HUS,HLA,HGR,y,rfl⟩:=hrel
   obtain⟨ln,hln⟩:∃ k,l.length=k:=⟨_,rfl⟩
   obtain⟨dn,hdn⟩:∃ k,d.length=k:=⟨_,rfl⟩
   rw[hln,hdn]at hlen
   have HLN:=lH hln;have HDN:=lH hdn
   have hqy:LtN qb y.w.heap.size:=⟨HGR.out.lt⟩
   obtain⟨sa,sc,ec,hown,hgood,hrd⟩:=HGR.out.own fRecorderRecords
   obtain⟨sb,sD,ed,hownd,-,-⟩:=HGR.out.own fRecorderDropped
   have HEC:=lH (ec y.w);have HED:=lH (ed y.w)
   have ec2:∀ (W:World) [Grows y.w W],W.cell? ⟨qb,1,none⟩=some (.slice sa ln sc):=fun W g=>HLN.out▸ec W
   have ed2:∀ (W:World) [Grows y.w W],W.cell? ⟨qb,2,none⟩=some (.slice sb dn sD):=fun W g=>HDN.out▸ed W
   have HRD:=lH (show RdS W2.heap.size y.w sa sc l from hrd)
   have HOW:=lH (show Own encTRecord 197 4 W2.heap.size y.w sa sc l from hown)
   have HOD:=lH (show Own encInt 3 1 W2.heap.size y.w sb sD d from hownd)
   have HGD:=lH (show ∀ s∈l,okDTRecord s from hgood)
   clear ec ed hown hgood hrd hownd hln hdn
   obtain⟨U,hU⟩:∃ U,used l=U:=⟨_,rfl⟩
   have hU0:0≤U:=hU▸used_nonneg l
   have hU1:U≤4000:=by have:=HUS.out;omega
   have HU:=lH hU;clear hU
   have hCU:∀ (W:World),Grows y.w W→Calls Tryz.prog 261 #[.slice sa ln sc] W (Gives W (.int .i64 U)):=fun W g=>HU.out▸k_sl05Used HRD.out (g:=gKeeps g) HLN.out (by omega) HLA.out
   cases c4:decide (rr.Room<U+(6+(rx.Data.size:Int)))
   ·have hUR:used l+recSize rx≤rr.Room:=by rw[HU.out];have:=of_decide_eq_false c4;unfold recSize;omega
    have HKF:=lH (show keepRes rr rx={ rr with Records:=l++[rx],Dropped:=d } by have h1:=HKM.out;rw[← HK1.out,kg_stop hUR]at h1;exact h1)
    have hUR4:used l+recSize rx≤4000:=by omega
    have HUR4:=lH hUR4
    clear hUR hUR4
    go_upto_region 17 with(first|((with_reducible refine rl ?_);(repeat(first|go_big_quiet_step (first|(go_at_call 261;exact Gives.quiet (hCU _ ii)))|simp only[c4]));refine wpQuiet_nil ?_;intro x)|(refine stepLoad rfl _ (.tmp 3) rfl (w.heap.size+1) 0 rfl (row:=[.int .i64 rx.Id,.int .i64 rx.Priority,.int .i64 rx.Time,.string rx.Data]) (HX.out.to ii) _ uu197 rfl kr rfl ?_)|(at_builtin;refine wpList_app1F (enc:=encTRecord) (w0:=W2) (z:=.agg #[.int .i64 0,.int .i64 0,.int .i64 0,.string ⟨#[]⟩]) (size:=4) (bytes:=40) (n:=ln) (rx) rfl (.tmp 98) (.tmp 100) rfl uu73 kr rfl (by decide) (by decide) rfl rfl HLN.out (HOW.out.to ii) bk rfl (encTRecord_one _) (by omega) LeN.out ii nl ?_;intro sa3 sc3 xa3 hown1 hgr1 hblk1;have hp3:=(GBp.app (F:=fRecorderRecords) HGR.out HEC.out ii hown1 hgr1 hblk1 hx).1;clear hown1 hgr1 hblk1)|(refine step_gbN (app_len HLN.out) rfl _ _ _ rfl hp3 rfl rfl kr ii nl ?_;intro z3 hz3))
    (try simp only[Act.put])
    have HZ3:=lH (show GB (fun _=>False) W2.heap.size qb z3.w (keepRes rr rx)by rw[HKF.out];exact hz3)
    clear hz3
    have HTP:=lH (show Enc.tot (keepRes rr rx)≤100000000 by rw[HKF.out,recorder_tot];have h1:=totL_used (l++[rx]);rw[used_snoc]at h1;have h2:=HDN.out;have h3:=HUR4.out;simp only;omega)
    have hqz3:LtN qb z3.w.heap.size:=⟨HZ3.out.lt⟩
    obtain⟨vs9,hH9,hl9,h19,hrd9,χ9,hO9⟩:=HZ3.out.vs
    have HH9:=lH hH9;have HO9:=lH hO9;have H19:=lH h19;have HL9:=lH (show vs9.length=3 from hl9);have HRD9:=lH hrd9
    clear hO9 hH9 h19 hl9 hrd9
    go_wp2_with (first|((with_reducible refine rl ?_);refine rq ?_;intro x)|(refine sL rfl _ (.tmp 5) rfl (qb) kr HH9 ii uu82 HL9 ?_))
    refine gm (c_sRecorderOkE (Enc.keep HRD9.out ii) HTP.out) ?_
    intro y9
    cases hr:recorderOk (keepRes rr rx)
    ·have HKQ:=lH (show keepRecord rr rx=rr by rw[keepRecord,HKN.out,if_pos rfl,hr];rfl)
     go_wp2_with (first|((with_reducible refine rl ?_);(repeat(first|go_big_quiet_step (first|fail)|simp only[hr]));refine wpQuiet_nil ?_;intro x)|(refine stepLoad rfl _ (.tmp 2) rfl (w.heap.size) 0 rfl (row:=[.int .i64 rr.Room,.slice a n c,.slice a2 n2 c2]) (HB.out.to ii) _ uu82 rfl kr rfl ?_))
     refine(o_copyRecorder (x:=rr) (Enc.keep HM.out ii) HT.out).mono ?_
     rintro _ _ ⟨cs8,χ8,rfl,hO8,y8,rfl⟩
     have HLC:=lH (or_len (EncO.toRd hO8));have HOC:=lH (or_one (EncO.toRd hO8));have HO:=lH hO8;clear hO8
     go_wp2_with (first|((with_reducible refine rl ?_);refine rq ?_;intro x)|(refine sW rfl _ _ _ rfl (w.heap.size+2) rfl (us:=cs8) (HR.out.to ii) HLC HOC (w0:=w) ii (by omega) ?_;intro z8 HX8 KX8))
     refine bodyPost_ret (v:=.agg cs8.toArray) (results_cell (P:=Tryz.prog) rfl rfl HX8.out _ uu82 rfl (by rw[HLC.out];kernel_rfl)) rfl ?_
     rw[HKQ.out]
     exact⟨cs8,χ8,rfl,obox_fin HO.out KX8.out LtN.out LeN.out,Later.of⟩
    ·have HKQ:=lH (show keepRecord rr rx=keepRes rr rx by rw[keepRecord,HKN.out,if_pos rfl,if_pos hr])
     go_wp2_with (first|((with_reducible refine rl ?_);(repeat(first|go_big_quiet_step (first|fail)|simp only[hr]));refine wpQuiet_nil ?_;intro x)|(refine sL rfl _ (.tmp 5) rfl (qb) kr HH9 ii uu82 HL9 ?_)|(refine sW rfl _ _ _ rfl (w.heap.size+2) rfl (us:=vs9) (HR.out.to ii) HL9 H19 (w0:=w) ii (by omega) ?_;intro z9 HX9 KX9))
     refine bodyPost_ret (v:=.agg vs9.toArray) (results_cell (P:=Tryz.prog) rfl rfl HX9.out _ uu82 rfl (by rw[HL9.out];kernel_rfl)) rfl ?_
     rw[HKQ.out]
     exact⟨vs9,χ9,rfl,obox_fin (obox_to HO9.out ii) KX9.out (show w.heap.size+2<W2.heap.size by omega) hW2,Later.of⟩
   ·have hUR:¬ used l+recSize rx≤rr.Room:=by rw[HU.out];have:=of_decide_eq_true c4;unfold recSize;omega
    have HUR:=lH hUR
    have hlb:=least_bd rx.Priority l
    obtain⟨K,hK⟩:∃ K,leastBelow rx.Priority l=K:=⟨_,rfl⟩
    rw[hK]at hlb
    have hCL:∀ (W:World),Grows y.w W→Calls Tryz.prog 278 #[.slice sa ln sc,.int .i64 rx.Priority] W (Gives W (.int .i64 K)):=fun W g=>hK▸c_sl05Least HRD.out (g:=gKeeps g) HLN.out (by omega)
    have HKK:=lH hK
    have hlb2:=HLN.out
    clear hK hUR
    cases c5:decide (K<0)
    ·obtain⟨j,rfl⟩:∃ j:Nat,K=(j:Int):=⟨K.toNat,by have:=of_decide_eq_false c5;omega⟩
     have hjl:j<ln:=by omega
     clear hlb hlb2
     obtain⟨fuel,rfl⟩:∃ k,fuel=k+1:=⟨fuel - 1,by have:=HFU.out;rw[HLN.out]at this;omega⟩
     obtain⟨g4,rfl⟩:∃ g,sa=some ⟨g,0,none⟩:=by
      rcases Own.at0 HOW.out with⟨rfl,h0⟩|h
      ·have:=HOW.out.cap;rw[HLN.out]at this;omega
      ·exact h
     obtain⟨eb,eoff,es,heq,ehb,ehd,eok,eh0,eh1,eh2,eh3⟩:=HRD.out.atTRecord (show j<l.length by rw[HLN.out];exact hjl)
     cases heq
     have hy:l[j]?=some es:=by
      have:=congrArg (fun m=>m[0]?) ehd.out
      simpa[List.getElem?_drop]using this
     have HK2:=lH (show keepGo rr.Room (recSize rx) rx.Priority fuel (l.eraseIdx j) (d++[es.Id])=KG by rw[← HK1.out];exact(kg_next HUR.out HKK.out hy).symm)
     have HUE:=lH (used_erase l j es hy)
     have HALL2:=lH (show(l.eraseIdx j).all recordOk=true from List.all_eq_true.2 fun q hq=>List.all_eq_true.1 HLA.out q ((List.eraseIdx_sublist l j).subset hq))
     have HGD2:=lH (show ∀ q∈l.eraseIdx j,okDTRecord q from fun q hq=>HGD.out q ((List.eraseIdx_sublist l j).subset hq))
     have HYID:=lH eok.1
     have hjc:j<sc:=by have:=HOW.out.cap;rw[HLN.out]at this;omega
     clear eok eh1 eh2 eh3 hy
     have eh:∀ (W:World) [Grows y.w W],W.cell? ⟨g4,0+j*4,none⟩=some (.int .i64 es.Id):=eh0
     clear eh0
     go_upto_region 14 with(first|((with_reducible refine rl ?_);(repeat(first|go_big_quiet_step (first|(go_at_call 261;exact Gives.quiet (hCU _ ii)))|simp only[c4]|simp only[c5]));refine wpQuiet_nil ?_;intro x)|(go_at_call 278;refine gm (hCL _ ii) ?_;intro x))
     refine wp_region_stabZ kr (T:=[9,10,11]) (Zs:=[]) (H:=[(1,[]),(3,[]),(5,[]),(7,[]),(8,[])]) (C:=[8]) (Fs:=[(some 73,.v (.pointer (some ⟨qb,2,none⟩))),(some 74,.v (.slice sb dn sD)),(some 75,.v (.pointer (some ⟨qb,1,none⟩))),(some 76,.v (.slice (some ⟨g4,0,none⟩) ln sc)),(some 77,.v (.int .i64 j)),(some 78,.v (.pointer (some ⟨g4,0+j*4,none⟩))),(some 79,.v (.pointer (some ⟨g4,0+j*4,none⟩))),(some 80,.v (.int .i64 es.Id)),(some 81,.sl y.w.heap.size 1 [.int .i64 es.Id] 3),(none,.v undef),(none,.v undef),(none,.v undef)]) kr (fun val W=>by kernel_rfl) ?ob4 ?lz4 ?pn4 ?tl4
     case ob4 =>
      refine⟨fun x=>?_,fun x=>?_,fun x=>?_,fun x=>?_,fun x=>?_,trivial⟩
      ·exact g_cell (ed2 x.w) rfl kr _ uu46 rfl
      ·exact g_cell (ec2 x.w) rfl kr _ uu73 rfl
      ·exact g_ix (size:=4) (o:=0) (j:=j) (n:=ln) (c:=sc) rfl kr uu73 kr hjl
      ·exact g_cell (eh x.w) rfl kr _ Tryz.underlying3 rfl
      ·exact g_sl rfl kr LeN.out
     case lz4 =>
      exact trivial
     case pn4=>exact fun _ _ _ _ _ _ h=>h
     case tl4 =>
      intro x
      refine chain1 fun v8 q8=>?_
      obtain⟨bs,rfl,hbs,hH⟩:=(show ∃ b,v8=.slice (some ⟨b,0,none⟩) 1 1∧y.w.heap.size≤b∧Held x.w b [.int .i64 es.Id] 3 from q8)
      clear q8
      refine tail3 rfl rfl rfl ?_
      simp only[put_nrm,put_nrm2]
      simp only[nrm,if_true]
      have gx:Grows y.w x.w:=(by have:=x.h;exact ii)
      refine wpList_app1F (enc:=encInt) (w0:=W2) (z:=.int .i64 0) (size:=1) (bytes:=8) (n:=dn) es.Id rfl (.tmp 74) (.tmp 81) rfl uu46 kr rfl (by decide) (by decide) kr kr HDN.out (HOD.out.to gx) hH rfl (encInt_one _) (by omega) (Nat.le_trans y.size_le gx.out.size) (growsTr (ii:Grows W2 y.w) gx) nl ?_
      intro sa3 sc3 xw hown1 hgr1 hblk1
      have hp4:=(GBp.app (F:=fRecorderDropped) HGR.out HED.out gx hown1 hgr1 hblk1 HYID.out).1
      clear hown1 hgr1 hblk1 gx hH
      (try simp only[nrm])
      go_upto_region 15 with(first|((with_reducible refine rl ?_);refine rq ?_;intro x)|(refine step_gbN (app_len HDN.out) rfl _ _ _ rfl hp4 rfl rfl kr ii nl ?_;intro z4 hz4))
      (try simp only[Act.put])
      have HZ4:=lH (show GB (fun _=>False) W2.heap.size qb z4.w { rr with Records:=l,Dropped:=d++[es.Id] } from hz4)
      clear hz4 ec2 ed2 eh
      have hqz4:LtN qb z4.w.heap.size:=⟨HZ4.out.lt⟩
      obtain⟨sa5,sc5,ec5,hown5,-,-⟩:=HZ4.out.own fRecorderRecords
      have HO5:=lH (show Own encTRecord 197 4 W2.heap.size z4.w sa5 sc5 l from hown5)
      obtain⟨g5,rfl⟩:∃ g,sa5=some ⟨g,0,none⟩:=by
       rcases Own.at0 HO5.out with⟨rfl,h0⟩|h
       ·have:=HO5.out.cap;rw[HLN.out]at this;omega
       ·exact h
      have ec6:∀ (W:World) [Grows z4.w W],W.cell? ⟨qb,1,none⟩=some (.slice (some ⟨g5,0,none⟩) ln sc5):=fun W g=>HLN.out▸ec5 W
      have hlc5:ln≤sc5:=by have:=HO5.out.cap;rw[HLN.out]at this;exact this
      have HSL:=lH (HO5.out.sl)
      have HER:=lH (List.eraseIdx_eq_take_drop_succ l j)
      have HLT:=lH (show(l.take j).length=j by rw[List.length_take,HLN.out];omega)
      have HLD:=lH (show(l.drop (j+1)).length=ln - (j+1)by rw[List.length_drop,HLN.out])
      have HLE:=lH (show(l.eraseIdx j).length=j+(ln - (j+1))by rw[erase_len HLN.out hjl];omega)
      obtain⟨o5,ho5⟩:∃ o5,(if sc5=j+1 then 0 else 0+(j+1)*4)=o5:=⟨_,rfl⟩
      have HO5E:=lH ho5;clear ho5
      clear ec5 hown5
      refine wp_abs (fun _ _ _ _ _ h=>h) fun KK hPK hKK=>?_
      refine wp_region_stabZ kr (T:=[11,12,13]) (Zs:=[]) (H:=[(0,[]),(2,[]),(4,[]),(5,[0]),(7,[]),(9,[]),(10,[])]) (C:=[0,5]) (Fs:=[(some 84,.sl z4.w.heap.size 0 [] 197),(some 85,.v (.pointer (some ⟨qb,1,none⟩))),(some 86,.v (.slice (some ⟨g5,0,none⟩) ln sc5)),(some 87,.v (.int .i64 j)),(some 88,.v (.slice (some ⟨g5,0,none⟩) j sc5)),(some 89,entOw encTRecord 197 4 z4.w.heap.size j (l.take j)),(some 90,.v (.pointer (some ⟨qb,1,none⟩))),(some 91,.v (.slice (some ⟨g5,0,none⟩) ln sc5)),(some 92,.v (.int .i64 j)),(some 93,.v (.int .i64 ((j:Int)+1))),(some 94,.v (.slice (some ⟨g5,o5,none⟩) (ln - (j+1)) (sc5 - (j+1)))),(none,.v undef),(none,.v undef),(none,.v undef)]) kr (fun val W=>by kernel_rfl) ?ob5 ?lz5 ?pn5 ?tl5
      case ob5 =>
       refine⟨fun x=>?_,fun x=>?_,fun x=>?_,fun x=>?_,fun x=>?_,fun x=>?_,fun x=>?_,trivial⟩
       ·exact g_sl rfl kr LeN.out
       ·exact g_cell (ec6 x.w) rfl kr _ uu73 rfl
       ·exact g_upto (size:=4) (n:=ln) rfl kr uu73 kr (by omega)
       ·refine chain1 fun v0 q0=>chain0 ?_
        obtain⟨b0,rfl,h1,h2⟩:=(show ∃ b,v0=.slice (some ⟨b,0,none⟩) 0 0∧z4.w.heap.size≤b∧Held x.w b [] 197 from q0)
        exact g_appE (c:=sc5) (bytes:=40) (z:=.agg #[.int .i64 0,.int .i64 0,.int .i64 0,.string ⟨#[]⟩]) kr uu73 kr rfl (by decide) (by decide) HLT.out encTRecord_len ((HSL.out.to ii).take j) (fun h=>by cases h) encTRecord_one (by omega) h2 h1 LeN.out (fun a9 c9 y9 ho=>⟨⟨y9,rfl⟩,a9,c9,rfl,ho⟩)
       ·exact g_cell (ec6 x.w) rfl kr _ uu73 rfl
       ·exact g_addI (s:=(j:Int)) (t:=1) rfl kr (by omega) (by omega)
       ·exact g_from2 (size:=4) (o:=0) (c:=sc5) (j:=j+1) (n:=ln) (by rw[HO5E.out];rfl) kr uu73 kr (by omega) hlc5
      case lz5 =>
       exact trivial
      case pn5=>exact fun _=>hPK.out
      case tl5 =>
       intro x
       refine chain1 fun v0 q0=>chain1 fun v5 q5=>?_
       obtain⟨b0,rfl,h01,h02⟩:=(show ∃ b,v0=.slice (some ⟨b,0,none⟩) 0 0∧z4.w.heap.size≤b∧Held x.w b [] 197 from q0)
       obtain⟨ab,cb,rfl,hOb⟩:=(show isOw encTRecord 197 4 z4.w.heap.size j (l.take j) v5 x.w from q5)
       clear q0 q5 h01 h02
       refine tail3 rfl rfl rfl ?_
       simp only[put_nrm,put_nrm2]
       simp only[nrm,if_true]
       refine wpList_appS (enc:=encTRecord) (w0:=z4.w) (z:=.agg #[.int .i64 0,.int .i64 0,.int .i64 0,.string ⟨#[]⟩]) (size:=4) (bytes:=40) (n:=j) (m:=ln - (j+1)) (c:=sc5 - (j+1)) (l:=l.take j) (r:=l.drop (j+1)) rfl (.tmp 89) (.tmp 94) rfl uu73 kr rfl (by decide) (by decide) kr kr (fun h=>by cases h) HLT.out HLD.out hOb (HO5E.out▸(HSL.out.to ii).from2 (by rw[HLN.out];exact hlc5) encTRecord_len) encTRecord_one (by omega) ?_
       intro sa9 sc9 x9 ho9 hg9
       rw[← HER.out]at ho9
       have hp9:=GBp.new (F:=fRecorderRecords) HZ4.out (ii:Grows z4.w x9.w) (OwnC.of ho9 HGD2.out (0,0))
       clear ho9 hg9 hOb
       (try simp only[nrm])
       go_wp2_with (first|((with_reducible refine rl ?_);refine rq ?_;intro x)|(refine step_gbN HLE.out rfl _ _ _ rfl hp9 rfl rfl kr ii nl ?_;intro z6 hz6))
       refine(show KK .normal ⟨List.toArray _,_⟩ _ from ?_)
       refine hKK.out _ _ _ ?_
       clear hKK hPK
       dsimp (config:={ zetaDelta:=true }) only[Exit.inBlock,Exit.then]
       (try simp only[Act.put])
       have HZ6:=lH (show GB (fun _=>False) W2.heap.size qb z6.w { rr with Records:=l.eraseIdx j,Dropped:=d++[es.Id] } from hz6)
       clear hz6
       have HF1:=lH (show(l.eraseIdx j).length≤fuel by have h1:=HFU.out;rw[HLN.out]at h1;rw[HLE.out];omega)
       have HF2:=lH (show used (l.eraseIdx j)≤rr.Room by have h1:=HUE.out;have h2:=HUS.out;have h3:0≤recSize es:=(by unfold recSize;omega);(rw[h1];omega))
       go_roundw
       case rel=>exact⟨l.eraseIdx j,d++[es.Id],fuel,HK2.out,HF1.out,(by rw[HLE.out,List.length_append,HDN.out,List.length_singleton];omega),HF2.out,HALL2.out,HZ6.out,Later.of⟩
       case measure =>
        obtain⟨p1,p2,p3,-⟩:=HZ6.out.own fRecorderRecords
        have e1:cellLen z6.w qb 1=(l.eraseIdx j).length:=cellLen_eq (p3 z6.w)
        have e2:cellLen y.w qb 1=l.length:=cellLen_eq HEC.out
        rw[HLE.out]at e1;rw[HLN.out]at e2
        show cellLen z6.w qb 1<cellLen y.w qb 1
        omega
    ·have HKF:=lH (show keepRes rr rx={ rr with Dropped:=rr.Dropped++[rx.Id] } by have h1:=HKM.out;rw[← HK1.out,kg_none HUR.out (by rw[HKK.out];exact of_decide_eq_true c5)]at h1;exact h1)
     clear hlb hlb2
     obtain⟨vs6,hH6,hl6,-⟩:=HGR.out.vs
     have HH6:=lH hH6;have HL6:=lH (show vs6.length=3 from hl6)
     clear hH6 hl6
     go_upto_region 9 with(first|((with_reducible refine rl ?_);(repeat(first|go_big_quiet_step (first|(go_at_call 261;exact Gives.quiet (hCU _ ii)))|simp only[c4]|simp only[c5]));refine wpQuiet_nil ?_;intro x)|(go_at_call 278;refine gm (hCL _ ii) ?_;intro x))
     clear ec2 ed2
     go_wp2_with (first|((with_reducible refine rl ?_);refine rq ?_;intro x)|(refine stepLoad rfl _ (.tmp 2) rfl (w.heap.size) 0 rfl (row:=[.int .i64 rr.Room,.slice a n c,.slice a2 n2 c2]) (HB.out.to ii) _ uu82 rfl kr rfl ?_))
     refine(o_copyRecorder (x:=rr) (Enc.keep HM.out ii) HT.out).mono ?_
     rintro _ _ ⟨vs2,χ2,rfl,hO2,y2,rfl⟩
     have HL2:=lH (or_len (EncO.toRd hO2));have H12:=lH (or_one (EncO.toRd hO2));have HO2:=lH hO2;clear hO2
     go_upto_region 10 with(first|((with_reducible refine rl ?_);refine rq ?_;intro x)|(refine stepStore2 rfl _ _ _ rfl (qb) 0 rfl (us:=vs2) (cs2:=vs2) (HH6.out.to ii) ?a71 ?a72 ?a73 ?a74 ?a75 (w0:=W2) ii hqB ?_;(case a71=>rfl);(case a72=>(rw[HL2.out];kernel_rfl));(case a73=>exact H12.out);(case a74=>(rw[HL2.out,HL6.out];exact Nat.le_of_ble_eq_true rfl));(case a75=>exact splice_all (HL2.out.trans HL6.out.symm));intro z7 hx kx;have HX7:=lH hx;clear hx;have KX7:=lH kx;clear kx))
     (try simp only[Act.put])
     have HZ7:=lH (GB.over HO2.out (Later.size_le _) KX7.out (LtN.out) hqB HX7.out)
     have hqz7:LtN qb z7.w.heap.size:=⟨HZ7.out.lt⟩
     obtain⟨sb7,sd7,ed7,hownd7,-,-⟩:=HZ7.out.own fRecorderDropped
     have HED7:=lH (ed7 z7.w)
     have HOD7:=lH (show Own encInt 3 1 W2.heap.size z7.w sb7 sd7 rr.Dropped from hownd7)
     have ed8:∀ (W:World) [Grows z7.w W],W.cell? ⟨qb,2,none⟩=some (.slice sb7 n2 sd7):=fun W g=>HN2.out▸ed7 W
     clear ed7 hownd7
     go_upto_region 11 with(first|((with_reducible refine rl ?_);refine rq ?_;intro x)|(at_builtin;refine wpList_app1F (enc:=encInt) (w0:=W2) (z:=.int .i64 0) (size:=1) (bytes:=8) (n:=n2) (rx.Id) rfl (.tmp 61) (.tmp 64) rfl uu46 kr rfl (by decide) (by decide) rfl rfl HN2.out (HOD7.out.to ii) bk rfl (encInt_one _) (by omega) LeN.out ii nl ?_;intro sa3 sc3 xa3 hown1 hgr1 hblk1;have hp3:=(GBp.app (F:=fRecorderDropped) HZ7.out HED7.out ii hown1 hgr1 hblk1 hx.1).1;clear hown1 hgr1 hblk1)|(refine step_gbN (app_len HN2.out) rfl _ _ _ rfl hp3 rfl rfl kr ii nl ?_;intro z3 hz3))
     (try simp only[Act.put])
     have HZ3:=lH (show GB (fun _=>False) W2.heap.size qb z3.w (keepRes rr rx)by rw[HKF.out];exact hz3)
     clear hz3
     have HTP:=lH (show Enc.tot (keepRes rr rx)≤100000000 by rw[HKF.out,recorder_tot];have h1:=totL_used rr.Records;have h2:=HROM.out.2.2.2.1;simp only[List.length_append,List.length_singleton,HN2.out];omega)
     have hqz3:LtN qb z3.w.heap.size:=⟨HZ3.out.lt⟩
     obtain⟨vs9,hH9,hl9,h19,hrd9,χ9,hO9⟩:=HZ3.out.vs
     have HH9:=lH hH9;have HO9:=lH hO9;have H19:=lH h19;have HL9:=lH (show vs9.length=3 from hl9);have HRD9:=lH hrd9
     clear hO9 hH9 h19 hl9 hrd9
     go_wp2_with (first|((with_reducible refine rl ?_);refine rq ?_;intro x)|(refine sL rfl _ (.tmp 5) rfl (qb) kr HH9 ii uu82 HL9 ?_))
     refine gm (c_sRecorderOkE (Enc.keep HRD9.out ii) HTP.out) ?_
     intro y9
     cases hr:recorderOk (keepRes rr rx)
     ·have HKQ:=lH (show keepRecord rr rx=rr by rw[keepRecord,HKN.out,if_pos rfl,hr];rfl)
      go_wp2_with (first|((with_reducible refine rl ?_);(repeat(first|go_big_quiet_step (first|fail)|simp only[hr]));refine wpQuiet_nil ?_;intro x)|(refine stepLoad rfl _ (.tmp 2) rfl (w.heap.size) 0 rfl (row:=[.int .i64 rr.Room,.slice a n c,.slice a2 n2 c2]) (HB.out.to ii) _ uu82 rfl kr rfl ?_))
      refine(o_copyRecorder (x:=rr) (Enc.keep HM.out ii) HT.out).mono ?_
      rintro _ _ ⟨cs8,χ8,rfl,hO8,y8,rfl⟩
      have HLC:=lH (or_len (EncO.toRd hO8));have HOC:=lH (or_one (EncO.toRd hO8));have HO:=lH hO8;clear hO8
      go_wp2_with (first|((with_reducible refine rl ?_);refine rq ?_;intro x)|(refine sW rfl _ _ _ rfl (w.heap.size+2) rfl (us:=cs8) (HR.out.to ii) HLC HOC (w0:=w) ii (by omega) ?_;intro z8 HX8 KX8))
      refine bodyPost_ret (v:=.agg cs8.toArray) (results_cell (P:=Tryz.prog) rfl rfl HX8.out _ uu82 rfl (by rw[HLC.out];kernel_rfl)) rfl ?_
      rw[HKQ.out]
      exact⟨cs8,χ8,rfl,obox_fin HO.out KX8.out LtN.out LeN.out,Later.of⟩
     ·have HKQ:=lH (show keepRecord rr rx=keepRes rr rx by rw[keepRecord,HKN.out,if_pos rfl,if_pos hr])
      go_wp2_with (first|((with_reducible refine rl ?_);(repeat(first|go_big_quiet_step (first|fail)|simp only[hr]));refine wpQuiet_nil ?_;intro x)|(refine sL rfl _ (.tmp 5) rfl (qb) kr HH9 ii uu82 HL9 ?_)|(refine sW rfl _ _ _ rfl (w.heap.size+2) rfl (us:=vs9) (HR.out.to ii) HL9 H19 (w0:=w) ii (by omega) ?_;intro z9 HX9 KX9))
      refine bodyPost_ret (v:=.agg vs9.toArray) (results_cell (P:=Tryz.prog) rfl rfl HX9.out _ uu82 rfl (by rw[HL9.out];kernel_rfl)) rfl ?_
      rw[HKQ.out]
      exact⟨vs9,χ9,rfl,obox_fin (obox_to HO9.out ii) KX9.out (show w.heap.size+2<W2.heap.size by omega) hW2,Later.of⟩
