/- The contracts of functions that copy structs: the reference's. No condition but on sizes. -/
import Derived.Test.YtdoilejecjaldaaGreatHM31
namespace Go.Proofs.YtdoilejecjaldaaGreat
set_option maxRecDepth 100000
set_option maxHeartbeats 2000000
set_option linter.unusedVariables false
open Go.ChangeShapes Go.WideShapes Go.ChangeAt Go.RowKit
private abbrev u46:=Tryz.underlying46
theorem bc2{B:Nat}{vs:List Value}{x:J0}{w:World}(h:Enc.Rd B w vs x)(ht:Enc.tot x≤100000000) :
  Calls Tryz.prog 168 #[.agg vs.toArray] w (U0 w x):=by
 obtain⟨a0,c0,a1,c1,rfl,q0,q1,hok⟩:=h
 have HT:=lH (show x.Records.length≤100000000∧x.Dropped.length≤100000000∧True from by
  have:Enc.tot x=d7 x.Records+d7 x.Dropped:=rfl
  have:=b7 x.Records;have:=d9 x.Records
  have:=b7 x.Dropped;have:=d9 x.Dropped
  refine⟨?_,?_,trivial⟩<;>omega)
 have HT0:=lH ht;clear ht
 have HQ0:=lH q0;clear q0
 have HQ1:=lH q1;clear q1
 have HOK:=lH hok;clear hok
 have S0:=lH ((i9.new w [.int .i64 x.Room,.slice a0 x.Records.length c0,.slice a1 x.Dropped.length c1] 82 w.heap.size rfl).to (ii:d5 _ ((w.alloc (.cells #[.int .i64 x.Room,.slice a0 x.Records.length c0,.slice a1 x.Dropped.length c1] 82)).alloc (.cells #[.int .i64 0,.slice none 0 0,.slice none 0 0] 82))))
 have R0:=lH ((i9.new (w.alloc (.cells #[.int .i64 x.Room,.slice a0 x.Records.length c0,.slice a1 x.Dropped.length c1] 82)) [.int .i64 0,.slice none 0 0,.slice none 0 0] 82 (w.heap.size+1) (by simp)).to (ii:d5 _ ((w.alloc (.cells #[.int .i64 x.Room,.slice a0 x.Records.length c0,.slice a1 x.Dropped.length c1] 82)).alloc (.cells #[.int .i64 0,.slice none 0 0,.slice none 0 0] 82))))
 go_enter Tryz.func168,Tryz.ntmps168
 go_wp2_with (first|(refine f8 rfl _ _ rfl w.heap.size 1 rfl (S0.out.to ii) _ rfl _ Tryz.underlying73 rfl ?_)|(at_builtin;refine J9 (t:=73) (enc:=V9) (w0:=((w.alloc (.cells #[.int .i64 x.Room,.slice a0 x.Records.length c0,.slice a1 x.Dropped.length c1] 82)).alloc (.cells #[.int .i64 0,.slice none 0 0,.slice none 0 0] 82))) (z:=.agg #[.int .i64 0,.int .i64 0,.int .i64 0,.string ByteArray.empty]) (size:=4) (bytes:=40) (n:=0) (l:=[]) rfl (.tmp _) (.tmp _) rfl Tryz.underlying73 kr rfl (by decide) (by decide) rfl rfl HQ0.out.nilcap rfl rfl (Own.emptyAt (D9.encLen (α:=B4)) nl (by first|rfl|(simp;done))) (HQ0.out.keep ii).slF (D9.one (α:=B4)) (by have:=(HT.out.1);omega) ?_;intro na0 nc0 y0 no0 gr0;rw[List.nil_append]at no0;have O0:=lH (D0.of no0 HQ0.out.goods (0,0));clear no0 gr0;have t0:(0+x.Records.length)=x.Records.length:=Nat.zero_add _;simp only[t0];clear t0)|(refine sS rfl _ _ _ rfl (w.heap.size) 1 rfl (us:=[.slice na0 x.Records.length nc0]) (cs2:=[.int .i64 x.Room,.slice na0 x.Records.length nc0,.slice a1 x.Dropped.length c1]) (S0.out.to ii) rfl kr rfl nb kr (w0:=w) ii (by simp) ?_;intro z1 HZ1 KQ1;have K1:=KQ1;have RZ1:=lH ((R0.out.to ii).but KQ1.out (by omega));clear KQ1;have e1:LeN (w.heap.size+2) z1.w.heap.size:=⟨RZ1.out.lt⟩;clear R0 S0)|(refine f8 rfl _ _ rfl w.heap.size 2 rfl (HZ1.out.to ii) _ rfl _ u46 rfl ?_)|(at_builtin;refine aE (α:=Int) z1.w (z:=.int .i64 0) 1 8 rfl (.tmp _) (.tmp _) rfl u46 HQ1.out HT.out.2.1 ii ?_;intro na1 nc1 y1 O1)|(refine sS rfl _ _ _ rfl (w.heap.size) 2 rfl (us:=[.slice na1 x.Dropped.length nc1]) (cs2:=[.int .i64 x.Room,.slice na0 x.Records.length nc0,.slice na1 x.Dropped.length nc1]) (HZ1.out.to ii) rfl kr rfl nb kr (w0:=w) ii (by simp) ?_;intro z2 HZ2 KQ2;have K2:=KQ2;have RZ2:=lH ((RZ1.out.to ii).but KQ2.out (by omega));clear KQ2;have e2:LeN (w.heap.size+2) z2.w.heap.size:=⟨RZ2.out.lt⟩;clear HZ1 RZ1)|(refine f7 rfl _ _ rfl (w.heap.size) 0 rfl (row:=[.int .i64 x.Room,.slice na0 x.Records.length nc0,.slice na1 x.Dropped.length nc1]) (HZ2.out.to ii) _ Tryz.underlying82 rfl kr kr ?_)|(refine sS rfl _ _ _ rfl (w.heap.size+1) 0 rfl (us:=[.int .i64 x.Room,.slice na0 x.Records.length nc0,.slice na1 x.Dropped.length nc1]) (cs2:=[.int .i64 x.Room,.slice na0 x.Records.length nc0,.slice na1 x.Dropped.length nc1]) (RZ2.out.to ii) rfl kr rfl nb kr (w0:=w) ii (by simp) ?_;intro zr HR KQr;have KR:=KQr;clear KQr))
 have GZ2:b8 (w.heap.size+2) z2.w zr.w:=KR.out.keeps (by omega)
 have GY1:b8 (w.heap.size+2) y1.w zr.w:=b8.trans (K2.out.keeps (by omega)) GZ2
 have GZ1:b8 (w.heap.size+2) z1.w zr.w:=b8.trans (ii:b8 (w.heap.size+2) z1.w y1.w) GY1
 have GY0:b8 (w.heap.size+2) y0.w zr.w:=b8.trans (K1.out.keeps (by omega)) GZ1
 obtain⟨D,hD⟩:∃ D:List (Nat × Nat × (Nat→Col)),D=[(y0.w.heap.size,0,(fun _=>(0,0))),(y1.w.heap.size,1,(fun _=>(0,0)))]:=⟨_,rfl⟩
 have e0:D[0]?=some (y0.w.heap.size,0,(fun _=>(0,0))):=by rw[hD];rfl
 have e1:D[1]?=some (y1.w.heap.size,1,(fun _=>(0,0))):=by rw[hD];rfl
 clear hD
 have P0:∀ b,s5 D b=s5 (D.drop 0) b:=fun _=>rfl
 have C0:∀ b,((w.alloc (.cells #[.int .i64 x.Room,.slice a0 x.Records.length c0,.slice a1 x.Dropped.length c1] 82)).alloc (.cells #[.int .i64 0,.slice none 0 0,.slice none 0 0] 82)).heap.size≤b→b<y0.w.heap.size→s5 D b=D3 0 ((fun _=>(0,0)) b):=fun b h1 h2=>(P0 b).trans (i8 e0 h2)
 have P1:∀ b,y0.w.heap.size≤b→s5 D b=s5 (D.drop 1) b:=fun b hb=>(P0 b).trans (f6 e0 hb)
 have C1:∀ b,z1.w.heap.size≤b→b<y1.w.heap.size→s5 D b=D3 1 ((fun _=>(0,0)) b):=fun b h1 h2=>(P1 b (Nat.le_trans K1.out.size h1)).trans (i8 e1 h2)
 refine bodyPost_ret (v:=.agg #[.int .i64 x.Room,.slice na0 x.Records.length nc0,.slice na1 x.Dropped.length nc1]) (F7 (P:=Tryz.prog) rfl rfl HR.out _ Tryz.underlying82 rfl kr) rfl ⟨[.int .i64 x.Room,.slice na0 x.Records.length nc0,.slice na1 x.Dropped.length nc1],s5 D,rfl,⟨na0,nc0,na1,nc1,rfl,⟨((((O0.out.re C0).mono (LeN.out (a:=w.heap.size+2))).keep GY0).mono (by omega)),((((O1.out.re C1).mono (LeN.out (a:=w.heap.size+2))).keep GY1).mono (by omega)),HOK.out⟩⟩,b5.of⟩
theorem bp2{B:Nat}{vs:List Value}{x:R6}{w:World}(h:Enc.Rd B w vs x)(ht:Enc.tot x≤100000000) :
  Calls Tryz.prog 68 #[.agg vs.toArray] w (U0 w x):=by
 obtain⟨a0,c0,rfl,q0,hok⟩:=h
 have HT:=lH (show x.Waiting.length≤100000000∧True from by
  have:Enc.tot x=d7 x.Waiting:=rfl
  have:=b7 x.Waiting;have:=d9 x.Waiting
  refine⟨?_,trivial⟩<;>omega)
 have HT0:=lH ht;clear ht
 have HQ0:=lH q0;clear q0
 have HOK:=lH hok;clear hok
 have S0:=lH ((i9.new w [.int .i64 x.Next,.int .i64 x.Window,.slice a0 x.Waiting.length c0,.int .i64 x.Done] 69 w.heap.size rfl).to (ii:d5 _ ((w.alloc (.cells #[.int .i64 x.Next,.int .i64 x.Window,.slice a0 x.Waiting.length c0,.int .i64 x.Done] 69)).alloc (.cells #[.int .i64 0,.int .i64 0,.slice none 0 0,.int .i64 0] 69))))
 have R0:=lH ((i9.new (w.alloc (.cells #[.int .i64 x.Next,.int .i64 x.Window,.slice a0 x.Waiting.length c0,.int .i64 x.Done] 69)) [.int .i64 0,.int .i64 0,.slice none 0 0,.int .i64 0] 69 (w.heap.size+1) (by simp)).to (ii:d5 _ ((w.alloc (.cells #[.int .i64 x.Next,.int .i64 x.Window,.slice a0 x.Waiting.length c0,.int .i64 x.Done] 69)).alloc (.cells #[.int .i64 0,.int .i64 0,.slice none 0 0,.int .i64 0] 69))))
 go_enter Tryz.func68,Tryz.ntmps68
 go_wp2_with (first|(refine f8 rfl _ _ rfl w.heap.size 2 rfl (S0.out.to ii) _ rfl _ Tryz.underlying67 rfl ?_)|(at_builtin;refine J9 (t:=67) (enc:=ae1) (w0:=((w.alloc (.cells #[.int .i64 x.Next,.int .i64 x.Window,.slice a0 x.Waiting.length c0,.int .i64 x.Done] 69)).alloc (.cells #[.int .i64 0,.int .i64 0,.slice none 0 0,.int .i64 0] 69))) (z:=.agg #[.int .i64 0,.string ByteArray.empty]) (size:=2) (bytes:=24) (n:=0) (l:=[]) rfl (.tmp _) (.tmp _) rfl Tryz.underlying67 kr rfl (by decide) (by decide) rfl rfl HQ0.out.nilcap rfl rfl (Own.emptyAt (D9.encLen (α:=Z1)) nl (by first|rfl|(simp;done))) (HQ0.out.keep ii).slF (D9.one (α:=Z1)) (by have:=(HT.out.1);omega) ?_;intro na0 nc0 y0 no0 gr0;rw[List.nil_append]at no0;have O0:=lH (D0.of no0 HQ0.out.goods (0,0));clear no0 gr0;have t0:(0+x.Waiting.length)=x.Waiting.length:=Nat.zero_add _;simp only[t0];clear t0)|(refine sS rfl _ _ _ rfl (w.heap.size) 2 rfl (us:=[.slice na0 x.Waiting.length nc0]) (cs2:=[.int .i64 x.Next,.int .i64 x.Window,.slice na0 x.Waiting.length nc0,.int .i64 x.Done]) (S0.out.to ii) rfl kr rfl nb kr (w0:=w) ii (by simp) ?_;intro z1 HZ1 KQ1;have K1:=KQ1;have RZ1:=lH ((R0.out.to ii).but KQ1.out (by omega));clear KQ1;have e1:LeN (w.heap.size+2) z1.w.heap.size:=⟨RZ1.out.lt⟩;clear R0 S0)|(refine f7 rfl _ _ rfl (w.heap.size) 0 rfl (row:=[.int .i64 x.Next,.int .i64 x.Window,.slice na0 x.Waiting.length nc0,.int .i64 x.Done]) (HZ1.out.to ii) _ Tryz.underlying69 rfl kr kr ?_)|(refine sS rfl _ _ _ rfl (w.heap.size+1) 0 rfl (us:=[.int .i64 x.Next,.int .i64 x.Window,.slice na0 x.Waiting.length nc0,.int .i64 x.Done]) (cs2:=[.int .i64 x.Next,.int .i64 x.Window,.slice na0 x.Waiting.length nc0,.int .i64 x.Done]) (RZ1.out.to ii) rfl kr rfl nb kr (w0:=w) ii (by simp) ?_;intro zr HR KQr;have KR:=KQr;clear KQr))
 have GZ1:b8 (w.heap.size+2) z1.w zr.w:=KR.out.keeps (by omega)
 have GY0:b8 (w.heap.size+2) y0.w zr.w:=b8.trans (K1.out.keeps (by omega)) GZ1
 obtain⟨D,hD⟩:∃ D:List (Nat × Nat × (Nat→Col)),D=[(y0.w.heap.size,0,(fun _=>(0,0)))]:=⟨_,rfl⟩
 have e0:D[0]?=some (y0.w.heap.size,0,(fun _=>(0,0))):=by rw[hD];rfl
 clear hD
 have P0:∀ b,s5 D b=s5 (D.drop 0) b:=fun _=>rfl
 have C0:∀ b,((w.alloc (.cells #[.int .i64 x.Next,.int .i64 x.Window,.slice a0 x.Waiting.length c0,.int .i64 x.Done] 69)).alloc (.cells #[.int .i64 0,.int .i64 0,.slice none 0 0,.int .i64 0] 69)).heap.size≤b→b<y0.w.heap.size→s5 D b=D3 0 ((fun _=>(0,0)) b):=fun b h1 h2=>(P0 b).trans (i8 e0 h2)
 refine bodyPost_ret (v:=.agg #[.int .i64 x.Next,.int .i64 x.Window,.slice na0 x.Waiting.length nc0,.int .i64 x.Done]) (F7 (P:=Tryz.prog) rfl rfl HR.out _ Tryz.underlying69 rfl kr) rfl ⟨[.int .i64 x.Next,.int .i64 x.Window,.slice na0 x.Waiting.length nc0,.int .i64 x.Done],s5 D,rfl,⟨na0,nc0,rfl,⟨((((O0.out.re C0).mono (LeN.out (a:=w.heap.size+2))).keep GY0).mono (by omega)),HOK.out⟩⟩,b5.of⟩
theorem bp1{B:Nat}{vs:List Value}{x:R5}{w:World}(h:Enc.Rd B w vs x)(ht:Enc.tot x≤100000000) :
  Calls Tryz.prog 71 #[.agg vs.toArray] w (U0 w x):=by
 obtain⟨a0,c0,rfl,q0,hok⟩:=h
 have HT:=lH (show x.Starts.length≤100000000∧True from by
  have:Enc.tot x=(x.Rest.size:Int)+d7 x.Starts:=rfl
  have:=b7 x.Starts;have:=d9 x.Starts
  refine⟨?_,trivial⟩<;>omega)
 have HT0:=lH ht;clear ht
 have HQ0:=lH q0;clear q0
 have HOK:=lH hok;clear hok
 have S0:=lH ((i9.new w [.int .i64 x.Channel,.int .i64 x.Count,.string x.Rest,.slice a0 x.Starts.length c0] 85 w.heap.size rfl).to (ii:d5 _ ((w.alloc (.cells #[.int .i64 x.Channel,.int .i64 x.Count,.string x.Rest,.slice a0 x.Starts.length c0] 85)).alloc (.cells #[.int .i64 0,.int .i64 0,.string ⟨#[]⟩,.slice none 0 0] 85))))
 have R0:=lH ((i9.new (w.alloc (.cells #[.int .i64 x.Channel,.int .i64 x.Count,.string x.Rest,.slice a0 x.Starts.length c0] 85)) [.int .i64 0,.int .i64 0,.string ⟨#[]⟩,.slice none 0 0] 85 (w.heap.size+1) (by simp)).to (ii:d5 _ ((w.alloc (.cells #[.int .i64 x.Channel,.int .i64 x.Count,.string x.Rest,.slice a0 x.Starts.length c0] 85)).alloc (.cells #[.int .i64 0,.int .i64 0,.string ⟨#[]⟩,.slice none 0 0] 85))))
 go_enter Tryz.func71,Tryz.ntmps71
 go_wp2_with (first|(refine f8 rfl _ _ rfl w.heap.size 3 rfl (S0.out.to ii) _ rfl _ u46 rfl ?_)|(at_builtin;refine J9 (t:=46) (enc:=K0) (w0:=((w.alloc (.cells #[.int .i64 x.Channel,.int .i64 x.Count,.string x.Rest,.slice a0 x.Starts.length c0] 85)).alloc (.cells #[.int .i64 0,.int .i64 0,.string ⟨#[]⟩,.slice none 0 0] 85))) (z:=.int .i64 0) (size:=1) (bytes:=8) (n:=0) (l:=[]) rfl (.tmp _) (.tmp _) rfl u46 kr rfl (by decide) (by decide) rfl rfl HQ0.out.nilcap rfl rfl (Own.emptyAt (D9.encLen (α:=Int)) nl (by first|rfl|(simp;done))) (HQ0.out.keep ii).slF (D9.one (α:=Int)) (by have:=(HT.out.1);omega) ?_;intro na0 nc0 y0 no0 gr0;rw[List.nil_append]at no0;have O0:=lH (D0.of no0 HQ0.out.goods (0,0));clear no0 gr0;have t0:(0+x.Starts.length)=x.Starts.length:=Nat.zero_add _;simp only[t0];clear t0)|(refine sS rfl _ _ _ rfl (w.heap.size) 3 rfl (us:=[.slice na0 x.Starts.length nc0]) (cs2:=[.int .i64 x.Channel,.int .i64 x.Count,.string x.Rest,.slice na0 x.Starts.length nc0]) (S0.out.to ii) rfl kr rfl nb kr (w0:=w) ii (by simp) ?_;intro z1 HZ1 KQ1;have K1:=KQ1;have RZ1:=lH ((R0.out.to ii).but KQ1.out (by omega));clear KQ1;have e1:LeN (w.heap.size+2) z1.w.heap.size:=⟨RZ1.out.lt⟩;clear R0 S0)|(refine f7 rfl _ _ rfl (w.heap.size) 0 rfl (row:=[.int .i64 x.Channel,.int .i64 x.Count,.string x.Rest,.slice na0 x.Starts.length nc0]) (HZ1.out.to ii) _ Tryz.underlying85 rfl kr kr ?_)|(refine sS rfl _ _ _ rfl (w.heap.size+1) 0 rfl (us:=[.int .i64 x.Channel,.int .i64 x.Count,.string x.Rest,.slice na0 x.Starts.length nc0]) (cs2:=[.int .i64 x.Channel,.int .i64 x.Count,.string x.Rest,.slice na0 x.Starts.length nc0]) (RZ1.out.to ii) rfl kr rfl nb kr (w0:=w) ii (by simp) ?_;intro zr HR KQr;have KR:=KQr;clear KQr))
 have GZ1:b8 (w.heap.size+2) z1.w zr.w:=KR.out.keeps (by omega)
 have GY0:b8 (w.heap.size+2) y0.w zr.w:=b8.trans (K1.out.keeps (by omega)) GZ1
 obtain⟨D,hD⟩:∃ D:List (Nat × Nat × (Nat→Col)),D=[(y0.w.heap.size,0,(fun _=>(0,0)))]:=⟨_,rfl⟩
 have e0:D[0]?=some (y0.w.heap.size,0,(fun _=>(0,0))):=by rw[hD];rfl
 clear hD
 have P0:∀ b,s5 D b=s5 (D.drop 0) b:=fun _=>rfl
 have C0:∀ b,((w.alloc (.cells #[.int .i64 x.Channel,.int .i64 x.Count,.string x.Rest,.slice a0 x.Starts.length c0] 85)).alloc (.cells #[.int .i64 0,.int .i64 0,.string ⟨#[]⟩,.slice none 0 0] 85)).heap.size≤b→b<y0.w.heap.size→s5 D b=D3 0 ((fun _=>(0,0)) b):=fun b h1 h2=>(P0 b).trans (i8 e0 h2)
 refine bodyPost_ret (v:=.agg #[.int .i64 x.Channel,.int .i64 x.Count,.string x.Rest,.slice na0 x.Starts.length nc0]) (F7 (P:=Tryz.prog) rfl rfl HR.out _ Tryz.underlying85 rfl kr) rfl ⟨[.int .i64 x.Channel,.int .i64 x.Count,.string x.Rest,.slice na0 x.Starts.length nc0],s5 D,rfl,⟨na0,nc0,rfl,⟨((((O0.out.re C0).mono (LeN.out (a:=w.heap.size+2))).keep GY0).mono (by omega)),HOK.out⟩⟩,b5.of⟩
theorem aN4{B:Nat}{vs:List Value}{x:D4}{w:World}(h:Enc.Rd B w vs x)(ht:Enc.tot x≤100000000) :
  Calls Tryz.prog 69 #[.agg vs.toArray] w (U0 w x):=by
 obtain⟨a0,c0,rfl,q0,hok⟩:=h
 have HT:=lH (show x.Parts.length≤100000000∧True from by
  have:Enc.tot x=d7 x.Parts:=rfl
  have:=b7 x.Parts;have:=d9 x.Parts
  refine⟨?_,trivial⟩<;>omega)
 have HT0:=lH ht;clear ht
 have HQ0:=lH q0;clear q0
 have HOK:=lH hok;clear hok
 have S0:=lH ((i9.new w [.int .i64 x.File,.int .i64 x.Size,.int .i64 x.Check,.slice a0 x.Parts.length c0] 150 w.heap.size rfl).to (ii:d5 _ ((w.alloc (.cells #[.int .i64 x.File,.int .i64 x.Size,.int .i64 x.Check,.slice a0 x.Parts.length c0] 150)).alloc (.cells #[.int .i64 0,.int .i64 0,.int .i64 0,.slice none 0 0] 150))))
 have R0:=lH ((i9.new (w.alloc (.cells #[.int .i64 x.File,.int .i64 x.Size,.int .i64 x.Check,.slice a0 x.Parts.length c0] 150)) [.int .i64 0,.int .i64 0,.int .i64 0,.slice none 0 0] 150 (w.heap.size+1) (by simp)).to (ii:d5 _ ((w.alloc (.cells #[.int .i64 x.File,.int .i64 x.Size,.int .i64 x.Check,.slice a0 x.Parts.length c0] 150)).alloc (.cells #[.int .i64 0,.int .i64 0,.int .i64 0,.slice none 0 0] 150))))
 go_enter Tryz.func69,Tryz.ntmps69
 go_wp2_with (first|(refine f8 rfl _ _ rfl w.heap.size 3 rfl (S0.out.to ii) _ rfl _ Tryz.underlying30 rfl ?_)|(at_builtin;refine J9 (t:=30) (enc:=R3) (w0:=((w.alloc (.cells #[.int .i64 x.File,.int .i64 x.Size,.int .i64 x.Check,.slice a0 x.Parts.length c0] 150)).alloc (.cells #[.int .i64 0,.int .i64 0,.int .i64 0,.slice none 0 0] 150))) (z:=.string ByteArray.empty) (size:=1) (bytes:=16) (n:=0) (l:=[]) rfl (.tmp _) (.tmp _) rfl Tryz.underlying30 kr rfl (by decide) (by decide) rfl rfl HQ0.out.nilcap rfl rfl (Own.emptyAt (D9.encLen (α:=ByteArray)) nl (by first|rfl|(simp;done))) (HQ0.out.keep ii).slF (D9.one (α:=ByteArray)) (by have:=(HT.out.1);omega) ?_;intro na0 nc0 y0 no0 gr0;rw[List.nil_append]at no0;have O0:=lH (D0.of no0 HQ0.out.goods (0,0));clear no0 gr0;have t0:(0+x.Parts.length)=x.Parts.length:=Nat.zero_add _;simp only[t0];clear t0)|(refine sS rfl _ _ _ rfl (w.heap.size) 3 rfl (us:=[.slice na0 x.Parts.length nc0]) (cs2:=[.int .i64 x.File,.int .i64 x.Size,.int .i64 x.Check,.slice na0 x.Parts.length nc0]) (S0.out.to ii) rfl kr rfl nb kr (w0:=w) ii (by simp) ?_;intro z1 HZ1 KQ1;have K1:=KQ1;have RZ1:=lH ((R0.out.to ii).but KQ1.out (by omega));clear KQ1;have e1:LeN (w.heap.size+2) z1.w.heap.size:=⟨RZ1.out.lt⟩;clear R0 S0)|(refine f7 rfl _ _ rfl (w.heap.size) 0 rfl (row:=[.int .i64 x.File,.int .i64 x.Size,.int .i64 x.Check,.slice na0 x.Parts.length nc0]) (HZ1.out.to ii) _ Tryz.underlying150 rfl kr kr ?_)|(refine sS rfl _ _ _ rfl (w.heap.size+1) 0 rfl (us:=[.int .i64 x.File,.int .i64 x.Size,.int .i64 x.Check,.slice na0 x.Parts.length nc0]) (cs2:=[.int .i64 x.File,.int .i64 x.Size,.int .i64 x.Check,.slice na0 x.Parts.length nc0]) (RZ1.out.to ii) rfl kr rfl nb kr (w0:=w) ii (by simp) ?_;intro zr HR KQr;have KR:=KQr;clear KQr))
 have GZ1:b8 (w.heap.size+2) z1.w zr.w:=KR.out.keeps (by omega)
 have GY0:b8 (w.heap.size+2) y0.w zr.w:=b8.trans (K1.out.keeps (by omega)) GZ1
 obtain⟨D,hD⟩:∃ D:List (Nat × Nat × (Nat→Col)),D=[(y0.w.heap.size,0,(fun _=>(0,0)))]:=⟨_,rfl⟩
 have e0:D[0]?=some (y0.w.heap.size,0,(fun _=>(0,0))):=by rw[hD];rfl
 clear hD
 have P0:∀ b,s5 D b=s5 (D.drop 0) b:=fun _=>rfl
 have C0:∀ b,((w.alloc (.cells #[.int .i64 x.File,.int .i64 x.Size,.int .i64 x.Check,.slice a0 x.Parts.length c0] 150)).alloc (.cells #[.int .i64 0,.int .i64 0,.int .i64 0,.slice none 0 0] 150)).heap.size≤b→b<y0.w.heap.size→s5 D b=D3 0 ((fun _=>(0,0)) b):=fun b h1 h2=>(P0 b).trans (i8 e0 h2)
 refine bodyPost_ret (v:=.agg #[.int .i64 x.File,.int .i64 x.Size,.int .i64 x.Check,.slice na0 x.Parts.length nc0]) (F7 (P:=Tryz.prog) rfl rfl HR.out _ Tryz.underlying150 rfl kr) rfl ⟨[.int .i64 x.File,.int .i64 x.Size,.int .i64 x.Check,.slice na0 x.Parts.length nc0],s5 D,rfl,⟨na0,nc0,rfl,⟨((((O0.out.re C0).mono (LeN.out (a:=w.heap.size+2))).keep GY0).mono (by omega)),HOK.out⟩⟩,b5.of⟩
theorem aI0{B:Nat}{vs:List Value}{x:j7}{w:World}(h:Enc.Rd B w vs x)(ht:Enc.tot x≤100000000) :
  Calls Tryz.prog 72 #[.agg vs.toArray] w (U0 w x):=by
 obtain⟨a0,c0,rfl,q0,hok⟩:=h
 have HT:=lH (show x.Queue.length≤100000000∧True from by
  have:Enc.tot x=(x.Data.size:Int)+d7 x.Queue:=rfl
  have:=b7 x.Queue;have:=d9 x.Queue
  refine⟨?_,trivial⟩<;>omega)
 have HT0:=lH ht;clear ht
 have HQ0:=lH q0;clear q0
 have HOK:=lH hok;clear hok
 have S0:=lH ((i9.new w [.int .i64 x.File,.string x.Data,.slice a0 x.Queue.length c0,.bool x.Done] 155 w.heap.size rfl).to (ii:d5 _ ((w.alloc (.cells #[.int .i64 x.File,.string x.Data,.slice a0 x.Queue.length c0,.bool x.Done] 155)).alloc (.cells #[.int .i64 0,.string ⟨#[]⟩,.slice none 0 0,.bool false] 155))))
 have R0:=lH ((i9.new (w.alloc (.cells #[.int .i64 x.File,.string x.Data,.slice a0 x.Queue.length c0,.bool x.Done] 155)) [.int .i64 0,.string ⟨#[]⟩,.slice none 0 0,.bool false] 155 (w.heap.size+1) (by simp)).to (ii:d5 _ ((w.alloc (.cells #[.int .i64 x.File,.string x.Data,.slice a0 x.Queue.length c0,.bool x.Done] 155)).alloc (.cells #[.int .i64 0,.string ⟨#[]⟩,.slice none 0 0,.bool false] 155))))
 go_enter Tryz.func72,Tryz.ntmps72
 go_wp2_with (first|(refine f8 rfl _ _ rfl w.heap.size 2 rfl (S0.out.to ii) _ rfl _ u46 rfl ?_)|(at_builtin;refine J9 (t:=46) (enc:=K0) (w0:=((w.alloc (.cells #[.int .i64 x.File,.string x.Data,.slice a0 x.Queue.length c0,.bool x.Done] 155)).alloc (.cells #[.int .i64 0,.string ⟨#[]⟩,.slice none 0 0,.bool false] 155))) (z:=.int .i64 0) (size:=1) (bytes:=8) (n:=0) (l:=[]) rfl (.tmp _) (.tmp _) rfl u46 kr rfl (by decide) (by decide) rfl rfl HQ0.out.nilcap rfl rfl (Own.emptyAt (D9.encLen (α:=Int)) nl (by first|rfl|(simp;done))) (HQ0.out.keep ii).slF (D9.one (α:=Int)) (by have:=(HT.out.1);omega) ?_;intro na0 nc0 y0 no0 gr0;rw[List.nil_append]at no0;have O0:=lH (D0.of no0 HQ0.out.goods (0,0));clear no0 gr0;have t0:(0+x.Queue.length)=x.Queue.length:=Nat.zero_add _;simp only[t0];clear t0)|(refine sS rfl _ _ _ rfl (w.heap.size) 2 rfl (us:=[.slice na0 x.Queue.length nc0]) (cs2:=[.int .i64 x.File,.string x.Data,.slice na0 x.Queue.length nc0,.bool x.Done]) (S0.out.to ii) rfl kr rfl nb kr (w0:=w) ii (by simp) ?_;intro z1 HZ1 KQ1;have K1:=KQ1;have RZ1:=lH ((R0.out.to ii).but KQ1.out (by omega));clear KQ1;have e1:LeN (w.heap.size+2) z1.w.heap.size:=⟨RZ1.out.lt⟩;clear R0 S0)|(refine f7 rfl _ _ rfl (w.heap.size) 0 rfl (row:=[.int .i64 x.File,.string x.Data,.slice na0 x.Queue.length nc0,.bool x.Done]) (HZ1.out.to ii) _ Tryz.underlying155 rfl kr kr ?_)|(refine sS rfl _ _ _ rfl (w.heap.size+1) 0 rfl (us:=[.int .i64 x.File,.string x.Data,.slice na0 x.Queue.length nc0,.bool x.Done]) (cs2:=[.int .i64 x.File,.string x.Data,.slice na0 x.Queue.length nc0,.bool x.Done]) (RZ1.out.to ii) rfl kr rfl nb kr (w0:=w) ii (by simp) ?_;intro zr HR KQr;have KR:=KQr;clear KQr))
 have GZ1:b8 (w.heap.size+2) z1.w zr.w:=KR.out.keeps (by omega)
 have GY0:b8 (w.heap.size+2) y0.w zr.w:=b8.trans (K1.out.keeps (by omega)) GZ1
 obtain⟨D,hD⟩:∃ D:List (Nat × Nat × (Nat→Col)),D=[(y0.w.heap.size,0,(fun _=>(0,0)))]:=⟨_,rfl⟩
 have e0:D[0]?=some (y0.w.heap.size,0,(fun _=>(0,0))):=by rw[hD];rfl
 clear hD
 have P0:∀ b,s5 D b=s5 (D.drop 0) b:=fun _=>rfl
 have C0:∀ b,((w.alloc (.cells #[.int .i64 x.File,.string x.Data,.slice a0 x.Queue.length c0,.bool x.Done] 155)).alloc (.cells #[.int .i64 0,.string ⟨#[]⟩,.slice none 0 0,.bool false] 155)).heap.size≤b→b<y0.w.heap.size→s5 D b=D3 0 ((fun _=>(0,0)) b):=fun b h1 h2=>(P0 b).trans (i8 e0 h2)
 refine bodyPost_ret (v:=.agg #[.int .i64 x.File,.string x.Data,.slice na0 x.Queue.length nc0,.bool x.Done]) (F7 (P:=Tryz.prog) rfl rfl HR.out _ Tryz.underlying155 rfl kr) rfl ⟨[.int .i64 x.File,.string x.Data,.slice na0 x.Queue.length nc0,.bool x.Done],s5 D,rfl,⟨na0,nc0,rfl,⟨((((O0.out.re C0).mono (LeN.out (a:=w.heap.size+2))).keep GY0).mono (by omega)),HOK.out⟩⟩,b5.of⟩
theorem av0{B:Nat}{vs:List Value}{x:D5}{w:World}(h:Enc.Rd B w vs x)(ht:Enc.tot x≤100000000) :
  Calls Tryz.prog 70 #[.agg vs.toArray] w (U0 w x):=by
 obtain⟨A,rfl,F⟩:=h
 have HT:=lH (show x.Params.length≤100000000∧x.Limits.length≤100000000∧x.Orders.length≤100000000∧x.Done.length≤100000000∧Enc.tot x.Recorder≤100000000∧x.Asked.length≤100000000∧True from by
  have:Enc.tot x=d7 x.Params+d7 x.Limits+d7 x.Orders+d7 x.Done+Enc.tot x.Recorder+d7 x.Asked:=rfl
  have:=b7 x.Params;have:=d9 x.Params
  have:=b7 x.Limits;have:=d9 x.Limits
  have:=b7 x.Orders;have:=d9 x.Orders
  have:=b7 x.Done;have:=d9 x.Done
  have:=Enc.tot_nonneg x.Recorder
  have:Enc.tot x.Recorder=d7 x.Recorder.Records+d7 x.Recorder.Dropped:=rfl
  have:=b7 x.Recorder.Records;have:=d9 x.Recorder.Records
  have:=b7 x.Recorder.Dropped;have:=d9 x.Recorder.Dropped
  have:=b7 x.Asked;have:=d9 x.Asked
  refine⟨?_,?_,?_,?_,?_,?_,trivial⟩<;>omega)
 have HT0:=lH ht;clear ht
 have HFF:=lH F;clear F
 have S0:=lH ((i9.new w (I0 x A) 84 w.heap.size rfl).to (ii:d5 _ ((w.alloc (.cells (I0 x A).toArray 84)).alloc (.cells L6.toArray 84))))
 have R0:=lH ((i9.new (w.alloc (.cells (I0 x A).toArray 84)) L6 84 (w.heap.size+1) (by simp)).to (ii:d5 _ ((w.alloc (.cells (I0 x A).toArray 84)).alloc (.cells L6.toArray 84))))
 have H0:=lH (i9.new ((w.alloc (.cells (I0 x A).toArray 84)).alloc (.cells L6.toArray 84)) L6 84 (w.heap.size+2) (by simp))
 go_enter Tryz.func70,Tryz.ntmps70
 go_wp2_with (first|(refine f7 rfl _ _ rfl w.heap.size 0 rfl (row:=(I0 x A)) (S0.out.to ii) _ Tryz.underlying84 rfl kr kr ?_)|(refine sS rfl _ _ _ rfl (w.heap.size+2) 0 rfl (us:=(I0 x A)) (cs2:=(I0 x A)) (H0.out.to ii) rfl kr rfl nb kr (w0:=w) ii (by simp) ?_;intro z0 HH0 KQ0;have S1:=lH ((S0.out.to ii).but KQ0.out (by omega));have R1:=lH ((R0.out.to ii).but KQ0.out (by omega));clear KQ0 S0 R0 H0;have e0:LeN (w.heap.size+3) z0.w.heap.size:=⟨HH0.out.lt⟩)|(refine f8 rfl _ _ rfl w.heap.size 1 rfl (S1.out.to ii) _ rfl _ u46 rfl ?_)|(at_builtin;refine aE (α:=Int) z0.w (z:=.int .i64 0) 1 8 rfl (.tmp _) (.tmp _) rfl u46 HFF.out.q0 HT.out.1 ii ?_;intro na0 nc0 y0 O0)|(refine sS rfl _ _ _ rfl (w.heap.size+2) 1 rfl (us:=[.slice na0 x.Params.length nc0]) (cs2:=(S5 x na0 nc0 A.a1 A.c1 A.a2 A.c2 A.a3 A.c3 A.a4 A.c4 A.a5 A.c5 A.a6 A.c6)) (HH0.out.to ii) rfl kr rfl nb kr (w0:=w) ii (by simp) ?_;intro z1 HZ1 KQ1;have K1:=KQ1;have RZ1:=lH ((R1.out.to ii).but KQ1.out (by omega));have SZ1:=lH ((S1.out.to ii).but KQ1.out (by omega));clear KQ1;have e1:LeN (w.heap.size+3) z1.w.heap.size:=⟨HZ1.out.lt⟩;clear HH0 R1 S1)|(refine f8 rfl _ _ rfl w.heap.size 3 rfl (SZ1.out.to ii) _ rfl _ Tryz.underlying78 rfl ?_)|(at_builtin;refine aE (α:=V3) z1.w (z:=.agg #[.int .i64 0,.int .i64 0,.int .i64 0]) 3 24 rfl (.tmp _) (.tmp _) rfl Tryz.underlying78 HFF.out.q1 HT.out.2.1 ii ?_;intro na1 nc1 y1 O1)|(refine sS rfl _ _ _ rfl (w.heap.size+2) 3 rfl (us:=[.slice na1 x.Limits.length nc1]) (cs2:=(S5 x na0 nc0 na1 nc1 A.a2 A.c2 A.a3 A.c3 A.a4 A.c4 A.a5 A.c5 A.a6 A.c6)) (HZ1.out.to ii) rfl kr rfl nb kr (w0:=w) ii (by simp) ?_;intro z2 HZ2 KQ2;have K2:=KQ2;have RZ2:=lH ((RZ1.out.to ii).but KQ2.out (by omega));have SZ2:=lH ((SZ1.out.to ii).but KQ2.out (by omega));clear KQ2;have e2:LeN (w.heap.size+3) z2.w.heap.size:=⟨HZ2.out.lt⟩;clear HZ1 RZ1 SZ1)|(refine f8 rfl _ _ rfl w.heap.size 4 rfl (SZ2.out.to ii) _ rfl _ Tryz.underlying79 rfl ?_)|(at_builtin;refine aE (α:=A4) z2.w (z:=.agg #[.int .i64 0,.int .i64 0,.int .i64 0,.int .i64 0,.int .i64 0]) 5 40 rfl (.tmp _) (.tmp _) rfl Tryz.underlying79 HFF.out.q2 HT.out.2.2.1 ii ?_;intro na2 nc2 y2 O2)|(refine sS rfl _ _ _ rfl (w.heap.size+2) 4 rfl (us:=[.slice na2 x.Orders.length nc2]) (cs2:=(S5 x na0 nc0 na1 nc1 na2 nc2 A.a3 A.c3 A.a4 A.c4 A.a5 A.c5 A.a6 A.c6)) (HZ2.out.to ii) rfl kr rfl nb kr (w0:=w) ii (by simp) ?_;intro z3 HZ3 KQ3;have K3:=KQ3;have RZ3:=lH ((RZ2.out.to ii).but KQ3.out (by omega));have SZ3:=lH ((SZ2.out.to ii).but KQ3.out (by omega));clear KQ3;have e3:LeN (w.heap.size+3) z3.w.heap.size:=⟨HZ3.out.lt⟩;clear HZ2 RZ2 SZ2)|(refine f8 rfl _ _ rfl w.heap.size 5 rfl (SZ3.out.to ii) _ rfl _ Tryz.underlying80 rfl ?_)|(at_builtin;refine aE (α:=aa5) z3.w (z:=.agg #[.int .i64 0,.int .i64 0,.int .i64 0]) 3 24 rfl (.tmp _) (.tmp _) rfl Tryz.underlying80 HFF.out.q3 HT.out.2.2.2.1 ii ?_;intro na3 nc3 y3 O3)|(refine sS rfl _ _ _ rfl (w.heap.size+2) 5 rfl (us:=[.slice na3 x.Done.length nc3]) (cs2:=(S5 x na0 nc0 na1 nc1 na2 nc2 na3 nc3 A.a4 A.c4 A.a5 A.c5 A.a6 A.c6)) (HZ3.out.to ii) rfl kr rfl nb kr (w0:=w) ii (by simp) ?_;intro z4 HZ4 KQ4;have K4:=KQ4;have RZ4:=lH ((RZ3.out.to ii).but KQ4.out (by omega));have SZ4:=lH ((SZ3.out.to ii).but KQ4.out (by omega));clear KQ4;have e4:LeN (w.heap.size+3) z4.w.heap.size:=⟨HZ4.out.lt⟩;clear HZ3 RZ3 SZ3)|(refine f7 rfl _ _ rfl w.heap.size 6 rfl (row:=[.int .i64 x.Recorder.Room,.slice A.a4 x.Recorder.Records.length A.c4,.slice A.a5 x.Recorder.Dropped.length A.c5]) (SZ4.out.to ii) _ Tryz.underlying82 rfl kr kr ?_))
 refine(bc2 (x:=x.Recorder) ⟨A.a4,A.c4,A.a5,A.c5,rfl,HFF.out.q4.keep ii,HFF.out.q5.keep ii,HFF.out.ok.2.1⟩ (HT.out.2.2.2.2.1)).mono ?_
 rintro _ _ ⟨_,ch4,rfl,⟨b4a0,b4c0,b4a1,b4c1,rfl,no4⟩,y4,rfl⟩
 have O4:=lH no4;clear no4
 go_wp2_with (first|(refine sS rfl _ _ _ rfl (w.heap.size+2) 6 rfl (us:=[.int .i64 x.Recorder.Room,.slice b4a0 x.Recorder.Records.length b4c0,.slice b4a1 x.Recorder.Dropped.length b4c1]) (cs2:=(S5 x na0 nc0 na1 nc1 na2 nc2 na3 nc3 b4a0 b4c0 b4a1 b4c1 A.a6 A.c6)) (HZ4.out.to ii) rfl kr rfl nb kr (w0:=w) ii (by simp) ?_;intro z5 HZ5 KQ5;have K5:=KQ5;have RZ5:=lH ((RZ4.out.to ii).but KQ5.out (by omega));have SZ5:=lH ((SZ4.out.to ii).but KQ5.out (by omega));clear KQ5;have e5:LeN (w.heap.size+3) z5.w.heap.size:=⟨HZ5.out.lt⟩;clear HZ4 RZ4 SZ4)|(refine f8 rfl _ _ rfl w.heap.size 11 rfl (SZ5.out.to ii) _ rfl _ u46 rfl ?_)|(at_builtin;refine aE (α:=Int) z5.w (z:=.int .i64 0) 1 8 rfl (.tmp _) (.tmp _) rfl u46 HFF.out.q6 HT.out.2.2.2.2.2.1 ii ?_;intro na6 nc6 y5 O5)|(refine sS rfl _ _ _ rfl (w.heap.size+2) 11 rfl (us:=[.slice na6 x.Asked.length nc6]) (cs2:=(S5 x na0 nc0 na1 nc1 na2 nc2 na3 nc3 b4a0 b4c0 b4a1 b4c1 na6 nc6)) (HZ5.out.to ii) rfl kr rfl nb kr (w0:=w) ii (by simp) ?_;intro z6 HZ6 KQ6;have K6:=KQ6;have RZ6:=lH ((RZ5.out.to ii).but KQ6.out (by omega));have SZ6:=lH ((SZ5.out.to ii).but KQ6.out (by omega));clear KQ6;have e6:LeN (w.heap.size+3) z6.w.heap.size:=⟨HZ6.out.lt⟩;clear HZ5 RZ5 SZ5)|(refine f7 rfl _ _ rfl (w.heap.size+2) 0 rfl (row:=(S5 x na0 nc0 na1 nc1 na2 nc2 na3 nc3 b4a0 b4c0 b4a1 b4c1 na6 nc6)) (HZ6.out.to ii) _ Tryz.underlying84 rfl kr kr ?_)|(refine sS rfl _ _ _ rfl (w.heap.size+1) 0 rfl (us:=(S5 x na0 nc0 na1 nc1 na2 nc2 na3 nc3 b4a0 b4c0 b4a1 b4c1 na6 nc6)) (cs2:=(S5 x na0 nc0 na1 nc1 na2 nc2 na3 nc3 b4a0 b4c0 b4a1 b4c1 na6 nc6)) (RZ6.out.to ii) rfl kr rfl nb kr (w0:=w) ii (by simp) ?_;intro zr HR KQr;have KR:=KQr;clear KQr))
 have GZ6:b8 (w.heap.size+3) z6.w zr.w:=KR.out.keeps (by omega)
 have GY5:b8 (w.heap.size+3) y5.w zr.w:=b8.trans (K6.out.keeps (by omega)) GZ6
 have GZ5:b8 (w.heap.size+3) z5.w zr.w:=b8.trans (ii:b8 (w.heap.size+3) z5.w y5.w) GY5
 have GY4:b8 (w.heap.size+3) y4.w zr.w:=b8.trans (K5.out.keeps (by omega)) GZ5
 have GZ4:b8 (w.heap.size+3) z4.w zr.w:=b8.trans (ii:b8 (w.heap.size+3) z4.w y4.w) GY4
 have GY3:b8 (w.heap.size+3) y3.w zr.w:=b8.trans (K4.out.keeps (by omega)) GZ4
 have GZ3:b8 (w.heap.size+3) z3.w zr.w:=b8.trans (ii:b8 (w.heap.size+3) z3.w y3.w) GY3
 have GY2:b8 (w.heap.size+3) y2.w zr.w:=b8.trans (K3.out.keeps (by omega)) GZ3
 have GZ2:b8 (w.heap.size+3) z2.w zr.w:=b8.trans (ii:b8 (w.heap.size+3) z2.w y2.w) GY2
 have GY1:b8 (w.heap.size+3) y1.w zr.w:=b8.trans (K2.out.keeps (by omega)) GZ2
 have GZ1:b8 (w.heap.size+3) z1.w zr.w:=b8.trans (ii:b8 (w.heap.size+3) z1.w y1.w) GY1
 have GY0:b8 (w.heap.size+3) y0.w zr.w:=b8.trans (K1.out.keeps (by omega)) GZ1
 obtain⟨D,hD⟩:∃ D:List (Nat × Nat × (Nat→Col)),D=[(y0.w.heap.size,0,(fun _=>(0,0))),(y1.w.heap.size,1,(fun _=>(0,0))),(y2.w.heap.size,2,(fun _=>(0,0))),(y3.w.heap.size,3,(fun _=>(0,0))),(y4.w.heap.size,4,ch4),(y5.w.heap.size,6,(fun _=>(0,0)))]:=⟨_,rfl⟩
 have e0:D[0]?=some (y0.w.heap.size,0,(fun _=>(0,0))):=by rw[hD];rfl
 have e1:D[1]?=some (y1.w.heap.size,1,(fun _=>(0,0))):=by rw[hD];rfl
 have e2:D[2]?=some (y2.w.heap.size,2,(fun _=>(0,0))):=by rw[hD];rfl
 have e3:D[3]?=some (y3.w.heap.size,3,(fun _=>(0,0))):=by rw[hD];rfl
 have e4:D[4]?=some (y4.w.heap.size,4,ch4):=by rw[hD];rfl
 have e5:D[5]?=some (y5.w.heap.size,6,(fun _=>(0,0))):=by rw[hD];rfl
 clear hD
 have P0:∀ b,s5 D b=s5 (D.drop 0) b:=fun _=>rfl
 have C0:∀ b,z0.w.heap.size≤b→b<y0.w.heap.size→s5 D b=D3 0 ((fun _=>(0,0)) b):=fun b h1 h2=>(P0 b).trans (i8 e0 h2)
 have P1:∀ b,y0.w.heap.size≤b→s5 D b=s5 (D.drop 1) b:=fun b hb=>(P0 b).trans (f6 e0 hb)
 have C1:∀ b,z1.w.heap.size≤b→b<y1.w.heap.size→s5 D b=D3 1 ((fun _=>(0,0)) b):=fun b h1 h2=>(P1 b (Nat.le_trans K1.out.size h1)).trans (i8 e1 h2)
 have P2:∀ b,y1.w.heap.size≤b→s5 D b=s5 (D.drop 2) b:=fun b hb=>(P1 b (Nat.le_trans (Nat.le_trans K1.out.size y1.size_le) hb)).trans (f6 e1 hb)
 have C2:∀ b,z2.w.heap.size≤b→b<y2.w.heap.size→s5 D b=D3 2 ((fun _=>(0,0)) b):=fun b h1 h2=>(P2 b (Nat.le_trans K2.out.size h1)).trans (i8 e2 h2)
 have P3:∀ b,y2.w.heap.size≤b→s5 D b=s5 (D.drop 3) b:=fun b hb=>(P2 b (Nat.le_trans (Nat.le_trans K2.out.size y2.size_le) hb)).trans (f6 e2 hb)
 have C3:∀ b,z3.w.heap.size≤b→b<y3.w.heap.size→s5 D b=D3 3 ((fun _=>(0,0)) b):=fun b h1 h2=>(P3 b (Nat.le_trans K3.out.size h1)).trans (i8 e3 h2)
 have P4:∀ b,y3.w.heap.size≤b→s5 D b=s5 (D.drop 4) b:=fun b hb=>(P3 b (Nat.le_trans (Nat.le_trans K3.out.size y3.size_le) hb)).trans (f6 e3 hb)
 have C4:∀ b,z4.w.heap.size≤b→b<y4.w.heap.size→s5 D b=D3 4 (ch4 b):=fun b h1 h2=>(P4 b (Nat.le_trans K4.out.size h1)).trans (i8 e4 h2)
 have P5:∀ b,y4.w.heap.size≤b→s5 D b=s5 (D.drop 5) b:=fun b hb=>(P4 b (Nat.le_trans (Nat.le_trans K4.out.size y4.size_le) hb)).trans (f6 e4 hb)
 have C5:∀ b,z5.w.heap.size≤b→b<y5.w.heap.size→s5 D b=D3 6 ((fun _=>(0,0)) b):=fun b h1 h2=>(P5 b (Nat.le_trans K5.out.size h1)).trans (i8 e5 h2)
 have Q4:=lH ((((O4.out.re C4).mono (LeN.out (a:=w.heap.size+3))).keep GY4).mono (B2:=w.heap.size) (by omega))
 refine bodyPost_ret (v:=.agg (S5 x na0 nc0 na1 nc1 na2 nc2 na3 nc3 b4a0 b4c0 b4a1 b4c1 na6 nc6).toArray) (F7 (P:=Tryz.prog) rfl rfl HR.out _ Tryz.underlying84 rfl kr) rfl ⟨(S5 x na0 nc0 na1 nc1 na2 nc2 na3 nc3 b4a0 b4c0 b4a1 b4c1 na6 nc6),s5 D,rfl,⟨⟨na0,nc0,na1,nc1,na2,nc2,na3,nc3,b4a0,b4c0,b4a1,b4c1,na6,nc6⟩,rfl,⟨((((O0.out.re C0).mono (LeN.out (a:=w.heap.size+3))).keep GY0).mono (by omega)),((((O1.out.re C1).mono (LeN.out (a:=w.heap.size+3))).keep GY1).mono (by omega)),((((O2.out.re C2).mono (LeN.out (a:=w.heap.size+3))).keep GY2).mono (by omega)),((((O3.out.re C3).mono (LeN.out (a:=w.heap.size+3))).keep GY3).mono (by omega)),Q4.out.o0,Q4.out.o1,((((O5.out.re C5).mono (LeN.out (a:=w.heap.size+3))).keep GY5).mono (by omega)),HFF.out.ok⟩⟩,b5.of⟩
