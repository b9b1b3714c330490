/- slices. No condition but on sizes. -/
import Derived.Test.YtdoilejecjaldaaGreatHM6
import Derived.Test.YtdoilejecjaldaaGreatHOwnF
import Derived.Lib.SliceRun
import Derived.Deep.RegionLaw
import Derived.Test.YtdoilejecjaldaaGreatHOkB
import Derived.Test.YtdoilejecjaldaaGreatHM22
import Derived.Test.YtdoilejecjaldaaGreatHMarkT
import Derived.Test.YtdoilejecjaldaaGreatHRcvI
import Derived.Deep.CutRange
namespace Go.Proofs.YtdoilejecjaldaaGreat
set_option maxRecDepth 100000
set_option maxHeartbeats 4000000
set_option linter.unusedVariables false
open Go.ChangeShapes Go.WideShapes Go.ChangeAt Go.RowKit
theorem as1:∀ (us cs:List Value) (o:Nat),o+us.length≤cs.length→S6 cs o us=cs.take o++us++cs.drop (o+us.length)
 | [],cs,o,_=>by simp[S6]
 | v::r,cs,o,h=>by
  simp only[List.length_cons]at h
  rw[S6,as1 r (cs.set o v) (o+1) (by simp;omega)]
  have h1:(cs.set o v).take (o+1)=cs.take o++[v]:=by
   rw[List.take_add_one,List.take_set_of_le nl,List.getElem?_set_self (by omega)];rfl
  rw[h1,List.drop_set_of_lt (by omega),List.length_cons,show o+1+r.length=o+(r.length+1)by omega]
  simp
theorem ao9{us cs:List Value}{o:Nat}(h:o+us.length≤cs.length):(S6 cs o us).length=cs.length:=by
 rw[as1 us cs o h];simp;omega
section
variable {α:Type} {enc:α→List Value} {T size B:Nat} {w w':World} {c:Nat} {l:List α}
theorem ay1{n:Nat}(h:∀ x:α,(enc x).length=size):∀ (l:List α) (n:Nat),(l.flatMap enc).take (n*size)=(l.take n).flatMap enc
 | [],n=>by simp
 | x::r,0=>by simp
 | x::r,n+1=>by
  rw[List.flatMap_cons,List.take_succ_cons,List.flatMap_cons,← ay1 (n:=n) h r n,List.take_append,h x,List.take_of_length_le (by rw[h x,Nat.add_mul];omega),show(n+1)*size - size=n*size by rw[Nat.add_mul];omega]
theorem aL5(h:∀ x:α,(enc x).length=size):∀ (l:List α) (n:Nat),(l.flatMap enc).drop (n*size)=(l.drop n).flatMap enc
 | [],n=>by simp
 | x::r,0=>by simp
 | x::r,n+1=>by
  rw[List.flatMap_cons,List.drop_succ_cons,← aL5 h r n,List.drop_append,h x,List.drop_of_length_le (by rw[h x,Nat.add_mul];omega),show(n+1)*size - size=n*size by rw[Nat.add_mul];omega,List.nil_append]
end
def j9(b:f5):Bool:=inB b.Time 0 1000000 && (inB b.Light 0 50 && (inB b.Bad 0 1000000 && (as5 b.Drift && (au0 b.Orbit && (J2 b.Up && (J2 b.Down && (decide ((b.Plan.length:Int)≤1500) && (Q8 b.Ups && (Q8 b.Downs && (B5 b.Ground && (D7 b.Space && (decide ((b.Offered.length:Int)≤5000) && (decide ((b.Took.length:Int)≤5000))))))))))))))
theorem aG8{b:f5}(h:inB b.Time 0 1000000=false):j9 b=false:=by rw[j9,h];simp
theorem aG9{b:f5}(h:inB b.Light 0 50=false):j9 b=false:=by rw[j9,h];simp
theorem aH0{b:f5}(h:inB b.Bad 0 1000000=false):j9 b=false:=by rw[j9,h];simp
theorem aH1{b:f5}(h:as5 b.Drift=false):j9 b=false:=by rw[j9,h];simp
theorem aH2{b:f5}(h:au0 b.Orbit=false):j9 b=false:=by rw[j9,h];simp
theorem aH3{b:f5}(h:J2 b.Up=false):j9 b=false:=by rw[j9,h];simp
theorem aH4{b:f5}(h:J2 b.Down=false):j9 b=false:=by rw[j9,h];simp
theorem aH5{b:f5}(h:decide ((b.Plan.length:Int)≤1500)=false):j9 b=false:=by rw[j9,h];simp
theorem aH6{b:f5}(h:Q8 b.Ups=false):j9 b=false:=by rw[j9,h];simp
theorem aC4{b:f5}(h:Q8 b.Downs=false):j9 b=false:=by rw[j9,h];simp
theorem aC5{b:f5}(h:B5 b.Ground=false):j9 b=false:=by rw[j9,h];simp
theorem aC6{b:f5}(h:D7 b.Space=false):j9 b=false:=by rw[j9,h];simp
theorem aC7{b:f5}(h:decide ((b.Offered.length:Int)≤5000)=false):j9 b=false:=by rw[j9,h];simp
theorem aC8{b:f5}(h:decide ((b.Took.length:Int)≤5000)=false):j9 b=false:=by rw[j9,h];simp
theorem aH7{b:f5}(h1:inB b.Time 0 1000000=true)(h2:inB b.Light 0 50=true)(h3:inB b.Bad 0 1000000=true)(h4:as5 b.Drift=true)(h5:au0 b.Orbit=true)(h6:J2 b.Up=true)(h7:J2 b.Down=true)(h8:decide ((b.Plan.length:Int)≤1500)=true)(h9:Q8 b.Ups=true)(h10:Q8 b.Downs=true)(h11:B5 b.Ground=true)(h12:D7 b.Space=true)(h13:decide ((b.Offered.length:Int)≤5000)=true)(h14:decide ((b.Took.length:Int)≤5000)=true):j9 b=true:=by rw[j9,h1,h2,h3,h4,h5,h6,h7,h8,h9,h10,h11,h12,h13,h14];rfl
section
variable {P:Program} {ops:Array Oper} {rest:List Oper} {op:Oper} {a:Act} {w:World} {Q:Exit→Act→World→Prop}
theorem X1(hw:Region.wanted op (yielded ops a.tmps)=true)(ty:TypeId)(x:Operand)(ho:op.op=.load ty x)(b o:Nat)(hx:a.eval x=.pointer (some ⟨b,o,none⟩)){cs row:List Value}{T:TypeId}(H:i9 w b cs T)
  (d:TypeDesc) (hu:P.underlying ty=some d) (hd:d.isRow=true) (hi:(P.info? ty).map (·.size)=some row.length) (hr:(cs.drop o).take row.length=row)
  (h:wpList P ops Q rest (a.put op.dst (.agg row.toArray)) w):wpList P ops Q (op::rest) a w :=
 BigFrame.wpList_want hw fun _ hK=>wp_load_mid ty x ho b o hx row d (H.range hr) hu hd hi (hK _ _ h)
end
structure bS4(bd:f5):Prop where
 m0:bd.Plan.length≤100000000
 m1:bd.Ups.length≤100000000
 m2:bd.Downs.length≤100000000
 m3:bd.Ground.Offers.length≤100000000
 m4:bd.Ground.Sender.Waiting.length≤100000000
 m5:bd.Ground.Pairs.length≤100000000
 m6:bd.Ground.Records.length≤100000000
 m7:bd.Ground.Files.length≤100000000
 m8:bd.Ground.Told.length≤100000000
 m9:bd.Space.Board.Params.length≤100000000
 m10:bd.Space.Board.Limits.length≤100000000
 m11:bd.Space.Board.Orders.length≤100000000
 m12:bd.Space.Board.Done.length≤100000000
 m13:bd.Space.Board.Recorder.Records.length≤100000000
 m14:bd.Space.Board.Recorder.Dropped.length≤100000000
 m15:bd.Space.Board.Asked.length≤100000000
 m16:bd.Space.Packer.Starts.length≤100000000
 m17:bd.Space.Files.length≤100000000
 m18:bd.Space.Outs.length≤100000000
 m19:bd.Space.Sent.length≤100000000
 m20:bd.Offered.length≤100000000
 m21:bd.Took.length≤100000000
 hxf:∀ y∈bd.Ground.Files,y.Parts.length≤100000000∧∀ s∈y.Parts,s.size≤100000000
 hzr:bd.Space.Packer.Rest.size≤100000000
 hxo:∀ y∈bd.Space.Outs,y.Queue.length≤100000000∧y.Data.size≤100000000
 hxs:∀ s∈bd.Space.Files,s.size≤100000000
theorem aH8{m:f5}(ht:Enc.tot m≤100000000):bS4 m:=by
 have h:=bQ2 ht
 have hg:d7 m.Ground.Offers+d7 m.Ground.Sender.Waiting+(m.Ground.Unpacker.Rest.size:Int)+d7 m.Ground.Pairs+d7 m.Ground.Records+d7 m.Ground.Files+d7 m.Ground.Told≤100000000:=h.2.2.1
 have hsp:(d7 m.Space.Board.Params+d7 m.Space.Board.Limits+d7 m.Space.Board.Orders+d7 m.Space.Board.Done+(d7 m.Space.Board.Recorder.Records+d7 m.Space.Board.Recorder.Dropped)+d7 m.Space.Board.Asked)+((m.Space.Packer.Rest.size:Int)+d7 m.Space.Packer.Starts)+d7 m.Space.Files+d7 m.Space.Outs+d7 m.Space.Sent≤100000000:=h.2.2.2.1
 have l0:=d9 m.Plan
 have l1:=d9 m.Ups
 have l2:=d9 m.Downs
 have l3:=d9 m.Ground.Offers
 have l4:=d9 m.Ground.Sender.Waiting
 have l5:=d9 m.Ground.Pairs
 have l6:=d9 m.Ground.Records
 have l7:=d9 m.Ground.Files
 have l8:=d9 m.Ground.Told
 have l9:=d9 m.Space.Board.Params
 have l10:=d9 m.Space.Board.Limits
 have l11:=d9 m.Space.Board.Orders
 have l12:=d9 m.Space.Board.Done
 have l13:=d9 m.Space.Board.Recorder.Records
 have l14:=d9 m.Space.Board.Recorder.Dropped
 have l15:=d9 m.Space.Board.Asked
 have l16:=d9 m.Space.Packer.Starts
 have l17:=d9 m.Space.Files
 have l18:=d9 m.Space.Outs
 have l19:=d9 m.Space.Sent
 have l20:=d9 m.Offered
 have l21:=d9 m.Took
 refine⟨by omega,by omega,by omega,by omega,by omega,by omega,by omega,by omega,by omega,by omega,by omega,by omega,by omega,by omega,by omega,by omega,by omega,by omega,by omega,by omega,by omega,by omega,fun y hy=>?_,by omega,fun y hy=>?_,fun s hs=>?_⟩
 ·have hx1:Enc.tot y≤d7 m.Ground.Files:=ae9 hy
  have hx2:d7 y.Parts≤d7 m.Ground.Files:=hx1
  have hx3:=d9 y.Parts
  refine⟨by omega,fun s hs=>?_⟩
  have hs1:(s.size:Int)≤d7 y.Parts:=ae9 hs
  omega
 ·have hx1:Enc.tot y≤d7 m.Space.Outs:=ae9 hy
  have hx2:(y.Data.size:Int)+d7 y.Queue≤d7 m.Space.Outs:=hx1
  have hx3:=d9 y.Queue
  exact⟨by omega,by omega⟩
 ·have hs1:(s.size:Int)≤d7 m.Space.Files:=ae9 hs
  omega
theorem ac9{B n0 n1 n2 n3 n4 n5 n6:Nat}{a0 a1 a2 a3 a4 a5 a6:Option Addr}{c0 c1 c2 c3 c4 c5 c6:Nat}{bd:D5}{w0 w:World}(hq0:RdS B w0 a0 c0 bd.Params:=by exact sd)(hq1:RdS B w0 a1 c1 bd.Limits:=by exact sd)(hq2:RdS B w0 a2 c2 bd.Orders:=by exact sd)(hq3:RdS B w0 a3 c3 bd.Done:=by exact sd)(hq4:RdS B w0 a4 c4 bd.Recorder.Records:=by exact sd)(hq5:RdS B w0 a5 c5 bd.Recorder.Dropped:=by exact sd)(hq6:RdS B w0 a6 c6 bd.Asked:=by exact sd)[g:b8 B w0 w](ok:ar9 bd:=by exact sd)(hn0:bd.Params.length=n0:=by exact sd)(hn1:bd.Limits.length=n1:=by exact sd)(hn2:bd.Orders.length=n2:=by exact sd)(hn3:bd.Done.length=n3:=by exact sd)(hn4:bd.Recorder.Records.length=n4:=by exact sd)(hn5:bd.Recorder.Dropped.length=n5:=by exact sd)(hn6:bd.Asked.length=n6:=by exact sd)(hm0:n0≤100000000:=by exact sd)(hm1:n1≤100000000:=by exact sd)(hm2:n2≤100000000:=by exact sd)(hm3:n3≤100000000:=by exact sd)(hm4:n4≤100000000:=by exact sd)(hm5:n5≤100000000:=by exact sd)(hm6:n6≤100000000:=by exact sd)  :
  Calls Tryz.prog 207 #[.agg #[.int .i64 bd.Clock,.slice a0 n0 c0,.bool bd.Safe,.slice a1 n1 c1,.slice a2 n2 c2,.slice a3 n3 c3,.int .i64 bd.Recorder.Room,.slice a4 n4 c4,.slice a5 n5 c5,.int .i64 bd.Made,.int .i64 bd.Taken,.slice a6 n6 c6]] w (b4 w (.bool (s9 bd))):=by
 have hs0:=hq0.to g
 have hs1:=hq1.to g
 have hs2:=hq2.to g
 have hs3:=hq3.to g
 have hs4:=hq4.to g
 have hs5:=hq5.to g
 have hs6:=hq6.to g
 have HN0:=lH hn0
 have HN1:=lH hn1
 have HN2:=lH hn2
 have HN3:=lH hn3
 have HN4:=lH hn4
 have HN5:=lH hn5
 have HN6:=lH hn6
 clear hq0 hn0 hq1 hn1 hq2 hn2 hq3 hn3 hq4 hn4 hq5 hn5 hq6 hn6
 cases g1:inB bd.Clock 0 1000000
 ·have HF:=lH (show s9 bd=false from aQ8 g1)
  go_enter Tryz.func207,Tryz.ntmps207
  go_wp2_with (first|(go_at_call 114;refine gm (d6) ?_;intro x))
  go_ret
  exact b4.mk (by rw[HF.out];rfl)
 have T1:=lH g1
 by_cases h2:n0=8
 rotate_left
 ·have k2:((n0:Int) != 8)=true:=by simp;omega
  have k2b:((n0:Int) == 8)=false:=by simp;omega
  have HF:=lH (show s9 bd=false from aQ9 (by rw[HN0.out];exact k2b))
  clear h2
  go_enter Tryz.func207,Tryz.ntmps207
  go_wp2_with (first|(go_at_call 114;refine gm (d6) ?_;intro x))
  go_ret
  exact b4.mk (by rw[HF.out];rfl)
 subst h2
 have T2:=lH (show((bd.Params.length:Int) == 8)=true by rw[HN0.out];rfl)
 have hsl0:=hs0.toSlInt
 have hl0:=HN0.out
 cases g3:N1 0 65535 bd.Params
 ·have HF:=lH (show s9 bd=false from aR0 g3)
  go_enter Tryz.func207,Tryz.ntmps207
  go_wp2_with (first|(go_at_call 114;refine gm (d6) ?_;intro x)|(go_at_call 252;refine gm (ac6) ?_;intro x))
  go_ret
  exact b4.mk (by rw[HF.out];rfl)
 have T3:=lH g3
 by_cases h4:n1≤8
 rotate_left
 ·have k4:decide (8<(n1:Int))=true:=by simp;omega
  have k4b:decide ((n1:Int)≤8)=false:=by simp;omega
  have HF:=lH (show s9 bd=false from aR1 (by rw[HN1.out];exact k4b))
  clear h4
  go_enter Tryz.func207,Tryz.ntmps207
  go_wp2_with (first|(go_at_call 114;refine gm (d6) ?_;intro x)|(go_at_call 252;refine gm (ac6) ?_;intro x))
  go_ret
  exact b4.mk (by rw[HF.out];rfl)
 have k4:decide (8<(n1:Int))=false:=by simp;omega
 have k4b:decide ((n1:Int)≤8)=true:=by simp;omega
 have T4:=lH (show decide ((bd.Limits.length:Int)≤8)=true by rw[HN1.out];exact k4b)
 clear h4
 go_enter Tryz.func207,Tryz.ntmps207
 go_wp2_with (first|(go_at_call 114;refine gm (d6) ?_;intro x)|(go_at_call 252;refine gm (ac6) ?_;intro x))
 clear g1 g3 k4 k4b hsl0 hl0
 go_loopw [32] (fun v wr=>∃ k:Nat,v=.int .i64 k∧k≤n1∧Hid ((bd.Limits.drop k).all W6=bd.Limits.all W6)∧∃ X:b5 (w.alloc (.cells #[.int .i64 bd.Clock,.slice a0 8 c0,.bool bd.Safe,.slice a1 n1 c1,.slice a2 n2 c2,.slice a3 n3 c3,.int .i64 bd.Recorder.Room,.slice a4 n4 c4,.slice a5 n5 c5,.int .i64 bd.Made,.int .i64 bd.Taken,.slice a6 n6 c6] 84)),wr=X.w) (fun v _=>(n1 - intOf v).toNat)
 case atStart=>exact⟨0,rfl,by omega,rfl,b5.of⟩
 case round =>
  obtain⟨k,rfl,hk,HV,X,rfl⟩:=hrel
  by_cases h:k<n1
  ·have hkl:k<bd.Limits.length:=by have:=HN1.out;omega
   obtain⟨eb,eoff,es,rfl,ehb,ehd,eok,eh0,eh1,eh2⟩:=hs1.atTLimit hkl
   have EOK:=lH eok;clear eok
   clear hkl
   cases d1:inB es.Param 0 7
   ·have HF:=lH (show s9 bd=false from al1 (by have:=HV.out;rw[ehd.out,List.all_cons]at this;rw[← this,W6,d1]<;>rfl))
    go_wp2_with (first|(go_at_call 114;refine gm (d6) ?_;intro x))
    go_ret
    exact b4.mk (by rw[HF.out];rfl)
   cases d2:inB es.Low 0 65535
   ·have HF:=lH (show s9 bd=false from al1 (by have:=HV.out;rw[ehd.out,List.all_cons]at this;rw[← this,W6,d1,d2]<;>rfl))
    go_wp2_with (first|(go_at_call 114;refine gm (d6) ?_;intro x))
    go_ret
    exact b4.mk (by rw[HF.out];rfl)
   cases d3:inB es.High 0 65535
   ·have HF:=lH (show s9 bd=false from al1 (by have:=HV.out;rw[ehd.out,List.all_cons]at this;rw[← this,W6,d1,d2,d3]<;>rfl))
    go_wp2_with (first|(go_at_call 114;refine gm (d6) ?_;intro x))
    go_ret
    exact b4.mk (by rw[HF.out];rfl)
   have HF:=lH (show(bd.Limits.drop (k+1)).all W6=bd.Limits.all W6 by have:=HV.out;rw[ehd.out,List.all_cons]at this;rw[← this,W6,d1,d2,d3]<;>rfl)
   go_wp2_with (first|(go_at_call 114;refine gm (d6) ?_;intro x))
   go_roundw
   case rel=>exact⟨k+1,by go_num,by omega,HF,b5.of⟩
   case measure=>simp[intOf];omega
  ·have T5:=lH (show bd.Limits.all W6=true by have:=HV.out;rw[List.drop_of_length_le (by have:=HN1.out;omega)]at this;rw[← this];rfl)
   clear HV
   cases g6:inB bd.Made 0 65535
   ·have HF:=lH (show s9 bd=false from aR2 g6)
    go_wp2_with (first|(go_at_call 114;refine gm (d6) ?_;intro x))
    go_ret
    exact b4.mk (by rw[HF.out];rfl)
   have T6:=lH g6
   cases g7:inB bd.Taken 0 65535
   ·have HF:=lH (show s9 bd=false from aR3 g7)
    go_wp2_with (first|(go_at_call 114;refine gm (d6) ?_;intro x))
    go_ret
    exact b4.mk (by rw[HF.out];rfl)
   have T7:=lH g7
   have⟨htk0,htk1⟩:=ap2 T7.out
   have hl2:=HN2.out
   cases g8:L3 bd.Taken bd.Orders
   ·have HF:=lH (show s9 bd=false from aR4 g8)
    go_wp2_with (first|(go_at_call 114;refine gm (d6) ?_;intro x)|(go_at_call 253;refine gm (aC2) ?_;intro x))
    go_ret
    exact b4.mk (by rw[HF.out];rfl)
   have T8:=lH g8
   by_cases h9:n3≤5000
   rotate_left
   ·have k9:decide (5000<(n3:Int))=true:=by simp;omega
    have k9b:decide ((n3:Int)≤5000)=false:=by simp;omega
    have HF:=lH (show s9 bd=false from aR5 (by rw[HN3.out];exact k9b))
    clear h9
    go_wp2_with (first|(go_at_call 114;refine gm (d6) ?_;intro x)|(go_at_call 253;refine gm (aC2) ?_;intro x))
    go_ret
    exact b4.mk (by rw[HF.out];rfl)
   have k9:decide (5000<(n3:Int))=false:=by simp;omega
   have k9b:decide ((n3:Int)≤5000)=true:=by simp;omega
   have T9:=lH (show decide ((bd.Done.length:Int)≤5000)=true by rw[HN3.out];exact k9b)
   clear h9
   go_wp2_with (first|(go_at_call 114;refine gm (d6) ?_;intro x)|(go_at_call 253;refine gm (aC2) ?_;intro x))
   clear g6 g7 g8 k9 k9b hl2
   go_loopw [78] (fun v wr=>∃ k:Nat,v=.int .i64 k∧k≤n3∧Hid ((bd.Done.drop k).all (ac8 bd.Taken)=bd.Done.all (ac8 bd.Taken))∧∃ X:b5 (w.alloc (.cells #[.int .i64 bd.Clock,.slice a0 8 c0,.bool bd.Safe,.slice a1 n1 c1,.slice a2 n2 c2,.slice a3 n3 c3,.int .i64 bd.Recorder.Room,.slice a4 n4 c4,.slice a5 n5 c5,.int .i64 bd.Made,.int .i64 bd.Taken,.slice a6 n6 c6] 84)),wr=X.w) (fun v _=>(n3 - intOf v).toNat)
   case atStart=>exact⟨0,rfl,by omega,rfl,b5.of⟩
   case round =>
    obtain⟨k,rfl,hk,HV,X,rfl⟩:=hrel
    by_cases h:k<n3
    ·have hkl:k<bd.Done.length:=by have:=HN3.out;omega
     obtain⟨eb,eoff,es,rfl,ehb,ehd,eok,eh0,eh1,eh2⟩:=hs3.atTDone hkl
     have EOK:=lH eok;clear eok
     have⟨htt0,htt1⟩:=ap2 T7.out
     clear hkl
     cases d1:inB es.Number 0 (bd.Taken - 1)
     ·have HF:=lH (show s9 bd=false from ai5 (by have:=HV.out;rw[ehd.out,List.all_cons]at this;rw[← this,ac8,d1]<;>rfl))
      go_wp2_with (first|(go_at_call 114;refine gm (d6) ?_;intro x))
      go_ret
      exact b4.mk (by rw[HF.out];rfl)
     cases d2:inB es.Time 0 1000000
     ·have HF:=lH (show s9 bd=false from ai5 (by have:=HV.out;rw[ehd.out,List.all_cons]at this;rw[← this,ac8,d1,d2]<;>rfl))
      go_wp2_with (first|(go_at_call 114;refine gm (d6) ?_;intro x))
      go_ret
      exact b4.mk (by rw[HF.out];rfl)
     cases d3:inB es.Result 0 1
     ·have HF:=lH (show s9 bd=false from ai5 (by have:=HV.out;rw[ehd.out,List.all_cons]at this;rw[← this,ac8,d1,d2,d3]<;>rfl))
      go_wp2_with (first|(go_at_call 114;refine gm (d6) ?_;intro x))
      go_ret
      exact b4.mk (by rw[HF.out];rfl)
     have HF:=lH (show(bd.Done.drop (k+1)).all (ac8 bd.Taken)=bd.Done.all (ac8 bd.Taken)by have:=HV.out;rw[ehd.out,List.all_cons]at this;rw[← this,ac8,d1,d2,d3]<;>rfl)
     go_wp2_with (first|(go_at_call 114;refine gm (d6) ?_;intro x))
     go_roundw
     case rel=>exact⟨k+1,by go_num,by omega,HF,b5.of⟩
     case measure=>simp[intOf];omega
    ·have T10:=lH (show bd.Done.all (ac8 bd.Taken)=true by have:=HV.out;rw[List.drop_of_length_le (by have:=HN3.out;omega)]at this;rw[← this];rfl)
     clear HV
     have hr4:=HN4.out
     have hr5:=HN5.out
     cases g11:L5 bd.Recorder
     ·have HF:=lH (show s9 bd=false from aJ8 g11)
      go_wp2_with (first|(go_at_call 114;refine gm (d6) ?_;intro x)|(go_at_call 254;refine gm (aC1) ?_;intro x))
      go_ret
      exact b4.mk (by rw[HF.out];rfl)
     have T11:=lH g11
     go_wp2_with (first|(go_at_call 114;refine gm (d6) ?_;intro x)|(go_at_call 254;refine gm (aC1) ?_;intro x))
     clear g11 hr4 hr5
     go_loopw [110] (fun v wr=>∃ k:Nat,v=.int .i64 k∧k≤n4∧Hid ((bd.Recorder.Records.drop k).all (aB9 bd.Made)=bd.Recorder.Records.all (aB9 bd.Made))∧∃ X:b5 (w.alloc (.cells #[.int .i64 bd.Clock,.slice a0 8 c0,.bool bd.Safe,.slice a1 n1 c1,.slice a2 n2 c2,.slice a3 n3 c3,.int .i64 bd.Recorder.Room,.slice a4 n4 c4,.slice a5 n5 c5,.int .i64 bd.Made,.int .i64 bd.Taken,.slice a6 n6 c6] 84)),wr=X.w) (fun v _=>(n4 - intOf v).toNat)
     case atStart=>exact⟨0,rfl,by omega,rfl,b5.of⟩
     case round =>
      obtain⟨k,rfl,hk,HV,X,rfl⟩:=hrel
      by_cases h:k<n4
      ·have hkl:k<bd.Recorder.Records.length:=by have:=HN4.out;omega
       obtain⟨eb,eoff,es,rfl,ehb,ehd,eok,eh0,eh1,eh2,eh3⟩:=hs4.atTRecord hkl
       have hz9:es.Data.size≤9223372036854775807:=eok.2.2.2.1
       have EOK:=lH eok;clear eok
       clear hkl
       cases d1:decide (bd.Made≤es.Id)
       rotate_left
       ·have HF:=lH (show s9 bd=false from aJ9 (by have:=HV.out;rw[ehd.out,List.all_cons]at this;rw[← this,aB9,d1]<;>rfl))
        go_wp2_with fail
        go_ret
        exact b4.mk (by rw[HF.out];rfl)
       have HF:=lH (show(bd.Recorder.Records.drop (k+1)).all (aB9 bd.Made)=bd.Recorder.Records.all (aB9 bd.Made)by have:=HV.out;rw[ehd.out,List.all_cons]at this;rw[← this,aB9,d1]<;>rfl)
       go_wp2_with fail
       go_roundw
       case rel=>exact⟨k+1,by go_num,by omega,HF,b5.of⟩
       case measure=>simp[intOf];omega
      ·have T12:=lH (show bd.Recorder.Records.all (aB9 bd.Made)=true by have:=HV.out;rw[List.drop_of_length_le (by have:=HN4.out;omega)]at this;rw[← this];rfl)
       clear HV
       by_cases h13:n6≤5000
       rotate_left
       ·have k13:decide (5000<(n6:Int))=true:=by simp;omega
        have k13b:decide ((n6:Int)≤5000)=false:=by simp;omega
        have HF:=lH (show s9 bd=false from aK0 (by rw[HN6.out];exact k13b))
        clear h13
        go_wp2_with (first|(go_at_call 114;refine gm (d6) ?_;intro x))
        go_ret
        exact b4.mk (by rw[HF.out];rfl)
       have k13:decide (5000<(n6:Int))=false:=by simp;omega
       have k13b:decide ((n6:Int)≤5000)=true:=by simp;omega
       have T13:=lH (show decide ((bd.Asked.length:Int)≤5000)=true by rw[HN6.out];exact k13b)
       clear h13
       have hsl6:=hs6.toSlInt
       have hl6:=HN6.out
       go_wp2_with (first|(go_at_call 114;refine gm (d6) ?_;intro x)|(go_at_call 252;refine gm (ac6) ?_;intro x))
       go_ret
       exact b4.mk (by
        cases g14:N1 0 7 bd.Asked
        ·rw[aK1 g14];rfl
        ·rw[aR6 T1.out T2.out T3.out T4.out T5.out T6.out T7.out T8.out T9.out T10.out T11.out T12.out T13.out g14];rfl)
theorem bw3{B n0 n1 n2 n3 n4 n5:Nat}{a0 a1 a2 a3 a4 a5:Option Addr}{c0 c1 c2 c3 c4 c5:Nat}{bd:I8}{w0 w:World}(hq0:RdS B w0 a0 c0 bd.Offers)(hq1:RdS B w0 a1 c1 bd.Sender.Waiting)(hq2:RdS B w0 a2 c2 bd.Pairs)(hq3:RdS B w0 a3 c3 bd.Records)(hq4:RdS B w0 a4 c4 bd.Files)(hq5:RdS B w0 a5 c5 bd.Told)[g:b8 B w0 w](ok:at8 bd)(hn0:bd.Offers.length=n0)(hn1:bd.Sender.Waiting.length=n1)(hn2:bd.Pairs.length=n2)(hn3:bd.Records.length=n3)(hn4:bd.Files.length=n4)(hn5:bd.Told.length=n5)(hm0:n0≤100000000)(hm1:n1≤100000000)(hm2:n2≤100000000)(hm3:n3≤100000000)(hm4:n4≤100000000)(hm5:n5≤100000000)(hxf:∀ y∈bd.Files,y.Parts.length≤100000000∧∀ s∈y.Parts,s.size≤100000000) :
  Calls Tryz.prog 119 #[.agg #[.slice a0 n0 c0,.int .i64 bd.Sender.Next,.int .i64 bd.Sender.Window,.slice a1 n1 c1,.int .i64 bd.Sender.Done,.int .i64 bd.Notice.Expect,.bool bd.Notice.Locked,.bool bd.Notice.Again,.int .i64 bd.Unpacker.Channel,.int .i64 bd.Unpacker.Next,.bool bd.Unpacker.Synced,.string bd.Unpacker.Rest,.int .i64 bd.Unpacker.Lost,.slice a2 n2 c2,.slice a3 n3 c3,.slice a4 n4 c4,.slice a5 n5 c5]] w (b4 w (.bool (B5 bd))):=by
 have hs0:=hq0.to g
 have hs1:=hq1.to g
 have hs2:=hq2.to g
 have hs3:=hq3.to g
 have hs4:=hq4.to g
 have hs5:=hq5.to g
 have HN0:=lH hn0
 have HN1:=lH hn1
 have HN2:=lH hn2
 have HN3:=lH hn3
 have HN4:=lH hn4
 have HN5:=lH hn5
 clear hq0 hn0 hq1 hn1 hq2 hn2 hq3 hn3 hq4 hn4 hq5 hn5
 have hd1:=HN1.out
 have oks:=ok.1
 cases g1:Q7 bd.Sender
 ·have HF:=lH (show B5 bd=false from aL8 g1)
  go_enter Tryz.func119,Tryz.ntmps119
  go_wp2_with (first|(go_at_call 114;refine gm (d6) ?_;intro x)|(go_at_call 202;refine gm (ab4) ?_;intro x))
  go_ret
  exact b4.mk (by rw[HF.out];rfl)
 have T1:=lH g1
 have hzu:bd.Unpacker.Rest.size≤9223372036854775807:=ok.2.2.1.2.2.1
 cases g2:B8 bd.Unpacker
 ·have HF:=lH (show B5 bd=false from aL9 g2)
  go_enter Tryz.func119,Tryz.ntmps119
  go_wp2_with (first|(go_at_call 114;refine gm (d6) ?_;intro x)|(go_at_call 202;refine gm (ab4) ?_;intro x)|(go_at_call 203;refine gm (ad1) ?_;intro x))
  go_ret
  exact b4.mk (by rw[HF.out];rfl)
 have T2:=lH g2
 have hd2:=HN2.out
 cases g3:aj2 bd.Pairs
 ·have HF:=lH (show B5 bd=false from aM0 g3)
  go_enter Tryz.func119,Tryz.ntmps119
  go_wp2_with (first|(go_at_call 114;refine gm (d6) ?_;intro x)|(go_at_call 202;refine gm (ab4) ?_;intro x)|(go_at_call 203;refine gm (ad1) ?_;intro x)|(go_at_call 204;refine gm (ao5) ?_;intro x))
  go_ret
  exact b4.mk (by rw[HF.out];rfl)
 have T3:=lH g3
 cases g4:(bd.Unpacker.Channel == 0)
 ·have HF:=lH (show B5 bd=false from aM1 g4)
  have g4b:(bd.Unpacker.Channel != 0)=true:=by rw[bne,g4];rfl
  go_enter Tryz.func119,Tryz.ntmps119
  go_wp2_with (first|(go_at_call 114;refine gm (d6) ?_;intro x)|(go_at_call 202;refine gm (ab4) ?_;intro x)|(go_at_call 203;refine gm (ad1) ?_;intro x)|(go_at_call 204;refine gm (ao5) ?_;intro x))
  go_ret
  exact b4.mk (by rw[HF.out];rfl)
 have T4:=lH g4
 have g4b:(bd.Unpacker.Channel != 0)=false:=by rw[bne,g4];rfl
 cases g5:inB bd.Notice.Expect 0 255
 ·have HF:=lH (show B5 bd=false from aM2 g5)
  go_enter Tryz.func119,Tryz.ntmps119
  go_wp2_with (first|(go_at_call 114;refine gm (d6) ?_;intro x)|(go_at_call 202;refine gm (ab4) ?_;intro x)|(go_at_call 203;refine gm (ad1) ?_;intro x)|(go_at_call 204;refine gm (ao5) ?_;intro x))
  go_ret
  exact b4.mk (by rw[HF.out];rfl)
 have T5:=lH g5
 by_cases h6:n0≤200
 rotate_left
 ·have k6:decide (200<(n0:Int))=true:=by simp;omega
  have k6b:decide ((n0:Int)≤200)=false:=by simp;omega
  have HF:=lH (show B5 bd=false from aM3 (by rw[HN0.out];exact k6b))
  clear h6
  go_enter Tryz.func119,Tryz.ntmps119
  go_wp2_with (first|(go_at_call 114;refine gm (d6) ?_;intro x)|(go_at_call 202;refine gm (ab4) ?_;intro x)|(go_at_call 203;refine gm (ad1) ?_;intro x)|(go_at_call 204;refine gm (ao5) ?_;intro x))
  go_ret
  exact b4.mk (by rw[HF.out];rfl)
 have k6:decide (200<(n0:Int))=false:=by simp;omega
 have k6b:decide ((n0:Int)≤200)=true:=by simp;omega
 have T6:=lH (show decide ((bd.Offers.length:Int)≤200)=true by rw[HN0.out];exact k6b)
 clear h6
 have hd3:=HN3.out
 cases g7:R9 bd.Records
 ·have HF:=lH (show B5 bd=false from aM4 g7)
  go_enter Tryz.func119,Tryz.ntmps119
  go_wp2_with (first|(go_at_call 114;refine gm (d6) ?_;intro x)|(go_at_call 202;refine gm (ab4) ?_;intro x)|(go_at_call 203;refine gm (ad1) ?_;intro x)|(go_at_call 204;refine gm (ao5) ?_;intro x)|(go_at_call 205;refine gm (ag6) ?_;intro x))
  go_ret
  exact b4.mk (by rw[HF.out];rfl)
 have T7:=lH g7
 go_enter Tryz.func119,Tryz.ntmps119
 go_wp2_with (first|(go_at_call 114;refine gm (d6) ?_;intro x)|(go_at_call 202;refine gm (ab4) ?_;intro x)|(go_at_call 203;refine gm (ad1) ?_;intro x)|(go_at_call 204;refine gm (ao5) ?_;intro x)|(go_at_call 205;refine gm (ag6) ?_;intro x))
 clear g1 g2 g3 g4 g4b g5 k6 k6b g7 hd1 oks hzu hd2 hd3
 go_loopw [49] (fun v wr=>∃ k:Nat,v=.int .i64 k∧k≤n0∧Hid ((bd.Offers.drop k).all ac1=bd.Offers.all ac1)∧∃ X:b5 (w.alloc (.cells #[.slice a0 n0 c0,.int .i64 bd.Sender.Next,.int .i64 bd.Sender.Window,.slice a1 n1 c1,.int .i64 bd.Sender.Done,.int .i64 bd.Notice.Expect,.bool bd.Notice.Locked,.bool bd.Notice.Again,.int .i64 bd.Unpacker.Channel,.int .i64 bd.Unpacker.Next,.bool bd.Unpacker.Synced,.string bd.Unpacker.Rest,.int .i64 bd.Unpacker.Lost,.slice a2 n2 c2,.slice a3 n3 c3,.slice a4 n4 c4,.slice a5 n5 c5] 76)),wr=X.w) (fun v _=>(n0 - intOf v).toNat)
 case atStart=>exact⟨0,rfl,by omega,rfl,b5.of⟩
 case round =>
  obtain⟨k,rfl,hk,HV,X,rfl⟩:=hrel
  by_cases h:k<n0
  ·have hkl:k<bd.Offers.length:=by have:=HN0.out;omega
   obtain⟨eb,eoff,es,rfl,ehb,ehd,eok,eh0⟩:=hs0.atStr hkl
   clear hkl
   cases d1:inB es.size 1 40
   ·have HF:=lH (show B5 bd=false from aM5 (by have:=HV.out;rw[ehd.out,List.all_cons]at this;rw[← this,ac1,d1]<;>rfl))
    go_wp2_with (first|(go_at_call 114;refine gm (d6) ?_;intro x))
    go_ret
    exact b4.mk (by rw[HF.out];rfl)
   have HF:=lH (show(bd.Offers.drop (k+1)).all ac1=bd.Offers.all ac1 by have:=HV.out;rw[ehd.out,List.all_cons]at this;rw[← this,ac1,d1]<;>rfl)
   go_wp2_with (first|(go_at_call 114;refine gm (d6) ?_;intro x))
   go_roundw
   case rel=>exact⟨k+1,by go_num,by omega,HF,b5.of⟩
   case measure=>simp[intOf];omega
  ·have T8:=lH (show bd.Offers.all ac1=true by have:=HV.out;rw[List.drop_of_length_le (by have:=HN0.out;omega)]at this;rw[← this];rfl)
   clear HV
   by_cases h9:n4=8
   rotate_left
   ·have k9:((n4:Int) != 8)=true:=by simp;omega
    have k9b:((n4:Int) == 8)=false:=by simp;omega
    have HF:=lH (show B5 bd=false from aM6 (by rw[HN4.out];exact k9b))
    clear h9
    go_wp2_with (first|(go_at_call 114;refine gm (d6) ?_;intro x))
    go_ret
    exact b4.mk (by rw[HF.out];rfl)
   subst h9
   have T9:=lH (show((bd.Files.length:Int) == 8)=true by rw[HN4.out];rfl)
   by_cases h10:n5=8
   rotate_left
   ·have k10:((n5:Int) != 8)=true:=by simp;omega
    have k10b:((n5:Int) == 8)=false:=by simp;omega
    have HF:=lH (show B5 bd=false from aG4 (by rw[HN5.out];exact k10b))
    clear h10
    go_wp2_with (first|(go_at_call 114;refine gm (d6) ?_;intro x))
    go_ret
    exact b4.mk (by rw[HF.out];rfl)
   subst h10
   have T10:=lH (show((bd.Told.length:Int) == 8)=true by rw[HN5.out];rfl)
   go_wp2_with (first|(go_at_call 114;refine gm (d6) ?_;intro x))
   go_loopw [71] (fun v wr=>∃ k:Nat,v=.int .i64 k∧k≤8∧Hid (N6 k (bd.Files.drop k)=N6 0 bd.Files)∧∃ X:b5 (w.alloc (.cells #[.slice a0 n0 c0,.int .i64 bd.Sender.Next,.int .i64 bd.Sender.Window,.slice a1 n1 c1,.int .i64 bd.Sender.Done,.int .i64 bd.Notice.Expect,.bool bd.Notice.Locked,.bool bd.Notice.Again,.int .i64 bd.Unpacker.Channel,.int .i64 bd.Unpacker.Next,.bool bd.Unpacker.Synced,.string bd.Unpacker.Rest,.int .i64 bd.Unpacker.Lost,.slice a2 n2 c2,.slice a3 n3 c3,.slice a4 8 c4,.slice a5 8 c5] 76)),wr=X.w) (fun v _=>(8 - intOf v).toNat)
   case atStart=>exact⟨0,rfl,by omega,rfl,b5.of⟩
   case round =>
    obtain⟨k,rfl,hk,HV,X,rfl⟩:=hrel
    by_cases h:k<8
    ·have hkl:k<bd.Files.length:=by have:=HN4.out;omega
     obtain⟨eb,eoff,es,ea0,ec0,he,ehb,ehd,eq0,eok,eh0,eh1,eh2,eh3⟩:=hs4.atTFileIn hkl
     cases he
     have EOK:=lH eok;clear eok
     clear hkl
     have hx1:=(hxf es (am9 ehd.out)).1
     have hx2:=(hxf es (am9 ehd.out)).2
     obtain⟨pn,hpn⟩:∃ pn,es.Parts.length=pn:=⟨_,rfl⟩
     rw[hpn]at hx1 eh3
     cases d1:aw3 es
     ·have HF:=lH (show B5 bd=false from ap3 (by have:=HV.out;rw[ehd.out,N6]at this;rw[← this,d1]<;>rfl))
      go_wp2_with (first|(go_at_call 206;refine gm (aC0) ?_;intro x))
      go_ret
      exact b4.mk (by rw[HF.out];rfl)
     cases d2:(es.File == (k:Int))
     ·have HF:=lH (show B5 bd=false from ap3 (by have:=HV.out;rw[ehd.out,N6]at this;rw[← this,d1,d2]<;>rfl))
      have d2b:(es.File != (k:Int))=true:=by rw[bne,d2];rfl
      go_wp2_with (first|(go_at_call 206;refine gm (aC0) ?_;intro x))
      go_ret
      exact b4.mk (by rw[HF.out];rfl)
     have d2b:(es.File != (k:Int))=false:=by rw[bne,d2];rfl
     have HF:=lH (show N6 (k+1) (bd.Files.drop (k+1))=N6 0 bd.Files by have:=HV.out;rw[ehd.out,N6]at this;rw[← this,d1,d2]<;>rfl)
     go_wp2_with (first|(go_at_call 206;refine gm (aC0) ?_;intro x))
     go_roundw
     case rel=>exact⟨k+1,by go_num,by omega,HF,b5.of⟩
     case measure=>simp[intOf];omega
    ·have T11:=lH (show N6 0 bd.Files=true by have:=HV.out;rw[List.drop_of_length_le (by have:=HN4.out;omega)]at this;rw[← this];rfl)
     clear HV
     go_wp2_with (first|(go_at_call 114;refine gm (d6) ?_;intro x))
     go_ret
     exact b4.mk (by rw[aM7 T1.out T2.out T3.out T4.out T5.out T6.out T7.out T8.out T9.out T10.out T11.out];rfl)
theorem bw6{B n0 n1 n2 n3 n4 n5:Nat}{a0 a1 a2 a3 a4 a5:Option Addr}{c0 c1 c2 c3 c4 c5:Nat}{bd:I8}{w0 w:World}(hq0:RdS B w0 a0 c0 bd.Offers)(hq1:RdS B w0 a1 c1 bd.Sender.Waiting)(hq2:RdS B w0 a2 c2 bd.Pairs)(hq3:RdS B w0 a3 c3 bd.Records)(hq4:RdS B w0 a4 c4 bd.Files)(hq5:RdS B w0 a5 c5 bd.Told)[g:b8 B w0 w](ok:at8 bd)(hn0:bd.Offers.length=n0)(hn1:bd.Sender.Waiting.length=n1)(hn2:bd.Pairs.length=n2)(hn3:bd.Records.length=n3)(hn4:bd.Files.length=n4)(hn5:bd.Told.length=n5)(hm0:n0≤100000000)(hm1:n1≤100000000)(hm2:n2≤100000000)(hm3:n3≤100000000)(hm4:n4≤100000000)(hm5:n5≤100000000)(hxf:∀ y∈bd.Files,y.Parts.length≤100000000∧∀ s∈y.Parts,s.size≤100000000) :
  Calls Tryz.prog 78 #[.agg #[.slice a0 n0 c0,.int .i64 bd.Sender.Next,.int .i64 bd.Sender.Window,.slice a1 n1 c1,.int .i64 bd.Sender.Done,.int .i64 bd.Notice.Expect,.bool bd.Notice.Locked,.bool bd.Notice.Again,.int .i64 bd.Unpacker.Channel,.int .i64 bd.Unpacker.Next,.bool bd.Unpacker.Synced,.string bd.Unpacker.Rest,.int .i64 bd.Unpacker.Lost,.slice a2 n2 c2,.slice a3 n3 c3,.slice a4 n4 c4,.slice a5 n5 c5]] w (b4 w (.bool (B5 bd))):=by
 have hs0:=hq0.to g
 have hs1:=hq1.to g
 have hs2:=hq2.to g
 have hs3:=hq3.to g
 have hs4:=hq4.to g
 have hs5:=hq5.to g
 have HN0:=lH hn0
 have HN1:=lH hn1
 have HN2:=lH hn2
 have HN3:=lH hn3
 have HN4:=lH hn4
 have HN5:=lH hn5
 clear hq0 hn0 hq1 hn1 hq2 hn2 hq3 hn3 hq4 hn4 hq5 hn5
 have hd1:=HN1.out
 have oks:=ok.1
 cases g1:Q7 bd.Sender
 ·have HF:=lH (show B5 bd=false from aL8 g1)
  go_enter Tryz.func78,Tryz.ntmps78
  go_wp2_with (first|(go_at_call 73;refine gm (d8) ?_;intro x)|(go_at_call 169;refine gm (W0) ?_;intro x))
  go_ret
  exact b4.mk (by rw[HF.out];rfl)
 have T1:=lH g1
 have hzu:bd.Unpacker.Rest.size≤9223372036854775807:=ok.2.2.1.2.2.1
 cases g2:B8 bd.Unpacker
 ·have HF:=lH (show B5 bd=false from aL9 g2)
  go_enter Tryz.func78,Tryz.ntmps78
  go_wp2_with (first|(go_at_call 73;refine gm (d8) ?_;intro x)|(go_at_call 169;refine gm (W0) ?_;intro x)|(go_at_call 170;refine gm (W4) ?_;intro x))
  go_ret
  exact b4.mk (by rw[HF.out];rfl)
 have T2:=lH g2
 have hd2:=HN2.out
 cases g3:aj2 bd.Pairs
 ·have HF:=lH (show B5 bd=false from aM0 g3)
  go_enter Tryz.func78,Tryz.ntmps78
  go_wp2_with (first|(go_at_call 73;refine gm (d8) ?_;intro x)|(go_at_call 169;refine gm (W0) ?_;intro x)|(go_at_call 170;refine gm (W4) ?_;intro x)|(go_at_call 171;refine gm (ah7) ?_;intro x))
  go_ret
  exact b4.mk (by rw[HF.out];rfl)
 have T3:=lH g3
 cases g4:(bd.Unpacker.Channel == 0)
 ·have HF:=lH (show B5 bd=false from aM1 g4)
  have g4b:(bd.Unpacker.Channel != 0)=true:=by rw[bne,g4];rfl
  go_enter Tryz.func78,Tryz.ntmps78
  go_wp2_with (first|(go_at_call 73;refine gm (d8) ?_;intro x)|(go_at_call 169;refine gm (W0) ?_;intro x)|(go_at_call 170;refine gm (W4) ?_;intro x)|(go_at_call 171;refine gm (ah7) ?_;intro x))
  go_ret
  exact b4.mk (by rw[HF.out];rfl)
 have T4:=lH g4
 have g4b:(bd.Unpacker.Channel != 0)=false:=by rw[bne,g4];rfl
 cases g5:inB bd.Notice.Expect 0 255
 ·have HF:=lH (show B5 bd=false from aM2 g5)
  go_enter Tryz.func78,Tryz.ntmps78
  go_wp2_with (first|(go_at_call 73;refine gm (d8) ?_;intro x)|(go_at_call 169;refine gm (W0) ?_;intro x)|(go_at_call 170;refine gm (W4) ?_;intro x)|(go_at_call 171;refine gm (ah7) ?_;intro x))
  go_ret
  exact b4.mk (by rw[HF.out];rfl)
 have T5:=lH g5
 by_cases h6:n0≤200
 rotate_left
 ·have k6:decide (200<(n0:Int))=true:=by simp;omega
  have k6b:decide ((n0:Int)≤200)=false:=by simp;omega
  have HF:=lH (show B5 bd=false from aM3 (by rw[HN0.out];exact k6b))
  clear h6
  go_enter Tryz.func78,Tryz.ntmps78
  go_wp2_with (first|(go_at_call 73;refine gm (d8) ?_;intro x)|(go_at_call 169;refine gm (W0) ?_;intro x)|(go_at_call 170;refine gm (W4) ?_;intro x)|(go_at_call 171;refine gm (ah7) ?_;intro x))
  go_ret
  exact b4.mk (by rw[HF.out];rfl)
 have k6:decide (200<(n0:Int))=false:=by simp;omega
 have k6b:decide ((n0:Int)≤200)=true:=by simp;omega
 have T6:=lH (show decide ((bd.Offers.length:Int)≤200)=true by rw[HN0.out];exact k6b)
 clear h6
 have hd3:=HN3.out
 cases g7:R9 bd.Records
 ·have HF:=lH (show B5 bd=false from aM4 g7)
  go_enter Tryz.func78,Tryz.ntmps78
  go_wp2_with (first|(go_at_call 73;refine gm (d8) ?_;intro x)|(go_at_call 169;refine gm (W0) ?_;intro x)|(go_at_call 170;refine gm (W4) ?_;intro x)|(go_at_call 171;refine gm (ah7) ?_;intro x)|(go_at_call 172;refine gm (ag7) ?_;intro x))
  go_ret
  exact b4.mk (by rw[HF.out];rfl)
 have T7:=lH g7
 by_cases h9:n4=8
 rotate_left
 ·have k9:((n4:Int) != 8)=true:=by simp;omega
  have k9b:((n4:Int) == 8)=false:=by simp;omega
  have HF:=lH (show B5 bd=false from aM6 (by rw[HN4.out];exact k9b))
  clear h9
  go_enter Tryz.func78,Tryz.ntmps78
  go_wp2_with (first|(go_at_call 73;refine gm (d8) ?_;intro x)|(go_at_call 169;refine gm (W0) ?_;intro x)|(go_at_call 170;refine gm (W4) ?_;intro x)|(go_at_call 171;refine gm (ah7) ?_;intro x)|(go_at_call 172;refine gm (ag7) ?_;intro x))
  go_ret
  exact b4.mk (by rw[HF.out];rfl)
 subst h9
 have T9:=lH (show((bd.Files.length:Int) == 8)=true by rw[HN4.out];rfl)
 by_cases h10:n5=8
 rotate_left
 ·have k10:((n5:Int) != 8)=true:=by simp;omega
  have k10b:((n5:Int) == 8)=false:=by simp;omega
  have HF:=lH (show B5 bd=false from aG4 (by rw[HN5.out];exact k10b))
  clear h10
  go_enter Tryz.func78,Tryz.ntmps78
  go_wp2_with (first|(go_at_call 73;refine gm (d8) ?_;intro x)|(go_at_call 169;refine gm (W0) ?_;intro x)|(go_at_call 170;refine gm (W4) ?_;intro x)|(go_at_call 171;refine gm (ah7) ?_;intro x)|(go_at_call 172;refine gm (ag7) ?_;intro x))
  go_ret
  exact b4.mk (by rw[HF.out];rfl)
 subst h10
 have T10:=lH (show((bd.Told.length:Int) == 8)=true by rw[HN5.out];rfl)
 go_enter Tryz.func78,Tryz.ntmps78
 go_wp2_with (first|(go_at_call 73;refine gm (d8) ?_;intro x)|(go_at_call 169;refine gm (W0) ?_;intro x)|(go_at_call 170;refine gm (W4) ?_;intro x)|(go_at_call 171;refine gm (ah7) ?_;intro x)|(go_at_call 172;refine gm (ag7) ?_;intro x))
 clear g1 g2 g3 g4 g4b g5 k6 k6b g7 hd1 oks hzu hd2 hd3
 go_loopw [3] (fun v wr=>∃ k:Nat,v=.int .i64 k∧k≤n0∧Hid ((bd.Offers.drop k).all ac1=bd.Offers.all ac1)∧∃ X:b5 (w.alloc (.cells #[.slice a0 n0 c0,.int .i64 bd.Sender.Next,.int .i64 bd.Sender.Window,.slice a1 n1 c1,.int .i64 bd.Sender.Done,.int .i64 bd.Notice.Expect,.bool bd.Notice.Locked,.bool bd.Notice.Again,.int .i64 bd.Unpacker.Channel,.int .i64 bd.Unpacker.Next,.bool bd.Unpacker.Synced,.string bd.Unpacker.Rest,.int .i64 bd.Unpacker.Lost,.slice a2 n2 c2,.slice a3 n3 c3,.slice a4 8 c4,.slice a5 8 c5] 76)),wr=X.w) (fun v _=>(n0 - intOf v).toNat)
 case atStart=>exact⟨0,rfl,by omega,rfl,b5.of⟩
 case round =>
  obtain⟨k,rfl,hk,HV,X,rfl⟩:=hrel
  by_cases h:k<n0
  ·have hkl:k<bd.Offers.length:=by have:=HN0.out;omega
   obtain⟨eb,eoff,es,rfl,ehb,ehd,eok,eh0⟩:=hs0.atStr hkl
   clear hkl
   cases d1:inB es.size 1 40
   ·have HF:=lH (show B5 bd=false from aM5 (by have:=HV.out;rw[ehd.out,List.all_cons]at this;rw[← this,ac1,d1]<;>rfl))
    go_wp2_with (first|(go_at_call 73;refine gm (d8) ?_;intro x))
    go_ret
    exact b4.mk (by rw[HF.out];rfl)
   have HF:=lH (show(bd.Offers.drop (k+1)).all ac1=bd.Offers.all ac1 by have:=HV.out;rw[ehd.out,List.all_cons]at this;rw[← this,ac1,d1]<;>rfl)
   go_wp2_with (first|(go_at_call 73;refine gm (d8) ?_;intro x))
   go_roundw
   case rel=>exact⟨k+1,by go_num,by omega,HF,b5.of⟩
   case measure=>simp[intOf];omega
  ·have T8:=lH (show bd.Offers.all ac1=true by have:=HV.out;rw[List.drop_of_length_le (by have:=HN0.out;omega)]at this;rw[← this];rfl)
   clear HV
   go_wp2_with (first|(go_at_call 73;refine gm (d8) ?_;intro x))
   go_loopw [4] (fun v wr=>∃ k:Nat,v=.int .i64 k∧k≤8∧Hid (N6 k (bd.Files.drop k)=N6 0 bd.Files)∧∃ X:b5 (w.alloc (.cells #[.slice a0 n0 c0,.int .i64 bd.Sender.Next,.int .i64 bd.Sender.Window,.slice a1 n1 c1,.int .i64 bd.Sender.Done,.int .i64 bd.Notice.Expect,.bool bd.Notice.Locked,.bool bd.Notice.Again,.int .i64 bd.Unpacker.Channel,.int .i64 bd.Unpacker.Next,.bool bd.Unpacker.Synced,.string bd.Unpacker.Rest,.int .i64 bd.Unpacker.Lost,.slice a2 n2 c2,.slice a3 n3 c3,.slice a4 8 c4,.slice a5 8 c5] 76)),wr=X.w) (fun v _=>(8 - intOf v).toNat)
   case atStart=>exact⟨0,rfl,by omega,rfl,b5.of⟩
   case round =>
    obtain⟨k,rfl,hk,HV,X,rfl⟩:=hrel
    by_cases h:k<8
    ·have hkl:k<bd.Files.length:=by have:=HN4.out;omega
     obtain⟨eb,eoff,es,ea0,ec0,he,ehb,ehd,eq0,eok,eh0,eh1,eh2,eh3⟩:=hs4.atTFileIn hkl
     cases he
     have EOK:=lH eok;clear eok
     clear hkl
     have hx1:=(hxf es (am9 ehd.out)).1
     have hx2:=(hxf es (am9 ehd.out)).2
     obtain⟨pn,hpn⟩:∃ pn,es.Parts.length=pn:=⟨_,rfl⟩
     rw[hpn]at hx1 eh3
     cases d1:aw3 es
     ·have HF:=lH (show B5 bd=false from ap3 (by have:=HV.out;rw[ehd.out,N6]at this;rw[← this,d1]<;>rfl))
      go_wp2_with (first|(go_at_call 173;refine gm (aC3) ?_;intro x))
      go_ret
      exact b4.mk (by rw[HF.out];rfl)
     cases d2:(es.File == (k:Int))
     ·have HF:=lH (show B5 bd=false from ap3 (by have:=HV.out;rw[ehd.out,N6]at this;rw[← this,d1,d2]<;>rfl))
      have d2b:(es.File != (k:Int))=true:=by rw[bne,d2];rfl
      go_wp2_with (first|(go_at_call 173;refine gm (aC3) ?_;intro x))
      go_ret
      exact b4.mk (by rw[HF.out];rfl)
     have d2b:(es.File != (k:Int))=false:=by rw[bne,d2];rfl
     have HF:=lH (show N6 (k+1) (bd.Files.drop (k+1))=N6 0 bd.Files by have:=HV.out;rw[ehd.out,N6]at this;rw[← this,d1,d2]<;>rfl)
     go_wp2_with (first|(go_at_call 173;refine gm (aC3) ?_;intro x))
     go_roundw
     case rel=>exact⟨k+1,by go_num,by omega,HF,b5.of⟩
     case measure=>simp[intOf];omega
    ·have T11:=lH (show N6 0 bd.Files=true by have:=HV.out;rw[List.drop_of_length_le (by have:=HN4.out;omega)]at this;rw[← this];rfl)
     clear HV
     go_wp2_with (first|(go_at_call 73;refine gm (d8) ?_;intro x))
     go_ret
     exact b4.mk (by rw[aM7 T1.out T2.out T3.out T4.out T5.out T6.out T7.out T8.out T9.out T10.out T11.out];rfl)
theorem bR8{α:Type}{enc:α→List Value}(hsz:∀ x:α,(enc x).length=5){y:α}{v0 v1 v2 v3 v4:Value}(hy:enc y=[v0,v1,v2,v3,v4]):∀ (l:List α) (j:Nat),j<l.length→(((((l.flatMap enc).set (j*5) v0).set (j*5+1) v1).set (j*5+2) v2).set (j*5+3) v3).set (j*5+4) v4=(l.set j y).flatMap enc
 | [],j,h=>by simp at h
 | x::l,0,_=>by
  have hx:=hsz x
  match he:enc x,hx with
  | [u0,u1,u2,u3,u4],_=>simp[List.flatMap_cons,he,hy]
 | x::l,j+1,h=>by
  have ih:=bR8 hsz hy l j (by simpa using h)
  rw[List.flatMap_cons,List.set_cons_succ,List.flatMap_cons,← ih]
  have hx:=hsz x
  match he:enc x,hx with
  | [u0,u1,u2,u3,u4],_ =>
   rw[show(j+1)*5=j*5+5 from by omega];simp
theorem Own.put5{α:Type}{enc:α→List Value}{T B g:Nat}{w:World}{c:Nat}{l:List α}(h:Own enc T 5 B w (some ⟨g,0,none⟩) c l){j:Nat}(hj:j<l.length){y:α}{v0 v1 v2 v3 v4:Value}(hy:enc y=[v0,v1,v2,v3,v4]) :
  Own enc T 5 B ((((((w).setCell ⟨g,j*5,none⟩ v0).setCell ⟨g,j*5+1,none⟩ v1).setCell ⟨g,j*5+2,none⟩ v2).setCell ⟨g,j*5+3,none⟩ v3).setCell ⟨g,j*5+4,none⟩ v4) (some ⟨g,0,none⟩) c (l.set j y)∧w.grownBy ((((((w).setCell ⟨g,j*5,none⟩ v0).setCell ⟨g,j*5+1,none⟩ v1).setCell ⟨g,j*5+2,none⟩ v2).setCell ⟨g,j*5+3,none⟩ v3).setCell ⟨g,j*5+4,none⟩ v4) (some g):=by
 have s0:=(h.2).stored (j*5) v0
 have s1:=(s0.1).stored (j*5+1) v1
 have s2:=(s1.1).stored (j*5+2) v2
 have s3:=(s2.1).stored (j*5+3) v3
 have s4:=(s3.1).stored (j*5+4) v4
 refine⟨⟨h.1,?_⟩,(B3 (B3 (B3 (B3 s0.2 s1.2) s2.2) s3.2) s4.2)⟩
 rw[← bR8 h.1 hy l j hj,List.length_set]
 exact s4.1
theorem Sl.tFlight{w:World}{a:Option Addr}{l:List s6}(h:Sl E0 w a l){k:Nat}(hk:k<l.length) :
  ∃ b off s,a=some ⟨b,off,none⟩∧LtN b w.heap.size∧Hid (l.drop k=s::l.drop (k+1))∧(∀ (W:World) [d5 w W],W.cell? ⟨b,off+k*2,none⟩=some (.int .i64 s.At))∧(∀ (W:World) [d5 w W],W.cell? ⟨b,off+k*2+1,none⟩=some (.string s.Data)):=by
 obtain⟨s,hs,hd⟩:=ah0 hk
 obtain⟨b,off,ha,hb,hc⟩:=h k s hs
 exact⟨b,off,s,ha,⟨hb⟩,hd,j5 hb (hc 0 _ rfl),j5 hb (hc 1 _ rfl)⟩
theorem Sl.tRecord{w:World}{a:Option Addr}{l:List B4}(h:Sl V9 w a l){k:Nat}(hk:k<l.length) :
  ∃ b off s,a=some ⟨b,off,none⟩∧LtN b w.heap.size∧Hid (l.drop k=s::l.drop (k+1))∧(∀ (W:World) [d5 w W],W.cell? ⟨b,off+k*4,none⟩=some (.int .i64 s.Id))∧(∀ (W:World) [d5 w W],W.cell? ⟨b,off+k*4+1,none⟩=some (.int .i64 s.Priority))∧(∀ (W:World) [d5 w W],W.cell? ⟨b,off+k*4+2,none⟩=some (.int .i64 s.Time))∧(∀ (W:World) [d5 w W],W.cell? ⟨b,off+k*4+3,none⟩=some (.string s.Data)):=by
 obtain⟨s,hs,hd⟩:=ah0 hk
 obtain⟨b,off,ha,hb,hc⟩:=h k s hs
 exact⟨b,off,s,ha,⟨hb⟩,hd,j5 hb (hc 0 _ rfl),j5 hb (hc 1 _ rfl),j5 hb (hc 2 _ rfl),j5 hb (hc 3 _ rfl)⟩
theorem Sl.tWaiting{w:World}{a:Option Addr}{l:List A4}(h:Sl j6 w a l){k:Nat}(hk:k<l.length) :
  ∃ b off s,a=some ⟨b,off,none⟩∧LtN b w.heap.size∧Hid (l.drop k=s::l.drop (k+1))∧(∀ (W:World) [d5 w W],W.cell? ⟨b,off+k*5,none⟩=some (.int .i64 s.Number))∧(∀ (W:World) [d5 w W],W.cell? ⟨b,off+k*5+1,none⟩=some (.int .i64 s.Order.Kind))∧(∀ (W:World) [d5 w W],W.cell? ⟨b,off+k*5+2,none⟩=some (.int .i64 s.Order.At))∧(∀ (W:World) [d5 w W],W.cell? ⟨b,off+k*5+3,none⟩=some (.int .i64 s.Order.A))∧(∀ (W:World) [d5 w W],W.cell? ⟨b,off+k*5+4,none⟩=some (.int .i64 s.Order.B)):=by
 obtain⟨s,hs,hd⟩:=ah0 hk
 obtain⟨b,off,ha,hb,hc⟩:=h k s hs
 exact⟨b,off,s,ha,⟨hb⟩,hd,j5 hb (hc 0 _ rfl),j5 hb (hc 1 _ rfl),j5 hb (hc 2 _ rfl),j5 hb (hc 3 _ rfl),j5 hb (hc 4 _ rfl)⟩
def ad4(k0:Int)(i:Nat):A4:=(⟨k0+i*5,k0+i*5+1,k0+i*5+1+1,k0+i*5+1+1+1,k0+i*5+1+1+1+1⟩:A4)
theorem aP8{a:Option Addr}{n c B:Nat}{k0:Int}{l:List A4}{w:World}(hown0:Own j6 254 5 B w a c l)(hn:l.length=n)(hm:n≤100000000)(h1:0≤k0)(h2:k0≤1000000000000) :
  Calls Tryz.prog 232 #[.slice a n c,.int .i64 k0] w (ag0 j6 254 5 B w a n c ((List.range n).map (ad4 k0)) (k0+n*5)):=by
 go_enter Tryz.func232,Tryz.ntmps232
 go_wp2_with fail
 go_loopw [1,5] (fun u v wr=>∃ j:Nat,v=.int .i64 j∧u=.int .i64 (k0+j*5)∧j≤n∧w.grownBy wr (Value.ownBlock (.slice a n c))∧Own j6 254 5 B wr a c (ag5 (ad4 k0) l j)) (fun _ v _=>(n - intOf v).toNat)
 case atStart=>exact⟨0,rfl,by simp,by omega,U8 _ _,by rw[Y7];exact hown0⟩
 case round =>
  obtain⟨j,rfl,rfl,hj,hgr,hown⟩:=hrel
  by_cases h:j<n
  ·obtain⟨g,rfl,hB,hlt⟩:=hown.open (n:=n) (by rw[s7 (by omega)];omega)
   obtain⟨o0,g0⟩:=hown.cells (j:=j*5) (by rw[s7 (by omega)];omega);obtain⟨o1,g1⟩:=hown.cells (j:=j*5+1) (by rw[s7 (by omega)];omega);obtain⟨o2,g2⟩:=hown.cells (j:=j*5+2) (by rw[s7 (by omega)];omega);obtain⟨o3,g3⟩:=hown.cells (j:=j*5+3) (by rw[s7 (by omega)];omega);obtain⟨o4,g4⟩:=hown.cells (j:=j*5+4) (by rw[s7 (by omega)];omega);
   have f0:=hown.free (j*5);have f1:=hown.free (j*5+1);have f2:=hown.free (j*5+2);have f3:=hown.free (j*5+3);have f4:=hown.free (j*5+4);
   have HG:=lH hgr;clear hgr
   go_wp2_with fail
   go_roundw
   case rel =>
    have hp:=hown.put5 (j:=j) (y:=ad4 k0 j) (by rw[s7 (by omega)];omega) rfl
    exact⟨j+1,by go_num,by go_num,by omega,B3 HG.out hp.2,by rw[← ae4 (by omega)];exact hp.1⟩
   case measure=>simp[intOf];omega
  ·go_wp2_with fail
   go_ret
   obtain rfl:j=n:=by omega
   refine⟨rfl,hgr,?_⟩
   rw[← hn,ae3]at hown
   rw[← hn];exact hown
theorem aP7{a:Option Addr}{n c:Nat}{k0:Int}{w:World}(hs:Sl j6 w a ((List.range n).map (ad4 k0)))(hm:n≤100000000)(h1:0≤k0)(h2:k0≤1000000000000) :
  Calls Tryz.prog 238 #[.slice a n c,.int .i64 k0] w (b4 w (.int .i64 (k0+n*5))):=by
 go_enter Tryz.func238,Tryz.ntmps238
 go_wp2_with fail
 go_loopw [1,5] (fun u v wr=>∃ j:Nat,v=.int .i64 j∧u=.int .i64 (k0+j*5)∧j≤n∧∃ x:b5 w,wr=x.w) (fun _ v _=>(n - intOf v).toNat)
 case atStart=>exact⟨0,rfl,by simp,by omega,b5.of⟩
 case round =>
  obtain⟨j,rfl,rfl,hj,x0,rfl⟩:=hrel
  by_cases h:j<n
  ·obtain⟨b,off,s,rfl,hb,hd,e0,e1,e2,e3,e4⟩:=hs.tWaiting (k:=j) (by simpa using h)
   obtain rfl:s=ad4 k0 j:=by
    have:=congrArg (fun m=>m[0]?) hd.out
    simpa[h]using this.symm
   simp only[ad4]at e0 e1 e2 e3 e4
   clear hd
   go_wp2_with fail
   go_roundw
   case rel=>exact⟨j+1,by go_num,by go_num,by omega,b5.of⟩
   case measure=>simp[intOf];omega
  ·go_wp2_with fail
   go_ret
   obtain rfl:j=n:=by omega
   exact b4.mk rfl
theorem Sl.tLimit{w:World}{a:Option Addr}{l:List V3}(h:Sl Z9 w a l){k:Nat}(hk:k<l.length) :
  ∃ b off s,a=some ⟨b,off,none⟩∧LtN b w.heap.size∧Hid (l.drop k=s::l.drop (k+1))∧(∀ (W:World) [d5 w W],W.cell? ⟨b,off+k*3,none⟩=some (.int .i64 s.Param))∧(∀ (W:World) [d5 w W],W.cell? ⟨b,off+k*3+1,none⟩=some (.int .i64 s.Low))∧(∀ (W:World) [d5 w W],W.cell? ⟨b,off+k*3+2,none⟩=some (.int .i64 s.High)):=by
 obtain⟨s,hs,hd⟩:=ah0 hk
 obtain⟨b,off,ha,hb,hc⟩:=h k s hs
 exact⟨b,off,s,ha,⟨hb⟩,hd,j5 hb (hc 0 _ rfl),j5 hb (hc 1 _ rfl),j5 hb (hc 2 _ rfl)⟩
def aj9(k0:Int)(i:Nat):V3:=(⟨k0+i*3,k0+i*3+1,k0+i*3+1+1⟩:V3)
theorem aZ4{a:Option Addr}{n c B:Nat}{k0:Int}{l:List V3}{w:World}(hown0:Own Z9 275 3 B w a c l)(hn:l.length=n)(hm:n≤100000000)(h1:0≤k0)(h2:k0≤1000000000000) :
  Calls Tryz.prog 231 #[.slice a n c,.int .i64 k0] w (ag0 Z9 275 3 B w a n c ((List.range n).map (aj9 k0)) (k0+n*3)):=by
 go_enter Tryz.func231,Tryz.ntmps231
 go_wp2_with fail
 go_loopw [1,5] (fun u v wr=>∃ j:Nat,v=.int .i64 j∧u=.int .i64 (k0+j*3)∧j≤n∧w.grownBy wr (Value.ownBlock (.slice a n c))∧Own Z9 275 3 B wr a c (ag5 (aj9 k0) l j)) (fun _ v _=>(n - intOf v).toNat)
 case atStart=>exact⟨0,rfl,by simp,by omega,U8 _ _,by rw[Y7];exact hown0⟩
 case round =>
  obtain⟨j,rfl,rfl,hj,hgr,hown⟩:=hrel
  by_cases h:j<n
  ·obtain⟨g,rfl,hB,hlt⟩:=hown.open (n:=n) (by rw[s7 (by omega)];omega)
   obtain⟨o0,g0⟩:=hown.cells (j:=j*3) (by rw[s7 (by omega)];omega);obtain⟨o1,g1⟩:=hown.cells (j:=j*3+1) (by rw[s7 (by omega)];omega);obtain⟨o2,g2⟩:=hown.cells (j:=j*3+2) (by rw[s7 (by omega)];omega);
   have f0:=hown.free (j*3);have f1:=hown.free (j*3+1);have f2:=hown.free (j*3+2);
   have HG:=lH hgr;clear hgr
   go_wp2_with fail
   go_roundw
   case rel =>
    have hp:=hown.put3 (j:=j) (y:=aj9 k0 j) (by rw[s7 (by omega)];omega) rfl
    exact⟨j+1,by go_num,by go_num,by omega,B3 HG.out hp.2,by rw[← ae4 (by omega)];exact hp.1⟩
   case measure=>simp[intOf];omega
  ·go_wp2_with fail
   go_ret
   obtain rfl:j=n:=by omega
   refine⟨rfl,hgr,?_⟩
   rw[← hn,ae3]at hown
   rw[← hn];exact hown
theorem aZ2{a:Option Addr}{n c:Nat}{k0:Int}{w:World}(hs:Sl Z9 w a ((List.range n).map (aj9 k0)))(hm:n≤100000000)(h1:0≤k0)(h2:k0≤1000000000000) :
  Calls Tryz.prog 237 #[.slice a n c,.int .i64 k0] w (b4 w (.int .i64 (k0+n*3))):=by
 go_enter Tryz.func237,Tryz.ntmps237
 go_wp2_with fail
 go_loopw [1,5] (fun u v wr=>∃ j:Nat,v=.int .i64 j∧u=.int .i64 (k0+j*3)∧j≤n∧∃ x:b5 w,wr=x.w) (fun _ v _=>(n - intOf v).toNat)
 case atStart=>exact⟨0,rfl,by simp,by omega,b5.of⟩
 case round =>
  obtain⟨j,rfl,rfl,hj,x0,rfl⟩:=hrel
  by_cases h:j<n
  ·obtain⟨b,off,s,rfl,hb,hd,e0,e1,e2⟩:=hs.tLimit (k:=j) (by simpa using h)
   obtain rfl:s=aj9 k0 j:=by
    have:=congrArg (fun m=>m[0]?) hd.out
    simpa[h]using this.symm
   simp only[aj9]at e0 e1 e2
   clear hd
   go_wp2_with fail
   go_roundw
   case rel=>exact⟨j+1,by go_num,by go_num,by omega,b5.of⟩
   case measure=>simp[intOf];omega
  ·go_wp2_with fail
   go_ret
   obtain rfl:j=n:=by omega
   exact b4.mk rfl
theorem Sl.tDone{w:World}{a:Option Addr}{l:List aa5}(h:Sl ab0 w a l){k:Nat}(hk:k<l.length) :
  ∃ b off s,a=some ⟨b,off,none⟩∧LtN b w.heap.size∧Hid (l.drop k=s::l.drop (k+1))∧(∀ (W:World) [d5 w W],W.cell? ⟨b,off+k*3,none⟩=some (.int .i64 s.Number))∧(∀ (W:World) [d5 w W],W.cell? ⟨b,off+k*3+1,none⟩=some (.int .i64 s.Time))∧(∀ (W:World) [d5 w W],W.cell? ⟨b,off+k*3+2,none⟩=some (.int .i64 s.Result)):=by
 obtain⟨s,hs,hd⟩:=ah0 hk
 obtain⟨b,off,ha,hb,hc⟩:=h k s hs
 exact⟨b,off,s,ha,⟨hb⟩,hd,j5 hb (hc 0 _ rfl),j5 hb (hc 1 _ rfl),j5 hb (hc 2 _ rfl)⟩
def ap4(k0:Int)(i:Nat):aa5:=(⟨k0+i*3,k0+i*3+1,k0+i*3+1+1⟩:aa5)
theorem bf2{a:Option Addr}{n c B:Nat}{k0:Int}{l:List aa5}{w:World}(hown0:Own ab0 256 3 B w a c l)(hn:l.length=n)(hm:n≤100000000)(h1:0≤k0)(h2:k0≤1000000000000) :
  Calls Tryz.prog 233 #[.slice a n c,.int .i64 k0] w (ag0 ab0 256 3 B w a n c ((List.range n).map (ap4 k0)) (k0+n*3)):=by
 go_enter Tryz.func233,Tryz.ntmps233
 go_wp2_with fail
 go_loopw [1,5] (fun u v wr=>∃ j:Nat,v=.int .i64 j∧u=.int .i64 (k0+j*3)∧j≤n∧w.grownBy wr (Value.ownBlock (.slice a n c))∧Own ab0 256 3 B wr a c (ag5 (ap4 k0) l j)) (fun _ v _=>(n - intOf v).toNat)
 case atStart=>exact⟨0,rfl,by simp,by omega,U8 _ _,by rw[Y7];exact hown0⟩
 case round =>
  obtain⟨j,rfl,rfl,hj,hgr,hown⟩:=hrel
  by_cases h:j<n
  ·obtain⟨g,rfl,hB,hlt⟩:=hown.open (n:=n) (by rw[s7 (by omega)];omega)
   obtain⟨o0,g0⟩:=hown.cells (j:=j*3) (by rw[s7 (by omega)];omega);obtain⟨o1,g1⟩:=hown.cells (j:=j*3+1) (by rw[s7 (by omega)];omega);obtain⟨o2,g2⟩:=hown.cells (j:=j*3+2) (by rw[s7 (by omega)];omega);
   have f0:=hown.free (j*3);have f1:=hown.free (j*3+1);have f2:=hown.free (j*3+2);
   have HG:=lH hgr;clear hgr
   go_wp2_with fail
   go_roundw
   case rel =>
    have hp:=hown.put3 (j:=j) (y:=ap4 k0 j) (by rw[s7 (by omega)];omega) rfl
    exact⟨j+1,by go_num,by go_num,by omega,B3 HG.out hp.2,by rw[← ae4 (by omega)];exact hp.1⟩
   case measure=>simp[intOf];omega
  ·go_wp2_with fail
   go_ret
   obtain rfl:j=n:=by omega
   refine⟨rfl,hgr,?_⟩
   rw[← hn,ae3]at hown
   rw[← hn];exact hown
theorem bf0{a:Option Addr}{n c:Nat}{k0:Int}{w:World}(hs:Sl ab0 w a ((List.range n).map (ap4 k0)))(hm:n≤100000000)(h1:0≤k0)(h2:k0≤1000000000000) :
  Calls Tryz.prog 239 #[.slice a n c,.int .i64 k0] w (b4 w (.int .i64 (k0+n*3))):=by
 go_enter Tryz.func239,Tryz.ntmps239
 go_wp2_with fail
 go_loopw [1,5] (fun u v wr=>∃ j:Nat,v=.int .i64 j∧u=.int .i64 (k0+j*3)∧j≤n∧∃ x:b5 w,wr=x.w) (fun _ v _=>(n - intOf v).toNat)
 case atStart=>exact⟨0,rfl,by simp,by omega,b5.of⟩
 case round =>
  obtain⟨j,rfl,rfl,hj,x0,rfl⟩:=hrel
  by_cases h:j<n
  ·obtain⟨b,off,s,rfl,hb,hd,e0,e1,e2⟩:=hs.tDone (k:=j) (by simpa using h)
   obtain rfl:s=ap4 k0 j:=by
    have:=congrArg (fun m=>m[0]?) hd.out
    simpa[h]using this.symm
   simp only[ap4]at e0 e1 e2
   clear hd
   go_wp2_with fail
   go_roundw
   case rel=>exact⟨j+1,by go_num,by go_num,by omega,b5.of⟩
   case measure=>simp[intOf];omega
  ·go_wp2_with fail
   go_ret
   obtain rfl:j=n:=by omega
   exact b4.mk rfl
theorem Sl.tSent{w:World}{a:Option Addr}{l:List Z1}(h:Sl ae1 w a l){k:Nat}(hk:k<l.length) :
  ∃ b off s,a=some ⟨b,off,none⟩∧LtN b w.heap.size∧Hid (l.drop k=s::l.drop (k+1))∧(∀ (W:World) [d5 w W],W.cell? ⟨b,off+k*2,none⟩=some (.int .i64 s.Seq))∧(∀ (W:World) [d5 w W],W.cell? ⟨b,off+k*2+1,none⟩=some (.string s.Data)):=by
 obtain⟨s,hs,hd⟩:=ah0 hk
 obtain⟨b,off,ha,hb,hc⟩:=h k s hs
 exact⟨b,off,s,ha,⟨hb⟩,hd,j5 hb (hc 0 _ rfl),j5 hb (hc 1 _ rfl)⟩
def ae5(k0:Int)(i:Nat):s6:=⟨k0+i*2,N4 (k0+i*2+1)⟩
theorem aV6{a:Option Addr}{n c B:Nat}{k0:Int}{l:List s6}{w:World}(hown0:Own E0 124 2 B w a c l)(hn:l.length=n)(hm:n≤100000000)(h1:0≤k0)(h2:k0≤1000000000000) :
  Calls Tryz.prog 49 #[.slice a n c,.int .i64 k0] w (ag0 E0 124 2 B w a n c ((List.range n).map (ae5 k0)) (k0+n*2)):=by
 go_enter Tryz.func49,Tryz.ntmps49
 go_wp2_with fail
 go_loopw [1,5] (fun u v wr=>∃ j:Nat,v=.int .i64 j∧u=.int .i64 (k0+j*2)∧j≤n∧w.grownBy wr (Value.ownBlock (.slice a n c))∧Own E0 124 2 B wr a c (ag5 (ae5 k0) l j)) (fun _ v _=>(n - intOf v).toNat)
 case atStart=>exact⟨0,rfl,by simp,by omega,U8 _ _,by rw[Y7];exact hown0⟩
 case round =>
  obtain⟨j,rfl,rfl,hj,hgr,hown⟩:=hrel
  by_cases h:j<n
  ·obtain⟨g,rfl,hB,hlt⟩:=hown.open (n:=n) (by rw[s7 (by omega)];omega)
   obtain⟨o0,g0⟩:=hown.cells (j:=j*2) (by rw[s7 (by omega)];omega);
   have f0:=hown.free (j*2);
   have HG:=lH hgr;clear hgr
   have HO:=lH hown;clear hown
   have s0:=(HO.out.2).stored (j*2) (.int .i64 (k0+j*2))
   have HS:=lH s0.1;have HT:=lH s0.2;clear s0
   go_wp2_with fail
   refine gm (M2 (by omega)) ?_
   intro y
   have t:=aF1 HS.out y
   have hlen:(ag5 (ae5 k0) l j).length=n:=by rw[s7 (by omega)];exact hn
   have hc:=t.cellAt (n:=_) (j*2+1) (by rw[hlen];omega)
   have fL:=t.frozenAt (j*2+1)
   obtain⟨oL,gL⟩:∃ v,y.w.cell? ⟨g,j*2+1,none⟩=some v:=⟨_,hc.trans (List.getElem?_eq_getElem (by simp only[List.length_set];rw[F8 HO.out.1,hlen];omega))⟩
   have HQ:=lH (t.stored (j*2+1) (.string (N4 (k0+j*2+1))))
   clear t hc g0 f0
   go_wp2_with fail
   go_roundw
   case rel =>
    refine⟨j+1,by go_num,by go_num,by omega,B3 HG.out (B3 (B3 HT.out (am8 y _)) HQ.out.2),?_⟩
    rw[← ae4 (by omega)]
    refine⟨HO.out.1,?_⟩
    rw[← bG7 HO.out.1 (y:=ae5 k0 j) rfl _ j (by rw[hlen];omega),List.length_set]
    exact HQ.out.1
   case measure=>simp[intOf];omega
  ·go_wp2_with fail
   go_ret
   obtain rfl:j=n:=by omega
   refine⟨rfl,hgr,?_⟩
   rw[← hn,ae3]at hown
   rw[← hn];exact hown
theorem aV4{a:Option Addr}{n c:Nat}{k0:Int}{w:World}(hs:Sl E0 w a ((List.range n).map (ae5 k0)))(hm:n≤100000000)(h1:0≤k0)(h2:k0≤1000000000000) :
  Calls Tryz.prog 54 #[.slice a n c,.int .i64 k0] w (b4 w (.int .i64 (k0+n*2))):=by
 go_enter Tryz.func54,Tryz.ntmps54
 go_wp2_with fail
 go_loopw [1,5] (fun u v wr=>∃ j:Nat,v=.int .i64 j∧u=.int .i64 (k0+j*2)∧j≤n∧∃ x:b5 w,wr=x.w) (fun _ v _=>(n - intOf v).toNat)
 case atStart=>exact⟨0,rfl,by simp,by omega,b5.of⟩
 case round =>
  obtain⟨j,rfl,rfl,hj,x0,rfl⟩:=hrel
  by_cases h:j<n
  ·obtain⟨b,off,s,rfl,hb,hd,e0,e1⟩:=hs.tFlight (k:=j) (by simpa using h)
   obtain rfl:s=ae5 k0 j:=by
    have:=congrArg (fun m=>m[0]?) hd.out
    simpa[h]using this.symm
   simp only[ae5]at e0 e1
   clear hd
   have hx:((N4 (k0+j*2+1)).toList != (N4 (k0+j*2+1)).toList)=false:=by simp
   go_wp2_with (first|((with_reducible refine rl ?_);(repeat(first|go_big_quiet_step (first|(go_at_call 142;exact b4.quiet (M2 (by omega))))|simp only[hx]));refine wpQuiet_nil ?_;intro x)|(go_at_call 142;refine gm (M2 (by omega)) ?_;intro x))
   go_roundw
   case rel=>exact⟨j+1,by go_num,by go_num,by omega,b5.of⟩
   case measure=>simp[intOf];omega
  ·go_wp2_with fail
   go_ret
   obtain rfl:j=n:=by omega
   exact b4.mk rfl
def an0(k0:Int)(i:Nat):Z1:=⟨k0+i*2,N4 (k0+i*2+1)⟩
theorem bf3{a:Option Addr}{n c B:Nat}{k0:Int}{l:List Z1}{w:World}(hown0:Own ae1 272 2 B w a c l)(hn:l.length=n)(hm:n≤100000000)(h1:0≤k0)(h2:k0≤1000000000000) :
  Calls Tryz.prog 229 #[.slice a n c,.int .i64 k0] w (ag0 ae1 272 2 B w a n c ((List.range n).map (an0 k0)) (k0+n*2)):=by
 go_enter Tryz.func229,Tryz.ntmps229
 go_wp2_with fail
 go_loopw [1,5] (fun u v wr=>∃ j:Nat,v=.int .i64 j∧u=.int .i64 (k0+j*2)∧j≤n∧w.grownBy wr (Value.ownBlock (.slice a n c))∧Own ae1 272 2 B wr a c (ag5 (an0 k0) l j)) (fun _ v _=>(n - intOf v).toNat)
 case atStart=>exact⟨0,rfl,by simp,by omega,U8 _ _,by rw[Y7];exact hown0⟩
 case round =>
  obtain⟨j,rfl,rfl,hj,hgr,hown⟩:=hrel
  by_cases h:j<n
  ·obtain⟨g,rfl,hB,hlt⟩:=hown.open (n:=n) (by rw[s7 (by omega)];omega)
   obtain⟨o0,g0⟩:=hown.cells (j:=j*2) (by rw[s7 (by omega)];omega);
   have f0:=hown.free (j*2);
   have HG:=lH hgr;clear hgr
   have HO:=lH hown;clear hown
   have s0:=(HO.out.2).stored (j*2) (.int .i64 (k0+j*2))
   have HS:=lH s0.1;have HT:=lH s0.2;clear s0
   go_wp2_with fail
   refine gm (M2 (by omega)) ?_
   intro y
   have t:=aF1 HS.out y
   have hlen:(ag5 (an0 k0) l j).length=n:=by rw[s7 (by omega)];exact hn
   have hc:=t.cellAt (n:=_) (j*2+1) (by rw[hlen];omega)
   have fL:=t.frozenAt (j*2+1)
   obtain⟨oL,gL⟩:∃ v,y.w.cell? ⟨g,j*2+1,none⟩=some v:=⟨_,hc.trans (List.getElem?_eq_getElem (by simp only[List.length_set];rw[F8 HO.out.1,hlen];omega))⟩
   have HQ:=lH (t.stored (j*2+1) (.string (N4 (k0+j*2+1))))
   clear t hc g0 f0
   go_wp2_with fail
   go_roundw
   case rel =>
    refine⟨j+1,by go_num,by go_num,by omega,B3 HG.out (B3 (B3 HT.out (am8 y _)) HQ.out.2),?_⟩
    rw[← ae4 (by omega)]
    refine⟨HO.out.1,?_⟩
    rw[← bG7 HO.out.1 (y:=an0 k0 j) rfl _ j (by rw[hlen];omega),List.length_set]
    exact HQ.out.1
   case measure=>simp[intOf];omega
  ·go_wp2_with fail
   go_ret
   obtain rfl:j=n:=by omega
   refine⟨rfl,hgr,?_⟩
   rw[← hn,ae3]at hown
   rw[← hn];exact hown
theorem bf1{a:Option Addr}{n c:Nat}{k0:Int}{w:World}(hs:Sl ae1 w a ((List.range n).map (an0 k0)))(hm:n≤100000000)(h1:0≤k0)(h2:k0≤1000000000000) :
  Calls Tryz.prog 235 #[.slice a n c,.int .i64 k0] w (b4 w (.int .i64 (k0+n*2))):=by
 go_enter Tryz.func235,Tryz.ntmps235
 go_wp2_with fail
 go_loopw [1,5] (fun u v wr=>∃ j:Nat,v=.int .i64 j∧u=.int .i64 (k0+j*2)∧j≤n∧∃ x:b5 w,wr=x.w) (fun _ v _=>(n - intOf v).toNat)
 case atStart=>exact⟨0,rfl,by simp,by omega,b5.of⟩
 case round =>
  obtain⟨j,rfl,rfl,hj,x0,rfl⟩:=hrel
  by_cases h:j<n
  ·obtain⟨b,off,s,rfl,hb,hd,e0,e1⟩:=hs.tSent (k:=j) (by simpa using h)
   obtain rfl:s=an0 k0 j:=by
    have:=congrArg (fun m=>m[0]?) hd.out
    simpa[h]using this.symm
   simp only[an0]at e0 e1
   clear hd
   have hx:((N4 (k0+j*2+1)).toList != (N4 (k0+j*2+1)).toList)=false:=by simp
   go_wp2_with (first|((with_reducible refine rl ?_);(repeat(first|go_big_quiet_step (first|(go_at_call 142;exact b4.quiet (M2 (by omega))))|simp only[hx]));refine wpQuiet_nil ?_;intro x)|(go_at_call 142;refine gm (M2 (by omega)) ?_;intro x))
   go_roundw
   case rel=>exact⟨j+1,by go_num,by go_num,by omega,b5.of⟩
   case measure=>simp[intOf];omega
  ·go_wp2_with fail
   go_ret
   obtain rfl:j=n:=by omega
   exact b4.mk rfl
def ae6(k0:Int)(i:Nat):B4:=⟨k0+i*4,k0+i*4+1,k0+i*4+1+1,N4 (k0+i*4+1+1+1)⟩
theorem aV7{a:Option Addr}{n c B:Nat}{k0:Int}{l:List B4}{w:World}(hown0:Own V9 201 4 B w a c l)(hn:l.length=n)(hm:n≤100000000)(h1:0≤k0)(h2:k0≤1000000000000) :
  Calls Tryz.prog 145 #[.slice a n c,.int .i64 k0] w (ag0 V9 201 4 B w a n c ((List.range n).map (ae6 k0)) (k0+n*4)):=by
 go_enter Tryz.func145,Tryz.ntmps145
 go_wp2_with fail
 go_loopw [1,5] (fun u v wr=>∃ j:Nat,v=.int .i64 j∧u=.int .i64 (k0+j*4)∧j≤n∧w.grownBy wr (Value.ownBlock (.slice a n c))∧Own V9 201 4 B wr a c (ag5 (ae6 k0) l j)) (fun _ v _=>(n - intOf v).toNat)
 case atStart=>exact⟨0,rfl,by simp,by omega,U8 _ _,by rw[Y7];exact hown0⟩
 case round =>
  obtain⟨j,rfl,rfl,hj,hgr,hown⟩:=hrel
  by_cases h:j<n
  ·obtain⟨g,rfl,hB,hlt⟩:=hown.open (n:=n) (by rw[s7 (by omega)];omega)
   obtain⟨o0,g0⟩:=hown.cells (j:=j*4) (by rw[s7 (by omega)];omega);obtain⟨o1,g1⟩:=hown.cells (j:=j*4+1) (by rw[s7 (by omega)];omega);obtain⟨o2,g2⟩:=hown.cells (j:=j*4+2) (by rw[s7 (by omega)];omega);
   have f0:=hown.free (j*4);have f1:=hown.free (j*4+1);have f2:=hown.free (j*4+2);
   have HG:=lH hgr;clear hgr
   have HO:=lH hown;clear hown
   have s0:=(HO.out.2).stored (j*4) (.int .i64 (k0+j*4))
   have s1:=(s0.1).stored (j*4+1) (.int .i64 (k0+j*4+1))
   have s2:=(s1.1).stored (j*4+2) (.int .i64 (k0+j*4+1+1))
   have HS:=lH s2.1;have HT:=lH (B3 (B3 s0.2 s1.2) s2.2);clear s0 s1 s2
   go_wp2_with fail
   refine gm (M2 (by omega)) ?_
   intro y
   have t:=aF1 HS.out y
   have hlen:(ag5 (ae6 k0) l j).length=n:=by rw[s7 (by omega)];exact hn
   have hc:=t.cellAt (n:=_) (j*4+3) (by rw[hlen];omega)
   have fL:=t.frozenAt (j*4+3)
   obtain⟨oL,gL⟩:∃ v,y.w.cell? ⟨g,j*4+3,none⟩=some v:=⟨_,hc.trans (List.getElem?_eq_getElem (by simp only[List.length_set];rw[F8 HO.out.1,hlen];omega))⟩
   have HQ:=lH (t.stored (j*4+3) (.string (N4 (k0+j*4+1+1+1))))
   clear t hc g0 f0 g1 f1 g2 f2
   go_wp2_with fail
   go_roundw
   case rel =>
    refine⟨j+1,by go_num,by go_num,by omega,B3 HG.out (B3 (B3 HT.out (am8 y _)) HQ.out.2),?_⟩
    rw[← ae4 (by omega)]
    refine⟨HO.out.1,?_⟩
    rw[← bG8 HO.out.1 (y:=ae6 k0 j) rfl _ j (by rw[hlen];omega),List.length_set]
    exact HQ.out.1
   case measure=>simp[intOf];omega
  ·go_wp2_with fail
   go_ret
   obtain rfl:j=n:=by omega
   refine⟨rfl,hgr,?_⟩
   rw[← hn,ae3]at hown
   rw[← hn];exact hown
theorem aV5{a:Option Addr}{n c:Nat}{k0:Int}{w:World}(hs:Sl V9 w a ((List.range n).map (ae6 k0)))(hm:n≤100000000)(h1:0≤k0)(h2:k0≤1000000000000) :
  Calls Tryz.prog 153 #[.slice a n c,.int .i64 k0] w (b4 w (.int .i64 (k0+n*4))):=by
 go_enter Tryz.func153,Tryz.ntmps153
 go_wp2_with fail
 go_loopw [1,5] (fun u v wr=>∃ j:Nat,v=.int .i64 j∧u=.int .i64 (k0+j*4)∧j≤n∧∃ x:b5 w,wr=x.w) (fun _ v _=>(n - intOf v).toNat)
 case atStart=>exact⟨0,rfl,by simp,by omega,b5.of⟩
 case round =>
  obtain⟨j,rfl,rfl,hj,x0,rfl⟩:=hrel
  by_cases h:j<n
  ·obtain⟨b,off,s,rfl,hb,hd,e0,e1,e2,e3⟩:=hs.tRecord (k:=j) (by simpa using h)
   obtain rfl:s=ae6 k0 j:=by
    have:=congrArg (fun m=>m[0]?) hd.out
    simpa[h]using this.symm
   simp only[ae6]at e0 e1 e2 e3
   clear hd
   have hx:((N4 (k0+j*4+1+1+1)).toList != (N4 (k0+j*4+1+1+1)).toList)=false:=by simp
   go_wp2_with (first|((with_reducible refine rl ?_);(repeat(first|go_big_quiet_step (first|(go_at_call 142;exact b4.quiet (M2 (by omega))))|simp only[hx]));refine wpQuiet_nil ?_;intro x)|(go_at_call 142;refine gm (M2 (by omega)) ?_;intro x))
   go_roundw
   case rel=>exact⟨j+1,by go_num,by go_num,by omega,b5.of⟩
   case measure=>simp[intOf];omega
  ·go_wp2_with fail
   go_ret
   obtain rfl:j=n:=by omega
   exact b4.mk rfl
theorem be9{s:ByteArray}{w:World}(hm:s.size≤400):Calls Tryz.prog 212 #[.string s] w (b4 w (.string (strOfNums (am7 (j4 s))))):=by
 have hlen:=J6 s
 obtain⟨n,hn⟩:∃ n,s.size=n:=⟨_,rfl⟩
 have hln:(j4 s).length=n:=by omega
 have hmk:=br1 (P:=Tryz.prog) (t:=289) (e:=5) Tryz.underlying289 kr (l:=n) (c:=n) (a:=n) (b:=n) nl (by omega) rfl rfl
 go_enter Tryz.func212,Tryz.ntmps212
 go_wp2_with (first|((with_reducible refine rl ?_);(repeat(first|go_big_quiet_step (first|fail)|simp only[hn]));refine wpQuiet_nil ?_;intro x))
 go_loopw [5] (fun v wr=>∃ (m:Nat) (D:List Int),v=.int .i64 m∧m≤n∧D.length=n∧Hid ((aT6 (aF8 (j4 s)) m (n - m)).foldl (up1 orU) D=am7 (j4 s))∧Hid (ap6 wr w.heap.size D)∧∃ x:b5 w,wr=x.w) (fun v _=>(n - intOf v).toNat)
 case atStart=>exact⟨0,List.replicate n 0,rfl,by omega,by simp,lH (by have:=aB8 (j4 s);rw[hln]at this;exact this),lH (ap6.made rfl),b5.of⟩
 case round =>
  obtain⟨m,D,rfl,hm,hDn,HF,HD,x0,rfl⟩:=hrel
  by_cases hmn:m<n
  ·go_wp2_with (first|((with_reducible refine rl ?_);refine rq ?_;intro x))
   go_loopw [6] (fun v wr=>∃ (k:Nat) (D:List Int),v=.int .i64 k∧k≤8∧D.length=n∧Hid ((aT6 (aF8 (j4 s)) (m+1) (n - (m+1))).foldl (up1 orU) ((bL8 (aF8 (j4 s)) m k (8 - k)).foldl (up1 orU) D)=am7 (j4 s))∧Hid (ap6 wr w.heap.size D)∧∃ y:b5 w,wr=y.w) (fun v _=>(8 - intOf v).toNat)
   case atStart=>exact⟨0,D,rfl,by omega,hDn,lH (by have:=HF.out;rw[bF2 _ hmn,List.foldl_append]at this;exact this),HD.out.to ii,b5.of⟩
   case round =>
    obtain⟨k,D,rfl,hk,hDn,HF,HD,y,rfl⟩:=hrel
    by_cases hk8:k<8
    ·have hln:(j4 s).length=n:=by rw[hlen];exact hn
     obtain⟨q,hq9⟩:∃ x:Nat,k*n=x:=⟨_,rfl⟩
     have HQ:=lH hq9
     have hq7:q≤7*n:=hq9▸Nat.mul_le_mul_right n (by omega)
     have HOV:=lH (show(k:Int)*n=(q:Int)by rw[← hq9];exact(Int.natCast_mul k n).symm)
     clear hq9
     obtain⟨p,hp9⟩:∃ x:Nat,q+m=x:=⟨_,rfl⟩
     have HP:=lH hp9
     obtain⟨j,hj9⟩:∃ x:Nat,p / 8=x:=⟨_,rfl⟩
     have HJ:=lH hj9
     obtain⟨r,hr9⟩:∃ x:Nat,p % 8=x:=⟨_,rfl⟩
     have HR:=lH hr9
     have hjn:j<n:=by omega
     have hr8:r<8:=by omega
     have hpb:p≤4000:=by omega
     have HPE:=lH (show wrap64 (wrap64 (q:Int)+m)=(p:Int)by rw[w64 (n:=(q:Int)) (by omega) (by omega),w64 (n:=(q:Int)+m) (by omega) (by omega)];omega)
     clear hp9 hj9 hr9
     obtain⟨d,hd9⟩:∃ x:Int,D.getD m 0=x:=⟨_,rfl⟩
     have Hd:=lH hd9
     have hcell:∀ (W:World) [d5 y.w W],W.cell? ⟨w.heap.size,0+m*1,none⟩=some (.int .u8 d):=fun W g=>by rw[Nat.zero_add,Nat.mul_one,← Hd.out];exact((HD.out.to g).at (by omega)).1
     clear hd9
     have hjs:j<s.size:=by omega
     obtain⟨hb1,hdr⟩:=W8 hjs
     obtain⟨b,hb⟩:∃ b:Int,((s[j]'hjs).toNat:Int)=b:=⟨_,rfl⟩
     have hb0:0≤b:=by omega
     rw[hb]at hb1 hdr
     have Hb:=lH (show(j4 s).getD j 0=b by have:=congrArg (fun l=>l[0]?) hdr;simp only[List.getElem?_drop,Nat.add_zero,List.getElem?_cons_zero]at this;rw[List.getD,this];rfl)
     clear hdr
     have⟨hs0,hs1⟩:=bO9 hb0 hb1 r
     obtain⟨bs,hbs9⟩:∃ x:Int,b / 2 ^ r=x:=⟨_,rfl⟩
     have HS:=lH hbs9
     rw[hbs9]at hs0 hs1
     clear hbs9
     obtain⟨b1,hb19⟩:∃ x:Int,bs % 2=x:=⟨_,rfl⟩
     have HS1:=lH hb19
     clear hb19
     obtain⟨v,hv9⟩:∃ x:Int,IntKind.u8.wrap (b1*2 ^ k)=x:=⟨_,rfl⟩
     have HV:=lH hv9
     clear hv9
     obtain⟨ov,hov9⟩:∃ x:Int,orU d v=x:=⟨_,rfl⟩
     have HO:=lH hov9
     clear hov9
     go_upto_region 10 with(first|((with_reducible refine rl ?_);refine rq ?_;intro x)|(rw[HOV.out]))
     rw[HPE.out]
     refine X3 kr (T:=[16]) (Zs:=[]) (H:=[(2,[]),(3,[]),(6,[]),(7,[]),(9,[]),(10,[]),(11,[]),(13,[]),(14,[]),(15,[])]) (C:=[]) (Fs:=[(some 26,.v (.slice (some ⟨w.heap.size,0,none⟩) n n)),(some 27,.v (.int .i64 (m))),(some 28,.v (.pointer (some ⟨w.heap.size,0+m*1,none⟩))),(some 29,.v (.int .u8 (d))),(some 30,.v (.string s)),(some 31,.v (.int .i64 ((p:Int)))),(some 32,.v (.int .i64 ((j:Int)))),(some 33,.v (.int .u8 (b))),(some 34,.v (.int .i64 ((p:Int)))),(some 35,.v (.int .i64 ((r:Int)))),(some 36,.v (.int .u8 (bs))),(some 37,.v (.int .u8 (b1))),(some 38,.v (.int .i64 (k))),(some 39,.v (.int .u8 (v))),(some 40,.v (.int .u8 (ov))),(some 41,.v (.pointer (some ⟨w.heap.size,0+m*1,none⟩))),(none,.v (undef))]) kr (fun val W=>by kernel_rfl) ?ob10 ?lz10 ?pn10 ?tl10
     case ob10 =>
      refine⟨fun x=>?_,fun x=>?_,fun x=>?_,fun x=>?_,fun x=>?_,fun x=>?_,fun x=>?_,fun x=>?_,fun x=>?_,fun x=>?_,trivial⟩
      ·exact bv6 (size:=1) (o:=0) (j:=m) (n:=n) (c:=n) rfl kr Tryz.underlying289 kr hmn
      ·exact aQ3 (hcell x.w) rfl kr _ Tryz.underlying5 rfl
      ·exact aA5 (o:=.quo) (p:=.i64) (s:=(p:Int)) (q:=.i64) (t:=8) rfl kr (fun ty ty2 w=>by exact HJ.out▸by2 rfl hpb ty ty2 w)
      ·exact bH0 rfl kr Tryz.underlying9 hjs hb
      ·exact aA5 (o:=.rem) (p:=.i64) (s:=(p:Int)) (q:=.i64) (t:=8) rfl kr (fun ty ty2 w=>by exact HR.out▸by3 rfl hpb ty ty2 w)
      ·exact aA5 (o:=.shr) (p:=.u8) (s:=b) (q:=.i64) (t:=(r:Int)) rfl kr (fun ty ty2 w=>by exact HS.out▸by5 hr8 ty ty2 w)
      ·exact aA5 (o:=.and) (p:=.u8) (s:=bs) (q:=.u8) (t:=1) rfl kr (fun ty ty2 w=>by exact HS1.out▸by1 hs0 hs1 ty ty2 w)
      ·exact aA5 (o:=.shl) (p:=.u8) (s:=b1) (q:=.i64) (t:=k) rfl kr (fun ty ty2 w=>by exact HV.out▸by4 hk8 ty ty2 w)
      ·exact aA5 (o:=.or) (p:=.u8) (s:=d) (q:=.u8) (t:=v) rfl kr (fun ty ty2 w=>by exact HO.out▸bO4 ty ty2 w)
      ·exact bv6 (size:=1) (o:=0) (j:=m) (n:=n) (c:=n) rfl kr Tryz.underlying289 kr hmn
     case lz10 =>
      exact trivial
     case pn10=>exact fun _ _ _ _ _ _ h=>h
     case tl10 =>
      intro x
      refine be3 rfl ?_
      simp only[az6,au1]
      simp only[nrm,if_true]
      refine aQ6 rfl _ (.tmp 41) (.tmp 40) rfl w.heap.size (0+m*1) rfl (L2:=up1 orU D (aF8 (j4 s) m k)) (HD.out.to (ii:d5 y.w x.w)) rfl kr (by omega) (by rw[up1,aF8,Nat.zero_add,Nat.mul_one,hln,HQ.out,HP.out,HJ.out,HR.out,Hb.out,HS.out,HS1.out,HV.out,Hd.out,HO.out]) (w0:=w) ii nl ?_
      intro z hz
      have HZ:=lH hz;clear hz hcell
      (try simp only[Act.put,List.setIfInBounds_toArray])
      go_wp2_with (first|((with_reducible refine rl ?_);refine rq ?_;intro x))
      go_roundw
      case rel=>exact⟨k+1,up1 orU D (aF8 (j4 s) m k),by go_num,by omega,by rw[br4];exact hDn,lH (by have:=HF.out;rw[bL9 _ _ hk8,List.foldl_cons]at this;exact this),HZ,b5.of⟩
      case measure=>simp[intOf];omega
    ·obtain rfl:k=8:=by omega
     go_wp2_with (first|((with_reducible refine rl ?_);refine rq ?_;intro x))
     go_roundw
     case rel=>exact⟨m+1,D,by go_num,by omega,hDn,lH (by have:=HF.out; exact this),HD,b5.of⟩
     case measure=>simp[intOf];omega
  ·obtain rfl:n=m:=by omega
   have hcv:=HD.out.str (P:=Tryz.prog) (c:=n) hDn Tryz.underlying289 Tryz.underlying5 Tryz.underlying9
   have hcv1:=hcv x0.w
   clear hcv
   have HF2:=lH (show D=am7 (j4 s)by have:=HF.out;rw[Nat.sub_self]at this;exact this)
   go_wp2_with (first|((with_reducible refine rl ?_);refine rq ?_;intro x))
   go_ret
   exact b4.mk (by rw[HF2.out];rfl)
theorem bm3{s:ByteArray}{w:World}(hm:s.size≤400):Calls Tryz.prog 122 #[.string s] w (aX3 w (av2 s)):=by
 by_cases h0:s.size=0
 ·obtain rfl:s=⟨#[]⟩:=aw9 h0
  go_enter Tryz.func122,Tryz.ntmps122
  go_wp2_with (fail)
  refine bodyPost_ret (v:=.tuple #[.string ⟨#[]⟩,.int .i64 0,.bool false]) ?_ rfl (⟨0,rfl,b5.of⟩)
  simp[results,Tryz.results122,go_sem]
 have he:=al4 h0
 have HV:=lH (show av2 s=am6 (aI4 s)by rw[av2,if_neg h0])
 have hz2:(strOfNums (scr 255 (j4 s))).size≤400:=by rw[strOfNums_size,aX8,J6];exact hm
 have hz3:=bd7 s
 have HG:=bd6 s
 go_enter Tryz.func122,Tryz.ntmps122
 go_wp2_with (first|(go_at_call 213;refine gm (bs5 hm) ?_;intro y1)|(go_at_call 212;refine gm (be9 hz2) ?_;intro y2)|(go_at_call 211;refine(aY6 (by omega)).mono ?_;rintro _ _ ⟨n9,rfl,y3,rfl⟩))
 refine bodyPost_ret (v:=.tuple #[.string (an9 (am6 (aI4 s))),.int .i64 n9,.bool (am6 (aI4 s)).isSome]) ?_ rfl (⟨n9,by rw[HV.out],b5.of⟩)
 simp[results,Tryz.results122,go_sem]
theorem bl3:be2.toList=([26,207,252,29]:List UInt8):=by rw[ByteArray.toList_eq];rfl
theorem bf6{s:ByteArray}{w:World}(hm:s.size≤404):Calls Tryz.prog 210 #[.string s,.string ⟨#[26,207,252,29]⟩] w (b4 w (.bool (ak4 s))):=by
 by_cases h4:4≤s.size
 ·have c0:decide (4≤(s.size:Int))=true:=by simp;omega
  have h4i:(4:Int)≤(s.size:Int):=by omega
  have HV:=lH (show ak4 s=((s.extract 0 4).toList == ([26,207,252,29]:List UInt8))by rw[ak4,decide_eq_true h4,bl3,Bool.true_and])
  go_enter Tryz.func210,Tryz.ntmps210
  go_wp2_with (fail)
  refine bodyPost_ret (v:=.bool ((s.extract 0 4).toList == ([26,207,252,29]:List UInt8))) ?_ rfl (b4.mk (by rw[HV.out]))
  simp[results,Tryz.results210,go_sem]
 ·have c0:decide (4≤(s.size:Int))=false:=by simp;omega
  have HV:=lH (show ak4 s=false by rw[ak4,decide_eq_false h4];rfl)
  go_enter Tryz.func210,Tryz.ntmps210
  go_wp2_with (fail)
  refine bodyPost_ret (v:=.bool false) ?_ rfl (b4.mk (by rw[HV.out]))
  simp[results,Tryz.results210,go_sem]
theorem aR8{s:ByteArray}{w:World}(hm:s.size≤404):Calls Tryz.prog 121 #[.string s,.string ⟨#[26,207,252,29]⟩] w (b4 w (.bool (ak4 s))):=by
 go_enter Tryz.func121,Tryz.ntmps121
 go_wp2_with (first|(go_at_call 210;refine gm (bf6 hm) ?_;intro y9))
 go_ret
 exact b4.mk rfl
theorem bs0{s:ByteArray}{w:World}(hm:s.size≤404):Calls Tryz.prog 35 #[.string s] w (b4 w (.tuple #[.string (an9 (U9 s)),.bool (U9 s).isSome])):=by
 cases c1:ak4 s
 ·have HV:=lH (show U9 s=none by rw[U9,c1];rfl)
  go_enter Tryz.func35,Tryz.ntmps35
  go_wp2_with (first|(go_at_call 121;refine gm (aR8 hm) ?_;intro y9))
  refine bodyPost_ret (v:=.tuple #[.string ⟨#[]⟩,.bool false]) ?_ rfl (b4.mk (by rw[HV.out];rfl))
  simp[results,Tryz.results35,go_sem]
 ·have h4:4≤s.size:=by simp only[ak4,Bool.and_eq_true,decide_eq_true_eq]at c1;exact c1.1
  have h4i:(4:Int)≤(s.size:Int):=by omega
  have hz:(s.extract 4 s.size).size≤400:=by rw[ByteArray.size_extract];omega
  have HV:=lH (show U9 s=av2 (s.extract 4 s.size)by rw[U9,c1];rfl)
  go_enter Tryz.func35,Tryz.ntmps35
  go_wp2_with (first|(go_at_call 121;refine gm (aR8 hm) ?_;intro y9)|(go_at_call 122;refine(bm3 hz).mono ?_;rintro _ _ ⟨n9,rfl,y3,rfl⟩))
  refine bodyPost_ret (v:=.tuple #[.string (an9 (av2 (s.extract 4 s.size))),.bool (av2 (s.extract 4 s.size)).isSome]) ?_ rfl (b4.mk (by rw[HV.out]))
  simp[results,Tryz.results35,go_sem]
