/- The contract of what says whether a board is valid, the reference's. No condition but on sizes. -/
import Derived.Test.YtdoilejecjaldaaGreatHOkB
namespace Go.Proofs.YtdoilejecjaldaaGreat
set_option maxRecDepth 100000
set_option maxHeartbeats 4000000
set_option linter.unusedVariables false
open Go.ChangeShapes Go.WideShapes Go.ChangeAt Go.RowKit
theorem ad2{B n0 n1 n2 n3 n4 n5 n6:Nat}{a0 a1 a2 a3 a4 a5 a6:Option Addr}{c0 c1 c2 c3 c4 c5 c6:Nat}{bd:D5}{w0 w:World}(hq0:RdS B w0 a0 c0 bd.Params:=by exact sd)(hq1:RdS B w0 a1 c1 bd.Limits:=by exact sd)(hq2:RdS B w0 a2 c2 bd.Orders:=by exact sd)(hq3:RdS B w0 a3 c3 bd.Done:=by exact sd)(hq4:RdS B w0 a4 c4 bd.Recorder.Records:=by exact sd)(hq5:RdS B w0 a5 c5 bd.Recorder.Dropped:=by exact sd)(hq6:RdS B w0 a6 c6 bd.Asked:=by exact sd)[g:b8 B w0 w](ok:ar9 bd:=by exact sd)(hn0:bd.Params.length=n0:=by exact sd)(hn1:bd.Limits.length=n1:=by exact sd)(hn2:bd.Orders.length=n2:=by exact sd)(hn3:bd.Done.length=n3:=by exact sd)(hn4:bd.Recorder.Records.length=n4:=by exact sd)(hn5:bd.Recorder.Dropped.length=n5:=by exact sd)(hn6:bd.Asked.length=n6:=by exact sd)(hm0:n0≤100000000:=by exact sd)(hm1:n1≤100000000:=by exact sd)(hm2:n2≤100000000:=by exact sd)(hm3:n3≤100000000:=by exact sd)(hm4:n4≤100000000:=by exact sd)(hm5:n5≤100000000:=by exact sd)(hm6:n6≤100000000:=by exact sd)  :
  Calls Tryz.prog 174 #[.agg #[.int .i64 bd.Clock,.slice a0 n0 c0,.bool bd.Safe,.slice a1 n1 c1,.slice a2 n2 c2,.slice a3 n3 c3,.int .i64 bd.Recorder.Room,.slice a4 n4 c4,.slice a5 n5 c5,.int .i64 bd.Made,.int .i64 bd.Taken,.slice a6 n6 c6]] w (b4 w (.bool (s9 bd))):=by
 have hs0:=hq0.to g
 have hs1:=hq1.to g
 have hs2:=hq2.to g
 have hs3:=hq3.to g
 have hs4:=hq4.to g
 have hs5:=hq5.to g
 have hs6:=hq6.to g
 have HN0:=lH hn0
 have HN1:=lH hn1
 have HN2:=lH hn2
 have HN3:=lH hn3
 have HN4:=lH hn4
 have HN5:=lH hn5
 have HN6:=lH hn6
 clear hq0 hn0 hq1 hn1 hq2 hn2 hq3 hn3 hq4 hn4 hq5 hn5 hq6 hn6
 cases g1:inB bd.Clock 0 1000000
 ·have HF:=lH (show s9 bd=false from aQ8 g1)
  go_enter Tryz.func174,Tryz.ntmps174
  go_wp2_with (first|(go_at_call 73;refine gm (d8) ?_;intro x))
  go_ret
  exact b4.mk (by rw[HF.out];rfl)
 have T1:=lH g1
 by_cases h2:n0=8
 rotate_left
 ·have k2:((n0:Int) != 8)=true:=by simp;omega
  have k2b:((n0:Int) == 8)=false:=by simp;omega
  have HF:=lH (show s9 bd=false from aQ9 (by rw[HN0.out];exact k2b))
  clear h2
  go_enter Tryz.func174,Tryz.ntmps174
  go_wp2_with (first|(go_at_call 73;refine gm (d8) ?_;intro x))
  go_ret
  exact b4.mk (by rw[HF.out];rfl)
 subst h2
 have T2:=lH (show((bd.Params.length:Int) == 8)=true by rw[HN0.out];rfl)
 by_cases h4:n1≤8
 rotate_left
 ·have k4:decide (8<(n1:Int))=true:=by simp;omega
  have k4b:decide ((n1:Int)≤8)=false:=by simp;omega
  have HF:=lH (show s9 bd=false from aR1 (by rw[HN1.out];exact k4b))
  clear h4
  go_enter Tryz.func174,Tryz.ntmps174
  go_wp2_with (first|(go_at_call 73;refine gm (d8) ?_;intro x))
  go_ret
  exact b4.mk (by rw[HF.out];rfl)
 have k4:decide (8<(n1:Int))=false:=by simp;omega
 have k4b:decide ((n1:Int)≤8)=true:=by simp;omega
 have T4:=lH (show decide ((bd.Limits.length:Int)≤8)=true by rw[HN1.out];exact k4b)
 clear h4
 cases g6:inB bd.Made 0 65535
 ·have HF:=lH (show s9 bd=false from aR2 g6)
  go_enter Tryz.func174,Tryz.ntmps174
  go_wp2_with (first|(go_at_call 73;refine gm (d8) ?_;intro x))
  go_ret
  exact b4.mk (by rw[HF.out];rfl)
 have T6:=lH g6
 cases g7:inB bd.Taken 0 65535
 ·have HF:=lH (show s9 bd=false from aR3 g7)
  go_enter Tryz.func174,Tryz.ntmps174
  go_wp2_with (first|(go_at_call 73;refine gm (d8) ?_;intro x))
  go_ret
  exact b4.mk (by rw[HF.out];rfl)
 have T7:=lH g7
 by_cases h9:n3≤5000
 rotate_left
 ·have k9:decide (5000<(n3:Int))=true:=by simp;omega
  have k9b:decide ((n3:Int)≤5000)=false:=by simp;omega
  have HF:=lH (show s9 bd=false from aR5 (by rw[HN3.out];exact k9b))
  clear h9
  go_enter Tryz.func174,Tryz.ntmps174
  go_wp2_with (first|(go_at_call 73;refine gm (d8) ?_;intro x))
  go_ret
  exact b4.mk (by rw[HF.out];rfl)
 have k9:decide (5000<(n3:Int))=false:=by simp;omega
 have k9b:decide ((n3:Int)≤5000)=true:=by simp;omega
 have T9:=lH (show decide ((bd.Done.length:Int)≤5000)=true by rw[HN3.out];exact k9b)
 clear h9
 by_cases h13:n6≤5000
 rotate_left
 ·have k13:decide (5000<(n6:Int))=true:=by simp;omega
  have k13b:decide ((n6:Int)≤5000)=false:=by simp;omega
  have HF:=lH (show s9 bd=false from aK0 (by rw[HN6.out];exact k13b))
  clear h13
  go_enter Tryz.func174,Tryz.ntmps174
  go_wp2_with (first|(go_at_call 73;refine gm (d8) ?_;intro x))
  go_ret
  exact b4.mk (by rw[HF.out];rfl)
 have k13:decide (5000<(n6:Int))=false:=by simp;omega
 have k13b:decide ((n6:Int)≤5000)=true:=by simp;omega
 have T13:=lH (show decide ((bd.Asked.length:Int)≤5000)=true by rw[HN6.out];exact k13b)
 clear h13
 have hr4:=HN4.out
 have hr5:=HN5.out
 cases g11:L5 bd.Recorder
 ·have HF:=lH (show s9 bd=false from aJ8 g11)
  go_enter Tryz.func174,Tryz.ntmps174
  go_wp2_with (first|(go_at_call 73;refine gm (d8) ?_;intro x)|(go_at_call 243;refine gm (as8) ?_;intro x))
  go_ret
  exact b4.mk (by rw[HF.out];rfl)
 have T11:=lH g11
 have⟨htk0,htk1⟩:=ap2 T7.out
 have hl0:=HN0.out
 have hl1:=HN1.out
 have hl2:=HN2.out
 have hl3:=HN3.out
 have hl4:=HN4.out
 have hl5:=HN5.out
 have hl6:=HN6.out
 cases g8:L3 bd.Taken bd.Orders
 ·have HF:=lH (show s9 bd=false from aR4 g8)
  go_enter Tryz.func174,Tryz.ntmps174
  go_wp2_with (first|(go_at_call 73;refine gm (d8) ?_;intro x)|(go_at_call 243;refine gm (as8) ?_;intro x)|(go_at_call 244;refine gm (aG7) ?_;intro x))
  go_ret
  exact b4.mk (by rw[HF.out];rfl)
 have T8:=lH g8
 go_enter Tryz.func174,Tryz.ntmps174
 go_wp2_with (first|(go_at_call 73;refine gm (d8) ?_;intro x)|(go_at_call 243;refine gm (as8) ?_;intro x)|(go_at_call 244;refine gm (aG7) ?_;intro x))
 clear g1 k4 k4b g6 g7 k9 k9b k13 k13b g11 g8 hr4 hr5 hl0 hl1 hl2 hl3 hl4 hl5 hl6
 go_loopw [3] (fun v wr=>∃ k:Nat,v=.int .i64 k∧k≤8∧Hid (N1 0 65535 (bd.Params.drop k)=N1 0 65535 bd.Params)∧∃ X:b5 (w.alloc (.cells #[.int .i64 bd.Clock,.slice a0 8 c0,.bool bd.Safe,.slice a1 n1 c1,.slice a2 n2 c2,.slice a3 n3 c3,.int .i64 bd.Recorder.Room,.slice a4 n4 c4,.slice a5 n5 c5,.int .i64 bd.Made,.int .i64 bd.Taken,.slice a6 n6 c6] 84)),wr=X.w) (fun v _=>(8 - intOf v).toNat)
 case atStart=>exact⟨0,rfl,by omega,rfl,b5.of⟩
 case round =>
  obtain⟨k,rfl,hk,HV,X,rfl⟩:=hrel
  by_cases h:k<8
  ·have hkl:k<bd.Params.length:=by have:=HN0.out;omega
   obtain⟨eb,eoff,es,rfl,ehb,ehd,eok,eh0⟩:=hs0.atInt hkl
   have EOK:=lH eok;clear eok
   clear hkl
   cases d1:inB es 0 65535
   ·have HF:=lH (show s9 bd=false from aR0 (by have:=HV.out;rw[ehd.out,N1]at this;rw[← this,d1]<;>rfl))
    go_wp2_with (first|(go_at_call 73;refine gm (d8) ?_;intro x))
    go_ret
    exact b4.mk (by rw[HF.out];rfl)
   have HF:=lH (show N1 0 65535 (bd.Params.drop (k+1))=N1 0 65535 bd.Params by have:=HV.out;rw[ehd.out,N1]at this;rw[← this,d1]<;>rfl)
   go_wp2_with (first|(go_at_call 73;refine gm (d8) ?_;intro x))
   go_roundw
   case rel=>exact⟨k+1,by go_num,by omega,HF,b5.of⟩
   case measure=>simp[intOf];omega
  ·have T3:=lH (show N1 0 65535 bd.Params=true by have:=HV.out;rw[List.drop_of_length_le (by have:=HN0.out;omega)]at this;rw[← this];rfl)
   clear HV
   go_wp2_with (first|(go_at_call 73;refine gm (d8) ?_;intro x))
   go_loopw [4] (fun v wr=>∃ k:Nat,v=.int .i64 k∧k≤n1∧Hid ((bd.Limits.drop k).all W6=bd.Limits.all W6)∧∃ X:b5 (w.alloc (.cells #[.int .i64 bd.Clock,.slice a0 8 c0,.bool bd.Safe,.slice a1 n1 c1,.slice a2 n2 c2,.slice a3 n3 c3,.int .i64 bd.Recorder.Room,.slice a4 n4 c4,.slice a5 n5 c5,.int .i64 bd.Made,.int .i64 bd.Taken,.slice a6 n6 c6] 84)),wr=X.w) (fun v _=>(n1 - intOf v).toNat)
   case atStart=>exact⟨0,rfl,by omega,rfl,b5.of⟩
   case round =>
    obtain⟨k,rfl,hk,HV,X,rfl⟩:=hrel
    by_cases h:k<n1
    ·have hkl:k<bd.Limits.length:=by have:=HN1.out;omega
     obtain⟨eb,eoff,es,rfl,ehb,ehd,eok,eh0,eh1,eh2⟩:=hs1.atTLimit hkl
     have EOK:=lH eok;clear eok
     clear hkl
     cases d1:inB es.Param 0 7
     ·have HF:=lH (show s9 bd=false from al1 (by have:=HV.out;rw[ehd.out,List.all_cons]at this;rw[← this,W6,d1]<;>rfl))
      go_wp2_with (first|(go_at_call 73;refine gm (d8) ?_;intro x))
      go_ret
      exact b4.mk (by rw[HF.out];rfl)
     cases d2:inB es.Low 0 65535
     ·have HF:=lH (show s9 bd=false from al1 (by have:=HV.out;rw[ehd.out,List.all_cons]at this;rw[← this,W6,d1,d2]<;>rfl))
      go_wp2_with (first|(go_at_call 73;refine gm (d8) ?_;intro x))
      go_ret
      exact b4.mk (by rw[HF.out];rfl)
     cases d3:inB es.High 0 65535
     ·have HF:=lH (show s9 bd=false from al1 (by have:=HV.out;rw[ehd.out,List.all_cons]at this;rw[← this,W6,d1,d2,d3]<;>rfl))
      go_wp2_with (first|(go_at_call 73;refine gm (d8) ?_;intro x))
      go_ret
      exact b4.mk (by rw[HF.out];rfl)
     have HF:=lH (show(bd.Limits.drop (k+1)).all W6=bd.Limits.all W6 by have:=HV.out;rw[ehd.out,List.all_cons]at this;rw[← this,W6,d1,d2,d3]<;>rfl)
     go_wp2_with (first|(go_at_call 73;refine gm (d8) ?_;intro x))
     go_roundw
     case rel=>exact⟨k+1,by go_num,by omega,HF,b5.of⟩
     case measure=>simp[intOf];omega
    ·have T5:=lH (show bd.Limits.all W6=true by have:=HV.out;rw[List.drop_of_length_le (by have:=HN1.out;omega)]at this;rw[← this];rfl)
     clear HV
     go_wp2_with (first|(go_at_call 73;refine gm (d8) ?_;intro x))
     go_loopw [6] (fun v wr=>∃ k:Nat,v=.int .i64 k∧k≤n3∧Hid ((bd.Done.drop k).all (ac8 bd.Taken)=bd.Done.all (ac8 bd.Taken))∧∃ X:b5 (w.alloc (.cells #[.int .i64 bd.Clock,.slice a0 8 c0,.bool bd.Safe,.slice a1 n1 c1,.slice a2 n2 c2,.slice a3 n3 c3,.int .i64 bd.Recorder.Room,.slice a4 n4 c4,.slice a5 n5 c5,.int .i64 bd.Made,.int .i64 bd.Taken,.slice a6 n6 c6] 84)),wr=X.w) (fun v _=>(n3 - intOf v).toNat)
     case atStart=>exact⟨0,rfl,by omega,rfl,b5.of⟩
     case round =>
      obtain⟨k,rfl,hk,HV,X,rfl⟩:=hrel
      by_cases h:k<n3
      ·have hkl:k<bd.Done.length:=by have:=HN3.out;omega
       obtain⟨eb,eoff,es,rfl,ehb,ehd,eok,eh0,eh1,eh2⟩:=hs3.atTDone hkl
       have EOK:=lH eok;clear eok
       have⟨htt0,htt1⟩:=ap2 T7.out
       clear hkl
       cases d1:inB es.Number 0 (bd.Taken - 1)
       ·have HF:=lH (show s9 bd=false from ai5 (by have:=HV.out;rw[ehd.out,List.all_cons]at this;rw[← this,ac8,d1]<;>rfl))
        go_wp2_with (first|(go_at_call 73;refine gm (d8) ?_;intro x))
        go_ret
        exact b4.mk (by rw[HF.out];rfl)
       cases d2:inB es.Time 0 1000000
       ·have HF:=lH (show s9 bd=false from ai5 (by have:=HV.out;rw[ehd.out,List.all_cons]at this;rw[← this,ac8,d1,d2]<;>rfl))
        go_wp2_with (first|(go_at_call 73;refine gm (d8) ?_;intro x))
        go_ret
        exact b4.mk (by rw[HF.out];rfl)
       cases d3:inB es.Result 0 1
       ·have HF:=lH (show s9 bd=false from ai5 (by have:=HV.out;rw[ehd.out,List.all_cons]at this;rw[← this,ac8,d1,d2,d3]<;>rfl))
        go_wp2_with (first|(go_at_call 73;refine gm (d8) ?_;intro x))
        go_ret
        exact b4.mk (by rw[HF.out];rfl)
       have HF:=lH (show(bd.Done.drop (k+1)).all (ac8 bd.Taken)=bd.Done.all (ac8 bd.Taken)by have:=HV.out;rw[ehd.out,List.all_cons]at this;rw[← this,ac8,d1,d2,d3]<;>rfl)
       go_wp2_with (first|(go_at_call 73;refine gm (d8) ?_;intro x))
       go_roundw
       case rel=>exact⟨k+1,by go_num,by omega,HF,b5.of⟩
       case measure=>simp[intOf];omega
      ·have T10:=lH (show bd.Done.all (ac8 bd.Taken)=true by have:=HV.out;rw[List.drop_of_length_le (by have:=HN3.out;omega)]at this;rw[← this];rfl)
       clear HV
       go_wp2_with (first|(go_at_call 73;refine gm (d8) ?_;intro x))
       go_loopw [8] (fun v wr=>∃ k:Nat,v=.int .i64 k∧k≤n4∧Hid ((bd.Recorder.Records.drop k).all (aB9 bd.Made)=bd.Recorder.Records.all (aB9 bd.Made))∧∃ X:b5 (w.alloc (.cells #[.int .i64 bd.Clock,.slice a0 8 c0,.bool bd.Safe,.slice a1 n1 c1,.slice a2 n2 c2,.slice a3 n3 c3,.int .i64 bd.Recorder.Room,.slice a4 n4 c4,.slice a5 n5 c5,.int .i64 bd.Made,.int .i64 bd.Taken,.slice a6 n6 c6] 84)),wr=X.w) (fun v _=>(n4 - intOf v).toNat)
       case atStart=>exact⟨0,rfl,by omega,rfl,b5.of⟩
       case round =>
        obtain⟨k,rfl,hk,HV,X,rfl⟩:=hrel
        by_cases h:k<n4
        ·have hkl:k<bd.Recorder.Records.length:=by have:=HN4.out;omega
         obtain⟨eb,eoff,es,rfl,ehb,ehd,eok,eh0,eh1,eh2,eh3⟩:=hs4.atTRecord hkl
         have hz9:es.Data.size≤9223372036854775807:=eok.2.2.2.1
         have EOK:=lH eok;clear eok
         clear hkl
         cases d1:decide (bd.Made≤es.Id)
         rotate_left
         ·have HF:=lH (show s9 bd=false from aJ9 (by have:=HV.out;rw[ehd.out,List.all_cons]at this;rw[← this,aB9,d1]<;>rfl))
          go_wp2_with (first|((with_reducible refine rl ?_);(repeat(first|go_big_quiet_step (first|fail)|simp only[d1]));refine wpQuiet_nil ?_;intro x))
          go_ret
          exact b4.mk (by rw[HF.out];rfl)
         have HF:=lH (show(bd.Recorder.Records.drop (k+1)).all (aB9 bd.Made)=bd.Recorder.Records.all (aB9 bd.Made)by have:=HV.out;rw[ehd.out,List.all_cons]at this;rw[← this,aB9,d1]<;>rfl)
         go_wp2_with (first|((with_reducible refine rl ?_);(repeat(first|go_big_quiet_step (first|fail)|simp only[d1]));refine wpQuiet_nil ?_;intro x))
         go_roundw
         case rel=>exact⟨k+1,by go_num,by omega,HF,b5.of⟩
         case measure=>simp[intOf];omega
        ·have T12:=lH (show bd.Recorder.Records.all (aB9 bd.Made)=true by have:=HV.out;rw[List.drop_of_length_le (by have:=HN4.out;omega)]at this;rw[← this];rfl)
         clear HV
         go_wp2_with (first|(go_at_call 73;refine gm (d8) ?_;intro x))
         go_loopw [9] (fun v wr=>∃ k:Nat,v=.int .i64 k∧k≤n6∧Hid (N1 0 7 (bd.Asked.drop k)=N1 0 7 bd.Asked)∧∃ X:b5 (w.alloc (.cells #[.int .i64 bd.Clock,.slice a0 8 c0,.bool bd.Safe,.slice a1 n1 c1,.slice a2 n2 c2,.slice a3 n3 c3,.int .i64 bd.Recorder.Room,.slice a4 n4 c4,.slice a5 n5 c5,.int .i64 bd.Made,.int .i64 bd.Taken,.slice a6 n6 c6] 84)),wr=X.w) (fun v _=>(n6 - intOf v).toNat)
         case atStart=>exact⟨0,rfl,by omega,rfl,b5.of⟩
         case round =>
          obtain⟨k,rfl,hk,HV,X,rfl⟩:=hrel
          by_cases h:k<n6
          ·have hkl:k<bd.Asked.length:=by have:=HN6.out;omega
           obtain⟨eb,eoff,es,rfl,ehb,ehd,eok,eh0⟩:=hs6.atInt hkl
           have EOK:=lH eok;clear eok
           clear hkl
           cases d1:inB es 0 7
           ·have HF:=lH (show s9 bd=false from aK1 (by have:=HV.out;rw[ehd.out,N1]at this;rw[← this,d1]<;>rfl))
            go_wp2_with (first|(go_at_call 73;refine gm (d8) ?_;intro x))
            go_ret
            exact b4.mk (by rw[HF.out];rfl)
           have HF:=lH (show N1 0 7 (bd.Asked.drop (k+1))=N1 0 7 bd.Asked by have:=HV.out;rw[ehd.out,N1]at this;rw[← this,d1]<;>rfl)
           go_wp2_with (first|(go_at_call 73;refine gm (d8) ?_;intro x))
           go_roundw
           case rel=>exact⟨k+1,by go_num,by omega,HF,b5.of⟩
           case measure=>simp[intOf];omega
          ·have T14:=lH (show N1 0 7 bd.Asked=true by have:=HV.out;rw[List.drop_of_length_le (by have:=HN6.out;omega)]at this;rw[← this];rfl)
           clear HV
           go_wp2_with (first|(go_at_call 73;refine gm (d8) ?_;intro x))
           go_ret
           exact b4.mk (by rw[aR6 T1.out T2.out T3.out T4.out T5.out T6.out T7.out T8.out T9.out T10.out T11.out T12.out T13.out T14.out];rfl)
