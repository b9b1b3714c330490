/- The contract of what says whether a mission's satellite is valid, the code's. No condition but on sizes. -/
import Derived.Test.YtdoilejecjaldaaGreatHM26
namespace Go.Proofs.YtdoilejecjaldaaGreat
set_option maxRecDepth 100000
set_option maxHeartbeats 4000000
set_option linter.unusedVariables false
open Go.ChangeShapes Go.WideShapes Go.ChangeAt Go.RowKit
theorem bD6{B n0 n1 n2 n3 n4 n5 n6 n7 n8 n9 n10:Nat}{a0 a1 a2 a3 a4 a5 a6 a7 a8 a9 a10:Option Addr}{c0 c1 c2 c3 c4 c5 c6 c7 c8 c9 c10:Nat}{bd:M7}{w0 w:World}(hq0:RdS B w0 a0 c0 bd.Board.Params)(hq1:RdS B w0 a1 c1 bd.Board.Limits)(hq2:RdS B w0 a2 c2 bd.Board.Orders)(hq3:RdS B w0 a3 c3 bd.Board.Done)(hq4:RdS B w0 a4 c4 bd.Board.Recorder.Records)(hq5:RdS B w0 a5 c5 bd.Board.Recorder.Dropped)(hq6:RdS B w0 a6 c6 bd.Board.Asked)(hq7:RdS B w0 a7 c7 bd.Packer.Starts)(hq8:RdS B w0 a8 c8 bd.Files)(hq9:RdS B w0 a9 c9 bd.Outs)(hq10:RdS B w0 a10 c10 bd.Sent)[g:b8 B w0 w](ok:aw7 bd)(hn0:bd.Board.Params.length=n0)(hn1:bd.Board.Limits.length=n1)(hn2:bd.Board.Orders.length=n2)(hn3:bd.Board.Done.length=n3)(hn4:bd.Board.Recorder.Records.length=n4)(hn5:bd.Board.Recorder.Dropped.length=n5)(hn6:bd.Board.Asked.length=n6)(hn7:bd.Packer.Starts.length=n7)(hn8:bd.Files.length=n8)(hn9:bd.Outs.length=n9)(hn10:bd.Sent.length=n10)(hm0:n0≤100000000)(hm1:n1≤100000000)(hm2:n2≤100000000)(hm3:n3≤100000000)(hm4:n4≤100000000)(hm5:n5≤100000000)(hm6:n6≤100000000)(hm7:n7≤100000000)(hm8:n8≤100000000)(hm9:n9≤100000000)(hm10:n10≤100000000)(hzr:bd.Packer.Rest.size≤100000000)(hxo:∀ y∈bd.Outs,y.Queue.length≤100000000∧y.Data.size≤100000000)(hxs:∀ s∈bd.Files,s.size≤100000000) :
  Calls Tryz.prog 120 #[.agg #[.int .i64 bd.Receiver.Expect,.bool bd.Receiver.Locked,.bool bd.Receiver.Again,.int .i64 bd.Receiver.Taken,.int .i64 bd.Board.Clock,.slice a0 n0 c0,.bool bd.Board.Safe,.slice a1 n1 c1,.slice a2 n2 c2,.slice a3 n3 c3,.int .i64 bd.Board.Recorder.Room,.slice a4 n4 c4,.slice a5 n5 c5,.int .i64 bd.Board.Made,.int .i64 bd.Board.Taken,.slice a6 n6 c6,.int .i64 bd.Packer.Channel,.int .i64 bd.Packer.Count,.string bd.Packer.Rest,.slice a7 n7 c7,.int .i64 bd.Seq,.slice a8 n8 c8,.slice a9 n9 c9,.int .i64 bd.Begun,.slice a10 n10 c10]] w (b4 w (.bool (D7 bd))):=by
 have hs0:=hq0.to g
 have hs1:=hq1.to g
 have hs2:=hq2.to g
 have hs3:=hq3.to g
 have hs4:=hq4.to g
 have hs5:=hq5.to g
 have hs6:=hq6.to g
 have hs7:=hq7.to g
 have hs8:=hq8.to g
 have hs9:=hq9.to g
 have hs10:=hq10.to g
 have HN0:=lH hn0
 have HN1:=lH hn1
 have HN2:=lH hn2
 have HN3:=lH hn3
 have HN4:=lH hn4
 have HN5:=lH hn5
 have HN6:=lH hn6
 have HN7:=lH hn7
 have HN8:=lH hn8
 have HN9:=lH hn9
 have HN10:=lH hn10
 clear hq0 hn0 hq1 hn1 hq2 hn2 hq3 hn3 hq4 hn4 hq5 hn5 hq6 hn6 hq7 hn7 hq8 hn8 hq9 hn9 hq10 hn10
 cases g1:A9 bd.Receiver
 ·have HF:=lH (show D7 bd=false from aT7 g1)
  go_enter Tryz.func120,Tryz.ntmps120
  go_wp2_with (first|(go_at_call 114;refine gm (d6) ?_;intro x)|(go_at_call 124;refine gm (M0) ?_;intro x))
  go_ret
  exact b4.mk (by rw[HF.out];rfl)
 have T1:=lH g1
 have oks:=ok.2.1
 have hd0:=HN0.out
 have hd1:=HN1.out
 have hd2:=HN2.out
 have hd3:=HN3.out
 have hd4:=HN4.out
 have hd5:=HN5.out
 have hd6:=HN6.out
 cases g2:s9 bd.Board
 ·have HF:=lH (show D7 bd=false from aT8 g2)
  go_enter Tryz.func120,Tryz.ntmps120
  go_wp2_with (first|(go_at_call 114;refine gm (d6) ?_;intro x)|(go_at_call 124;refine gm (M0) ?_;intro x)|(go_at_call 207;refine gm (ac9) ?_;intro x))
  go_ret
  exact b4.mk (by rw[HF.out];rfl)
 have T2:=lH g2
 have hd7:=HN7.out
 cases g3:ai1 bd.Packer
 ·have HF:=lH (show D7 bd=false from aT9 g3)
  go_enter Tryz.func120,Tryz.ntmps120
  go_wp2_with (first|(go_at_call 114;refine gm (d6) ?_;intro x)|(go_at_call 124;refine gm (M0) ?_;intro x)|(go_at_call 207;refine gm (ac9) ?_;intro x)|(go_at_call 208;refine gm (ab3) ?_;intro x))
  go_ret
  exact b4.mk (by rw[HF.out];rfl)
 have T3:=lH g3
 cases g4:(bd.Packer.Channel == 0)
 ·have HF:=lH (show D7 bd=false from aU0 g4)
  have g4b:(bd.Packer.Channel != 0)=true:=by rw[bne,g4];rfl
  go_enter Tryz.func120,Tryz.ntmps120
  go_wp2_with (first|(go_at_call 114;refine gm (d6) ?_;intro x)|(go_at_call 124;refine gm (M0) ?_;intro x)|(go_at_call 207;refine gm (ac9) ?_;intro x)|(go_at_call 208;refine gm (ab3) ?_;intro x))
  go_ret
  exact b4.mk (by rw[HF.out];rfl)
 have T4:=lH g4
 have g4b:(bd.Packer.Channel != 0)=false:=by rw[bne,g4];rfl
 cases g5:inB bd.Seq 0 65535
 ·have HF:=lH (show D7 bd=false from aU1 g5)
  go_enter Tryz.func120,Tryz.ntmps120
  go_wp2_with (first|(go_at_call 114;refine gm (d6) ?_;intro x)|(go_at_call 124;refine gm (M0) ?_;intro x)|(go_at_call 207;refine gm (ac9) ?_;intro x)|(go_at_call 208;refine gm (ab3) ?_;intro x))
  go_ret
  exact b4.mk (by rw[HF.out];rfl)
 have T5:=lH g5
 cases g6:inB bd.Begun 0 (n6:Int)
 ·have HF:=lH (show D7 bd=false from aU2 (by rw[HN6.out];exact g6))
  go_enter Tryz.func120,Tryz.ntmps120
  go_wp2_with (first|(go_at_call 114;refine gm (d6) ?_;intro x)|(go_at_call 124;refine gm (M0) ?_;intro x)|(go_at_call 207;refine gm (ac9) ?_;intro x)|(go_at_call 208;refine gm (ab3) ?_;intro x))
  go_ret
  exact b4.mk (by rw[HF.out];rfl)
 have T6:=lH (show inB bd.Begun 0 bd.Board.Asked.length=true by rw[HN6.out];exact g6)
 have hd10:=HN10.out
 cases g7:R9 bd.Sent
 ·have HF:=lH (show D7 bd=false from aU3 g7)
  go_enter Tryz.func120,Tryz.ntmps120
  go_wp2_with (first|(go_at_call 114;refine gm (d6) ?_;intro x)|(go_at_call 124;refine gm (M0) ?_;intro x)|(go_at_call 207;refine gm (ac9) ?_;intro x)|(go_at_call 208;refine gm (ab3) ?_;intro x)|(go_at_call 205;refine gm (ag6) ?_;intro x))
  go_ret
  exact b4.mk (by rw[HF.out];rfl)
 have T7:=lH g7
 by_cases h8:n8=8
 rotate_left
 ·have k8:((n8:Int) != 8)=true:=by simp;omega
  have k8b:((n8:Int) == 8)=false:=by simp;omega
  have HF:=lH (show D7 bd=false from aU4 (by rw[HN8.out];exact k8b))
  clear h8
  go_enter Tryz.func120,Tryz.ntmps120
  go_wp2_with (first|(go_at_call 114;refine gm (d6) ?_;intro x)|(go_at_call 124;refine gm (M0) ?_;intro x)|(go_at_call 207;refine gm (ac9) ?_;intro x)|(go_at_call 208;refine gm (ab3) ?_;intro x)|(go_at_call 205;refine gm (ag6) ?_;intro x))
  go_ret
  exact b4.mk (by rw[HF.out];rfl)
 subst h8
 have T8:=lH (show((bd.Files.length:Int) == 8)=true by rw[HN8.out];rfl)
 by_cases h9:n9=8
 rotate_left
 ·have k9:((n9:Int) != 8)=true:=by simp;omega
  have k9b:((n9:Int) == 8)=false:=by simp;omega
  have HF:=lH (show D7 bd=false from aU5 (by rw[HN9.out];exact k9b))
  clear h9
  go_enter Tryz.func120,Tryz.ntmps120
  go_wp2_with (first|(go_at_call 114;refine gm (d6) ?_;intro x)|(go_at_call 124;refine gm (M0) ?_;intro x)|(go_at_call 207;refine gm (ac9) ?_;intro x)|(go_at_call 208;refine gm (ab3) ?_;intro x)|(go_at_call 205;refine gm (ag6) ?_;intro x))
  go_ret
  exact b4.mk (by rw[HF.out];rfl)
 subst h9
 have T9:=lH (show((bd.Outs.length:Int) == 8)=true by rw[HN9.out];rfl)
 go_enter Tryz.func120,Tryz.ntmps120
 go_wp2_with (first|(go_at_call 114;refine gm (d6) ?_;intro x)|(go_at_call 124;refine gm (M0) ?_;intro x)|(go_at_call 207;refine gm (ac9) ?_;intro x)|(go_at_call 208;refine gm (ab3) ?_;intro x)|(go_at_call 205;refine gm (ag6) ?_;intro x))
 clear g1 g2 g3 g4 g4b g5 g6 g7 oks hd0 hd1 hd2 hd3 hd4 hd5 hd6 hd7 hd10
 go_loopw [60] (fun v wr=>∃ k:Nat,v=.int .i64 k∧k≤8∧Hid (M3 bd.Files k (bd.Outs.drop k)=M3 bd.Files 0 bd.Outs)∧∃ X:b5 (w.alloc (.cells #[.int .i64 bd.Receiver.Expect,.bool bd.Receiver.Locked,.bool bd.Receiver.Again,.int .i64 bd.Receiver.Taken,.int .i64 bd.Board.Clock,.slice a0 n0 c0,.bool bd.Board.Safe,.slice a1 n1 c1,.slice a2 n2 c2,.slice a3 n3 c3,.int .i64 bd.Board.Recorder.Room,.slice a4 n4 c4,.slice a5 n5 c5,.int .i64 bd.Board.Made,.int .i64 bd.Board.Taken,.slice a6 n6 c6,.int .i64 bd.Packer.Channel,.int .i64 bd.Packer.Count,.string bd.Packer.Rest,.slice a7 n7 c7,.int .i64 bd.Seq,.slice a8 8 c8,.slice a9 8 c9,.int .i64 bd.Begun,.slice a10 n10 c10] 88)),wr=X.w) (fun v _=>(8 - intOf v).toNat)
 case atStart=>exact⟨0,rfl,by omega,rfl,b5.of⟩
 case round =>
  obtain⟨k,rfl,hk,HV,X,rfl⟩:=hrel
  by_cases h:k<8
  ·have hkl:k<bd.Outs.length:=by have:=HN9.out;omega
   obtain⟨eb,eoff,es,ea0,ec0,he,ehb,ehd,eq0,eok,eh0,eh1,eh2,eh3⟩:=hs9.atTFileOut hkl
   cases he
   have EOK:=lH eok;clear eok
   obtain⟨fb,foff,fs,hf8,fhb,fhd,fok,fh0⟩:=hs8.atStr (show k<bd.Files.length by have:=HN8.out;omega)
   obtain rfl:=hf8
   have hfs:bd.Files.getD k ByteArray.empty=fs:=by
    have:=congrArg (fun m=>m[0]?) fhd.out
    simp only[List.getElem?_drop,Nat.add_zero,List.getElem?_cons_zero]at this
    simp[List.getD,this]
   have hx3:=hxs fs (am9 fhd.out)
   have hx1:=(hxo es (am9 ehd.out)).1
   have hx2:=(hxo es (am9 ehd.out)).2
   obtain⟨pn,hpn⟩:∃ pn,es.Queue.length=pn:=⟨_,rfl⟩
   rw[hpn]at hx1 eh2
   have HFS:=lH hfs;clear hfs
   clear hkl
   cases d1:decide (600<(fs.size:Int))
   rotate_left
   ·have HF:=lH (show D7 bd=false from ac5 (by have:=HV.out;rw[ehd.out,M3,HFS.out]at this;rw[← this,aA7,d1]<;>rfl))
    go_wp2_with (first|((with_reducible refine rl ?_);(repeat(first|go_big_quiet_step (first|fail)|simp only[d1]));refine wpQuiet_nil ?_;intro x))
    go_ret
    exact b4.mk (by rw[HF.out];rfl)
   cases d2:R4 es
   ·have HF:=lH (show D7 bd=false from ac5 (by have:=HV.out;rw[ehd.out,M3,HFS.out]at this;rw[← this,aA7,d1,d2]<;>rfl))
    go_wp2_with (first|((with_reducible refine rl ?_);(repeat(first|go_big_quiet_step (first|(go_at_call 209;exact b4.quiet (ab2)))|simp only[d1]|simp only[d2]));refine wpQuiet_nil ?_;intro x)|(go_at_call 209;refine gm (ab2) ?_;intro x))
    go_ret
    exact b4.mk (by rw[HF.out];rfl)
   cases d3:(es.File == (k:Int))
   ·have HF:=lH (show D7 bd=false from ac5 (by have:=HV.out;rw[ehd.out,M3,HFS.out]at this;rw[← this,aA7,d1,d2,d3]<;>rfl))
    have d3b:(es.File != (k:Int))=true:=by rw[bne,d3];rfl
    go_wp2_with (first|((with_reducible refine rl ?_);(repeat(first|go_big_quiet_step (first|(go_at_call 209;exact b4.quiet (ab2)))|simp only[d1]|simp only[d2]|simp only[d3]|simp only[d3b]));refine wpQuiet_nil ?_;intro x)|(go_at_call 209;refine gm (ab2) ?_;intro x))
    go_ret
    exact b4.mk (by rw[HF.out];rfl)
   have d3b:(es.File != (k:Int))=false:=by rw[bne,d3];rfl
   cases d4:(es.Data.toList == fs.toList)
   ·have HF:=lH (show D7 bd=false from ac5 (by have:=HV.out;rw[ehd.out,M3,HFS.out]at this;rw[← this,aA7,d1,d2,d3,d4]<;>rfl))
    have d4b:(es.Data.toList != fs.toList)=true:=by rw[bne,d4];rfl
    go_wp2_with (first|((with_reducible refine rl ?_);(repeat(first|go_big_quiet_step (first|(go_at_call 209;exact b4.quiet (ab2)))|simp only[d1]|simp only[d2]|simp only[d3]|simp only[d3b]|simp only[d4]|simp only[d4b]));refine wpQuiet_nil ?_;intro x)|(go_at_call 209;refine gm (ab2) ?_;intro x))
    go_ret
    exact b4.mk (by rw[HF.out];rfl)
   have d4b:(es.Data.toList != fs.toList)=false:=by rw[bne,d4];rfl
   have HF:=lH (show M3 bd.Files (k+1) (bd.Outs.drop (k+1))=M3 bd.Files 0 bd.Outs by have:=HV.out;rw[ehd.out,M3,HFS.out]at this;rw[← this,aA7,d1,d2,d3,d4]<;>rfl)
   go_wp2_with (first|((with_reducible refine rl ?_);(repeat(first|go_big_quiet_step (first|(go_at_call 209;exact b4.quiet (ab2)))|simp only[d1]|simp only[d2]|simp only[d3]|simp only[d4]|simp only[d3b]|simp only[d4b]));refine wpQuiet_nil ?_;intro x)|(go_at_call 209;refine gm (ab2) ?_;intro x))
   go_roundw
   case rel=>exact⟨k+1,by go_num,by omega,HF,b5.of⟩
   case measure=>simp[intOf];omega
  ·have T10:=lH (show M3 bd.Files 0 bd.Outs=true by have:=HV.out;rw[List.drop_of_length_le (by have:=HN9.out;omega)]at this;rw[← this];rfl)
   clear HV
   go_wp2_with (first|(go_at_call 114;refine gm (d6) ?_;intro x))
   go_ret
   exact b4.mk (by rw[aU6 T1.out T2.out T3.out T4.out T5.out T6.out T7.out T8.out T9.out T10.out];rfl)
