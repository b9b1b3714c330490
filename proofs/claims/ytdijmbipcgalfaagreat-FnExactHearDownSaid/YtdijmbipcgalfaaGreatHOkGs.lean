/- The contract of what says whether a mission's ground is valid, the reference's. No condition but on sizes. -/
import Derived.Test.YtdijmbipcgalfaaGreatHM23
namespace Go.Proofs.YtdijmbipcgalfaaGreat
set_option maxRecDepth 100000
set_option maxHeartbeats 4000000
set_option linter.unusedVariables false
open Go.ChangeShapes Go.WideShapes Go.ChangeAt Go.RowKit
theorem bA7{B n0 n1 n2 n3 n4 n5:Nat}{a0 a1 a2 a3 a4 a5:Option Addr}{c0 c1 c2 c3 c4 c5:Nat}{bd:I8}{w0 w:World}(hq0:RdS B w0 a0 c0 bd.Offers)(hq1:RdS B w0 a1 c1 bd.Sender.Waiting)(hq2:RdS B w0 a2 c2 bd.Pairs)(hq3:RdS B w0 a3 c3 bd.Records)(hq4:RdS B w0 a4 c4 bd.Files)(hq5:RdS B w0 a5 c5 bd.Told)[g:d7 B w0 w](ok:av3 bd)(hn0:bd.Offers.length=n0)(hn1:bd.Sender.Waiting.length=n1)(hn2:bd.Pairs.length=n2)(hn3:bd.Records.length=n3)(hn4:bd.Files.length=n4)(hn5:bd.Told.length=n5)(hm0:n0≤100000000)(hm1:n1≤100000000)(hm2:n2≤100000000)(hm3:n3≤100000000)(hm4:n4≤100000000)(hm5:n5≤100000000)(hxf:∀ y∈bd.Files,y.Parts.length≤100000000∧∀ s∈y.Parts,s.size≤100000000) :
  Calls Tryz.prog 106 #[.agg #[.slice a0 n0 c0,I bd.Sender.Next,I bd.Sender.Window,.slice a1 n1 c1,I bd.Sender.Done,I bd.Notice.Expect,.bool bd.Notice.Locked,.bool bd.Notice.Again,I bd.Unpacker.Channel,I bd.Unpacker.Next,.bool bd.Unpacker.Synced,.string bd.Unpacker.Rest,I bd.Unpacker.Lost,.slice a2 n2 c2,.slice a3 n3 c3,.slice a4 n4 c4,.slice a5 n5 c5]] w (b5 w (.bool (B3 bd))):=by
 have hs0:=hq0.to g
 have hs1:=hq1.to g
 have hs2:=hq2.to g
 have hs3:=hq3.to g
 have hs4:=hq4.to g
 have hs5:=hq5.to g
 have HN0:=lH hn0
 have HN1:=lH hn1
 have HN2:=lH hn2
 have HN3:=lH hn3
 have HN4:=lH hn4
 have HN5:=lH hn5
 clear hq0 hn0 hq1 hn1 hq2 hn2 hq3 hn3 hq4 hn4 hq5 hn5
 have hd1:=HN1.out
 have oks:=ok.1
 cases g1:J3 bd.Sender
 ·have HF:=lH (show B3 bd=false from aN4 g1)
  go_enter Tryz.func106,Tryz.ntmps106
  go_wp2_with (first|(go_at_call 101;refine gm (f5) ?_;intro x)|(go_at_call 231;refine gm (N7) ?_;intro x))
  go_ret
  exact b5.mk (by rw[HF.out];rfl)
 have T1:=lH g1
 have hzu:bd.Unpacker.Rest.size≤9223372036854775807:=ok.2.2.1.2.2.1
 cases g2:j6 bd.Unpacker
 ·have HF:=lH (show B3 bd=false from aN5 g2)
  go_enter Tryz.func106,Tryz.ntmps106
  go_wp2_with (first|(go_at_call 101;refine gm (f5) ?_;intro x)|(go_at_call 231;refine gm (N7) ?_;intro x)|(go_at_call 111;refine gm (M5) ?_;intro x))
  go_ret
  exact b5.mk (by rw[HF.out];rfl)
 have T2:=lH g2
 have hd2:=HN2.out
 cases g3:Z9 bd.Pairs
 ·have HF:=lH (show B3 bd=false from aN6 g3)
  go_enter Tryz.func106,Tryz.ntmps106
  go_wp2_with (first|(go_at_call 101;refine gm (f5) ?_;intro x)|(go_at_call 231;refine gm (N7) ?_;intro x)|(go_at_call 111;refine gm (M5) ?_;intro x)|(go_at_call 232;refine gm (aj3) ?_;intro x))
  go_ret
  exact b5.mk (by rw[HF.out];rfl)
 have T3:=lH g3
 cases g4:(bd.Unpacker.Channel == 0)
 ·have HF:=lH (show B3 bd=false from aN7 g4)
  have g4b:(bd.Unpacker.Channel != 0)=true:=by rw[bne,g4];rfl
  go_enter Tryz.func106,Tryz.ntmps106
  go_wp2_with (first|(go_at_call 101;refine gm (f5) ?_;intro x)|(go_at_call 231;refine gm (N7) ?_;intro x)|(go_at_call 111;refine gm (M5) ?_;intro x)|(go_at_call 232;refine gm (aj3) ?_;intro x))
  go_ret
  exact b5.mk (by rw[HF.out];rfl)
 have T4:=lH g4
 have g4b:(bd.Unpacker.Channel != 0)=false:=by rw[bne,g4];rfl
 cases g5:inB bd.Notice.Expect 0 255
 ·have HF:=lH (show B3 bd=false from aN8 g5)
  go_enter Tryz.func106,Tryz.ntmps106
  go_wp2_with (first|(go_at_call 101;refine gm (f5) ?_;intro x)|(go_at_call 231;refine gm (N7) ?_;intro x)|(go_at_call 111;refine gm (M5) ?_;intro x)|(go_at_call 232;refine gm (aj3) ?_;intro x))
  go_ret
  exact b5.mk (by rw[HF.out];rfl)
 have T5:=lH g5
 by_cases h6:n0≤200
 rotate_left
 ·have k6:decide (200<(n0:Int))=true:=by simp;omega
  have k6b:decide ((n0:Int)≤200)=false:=by simp;omega
  have HF:=lH (show B3 bd=false from aN9 (by rw[HN0.out];exact k6b))
  clear h6
  go_enter Tryz.func106,Tryz.ntmps106
  go_wp2_with (first|(go_at_call 101;refine gm (f5) ?_;intro x)|(go_at_call 231;refine gm (N7) ?_;intro x)|(go_at_call 111;refine gm (M5) ?_;intro x)|(go_at_call 232;refine gm (aj3) ?_;intro x))
  go_ret
  exact b5.mk (by rw[HF.out];rfl)
 have k6:decide (200<(n0:Int))=false:=by simp;omega
 have k6b:decide ((n0:Int)≤200)=true:=by simp;omega
 have T6:=lH (show decide ((bd.Offers.length:Int)≤200)=true by rw[HN0.out];exact k6b)
 clear h6
 have hd3:=HN3.out
 cases g7:N8 bd.Records
 ·have HF:=lH (show B3 bd=false from aO0 g7)
  go_enter Tryz.func106,Tryz.ntmps106
  go_wp2_with (first|(go_at_call 101;refine gm (f5) ?_;intro x)|(go_at_call 231;refine gm (N7) ?_;intro x)|(go_at_call 111;refine gm (M5) ?_;intro x)|(go_at_call 232;refine gm (aj3) ?_;intro x)|(go_at_call 233;refine gm (ah2) ?_;intro x))
  go_ret
  exact b5.mk (by rw[HF.out];rfl)
 have T7:=lH g7
 by_cases h9:n4=8
 rotate_left
 ·have k9:((n4:Int) != 8)=true:=by simp;omega
  have k9b:((n4:Int) == 8)=false:=by simp;omega
  have HF:=lH (show B3 bd=false from aO2 (by rw[HN4.out];exact k9b))
  clear h9
  go_enter Tryz.func106,Tryz.ntmps106
  go_wp2_with (first|(go_at_call 101;refine gm (f5) ?_;intro x)|(go_at_call 231;refine gm (N7) ?_;intro x)|(go_at_call 111;refine gm (M5) ?_;intro x)|(go_at_call 232;refine gm (aj3) ?_;intro x)|(go_at_call 233;refine gm (ah2) ?_;intro x))
  go_ret
  exact b5.mk (by rw[HF.out];rfl)
 subst h9
 have T9:=lH (show((bd.Files.length:Int) == 8)=true by rw[HN4.out];rfl)
 by_cases h10:n5=8
 rotate_left
 ·have k10:((n5:Int) != 8)=true:=by simp;omega
  have k10b:((n5:Int) == 8)=false:=by simp;omega
  have HF:=lH (show B3 bd=false from aH9 (by rw[HN5.out];exact k10b))
  clear h10
  go_enter Tryz.func106,Tryz.ntmps106
  go_wp2_with (first|(go_at_call 101;refine gm (f5) ?_;intro x)|(go_at_call 231;refine gm (N7) ?_;intro x)|(go_at_call 111;refine gm (M5) ?_;intro x)|(go_at_call 232;refine gm (aj3) ?_;intro x)|(go_at_call 233;refine gm (ah2) ?_;intro x))
  go_ret
  exact b5.mk (by rw[HF.out];rfl)
 subst h10
 have T10:=lH (show((bd.Told.length:Int) == 8)=true by rw[HN5.out];rfl)
 go_enter Tryz.func106,Tryz.ntmps106
 go_wp2_with (first|(go_at_call 101;refine gm (f5) ?_;intro x)|(go_at_call 231;refine gm (N7) ?_;intro x)|(go_at_call 111;refine gm (M5) ?_;intro x)|(go_at_call 232;refine gm (aj3) ?_;intro x)|(go_at_call 233;refine gm (ah2) ?_;intro x))
 clear g1 g2 g3 g4 g4b g5 k6 k6b g7 hd1 oks hzu hd2 hd3
 go_loopw [3] (fun v wr=>∃ k:Nat,v=I k∧k≤n0∧Hid ((bd.Offers.drop k).all ac3=bd.Offers.all ac3)∧∃ X:b7 (w.alloc (.cells #[.slice a0 n0 c0,I bd.Sender.Next,I bd.Sender.Window,.slice a1 n1 c1,I bd.Sender.Done,I bd.Notice.Expect,.bool bd.Notice.Locked,.bool bd.Notice.Again,I bd.Unpacker.Channel,I bd.Unpacker.Next,.bool bd.Unpacker.Synced,.string bd.Unpacker.Rest,I bd.Unpacker.Lost,.slice a2 n2 c2,.slice a3 n3 c3,.slice a4 8 c4,.slice a5 8 c5] 76)),wr=X.w) (fun v _=>(n0 - intOf v).toNat)
 case atStart=>exact⟨0,rfl,by omega,rfl,b7.of⟩
 case round =>
  obtain⟨k,rfl,hk,HV,X,rfl⟩:=hrel
  by_cases h:k<n0
  ·have hkl:k<bd.Offers.length:=by have:=HN0.out;omega
   obtain⟨eb,eoff,es,rfl,ehb,ehd,eok,eh0⟩:=hs0.atStr hkl
   clear hkl
   cases d1:inB es.size 1 40
   ·have HF:=lH (show B3 bd=false from aO1 (by have:=HV.out;rw[ehd.out,List.all_cons]at this;rw[← this,ac3,d1]<;>rfl))
    go_wp2_with (first|(go_at_call 101;refine gm (f5) ?_;intro x))
    go_ret
    exact b5.mk (by rw[HF.out];rfl)
   have HF:=lH (show(bd.Offers.drop (k+1)).all ac3=bd.Offers.all ac3 by have:=HV.out;rw[ehd.out,List.all_cons]at this;rw[← this,ac3,d1]<;>rfl)
   go_wp2_with (first|(go_at_call 101;refine gm (f5) ?_;intro x))
   go_roundw
   case rel=>exact⟨k+1,by go_num,by omega,HF,b7.of⟩
   case measure=>simp[intOf];omega
  ·have T8:=lH (show bd.Offers.all ac3=true by have:=HV.out;rw[List.drop_of_length_le (by have:=HN0.out;omega)]at this;rw[← this];rfl)
   clear HV
   go_wp2_with (first|(go_at_call 101;refine gm (f5) ?_;intro x))
   go_loopw [4] (fun v wr=>∃ k:Nat,v=I k∧k≤8∧Hid (L7 k (bd.Files.drop k)=L7 0 bd.Files)∧∃ X:b7 (w.alloc (.cells #[.slice a0 n0 c0,I bd.Sender.Next,I bd.Sender.Window,.slice a1 n1 c1,I bd.Sender.Done,I bd.Notice.Expect,.bool bd.Notice.Locked,.bool bd.Notice.Again,I bd.Unpacker.Channel,I bd.Unpacker.Next,.bool bd.Unpacker.Synced,.string bd.Unpacker.Rest,I bd.Unpacker.Lost,.slice a2 n2 c2,.slice a3 n3 c3,.slice a4 8 c4,.slice a5 8 c5] 76)),wr=X.w) (fun v _=>(8 - intOf v).toNat)
   case atStart=>exact⟨0,rfl,by omega,rfl,b7.of⟩
   case round =>
    obtain⟨k,rfl,hk,HV,X,rfl⟩:=hrel
    by_cases h:k<8
    ·have hkl:k<bd.Files.length:=by have:=HN4.out;omega
     obtain⟨eb,eoff,es,ea0,ec0,he,ehb,ehd,eq0,eok,eh0,eh1,eh2,eh3⟩:=hs4.atTFileIn hkl
     cases he
     have EOK:=lH eok;clear eok
     clear hkl
     have hx1:=(hxf es (ao4 ehd.out)).1
     have hx2:=(hxf es (ao4 ehd.out)).2
     obtain⟨pn,hpn⟩:∃ pn,es.Parts.length=pn:=⟨_,rfl⟩
     rw[hpn]at hx1 eh3
     cases d1:Y8 es
     ·have HF:=lH (show B3 bd=false from ar0 (by have:=HV.out;rw[ehd.out,L7]at this;rw[← this,d1]<;>rfl))
      go_wp2_with (first|(go_at_call 234;refine gm (aD3) ?_;intro x))
      go_ret
      exact b5.mk (by rw[HF.out];rfl)
     cases d2:(es.File == (k:Int))
     ·have HF:=lH (show B3 bd=false from ar0 (by have:=HV.out;rw[ehd.out,L7]at this;rw[← this,d1,d2]<;>rfl))
      have d2b:(es.File != (k:Int))=true:=by rw[bne,d2];rfl
      go_wp2_with (first|(go_at_call 234;refine gm (aD3) ?_;intro x))
      go_ret
      exact b5.mk (by rw[HF.out];rfl)
     have d2b:(es.File != (k:Int))=false:=by rw[bne,d2];rfl
     have HF:=lH (show L7 (k+1) (bd.Files.drop (k+1))=L7 0 bd.Files by have:=HV.out;rw[ehd.out,L7]at this;rw[← this,d1,d2]<;>rfl)
     go_wp2_with (first|(go_at_call 234;refine gm (aD3) ?_;intro x))
     go_roundw
     case rel=>exact⟨k+1,by go_num,by omega,HF,b7.of⟩
     case measure=>simp[intOf];omega
    ·have T11:=lH (show L7 0 bd.Files=true by have:=HV.out;rw[List.drop_of_length_le (by have:=HN4.out;omega)]at this;rw[← this];rfl)
     clear HV
     go_wp2_with (first|(go_at_call 101;refine gm (f5) ?_;intro x))
     go_ret
     exact b5.mk (by rw[aO3 T1.out T2.out T3.out T4.out T5.out T6.out T7.out T8.out T9.out T10.out T11.out];rfl)
