/- Packets, notices, records as they come, of the program. No condition but on sizes. -/
import Derived.Test.YtdijmbipcgalfaaGreatHM43
import Derived.Test.YtdijmbipcgalfaaGreatHRcvI5
import Derived.Deep.CutRange
import Derived.Test.YtdijmbipcgalfaaGreatHRcvS3
import Derived.Test.YtdijmbipcgalfaaGreatHM23
import Derived.Test.YtdijmbipcgalfaaGreatHGBn
import Derived.Test.YtdijmbipcgalfaaGreatHM29
namespace Go.Proofs.YtdijmbipcgalfaaGreat
set_option maxRecDepth 100000
set_option maxHeartbeats 4000000
set_option linter.unusedVariables false
open Go.ChangeShapes Go.WideShapes Go.ChangeAt Go.RowKit
variable {s:ByteArray}{b:Int}{B a k:Nat}{w:World}
private abbrev ay0:=Tryz.underlying107
private abbrev as7:=Tryz.underlying117
private abbrev aK1:=Tryz.underlying151
private abbrev uu3:=Tryz.underlying3
private abbrev ap6:=Tryz.underlying69
private abbrev bR0:=Tryz.underlying70
private abbrev uu9:=Tryz.underlying9
def ca9:Option s8→Value
 | some x=>.tuple #[.agg #[.int .i64 x.Id,.int .i64 x.Priority,.int .i64 x.Time,.string x.Data],.bool true]
 | none=>.tuple #[.agg #[.int .i64 0,.int .i64 0,.int .i64 0,.string ⟨#[]⟩],.bool false]
def ca7:Option X8→Value
 | some x=>.tuple #[.agg #[.int .i64 x.Expect,.bool x.Locked,.bool x.Again],.bool true]
 | none=>.tuple #[.agg #[.int .i64 0,.bool false,.bool false],.bool false]
theorem bB2(h:b=0∨b=1∨b=2∨b=3){P:Program}(ty ty2:TypeId)(w:World):(binOp .and ty (.int .u8 b) (.int .u8 2)).run P w=.ok (.int .u8 (b / 2*2)) w:=by
 rcases h with rfl|rfl|rfl|rfl<;>(simp only[go_sem];rfl)
theorem bB1(h:b=0∨b=1∨b=2∨b=3){P:Program}(ty ty2:TypeId)(w:World):(binOp .and ty (.int .u8 b) (.int .u8 1)).run P w=.ok (.int .u8 (b % 2)) w:=by
 rcases h with rfl|rfl|rfl|rfl<;>(simp only[go_sem];rfl)
theorem bM6(h:b=0∨b=1∨b=2∨b=3){P:Program}(ty ty2:TypeId)(w:World):(binOp .neq ty (.int .u8 (b / 2*2)) (.int .u8 0)).run P w=.ok (.bool (decide (2≤b))) w:=by
 rcases h with rfl|rfl|rfl|rfl<;>(simp only[go_sem];rfl)
theorem bM5(h:b=0∨b=1∨b=2∨b=3){P:Program}(ty ty2:TypeId)(w:World):(binOp .neq ty (.int .u8 (b % 2)) (.int .u8 0)).run P w=.ok (.bool (decide (b % 2=1))) w:=by
 rcases h with rfl|rfl|rfl|rfl<;>(simp only[go_sem];rfl)
theorem bw4(h1:1≤k)(h4:k≤4)(hs:s.size<a+k)(ha:a≤100)(hm:s.size≤100000000):Calls Tryz.prog 160 #[.string s,I a,I k] w (b5 w (.tuple #[I 0,.bool false])):=by
 have c1:inB k 1 4=true:=D8.2 om
 have c4:decide ((k:Int)<1)=false:=by simp;omega
 have c5:decide ((4:Int)<(k:Int))=false:=by simp;omega
 have c6:decide ((a:Int)<0)=false:=by simp
 have c7:decide ((s.size:Int) - (k:Int)<(a:Int))=true:=by simp;omega
 go_enter Tryz.func160,Tryz.ntmps160
 go_wp2_with (fail)
 refine bodyPost_ret (v:=.tuple #[I 0,.bool false]) ?_ rfl (b5.mk rfl)
 simp[results,Tryz.results160,go_sem]
theorem as3(hm:s.size≤100000000):Calls Tryz.prog 159 #[.string s,I 0] w (b5 w (bC6 (M2 s))):=by
 have HR:=lH (j5.new w [I 0,I 0,.string ⟨#[]⟩] 117 w.heap.size rfl)
 have gW:b8 w (w.alloc (.cells #[I 0,I 0,.string ⟨#[]⟩] 117)):=inferInstance
 by_cases h4:4≤s.size
 ·have c1:decide ((s.size:Int) - 4<0)=false:=by simp;omega
  have b0:=J5 s 0
  have b1:=J5 s 1
  have b2:=J5 s 2
  have b3:=J5 s 3
  obtain⟨d,hd⟩:∃ d,bAt s 0=d:=⟨_,rfl⟩
  obtain⟨q,hq⟩:∃ q,bAt s 1*256+bAt s 2=q:=⟨_,rfl⟩
  obtain⟨z,hz⟩:∃ z:Nat,bAt s 3=(z:Int):=⟨(bAt s 3).toNat,by omega⟩
  rw[hd]at b0
  rw[hz]at b3
  have hq0:0≤q∧q≤65535:=by omega
  have HST:=lH (show M2 s=if 4≤s.size∧d≤15∧(z:Int)≤40∧z+4≤s.size then some ⟨d,q,s.extract 4 (4+z)⟩else none by rw[M2,hd,hz,hq];rfl)
  have HE1:=lH (show R8 s 0 1=d by rw[← hd];show(0:Int)*256+bAt s 0=_;omega)
  have HE2:=lH (show R8 s 1 2=q by rw[← hq];show((0:Int)*256+bAt s 1)*256+bAt s 2=_;omega)
  have HE3:=lH (show R8 s 3 1=(z:Int)by rw[← hz];show(0:Int)*256+bAt s 3=_;omega)
  clear hd hq hz b1 b2
  have hx:((4:Int)+(z:Int)).toNat=4+z:=by omega
  go_enter Tryz.func159,Tryz.ntmps159
  go_wp2_with (fail)
  refine gm (af5 (a:=0) (k:=1) de de om om) ?_
  intro y1
  rw[HE1.out]
  go_wp2_with (fail)
  refine gm (af5 (a:=1) (k:=2) de de om om) ?_
  intro y2
  rw[HE2.out]
  go_wp2_with (fail)
  refine gm (af5 (a:=3) (k:=1) de de om om) ?_
  intro y3
  rw[HE3.out]
  cases c4:decide ((s.size:Int) - 4<(z:Int))
  ·have g4:(4:Int)≤4+(z:Int):=by omega
   have g5:(4:Int)+(z:Int)≤s.size:=by have:=of_decide_eq_false c4;omega
   have g6:(0:Int)≤4+(z:Int):=by omega
   cases c2:decide (15<d)
   ·cases c3:decide (40<(z:Int))
    ·have HV:=lH (show M2 s=some ⟨d,q,s.extract 4 (4+z)⟩by rw[HST.out,if_pos (by have h1:=c2;have h2:=c3;have h3:=c4;simp at h1 h2 h3;omega)])
     have hzz:(s.extract 4 (4+z)).size=z:=by have:=of_decide_eq_false c4;simp only[ByteArray.size_extract];omega
     have HZZ:=lH hzz
     go_wp2_with (first|(refine sB rfl _ _ (.tmp 69) rfl (w.heap.size) 0 kr [I d,I q,.string (s.extract 4 (4+z))] HR w nl ?_;intro z9 HX9 KX9))
     refine bodyPost_ret (v:=.tuple #[.agg #[I d,I q,.string (s.extract 4 (4+z))],I (4+(z:Int)),.bool true]) (V3 (P:=Tryz.prog) (u:=I (4+(z:Int))) (v:=.bool true) rfl rfl HX9.out _ as7 rfl kr rfl rfl) rfl ⟨by rw[HV.out,bC6,HZZ.out],b7.of⟩
    ·have HV:=lH (show M2 s=none by rw[HST.out,if_neg (by have:=c3;simp at this;omega)])
     go_wp2_with (first|(refine sB rfl _ _ (.tmp 58) rfl (w.heap.size) 0 kr [I 0,I 0,.string ⟨#[]⟩] HR w nl ?_;intro z9 HX9 KX9))
     refine bodyPost_ret (v:=.tuple #[.agg #[I 0,I 0,.string ⟨#[]⟩],I 0,.bool false]) (V3 (P:=Tryz.prog) (u:=I 0) (v:=.bool false) rfl rfl HX9.out _ as7 rfl kr rfl rfl) rfl ⟨by rw[HV.out];rfl,b7.of⟩
   ·have HV:=lH (show M2 s=none by rw[HST.out,if_neg (by have:=c2;simp at this;omega)])
    go_wp2_with (first|(refine sB rfl _ _ (.tmp 58) rfl (w.heap.size) 0 kr [I 0,I 0,.string ⟨#[]⟩] HR w nl ?_;intro z9 HX9 KX9))
    refine bodyPost_ret (v:=.tuple #[.agg #[I 0,I 0,.string ⟨#[]⟩],I 0,.bool false]) (V3 (P:=Tryz.prog) (u:=I 0) (v:=.bool false) rfl rfl HX9.out _ as7 rfl kr rfl rfl) rfl ⟨by rw[HV.out];rfl,b7.of⟩
  ·have HV:=lH (show M2 s=none by rw[HST.out,if_neg (by have:=c4;simp at this;omega)])
   cases c2:decide (15<d)
   ·cases c3:decide (40<(z:Int))
    ·go_wp2_with (first|(refine sB rfl _ _ (.tmp 58) rfl (w.heap.size) 0 kr [I 0,I 0,.string ⟨#[]⟩] HR w nl ?_;intro z9 HX9 KX9))
     refine bodyPost_ret (v:=.tuple #[.agg #[I 0,I 0,.string ⟨#[]⟩],I 0,.bool false]) (V3 (P:=Tryz.prog) (u:=I 0) (v:=.bool false) rfl rfl HX9.out _ as7 rfl kr rfl rfl) rfl ⟨by rw[HV.out];rfl,b7.of⟩
    ·go_wp2_with (first|(refine sB rfl _ _ (.tmp 58) rfl (w.heap.size) 0 kr [I 0,I 0,.string ⟨#[]⟩] HR w nl ?_;intro z9 HX9 KX9))
     refine bodyPost_ret (v:=.tuple #[.agg #[I 0,I 0,.string ⟨#[]⟩],I 0,.bool false]) (V3 (P:=Tryz.prog) (u:=I 0) (v:=.bool false) rfl rfl HX9.out _ as7 rfl kr rfl rfl) rfl ⟨by rw[HV.out];rfl,b7.of⟩
   ·go_wp2_with (first|(refine sB rfl _ _ (.tmp 58) rfl (w.heap.size) 0 kr [I 0,I 0,.string ⟨#[]⟩] HR w nl ?_;intro z9 HX9 KX9))
    refine bodyPost_ret (v:=.tuple #[.agg #[I 0,I 0,.string ⟨#[]⟩],I 0,.bool false]) (V3 (P:=Tryz.prog) (u:=I 0) (v:=.bool false) rfl rfl HX9.out _ as7 rfl kr rfl rfl) rfl ⟨by rw[HV.out];rfl,b7.of⟩
 ·have c1:decide ((s.size:Int) - 4<0)=true:=by simp;omega
  have HV:=lH (show M2 s=none by rw[M2,if_neg (fun h=>h4 h.1)])
  go_enter Tryz.func159,Tryz.ntmps159
  go_wp2_with (first|(refine sB rfl _ _ (.tmp 22) rfl (w.heap.size) 0 kr [I 0,I 0,.string ⟨#[]⟩] HR w nl ?_;intro z9 HX9 KX9))
  refine bodyPost_ret (v:=.tuple #[.agg #[I 0,I 0,.string ⟨#[]⟩],I 0,.bool false]) (V3 (P:=Tryz.prog) (u:=I 0) (v:=.bool false) rfl rfl HX9.out _ as7 rfl kr rfl rfl) rfl ⟨by rw[HV.out];rfl,b7.of⟩
theorem aW9(hm:s.size≤100000000):Calls Tryz.prog 161 #[.string s] w (b5 w (ca7 (ac8 s))):=by
 have HR:=lH (j5.new w [I 0,.bool false,.bool false] 70 w.heap.size rfl)
 have gW:b8 w (w.alloc (.cells #[I 0,.bool false,.bool false] 70)):=inferInstance
 by_cases h2:s.size=2
 ·have c1:((s.size:Int) != 2)=false:=by simp;omega
  have h1s:1<s.size:=by omega
  have h0s:0<s.size:=by omega
  have j1:(1:Int)<s.size:=by omega
  have b0:=J5 s 0
  have b1:=J5 s 1
  obtain⟨a0,ha⟩:∃ a,bAt s 0=a:=⟨_,rfl⟩
  obtain⟨d,hd⟩:∃ d,bAt s 1=d:=⟨_,rfl⟩
  rw[ha]at b0
  rw[hd]at b1
  have e1:((s[1]'h1s).toNat:Int)=d:=by rw[← hd];exact(K0 _).symm
  have HE0:=lH ha
  have HE1:=lH hd
  cases c2:decide (3<d)
  ·have hd4:d=0∨d=1∨d=2∨d=3:=by have:=of_decide_eq_false c2;omega
   have HD4:=lH hd4
   have HV:=lH (show ac8 s=some ⟨a0,decide (d % 2=1),decide (2≤d)⟩by rw[ac8,ha,hd,if_pos ⟨h2,by omega⟩])
   clear hd4 ha hd
   go_enter Tryz.func161,Tryz.ntmps161
   go_upto_region 3 with(first|((with_reducible refine rl ?_);(repeat(first|go_big_quiet_step (first|fail)|simp only[c1]|simp only[e1]|simp only[c2]));refine wpQuiet_nil ?_;intro x))
   refine I5 kr (T:=[12,13]) (Zs:=[]) (H:=[(1,[]),(2,[]),(4,[]),(5,[]),(6,[]),(8,[]),(9,[]),(10,[])]) (C:=[]) (Fs:=[(some 13,.v (.string s)),(some 14,.v (.int .u8 (a0))),(some 15,.v (I (a0))),(some 16,.v (.string s)),(some 17,.v (.int .u8 (d))),(some 18,.v (.int .u8 (d % 2))),(some 19,.v (.bool (decide (d % 2=1)))),(some 20,.v (.string s)),(some 21,.v (.int .u8 (d))),(some 22,.v (.int .u8 (d / 2*2))),(some 23,.v (.bool (decide (2≤d)))),(some 24,.v (.agg #[I a0,.bool (decide (d % 2=1)),.bool (decide (2≤d))])),(none,.v (undef)),(none,.v (undef))]) kr (fun val W=>by kernel_rfl) ?ob3 ?lz3 ?pn3 ?tl3
   case ob3 =>
    refine⟨fun x=>?_,fun x=>?_,fun x=>?_,fun x=>?_,fun x=>?_,fun x=>?_,fun x=>?_,fun x=>?_,trivial⟩
    ·exact au1 rfl kr uu9 (show 0<s.size by omega) (by rw[← HE0.out];exact(K0 _).symm)
    ·exact aN3 (t:=5) (d:=3) (p:=.u8) (q:=.i64) (s:=(a0)) rfl kr kr uu3 (aw9 om om)
    ·exact au1 rfl kr uu9 (show 1<s.size by omega) (by rw[← HE1.out];exact(K0 _).symm)
    ·exact ak9 (o:=.and) (p:=.u8) (s:=d) (q:=.u8) (t:=1) rfl kr (fun ty ty2 w=>by exact bB1 HD4.out ty ty2 w)
    ·exact ak9 (o:=.neq) (p:=.u8) (s:=(d % 2)) (q:=.u8) (t:=0) rfl kr (fun ty ty2 w=>by exact bM5 HD4.out ty ty2 w)
    ·exact au1 rfl kr uu9 (show 1<s.size by omega) (by rw[← HE1.out];exact(K0 _).symm)
    ·exact ak9 (o:=.and) (p:=.u8) (s:=d) (q:=.u8) (t:=2) rfl kr (fun ty ty2 w=>by exact bB2 HD4.out ty ty2 w)
    ·exact ak9 (o:=.neq) (p:=.u8) (s:=(d / 2*2)) (q:=.u8) (t:=0) rfl kr (fun ty ty2 w=>by exact bM6 HD4.out ty ty2 w)
   case lz3 =>
    exact trivial
   case pn3=>exact fun _ _ _ _ _ _ h=>h
   case tl3 =>
    intro x
    refine bX8 rfl rfl ?_
    simp only[ag8]
    simp only[Act.put,List.setIfInBounds_toArray,List.set_cons_succ,List.set_cons_zero]
    go_wp2_with (first|((with_reducible refine rl ?_);refine rq ?_;intro x)|(refine sB rfl _ _ (.tmp 24) rfl (w.heap.size) 0 kr [I a0,.bool (decide (d % 2=1)),.bool (decide (2≤d))] HR w nl ?_;intro z9 HX9 KX9))
    refine bodyPost_ret (v:=.tuple #[.agg #[I a0,.bool (decide (d % 2=1)),.bool (decide (2≤d))],.bool true]) (A0 (P:=Tryz.prog) (u:=.bool true) rfl rfl HX9.out _ bR0 rfl kr rfl) rfl ⟨by rw[HV.out];rfl,b7.of⟩
  ·have HV:=lH (show ac8 s=none by rw[ac8,if_neg (by rw[hd];have:=of_decide_eq_true c2;omega)])
   go_enter Tryz.func161,Tryz.ntmps161
   go_wp2_with (first|((with_reducible refine rl ?_);(repeat(first|go_big_quiet_step (first|fail)|simp only[c1]|simp only[e1]|simp only[c2]));refine wpQuiet_nil ?_;intro x)|(refine sB rfl _ _ (.tmp 12) rfl (w.heap.size) 0 kr [I 0,.bool false,.bool false] HR w nl ?_;intro z9 HX9 KX9))
   refine bodyPost_ret (v:=.tuple #[.agg #[I 0,.bool false,.bool false],.bool false]) (A0 (P:=Tryz.prog) (u:=.bool false) rfl rfl HX9.out _ bR0 rfl kr rfl) rfl ⟨by rw[HV.out];rfl,b7.of⟩
 ·have c1:((s.size:Int) != 2)=true:=by simp;omega
  have HV:=lH (show ac8 s=none by rw[ac8,if_neg om])
  go_enter Tryz.func161,Tryz.ntmps161
  go_wp2_with (first|((with_reducible refine rl ?_);(repeat(first|go_big_quiet_step (first|fail)|simp only[c1]));refine wpQuiet_nil ?_;intro x)|(refine sB rfl _ _ (.tmp 12) rfl (w.heap.size) 0 kr [I 0,.bool false,.bool false] HR w nl ?_;intro z9 HX9 KX9))
  refine bodyPost_ret (v:=.tuple #[.agg #[I 0,.bool false,.bool false],.bool false]) (A0 (P:=Tryz.prog) (u:=.bool false) rfl rfl HX9.out _ bR0 rfl kr rfl) rfl ⟨by rw[HV.out];rfl,b7.of⟩
theorem aX0(hm:s.size≤100000000):Calls Tryz.prog 164 #[.string s] w (b5 w (ca9 (aa2 s))):=by
 have HR:=lH (j5.new w [I 0,I 0,I 0,.string ⟨#[]⟩] 151 w.heap.size rfl)
 have gW:b8 w (w.alloc (.cells #[I 0,I 0,I 0,.string ⟨#[]⟩] 151)):=inferInstance
 by_cases h6:6≤s.size
 ·have c1:decide ((s.size:Int)<6)=false:=by simp;omega
  obtain⟨x0,hx⟩:∃ x0,bD0 s=x0:=⟨_,rfl⟩
  have HST:=lH (show aa2 s=if s6 x0=true then some x0 else none by rw[aa2,hx];simp only[h6,true_and])
  have HE1:=lH (show R8 s 0 2=x0.Id by rw[← hx];show((0:Int)*256+bAt s 0)*256+bAt s 1=bAt s 0*256+bAt s 1;omega)
  have e2:bAt s 2=x0.Priority:=by rw[← hx];rfl
  have HE3:=lH (show R8 s 3 3=x0.Time by rw[← hx];show(((0:Int)*256+bAt s 3)*256+bAt s 4)*256+bAt s 5=(bAt s 3*256+bAt s 4)*256+bAt s 5;omega)
  have hd:s.extract 6 s.size=x0.Data:=by rw[← hx];rfl
  have hdz:x0.Data.size≤9223372036854775807:=by rw[← hd];simp only[ByteArray.size_extract];omega
  have HD:=lH hd
  have hj6:(6:Int)≤s.size:=by omega
  have b2:=J5 s 2
  have HE2:=lH e2
  clear hx
  rw[e2]at b2
  clear e2 hd
  go_enter Tryz.func164,Tryz.ntmps164
  go_wp2_with (first|((with_reducible refine rl ?_);(repeat(first|go_big_quiet_step (first|fail)|simp only[c1]));refine wpQuiet_nil ?_;intro x))
  refine gm (af5 (a:=0) (k:=2) de de om om) ?_
  intro y1
  rw[HE1.out]
  go_wp2_with (first|((with_reducible refine rl ?_);refine rq ?_;intro x))
  refine gm (af5 (a:=3) (k:=3) de de om om) ?_
  intro y2
  rw[HE3.out]
  go_upto_region 5 with(first|((with_reducible refine rl ?_);refine rq ?_;intro x))
  refine I5 kr (T:=[9]) (Zs:=[]) (H:=[(2,[]),(3,[]),(6,[]),(8,[])]) (C:=[8]) (Fs:=[(some 23,.v (I (x0.Id))),(some 24,.v (.string s)),(some 25,.v (.int .u8 (x0.Priority))),(some 26,.v (I (x0.Priority))),(some 27,.v (I (x0.Time))),(some 28,.v (.string s)),(some 29,.v (.string x0.Data)),(some 30,.v (.agg #[I x0.Id,I x0.Priority,I x0.Time,.string x0.Data])),(some 8,.box y2.w.heap.size [I 0,I 0,I 0,.string ⟨#[]⟩] 151),(none,.v (undef))]) kr (fun val W=>by kernel_rfl) ?ob5 ?lz5 ?pn5 ?tl5
  case ob5 =>
   refine⟨fun x=>?_,fun x=>?_,fun x=>?_,fun x=>?_,trivial⟩
   ·exact au1 rfl kr uu9 (show 2<s.size by omega) (by rw[← HE2.out];exact(K0 _).symm)
   ·exact aN3 (t:=5) (d:=3) (p:=.u8) (q:=.i64) (s:=(x0.Priority)) rfl kr kr uu3 (aw9 om om)
   ·exact bR8 (k:=6) rfl kr uu9 om HD.out
   ·exact bR7 rfl kr LeN.out
  case lz5 =>
   exact trivial
  case pn5=>exact fun _ _ _ _ _ _ h=>h
  case tl5 =>
   intro z
   refine aq0 fun v9 q9=>?_
   obtain⟨bq,rfl,hbq,hBq⟩:=(show ∃ b,v9=.pointer (some ⟨b,0,none⟩)∧y2.w.heap.size≤b∧j5 z.w b [I 0,I 0,I 0,.string ⟨#[]⟩] 151 from q9)
   clear q9
   have HBQ:=lH hBq
   have hbq2:w.heap.size+1≤bq:=by have h5:=(ii:b8 (w.alloc (.cells #[I 0,I 0,I 0,.string ⟨#[]⟩] 151)) y2.w).out.size;simp only[World.size_alloc]at h5;omega
   clear hBq
   refine aF1 rfl ?_
   simp only[ag8,ae9]
   simp only[nrm,if_true]
   go_upto_region 6 with(first|((with_reducible refine rl ?_);refine rq ?_;intro x)|(refine sB rfl _ _ (.tmp 30) rfl (bq) 0 kr [I x0.Id,I x0.Priority,I x0.Time,.string x0.Data] HBQ w om ?_;intro z6 HX6 KX6))
   (try simp only[Act.put])
   have HR6:=lH ((HR.out.to (ii:b8 (w.alloc (.cells #[I 0,I 0,I 0,.string ⟨#[]⟩] 151)) _)).but KX6.out om)
   clear HR KX6
   go_wp2_with (first|((with_reducible refine rl ?_);refine rq ?_;intro x)|(refine lA rfl _ _ rfl (bq) 0 kr [I x0.Id,I x0.Priority,I x0.Time,.string x0.Data] HX6 aK1 ?_))
   refine gm (W8 (x:=x0) hdz) ?_
   intro y4
   cases c2:s6 x0
   ·have HV:=lH (show aa2 s=none by rw[HST.out,c2];rfl)
    go_wp2_with (first|((with_reducible refine rl ?_);(repeat(first|go_big_quiet_step (first|fail)|simp only[c2]));refine wpQuiet_nil ?_;intro x)|(refine sB rfl _ _ (.tmp 34) rfl (w.heap.size) 0 kr [I 0,I 0,I 0,.string ⟨#[]⟩] HR6 w nl ?_;intro z9 HX9 KX9))
    refine bodyPost_ret (v:=.tuple #[.agg #[I 0,I 0,I 0,.string ⟨#[]⟩],.bool false]) (A0 (P:=Tryz.prog) (u:=.bool false) rfl rfl HX9.out _ aK1 rfl kr rfl) rfl ⟨by rw[HV.out];rfl,b7.of⟩
   ·have HV:=lH (show aa2 s=some x0 by rw[HST.out,c2];rfl)
    go_wp2_with (first|((with_reducible refine rl ?_);(repeat(first|go_big_quiet_step (first|fail)|simp only[c2]));refine wpQuiet_nil ?_;intro x)|(refine lA rfl _ _ rfl (bq) 0 kr [I x0.Id,I x0.Priority,I x0.Time,.string x0.Data] HX6 aK1 ?_)|(refine sB rfl _ _ (.tmp 35) rfl (w.heap.size) 0 kr [I x0.Id,I x0.Priority,I x0.Time,.string x0.Data] HR6 w nl ?_;intro z9 HX9 KX9))
    refine bodyPost_ret (v:=.tuple #[.agg #[I x0.Id,I x0.Priority,I x0.Time,.string x0.Data],.bool true]) (A0 (P:=Tryz.prog) (u:=.bool true) rfl rfl HX9.out _ aK1 rfl kr rfl) rfl ⟨by rw[HV.out];rfl,b7.of⟩
 ·have c1:decide ((s.size:Int)<6)=true:=by simp;omega
  have HV:=lH (show aa2 s=none by rw[aa2,if_neg (fun h=>h6 h.1)])
  go_enter Tryz.func164,Tryz.ntmps164
  go_wp2_with (first|((with_reducible refine rl ?_);(repeat(first|go_big_quiet_step (first|fail)|simp only[c1]));refine wpQuiet_nil ?_;intro x)|(refine sB rfl _ _ (.tmp 12) rfl (w.heap.size) 0 kr [I 0,I 0,I 0,.string ⟨#[]⟩] HR w nl ?_;intro z9 HX9 KX9))
  refine bodyPost_ret (v:=.tuple #[.agg #[I 0,I 0,I 0,.string ⟨#[]⟩],.bool false]) (A0 (P:=Tryz.prog) (u:=.bool false) rfl rfl HX9.out _ aK1 rfl kr rfl) rfl ⟨by rw[HV.out];rfl,b7.of⟩
theorem au3{x:aa1}(hz:x.Data.size≤100000000):Calls Tryz.prog 110 #[.agg #[I x.Channel,I x.Count,I x.First,.string x.Data]] w (b5 w (.bool (B7 x))):=by
 cases c0:inB x.First 0 23
 ·cases c1:(x.First == 255)
  ·cases c2:inB x.Channel 0 2
   ·have HV:=lH (show B7 x=false by simp[B7,c0,c1,c2])
    go_enter Tryz.func110,Tryz.ntmps110
    go_wp2_with (first|(go_at_call 101;refine gm (f5) ?_;intro x))
    go_ret
    exact b5.mk (by rw[HV.out];rfl)
   cases c3:inB x.Count 0 255
   ·have HV:=lH (show B7 x=false by simp[B7,c0,c1,c2,c3])
    go_enter Tryz.func110,Tryz.ntmps110
    go_wp2_with (first|(go_at_call 101;refine gm (f5) ?_;intro x))
    go_ret
    exact b5.mk (by rw[HV.out];rfl)
   ·have HV:=lH (show B7 x=false by simp[B7,c0,c1,c2,c3])
    go_enter Tryz.func110,Tryz.ntmps110
    go_wp2_with (first|(go_at_call 101;refine gm (f5) ?_;intro x))
    go_ret
    exact b5.mk (by rw[HV.out];rfl)
  ·cases c2:inB x.Channel 0 2
   ·have HV:=lH (show B7 x=false by simp[B7,c0,c1,c2])
    go_enter Tryz.func110,Tryz.ntmps110
    go_wp2_with (first|(go_at_call 101;refine gm (f5) ?_;intro x))
    go_ret
    exact b5.mk (by rw[HV.out];rfl)
   cases c3:inB x.Count 0 255
   ·have HV:=lH (show B7 x=false by simp[B7,c0,c1,c2,c3])
    go_enter Tryz.func110,Tryz.ntmps110
    go_wp2_with (first|(go_at_call 101;refine gm (f5) ?_;intro x))
    go_ret
    exact b5.mk (by rw[HV.out];rfl)
   cases c4:((x.Data.size:Int) == 24)
   ·have d4:decide (x.Data.size=24)=false:=by simp at c4 ⊢;omega
    have HV:=lH (show B7 x=false by simp[B7,c0,c1,c2,c3,c4,d4])
    go_enter Tryz.func110,Tryz.ntmps110
    go_wp2_with (first|(go_at_call 101;refine gm (f5) ?_;intro x))
    go_ret
    exact b5.mk (by rw[HV.out];rfl)
   ·have d4:decide (x.Data.size=24)=true:=by simp at c4 ⊢;omega
    have HV:=lH (show B7 x=true by simp[B7,c0,c1,c2,c3,c4,d4])
    go_enter Tryz.func110,Tryz.ntmps110
    go_wp2_with (first|(go_at_call 101;refine gm (f5) ?_;intro x))
    go_ret
    exact b5.mk (by rw[HV.out];rfl)
 ·cases c2:inB x.Channel 0 2
  ·have HV:=lH (show B7 x=false by simp[B7,c0,c2])
   go_enter Tryz.func110,Tryz.ntmps110
   go_wp2_with (first|(go_at_call 101;refine gm (f5) ?_;intro x))
   go_ret
   exact b5.mk (by rw[HV.out];rfl)
  cases c3:inB x.Count 0 255
  ·have HV:=lH (show B7 x=false by simp[B7,c0,c2,c3])
   go_enter Tryz.func110,Tryz.ntmps110
   go_wp2_with (first|(go_at_call 101;refine gm (f5) ?_;intro x))
   go_ret
   exact b5.mk (by rw[HV.out];rfl)
  cases c4:((x.Data.size:Int) == 24)
  ·have d4:decide (x.Data.size=24)=false:=by simp at c4 ⊢;omega
   have HV:=lH (show B7 x=false by simp[B7,c0,c2,c3,c4,d4])
   go_enter Tryz.func110,Tryz.ntmps110
   go_wp2_with (first|(go_at_call 101;refine gm (f5) ?_;intro x))
   go_ret
   exact b5.mk (by rw[HV.out];rfl)
  ·have d4:decide (x.Data.size=24)=true:=by simp at c4 ⊢;omega
   have HV:=lH (show B7 x=true by simp[B7,c0,c2,c3,c4,d4])
   go_enter Tryz.func110,Tryz.ntmps110
   go_wp2_with (first|(go_at_call 101;refine gm (f5) ?_;intro x))
   go_ret
   exact b5.mk (by rw[HV.out];rfl)
theorem aC2(hm:s.size≤100000000):Calls Tryz.prog 23 #[.string s] w (b5 w (bI2 (U7 s))):=by
 have HR:=lH (j5.new w [I 0,I 0,I 0,.string ⟨#[]⟩] 107 w.heap.size rfl)
 have gW:b8 w (w.alloc (.cells #[I 0,I 0,I 0,.string ⟨#[]⟩] 107)):=inferInstance
 cases ho:V2 s with
 | none =>
  have HV:=lH (show U7 s=none by rw[U7,ho])
  have HOT:=lH (fun(W:World)=>show Calls Tryz.prog 109 #[.string s] W (b5 W (.tuple #[.string ⟨#[]⟩,.bool false]))by have:=aT9 (s:=s) (w:=W) hm;rw[ho]at this;exact this)
  go_enter Tryz.func23,Tryz.ntmps23
  go_wp2_with (first|((with_reducible refine rl ?_);refine rq ?_;intro x)|(go_at_call 109;refine gm (HOT.out _) ?_;intro y1)|(refine sB rfl _ _ (.tmp 19) rfl (w.heap.size) 0 kr [I 0,I 0,I 0,.string ⟨#[]⟩] HR w nl ?_;intro z9 HX9 KX9))
  refine bodyPost_ret (v:=.tuple #[.agg #[I 0,I 0,I 0,.string ⟨#[]⟩],.bool false]) (A0 (P:=Tryz.prog) (u:=.bool false) rfl rfl HX9.out _ ay0 rfl kr rfl) rfl ⟨by rw[HV.out];rfl,b7.of⟩
 | some t =>
  have HOT:=lH (fun(W:World)=>show Calls Tryz.prog 109 #[.string s] W (b5 W (.tuple #[.string t,.bool true]))by have:=aT9 (s:=s) (w:=W) hm;rw[ho]at this;exact this)
  by_cases h7:t.size=27
  ·have c1:((t.size:Int) != 27)=false:=by simp;omega
   obtain⟨f,hf⟩:∃ f,bL8 t=f:=⟨_,rfl⟩
   have HST:=lH (show U7 s=if B7 f=true then some f else none by rw[U7,ho];simp only[h7,hf,true_and])
   have b0:=J5 t 0
   have e0:bAt t 0=f.Channel:=by rw[← hf];rfl
   have HE0:=lH e0
   rw[e0]at b0
   clear e0
   have b1:=J5 t 1
   have e1:bAt t 1=f.Count:=by rw[← hf];rfl
   have HE1:=lH e1
   rw[e1]at b1
   clear e1
   have b2:=J5 t 2
   have e2:bAt t 2=f.First:=by rw[← hf];rfl
   have HE2:=lH e2
   rw[e2]at b2
   clear e2
   have HD:=lH (show t.extract 3 t.size=f.Data by rw[← hf];rfl)
   have hdz:f.Data.size≤100000000:=by rw[← HD.out];simp only[ByteArray.size_extract];omega
   clear hf ho
   go_enter Tryz.func23,Tryz.ntmps23
   go_upto_region 4 with(first|((with_reducible refine rl ?_);(repeat(first|go_big_quiet_step (first|fail)|simp only[c1]));refine wpQuiet_nil ?_;intro x)|(go_at_call 109;refine gm (HOT.out _) ?_;intro y1))
   refine I5 kr (T:=[13]) (Zs:=[]) (H:=[(1,[]),(2,[]),(4,[]),(5,[]),(7,[]),(8,[]),(10,[]),(12,[])]) (C:=[12]) (Fs:=[(some 20,.v (.string t)),(some 21,.v (.int .u8 (f.Channel))),(some 22,.v (I (f.Channel))),(some 23,.v (.string t)),(some 24,.v (.int .u8 (f.Count))),(some 25,.v (I (f.Count))),(some 26,.v (.string t)),(some 27,.v (.int .u8 (f.First))),(some 28,.v (I (f.First))),(some 29,.v (.string t)),(some 30,.v (.string f.Data)),(some 31,.v (.agg #[I f.Channel,I f.Count,I f.First,.string f.Data])),(some 6,.box y1.w.heap.size [I 0,I 0,I 0,.string ⟨#[]⟩] 107),(none,.v (undef))]) kr (fun val W=>by kernel_rfl) ?ob4 ?lz4 ?pn4 ?tl4
   case ob4 =>
    refine⟨fun x=>?_,fun x=>?_,fun x=>?_,fun x=>?_,fun x=>?_,fun x=>?_,fun x=>?_,fun x=>?_,trivial⟩
    ·exact au1 rfl kr uu9 (show 0<t.size by omega) (by rw[← HE0.out];exact(K0 _).symm)
    ·exact aN3 (t:=5) (d:=3) (p:=.u8) (q:=.i64) (s:=(f.Channel)) rfl kr kr uu3 (aw9 om om)
    ·exact au1 rfl kr uu9 (show 1<t.size by omega) (by rw[← HE1.out];exact(K0 _).symm)
    ·exact aN3 (t:=5) (d:=3) (p:=.u8) (q:=.i64) (s:=(f.Count)) rfl kr kr uu3 (aw9 om om)
    ·exact au1 rfl kr uu9 (show 2<t.size by omega) (by rw[← HE2.out];exact(K0 _).symm)
    ·exact aN3 (t:=5) (d:=3) (p:=.u8) (q:=.i64) (s:=(f.First)) rfl kr kr uu3 (aw9 om om)
    ·exact bR8 (k:=3) rfl kr uu9 om HD.out
    ·exact bR7 rfl kr LeN.out
   case lz4 =>
    exact trivial
   case pn4=>exact fun _ _ _ _ _ _ h=>h
   case tl4 =>
    intro z
    refine aq0 fun v9 q9=>?_
    obtain⟨bq,rfl,hbq,hBq⟩:=(show ∃ b,v9=.pointer (some ⟨b,0,none⟩)∧y1.w.heap.size≤b∧j5 z.w b [I 0,I 0,I 0,.string ⟨#[]⟩] 107 from q9)
    clear q9
    have HBQ:=lH hBq
    have hbq2:w.heap.size+1≤bq:=by have h5:=(ii:b8 (w.alloc (.cells #[I 0,I 0,I 0,.string ⟨#[]⟩] 107)) y1.w).out.size;simp only[World.size_alloc]at h5;omega
    clear hBq
    refine aF1 rfl ?_
    simp only[ag8,ae9]
    simp only[nrm,if_true]
    go_upto_region 5 with(first|((with_reducible refine rl ?_);refine rq ?_;intro x)|(refine sB rfl _ _ (.tmp 31) rfl (bq) 0 kr [I f.Channel,I f.Count,I f.First,.string f.Data] HBQ w om ?_;intro z6 HX6 KX6))
    (try simp only[Act.put])
    have HR6:=lH ((HR.out.to (ii:b8 (w.alloc (.cells #[I 0,I 0,I 0,.string ⟨#[]⟩] 107)) _)).but KX6.out om)
    clear HR KX6
    go_wp2_with (first|((with_reducible refine rl ?_);refine rq ?_;intro x)|(refine lA rfl _ _ rfl (bq) 0 kr [I f.Channel,I f.Count,I f.First,.string f.Data] HX6 ay0 ?_))
    refine gm (au3 (x:=f) hdz) ?_
    intro y4
    cases c2:B7 f
    ·have HV:=lH (show U7 s=none by rw[HST.out,c2];rfl)
     go_wp2_with (first|((with_reducible refine rl ?_);(repeat(first|go_big_quiet_step (first|fail)|simp only[c2]));refine wpQuiet_nil ?_;intro x)|(refine sB rfl _ _ (.tmp 35) rfl (w.heap.size) 0 kr [I 0,I 0,I 0,.string ⟨#[]⟩] HR6 w nl ?_;intro z9 HX9 KX9))
     refine bodyPost_ret (v:=.tuple #[.agg #[I 0,I 0,I 0,.string ⟨#[]⟩],.bool false]) (A0 (P:=Tryz.prog) (u:=.bool false) rfl rfl HX9.out _ ay0 rfl kr rfl) rfl ⟨by rw[HV.out];rfl,b7.of⟩
    ·have HV:=lH (show U7 s=some f by rw[HST.out,c2];rfl)
     go_wp2_with (first|((with_reducible refine rl ?_);(repeat(first|go_big_quiet_step (first|fail)|simp only[c2]));refine wpQuiet_nil ?_;intro x)|(refine lA rfl _ _ rfl (bq) 0 kr [I f.Channel,I f.Count,I f.First,.string f.Data] HX6 ay0 ?_)|(refine sB rfl _ _ (.tmp 36) rfl (w.heap.size) 0 kr [I f.Channel,I f.Count,I f.First,.string f.Data] HR6 w nl ?_;intro z9 HX9 KX9))
     refine bodyPost_ret (v:=.tuple #[.agg #[I f.Channel,I f.Count,I f.First,.string f.Data],.bool true]) (A0 (P:=Tryz.prog) (u:=.bool true) rfl rfl HX9.out _ ay0 rfl kr rfl) rfl ⟨by rw[HV.out];rfl,b7.of⟩
  ·have c1:((t.size:Int) != 27)=true:=by simp;omega
   have HV:=lH (show U7 s=none by rw[U7,ho];simp only[h7,false_and,if_false])
   go_enter Tryz.func23,Tryz.ntmps23
   go_wp2_with (first|((with_reducible refine rl ?_);(repeat(first|go_big_quiet_step (first|fail)|simp only[c1]));refine wpQuiet_nil ?_;intro x)|(go_at_call 109;refine gm (HOT.out _) ?_;intro y1)|(refine sB rfl _ _ (.tmp 19) rfl (w.heap.size) 0 kr [I 0,I 0,I 0,.string ⟨#[]⟩] HR w nl ?_;intro z9 HX9 KX9))
   refine bodyPost_ret (v:=.tuple #[.agg #[I 0,I 0,I 0,.string ⟨#[]⟩],.bool false]) (A0 (P:=Tryz.prog) (u:=.bool false) rfl rfl HX9.out _ ay0 rfl kr rfl) rfl ⟨by rw[HV.out];rfl,b7.of⟩
theorem Y4(h1:1≤k)(h4:k≤4)(hs:a+k≤s.size)(hm:s.size≤100000000):Calls Tryz.prog 116 #[.string s,I a,I k] w (b5 w (.tuple #[I (R8 s a k),.bool true])):=by
 have HS:=lH hs
 have HM:=lH hm
 have c1:inB k 1 4=true:=D8.2 om
 have c4:decide ((k:Int)<1)=false:=by simp;omega
 have c5:decide ((4:Int)<(k:Int))=false:=by simp;omega
 have c6:decide ((a:Int)<0)=false:=by simp
 have c7:decide ((s.size:Int)<(a:Int))=false:=by simp;omega
 have c8:decide ((s.size:Int) - (a:Int)<(k:Int))=false:=by simp;omega
 go_enter Tryz.func116,Tryz.ntmps116
 go_wp2_with (first|(go_at_call 101;refine gm (f5) ?_;intro x))
 go_loopw [8,9] (fun u v wr=>∃ i:Nat,v=I i∧u=I (R8 s a i)∧i≤k∧∃ y:b7 w,wr=y.w) (fun _ v _=>(k - intOf v).toNat)
 case atStart=>exact⟨0,rfl,rfl,Nat.zero_le _,b7.of⟩
 case round =>
  obtain⟨i,rfl,rfl,hi,y,rfl⟩:=hrel
  by_cases h:i<k
  ·have hai:a+i<s.size:=by have:=HS.out;omega
   have e0:bAt s (a+i)=((s[a+i]'hai).toNat:Int):=K0 hai
   have hb:=J5 s (a+i)
   have hn1:0≤R8 s a i∧R8 s a i≤16777215:=by
    have h0:=J5 s (a+0);have h1:=J5 s (a+1);have h2:=J5 s (a+2)
    have hi3:i=0∨i=1∨i=2∨i=3:=by omega
    rcases hi3 with rfl|rfl|rfl|rfl<;>simp only[R8]<;>omega
   have HW:=lH (show R8 s a (i+1)=R8 s a i*256+bAt s (a+i)from rfl)
   obtain⟨n,hn⟩:∃ n,R8 s a i=n:=⟨_,rfl⟩
   obtain⟨b,hb9⟩:∃ b:Int,((s[a+i]'hai).toNat:Int)=b:=⟨_,rfl⟩
   rw[hn]at hn1 HW
   rw[e0,hb9]at hb HW
   clear e0
   have hj0:(0:Int)≤(a:Int)+(i:Int):=by omega
   have hj2:(a:Int)+(i:Int)<(s.size:Int):=by omega
   have hj3:((a:Int)+(i:Int)).toNat=a+i:=by omega
   have hsb:=HM.out
   clear hs hm
   go_wp2_with (fail)
   (try simp only[hn,hb9])
   go_roundw
   case rel=>exact⟨i+1,by go_num,(by first|(rw[HW.out];done)|(rw[HW.out,Int.mul_comm n 256])),by omega,b7.of⟩
   case measure=>simp[intOf];omega
  ·obtain rfl:i=k:=by omega
   clear hs hm
   go_wp2_with (fail)
   refine bodyPost_ret (v:=.tuple #[I (R8 s a i),.bool true]) ?_ rfl (b5.mk (by rfl))
   simp[results,Tryz.results116,go_sem]
theorem av8(h1:1≤k)(h4:k≤4)(hs:s.size<a+k)(ha:a≤100)(hm:s.size≤100000000):Calls Tryz.prog 116 #[.string s,I a,I k] w (b5 w (.tuple #[I 0,.bool false])):=by
 have c1:inB k 1 4=true:=D8.2 om
 have c4:decide ((k:Int)<1)=false:=by simp;omega
 have c5:decide ((4:Int)<(k:Int))=false:=by simp;omega
 have c6:decide ((a:Int)<0)=false:=by simp
 by_cases h:s.size<a
 ·have c7:decide ((s.size:Int)<(a:Int))=true:=by simp;omega
  go_enter Tryz.func116,Tryz.ntmps116
  go_wp2_with (first|(go_at_call 101;refine gm (f5) ?_;intro x))
  refine bodyPost_ret (v:=.tuple #[I 0,.bool false]) ?_ rfl (b5.mk rfl)
  simp[results,Tryz.results116,go_sem]
 ·have c7:decide ((s.size:Int)<(a:Int))=false:=by simp;omega
  have c8:decide ((s.size:Int) - (a:Int)<(k:Int))=true:=by simp;omega
  go_enter Tryz.func116,Tryz.ntmps116
  go_wp2_with (first|(go_at_call 101;refine gm (f5) ?_;intro x))
  refine bodyPost_ret (v:=.tuple #[I 0,.bool false]) ?_ rfl (b5.mk rfl)
  simp[results,Tryz.results116,go_sem]
def aj8(x:E0):Bool:=inB x.Apid 0 15 && (inB x.Seq 0 65535 && decide ((x.Data.size:Int)≤40))
theorem bA5{x:E0}(hz:x.Data.size≤100000000):Calls Tryz.prog 240 #[.agg #[I x.Apid,I x.Seq,.string x.Data]] w (b5 w (.bool (aj8 x))):=by
 cases c0:inB x.Apid 0 15
 ·have HV:=lH (show aj8 x=false by simp[aj8,c0])
  go_enter Tryz.func240,Tryz.ntmps240
  go_wp2_with (first|(go_at_call 101;refine gm (f5) ?_;intro x))
  go_ret
  exact b5.mk (by rw[HV.out];rfl)
 cases c1:inB x.Seq 0 65535
 ·have HV:=lH (show aj8 x=false by simp[aj8,c0,c1])
  go_enter Tryz.func240,Tryz.ntmps240
  go_wp2_with (first|(go_at_call 101;refine gm (f5) ?_;intro x))
  go_ret
  exact b5.mk (by rw[HV.out];rfl)
 cases c2:decide ((x.Data.size:Int)≤40)
 ·have HV:=lH (show aj8 x=false by simp[aj8,c0,c1,c2])
  go_enter Tryz.func240,Tryz.ntmps240
  go_wp2_with (first|(go_at_call 101;refine gm (f5) ?_;intro x))
  go_ret
  exact b5.mk (by rw[HV.out];rfl)
 ·have HV:=lH (show aj8 x=true by simp[aj8,c0,c1,c2])
  go_enter Tryz.func240,Tryz.ntmps240
  go_wp2_with (first|(go_at_call 101;refine gm (f5) ?_;intro x))
  go_ret
  exact b5.mk (by rw[HV.out];rfl)
theorem aX7(hm:s.size≤100000000):Calls Tryz.prog 113 #[.string s,I 0] w (b5 w (bC6 (M2 s))):=by
 have HR:=lH (j5.new w [I 0,I 0,.string ⟨#[]⟩] 117 w.heap.size rfl)
 have gW:b8 w (w.alloc (.cells #[I 0,I 0,.string ⟨#[]⟩] 117)):=inferInstance
 by_cases h4:4≤s.size
 ·have c1:decide ((s.size:Int) - 4<0)=false:=by simp;omega
  have b0:=J5 s 0
  have b1:=J5 s 1
  have b2:=J5 s 2
  have b3:=J5 s 3
  obtain⟨d,hd⟩:∃ d,bAt s 0=d:=⟨_,rfl⟩
  obtain⟨q,hq⟩:∃ q,bAt s 1*256+bAt s 2=q:=⟨_,rfl⟩
  obtain⟨z,hz⟩:∃ z:Nat,bAt s 3=(z:Int):=⟨(bAt s 3).toNat,by omega⟩
  rw[hd]at b0
  rw[hz]at b3
  have hq0:0≤q∧q≤65535:=by omega
  have HST:=lH (show M2 s=if 4≤s.size∧d≤15∧(z:Int)≤40∧z+4≤s.size then some ⟨d,q,s.extract 4 (4+z)⟩else none by rw[M2,hd,hz,hq];rfl)
  have HE1:=lH (show R8 s 0 1=d by rw[← hd];show(0:Int)*256+bAt s 0=_;omega)
  have HE2:=lH (show R8 s 1 2=q by rw[← hq];show((0:Int)*256+bAt s 1)*256+bAt s 2=_;omega)
  have HE3:=lH (show R8 s 3 1=(z:Int)by rw[← hz];show(0:Int)*256+bAt s 3=_;omega)
  clear hd hq hz b1 b2
  have hx:((4:Int)+(z:Int)).toNat=4+z:=by omega
  go_enter Tryz.func113,Tryz.ntmps113
  go_wp2_with (fail)
  refine gm (Y4 (a:=0) (k:=1) de de om om) ?_
  intro y1
  rw[HE1.out]
  go_wp2_with (fail)
  refine gm (Y4 (a:=1) (k:=2) de de om om) ?_
  intro y2
  rw[HE2.out]
  go_wp2_with (fail)
  refine gm (Y4 (a:=3) (k:=1) de de om om) ?_
  intro y3
  rw[HE3.out]
  cases c4:decide ((s.size:Int) - 4<(z:Int))
  ·have g4:(4:Int)≤4+(z:Int):=by omega
   have g5:(4:Int)+(z:Int)≤s.size:=by have:=of_decide_eq_false c4;omega
   have g6:(0:Int)≤4+(z:Int):=by omega
   have hzz:(s.extract 4 (4+z)).size=z:=by have:=of_decide_eq_false c4;simp only[ByteArray.size_extract];omega
   have HZZ:=lH hzz
   have HPK:=lH (fun(W:World)=>bA5 (x:=⟨d,q,s.extract 4 (4+z)⟩) (w:=W) (by simp only;omega))
   have HKV:=lH (show aj8 ⟨d,q,s.extract 4 (4+z)⟩=(decide (d≤15) && decide ((z:Int)≤40))by rw[aj8,D8.2 hq0];simp only[hzz,Bool.true_and];rw[show inB d 0 15=decide (d≤15)by cases h9:inB d 0 15;(have:=D8 (x:=d) (lo:=0) (hi:=15));(rw[h9]at this);(symm;simp at this ⊢;omega);(have:=D8.1 h9;simp;omega)])
   go_upto_region 9 with(fail)
   (try simp only[Act.put])
   skip
   go_wp2_with (first|(refine lA rfl _ _ rfl (V.heap.size) 0 kr [I d,I q,.string (s.extract 4 (4+z))] HX5 as7 ?_))
   refine gm (HPK.out _) ?_
   intro y5
   rw[HKV.out]
   cases c2:decide (d≤15)
   ·have HV:=lH (show M2 s=none by rw[HST.out,if_neg (by have:=c2;simp at this;omega)])
    go_wp2_with (first|(refine sB rfl _ _ (.tmp 67) rfl (w.heap.size) 0 kr [I 0,I 0,.string ⟨#[]⟩] HR w nl ?_;intro z9 HX9 KX9))
    refine bodyPost_ret (v:=.tuple #[.agg #[I 0,I 0,.string ⟨#[]⟩],I 0,.bool false]) (V3 (P:=Tryz.prog) (u:=I 0) (v:=.bool false) rfl rfl HX9.out _ as7 rfl kr rfl rfl) rfl ⟨by rw[HV.out];rfl,b7.of⟩
   ·cases c3:decide ((z:Int)≤40)
    ·have HV:=lH (show M2 s=none by rw[HST.out,if_neg (by have:=c3;simp at this;omega)])
     go_wp2_with (first|(refine sB rfl _ _ (.tmp 67) rfl (w.heap.size) 0 kr [I 0,I 0,.string ⟨#[]⟩] HR w nl ?_;intro z9 HX9 KX9))
     refine bodyPost_ret (v:=.tuple #[.agg #[I 0,I 0,.string ⟨#[]⟩],I 0,.bool false]) (V3 (P:=Tryz.prog) (u:=I 0) (v:=.bool false) rfl rfl HX9.out _ as7 rfl kr rfl rfl) rfl ⟨by rw[HV.out];rfl,b7.of⟩
    ·have HV:=lH (show M2 s=some ⟨d,q,s.extract 4 (4+z)⟩by rw[HST.out,if_pos (by have h1:=c2;have h2:=c3;have h3:=c4;simp at h1 h2 h3;omega)])
     go_wp2_with (first|(refine lA rfl _ _ rfl (V.heap.size) 0 kr [I d,I q,.string (s.extract 4 (4+z))] HX5 as7 ?_)|(refine sB rfl _ _ (.tmp 68) rfl (w.heap.size) 0 kr [I d,I q,.string (s.extract 4 (4+z))] HR w nl ?_;intro z9 HX9 KX9))
     refine bodyPost_ret (v:=.tuple #[.agg #[I d,I q,.string (s.extract 4 (4+z))],I (4+(z:Int)),.bool true]) (V3 (P:=Tryz.prog) (u:=I (4+(z:Int))) (v:=.bool true) rfl rfl HX9.out _ as7 rfl kr rfl rfl) rfl ⟨by rw[HV.out,bC6,HZZ.out],b7.of⟩
  ·have HV:=lH (show M2 s=none by rw[HST.out,if_neg (by have:=c4;simp at this;omega)])
   go_wp2_with (first|(refine sB rfl _ _ (.tmp 52) rfl (w.heap.size) 0 kr [I 0,I 0,.string ⟨#[]⟩] HR w nl ?_;intro z9 HX9 KX9))
   refine bodyPost_ret (v:=.tuple #[.agg #[I 0,I 0,.string ⟨#[]⟩],I 0,.bool false]) (V3 (P:=Tryz.prog) (u:=I 0) (v:=.bool false) rfl rfl HX9.out _ as7 rfl kr rfl rfl) rfl ⟨by rw[HV.out];rfl,b7.of⟩
 ·have HV:=lH (show M2 s=none by rw[M2,if_neg (fun h=>h4 h.1)])
  by_cases h0:s.size=0
  ·go_enter Tryz.func113,Tryz.ntmps113
   go_wp2_with (fail)
   refine gm (av8 (a:=0) (k:=1) de de om om om) ?_
   intro y1
   go_wp2_with (first|(refine sB rfl _ _ (.tmp 22) rfl (w.heap.size) 0 kr [I 0,I 0,.string ⟨#[]⟩] HR w nl ?_;intro z9 HX9 KX9))
   refine bodyPost_ret (v:=.tuple #[.agg #[I 0,I 0,.string ⟨#[]⟩],I 0,.bool false]) (V3 (P:=Tryz.prog) (u:=I 0) (v:=.bool false) rfl rfl HX9.out _ as7 rfl kr rfl rfl) rfl ⟨by rw[HV.out];rfl,b7.of⟩
  by_cases h3:s.size=3
  ·go_enter Tryz.func113,Tryz.ntmps113
   go_wp2_with (fail)
   refine gm (Y4 (a:=0) (k:=1) de de om om) ?_
   intro y1
   go_wp2_with (fail)
   refine gm (Y4 (a:=1) (k:=2) de de om om) ?_
   intro y2
   go_wp2_with (fail)
   refine gm (av8 (a:=3) (k:=1) de de om om om) ?_
   intro y3
   go_wp2_with (first|(refine sB rfl _ _ (.tmp 52) rfl (w.heap.size) 0 kr [I 0,I 0,.string ⟨#[]⟩] HR w nl ?_;intro z9 HX9 KX9))
   refine bodyPost_ret (v:=.tuple #[.agg #[I 0,I 0,.string ⟨#[]⟩],I 0,.bool false]) (V3 (P:=Tryz.prog) (u:=I 0) (v:=.bool false) rfl rfl HX9.out _ as7 rfl kr rfl rfl) rfl ⟨by rw[HV.out];rfl,b7.of⟩
  go_enter Tryz.func113,Tryz.ntmps113
  go_wp2_with (fail)
  refine gm (Y4 (a:=0) (k:=1) de de om om) ?_
  intro y1
  go_wp2_with (fail)
  refine gm (av8 (a:=1) (k:=2) de de om om om) ?_
  intro y2
  go_wp2_with (fail)
  refine gm (av8 (a:=3) (k:=1) de de om om om) ?_
  intro y3
  go_wp2_with (first|(refine sB rfl _ _ (.tmp 52) rfl (w.heap.size) 0 kr [I 0,I 0,.string ⟨#[]⟩] HR w nl ?_;intro z9 HX9 KX9))
  refine bodyPost_ret (v:=.tuple #[.agg #[I 0,I 0,.string ⟨#[]⟩],I 0,.bool false]) (V3 (P:=Tryz.prog) (u:=I 0) (v:=.bool false) rfl rfl HX9.out _ as7 rfl kr rfl rfl) rfl ⟨by rw[HV.out];rfl,b7.of⟩
theorem aX6(hm:s.size≤100000000):Calls Tryz.prog 114 #[.string s] w (b5 w (ca7 (ac8 s))):=by
 have HR:=lH (j5.new w [I 0,.bool false,.bool false] 70 w.heap.size rfl)
 have gW:b8 w (w.alloc (.cells #[I 0,.bool false,.bool false] 70)):=inferInstance
 by_cases h2:s.size=2
 ·have c1:((s.size:Int) != 2)=false:=by simp;omega
  have h1s:1<s.size:=by omega
  have h0s:0<s.size:=by omega
  have j1:(1:Int)<s.size:=by omega
  have b0:=J5 s 0
  have b1:=J5 s 1
  obtain⟨a0,ha⟩:∃ a,bAt s 0=a:=⟨_,rfl⟩
  obtain⟨d,hd⟩:∃ d,bAt s 1=d:=⟨_,rfl⟩
  rw[ha]at b0
  rw[hd]at b1
  have e1:((s[1]'h1s).toNat:Int)=d:=by rw[← hd];exact(K0 _).symm
  have HE0:=lH ha
  have HE1:=lH hd
  cases c2:decide (3<d)
  ·have hd4:d=0∨d=1∨d=2∨d=3:=by have:=of_decide_eq_false c2;omega
   have HD4:=lH hd4
   have HV:=lH (show ac8 s=some ⟨a0,decide (d % 2=1),decide (2≤d)⟩by rw[ac8,ha,hd,if_pos ⟨h2,by omega⟩])
   clear hd4 ha hd
   go_enter Tryz.func114,Tryz.ntmps114
   go_upto_region 3 with(first|((with_reducible refine rl ?_);(repeat(first|go_big_quiet_step (first|fail)|simp only[c1]|simp only[e1]|simp only[c2]));refine wpQuiet_nil ?_;intro x))
   refine I5 kr (T:=[12,13]) (Zs:=[]) (H:=[(1,[]),(2,[]),(4,[]),(5,[]),(6,[]),(8,[]),(9,[]),(10,[])]) (C:=[]) (Fs:=[(some 13,.v (.string s)),(some 14,.v (.int .u8 (a0))),(some 15,.v (I (a0))),(some 16,.v (.string s)),(some 17,.v (.int .u8 (d))),(some 18,.v (.int .u8 (d % 2))),(some 19,.v (.bool (decide (d % 2=1)))),(some 20,.v (.string s)),(some 21,.v (.int .u8 (d))),(some 22,.v (.int .u8 (d / 2*2))),(some 23,.v (.bool (decide (2≤d)))),(some 24,.v (.agg #[I a0,.bool (decide (d % 2=1)),.bool (decide (2≤d))])),(none,.v (undef)),(none,.v (undef))]) kr (fun val W=>by kernel_rfl) ?ob3 ?lz3 ?pn3 ?tl3
   case ob3 =>
    refine⟨fun x=>?_,fun x=>?_,fun x=>?_,fun x=>?_,fun x=>?_,fun x=>?_,fun x=>?_,fun x=>?_,trivial⟩
    ·exact au1 rfl kr uu9 (show 0<s.size by omega) (by rw[← HE0.out];exact(K0 _).symm)
    ·exact aN3 (t:=5) (d:=3) (p:=.u8) (q:=.i64) (s:=(a0)) rfl kr kr uu3 (aw9 om om)
    ·exact au1 rfl kr uu9 (show 1<s.size by omega) (by rw[← HE1.out];exact(K0 _).symm)
    ·exact ak9 (o:=.and) (p:=.u8) (s:=d) (q:=.u8) (t:=1) rfl kr (fun ty ty2 w=>by exact bB1 HD4.out ty ty2 w)
    ·exact ak9 (o:=.neq) (p:=.u8) (s:=(d % 2)) (q:=.u8) (t:=0) rfl kr (fun ty ty2 w=>by exact bM5 HD4.out ty ty2 w)
    ·exact au1 rfl kr uu9 (show 1<s.size by omega) (by rw[← HE1.out];exact(K0 _).symm)
    ·exact ak9 (o:=.and) (p:=.u8) (s:=d) (q:=.u8) (t:=2) rfl kr (fun ty ty2 w=>by exact bB2 HD4.out ty ty2 w)
    ·exact ak9 (o:=.neq) (p:=.u8) (s:=(d / 2*2)) (q:=.u8) (t:=0) rfl kr (fun ty ty2 w=>by exact bM6 HD4.out ty ty2 w)
   case lz3 =>
    exact trivial
   case pn3=>exact fun _ _ _ _ _ _ h=>h
   case tl3 =>
    intro x
    refine bX8 rfl rfl ?_
    simp only[ag8]
    simp only[Act.put,List.setIfInBounds_toArray,List.set_cons_succ,List.set_cons_zero]
    go_wp2_with (first|((with_reducible refine rl ?_);refine rq ?_;intro x)|(refine sB rfl _ _ (.tmp 24) rfl (w.heap.size) 0 kr [I a0,.bool (decide (d % 2=1)),.bool (decide (2≤d))] HR w nl ?_;intro z9 HX9 KX9))
    refine bodyPost_ret (v:=.tuple #[.agg #[I a0,.bool (decide (d % 2=1)),.bool (decide (2≤d))],.bool true]) (A0 (P:=Tryz.prog) (u:=.bool true) rfl rfl HX9.out _ bR0 rfl kr rfl) rfl ⟨by rw[HV.out];rfl,b7.of⟩
  ·have HV:=lH (show ac8 s=none by rw[ac8,if_neg (by rw[hd];have:=of_decide_eq_true c2;omega)])
   go_enter Tryz.func114,Tryz.ntmps114
   go_wp2_with (first|((with_reducible refine rl ?_);(repeat(first|go_big_quiet_step (first|fail)|simp only[c1]|simp only[e1]|simp only[c2]));refine wpQuiet_nil ?_;intro x)|(refine sB rfl _ _ (.tmp 12) rfl (w.heap.size) 0 kr [I 0,.bool false,.bool false] HR w nl ?_;intro z9 HX9 KX9))
   refine bodyPost_ret (v:=.tuple #[.agg #[I 0,.bool false,.bool false],.bool false]) (A0 (P:=Tryz.prog) (u:=.bool false) rfl rfl HX9.out _ bR0 rfl kr rfl) rfl ⟨by rw[HV.out];rfl,b7.of⟩
 ·have c1:((s.size:Int) != 2)=true:=by simp;omega
  have HV:=lH (show ac8 s=none by rw[ac8,if_neg om])
  go_enter Tryz.func114,Tryz.ntmps114
  go_wp2_with (first|((with_reducible refine rl ?_);(repeat(first|go_big_quiet_step (first|fail)|simp only[c1]));refine wpQuiet_nil ?_;intro x)|(refine sB rfl _ _ (.tmp 12) rfl (w.heap.size) 0 kr [I 0,.bool false,.bool false] HR w nl ?_;intro z9 HX9 KX9))
  refine bodyPost_ret (v:=.tuple #[.agg #[I 0,.bool false,.bool false],.bool false]) (A0 (P:=Tryz.prog) (u:=.bool false) rfl rfl HX9.out _ bR0 rfl kr rfl) rfl ⟨by rw[HV.out];rfl,b7.of⟩
theorem aX8(hm:s.size≤100000000):Calls Tryz.prog 118 #[.string s] w (b5 w (ca9 (aa2 s))):=by
 have HR:=lH (j5.new w [I 0,I 0,I 0,.string ⟨#[]⟩] 151 w.heap.size rfl)
 have gW:b8 w (w.alloc (.cells #[I 0,I 0,I 0,.string ⟨#[]⟩] 151)):=inferInstance
 by_cases h6:6≤s.size
 ·have c1:decide ((s.size:Int)<6)=false:=by simp;omega
  obtain⟨x0,hx⟩:∃ x0,bD0 s=x0:=⟨_,rfl⟩
  have HST:=lH (show aa2 s=if s6 x0=true then some x0 else none by rw[aa2,hx];simp only[h6,true_and])
  have HE1:=lH (show R8 s 0 2=x0.Id by rw[← hx];show((0:Int)*256+bAt s 0)*256+bAt s 1=bAt s 0*256+bAt s 1;omega)
  have e2:bAt s 2=x0.Priority:=by rw[← hx];rfl
  have HE3:=lH (show R8 s 3 3=x0.Time by rw[← hx];show(((0:Int)*256+bAt s 3)*256+bAt s 4)*256+bAt s 5=(bAt s 3*256+bAt s 4)*256+bAt s 5;omega)
  have hd:s.extract 6 s.size=x0.Data:=by rw[← hx];rfl
  have hdz:x0.Data.size≤9223372036854775807:=by rw[← hd];simp only[ByteArray.size_extract];omega
  have HD:=lH hd
  have hj6:(6:Int)≤s.size:=by omega
  have b2:=J5 s 2
  have HE2:=lH e2
  clear hx
  have HE2:=lH (show R8 s 2 1=x0.Priority by rw[← HE2.out];show(0:Int)*256+bAt s 2=_;omega)
  clear e2 b2
  go_enter Tryz.func118,Tryz.ntmps118
  have HB0:=lH (j5.new (w.alloc (.cells #[I 0,I 0,I 0,.string ⟨#[]⟩] 151)) [I 0,I 0,I 0,.string ⟨#[]⟩] 151 (w.heap.size+1) si)
  go_upto_region 4 with(first|(refine sB rfl _ (.tmp 4) (.tmp 11) rfl (w.heap.size+1) 0 kr [I 0,I 0,I 0,.string x0.Data] HB0 w om ?_;intro z0 HX0 KX0))
  (try simp only[Act.put])
  have HR0:=lH ((HR.out.to (ii:b8 (w.alloc (.cells #[I 0,I 0,I 0,.string ⟨#[]⟩] 151)) _)).but KX0.out om)
  clear HR KX0 HB0
  go_wp2_with (fail)
  refine gm (Y4 (a:=0) (k:=2) de de om om) ?_
  intro y1
  rw[HE1.out]
  go_upto_region 5 with(first|(refine sA rfl _ (.tmp 17) (.tmp 15) rfl (w.heap.size+1) 0 kr [I (x0.Id)] [I x0.Id,I 0,I 0,.string x0.Data] HX0 w om ?_;intro z1 HX1 KX1))
  (try simp only[Act.put])
  have HR1:=lH ((HR0.out.to (ii:b8 z0.w _)).but KX1.out om)
  clear HX0 HR0 KX1
  go_wp2_with (fail)
  refine gm (Y4 (a:=2) (k:=1) de de om om) ?_
  intro y2
  rw[HE2.out]
  go_upto_region 6 with(first|(refine sA rfl _ (.tmp 23) (.tmp 21) rfl (w.heap.size+1) 1 kr [I (x0.Priority)] [I x0.Id,I x0.Priority,I 0,.string x0.Data] HX1 w om ?_;intro z2 HX2 KX2))
  (try simp only[Act.put])
  have HR2:=lH ((HR1.out.to (ii:b8 z1.w _)).but KX2.out om)
  clear HX1 HR1 KX2
  go_wp2_with (fail)
  refine gm (Y4 (a:=3) (k:=3) de de om om) ?_
  intro y3
  rw[HE3.out]
  go_upto_region 7 with(first|(refine sA rfl _ (.tmp 29) (.tmp 27) rfl (w.heap.size+1) 2 kr [I (x0.Time)] [I x0.Id,I x0.Priority,I x0.Time,.string x0.Data] HX2 w om ?_;intro z3 HX3 KX3))
  (try simp only[Act.put])
  have HR3:=lH ((HR2.out.to (ii:b8 z2.w _)).but KX3.out om)
  clear HX2 HR2 KX3
  go_wp2_with (first|(refine lA rfl _ _ rfl (w.heap.size+1) 0 kr [I x0.Id,I x0.Priority,I x0.Time,.string x0.Data] HX3 aK1 ?_))
  refine gm (X0 (x:=x0) hdz) ?_
  intro y5
  cases c2:s6 x0
  ·have HV:=lH (show aa2 s=none by rw[HST.out,c2];rfl)
   go_wp2_with (first|(refine sB rfl _ _ (.tmp 33) rfl (w.heap.size) 0 kr [I 0,I 0,I 0,.string ⟨#[]⟩] HR3 w nl ?_;intro z9 HX9 KX9))
   refine bodyPost_ret (v:=.tuple #[.agg #[I 0,I 0,I 0,.string ⟨#[]⟩],.bool false]) (A0 (P:=Tryz.prog) (u:=.bool false) rfl rfl HX9.out _ aK1 rfl kr rfl) rfl ⟨by rw[HV.out];rfl,b7.of⟩
  ·have HV:=lH (show aa2 s=some x0 by rw[HST.out,c2];rfl)
   go_wp2_with (first|(refine lA rfl _ _ rfl (w.heap.size+1) 0 kr [I x0.Id,I x0.Priority,I x0.Time,.string x0.Data] HX3 aK1 ?_)|(refine sB rfl _ _ (.tmp 34) rfl (w.heap.size) 0 kr [I x0.Id,I x0.Priority,I x0.Time,.string x0.Data] HR3 w nl ?_;intro z9 HX9 KX9))
   refine bodyPost_ret (v:=.tuple #[.agg #[I x0.Id,I x0.Priority,I x0.Time,.string x0.Data],.bool true]) (A0 (P:=Tryz.prog) (u:=.bool true) rfl rfl HX9.out _ aK1 rfl kr rfl) rfl ⟨by rw[HV.out];rfl,b7.of⟩
 ·have c1:decide ((s.size:Int)<6)=true:=by simp;omega
  have HV:=lH (show aa2 s=none by rw[aa2,if_neg (fun h=>h6 h.1)])
  go_enter Tryz.func118,Tryz.ntmps118
  go_wp2_with (first|(refine sB rfl _ _ (.tmp 8) rfl (w.heap.size) 0 kr [I 0,I 0,I 0,.string ⟨#[]⟩] HR w nl ?_;intro z9 HX9 KX9))
  refine bodyPost_ret (v:=.tuple #[.agg #[I 0,I 0,I 0,.string ⟨#[]⟩],.bool false]) (A0 (P:=Tryz.prog) (u:=.bool false) rfl rfl HX9.out _ aK1 rfl kr rfl) rfl ⟨by rw[HV.out];rfl,b7.of⟩
theorem bS0(n:Int)(h0:-9223372036854775808≤n)(h1:n≤9223372036854775807):IntKind.i64.wrap n=n:=by
 rw[IntKind.wrap_i64];omega
section
variable {P:Program} {ops:Array Oper} {b:Act} {w:World} {i:Nat}
end
theorem Sl.from2{α:Type}{enc:α→List Value}{w:World}{bb o c j size:Nat}{l:List α}(h:Sl enc w (some ⟨bb,o,none⟩) l)(hc:l.length≤c)(hs:∀ y,(enc y).length=size):Sl enc w (some ⟨bb,if c=j then o else o+j*size,none⟩) (l.drop j):=fun i x hx=>by
 rw[List.getElem?_drop]at hx
 have hl:=(List.getElem?_eq_some_iff.1 hx).1
 obtain⟨b,off,h1,h2,h3⟩:=h (j+i) x hx
 cases h1
 refine⟨bb,o+j*size,by rw[if_neg om],h2,fun q v hv=>?_⟩
 have:=h3 q v hv
 rw[hs,Nat.add_mul]at this
 rw[hs,show o+j*size+i*size+q=o+(j*size+i*size)+q by omega];exact this
section
variable {P:Program} {ops:Array Oper} {C:World→Prop} {Q:Act→Prop} {o:Oper} {rest:List Oper} {a:Act}
end
def bY6{α:Type}(enc:α→List Value)(T size B n:Nat)(l:List α)(v:Value)(w:World):Prop:=∃ (a:Option Addr) (c:Nat),v=.slice a n c∧Own enc T size B w a c l
def bX2{α:Type}(enc:α→List Value)(T size B n:Nat)(l:List α):Ent Gr:=.of (bY6 enc T size B n l) (fun _ _ _ g ⟨a,c,e,h⟩=>⟨a,c,e,h.to ⟨g⟩⟩)
section
variable {P:Program} {ops:Array Oper} {rest:List Oper} {op:Oper} {act:Act} {w w0:World} {Q:Exit→Act→World→Prop} {α β:Type} [E:R4 α] [E2:D7 β] {X:Nat→Prop} {B b:Nat} {x:α} {F:FS α β} {l:List β} {a:Option Addr} {c:Nat} {us:List Value}
end
theorem GBp.newX{α β:Type}[E:R4 α][E2:D7 β]{X P:Nat→Prop}{B b:Nat}{u w:World}{x:α}{F:FS α β}{l:List β}{a:Option Addr}{c:Nat}(h:GB X B b u x)(g:b8 u w)(k:Own E2.enc E2.ty E2.size u.heap.size w a c l)(hg:∀ x∈l,E2.good x)
  (hP:∀ j,P j→u.heap.size≤j∧j<w.heap.size∧E9 a≠some j):GBp F (fun k=>X k∨P k) B b w x l a c:=by
 have hlu:=h.lt
 obtain⟨χ,vs,h1,h2,h3,h4,h5,h6⟩:=h
 have hs:=g.out.size
 obtain⟨χ2,hχ⟩:∃ χ2:Nat→Col,χ2=fun j=>if E9 a=some j then(F.col,0)else(1000,0):=⟨_,rfl⟩
 have kC:B6 u.heap.size χ2 (F.col,0) w a c l:=⟨k,fun j hj=>by rw[hχ];exact if_pos hj,hg⟩
 have hp:∀ k,k<u.heap.size→I7 w.heap.size (I7 u.heap.size χ χ2 id) (fun _=>(0,0)) (fun _=>(1000,0)) k=χ k:=fun k hk=>by rw[I7,if_pos om,I7,if_pos hk]
 refine⟨_,vs,h1.to g,av2 h2,E.map (F.put (E.map (E.map h2 (.old (χ2:=χ2) (f:=id) nl)) (.to g)) (Fr.refl _ _ _ _) ((kC.new (f:=id) nl).mono om)) (.old nl),?_,aC6 nl,h5,fun k hk=>?_⟩
 ·rw[hp b hlu];exact h3
 ·rcases hk with hk|hk
  ·exact⟨by rw[hp k (h6 k hk).2.2];exact(h6 k hk).1,(h6 k hk).2.1,Nat.lt_of_lt_of_le (h6 k hk).2.2 hs⟩
  ·obtain⟨p1,p2,p3⟩:=hP k hk
   refine⟨?_,by omega,p2⟩
   rw[I7,if_pos p2,I7,if_neg om,hχ]
   show 1000≤(if E9 a=some k then(F.col,0)else(1000,0):Col).1
   rw[if_neg p3]
   exact Nat.le_refl _
def bn7{α:Type}[E:R4 α](X:Nat→Prop)(B q:Nat)(w0 w:World)(x:α):Ending→World→Prop:=fun e w'=>(∃ u,e=.returned u)∧GB X B q w' x∧(∀ k,X k→w'.heap[k]?=w.heap[k]?)∧∃ z:b7 w0,w'=z.w
theorem bS6{m:f7}(h:af8 m)(h0:0≤m.Bad)(h1:m.Bad≤1000000):af8 (ad4 m):=by
 obtain⟨g1,g2,g3,g4,g5,g6,g7,g8,g9,-⟩:=h
 exact⟨g1,g2,g3,g4,g5,g6,g7,g8,by unfold i64;simp only[ad4];split<;>omega,trivial⟩
theorem aL2{m:f7}{v:Int}(h:v=if m.Bad<1000000 then m.Bad+1 else m.Bad):({ m with Bad:=v }:f7)=ad4 m:=by rw[h];rfl
theorem bY2{P:Program}{ops:Array Oper}{b:Act}{i:Nat}{bb o:Nat}{row:List Value}{ty:TypeId}{Fs:ai2 Gr}{val:Nat→Value}(hR:w.rangeAt bb o row)(he:(U9 Fs k).fix=some fun _=>.agg row.toArray)(hk:loadAt ops b i=some (ty,.pointer (some ⟨bb,o,none⟩)))(d:TypeDesc)(hu:P.underlying ty=some d)(hd:d.isRow=true)
  (hi:(P.info? ty).map (·.size)=some row.length):U0 P ops (ah4 ops i) b w (fun v w'=>(∃ y:b7 w,w'=y.w)∧ai8 Fs k val v w') :=
 bI4 hk (v:=.agg row.toArray) (by simp only[Instr.loadAt,Instr.sureAddr,Sem.run_bind,Sem.run_pure,Result.andThen_ok,run_loadVar_mid w bb o ty row d hR hu hd hi]) ⟨b7.of,by unfold ai8;rw[he]⟩
theorem GB.xneN{α β γ:Type}[E:R4 α][N:ap4 β γ][E2:D7 γ]{X:Nat→Prop}{B b q c k:Nat}{w:World}{x:α}(F:FN α β)(h:GB X B b w x)(hc:w.cell? ⟨b,F.off,none⟩=some (.slice (some ⟨q,0,none⟩) (F.get x).length c))(hk:X k):k≠q:=by
 obtain⟨χ,vs,h1,h2,-,-,-,h6⟩:=h
 obtain⟨a1,c1,rows,hv,hx,kN⟩:=F.own h2
 rw[h1.cell,hv]at hc
 simp only[Option.some.injEq,Value.slice.injEq,true_and]at hc
 obtain⟨rfl,rfl⟩:=hc
 intro e
 have e1:=kN.col q rfl
 have e2:=(h6 k hk).1
 rw[e,e1]at e2
 have:=F.clt;have:=E.nle
 simp only at e2
 omega
theorem ap9{X:Nat→Prop}{q:Nat}{m:f7}{w0:World}(h:GB X B q w m)(h0:0≤m.Bad)(h1:m.Bad≤1000000)(g:b8 w0 w)(hb:w0.heap.size≤B):Calls Tryz.prog 40 #[.pointer (some ⟨q,0,none⟩)] w (bn7 X B q w0 w (ad4 m)):=by
 have HG:=lH h
 have hqlt:LtN q w.heap.size:=⟨h.lt⟩
 have hqB:B≤q:=h.le
 obtain⟨vs,A,hV,hvs,-⟩:=al3 h
 have eb:∀ (W:World) [b8 w W],W.cell? ⟨q,60,none⟩=some (I m.Bad):=fun W g=>(hV.to g).cell 60 |>.trans (by rw[hvs];rfl)
 clear hV hvs h
 cases c:decide (m.Bad<1000000)
 ·have HBM:=lH (show ad4 m=m by rw[ad4,if_neg (of_decide_eq_false c)])
  go_enter Tryz.func40,Tryz.ntmps40
  go_wp2_with (fail)
  refine bodyPost_end (v:=.tuple #[]) (by simp[results,Tryz.results40,go_sem]) rfl ?_
  rw[HBM.out]
  exact⟨⟨_,rfl⟩,HG.out.to ii,fun k hk=>(ii:b8 w _).out.block k (HG.out.xs hk).2,b7.of⟩
 ·go_enter Tryz.func40,Tryz.ntmps40
  have HBV:=lH (show m.Bad+1=if m.Bad<1000000 then m.Bad+1 else m.Bad by rw[if_pos (of_decide_eq_true c)])
  go_wp2_with (first|(refine al9 (o:=60) (us:=[I (m.Bad+1)]) ({ m with Bad:=m.Bad+1 }:f7) rfl _ (.tmp 13) (.tmp 11) rfl (HG.out.to ii) rfl rfl kr rfl nb (by intros;rename_i h;obtain⟨A1,rfl,p⟩:=h;exact⟨A1,rfl,{ p with ok:=by rw[aL2 HBV.out];exact bS6 p.ok h0 h1 }⟩) (w0:=w0) ii hb ?_;intro z6 hz6 hX6))
  (first|(refine bodyPost_end (v:=.tuple #[]) (by simp[results,Tryz.results40,go_sem]) rfl ?_)|(refine bodyPost_ret (v:=.tuple #[]) (by simp[results,Tryz.results40,go_sem]) rfl ?_))
  rw[aL2 HBV.out]at hz6
  exact⟨⟨_,rfl⟩,hz6,fun k hk=>(hX6 k hk).trans ((ii:b8 w _).out.block k (HG.out.xs hk).2),b7.of⟩
theorem at2{X:Nat→Prop}{q:Nat}{m:f7}{w0:World}(h:GB X B q w m)(h0:0≤m.Bad)(h1:m.Bad≤1000000)(g:b8 w0 w)(hb:w0.heap.size≤B):Calls Tryz.prog 24 #[.pointer (some ⟨q,0,none⟩)] w (bn7 X B q w0 w (ad4 m)):=by
 have HG:=lH h
 have hqlt:LtN q w.heap.size:=⟨h.lt⟩
 have hqB:B≤q:=h.le
 obtain⟨vs,A,hV,hvs,-⟩:=al3 h
 have eb:∀ (W:World) [b8 w W],W.cell? ⟨q,60,none⟩=some (I m.Bad):=fun W g=>(hV.to g).cell 60 |>.trans (by rw[hvs];rfl)
 clear hV hvs h
 obtain⟨v,hmv⟩:∃ v,min (m.Bad+1) 1000000=v:=⟨_,rfl⟩
 have HMV:=lH hmv
 have HBV:=lH (show v=if m.Bad<1000000 then m.Bad+1 else m.Bad by split<;>omega)
 clear hmv
 go_enter Tryz.func24,Tryz.ntmps24
 go_wp2_with (first|(refine al9 (o:=60) (us:=[I v]) ({ m with Bad:=v }:f7) rfl _ (.tmp 10) (.tmp 8) rfl (HG.out.to ii) rfl (congrArg (fun z:Int=>[Value.int .i64 z]) (by have:=HMV.out;omega)) kr rfl nb (by intros;rename_i h;obtain⟨A1,rfl,p⟩:=h;exact⟨A1,rfl,{ p with ok:=by rw[aL2 HBV.out];exact bS6 p.ok h0 h1 }⟩) (w0:=w0) ii hb ?_;intro z6 hz6 hX6))
 all_goals
  (first|(refine bodyPost_end (v:=.tuple #[]) (by simp[results,Tryz.results24,go_sem]) rfl ?_)|(refine bodyPost_ret (v:=.tuple #[]) (by simp[results,Tryz.results24,go_sem]) rfl ?_))
  rw[aL2 HBV.out]at hz6
  exact⟨⟨_,rfl⟩,hz6,fun k hk=>(hX6 k hk).trans ((ii:b8 w _).out.block k (HG.out.xs hk).2),b7.of⟩
theorem aq1{s:E8}{nt:X8}(h:J3 s=false∨s.Waiting.length=0∨(s.Waiting.length:Int)<bn8 s nt):R9 s nt=s:=by
 unfold R9
 rw[if_neg]
 rintro⟨h1,h2,h3,h4⟩
 rcases h with h|h|h
 ·rw[h1]at h;cases h
 ·omega
 ·omega
theorem aU8{s:E8}{nt:X8}(h0:J3 s=true)(h1:0<s.Waiting.length)(h2:inB nt.Expect 0 255=true)(hk:bn8 s nt=(k:Int))(h3:k≤s.Waiting.length):R9 s nt={ s with Waiting:=s.Waiting.drop k,Done:=min (s.Done+(k:Int)) 1000000 }:=by
 unfold R9
 rw[if_pos ⟨h0,h1,h2,by rw[hk];omega⟩,hk]
 rfl
theorem aQ3{s:E8}(h:J3 s=true){x:V9}{r:List V9}(hd:s.Waiting=x::r):(0≤x.Seq∧x.Seq≤255)∧bd1 s=x.Seq∧0≤s.Done∧s.Done≤1000000:=by
 simp only[J3,Bool.and_eq_true,decide_eq_true_eq]at h
 have h4:=h.2.2.2.2
 have h3:=D8.1 h.2.2.1
 rw[hd,Z3,Bool.and_eq_true,as0,Bool.and_eq_true,beq_iff_eq]at h4
 refine⟨?_,by rw[bd1,hd],h3⟩
 have:=h4.1.2
 omega
theorem bj1{vs:List Value}{s:E8}{nt:X8}(h:Enc.Rd B w vs s)(hE:inB nt.Expect 0 255=true)(ht:Enc.tot s≤100000000) :
  Calls Tryz.prog 162 #[.agg vs.toArray,.agg #[I nt.Expect,.bool nt.Locked,.bool nt.Again]] w (R3 w (R9 s nt)):=by
 have HM:=lH h
 obtain⟨a,c,rfl,hs,hok⟩:=h
 have hm:s.Waiting.length≤100000000:=by have:=f6 s.Waiting;rw[bf7]at ht;omega
 have HT:=lH (show Enc.tot s≤100000000 by omega)
 clear ht
 have HOKS:=lH hok
 have HRS:=lH hs
 obtain⟨n,hn⟩:∃ n,s.Waiting.length=n:=⟨_,rfl⟩
 rw[hn]at HM hm ⊢
 have HN:=lH hn
 have HC2:=lH hE
 have HE:=lH (D8.1 hE)
 have HB:=lH ((j5.new w [I s.Next,I s.Window,.slice a n c,I s.Done] 69 w.heap.size rfl).to (ii:b8 _ (((w.alloc (.cells #[I s.Next,I s.Window,.slice a n c,I s.Done] 69)).alloc (.cells #[I nt.Expect,.bool nt.Locked,.bool nt.Again] 70)).alloc (.cells #[I 0,I 0,.slice none 0 0,I 0] 69))))
 have HNB:=lH ((j5.new (w.alloc (.cells #[I s.Next,I s.Window,.slice a n c,I s.Done] 69)) [I nt.Expect,.bool nt.Locked,.bool nt.Again] 70 (w.heap.size+1) si).to (ii:b8 _ (((w.alloc (.cells #[I s.Next,I s.Window,.slice a n c,I s.Done] 69)).alloc (.cells #[I nt.Expect,.bool nt.Locked,.bool nt.Again] 70)).alloc (.cells #[I 0,I 0,.slice none 0 0,I 0] 69))))
 have HR:=lH (j5.new ((w.alloc (.cells #[I s.Next,I s.Window,.slice a n c,I s.Done] 69)).alloc (.cells #[I nt.Expect,.bool nt.Locked,.bool nt.Again] 70)) [I 0,I 0,.slice none 0 0,I 0] 69 (w.heap.size+2) si)
 have gW:b8 w (((w.alloc (.cells #[I s.Next,I s.Window,.slice a n c,I s.Done] 69)).alloc (.cells #[I nt.Expect,.bool nt.Locked,.bool nt.Again] 70)).alloc (.cells #[I 0,I 0,.slice none 0 0,I 0] 69)):=inferInstance
 have hsz:(((w.alloc (.cells #[I s.Next,I s.Window,.slice a n c,I s.Done] 69)).alloc (.cells #[I nt.Expect,.bool nt.Locked,.bool nt.Again] 70)).alloc (.cells #[I 0,I 0,.slice none 0 0,I 0] 69)).heap.size=w.heap.size+3:=by simp
 go_enter Tryz.func162,Tryz.ntmps162
 go_upto_region 1 with(first|((with_reducible refine rl ?_);refine rq ?_;intro x))
 generalize (((w.alloc (.cells #[I s.Next,I s.Window,.slice a n c,I s.Done] 69)).alloc (.cells #[I nt.Expect,.bool nt.Locked,.bool nt.Again] 70)).alloc (.cells #[I 0,I 0,.slice none 0 0,I 0] 69))=W2 at HB HNB HR gW hsz ⊢
 have iB:LtN w.heap.size W2.heap.size:=⟨by omega⟩
 have iN:LtN (w.heap.size+1) W2.heap.size:=⟨by omega⟩
 have iR:LtN (w.heap.size+2) W2.heap.size:=⟨by omega⟩
 have hW2:w.heap.size≤W2.heap.size:=by omega
 go_wp2_with (first|((with_reducible refine rl ?_);refine rq ?_;intro x)|(refine lA rfl _ (.tmp 2) rfl (w.heap.size) 0 kr [I s.Next,I s.Window,.slice a n c,I s.Done] HB ap6 ?_))
 refine(aJ5 (x:=s) (Enc.keep HM.out ii) HT.out).mono ?_
 rintro _ _ ⟨cs,χ,rfl,hO,y1,rfl⟩
 have HLC:=lH (aS0 (W0.toRd hO));have HOC:=lH (bT2 (W0.toRd hO));have HO:=lH hO;clear hO
 go_upto_region 2 with(first|((with_reducible refine rl ?_);refine rq ?_;intro x)|(refine sW rfl _ _ _ rfl _ rfl (us:=cs) (j5.new _ [I 0,I 0,.slice none 0 0,I 0] 69 _ rfl) HLC HOC (w0:=W2) ii LeN.out ?_;intro z1 HX1 KX1))
 (try simp only[Act.put])
 obtain⟨qb,hqb⟩:∃ qb,y1.w.heap.size=qb:=⟨_,rfl⟩
 rw[hqb]
 have HG:=lH (show GB (fun _=>False) W2.heap.size qb z1.w s from hqb▸GB.of HO.out (KX1.out.under ii nl) y1.size_le HX1.out)
 have hqB:W2.heap.size≤qb:=HG.out.le
 have hqlt:LtN qb z1.w.heap.size:=⟨HG.out.lt⟩
 clear hqb HX1 KX1 HO HLC HOC
 have e0:=HB.out.cellG 0 _ rfl
 have e1:=HB.out.cellG 1 _ rfl
 have e2:=HB.out.cellG 2 _ rfl
 have e3:=HB.out.cellG 3 _ rfl
 have n0:=HNB.out.cellG 0 _ rfl
 have c2:=HC2.out
 have hE0:=HE.out.1;have hE1:=HE.out.2
 cases c0:J3 s
 ·have HK:=lH (show R9 s nt=s from aq1 (.inl c0))
  obtain⟨vs8,hH8,hl8,h18,-,χ8,hO8⟩:=HG.out.vs
  have HH8:=lH hH8;have HO8:=lH hO8;have H18:=lH h18;have HL8:=lH (show vs8.length=4 from hl8)
  clear hO8 hH8 h18 hl8
  go_wp2_with (first|((with_reducible refine rl ?_);(repeat(first|go_big_quiet_step (first|(go_at_call 146;exact b5.quiet (d8)))|simp only[c0]));refine wpQuiet_nil ?_;intro x)|(go_at_call 146;refine gm (d8) ?_;intro x)|(refine lA rfl _ (.tmp 2) rfl (w.heap.size) 0 kr [I s.Next,I s.Window,.slice a n c,I s.Done] HB ap6 ?_)|(go_at_call 259;refine gm (V1 (sD:=s) HRS.out HN.out om HOKS.out) ?_;intro y9;rw[c0])|(refine sL rfl _ (.tmp 5) rfl (qb) kr HH8 ii ap6 HL8 ?_)|(refine sW rfl _ _ _ rfl (w.heap.size+2) rfl (us:=vs8) (HR.out.to ii) HL8 H18 (w0:=w) ii om ?_;intro z8 HX8 KX8))
  all_goals
   refine bodyPost_ret (v:=.agg vs8.toArray) (A7 (P:=Tryz.prog) rfl rfl HX8.out _ ap6 rfl (by rw[HL8.out];kernel_rfl)) rfl ?_
   rw[HK.out]
   exact⟨vs8,χ8,rfl,ac2 (ah9 HO8.out ii) KX8.out (show w.heap.size+2<W2.heap.size by omega) hW2,b7.of⟩
 cases c1:((n:Int) == 0)
 ·have hn0:0<n:=by simp at c1;omega
  obtain⟨eb,eoff,es,heq,ehb,ehd,eok,eh0,eh1⟩:=(HRS.out.keep (aC7 (ii:b8 w z1.w))).atTSent (show 0<s.Waiting.length by rw[HN.out];exact hn0)
  clear eok eh1
  have hsf:=aQ3 c0 (show s.Waiting=es::s.Waiting.drop 1 from ehd.out)
  have hq0:=hsf.1.1;have hq1:=hsf.1.2
  have HDN:=lH hsf.2.2
  have hac:bn8 s nt=(nt.Expect - es.Seq+256) % 256:=by rw[bn8,hsf.2.1]
  clear hsf ehd
  obtain⟨k,hk⟩:∃ k:Nat,(nt.Expect - es.Seq+256) % 256=(k:Int):=⟨((nt.Expect - es.Seq+256) % 256).toNat,by omega⟩
  have hk255:k≤255:=by omega
  rw[hk]at hac
  have HAC:=lH hac
  have HC0:=lH c0
  clear hac
  simp only[Nat.zero_mul,Nat.add_zero]at eh0
  have HSL:=lH (show Sl R6 z1.w a s.Waiting from(RdS.slF HRS.out).to ii)
  have HCAP:=lH (show n≤c from HN.out▸HRS.out.cap)
  have HGD:=lH (show ∀ p∈s.Waiting,ar9 p from HRS.out.goods)
  subst heq
  go_upto_region 5 with(first|((with_reducible refine rl ?_);(repeat(first|go_big_quiet_step (first|(go_at_call 146;exact b5.quiet (d8)))|simp only[c0]|simp only[c1]|simp only[hk]));refine wpQuiet_nil ?_;intro x)|(go_at_call 146;refine gm (d8) ?_;intro x)|(refine lA rfl _ (.tmp 2) rfl (w.heap.size) 0 kr [I s.Next,I s.Window,.slice a n c,I s.Done] HB ap6 ?_)|(go_at_call 259;refine gm (V1 (sD:=s) HRS.out HN.out om HOKS.out) ?_;intro y9;rw[c0]))
  (try simp only[hk])
  cases c4:decide ((n:Int)<(k:Int))
  ·have hkn:k≤n:=by have:=of_decide_eq_false c4;omega
   have hkc:k≤c:=Nat.le_trans hkn HCAP.out
   have HK:=lH (show R9 s nt={ s with Waiting:=s.Waiting.drop k,Done:=min (s.Done+(k:Int)) 1000000 } from aU8 HC0.out (by rw[HN.out];exact hn0) HC2.out HAC.out (by rw[HN.out];exact hkn))
   have hLD:(s.Waiting.drop k).length=n - k:=by rw[List.length_drop,HN.out]
   have HLD:=lH hLD
   have HGK:=lH (show ∀ p∈s.Waiting.drop k,ar9 p from fun p hp=>HGD.out p (List.mem_of_mem_drop hp))
   have hd0:=HDN.out.1;have hd1:=HDN.out.2
   have HS0:=lH (Sl.from2 (j:=k) (size:=2) HSL.out (HN.out▸HCAP.out) at1)
   by_cases hck:k=c
   ·subst hck
    have HS2:=lH (show Sl R6 z1.w (some ⟨eb,eoff,none⟩) (s.Waiting.drop k)by have:=HS0.out;rw[if_pos rfl]at this;exact this)
    go_upto_region 8 with(first|((with_reducible refine rl ?_);(repeat(first|go_big_quiet_step (first|fail)|simp only[c4]));refine wpQuiet_nil ?_;intro x)|(go_at_call 253;refine(ay2 (l:=s.Waiting.drop k) (HS2.out.to ii) HLD.out om).mono ?_;rintro _ _ ⟨a6,c6,rfl,own6,y6,rfl⟩;have HP:=lH (GBp.new (F:=ao0) (HG.out.to (ii:b8 z1.w _)) (ii:b8 _ y6.w) (B6.of own6 HGK.out (0,0)));clear own6)|(refine aQ6 HLD.out rfl _ _ _ rfl HP.out rfl rfl kr (w0:=W2) ii nl ?_;intro z2 hz2))
    (try simp only[Act.put])
    have HZ2:=lH hz2
    clear hz2 HP HG eh0
    obtain⟨dv,hdv⟩:∃ dv,min (s.Done+(k:Int)) 1000000=dv:=⟨_,rfl⟩
    have HDV:=lH hdv
    rw[hdv]at HK
    have hiD:i64 dv:=by unfold i64;omega
    clear hdv
    go_upto_region 9 with(first|((with_reducible refine rl ?_);refine rq ?_;intro x)|(refine al9 (o:=3) (us:=[I dv]) ({ s with Waiting:=s.Waiting.drop k,Done:=dv }:E8) rfl _ (.tmp 52) (.tmp 51) rfl (HZ2.out.to ii) kr (congrArg (fun z:Int=>[Value.int .i64 z]) (by have:=HDV.out;omega)) kr rfl nb (by intros;rename_i h;obtain⟨a0,c0,rfl,q⟩:=h;exact⟨a0,c0,rfl,q.o0,q.ok.1,q.ok.2.1,hiD,trivial⟩) (w0:=W2) ii nl ?_;intro z3 hz3 hX3))
    all_goals
     (try simp only[Act.put])
     have HZ3:=lH hz3
     clear hz3 hX3 HZ2 e0 e1 e2 e3 n0
     obtain⟨vs8,hH8,hl8,h18,-,χ8,hO8⟩:=HZ3.out.vs
     have HH8:=lH hH8;have HO8:=lH hO8;have H18:=lH h18;have HL8:=lH (show vs8.length=4 from hl8)
     clear hO8 hH8 h18 hl8
     go_wp2_with (first|((with_reducible refine rl ?_);(repeat(first|go_big_quiet_step (first|(go_at_call 146;exact b5.quiet (d8)))));refine wpQuiet_nil ?_;intro x)|(go_at_call 146;refine gm (d8) ?_;intro x)|(refine sL rfl _ (.tmp 5) rfl (qb) kr HH8 ii ap6 HL8 ?_)|(refine sW rfl _ _ _ rfl (w.heap.size+2) rfl (us:=vs8) (HR.out.to ii) HL8 H18 (w0:=w) ii om ?_;intro z8 HX8 KX8))
     all_goals
      refine bodyPost_ret (v:=.agg vs8.toArray) (A7 (P:=Tryz.prog) rfl rfl HX8.out _ ap6 rfl (by rw[HL8.out];kernel_rfl)) rfl ?_
      rw[HK.out]
      exact⟨vs8,χ8,rfl,ac2 (ah9 HO8.out ii) KX8.out (show w.heap.size+2<W2.heap.size by omega) hW2,b7.of⟩
   ·have HS2:=lH (show Sl R6 z1.w (some ⟨eb,eoff+k*2,none⟩) (s.Waiting.drop k)by have:=HS0.out;rw[if_neg (fun e=>hck e.symm)]at this;exact this)
    go_upto_region 8 with(first|((with_reducible refine rl ?_);(repeat(first|go_big_quiet_step (first|fail)|simp only[c4]));refine wpQuiet_nil ?_;intro x)|(go_at_call 253;refine(ay2 (l:=s.Waiting.drop k) (HS2.out.to ii) HLD.out om).mono ?_;rintro _ _ ⟨a6,c6,rfl,own6,y6,rfl⟩;have HP:=lH (GBp.new (F:=ao0) (HG.out.to (ii:b8 z1.w _)) (ii:b8 _ y6.w) (B6.of own6 HGK.out (0,0)));clear own6)|(refine aQ6 HLD.out rfl _ _ _ rfl HP.out rfl rfl kr (w0:=W2) ii nl ?_;intro z2 hz2))
    (try simp only[Act.put])
    have HZ2:=lH hz2
    clear hz2 HP HG eh0
    obtain⟨dv,hdv⟩:∃ dv,min (s.Done+(k:Int)) 1000000=dv:=⟨_,rfl⟩
    have HDV:=lH hdv
    rw[hdv]at HK
    have hiD:i64 dv:=by unfold i64;omega
    clear hdv
    go_upto_region 9 with(first|((with_reducible refine rl ?_);refine rq ?_;intro x)|(refine al9 (o:=3) (us:=[I dv]) ({ s with Waiting:=s.Waiting.drop k,Done:=dv }:E8) rfl _ (.tmp 52) (.tmp 51) rfl (HZ2.out.to ii) kr (congrArg (fun z:Int=>[Value.int .i64 z]) (by have:=HDV.out;omega)) kr rfl nb (by intros;rename_i h;obtain⟨a0,c0,rfl,q⟩:=h;exact⟨a0,c0,rfl,q.o0,q.ok.1,q.ok.2.1,hiD,trivial⟩) (w0:=W2) ii nl ?_;intro z3 hz3 hX3))
    all_goals
     (try simp only[Act.put])
     have HZ3:=lH hz3
     clear hz3 hX3 HZ2 e0 e1 e2 e3 n0
     obtain⟨vs8,hH8,hl8,h18,-,χ8,hO8⟩:=HZ3.out.vs
     have HH8:=lH hH8;have HO8:=lH hO8;have H18:=lH h18;have HL8:=lH (show vs8.length=4 from hl8)
     clear hO8 hH8 h18 hl8
     go_wp2_with (first|((with_reducible refine rl ?_);(repeat(first|go_big_quiet_step (first|(go_at_call 146;exact b5.quiet (d8)))));refine wpQuiet_nil ?_;intro x)|(go_at_call 146;refine gm (d8) ?_;intro x)|(refine sL rfl _ (.tmp 5) rfl (qb) kr HH8 ii ap6 HL8 ?_)|(refine sW rfl _ _ _ rfl (w.heap.size+2) rfl (us:=vs8) (HR.out.to ii) HL8 H18 (w0:=w) ii om ?_;intro z8 HX8 KX8))
     all_goals
      refine bodyPost_ret (v:=.agg vs8.toArray) (A7 (P:=Tryz.prog) rfl rfl HX8.out _ ap6 rfl (by rw[HL8.out];kernel_rfl)) rfl ?_
      rw[HK.out]
      exact⟨vs8,χ8,rfl,ac2 (ah9 HO8.out ii) KX8.out (show w.heap.size+2<W2.heap.size by omega) hW2,b7.of⟩
  ·have hnk:n<k:=by have:=of_decide_eq_true c4;omega
   have HK:=lH (show R9 s nt=s from aq1 (.inr (.inr (by rw[HAC.out,HN.out];exact of_decide_eq_true c4))))
   obtain⟨vs8,hH8,hl8,h18,-,χ8,hO8⟩:=HG.out.vs
   have HH8:=lH hH8;have HO8:=lH hO8;have H18:=lH h18;have HL8:=lH (show vs8.length=4 from hl8)
   clear hO8 hH8 h18 hl8
   go_wp2_with (first|((with_reducible refine rl ?_);(repeat(first|go_big_quiet_step (first|(go_at_call 146;exact b5.quiet (d8)))|simp only[c4]));refine wpQuiet_nil ?_;intro x)|(go_at_call 146;refine gm (d8) ?_;intro x)|(refine sL rfl _ (.tmp 5) rfl (qb) kr HH8 ii ap6 HL8 ?_)|(refine sW rfl _ _ _ rfl (w.heap.size+2) rfl (us:=vs8) (HR.out.to ii) HL8 H18 (w0:=w) ii om ?_;intro z8 HX8 KX8))
   all_goals
    refine bodyPost_ret (v:=.agg vs8.toArray) (A7 (P:=Tryz.prog) rfl rfl HX8.out _ ap6 rfl (by rw[HL8.out];kernel_rfl)) rfl ?_
    rw[HK.out]
    exact⟨vs8,χ8,rfl,ac2 (ah9 HO8.out ii) KX8.out (show w.heap.size+2<W2.heap.size by omega) hW2,b7.of⟩
 ·have HK:=lH (show R9 s nt=s from aq1 (.inr (.inl (by rw[HN.out];simp at c1;omega))))
  obtain⟨vs8,hH8,hl8,h18,-,χ8,hO8⟩:=HG.out.vs
  have HH8:=lH hH8;have HO8:=lH hO8;have H18:=lH h18;have HL8:=lH (show vs8.length=4 from hl8)
  clear hO8 hH8 h18 hl8
  go_wp2_with (first|((with_reducible refine rl ?_);(repeat(first|go_big_quiet_step (first|(go_at_call 146;exact b5.quiet (d8)))|simp only[c0]|simp only[c1]));refine wpQuiet_nil ?_;intro x)|(go_at_call 146;refine gm (d8) ?_;intro x)|(refine lA rfl _ (.tmp 2) rfl (w.heap.size) 0 kr [I s.Next,I s.Window,.slice a n c,I s.Done] HB ap6 ?_)|(go_at_call 259;refine gm (V1 (sD:=s) HRS.out HN.out om HOKS.out) ?_;intro y9;rw[c0])|(refine sL rfl _ (.tmp 5) rfl (qb) kr HH8 ii ap6 HL8 ?_)|(refine sW rfl _ _ _ rfl (w.heap.size+2) rfl (us:=vs8) (HR.out.to ii) HL8 H18 (w0:=w) ii om ?_;intro z8 HX8 KX8))
  all_goals
   refine bodyPost_ret (v:=.agg vs8.toArray) (A7 (P:=Tryz.prog) rfl rfl HX8.out _ ap6 rfl (by rw[HL8.out];kernel_rfl)) rfl ?_
   rw[HK.out]
   exact⟨vs8,χ8,rfl,ac2 (ah9 HO8.out ii) KX8.out (show w.heap.size+2<W2.heap.size by omega) hW2,b7.of⟩
theorem bk3{vs:List Value}{s:E8}{nt:X8}(h:Enc.Rd B w vs s)(hE:inB nt.Expect 0 255=true)(ht:Enc.tot s≤100000000) :
  Calls Tryz.prog 115 #[.agg vs.toArray,.agg #[I nt.Expect,.bool nt.Locked,.bool nt.Again]] w (R3 w (R9 s nt)):=by
 have HM:=lH h
 obtain⟨a,c,rfl,hs,hok⟩:=h
 have hm:s.Waiting.length≤100000000:=by have:=f6 s.Waiting;rw[bf7]at ht;omega
 have HT:=lH (show Enc.tot s≤100000000 by omega)
 clear ht
 have HOKS:=lH hok
 have HRS:=lH hs
 obtain⟨n,hn⟩:∃ n,s.Waiting.length=n:=⟨_,rfl⟩
 rw[hn]at HM hm ⊢
 have HN:=lH hn
 have HC2:=lH hE
 have HE:=lH (D8.1 hE)
 have HB:=lH ((j5.new w [I s.Next,I s.Window,.slice a n c,I s.Done] 69 w.heap.size rfl).to (ii:b8 _ (((w.alloc (.cells #[I s.Next,I s.Window,.slice a n c,I s.Done] 69)).alloc (.cells #[I nt.Expect,.bool nt.Locked,.bool nt.Again] 70)).alloc (.cells #[I 0,I 0,.slice none 0 0,I 0] 69))))
 have HNB:=lH ((j5.new (w.alloc (.cells #[I s.Next,I s.Window,.slice a n c,I s.Done] 69)) [I nt.Expect,.bool nt.Locked,.bool nt.Again] 70 (w.heap.size+1) si).to (ii:b8 _ (((w.alloc (.cells #[I s.Next,I s.Window,.slice a n c,I s.Done] 69)).alloc (.cells #[I nt.Expect,.bool nt.Locked,.bool nt.Again] 70)).alloc (.cells #[I 0,I 0,.slice none 0 0,I 0] 69))))
 have HR:=lH (j5.new ((w.alloc (.cells #[I s.Next,I s.Window,.slice a n c,I s.Done] 69)).alloc (.cells #[I nt.Expect,.bool nt.Locked,.bool nt.Again] 70)) [I 0,I 0,.slice none 0 0,I 0] 69 (w.heap.size+2) si)
 have gW:b8 w (((w.alloc (.cells #[I s.Next,I s.Window,.slice a n c,I s.Done] 69)).alloc (.cells #[I nt.Expect,.bool nt.Locked,.bool nt.Again] 70)).alloc (.cells #[I 0,I 0,.slice none 0 0,I 0] 69)):=inferInstance
 have hsz:(((w.alloc (.cells #[I s.Next,I s.Window,.slice a n c,I s.Done] 69)).alloc (.cells #[I nt.Expect,.bool nt.Locked,.bool nt.Again] 70)).alloc (.cells #[I 0,I 0,.slice none 0 0,I 0] 69)).heap.size=w.heap.size+3:=by simp
 go_enter Tryz.func115,Tryz.ntmps115
 go_upto_region 1 with(first|((with_reducible refine rl ?_);refine rq ?_;intro x))
 generalize (((w.alloc (.cells #[I s.Next,I s.Window,.slice a n c,I s.Done] 69)).alloc (.cells #[I nt.Expect,.bool nt.Locked,.bool nt.Again] 70)).alloc (.cells #[I 0,I 0,.slice none 0 0,I 0] 69))=W2 at HB HNB HR gW hsz ⊢
 have iB:LtN w.heap.size W2.heap.size:=⟨by omega⟩
 have iN:LtN (w.heap.size+1) W2.heap.size:=⟨by omega⟩
 have iR:LtN (w.heap.size+2) W2.heap.size:=⟨by omega⟩
 have hW2:w.heap.size≤W2.heap.size:=by omega
 go_wp2_with (first|((with_reducible refine rl ?_);refine rq ?_;intro x)|(refine lA rfl _ (.tmp 2) rfl (w.heap.size) 0 kr [I s.Next,I s.Window,.slice a n c,I s.Done] HB ap6 ?_))
 refine(aP1 (x:=s) (Enc.keep HM.out ii) HT.out).mono ?_
 rintro _ _ ⟨cs,χ,rfl,hO,y1,rfl⟩
 have HLC:=lH (aS0 (W0.toRd hO));have HOC:=lH (bT2 (W0.toRd hO));have HO:=lH hO;clear hO
 go_upto_region 2 with(first|((with_reducible refine rl ?_);refine rq ?_;intro x)|(refine sW rfl _ _ _ rfl _ rfl (us:=cs) (j5.new _ [I 0,I 0,.slice none 0 0,I 0] 69 _ rfl) HLC HOC (w0:=W2) ii LeN.out ?_;intro z1 HX1 KX1))
 (try simp only[Act.put])
 obtain⟨qb,hqb⟩:∃ qb,y1.w.heap.size=qb:=⟨_,rfl⟩
 rw[hqb]
 have HG:=lH (show GB (fun _=>False) W2.heap.size qb z1.w s from hqb▸GB.of HO.out (KX1.out.under ii nl) y1.size_le HX1.out)
 have hqB:W2.heap.size≤qb:=HG.out.le
 have hqlt:LtN qb z1.w.heap.size:=⟨HG.out.lt⟩
 clear hqb HX1 KX1 HO HLC HOC
 have e0:=HB.out.cellG 0 _ rfl
 have e1:=HB.out.cellG 1 _ rfl
 have e2:=HB.out.cellG 2 _ rfl
 have e3:=HB.out.cellG 3 _ rfl
 have n0:=HNB.out.cellG 0 _ rfl
 have c2:=HC2.out
 have hE0:=HE.out.1;have hE1:=HE.out.2
 cases c0:J3 s
 ·have HK:=lH (show R9 s nt=s from aq1 (.inl c0))
  obtain⟨vs8,hH8,hl8,h18,-,χ8,hO8⟩:=HG.out.vs
  have HH8:=lH hH8;have HO8:=lH hO8;have H18:=lH h18;have HL8:=lH (show vs8.length=4 from hl8)
  clear hO8 hH8 h18 hl8
  go_wp2_with (first|((with_reducible refine rl ?_);(repeat(first|go_big_quiet_step (first|(go_at_call 101;exact b5.quiet (f5)))|simp only[c0]));refine wpQuiet_nil ?_;intro x)|(go_at_call 101;refine gm (f5) ?_;intro x)|(refine lA rfl _ (.tmp 2) rfl (w.heap.size) 0 kr [I s.Next,I s.Window,.slice a n c,I s.Done] HB ap6 ?_)|(go_at_call 231;refine gm (N7 (sD:=s) HRS.out HN.out om HOKS.out) ?_;intro y9;rw[c0])|(refine sL rfl _ (.tmp 5) rfl (qb) kr HH8 ii ap6 HL8 ?_)|(refine sW rfl _ _ _ rfl (w.heap.size+2) rfl (us:=vs8) (HR.out.to ii) HL8 H18 (w0:=w) ii om ?_;intro z8 HX8 KX8))
  all_goals
   refine bodyPost_ret (v:=.agg vs8.toArray) (A7 (P:=Tryz.prog) rfl rfl HX8.out _ ap6 rfl (by rw[HL8.out];kernel_rfl)) rfl ?_
   rw[HK.out]
   exact⟨vs8,χ8,rfl,ac2 (ah9 HO8.out ii) KX8.out (show w.heap.size+2<W2.heap.size by omega) hW2,b7.of⟩
 cases c1:((n:Int) == 0)
 ·have hn0:0<n:=by simp at c1;omega
  obtain⟨eb,eoff,es,heq,ehb,ehd,eok,eh0,eh1⟩:=(HRS.out.keep (aC7 (ii:b8 w z1.w))).atTSent (show 0<s.Waiting.length by rw[HN.out];exact hn0)
  clear eok eh1
  have hsf:=aQ3 c0 (show s.Waiting=es::s.Waiting.drop 1 from ehd.out)
  have hq0:=hsf.1.1;have hq1:=hsf.1.2
  have HDN:=lH hsf.2.2
  have hac:bn8 s nt=(nt.Expect - es.Seq+256) % 256:=by rw[bn8,hsf.2.1]
  clear hsf ehd
  obtain⟨k,hk⟩:∃ k:Nat,(nt.Expect - es.Seq+256) % 256=(k:Int):=⟨((nt.Expect - es.Seq+256) % 256).toNat,by omega⟩
  have hk255:k≤255:=by omega
  rw[hk]at hac
  have HAC:=lH hac
  have HC0:=lH c0
  clear hac
  simp only[Nat.zero_mul,Nat.add_zero]at eh0
  have HSL:=lH (show Sl R6 z1.w a s.Waiting from(RdS.slF HRS.out).to ii)
  have HCAP:=lH (show n≤c from HN.out▸HRS.out.cap)
  have HGD:=lH (show ∀ p∈s.Waiting,ar9 p from HRS.out.goods)
  subst heq
  go_upto_region 5 with(first|((with_reducible refine rl ?_);(repeat(first|go_big_quiet_step (first|(go_at_call 101;exact b5.quiet (f5)))|simp only[c0]|simp only[c1]|simp only[hk]));refine wpQuiet_nil ?_;intro x)|(go_at_call 101;refine gm (f5) ?_;intro x)|(refine lA rfl _ (.tmp 2) rfl (w.heap.size) 0 kr [I s.Next,I s.Window,.slice a n c,I s.Done] HB ap6 ?_)|(go_at_call 231;refine gm (N7 (sD:=s) HRS.out HN.out om HOKS.out) ?_;intro y9;rw[c0]))
  (try simp only[hk])
  cases c4:decide ((n:Int)<(k:Int))
  ·have hkn:k≤n:=by have:=of_decide_eq_false c4;omega
   have hkc:k≤c:=Nat.le_trans hkn HCAP.out
   have HK:=lH (show R9 s nt={ s with Waiting:=s.Waiting.drop k,Done:=min (s.Done+(k:Int)) 1000000 } from aU8 HC0.out (by rw[HN.out];exact hn0) HC2.out HAC.out (by rw[HN.out];exact hkn))
   have hLD:(s.Waiting.drop k).length=n - k:=by rw[List.length_drop,HN.out]
   have HLD:=lH hLD
   have HGK:=lH (show ∀ p∈s.Waiting.drop k,ar9 p from fun p hp=>HGD.out p (List.mem_of_mem_drop hp))
   have hd0:=HDN.out.1;have hd1:=HDN.out.2
   have HS0:=lH (Sl.from2 (j:=k) (size:=2) HSL.out (HN.out▸HCAP.out) at1)
   by_cases hck:k=c
   ·subst hck
    have HS2:=lH (show Sl R6 z1.w (some ⟨eb,eoff,none⟩) (s.Waiting.drop k)by have:=HS0.out;rw[if_pos rfl]at this;exact this)
    go_upto_region 8 with(first|((with_reducible refine rl ?_);(repeat(first|go_big_quiet_step (first|fail)|simp only[c4]));refine wpQuiet_nil ?_;intro x)|(at_builtin;refine I0 (t:=67) (enc:=R6) (w0:=z1.w) (z:=.agg #[I 0,.string ByteArray.empty]) (size:=2) (bytes:=24) (n:=0) (l:=[]) rfl (.tmp 41) (.tmp 45) rfl Tryz.underlying67 kr rfl de de rfl rfl (fun h=>by cases h) rfl HLD.out (Own.emptyBlk (B:=z1.w.heap.size) (D7.encLen (α:=V9)) LeN.out bk) (HS2.out.to ii) (D7.one (α:=V9)) om ?_;intro a6 c6 y6 own6 gr6;rw[List.nil_append]at own6;have HP:=lH (GBp.new (F:=ao0) HG.out (ii:b8 z1.w y6.w) (B6.of own6 HGK.out (0,0)));clear own6 gr6;(try simp only[Nat.zero_add]))|(refine aQ6 HLD.out rfl _ _ _ rfl HP.out rfl rfl kr (w0:=W2) ii nl ?_;intro z2 hz2))
    (try simp only[Act.put])
    have HZ2:=lH hz2
    clear hz2 HP HG eh0
    obtain⟨dv,hdv⟩:∃ dv,min (s.Done+(k:Int)) 1000000=dv:=⟨_,rfl⟩
    have HDV:=lH hdv
    rw[hdv]at HK
    have hiD:i64 dv:=by unfold i64;omega
    clear hdv
    go_upto_region 9 with(first|((with_reducible refine rl ?_);refine rq ?_;intro x)|(refine al9 (o:=3) (us:=[I dv]) ({ s with Waiting:=s.Waiting.drop k,Done:=dv }:E8) rfl _ (.tmp 53) (.tmp 52) rfl (HZ2.out.to ii) kr (congrArg (fun z:Int=>[Value.int .i64 z]) (by have:=HDV.out;omega)) kr rfl nb (by intros;rename_i h;obtain⟨a0,c0,rfl,q⟩:=h;exact⟨a0,c0,rfl,q.o0,q.ok.1,q.ok.2.1,hiD,trivial⟩) (w0:=W2) ii nl ?_;intro z3 hz3 hX3))
    all_goals
     (try simp only[Act.put])
     have HZ3:=lH hz3
     clear hz3 hX3 HZ2 e0 e1 e2 e3 n0
     obtain⟨vs8,hH8,hl8,h18,-,χ8,hO8⟩:=HZ3.out.vs
     have HH8:=lH hH8;have HO8:=lH hO8;have H18:=lH h18;have HL8:=lH (show vs8.length=4 from hl8)
     clear hO8 hH8 h18 hl8
     go_wp2_with (first|((with_reducible refine rl ?_);(repeat(first|go_big_quiet_step (first|(go_at_call 101;exact b5.quiet (f5)))));refine wpQuiet_nil ?_;intro x)|(go_at_call 101;refine gm (f5) ?_;intro x)|(refine sL rfl _ (.tmp 5) rfl (qb) kr HH8 ii ap6 HL8 ?_)|(refine sW rfl _ _ _ rfl (w.heap.size+2) rfl (us:=vs8) (HR.out.to ii) HL8 H18 (w0:=w) ii om ?_;intro z8 HX8 KX8))
     all_goals
      refine bodyPost_ret (v:=.agg vs8.toArray) (A7 (P:=Tryz.prog) rfl rfl HX8.out _ ap6 rfl (by rw[HL8.out];kernel_rfl)) rfl ?_
      rw[HK.out]
      exact⟨vs8,χ8,rfl,ac2 (ah9 HO8.out ii) KX8.out (show w.heap.size+2<W2.heap.size by omega) hW2,b7.of⟩
   ·have HS2:=lH (show Sl R6 z1.w (some ⟨eb,eoff+k*2,none⟩) (s.Waiting.drop k)by have:=HS0.out;rw[if_neg (fun e=>hck e.symm)]at this;exact this)
    go_upto_region 8 with(first|((with_reducible refine rl ?_);(repeat(first|go_big_quiet_step (first|fail)|simp only[c4]));refine wpQuiet_nil ?_;intro x)|(at_builtin;refine I0 (t:=67) (enc:=R6) (w0:=z1.w) (z:=.agg #[I 0,.string ByteArray.empty]) (size:=2) (bytes:=24) (n:=0) (l:=[]) rfl (.tmp 41) (.tmp 45) rfl Tryz.underlying67 kr rfl de de rfl rfl (fun h=>by cases h) rfl HLD.out (Own.emptyBlk (B:=z1.w.heap.size) (D7.encLen (α:=V9)) LeN.out bk) (HS2.out.to ii) (D7.one (α:=V9)) om ?_;intro a6 c6 y6 own6 gr6;rw[List.nil_append]at own6;have HP:=lH (GBp.new (F:=ao0) HG.out (ii:b8 z1.w y6.w) (B6.of own6 HGK.out (0,0)));clear own6 gr6;(try simp only[Nat.zero_add]))|(refine aQ6 HLD.out rfl _ _ _ rfl HP.out rfl rfl kr (w0:=W2) ii nl ?_;intro z2 hz2))
    (try simp only[Act.put])
    have HZ2:=lH hz2
    clear hz2 HP HG eh0
    obtain⟨dv,hdv⟩:∃ dv,min (s.Done+(k:Int)) 1000000=dv:=⟨_,rfl⟩
    have HDV:=lH hdv
    rw[hdv]at HK
    have hiD:i64 dv:=by unfold i64;omega
    clear hdv
    go_upto_region 9 with(first|((with_reducible refine rl ?_);refine rq ?_;intro x)|(refine al9 (o:=3) (us:=[I dv]) ({ s with Waiting:=s.Waiting.drop k,Done:=dv }:E8) rfl _ (.tmp 53) (.tmp 52) rfl (HZ2.out.to ii) kr (congrArg (fun z:Int=>[Value.int .i64 z]) (by have:=HDV.out;omega)) kr rfl nb (by intros;rename_i h;obtain⟨a0,c0,rfl,q⟩:=h;exact⟨a0,c0,rfl,q.o0,q.ok.1,q.ok.2.1,hiD,trivial⟩) (w0:=W2) ii nl ?_;intro z3 hz3 hX3))
    all_goals
     (try simp only[Act.put])
     have HZ3:=lH hz3
     clear hz3 hX3 HZ2 e0 e1 e2 e3 n0
     obtain⟨vs8,hH8,hl8,h18,-,χ8,hO8⟩:=HZ3.out.vs
     have HH8:=lH hH8;have HO8:=lH hO8;have H18:=lH h18;have HL8:=lH (show vs8.length=4 from hl8)
     clear hO8 hH8 h18 hl8
     go_wp2_with (first|((with_reducible refine rl ?_);(repeat(first|go_big_quiet_step (first|(go_at_call 101;exact b5.quiet (f5)))));refine wpQuiet_nil ?_;intro x)|(go_at_call 101;refine gm (f5) ?_;intro x)|(refine sL rfl _ (.tmp 5) rfl (qb) kr HH8 ii ap6 HL8 ?_)|(refine sW rfl _ _ _ rfl (w.heap.size+2) rfl (us:=vs8) (HR.out.to ii) HL8 H18 (w0:=w) ii om ?_;intro z8 HX8 KX8))
     all_goals
      refine bodyPost_ret (v:=.agg vs8.toArray) (A7 (P:=Tryz.prog) rfl rfl HX8.out _ ap6 rfl (by rw[HL8.out];kernel_rfl)) rfl ?_
      rw[HK.out]
      exact⟨vs8,χ8,rfl,ac2 (ah9 HO8.out ii) KX8.out (show w.heap.size+2<W2.heap.size by omega) hW2,b7.of⟩
  ·have hnk:n<k:=by have:=of_decide_eq_true c4;omega
   have HK:=lH (show R9 s nt=s from aq1 (.inr (.inr (by rw[HAC.out,HN.out];exact of_decide_eq_true c4))))
   obtain⟨vs8,hH8,hl8,h18,-,χ8,hO8⟩:=HG.out.vs
   have HH8:=lH hH8;have HO8:=lH hO8;have H18:=lH h18;have HL8:=lH (show vs8.length=4 from hl8)
   clear hO8 hH8 h18 hl8
   go_wp2_with (first|((with_reducible refine rl ?_);(repeat(first|go_big_quiet_step (first|(go_at_call 101;exact b5.quiet (f5)))|simp only[c4]));refine wpQuiet_nil ?_;intro x)|(go_at_call 101;refine gm (f5) ?_;intro x)|(refine sL rfl _ (.tmp 5) rfl (qb) kr HH8 ii ap6 HL8 ?_)|(refine sW rfl _ _ _ rfl (w.heap.size+2) rfl (us:=vs8) (HR.out.to ii) HL8 H18 (w0:=w) ii om ?_;intro z8 HX8 KX8))
   all_goals
    refine bodyPost_ret (v:=.agg vs8.toArray) (A7 (P:=Tryz.prog) rfl rfl HX8.out _ ap6 rfl (by rw[HL8.out];kernel_rfl)) rfl ?_
    rw[HK.out]
    exact⟨vs8,χ8,rfl,ac2 (ah9 HO8.out ii) KX8.out (show w.heap.size+2<W2.heap.size by omega) hW2,b7.of⟩
 ·have HK:=lH (show R9 s nt=s from aq1 (.inr (.inl (by rw[HN.out];simp at c1;omega))))
  obtain⟨vs8,hH8,hl8,h18,-,χ8,hO8⟩:=HG.out.vs
  have HH8:=lH hH8;have HO8:=lH hO8;have H18:=lH h18;have HL8:=lH (show vs8.length=4 from hl8)
  clear hO8 hH8 h18 hl8
  go_wp2_with (first|((with_reducible refine rl ?_);(repeat(first|go_big_quiet_step (first|(go_at_call 101;exact b5.quiet (f5)))|simp only[c0]|simp only[c1]));refine wpQuiet_nil ?_;intro x)|(go_at_call 101;refine gm (f5) ?_;intro x)|(refine lA rfl _ (.tmp 2) rfl (w.heap.size) 0 kr [I s.Next,I s.Window,.slice a n c,I s.Done] HB ap6 ?_)|(go_at_call 231;refine gm (N7 (sD:=s) HRS.out HN.out om HOKS.out) ?_;intro y9;rw[c0])|(refine sL rfl _ (.tmp 5) rfl (qb) kr HH8 ii ap6 HL8 ?_)|(refine sW rfl _ _ _ rfl (w.heap.size+2) rfl (us:=vs8) (HR.out.to ii) HL8 H18 (w0:=w) ii om ?_;intro z8 HX8 KX8))
  all_goals
   refine bodyPost_ret (v:=.agg vs8.toArray) (A7 (P:=Tryz.prog) rfl rfl HX8.out _ ap6 rfl (by rw[HL8.out];kernel_rfl)) rfl ?_
   rw[HK.out]
   exact⟨vs8,χ8,rfl,ac2 (ah9 HO8.out ii) KX8.out (show w.heap.size+2<W2.heap.size by omega) hW2,b7.of⟩
