/- Words, orders and lists of what is missing, as they come, of the program. No condition but on sizes. -/
import Derived.Test.YtdoilejecjaldaaGreatHRcvL
import Derived.Test.YtdoilejecjaldaaGreatHM44
import Derived.Test.YtdoilejecjaldaaGreatHOkF
import Derived.Test.YtdoilejecjaldaaGreatHM15
import Derived.Test.YtdoilejecjaldaaGreatHLnk0
import Derived.Test.YtdoilejecjaldaaGreatHM6
import Derived.Test.YtdoilejecjaldaaGreatHStepH
import Derived.Deep.CutRange
namespace Go.Proofs.YtdoilejecjaldaaGreat
set_option maxRecDepth 100000
set_option maxHeartbeats 4000000
set_option linter.unusedVariables false
open Go.ChangeShapes Go.WideShapes Go.ChangeAt Go.RowKit
theorem aK2:∀ (l:List UInt8) (t:ByteArray),(au5 t (l.map fun b=>(b.toNat:Int))).data.toList=t.data.toList++l
 | [],t=>by simp[au5]
 | b::l,t=>by
  have h:=aK2 l (t++Z2 b.toNat)
  simp only[au5,List.map_cons,List.foldl_cons]at h ⊢
  rw[h]
  simp[Z2,strOfNums,aN3]
theorem bg8{s:ByteArray}(h:1≤s.size):((ai8 (bAt s 0) ((j4 s).drop 1)).toList == s.toList)=as9 s:=by
 have hb:=W7 s 0
 have hl:((j4 s).drop 1).length=s.size - 1:=by rw[List.length_drop,J6]
 cases hk:as9 s
 ·have e:ai8 (bAt s 0) ((j4 s).drop 1)=⟨#[]⟩:=by
   unfold ai8
   rw[if_neg]
   intro hc
   simp only[Bool.and_eq_true,decide_eq_true_eq]at hc
   have h1:=D6.1 hc.1
   have h2:as9 s=true:=by
    simp only[as9,Bool.and_eq_true,decide_eq_true_eq]
    exact⟨D6.2 (by have:=hc.2.1;omega),h1.2,hc.2.2⟩
   rw[hk]at h2;cases h2
  rw[e]
  rw[ByteArray.toList_eq,ByteArray.toList_eq]
  cases h4:s.data.toList with
  | nil=>exact absurd (show s.size=0 by rw[ByteArray.size,← Array.length_toList,h4];rfl) (by omega)
  | cons=>rfl
 ·simp only[as9,Bool.and_eq_true,decide_eq_true_eq]at hk
  have h1:=D6.1 hk.1
  have e:ai8 (bAt s 0) ((j4 s).drop 1)=s:=by
   unfold ai8
   rw[if_pos (by simp only[Bool.and_eq_true,decide_eq_true_eq];exact⟨D6.2 ⟨hb.1,hk.2.1⟩,by omega,hk.2.2⟩)]
   apply aP4
   rw[ak7 (show 0<s.size by omega)]
   obtain⟨⟨l⟩⟩:=s
   match l,h with
   | b::r,_ =>
    have:=aK2 r (Z2 b.toNat)
    simp only[j4,List.map_cons,List.drop_succ_cons,List.drop_zero]
    refine Eq.trans this ?_
    simp[Z2,strOfNums,aN3]
  rw[e];simp
def bU8:Option Z3→Value
 | some x=>.tuple #[.agg #[.int .i64 x.Kind,.int .i64 x.At,.int .i64 x.A,.int .i64 x.B],.bool true]
 | none=>.tuple #[.agg #[.int .i64 0,.int .i64 0,.int .i64 0,.int .i64 0],.bool false]
def bG1(w:World):Option (Int × List Int)→Ending→World→Prop
 | some q=>fun e w'=>∃ (a:Option Addr) (c:Nat),e=.returned (.tuple #[.int .i64 q.1,.slice a q.2.length c,.bool true])∧Own K0 3 1 w.heap.size w' a c q.2∧∃ y:b5 w,w'=y.w
 | none=>fun e w'=>∃ v:Value,e=.returned (.tuple #[.int .i64 0,v,.bool false])∧∃ y:b5 w,w'=y.w
theorem aR9{s:ByteArray}{a k:Nat}{w:World}(h1:1≤k)(h4:k≤4)(hs:a+k≤s.size)(hm:s.size≤100000000):Calls Tryz.prog 215 #[.string s,.int .i64 a,.int .i64 k] w (b4 w (.tuple #[.int .i64 (U4 s a k),.bool true])):=by
 have HS:=lH hs
 have HM:=lH hm
 have c1:inB k 1 4=true:=D6.2 (by omega)
 have c4:decide ((k:Int)<1)=false:=by simp;omega
 have c5:decide ((4:Int)<(k:Int))=false:=by simp;omega
 have c6:decide ((a:Int)<0)=false:=by simp
 have c7:decide ((s.size:Int) - (k:Int)<(a:Int))=false:=by simp;omega
 go_enter Tryz.func215,Tryz.ntmps215
 go_wp2_with (fail)
 go_loopw [8,9] (fun u v wr=>∃ i:Nat,v=.int .i64 i∧u=.int .i64 (U4 s a i)∧i≤k∧∃ y:b5 w,wr=y.w) (fun _ v _=>(k - intOf v).toNat)
 case atStart=>exact⟨0,rfl,rfl,Nat.zero_le _,b5.of⟩
 case round =>
  obtain⟨i,rfl,rfl,hi,y,rfl⟩:=hrel
  by_cases h:i<k
  ·have hai:a+i<s.size:=by have:=HS.out;omega
   have e0:bAt s (a+i)=((s[a+i]'hai).toNat:Int):=ak7 hai
   have hb:=W7 s (a+i)
   have hn1:0≤U4 s a i∧U4 s a i≤16777215:=by
    have h0:=W7 s (a+0);have h1:=W7 s (a+1);have h2:=W7 s (a+2)
    have hi3:i=0∨i=1∨i=2∨i=3:=by omega
    rcases hi3 with rfl|rfl|rfl|rfl<;>simp only[U4]<;>omega
   have HW:=lH (show U4 s a (i+1)=U4 s a i*256+bAt s (a+i)from rfl)
   obtain⟨n,hn⟩:∃ n,U4 s a i=n:=⟨_,rfl⟩
   obtain⟨b,hb9⟩:∃ b:Int,((s[a+i]'hai).toNat:Int)=b:=⟨_,rfl⟩
   rw[hn]at hn1 HW
   rw[e0,hb9]at hb HW
   clear e0
   have hj0:(0:Int)≤(a:Int)+(i:Int):=by omega
   have hj2:(a:Int)+(i:Int)<(s.size:Int):=by omega
   have hj3:((a:Int)+(i:Int)).toNat=a+i:=by omega
   have hsb:=HM.out
   clear hs hm
   go_wp2_with (fail)
   (try simp only[hn,hb9])
   go_roundw
   case rel=>exact⟨i+1,by go_num,(by first|(rw[HW.out];done)|(rw[HW.out,Int.mul_comm n 256])),by omega,b5.of⟩
   case measure=>simp[intOf];omega
  ·obtain rfl:i=k:=by omega
   clear hs hm
   go_wp2_with (fail)
   refine bodyPost_ret (v:=.tuple #[.int .i64 (U4 s a i),.bool true]) ?_ rfl (b4.mk (by rfl))
   simp[results,Tryz.results215,go_sem]
theorem aY7{s:ByteArray}{w:World}(hm:s.size≤100000000):Calls Tryz.prog 125 #[.string s] w (b4 w (bU8 (ac7 s))):=by
 have HR:=lH (i9.new w [.int .i64 0,.int .i64 0,.int .i64 0,.int .i64 0] 169 w.heap.size rfl)
 have gW:d5 w (w.alloc (.cells #[.int .i64 0,.int .i64 0,.int .i64 0,.int .i64 0] 169)):=inferInstance
 by_cases h7:s.size=7
 ·have c1:((s.size:Int) != 7)=false:=by simp;omega
  have w1:=aF7 s 1 (k:=3) (by decide)
  have w5:=aF7 s 5 (k:=2) (by decide)
  have hb0:=W7 s 0
  have hb4:=W7 s 4
  obtain⟨x0,hx⟩:∃ x0,bI0 s=x0:=⟨_,rfl⟩
  have e1:U4 s 1 3=x0.At:=by rw[← hx];rfl
  have e2:U4 s 5 2=x0.B:=by rw[← hx];rfl
  have e3:bAt s 0=x0.Kind:=by rw[← hx];rfl
  have e4:bAt s 4=x0.A:=by rw[← hx];rfl
  have HST:=lH (show ac7 s=if w8 x0=true then some x0 else none by rw[ac7,if_pos h7,hx])
  have HE1:=lH e1;have HE3:=lH e3;have HE4:=lH e4
  have HE2:=lH e2
  clear hx
  rw[e3]at hb0
  rw[e4]at hb4
  clear e1 e2 e3 e4
  go_enter Tryz.func125,Tryz.ntmps125
  go_wp2_with (first|((with_reducible refine rl ?_);(repeat(first|go_big_quiet_step (first|fail)|simp only[c1]));refine wpQuiet_nil ?_;intro x))
  refine gm (aR9 (a:=1) (k:=3) (by decide) (by decide) (by omega) (by omega)) ?_
  intro y1
  rw[HE1.out]
  go_wp2_with (first|((with_reducible refine rl ?_);refine rq ?_;intro x))
  refine gm (aR9 (a:=5) (k:=2) (by decide) (by decide) (by omega) (by omega)) ?_
  intro y2
  rw[HE2.out]
  go_upto_region 5 with(first|((with_reducible refine rl ?_);refine rq ?_;intro x))
  refine X3 kr (T:=[10]) (Zs:=[]) (H:=[(1,[]),(2,[]),(5,[]),(6,[]),(9,[])]) (C:=[9]) (Fs:=[(some 23,.v (.string s)),(some 24,.v (.int .u8 (x0.Kind))),(some 25,.v (.int .i64 (x0.Kind))),(some 26,.v (.int .i64 (x0.At))),(some 27,.v (.string s)),(some 28,.v (.int .u8 (x0.A))),(some 29,.v (.int .i64 (x0.A))),(some 30,.v (.int .i64 (x0.B))),(some 31,.v (.agg #[.int .i64 x0.Kind,.int .i64 x0.At,.int .i64 x0.A,.int .i64 x0.B])),(some 8,.box y2.w.heap.size [.int .i64 0,.int .i64 0,.int .i64 0,.int .i64 0] 169),(none,.v (undef))]) kr (fun val W=>by kernel_rfl) ?ob5 ?lz5 ?pn5 ?tl5
  case ob5 =>
   refine⟨fun x=>?_,fun x=>?_,fun x=>?_,fun x=>?_,fun x=>?_,trivial⟩
   ·exact bH0 rfl kr Tryz.underlying9 (show 0<s.size by omega) (by rw[← HE3.out];exact(ak7 _).symm)
   ·exact bR9 (t:=5) (d:=3) (p:=.u8) (q:=.i64) (s:=(x0.Kind)) rfl kr kr Tryz.underlying3 (bD3 (by omega) (by omega))
   ·exact bH0 rfl kr Tryz.underlying9 (show 4<s.size by omega) (by rw[← HE4.out];exact(ak7 _).symm)
   ·exact bR9 (t:=5) (d:=3) (p:=.u8) (q:=.i64) (s:=(x0.A)) rfl kr kr Tryz.underlying3 (bD3 (by omega) (by omega))
   ·exact bU6 rfl kr LeN.out
  case lz5 =>
   exact trivial
  case pn5=>exact fun _ _ _ _ _ _ h=>h
  case tl5 =>
   intro z
   refine ak8 fun v9 q9=>?_
   obtain⟨bq,rfl,hbq,hBq⟩:=(show ∃ b,v9=.pointer (some ⟨b,0,none⟩)∧y2.w.heap.size≤b∧i9 z.w b [.int .i64 0,.int .i64 0,.int .i64 0,.int .i64 0] 169 from q9)
   clear q9
   have HBQ:=lH hBq
   have hbq2:w.heap.size+1≤bq:=by have h5:=(ii:d5 (w.alloc (.cells #[.int .i64 0,.int .i64 0,.int .i64 0,.int .i64 0] 169)) y2.w).out.size;simp only[World.size_alloc]at h5;omega
   clear hBq
   refine be3 rfl ?_
   simp only[az6,au1]
   simp only[nrm,if_true]
   go_upto_region 6 with(first|((with_reducible refine rl ?_);refine rq ?_;intro x)|(refine v8 rfl _ _ (.tmp 31) rfl (bq) 0 kr (us:=[.int .i64 x0.Kind,.int .i64 x0.At,.int .i64 x0.A,.int .i64 x0.B]) (cs2:=[.int .i64 x0.Kind,.int .i64 x0.At,.int .i64 x0.A,.int .i64 x0.B]) (HBQ.out.to ii) rfl kr rfl (by simp) rfl (w0:=w) ii (by omega) ?_;intro z6 hx6 kx6;have HX6:=lH hx6;clear hx6;have KX6:=lH kx6;clear kx6))
   (try simp only[Act.put])
   have HR6:=lH ((HR.out.to (ii:d5 (w.alloc (.cells #[.int .i64 0,.int .i64 0,.int .i64 0,.int .i64 0] 169)) _)).but KX6.out (by omega))
   clear HR KX6
   go_wp2_with (first|((with_reducible refine rl ?_);refine rq ?_;intro x)|(refine f7 rfl _ _ rfl (bq) 0 kr (row:=[.int .i64 x0.Kind,.int .i64 x0.At,.int .i64 x0.A,.int .i64 x0.B]) (HX6.out.to ii) _ Tryz.underlying169 rfl kr kr ?_))
   refine gm (ad0 (x:=x0)) ?_
   intro y4
   cases c2:w8 x0
   ·have HV:=lH (show ac7 s=none by rw[HST.out,c2];rfl)
    go_wp2_with (first|((with_reducible refine rl ?_);(repeat(first|go_big_quiet_step (first|fail)|simp only[c2]));refine wpQuiet_nil ?_;intro x)|(refine v8 rfl _ _ (.tmp 35) rfl (w.heap.size) 0 kr (us:=[.int .i64 0,.int .i64 0,.int .i64 0,.int .i64 0]) (cs2:=[.int .i64 0,.int .i64 0,.int .i64 0,.int .i64 0]) (HR6.out.to ii) rfl kr rfl (by simp) rfl (w0:=w) ii nl ?_;intro z9 hx9 kx9;have HX9:=lH hx9;clear hx9;have KX9:=lH kx9;clear kx9))
    refine bodyPost_ret (v:=.tuple #[.agg #[.int .i64 0,.int .i64 0,.int .i64 0,.int .i64 0],.bool false]) (L0 (P:=Tryz.prog) (u:=.bool false) rfl rfl HX9.out _ Tryz.underlying169 rfl kr rfl) rfl ⟨by rw[HV.out];rfl,b5.of⟩
   ·have HV:=lH (show ac7 s=some x0 by rw[HST.out,c2];rfl)
    go_wp2_with (first|((with_reducible refine rl ?_);(repeat(first|go_big_quiet_step (first|fail)|simp only[c2]));refine wpQuiet_nil ?_;intro x)|(refine f7 rfl _ _ rfl (bq) 0 kr (row:=[.int .i64 x0.Kind,.int .i64 x0.At,.int .i64 x0.A,.int .i64 x0.B]) (HX6.out.to ii) _ Tryz.underlying169 rfl kr kr ?_)|(refine v8 rfl _ _ (.tmp 36) rfl (w.heap.size) 0 kr (us:=[.int .i64 x0.Kind,.int .i64 x0.At,.int .i64 x0.A,.int .i64 x0.B]) (cs2:=[.int .i64 x0.Kind,.int .i64 x0.At,.int .i64 x0.A,.int .i64 x0.B]) (HR6.out.to ii) rfl kr rfl (by simp) rfl (w0:=w) ii nl ?_;intro z9 hx9 kx9;have HX9:=lH hx9;clear hx9;have KX9:=lH kx9;clear kx9))
    refine bodyPost_ret (v:=.tuple #[.agg #[.int .i64 x0.Kind,.int .i64 x0.At,.int .i64 x0.A,.int .i64 x0.B],.bool true]) (L0 (P:=Tryz.prog) (u:=.bool true) rfl rfl HX9.out _ Tryz.underlying169 rfl kr rfl) rfl ⟨by rw[HV.out];rfl,b5.of⟩
 ·have HV:=lH (show ac7 s=none by rw[ac7,if_neg h7])
  have c1:((s.size:Int) != 7)=true:=by simp;omega
  go_enter Tryz.func125,Tryz.ntmps125
  go_wp2_with (first|((with_reducible refine rl ?_);(repeat(first|go_big_quiet_step (first|fail)|simp only[c1]));refine wpQuiet_nil ?_;intro x)|(refine v8 rfl _ _ (.tmp 12) rfl (w.heap.size) 0 kr (us:=[.int .i64 0,.int .i64 0,.int .i64 0,.int .i64 0]) (cs2:=[.int .i64 0,.int .i64 0,.int .i64 0,.int .i64 0]) (HR.out.to ii) rfl kr rfl (by simp) rfl (w0:=w) ii nl ?_;intro z9 hx9 kx9;have HX9:=lH hx9;clear hx9;have KX9:=lH kx9;clear kx9))
  refine bodyPost_ret (v:=.tuple #[.agg #[.int .i64 0,.int .i64 0,.int .i64 0,.int .i64 0],.bool false]) (L0 (P:=Tryz.prog) (u:=.bool false) rfl rfl HX9.out _ Tryz.underlying169 rfl kr rfl) rfl ⟨by rw[HV.out];rfl,b5.of⟩
theorem aP6{s:ByteArray}{w:World}(hm:s.size≤100000000):Calls Tryz.prog 127 #[.string s] w (bG1 w (V4 s)):=by
 have hlen:=J6 s
 obtain⟨N,hN⟩:∃ N,s.size=N:=⟨_,rfl⟩
 rw[hN]at hlen hm
 have HN:=lH hN
 cases c1:inB (N:Int) 1 21
 ·have HV:=lH (show V4 s=none by rw[V4,as9,hN,c1];rfl)
  go_enter Tryz.func127,Tryz.ntmps127
  go_wp2_with (first|(go_at_call 114;refine gm (d6) ?_;intro x))
  refine bodyPost_ret (v:=.tuple #[.int .i64 0,.slice none 0 0,.bool false]) ?_ rfl (by rw[HV.out];exact⟨_,rfl,b5.of⟩)
  simp[results,Tryz.results127,go_sem]
 ·have hN1:=D6.1 c1
  have h0s:0<s.size:=by have:=HN.out;omega
  have e0:bAt s 0=((s[0]'h0s).toNat:Int):=ak7 h0s
  have hb9:=W7 s 0
  obtain⟨f,hf⟩:∃ f:Int,((s[0]'h0s).toNat:Int)=f:=⟨_,rfl⟩
  have HE:=lH (show bAt s 0=f by rw[e0,hf])
  rw[e0,hf]at hb9
  clear e0
  cases c2:decide ((7:Int)<f)
  ·have HST:=lH (show V4 s=if N1 0 24 ((j4 s).drop 1)=true then some (f,(j4 s).drop 1)else none by rw[V4,as9,hN,c1,HE.out,decide_eq_true (show f≤7 by have:=of_decide_eq_false c2;omega)];rfl)
   go_enter Tryz.func127,Tryz.ntmps127
   go_wp2_with (first|(go_at_call 114;refine gm (d6) ?_;intro x))
   go_loopw [5,6] (fun u v wr=>∃ (k q:Nat) (L:List Int) (sa:Option Addr) (sc:Nat),v=.int .i64 k∧u=.slice sa q sc∧1≤k∧k≤N∧q+1=k∧L.length=q∧Hid (L++(j4 s).drop k=(j4 s).drop 1)∧Hid (N1 0 24 ((j4 s).drop k)=N1 0 24 ((j4 s).drop 1))∧Hid (Own K0 3 1 w.heap.size wr sa sc L)∧∃ y:b5 w,wr=y.w) (fun _ v _=>(N - intOf v).toNat)
   case atStart=>exact⟨1,0,[],none,0,rfl,rfl,by omega,by omega,rfl,rfl,rfl,rfl,lH (Own.nil ak9),b5.of⟩
   case round =>
    obtain⟨k,q,L,sa,sc,rfl,rfl,hk1,hk,hq,hL,HL,HA,hO,y,rfl⟩:=hrel
    by_cases h:k<N
    ·have hks:k<s.size:=by have:=HN.out;omega
     obtain⟨hb1,hd⟩:=W8 hks
     obtain⟨b,hb⟩:∃ b:Int,((s[k]'hks).toNat:Int)=b:=⟨_,rfl⟩
     have hb0:0≤b:=by omega
     rw[hb]at hb1 hd
     have HD:=lH hd
     clear hd
     cases c3:decide ((24:Int)<b)
     ·have HA2:=lH (show N1 0 24 ((j4 s).drop (k+1))=N1 0 24 ((j4 s).drop 1)by have:=HA.out;rw[HD.out,N1,D6.2 ⟨hb0,by have:=of_decide_eq_false c3;omega⟩]at this;exact this)
      go_wp2_with (first|((at_builtin;refine V0 (enc:=K0) (w0:=w) (B:=w.heap.size) (z:=.int .i64 0) (size:=1) (bytes:=8) (b:Int) rfl (.tmp 26) (.tmp 31) rfl Tryz.underlying46 kr rfl (by decide) (by decide) rfl rfl hL (Own.to hO.out ii) bk rfl (af5 _) (by omega) LeN.out ii LeN.out ?_;intro sa1 sc1 x1 hown1 hgr1);have HO6:=lH hown1;clear hown1 hgr1))
      go_roundw
      case rel=>exact⟨k+1,q+1,L++[b],sa1,sc1,by go_num,(by first|rfl|rw[hq]),by omega,by omega,by omega,by simp[hL],lH (by have:=HL.out;rw[HD.out]at this;rw[← this];simp),HA2,HO6,b5.of⟩
      case measure=>simp[intOf];omega
     ·have HV:=lH (show V4 s=none by rw[HST.out,← HA.out,HD.out,N1,show inB b 0 24=false from by cases h9:inB b 0 24;rfl;have:=D6.1 h9;have:=of_decide_eq_true c3;omega];rfl)
      go_wp2_with (fail)
      refine bodyPost_ret (v:=.tuple #[.int .i64 0,.slice none 0 0,.bool false]) ?_ rfl (by rw[HV.out];exact⟨_,rfl,b5.of⟩)
      simp[results,Tryz.results127,go_sem]
    ·obtain rfl:k=N:=by omega
     have HL2:=lH (show L=(j4 s).drop 1 by have:=HL.out;rw[List.drop_of_length_le (by omega),List.append_nil]at this;exact this)
     have HV:=lH (show V4 s=some (f,(j4 s).drop 1)by rw[HST.out,← HA.out,List.drop_of_length_le (by omega)];rfl)
     go_wp2_with (fail)
     refine bodyPost_ret (v:=.tuple #[.int .i64 f,.slice sa q sc,.bool true]) ?_ rfl (by rw[HV.out];exact⟨sa,sc,by rw[← HL2.out,hL],by rw[← HL2.out];exact hO.out.to ii,b5.of⟩)
     simp[results,Tryz.results127,go_sem]
  ·have HV:=lH (show V4 s=none by rw[V4,as9,hN,c1,HE.out,decide_eq_false (show ¬ f≤7 by have:=of_decide_eq_true c2;omega)];rfl)
   go_enter Tryz.func127,Tryz.ntmps127
   go_wp2_with (first|(go_at_call 114;refine gm (d6) ?_;intro x))
   refine bodyPost_ret (v:=.tuple #[.int .i64 0,.slice none 0 0,.bool false]) ?_ rfl (by rw[HV.out];exact⟨_,rfl,b5.of⟩)
   simp[results,Tryz.results127,go_sem]
