/- The receiving side of the link of the reference: code words. No condition but on sizes. -/
import Derived.Test.YtdoilejecjaldaaGreatHM22
import Derived.Test.YtdoilejecjaldaaGreatHRcvI
import Derived.Deep.CutRange
namespace Go.Proofs.YtdoilejecjaldaaGreat
set_option maxRecDepth 100000
set_option maxHeartbeats 4000000
set_option linter.unusedVariables false
open Go.ChangeShapes Go.WideShapes Go.ChangeAt Go.RowKit
theorem aA3{z0:Int}{w:World}(h0:0≤z0)(h1:z0≤255):Calls Tryz.prog 245 #[.int .i64 z0] w (b4 w (.tuple #[.int .i64 (aj7 z0).1,.int .i64 (aj7 z0).2])):=by
 have c0:inB z0 0 255=true:=D6.2 ⟨h0,h1⟩
 go_enter Tryz.func245,Tryz.ntmps245
 go_wp2_with (fail)
 go_loopw [4] (fun v wr=>∃ k:Nat,v=.int .i64 k∧k≤16∧Hid (aq0 z0 (16 - k) k=aj7 z0)∧∃ y:b5 w,wr=y.w) (fun v _=>(16 - intOf v).toNat)
 case atStart=>exact⟨0,rfl,by omega,lH (bn7 z0).symm,b5.of⟩
 case round =>
  obtain⟨k,rfl,hk,HF,y,rfl⟩:=hrel
  by_cases h:k<16
  ·have⟨hx0,hx1,hxc⟩:=bJ0 (n:=(k:Int)) (by omega) (by omega) h0 h1
   obtain⟨x,hx⟩:∃ x,bits .xor .i64 (nib k) z0=x:=⟨_,rfl⟩
   rw[hx]at hx0 hx1 hxc
   obtain⟨q,hq⟩:∃ q,at9 x=q:=⟨_,rfl⟩
   have hq9:=bd5 x
   rw[hq]at hq9
   have HST:=lH (show aj7 z0=if q≤1 then((k:Int),q)else aq0 z0 (16 - (k+1)) ((k+1:Nat):Int)by rw[← HF.out,show 16 - k=16 - (k+1)+1 by omega,aq0,bM8,hx,hq];rfl)
   clear HF
   have kc:decide ((k:Int)<16)=true:=by simp;omega
   cases c1:decide (q≤1)
   ·have HV:=lH (show aj7 z0=aq0 z0 (16 - (k+1)) ((k+1:Nat):Int)by rw[HST.out,if_neg (of_decide_eq_false c1)])
    have c1:decide (q<2)=false:=by have:=of_decide_eq_false c1;simp;omega
    go_wp2_with (first|(go_at_call 73;refine gm (d8) ?_;intro x)|(go_at_call 266;refine gm (aA4 (by omega) (by omega)) ?_;intro y9)|(go_at_call 265;refine gm (ax5 hx0 hx1) ?_;intro y8))
    go_roundw
    case rel=>exact⟨k+1,by go_num,by omega,lH HV.out.symm,b5.of⟩
    case measure=>simp[intOf];omega
   ·have HV:=lH (show aj7 z0=((k:Int),q)by rw[HST.out,if_pos (of_decide_eq_true c1)])
    have c1:decide (q<2)=true:=by have:=of_decide_eq_true c1;simp;omega
    go_wp2_with (first|(go_at_call 73;refine gm (d8) ?_;intro x)|(go_at_call 266;refine gm (aA4 (by omega) (by omega)) ?_;intro y9)|(go_at_call 265;refine gm (ax5 hx0 hx1) ?_;intro y8))
    refine bodyPost_ret (v:=.tuple #[.int .i64 k,.int .i64 q]) ?_ rfl (b4.mk (by rw[HV.out]))
    simp[results,Tryz.results245,go_sem]
  ·obtain rfl:k=16:=by omega
   have HV:=lH (show aj7 z0=(-1,2)from HF.out.symm)
   have kc:decide (((16:Nat):Int)<16)=false:=by simp
   go_wp2_with (first|(go_at_call 73;refine gm (d8) ?_;intro x))
   refine bodyPost_ret (v:=.tuple #[.int .i64 (-1),.int .i64 2]) ?_ rfl (b4.mk (by rw[HV.out]))
   simp[results,Tryz.results245,go_sem]
theorem aZ5{s:ByteArray}{w:World}(hm:s.size≤100000000):Calls Tryz.prog 177 #[.string s] w (aX3 w (am6 s)):=by
 have hlen:=J6 s
 obtain⟨N,hN⟩:∃ N,s.size=N:=⟨_,rfl⟩
 rw[hN]at hlen hm
 have HN:=lH hN
 by_cases h2:N % 2=0
 ·have c1:((N:Int) % 2 != 0)=false:=by simp;omega
  cases c2:decide (400<(N:Int))
  ·have HV:=lH (show am6 s=as4 [] (j4 s)by rw[am6,if_neg (by have:=of_decide_eq_false c2;omega)])
   have hN4:N≤400:=by have:=of_decide_eq_false c2;omega
   have HN2:=lH h2
   clear h2
   go_enter Tryz.func177,Tryz.ntmps177
   go_wp2_with (fail)
   go_loopw [5,6,7] (fun a u v wr=>∃ (k q:Nat) (m:Int) (L:List Int) (sa:Option Addr) (sc:Nat),a=.slice sa q sc∧u=.int .i64 m∧v=.int .i64 k∧k≤N∧Hid (k=2*q)∧L.length=q∧Hid (as4 L ((j4 s).drop k)=as4 [] (j4 s))∧Hid (q=0→sa=some ⟨w.heap.size,0,none⟩)∧Hid (Own V7 5 1 w.heap.size wr sa sc L)∧∃ x:b5 w,wr=x.w) (fun _ _ v _=>(N - intOf v).toNat)
   case atStart=>exact⟨0,0,0,[],_,_,rfl,rfl,rfl,by omega,rfl,rfl,rfl,fun _=>rfl,Own.empty0 al2 nl,b5.of⟩
   case round =>
    obtain⟨k,q,m,L,sa,sc,rfl,rfl,rfl,hk,hq,hL,HL,h00,hO,y0,rfl⟩:=hrel
    by_cases h:k<N
    ·have h1:k+1<N:=by have:=hq.out;have:=HN2.out;omega
     have hks:k<s.size:=by have:=HN.out;omega
     have hks1:k+1<s.size:=by have:=HN.out;omega
     obtain⟨hb1,hd⟩:=W8 hks
     obtain⟨hc1,hd1⟩:=W8 hks1
     obtain⟨b,hb⟩:∃ b:Int,((s[k]'hks).toNat:Int)=b:=⟨_,rfl⟩
     obtain⟨c,hc⟩:∃ c:Int,((s[k+1]'hks1).toNat:Int)=c:=⟨_,rfl⟩
     have hb0:0≤b:=by omega
     have hc0:0≤c:=by omega
     rw[hb]at hb1 hd
     rw[hc]at hc1 hd1
     have⟨p0,p1,p2,p3⟩:=aX5 b
     have⟨r0,r1,r2,r3⟩:=aX5 c
     obtain⟨x,hx⟩:∃ x,(aj7 b).1=x:=⟨_,rfl⟩
     obtain⟨x2,hx2⟩:∃ x,(aj7 b).2=x:=⟨_,rfl⟩
     obtain⟨z,hz⟩:∃ x,(aj7 c).1=x:=⟨_,rfl⟩
     obtain⟨z2,hz2⟩:∃ x,(aj7 c).2=x:=⟨_,rfl⟩
     have HST:=lH (show as4 L ((j4 s).drop k)=if x<0∨z<0 then none else as4 (L++[16*x+z]) ((j4 s).drop (k+2))by rw[hd,hd1,as4,hx,hz])
     rw[hx]at p0 p1
     rw[hx2]at p2 p3
     rw[hz]at r0 r1
     rw[hz2]at r2 r3
     clear hd hd1
     have hjj:(0:Int)≤(k:Int)+1:=by omega
     have hjt:((k:Int)+1).toNat=k+1:=by omega
     have hjl:(k:Int)+1<(N:Int):=by omega
     go_wp2_with (fail)
     (try simp only[hb])
     refine gm (aA3 hb0 hb1) ?_
     intro y8
     (try simp only[hx,hx2])
     go_wp2_with (fail)
     (try simp only[hc])
     refine gm (aA3 hc0 hc1) ?_
     intro y9
     (try simp only[hz,hz2])
     go_upto_region 10 with(fail)
     cases c3:decide (x<0)
     ·cases c4:decide (z<0)
      ·have HF:=lH (show as4 (L++[16*x+z]) ((j4 s).drop (k+2))=as4 [] (j4 s)by rw[← HL.out,HST.out,if_neg (by have h3:=of_decide_eq_false c3;have h4:=of_decide_eq_false c4;omega)])
       have hx0:0≤x:=by have:=of_decide_eq_false c3;omega
       have hz0:0≤z:=by have:=of_decide_eq_false c4;omega
       have hw8:IntKind.u8.wrap (16*x+z)=16*x+z:=bP3 (by omega) (by omega)
       have hqb:q≤400:=by have:=hq.out;omega
       go_wp2_with (first|((at_builtin;refine V0 (enc:=V7) (w0:=w) (B:=w.heap.size) (z:=.int .u8 0) (size:=1) (bytes:=1) (16*x+z) rfl (.tmp 51) (.tmp 57) rfl Tryz.underlying289 kr rfl (by decide) (by decide) rfl rfl hL (Own.to hO.out ii) bk rfl (aa9 _) (by omega) LeN.out ii LeN.out ?_;intro sa1 sc1 x1 hown1 hgr1);have HO6:=lH hown1;clear hown1 hgr1))
       go_roundw
       case rel=>exact⟨k+2,q+1,_,L++[16*x+z],sa1,sc1,rfl,rfl,by go_num,by omega,(by have:=hq.out;show _=_;omega),by simp[hL],HF,lH fun e=>by omega,HO6,b5.of⟩
       case measure=>simp[intOf];omega
      ·have HV:=lH (show am6 s=none by rw[HV.out,← HL.out,HST.out,if_pos (.inr (of_decide_eq_true c4))])
       go_wp2_with (fail)
       refine bodyPost_ret (v:=.tuple #[.string ⟨#[]⟩,.int .i64 0,.bool false]) ?_ rfl (⟨0,by rw[HV.out];rfl,b5.of⟩)
       simp[results,Tryz.results177,go_sem]
     ·have HV:=lH (show am6 s=none by rw[HV.out,← HL.out,HST.out,if_pos (.inl (of_decide_eq_true c3))])
      go_wp2_with (fail)
      refine bodyPost_ret (v:=.tuple #[.string ⟨#[]⟩,.int .i64 0,.bool false]) ?_ rfl (⟨0,by rw[HV.out];rfl,b5.of⟩)
      simp[results,Tryz.results177,go_sem]
    ·obtain rfl:k=N:=by omega
     have hcv:∀ (W':World) [d5 y0.w W'],(convert 289 9 (.slice sa q sc)).run Tryz.prog W'=.ok (.string (strOfNums L)) W':=by
      by_cases hq0:q=0
      ·intro W' _
       rw[h00.out hq0]
       exact run_convert_bytes_arg W' 289 5 Tryz.underlying289 Tryz.underlying5 w.heap.size 0 q sc L hL (fun i hi=>by omega) 9 Tryz.underlying9
      ·exact ap8 (P:=Tryz.prog) (c:=sc) Tryz.underlying289 Tryz.underlying5 Tryz.underlying9 hO.out.sl hL (by omega)
     have hcv1:=hcv y0.w
     clear hcv
     have HV2:=lH (show am6 s=some L by rw[HV.out,← HL.out,List.drop_of_length_le (by omega)];rfl)
     go_wp2_with (fail)
     refine bodyPost_ret (v:=.tuple #[.string (strOfNums L),.int .i64 m,.bool true]) ?_ rfl (⟨m,by rw[HV2.out];rfl,b5.of⟩)
     simp[results,Tryz.results177,go_sem]
  ·have HV:=lH (show am6 s=none by rw[am6,if_pos (.inr (by have:=of_decide_eq_true c2;omega))])
   go_enter Tryz.func177,Tryz.ntmps177
   go_wp2_with (fail)
   refine bodyPost_ret (v:=.tuple #[.string ⟨#[]⟩,.int .i64 0,.bool false]) ?_ rfl (⟨0,by rw[HV.out];rfl,b5.of⟩)
   simp[results,Tryz.results177,go_sem]
 ·have HV:=lH (show am6 s=none by rw[am6,if_pos (.inl (by omega))])
  have c1:((N:Int) % 2 != 0)=true:=by simp;omega
  go_enter Tryz.func177,Tryz.ntmps177
  go_wp2_with (fail)
  refine bodyPost_ret (v:=.tuple #[.string ⟨#[]⟩,.int .i64 0,.bool false]) ?_ rfl (⟨0,by rw[HV.out];rfl,b5.of⟩)
  simp[results,Tryz.results177,go_sem]
