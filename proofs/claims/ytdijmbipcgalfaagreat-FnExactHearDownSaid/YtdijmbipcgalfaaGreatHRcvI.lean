/- The receiving side of the link of the program: code words. No condition but on sizes. -/
import Derived.Test.YtdijmbipcgalfaaGreatHM29
import Derived.Test.YtdijmbipcgalfaaGreatHM18
import Derived.Deep.CutRange
namespace Go.Proofs.YtdijmbipcgalfaaGreat
set_option maxRecDepth 100000
set_option maxHeartbeats 4000000
set_option linter.unusedVariables false
open Go.ChangeShapes Go.WideShapes Go.ChangeAt Go.RowKit
variable {w:World}
def aZ4(w:World)(o:Option (List Int)):Ending→World→Prop:=fun e w'=>∃ n:Int,e=.returned (.tuple #[.string (aB6 o),.int .i64 n,.bool o.isSome])∧∃ y:b7 w,w'=y.w
theorem aL7{z0:Int}(h0:0≤z0)(h1:z0≤255):Calls Tryz.prog 348 #[I z0] w (b5 w (I (av5 z0))):=by
 go_enter Tryz.func348,Tryz.ntmps348
 go_wp2_with (first|(go_at_call 353;refine gm (aH5 h0 h1) ?_;intro y9))
 go_ret
 exact b5.mk rfl
theorem aA8{z0:Int}(h0:0≤z0)(h1:z0≤255):Calls Tryz.prog 328 #[I z0] w (b5 w (.tuple #[I (al2 z0).1,I (al2 z0).2])):=by
 go_enter Tryz.func328,Tryz.ntmps328
 go_wp2_with (fail)
 go_loopw [4] (fun v wr=>∃ k:Nat,v=I k∧k≤16∧Hid (ar4 z0 (16 - k) k=al2 z0)∧∃ y:b7 w,wr=y.w) (fun v _=>(16 - intOf v).toNat)
 case atStart=>exact⟨0,rfl,by omega,lH (bq7 z0).symm,b7.of⟩
 case round =>
  obtain⟨k,rfl,hk,HF,y,rfl⟩:=hrel
  by_cases h:k<16
  ·have⟨hx0,hx1,hxc⟩:=bN7 (n:=(k:Int)) om om h0 h1
   obtain⟨x,hx⟩:∃ x,bits .xor .i64 (nib k) z0=x:=⟨_,rfl⟩
   rw[hx]at hx0 hx1 hxc
   obtain⟨q,hq⟩:∃ q,av5 x=q:=⟨_,rfl⟩
   have hq9:=be7 x
   rw[hq]at hq9
   have HST:=lH (show al2 z0=if q≤1 then((k:Int),q)else ar4 z0 (16 - (k+1)) ((k+1:Nat):Int)by rw[← HF.out,show 16 - k=16 - (k+1)+1 by omega,ar4,bR5,hx,hq];rfl)
   clear HF
   cases c1:decide (q≤1)
   ·have HV:=lH (show al2 z0=ar4 z0 (16 - (k+1)) ((k+1:Nat):Int)by rw[HST.out,if_neg (of_decide_eq_false c1)])
    go_wp2_with (first|(go_at_call 343;refine gm (aA9 om om) ?_;intro y9)|(go_at_call 348;refine gm (aL7 hx0 hx1) ?_;intro y8))
    go_roundw
    case rel=>exact⟨k+1,by go_num,by omega,lH HV.out.symm,b7.of⟩
    case measure=>simp[intOf];omega
   ·have HV:=lH (show al2 z0=((k:Int),q)by rw[HST.out,if_pos (of_decide_eq_true c1)])
    go_wp2_with (first|(go_at_call 343;refine gm (aA9 om om) ?_;intro y9)|(go_at_call 348;refine gm (aL7 hx0 hx1) ?_;intro y8))
    refine bodyPost_ret (v:=.tuple #[I k,I q]) ?_ rfl (b5.mk (by rw[HV.out]))
    simp[results,Tryz.results328,go_sem]
  ·obtain rfl:k=16:=by omega
   have HV:=lH (show al2 z0=(-1,2)from HF.out.symm)
   go_wp2_with (fail)
   refine bodyPost_ret (v:=.tuple #[I (-1),I 2]) ?_ rfl (b5.mk (by rw[HV.out]))
   simp[results,Tryz.results328,go_sem]
theorem ba9{s:ByteArray}(hm:s.size≤100000000):Calls Tryz.prog 267 #[.string s] w (aZ4 w (an8 s)):=by
 have hlen:=M7 s
 obtain⟨N,hN⟩:∃ N,s.size=N:=⟨_,rfl⟩
 rw[hN]at hlen hm
 have HN:=lH hN
 by_cases h2:N % 2=0
 ·have c1:((N:Int) % 2 != 0)=false:=by simp;omega
  cases c2:decide (400<(N:Int))
  ·have HV:=lH (show an8 s=at8 [] (s5 s)by rw[an8,if_neg (by have:=of_decide_eq_false c2;omega)])
   have hN4:N≤400:=by have:=of_decide_eq_false c2;omega
   have HN2:=lH h2
   have hmk:=bu9 (P:=Tryz.prog) (t:=258) (e:=5) Tryz.underlying258 kr (l:=0) (c:=N / 2) (a:=0) (b:=(N:Int) / 2) om om rfl om
   clear h2
   go_enter Tryz.func267,Tryz.ntmps267
   go_wp2_with (fail)
   go_loopw [5,6,7] (fun a u v wr=>∃ (k q:Nat) (m:Int) (L:List Int) (sa:Option Addr) (sc:Nat),a=.slice sa q sc∧u=I m∧v=I k∧k≤N∧Hid (k=2*q)∧L.length=q∧Hid (at8 L ((s5 s).drop k)=at8 [] (s5 s))∧Hid (q=0→sa=some ⟨w.heap.size,0,none⟩)∧Hid (Own Y1 5 1 w.heap.size wr sa sc L)∧∃ x:b7 w,wr=x.w) (fun _ _ v _=>(N - intOf v).toNat)
   case atStart=>exact⟨0,0,0,[],_,_,rfl,rfl,rfl,by omega,rfl,rfl,rfl,fun _=>rfl,lH (Own.room (W:=w) (T:=5) (c:=N / 2) om (b7.here _)),b7.of⟩
   case round =>
    obtain⟨k,q,m,L,sa,sc,rfl,rfl,rfl,hk,hq,hL,HL,h00,hO,y0,rfl⟩:=hrel
    by_cases h:k<N
    ·have h1:k+1<N:=by have:=hq.out;have:=HN2.out;omega
     have hks:k<s.size:=by have:=HN.out;omega
     have hks1:k+1<s.size:=by have:=HN.out;omega
     obtain⟨hb1,hd⟩:=ab4 hks
     obtain⟨hc1,hd1⟩:=ab4 hks1
     obtain⟨b,hb⟩:∃ b:Int,((s[k]'hks).toNat:Int)=b:=⟨_,rfl⟩
     obtain⟨c,hc⟩:∃ c:Int,((s[k+1]'hks1).toNat:Int)=c:=⟨_,rfl⟩
     have hb0:0≤b:=by omega
     have hc0:0≤c:=by omega
     rw[hb]at hb1 hd
     rw[hc]at hc1 hd1
     have⟨p0,p1,p2,p3⟩:=aZ5 b
     have⟨r0,r1,r2,r3⟩:=aZ5 c
     obtain⟨x,hx⟩:∃ x,(al2 b).1=x:=⟨_,rfl⟩
     obtain⟨x2,hx2⟩:∃ x,(al2 b).2=x:=⟨_,rfl⟩
     obtain⟨z,hz⟩:∃ x,(al2 c).1=x:=⟨_,rfl⟩
     obtain⟨z2,hz2⟩:∃ x,(al2 c).2=x:=⟨_,rfl⟩
     have HST:=lH (show at8 L ((s5 s).drop k)=if x<0∨z<0 then none else at8 (L++[16*x+z]) ((s5 s).drop (k+2))by rw[hd,hd1,at8,hx,hz])
     rw[hx]at p0 p1
     rw[hx2]at p2 p3
     rw[hz]at r0 r1
     rw[hz2]at r2 r3
     clear hd hd1
     have hjj:(0:Int)≤(k:Int)+1:=by omega
     have hjt:((k:Int)+1).toNat=k+1:=by omega
     have hjl:(k:Int)+1<(N:Int):=by omega
     go_wp2_with (fail)
     (try simp only[hb])
     refine gm (aA8 hb0 hb1) ?_
     intro y8
     (try simp only[hx,hx2])
     go_wp2_with (fail)
     (try simp only[hc])
     refine gm (aA8 hc0 hc1) ?_
     intro y9
     (try simp only[hz,hz2])
     go_upto_region 10 with(fail)
     cases c3:decide (x<0)
     ·cases c4:decide (z<0)
      ·have HF:=lH (show at8 (L++[16*x+z]) ((s5 s).drop (k+2))=at8 [] (s5 s)by rw[← HL.out,HST.out,if_neg (by have h3:=of_decide_eq_false c3;have h4:=of_decide_eq_false c4;omega)])
       have hx0:0≤x:=by have:=of_decide_eq_false c3;omega
       have hz0:0≤z:=by have:=of_decide_eq_false c4;omega
       have hw8:IntKind.u8.wrap (16*x+z)=16*x+z:=bU9 om om
       have hqb:q≤400:=by have:=hq.out;omega
       go_wp2_with (first|((at_builtin;refine ak7 (enc:=Y1) (w0:=w) (B:=w.heap.size) (z:=.int .u8 0) (size:=1) (bytes:=1) (16*x+z) rfl (.tmp 54) (.tmp 60) rfl Tryz.underlying258 kr rfl de de rfl rfl hL (Own.to hO.out ii) bk rfl (am7 _) om LeN.out ii LeN.out ?_;intro sa1 sc1 x1 hown1 hgr1);have HO6:=lH hown1;clear hown1 hgr1))
       go_roundw
       case rel=>exact⟨k+2,q+1,_,L++[16*x+z],sa1,sc1,rfl,rfl,by go_num,by omega,(by have:=hq.out;show _=_;omega),by simp[hL],HF,lH fun e=>by omega,HO6,b7.of⟩
       case measure=>simp[intOf];omega
      ·have HV:=lH (show an8 s=none by rw[HV.out,← HL.out,HST.out,if_pos (.inr (of_decide_eq_true c4))])
       go_wp2_with (fail)
       refine bodyPost_ret (v:=.tuple #[.string ⟨#[]⟩,I 0,.bool false]) ?_ rfl (⟨0,by rw[HV.out];rfl,b7.of⟩)
       simp[results,Tryz.results267,go_sem]
     ·have HV:=lH (show an8 s=none by rw[HV.out,← HL.out,HST.out,if_pos (.inl (of_decide_eq_true c3))])
      go_wp2_with (fail)
      refine bodyPost_ret (v:=.tuple #[.string ⟨#[]⟩,I 0,.bool false]) ?_ rfl (⟨0,by rw[HV.out];rfl,b7.of⟩)
      simp[results,Tryz.results267,go_sem]
    ·obtain rfl:k=N:=by omega
     have hcv:∀ (W':World) [b8 y0.w W'],(convert 258 9 (.slice sa q sc)).run Tryz.prog W'=.ok (.string (strOfNums L)) W':=by
      by_cases hq0:q=0
      ·intro W' _
       rw[h00.out hq0]
       exact run_convert_bytes_arg W' 258 5 Tryz.underlying258 Tryz.underlying5 w.heap.size 0 q sc L hL (fun i hi=>by omega) 9 Tryz.underlying9
      ·exact at7 (P:=Tryz.prog) (c:=sc) Tryz.underlying258 Tryz.underlying5 Tryz.underlying9 hO.out.sl hL om
     have hcv1:=hcv y0.w
     clear hcv
     have HV2:=lH (show an8 s=some L by rw[HV.out,← HL.out,List.drop_of_length_le om];rfl)
     go_wp2_with (fail)
     refine bodyPost_ret (v:=.tuple #[.string (strOfNums L),I m,.bool true]) ?_ rfl (⟨m,by rw[HV2.out];rfl,b7.of⟩)
     simp[results,Tryz.results267,go_sem]
  ·have HV:=lH (show an8 s=none by rw[an8,if_pos (.inr (by have:=of_decide_eq_true c2;omega))])
   go_enter Tryz.func267,Tryz.ntmps267
   go_wp2_with (fail)
   refine bodyPost_ret (v:=.tuple #[.string ⟨#[]⟩,I 0,.bool false]) ?_ rfl (⟨0,by rw[HV.out];rfl,b7.of⟩)
   simp[results,Tryz.results267,go_sem]
 ·have HV:=lH (show an8 s=none by rw[an8,if_pos (.inl om)])
  have c1:((N:Int) % 2 != 0)=true:=by simp;omega
  go_enter Tryz.func267,Tryz.ntmps267
  go_wp2_with (fail)
  refine bodyPost_ret (v:=.tuple #[.string ⟨#[]⟩,I 0,.bool false]) ?_ rfl (⟨0,by rw[HV.out];rfl,b7.of⟩)
  simp[results,Tryz.results267,go_sem]
