/- What the laws on missions share. No condition but on sizes. -/
import Derived.Test.YtdoilejecjaldaaGreatHM15
import Derived.Test.YtdoilejecjaldaaGreatHDM7
import Derived.Test.YtdoilejecjaldaaGreatHM6
import Derived.Test.YtdoilejecjaldaaGreatHM0
import Derived.Test.YtdoilejecjaldaaGreatHLnk0
import Derived.Deep.CutRange
import Derived.Test.YtdoilejecjaldaaGreatHOkL
import Derived.Test.YtdoilejecjaldaaGreatHFileO
import Derived.Test.YtdoilejecjaldaaGreatHSlots2
import Derived.Laws.ByValue
namespace Go.Proofs.YtdoilejecjaldaaGreat
set_option maxRecDepth 100000
set_option maxHeartbeats 4000000
set_option linter.unusedVariables false
open Go.ChangeShapes Go.WideShapes Go.ChangeAt Go.RowKit
theorem bQ2{m:f5}{N:Int}(ht:Enc.tot m≤N):d7 m.Took≤N∧d7 m.Offered≤N∧Enc.tot m.Ground≤N∧Enc.tot m.Space≤N∧d7 m.Plan≤N∧d7 m.Ups≤N∧d7 m.Downs≤N:=by
 have h:d7 m.Plan+d7 m.Ups+d7 m.Downs+Enc.tot m.Ground+Enc.tot m.Space+d7 m.Offered+d7 m.Took≤N:=ht
 have h1:=b7 m.Plan;have h2:=b7 m.Ups;have h3:=b7 m.Downs;have h4:=Enc.tot_nonneg m.Ground;have h5:=Enc.tot_nonneg m.Space;have h6:=b7 m.Offered;have h7:=b7 m.Took
 omega
theorem al8{B:Nat}{w:World}{vs:List Value}{m:f5}(h:Enc.Rd B w vs m):vs.all (·.oneCell')=true:=by
 obtain⟨A,h,-⟩:=h
 rw[h];rfl
theorem aF9{x:Int}{w:World}(h0:0≤x)(h1:x≤255):Calls Tryz.prog 274 #[.int .u64 x] w (b4 w (.int .i64 (at9 x))):=by
 obtain⟨k,rfl⟩:∃ k:Fin 256,x=(k.1:Int):=⟨⟨x.toNat,by omega⟩,by simp;omega⟩
 go_enter Tryz.func274,Tryz.ntmps274
 go_wp2_with (fail)
 go_ret
 refine b4.mk (congrArg (Value.int .i64) ?_)
 clear h0 h1
 revert k
 decide +kernel
theorem br9{x:Int}{w:World}(h0:0≤x)(h1:x≤255):Calls Tryz.prog 275 #[.int .u64 x] w (b4 w (.int .i64 (at9 x))):=by
 go_enter Tryz.func275,Tryz.ntmps275
 go_wp2_with (first|(go_at_call 274;refine gm (aF9 (by omega) (by omega)) ?_;intro x))
 go_ret
 exact b4.mk rfl
theorem aA1{n:Int}{w:World}(h0:0≤n)(h1:n≤15):Calls Tryz.prog 271 #[.int .i64 n] w (b4 w (.int .i64 (nib n))):=by
 have h:n=0∨n=1∨n=2∨n=3∨n=4∨n=5∨n=6∨n=7∨n=8∨n=9∨n=10∨n=11∨n=12∨n=13∨n=14∨n=15:=by omega
 clear h0 h1
 rcases h with rfl|rfl|rfl|rfl|rfl|rfl|rfl|rfl|rfl|rfl|rfl|rfl|rfl|rfl|rfl|rfl
 all_goals
  go_enter Tryz.func271,Tryz.ntmps271
  go_wp2_with (first|(go_at_call 275;refine gm (br9 (of_decide_eq_true kr) (of_decide_eq_true kr)) ?_;intro x))
  go_ret
  exact b4.mk kr
theorem bs5{s:ByteArray}{w:World}(hm:s.size≤400):Calls Tryz.prog 213 #[.string s] w (b4 w (.string (strOfNums (scr 255 (j4 s))))):=by
 have hlen:=J6 s
 obtain⟨n,hn⟩:∃ n,s.size=n:=⟨_,rfl⟩
 have hln:(j4 s).length=n:=by omega
 have hto:=fun w:World=>run_bytes_of_string (P:=Tryz.prog) w 9 289 5 s Tryz.underlying9 Tryz.underlying289 Tryz.underlying5
 go_enter Tryz.func213,Tryz.ntmps213
 go_upto_region 4 with(fail)
 generalize grownCap w n 0 5=gc
 clear hto
 (try rw[hn])
 go_loopw [4,10] (fun u v wr=>∃ (k:Nat) (x:Int) (D:List Int),v=.int .i64 k∧u=.int .i64 x∧0≤x∧x≤255∧k≤n∧D.length=n∧Hid (D.take k++scr x (D.drop k)=scr 255 (j4 s))∧Hid (ap6 wr w.heap.size D)∧∃ y:b5 w,wr=y.w) (fun _ v _=>(n - intOf v).toNat)
 case atStart=>exact⟨0,255,j4 s,rfl,rfl,by omega,by omega,by omega,hln,rfl,lH ap6.conv,b5.of⟩
 case round =>
  obtain⟨k,x,D,rfl,rfl,hx0,hx1,hk,hDn,HF,HD,y,rfl⟩:=hrel
  by_cases hkn:k<n
  ·obtain⟨d,hd9⟩:∃ d,D.getD k 0=d:=⟨_,rfl⟩
   have Hd:=lH hd9
   have hcell:∀ (W:World) [d5 y.w W],W.cell? ⟨w.heap.size,k,none⟩=some (.int .u8 d):=fun W g=>by rw[← Hd.out];exact((HD.out.to g).at (by omega)).1
   clear hd9
   have HX:=lH (bS9 hx0 hx1)
   have⟨hl0,hl1⟩:=bH4 hx0
   go_wp2_with (first|(refine aQ6 rfl _ (.tmp 20) (.tmp 19) rfl w.heap.size k rfl (L2:=D.set k (br5 (D.getD k 0) x)) (HD.out.to ii) (v:=br5 d x) kr kr (by omega) (by rw[Hd.out]) (w0:=w) ii nl ?_;intro z hz;have HZ:=lH hz;clear hz hcell))
   go_roundw
   case rel=>exact⟨k+1,bh1 x,D.set k (br5 (D.getD k 0) x),by go_num,by rw[← HX.out],hl0,hl1,by omega,by simp[hDn],lH (bO5 HF.out (by omega)),HZ,b5.of⟩
   case measure=>simp[intOf];omega
  ·obtain rfl:n=k:=by omega
   have hcv:=HD.out.str (P:=Tryz.prog) (c:=gc) hDn Tryz.underlying289 Tryz.underlying5 Tryz.underlying9
   have hcv1:=hcv y.w
   clear hcv
   have HF2:=lH (show D=scr 255 (j4 s)by have:=HF.out;rw[List.take_of_length_le (by omega),List.drop_of_length_le (by omega)]at this;simpa[scr]using this)
   go_wp2_with (fail)
   go_ret
   exact b4.mk (by rw[HF2.out];rfl)
theorem ax5{z0:Int}{w:World}(h0:0≤z0)(h1:z0≤255):Calls Tryz.prog 265 #[.int .i64 z0] w (b4 w (.int .i64 (at9 z0))):=by
 have c0:inB z0 0 4294967295=true:=D6.2 (by omega)
 go_enter Tryz.func265,Tryz.ntmps265
 go_wp2_with (first|(go_at_call 73;refine gm (d8) ?_;intro x))
 go_loopw [0,3] (fun u v wr=>∃ (m n:Int),u=.int .i64 m∧v=.int .i64 n∧0≤m∧m≤255∧0≤n∧n+at9 m=at9 z0∧∃ y:b5 w,wr=y.w) (fun u _ _=>(intOf u).toNat)
 case atStart=>exact⟨z0,0,rfl,rfl,h0,h1,by omega,by omega,b5.of⟩
 case round =>
  obtain⟨m,n,rfl,rfl,hm0,hm1,hn,he,y,rfl⟩:=hrel
  have hh:=bL6 hm0 hm1
  have HA:=lH (bN2 hm0 hm1)
  have hb:at9 m≤8∧0≤at9 m:=by unfold at9;omega
  have hx:at9 z0≤8:=by unfold at9;omega
  have hn8:n≤8:=by omega
  have HE:=lH he
  have HH:=lH hh
  clear he hh
  by_cases h:0<m
  ·go_wp2_with (fail)
   go_roundw
   case rel=>exact⟨m / 2,n+m % 2,by go_num,by rw[HA.out,w64 (n:=n+m % 2) (by omega) (by omega)],by omega,by omega,by omega,by have:=HE.out;have:=HH.out;omega,b5.of⟩
   case measure=>simp[intOf];omega
  ·obtain rfl:m=0:=by omega
   have h8:at9 0=0:=rfl
   go_wp2_with (fail)
   go_ret
   exact b4.mk (congrArg (Value.int .i64) (show n=at9 z0 by have:=HE.out;omega))
theorem aA4{n:Int}{w:World}(h0:0≤n)(h1:n≤15):Calls Tryz.prog 266 #[.int .i64 n] w (b4 w (.int .i64 (nib n))):=by
 have h:n=0∨n=1∨n=2∨n=3∨n=4∨n=5∨n=6∨n=7∨n=8∨n=9∨n=10∨n=11∨n=12∨n=13∨n=14∨n=15:=by omega
 clear h0 h1
 rcases h with rfl|rfl|rfl|rfl|rfl|rfl|rfl|rfl|rfl|rfl|rfl|rfl|rfl|rfl|rfl|rfl
 all_goals
  go_enter Tryz.func266,Tryz.ntmps266
  go_wp2_with (first|(go_at_call 73;refine gm (d8) ?_;intro x)|(go_at_call 265;refine gm (ax5 (of_decide_eq_true kr) (of_decide_eq_true kr)) ?_;intro x))
  go_ret
  exact b4.mk kr
theorem bt2{s:ByteArray}{w:World}(hm:s.size≤400):Calls Tryz.prog 179 #[.string s] w (b4 w (.string (strOfNums (scr 255 (j4 s))))):=by
 have hlen:=J6 s
 obtain⟨n,hn⟩:∃ n,s.size=n:=⟨_,rfl⟩
 have hln:(j4 s).length=n:=by omega
 go_enter Tryz.func179,Tryz.ntmps179
 go_wp2_with (fail)
 go_loopw [3,4,5] (fun a u v wr=>∃ (k:Nat) (x:Int) (L:List Int) (sa:Option Addr) (sc:Nat),a=.slice sa k sc∧v=.int .i64 k∧u=.int .i64 x∧0≤x∧x≤255∧k≤n∧L.length=k∧Hid (L++scr x ((j4 s).drop k)=scr 255 (j4 s))∧Hid (k=0→sa=some ⟨w.heap.size,0,none⟩)∧Hid (Own V7 5 1 w.heap.size wr sa sc L)∧∃ y:b5 w,wr=y.w) (fun _ _ v _=>(n - intOf v).toNat)
 case atStart=>exact⟨0,255,[],_,_,rfl,rfl,rfl,by omega,by omega,by omega,rfl,rfl,fun _=>rfl,Own.empty0 al2 nl,b5.of⟩
 case round =>
  obtain⟨k,x,L,sa,sc,rfl,rfl,rfl,hx0,hx1,hk,hL,HF,h00,hO,y,rfl⟩:=hrel
  by_cases hkn:k<n
  ·have hks:k<s.size:=by omega
   obtain⟨hb1,hdr⟩:=W8 hks
   obtain⟨b,hb⟩:∃ b:Int,((s[k]'hks).toNat:Int)=b:=⟨_,rfl⟩
   have hb0:0≤b:=by omega
   rw[hb]at hb1 hdr
   have HB:=lH hdr
   clear hdr
   have HX:=lH (bT0 hx0 hx1)
   have⟨hl0,hl1⟩:=bH4 hx0
   have hw8:IntKind.u8.wrap x=x:=bP3 hx0 hx1
   go_upto_region 6 with(fail)
   (try simp only[hb])
   go_wp2_with (first|((at_builtin;refine V0 (enc:=V7) (w0:=w) (B:=w.heap.size) (z:=.int .u8 0) (size:=1) (bytes:=1) (br5 b x) rfl (.tmp 13) (.tmp 20) rfl Tryz.underlying289 kr rfl (by decide) (by decide) rfl rfl hL (Own.to hO.out ii) bk rfl (aa9 _) (by omega) LeN.out ii LeN.out ?_;intro sa1 sc1 x1 hown1 hgr1);have HO6:=lH hown1;clear hown1 hgr1))
   go_roundw
   case rel=>exact⟨k+1,bh1 x,L++[br5 b x],sa1,sc1,rfl,by go_num,by rw[← HX.out],hl0,hl1,by omega,by simp[hL],lH (bQ7 HF.out HB.out),lH (fun e=>by omega),HO6,b5.of⟩
   case measure=>simp[intOf];omega
  ·obtain rfl:n=k:=by omega
   have hq:L.length=n:=hL
   have hcv:∀ (W':World) [d5 y.w W'],(convert 289 9 (.slice sa n sc)).run Tryz.prog W'=.ok (.string (strOfNums L)) W':=by
    by_cases hq0:n=0
    ·intro W' _
     rw[h00.out hq0]
     exact run_convert_bytes_arg W' 289 5 Tryz.underlying289 Tryz.underlying5 w.heap.size 0 n sc L hL (fun i hi=>by omega) 9 Tryz.underlying9
    ·exact ap8 (P:=Tryz.prog) (c:=sc) Tryz.underlying289 Tryz.underlying5 Tryz.underlying9 hO.out.sl hL (by omega)
   have hcv1:=hcv y.w
   clear hcv
   have HF2:=lH (show L=scr 255 (j4 s)by have:=HF.out;rw[List.drop_of_length_le (by omega)]at this;simpa[scr]using this)
   go_wp2_with (fail)
   go_ret
   exact b4.mk (by rw[HF2.out];rfl)
def au3(next n:Int)(k:Nat)(x:Z1):Bool:=inB x.Data.size 1 40 && (x.Seq == (next - n+k+256) % 256)
def Z4(next n:Int):Nat→List Z1→Bool
 | _,[]=>true
 | k,x::r=>au3 next n k x && Z4 next n (k+1) r
def Q7(s:R6):Bool:=inB s.Next 0 255 && (inB s.Window 1 20 && (inB s.Done 0 1000000 && (decide ((s.Waiting.length:Int)≤s.Window) && Z4 s.Next s.Waiting.length 0 s.Waiting)))
theorem bw2{B:Nat}{a:Option Addr}{c:Nat}{sD:R6}{w:World}(hs:RdS B w a c sD.Waiting)(hm:sD.Waiting.length≤100000000)(hi:al0 sD) :
  Calls Tryz.prog 202 #[.agg #[.int .i64 sD.Next,.int .i64 sD.Window,.slice a sD.Waiting.length c,.int .i64 sD.Done]] w (b4 w (.bool (Q7 sD))):=by
 obtain⟨n,hn⟩:∃ n,sD.Waiting.length=n:=⟨_,rfl⟩
 have HN:=lH hn
 have HI:=lH hi;clear hi
 have HD:=lH (show Q7 sD=(inB sD.Next 0 255 && (inB sD.Window 1 20 && (inB sD.Done 0 1000000 && (decide ((n:Int)≤sD.Window) && Z4 sD.Next n 0 sD.Waiting))))by rw[Q7,hn])
 rw[hn]at hm ⊢
 clear hn
 cases c0:inB sD.Next 0 255
 ·skip
  go_enter Tryz.func202,Tryz.ntmps202
  go_wp2_with (first|(go_at_call 114;refine gm (d6) ?_;intro x))
  go_ret
  exact b4.mk (by rw[HD.out,c0];rfl)
 cases c1:inB sD.Window 1 20
 ·skip
  go_enter Tryz.func202,Tryz.ntmps202
  go_wp2_with (first|(go_at_call 114;refine gm (d6) ?_;intro x))
  go_ret
  exact b4.mk (by rw[HD.out,c0,c1];rfl)
 cases c2:inB sD.Done 0 1000000
 ·skip
  go_enter Tryz.func202,Tryz.ntmps202
  go_wp2_with (first|(go_at_call 114;refine gm (d6) ?_;intro x))
  go_ret
  exact b4.mk (by rw[HD.out,c0,c1,c2];rfl)
 have⟨hx1,hx2⟩:=D6.1 c0
 have⟨hw1,hw2⟩:=D6.1 c1
 by_cases hnw:(n:Int)≤sD.Window
 ·have kw:decide (sD.Window<(n:Int))=false:=by simp;omega
  have hn20:n≤20:=by omega
  have HD2:=lH (show Q7 sD=Z4 sD.Next n 0 sD.Waiting by rw[HD.out,c0,c1,c2,decide_eq_true hnw];rfl)
  clear HD
  go_enter Tryz.func202,Tryz.ntmps202
  go_wp2_with (first|(go_at_call 114;refine gm (d6) ?_;intro x))
  go_loopw [32] (fun v wr=>∃ k:Nat,v=.int .i64 k∧k≤n∧Hid (Z4 sD.Next n k (sD.Waiting.drop k)=Z4 sD.Next n 0 sD.Waiting)∧∃ X:b5 (w.alloc (.cells #[.int .i64 sD.Next,.int .i64 sD.Window,.slice a n c,.int .i64 sD.Done] 69)),wr=X.w) (fun v _=>(n - intOf v).toNat)
  case atStart=>exact⟨0,rfl,by omega,rfl,b5.of⟩
  case round =>
   obtain⟨k,rfl,hk,HV,X,rfl⟩:=hrel
   by_cases h:k<n
   ·have hkl:k<sD.Waiting.length:=by have:=HN.out;omega
    obtain⟨eb,eoff,ex,rfl,ehb,ehd,eok,eh0,eh1⟩:=hs.atTSent hkl
    have hz:ex.Data.size≤9223372036854775807:=eok.2.1
    have EOK:=lH eok;clear eok hkl
    have EM:(sD.Next - n+k+256) % 256=(sD.Next - n+k) % 256:=Int.add_emod_right ..
    have EH:=lH EM;clear EM
    cases d1:inB ex.Data.size 1 40
    ·have HF:=lH (show Q7 sD=false by have:=HV.out;rw[ehd.out,Z4,au3,d1]at this;rw[HD2.out,← this];rfl)
     cases d2:(ex.Seq == (sD.Next - n+k+256) % 256)
     ·have d3:(ex.Seq != (sD.Next - n+k+256) % 256)=true:=by rw[bne,d2];rfl
      go_wp2_with (first|(go_at_call 114;refine gm (d6) ?_;intro x))
      go_ret
      exact b4.mk (by rw[HF.out];rfl)
     ·have d3:(ex.Seq != (sD.Next - n+k+256) % 256)=false:=by rw[bne,d2];rfl
      have D2:=lH d2;clear d2
      go_wp2_with (first|(go_at_call 114;refine gm (d6) ?_;intro x))
      go_ret
      exact b4.mk (by rw[HF.out];rfl)
    ·cases d2:(ex.Seq == (sD.Next - n+k+256) % 256)
     ·have d3:(ex.Seq != (sD.Next - n+k+256) % 256)=true:=by rw[bne,d2];rfl
      have HF:=lH (show Q7 sD=false by have:=HV.out;rw[ehd.out,Z4,au3,d1,d2]at this;rw[HD2.out,← this];rfl)
      go_wp2_with (first|(go_at_call 114;refine gm (d6) ?_;intro x))
      go_ret
      exact b4.mk (by rw[HF.out];rfl)
     ·have d3:(ex.Seq != (sD.Next - n+k+256) % 256)=false:=by rw[bne,d2];rfl
      have HF:=lH (show Z4 sD.Next n (k+1) (sD.Waiting.drop (k+1))=Z4 sD.Next n 0 sD.Waiting by have:=HV.out;rw[ehd.out,Z4,au3,d1,d2]at this;exact this)
      have D2:=lH d2;clear d2
      go_wp2_with (first|(go_at_call 114;refine gm (d6) ?_;intro x))
      go_roundw
      case rel=>exact⟨k+1,by go_num,by omega,HF,b5.of⟩
      case measure=>simp[intOf];omega
   ·have HF:=lH (show Q7 sD=true by have:=HV.out;rw[List.drop_of_length_le (by have:=HN.out;omega),Z4]at this;rw[HD2.out,← this])
    go_wp2_with fail
    go_ret
    exact b4.mk (by rw[HF.out];rfl)
 ·have kw:decide (sD.Window<(n:Int))=true:=by simp;omega
  have HD2:=lH (show Q7 sD=false by rw[HD.out,c0,c1,c2,decide_eq_false hnw];rfl)
  clear HD
  go_enter Tryz.func202,Tryz.ntmps202
  go_wp2_with (first|(go_at_call 114;refine gm (d6) ?_;intro x))
  go_ret
  exact b4.mk (by rw[HD2.out];rfl)
theorem bw5{B:Nat}{a:Option Addr}{c:Nat}{sD:R6}{w:World}(hs:RdS B w a c sD.Waiting)(hm:sD.Waiting.length≤100000000)(hi:al0 sD) :
  Calls Tryz.prog 169 #[.agg #[.int .i64 sD.Next,.int .i64 sD.Window,.slice a sD.Waiting.length c,.int .i64 sD.Done]] w (b4 w (.bool (Q7 sD))):=by
 obtain⟨n,hn⟩:∃ n,sD.Waiting.length=n:=⟨_,rfl⟩
 have HN:=lH hn
 have HI:=lH hi;clear hi
 have HD:=lH (show Q7 sD=(inB sD.Next 0 255 && (inB sD.Window 1 20 && (inB sD.Done 0 1000000 && (decide ((n:Int)≤sD.Window) && Z4 sD.Next n 0 sD.Waiting))))by rw[Q7,hn])
 rw[hn]at hm ⊢
 clear hn
 cases c0:inB sD.Next 0 255
 ·skip
  go_enter Tryz.func169,Tryz.ntmps169
  go_wp2_with (first|(go_at_call 73;refine gm (d8) ?_;intro x))
  go_ret
  exact b4.mk (by rw[HD.out,c0];rfl)
 cases c1:inB sD.Window 1 20
 ·skip
  go_enter Tryz.func169,Tryz.ntmps169
  go_wp2_with (first|(go_at_call 73;refine gm (d8) ?_;intro x))
  go_ret
  exact b4.mk (by rw[HD.out,c0,c1];rfl)
 cases c2:inB sD.Done 0 1000000
 ·skip
  go_enter Tryz.func169,Tryz.ntmps169
  go_wp2_with (first|(go_at_call 73;refine gm (d8) ?_;intro x))
  go_ret
  exact b4.mk (by rw[HD.out,c0,c1,c2];rfl)
 have⟨hx1,hx2⟩:=D6.1 c0
 have⟨hw1,hw2⟩:=D6.1 c1
 by_cases hnw:(n:Int)≤sD.Window
 ·have kw:decide (sD.Window<(n:Int))=false:=by simp;omega
  have hn20:n≤20:=by omega
  have HD2:=lH (show Q7 sD=Z4 sD.Next n 0 sD.Waiting by rw[HD.out,c0,c1,c2,decide_eq_true hnw];rfl)
  clear HD
  go_enter Tryz.func169,Tryz.ntmps169
  go_wp2_with (first|(go_at_call 73;refine gm (d8) ?_;intro x))
  go_loopw [4] (fun v wr=>∃ k:Nat,v=.int .i64 k∧k≤n∧Hid (Z4 sD.Next n k (sD.Waiting.drop k)=Z4 sD.Next n 0 sD.Waiting)∧∃ X:b5 (w.alloc (.cells #[.int .i64 sD.Next,.int .i64 sD.Window,.slice a n c,.int .i64 sD.Done] 69)),wr=X.w) (fun v _=>(n - intOf v).toNat)
  case atStart=>exact⟨0,rfl,by omega,rfl,b5.of⟩
  case round =>
   obtain⟨k,rfl,hk,HV,X,rfl⟩:=hrel
   by_cases h:k<n
   ·have hkl:k<sD.Waiting.length:=by have:=HN.out;omega
    obtain⟨eb,eoff,ex,rfl,ehb,ehd,eok,eh0,eh1⟩:=hs.atTSent hkl
    have hz:ex.Data.size≤9223372036854775807:=eok.2.1
    have EOK:=lH eok;clear eok hkl
    have EM:(sD.Next - n+k+256) % 256=(sD.Next - n+k) % 256:=Int.add_emod_right ..
    have EH:=lH EM;clear EM
    cases d1:inB ex.Data.size 1 40
    ·have HF:=lH (show Q7 sD=false by have:=HV.out;rw[ehd.out,Z4,au3,d1]at this;rw[HD2.out,← this];rfl)
     cases d2:(ex.Seq == (sD.Next - n+k) % 256)
     ·have d3:(ex.Seq != (sD.Next - n+k) % 256)=true:=by rw[bne,d2];rfl
      go_wp2_with (first|(go_at_call 73;refine gm (d8) ?_;intro x))
      go_ret
      exact b4.mk (by rw[HF.out];rfl)
     ·have d3:(ex.Seq != (sD.Next - n+k) % 256)=false:=by rw[bne,d2];rfl
      have D2:=lH d2;clear d2
      go_wp2_with (first|(go_at_call 73;refine gm (d8) ?_;intro x))
      go_ret
      exact b4.mk (by rw[HF.out];rfl)
    ·cases d2:(ex.Seq == (sD.Next - n+k) % 256)
     ·have d3:(ex.Seq != (sD.Next - n+k) % 256)=true:=by rw[bne,d2];rfl
      have HF:=lH (show Q7 sD=false by have:=HV.out;rw[ehd.out,Z4,au3,EH.out,d1,d2]at this;rw[HD2.out,← this];rfl)
      go_wp2_with (first|(go_at_call 73;refine gm (d8) ?_;intro x))
      go_ret
      exact b4.mk (by rw[HF.out];rfl)
     ·have d3:(ex.Seq != (sD.Next - n+k) % 256)=false:=by rw[bne,d2];rfl
      have HF:=lH (show Z4 sD.Next n (k+1) (sD.Waiting.drop (k+1))=Z4 sD.Next n 0 sD.Waiting by have:=HV.out;rw[ehd.out,Z4,au3,EH.out,d1,d2]at this;exact this)
      have D2:=lH d2;clear d2
      go_wp2_with (first|(go_at_call 73;refine gm (d8) ?_;intro x))
      go_roundw
      case rel=>exact⟨k+1,by go_num,by omega,HF,b5.of⟩
      case measure=>simp[intOf];omega
   ·have HF:=lH (show Q7 sD=true by have:=HV.out;rw[List.drop_of_length_le (by have:=HN.out;omega),Z4]at this;rw[HD2.out,← this])
    go_wp2_with fail
    go_ret
    exact b4.mk (by rw[HF.out];rfl)
 ·have kw:decide (sD.Window<(n:Int))=true:=by simp;omega
  have HD2:=lH (show Q7 sD=false by rw[HD.out,c0,c1,c2,decide_eq_false hnw];rfl)
  clear HD
  go_enter Tryz.func169,Tryz.ntmps169
  go_wp2_with (first|(go_at_call 73;refine gm (d8) ?_;intro x))
  go_ret
  exact b4.mk (by rw[HD2.out];rfl)
def J4{α:Type}(good:α→Bool)(key:α→Int):Option α→List α→Bool
 | _,[]=>true
 | none,s::r=>good s && J4 good key (some s) r
 | some q,s::r=>good s && (decide (key q<key s) && J4 good key (some s) r)
def N9{α:Type}(l:List α)(k:Nat):Option α:=if k=0 then none else l[k - 1]?
theorem R7{α:Type}{l r:List α}{k:Nat}{s:α}(h:l.drop k=s::r):N9 l (k+1)=some s:=by
 have h0:(l.drop k)[0]?=some s:=by rw[h];rfl
 rw[List.getElem?_drop]at h0
 simpa[N9]using h0
def N3(n:Nat)(s:Int):Bool:=inB s 0 (n - 1)
def ai1(p:R5):Bool:=inB p.Channel 0 2 && (inB p.Count 0 255 && (decide ((p.Rest.size:Int)≤5000) && J4 (N3 p.Rest.size) (fun s=>s) none p.Starts))
theorem bw1{B:Nat}{a:Option Addr}{c:Nat}{p:R5}{w:World}(hs:RdS B w a c p.Starts)(hm:p.Starts.length≤100000000)(hz:p.Rest.size≤100000000) :
  Calls Tryz.prog 208 #[.agg #[.int .i64 p.Channel,.int .i64 p.Count,.string p.Rest,.slice a p.Starts.length c]] w (b4 w (.bool (ai1 p))):=by
 obtain⟨n,hn⟩:∃ n,p.Starts.length=n:=⟨_,rfl⟩
 have HN:=lH hn
 have HD:=lH (show ai1 p=(inB p.Channel 0 2 && (inB p.Count 0 255 && (decide ((p.Rest.size:Int)≤5000) && J4 (N3 p.Rest.size) (fun s=>s) none p.Starts)))from rfl)
 rw[hn]at hm ⊢
 clear hn
 have hz9:p.Rest.size≤9223372036854775807:=by omega
 cases c0:inB p.Channel 0 2
 ·go_enter Tryz.func208,Tryz.ntmps208
  go_wp2_with (first|(go_at_call 114;refine gm (d6) ?_;intro x))
  go_ret
  exact b4.mk (by rw[HD.out,c0];rfl)
 cases c1:inB p.Count 0 255
 ·go_enter Tryz.func208,Tryz.ntmps208
  go_wp2_with (first|(go_at_call 114;refine gm (d6) ?_;intro x))
  go_ret
  exact b4.mk (by rw[HD.out,c0,c1];rfl)
 by_cases hr:p.Rest.size≤5000
 ·have kr:decide (5000<(p.Rest.size:Int))=false:=by simp;omega
  have hd3:decide ((p.Rest.size:Int)≤5000)=true:=by simp;omega
  have HD2:=lH hd3;clear hd3
  have HC:=lH (And.intro c0 c1)
  go_enter Tryz.func208,Tryz.ntmps208
  go_wp2_with (first|(go_at_call 114;refine gm (d6) ?_;intro x))
  clear c0 c1
  go_loopw [24] (fun v wr=>∃ k:Nat,v=.int .i64 k∧k≤n∧Hid (J4 (N3 p.Rest.size) (fun s=>s) (N9 p.Starts k) (p.Starts.drop k)=J4 (N3 p.Rest.size) (fun s=>s) none p.Starts)∧∃ X:b5 (w.alloc (.cells #[.int .i64 p.Channel,.int .i64 p.Count,.string p.Rest,.slice a n c] 85)),wr=X.w) (fun v _=>(n - intOf v).toNat)
  case atStart=>exact⟨0,rfl,by omega,rfl,b5.of⟩
  case round =>
   obtain⟨k,rfl,hk,HV,X,rfl⟩:=hrel
   by_cases h:k<n
   ·have hkl:k<p.Starts.length:=by have:=HN.out;omega
    obtain⟨eb,eoff,es,rfl,ehb,ehd,eok,eh0⟩:=hs.atInt hkl
    have EOK:=lH eok;clear eok hkl
    cases d1:inB es 0 (p.Rest.size - 1)
    ·have HF:=lH (show J4 (N3 p.Rest.size) (fun s=>s) none p.Starts=false by have:=HV.out;rw[ehd.out]at this;rw[← this];cases N9 p.Starts k<;>simp[J4,N3,d1])
     go_wp2_with (first|(go_at_call 114;refine gm (d6) ?_;intro x))
     go_ret
     exact b4.mk (by rw[HD.out,HF.out];simp)
    ·by_cases hz0:k=0
     ·have HF:=lH (show J4 (N3 p.Rest.size) (fun s=>s) (N9 p.Starts (k+1)) (p.Starts.drop (k+1))=J4 (N3 p.Rest.size) (fun s=>s) none p.Starts by have:=HV.out;rw[ehd.out,hz0]at this;rw[R7 ehd.out,← this];simp[J4,N9,N3,d1,hz0])
      have hz':decide (0<(k:Int))=false:=by simp;omega
      have hz2:decide (0<k)=false:=by simp;omega
      clear hz0
      go_wp2_with (first|(go_at_call 114;refine gm (d6) ?_;intro x))
      go_roundw
      case rel=>exact⟨k+1,by go_num,by omega,HF,b5.of⟩
      case measure=>simp[intOf];omega
     ·obtain⟨fb,foff,fs,hbo,fhb,fhd,fok,fh0⟩:=hs.atInt (show k - 1<p.Starts.length by have:=HN.out;omega)
      simp only[Option.some.injEq,Addr.mk.injEq,and_true]at hbo
      obtain⟨rfl,rfl⟩:=hbo
      have FOK:=lH fok;clear fok
      have hz':decide (0<(k:Int))=true:=by simp;omega
      have hz2:decide (0<k)=true:=by simp;omega
      have hp:N9 p.Starts k=some fs:=by have:=R7 fhd.out;rwa[show k - 1+1=k from by omega]at this
      have HP:=lH hp;clear hp
      cases d2:decide (es≤fs)
      ·have HF:=lH (show J4 (N3 p.Rest.size) (fun s=>s) (N9 p.Starts (k+1)) (p.Starts.drop (k+1))=J4 (N3 p.Rest.size) (fun s=>s) none p.Starts by have:=HV.out;rw[ehd.out,HP.out]at this;rw[R7 ehd.out,← this];have h2:decide (fs<es)=true:=(by simp at d2 ⊢;omega);simp only[J4,N3,d1,h2,Bool.true_and])
       go_wp2_with (first|(go_at_call 114;refine gm (d6) ?_;intro x))
       go_roundw
       case rel=>exact⟨k+1,by go_num,by omega,HF,b5.of⟩
       case measure=>simp[intOf];omega
      ·have HF:=lH (show J4 (N3 p.Rest.size) (fun s=>s) none p.Starts=false by have:=HV.out;rw[ehd.out,HP.out]at this;rw[← this];have h2:decide (fs<es)=false:=(by simp at d2 ⊢;omega);simp only[J4,N3,d1,h2,Bool.true_and,Bool.false_and])
       go_wp2_with (first|(go_at_call 114;refine gm (d6) ?_;intro x))
       go_ret
       exact b4.mk (by rw[HD.out,HF.out];simp)
   ·have HF:=lH (show J4 (N3 p.Rest.size) (fun s=>s) none p.Starts=true by have:=HV.out;rw[List.drop_of_length_le (by have:=HN.out;omega)]at this;rw[← this];cases N9 p.Starts k<;>rfl)
    go_wp2_with fail
    go_ret
    exact b4.mk (by rw[HD.out,HF.out,HD2.out,HC.out.1,HC.out.2];rfl)
 ·have kr:decide (5000<(p.Rest.size:Int))=true:=by simp;omega
  have hd3:decide ((p.Rest.size:Int)≤5000)=false:=by simp;omega
  have HD2:=lH hd3;clear hd3
  go_enter Tryz.func208,Tryz.ntmps208
  go_wp2_with (first|(go_at_call 114;refine gm (d6) ?_;intro x))
  go_ret
  exact b4.mk (by rw[HD.out,HD2.out];simp)
theorem bw4{B:Nat}{a:Option Addr}{c:Nat}{p:R5}{w:World}(hs:RdS B w a c p.Starts)(hm:p.Starts.length≤100000000)(hz:p.Rest.size≤100000000) :
  Calls Tryz.prog 175 #[.agg #[.int .i64 p.Channel,.int .i64 p.Count,.string p.Rest,.slice a p.Starts.length c]] w (b4 w (.bool (ai1 p))):=by
 obtain⟨n,hn⟩:∃ n,p.Starts.length=n:=⟨_,rfl⟩
 have HN:=lH hn
 have HD:=lH (show ai1 p=(inB p.Channel 0 2 && (inB p.Count 0 255 && (decide ((p.Rest.size:Int)≤5000) && J4 (N3 p.Rest.size) (fun s=>s) none p.Starts)))from rfl)
 rw[hn]at hm ⊢
 clear hn
 have hz9:p.Rest.size≤9223372036854775807:=by omega
 go_enter Tryz.func175,Tryz.ntmps175
 go_wp2_with fail
 go_loopw [3] (fun v wr=>∃ k:Nat,v=.int .i64 k∧k≤n∧Hid (J4 (N3 p.Rest.size) (fun s=>s) (N9 p.Starts k) (p.Starts.drop k)=J4 (N3 p.Rest.size) (fun s=>s) none p.Starts)∧∃ X:b5 (w.alloc (.cells #[.int .i64 p.Channel,.int .i64 p.Count,.string p.Rest,.slice a n c] 85)),wr=X.w) (fun v _=>(n - intOf v).toNat)
 case atStart=>exact⟨0,rfl,by omega,rfl,b5.of⟩
 case round =>
  obtain⟨k,rfl,hk,HV,X,rfl⟩:=hrel
  by_cases h:k<n
  ·have hkl:k<p.Starts.length:=by have:=HN.out;omega
   obtain⟨eb,eoff,es,rfl,ehb,ehd,eok,eh0⟩:=hs.atInt hkl
   have EOK:=lH eok;clear eok hkl
   cases d1:inB es 0 (p.Rest.size - 1)
   ·have HF:=lH (show J4 (N3 p.Rest.size) (fun s=>s) none p.Starts=false by have:=HV.out;rw[ehd.out]at this;rw[← this];cases N9 p.Starts k<;>simp[J4,N3,d1])
    go_wp2_with (first|((with_reducible refine rl ?_);(repeat(first|go_big_quiet_step (first|(go_at_call 73;exact b4.quiet (d8)))|simp only[d1]));refine wpQuiet_nil ?_;intro x)|(go_at_call 73;refine gm (d8) ?_;intro x))
    go_ret
    exact b4.mk (by rw[HD.out,HF.out];simp)
   ·by_cases hz0:k=0
    ·have HF:=lH (show J4 (N3 p.Rest.size) (fun s=>s) (N9 p.Starts (k+1)) (p.Starts.drop (k+1))=J4 (N3 p.Rest.size) (fun s=>s) none p.Starts by have:=HV.out;rw[ehd.out,hz0]at this;rw[R7 ehd.out,← this];simp[J4,N9,N3,d1,hz0])
     have hz':decide (0<(k:Int))=false:=by simp;omega
     have hz2:decide (0<k)=false:=by simp;omega
     clear hz0
     go_wp2_with (first|((with_reducible refine rl ?_);(repeat(first|go_big_quiet_step (first|(go_at_call 73;exact b4.quiet (d8)))|simp only[d1]|simp only[hz']|simp only[hz2]));refine wpQuiet_nil ?_;intro x)|(go_at_call 73;refine gm (d8) ?_;intro x))
     go_roundw
     case rel=>exact⟨k+1,by go_num,by omega,HF,b5.of⟩
     case measure=>simp[intOf];omega
    ·obtain⟨fb,foff,fs,hbo,fhb,fhd,fok,fh0⟩:=hs.atInt (show k - 1<p.Starts.length by have:=HN.out;omega)
     simp only[Option.some.injEq,Addr.mk.injEq,and_true]at hbo
     obtain⟨rfl,rfl⟩:=hbo
     have FOK:=lH fok;clear fok
     have hz':decide (0<(k:Int))=true:=by simp;omega
     have hz2:decide (0<k)=true:=by simp;omega
     have hp:N9 p.Starts k=some fs:=by have:=R7 fhd.out;rwa[show k - 1+1=k from by omega]at this
     have HP:=lH hp;clear hp
     cases d2:decide (es≤fs)
     ·have HF:=lH (show J4 (N3 p.Rest.size) (fun s=>s) (N9 p.Starts (k+1)) (p.Starts.drop (k+1))=J4 (N3 p.Rest.size) (fun s=>s) none p.Starts by have:=HV.out;rw[ehd.out,HP.out]at this;rw[R7 ehd.out,← this];have h2:decide (fs<es)=true:=(by simp at d2 ⊢;omega);simp only[J4,N3,d1,h2,Bool.true_and])
      go_wp2_with (first|((with_reducible refine rl ?_);(repeat(first|go_big_quiet_step (first|(go_at_call 73;exact b4.quiet (d8)))|simp only[d1]|simp only[d2]|simp only[hz']|simp only[hz2]));refine wpQuiet_nil ?_;intro x)|(go_at_call 73;refine gm (d8) ?_;intro x))
      go_roundw
      case rel=>exact⟨k+1,by go_num,by omega,HF,b5.of⟩
      case measure=>simp[intOf];omega
     ·have HF:=lH (show J4 (N3 p.Rest.size) (fun s=>s) none p.Starts=false by have:=HV.out;rw[ehd.out,HP.out]at this;rw[← this];have h2:decide (fs<es)=false:=(by simp at d2 ⊢;omega);simp only[J4,N3,d1,h2,Bool.true_and,Bool.false_and])
      go_wp2_with (first|((with_reducible refine rl ?_);(repeat(first|go_big_quiet_step (first|(go_at_call 73;exact b4.quiet (d8)))|simp only[d1]|simp only[d2]|simp only[hz']|simp only[hz2]));refine wpQuiet_nil ?_;intro x)|(go_at_call 73;refine gm (d8) ?_;intro x))
      go_ret
      exact b4.mk (by rw[HD.out,HF.out];simp)
  ·have HF:=lH (show J4 (N3 p.Rest.size) (fun s=>s) none p.Starts=true by have:=HV.out;rw[List.drop_of_length_le (by have:=HN.out;omega)]at this;rw[← this];cases N9 p.Starts k<;>rfl)
   cases c0:inB p.Channel 0 2
   ·go_wp2_with (first|(go_at_call 73;refine gm (d8) ?_;intro x))
    go_ret
    exact b4.mk (by rw[HD.out,c0];rfl)
   cases c1:inB p.Count 0 255
   ·go_wp2_with (first|(go_at_call 73;refine gm (d8) ?_;intro x))
    go_ret
    exact b4.mk (by rw[HD.out,c0,c1];rfl)
   cases kr:decide ((p.Rest.size:Int)≤5000)
   ·go_wp2_with (first|(go_at_call 73;refine gm (d8) ?_;intro x))
    go_ret
    exact b4.mk (by rw[HD.out,c0,c1,kr];rfl)
   ·go_wp2_with (first|(go_at_call 73;refine gm (d8) ?_;intro x))
    go_ret
    exact b4.mk (by rw[HD.out,c0,c1,kr,HF.out];rfl)
theorem RdS.toSlInt{B:Nat}{w:World}{a:Option Addr}{c:Nat}{l:List Int}(h:RdS B w a c l):Sl K0 w a l:=fun i s hx=>by
 obtain⟨b,off,vs,h0,-,h2,h3,h4⟩:=h.2.2.2 i s hx
 exact⟨b,off,h0,h2,fun j v hv=>by
  obtain⟨rfl,-⟩:=h3
  have:=h4 j v hv
  rw[show Enc.size Int=(K0 s).length from rfl]at this
  exact this⟩
def aq5:List B4→Int
 | []=>0
 | s::r=>6+s.Data.size+aq5 r
def L5(r:J0):Bool:=inB r.Room 0 4000 && (decide ((r.Dropped.length:Int)≤65536) && (J4 A3 B4.Id none r.Records && (decide (aq5 r.Records≤r.Room) && N1 0 65535 r.Dropped)))
theorem am9{α:Type}{l r:List α}{s:α}{k:Nat}(h:l.drop k=s::r):s∈l:=by
 have:s∈l.drop k:=by rw[h];simp
 exact List.mem_of_mem_drop this
theorem aI5{s:B4}(h:A3 s=true):s.Data.size≤34:=by
 simp only[A3,Bool.and_eq_true,decide_eq_true_eq]at h;omega
theorem aP2{α:Type}{good:α→Bool}{key:α→Int}:∀ {l:List α} {q:Option α},J4 good key q l=true→l.all good=true
 | [],_,_=>rfl
 | s::r,none,h=>by simp only[J4,Bool.and_eq_true]at h;simp only[List.all_cons,Bool.and_eq_true];exact⟨h.1,aP2 h.2⟩
 | s::r,some q,h=>by simp only[J4,Bool.and_eq_true]at h;simp only[List.all_cons,Bool.and_eq_true];exact⟨h.1,aP2 h.2.2⟩
theorem Y1{s:B4}{w:World}(hz:s.Data.size≤34) :
  Calls Tryz.prog 269 #[.agg #[.int .i64 s.Id,.int .i64 s.Priority,.int .i64 s.Time,.string s.Data]] w (b4 w (.int .i64 (6+(s.Data.size:Int)))):=by
 have hz9:s.Data.size≤9223372036854775807:=by omega
 go_enter Tryz.func269,Tryz.ntmps269
 go_wp2_with fail
 go_ret
 exact b4.mk rfl
theorem ay6{B n:Nat}{a:Option Addr}{c:Nat}{l:List B4}{w0 w:World}(hs0:RdS B w0 a c l:=by exact sd)[g:b8 B w0 w](hn:l.length=n:=by exact sd)(hm:n≤100000000:=by exact sd)(hall:l.all A3=true:=by exact sd) :
  Calls Tryz.prog 264 #[.slice a n c] w (b4 w (.int .i64 (aq5 l))):=by
 have HN:=lH hn
 have HA:=lH hall;clear hall
 have hs:=hs0.to g;clear hs0
 clear hn
 go_enter Tryz.func264,Tryz.ntmps264
 go_wp2_with fail
 go_loopw [3,4] (fun u v wr=>∃ (k:Nat) (m:Int),v=.int .i64 k∧u=.int .i64 m∧k≤n∧0≤m∧m≤40*k∧Hid (m+aq5 (l.drop k)=aq5 l)∧∃ y:b5 w,wr=y.w) (fun _ v _=>(n - intOf v).toNat)
 case atStart=>exact⟨0,0,rfl,rfl,by omega,by omega,by omega,by rw[Hid];simp,b5.of⟩
 case round =>
  obtain⟨k,m,rfl,rfl,hk,hm0,hm1,HV,y,rfl⟩:=hrel
  by_cases h:k<n
  ·have hkl:k<l.length:=by have:=HN.out;omega
   obtain⟨eb,eoff,es,rfl,ehb,ehd,eok,eh0,eh1,eh2,eh3⟩:=hs.atTRecord hkl
   have hz:es.Data.size≤34:=aI5 (List.all_eq_true.1 HA.out es (am9 ehd.out))
   have hz9:es.Data.size≤9223372036854775807:=by omega
   have EOK:=lH eok;clear eok hkl
   have HF:=lH (show m+6+es.Data.size+aq5 (l.drop (k+1))=aq5 l by have:=HV.out;rw[ehd.out,aq5]at this;omega)
   go_wp2_with fail
   go_roundw
   case rel=>exact⟨k+1,m+6+es.Data.size,by go_num,by go_num,by omega,by omega,by omega,HF,b5.of⟩
   case measure=>simp[intOf];omega
  ·have HF:=lH (show m=aq5 l by have:=HV.out;rw[List.drop_of_length_le (by have:=HN.out;omega),aq5]at this;omega)
   go_wp2_with fail
   go_ret
   exact b4.mk (by rw[HF.out];rfl)
theorem bg9{B:Nat}{a a2:Option Addr}{c c2:Nat}{rr:J0}{w:World}(hs:RdS B w a c rr.Records)(hs2:RdS B w a2 c2 rr.Dropped)(hm:rr.Records.length≤100000000)(hm2:rr.Dropped.length≤100000000) :
  Calls Tryz.prog 254 #[.agg #[.int .i64 rr.Room,.slice a rr.Records.length c,.slice a2 rr.Dropped.length c2]] w (b4 w (.bool (L5 rr))):=by
 obtain⟨n,hn⟩:∃ n,rr.Records.length=n:=⟨_,rfl⟩
 obtain⟨nd,hnd⟩:∃ nd,rr.Dropped.length=nd:=⟨_,rfl⟩
 have HN:=lH hn
 have HND:=lH hnd
 have HD:=lH (show L5 rr=(inB rr.Room 0 4000 && (decide ((nd:Int)≤65536) && (J4 A3 B4.Id none rr.Records && (decide (aq5 rr.Records≤rr.Room) && N1 0 65535 rr.Dropped))))by rw[L5,hnd])
 rw[hn]at hm ⊢
 rw[hnd]at hm2 ⊢
 clear hn hnd
 cases c0:inB rr.Room 0 4000
 ·go_enter Tryz.func254,Tryz.ntmps254
  go_wp2_with (first|(go_at_call 114;refine gm (d6) ?_;intro x))
  go_ret
  exact b4.mk (by rw[HD.out,c0];rfl)
 by_cases hr:nd≤65536
 ·have kr:decide (65536<(nd:Int))=false:=by simp;omega
  have hd3:decide ((nd:Int)≤65536)=true:=by simp;omega
  have⟨hro1,hro2⟩:=D6.1 c0
  have HD2:=lH (show L5 rr=(J4 A3 B4.Id none rr.Records && (decide (aq5 rr.Records≤rr.Room) && N1 0 65535 rr.Dropped))by rw[HD.out,c0,hd3];rfl)
  clear HD hd3
  go_enter Tryz.func254,Tryz.ntmps254
  go_wp2_with (first|(go_at_call 114;refine gm (d6) ?_;intro x))
  clear c0 kr
  go_loopw [3,19] (fun u v wr=>∃ (k:Nat) (m:Int),v=.int .i64 k∧k≤n∧Hid (J4 A3 B4.Id (N9 rr.Records k) (rr.Records.drop k)=J4 A3 B4.Id none rr.Records)∧u=.int .i64 m∧0≤m∧m≤40*k∧Hid (m+aq5 (rr.Records.drop k)=aq5 rr.Records)∧∃ X:b5 (w.alloc (.cells #[.int .i64 rr.Room,.slice a n c,.slice a2 nd c2] 82)),wr=X.w) (fun _ v _=>(n - intOf v).toNat)
  case atStart=>exact⟨0,0,rfl,by omega,rfl,rfl,by omega,by omega,by rw[Hid];simp,b5.of⟩
  case round =>
   obtain⟨k,m,rfl,hk,HV,rfl,hm0,hm1,HU,X,rfl⟩:=hrel
   by_cases h:k<n
   ·have hkl:k<rr.Records.length:=by have:=HN.out;omega
    obtain⟨eb,eoff,es,rfl,ehb,ehd,eok,eh0,eh1,eh2,eh3⟩:=hs.atTRecord hkl
    have hx1:es.Data.size≤9223372036854775807:=eok.2.2.2.1
    have EOK:=lH eok;clear eok hkl
    cases d1:A3 es
    ·have HF:=lH (show J4 A3 B4.Id none rr.Records=false by have:=HV.out;rw[ehd.out]at this;rw[← this];cases N9 rr.Records k<;>simp[J4,d1])
     go_wp2_with (first|((with_reducible refine rl ?_);(repeat(first|go_big_quiet_step (first|(go_at_call 251;exact b4.quiet (Y0 (by omega)))|(go_at_call 269;exact b4.quiet (Y1 (by omega))))|simp only[d1]));refine wpQuiet_nil ?_;intro x)|(go_at_call 251;refine gm (Y0 (by omega)) ?_;intro x)|(go_at_call 269;refine gm (Y1 (by omega)) ?_;intro x))
     go_ret
     exact b4.mk (by rw[HD2.out,HF.out];rfl)
    ·have hz34:=aI5 d1
     have HG:=lH (show m+(6+(es.Data.size:Int))+aq5 (rr.Records.drop (k+1))=aq5 rr.Records by have:=HU.out;rw[ehd.out,aq5]at this;omega)
     by_cases hz0:k=0
     ·have HF:=lH (show J4 A3 B4.Id (N9 rr.Records (k+1)) (rr.Records.drop (k+1))=J4 A3 B4.Id none rr.Records by have:=HV.out;rw[ehd.out,hz0]at this;rw[R7 ehd.out,← this];simp[J4,N9,d1,hz0])
      have hz':decide (0<(k:Int))=false:=by simp;omega
      have hz2:decide (0<k)=false:=by simp;omega
      clear hz0
      go_wp2_with (first|((with_reducible refine rl ?_);(repeat(first|go_big_quiet_step (first|(go_at_call 251;exact b4.quiet (Y0 (by omega)))|(go_at_call 269;exact b4.quiet (Y1 (by omega))))|simp only[d1]|simp only[hz']|simp only[hz2]));refine wpQuiet_nil ?_;intro x)|(go_at_call 251;refine gm (Y0 (by omega)) ?_;intro x)|(go_at_call 269;refine gm (Y1 (by omega)) ?_;intro x))
      go_roundw
      case rel=>exact⟨k+1,m+(6+es.Data.size),by go_num,by omega,HF,by go_num,by omega,by omega,HG,b5.of⟩
      case measure=>simp[intOf];omega
     ·obtain⟨fb,foff,fs,hbo,fhb,fhd,fok,fh0,fh1,fh2,fh3⟩:=hs.atTRecord (show k - 1<rr.Records.length by have:=HN.out;omega)
      simp only[Option.some.injEq,Addr.mk.injEq,and_true]at hbo
      obtain⟨rfl,rfl⟩:=hbo
      have FOK:=lH fok;clear fok
      have hz':decide (0<(k:Int))=true:=by simp;omega
      have hz2:decide (0<k)=true:=by simp;omega
      have hp:N9 rr.Records k=some fs:=by have:=R7 fhd.out;rwa[show k - 1+1=k from by omega]at this
      have HP:=lH hp;clear hp
      cases d2:decide (es.Id≤fs.Id)
      ·have HF:=lH (show J4 A3 B4.Id (N9 rr.Records (k+1)) (rr.Records.drop (k+1))=J4 A3 B4.Id none rr.Records by have:=HV.out;rw[ehd.out,HP.out]at this;rw[R7 ehd.out,← this];have h2:decide (fs.Id<es.Id)=true:=(by simp at d2 ⊢;omega);simp only[J4,d1,h2,Bool.true_and])
       go_wp2_with (first|((with_reducible refine rl ?_);(repeat(first|go_big_quiet_step (first|(go_at_call 251;exact b4.quiet (Y0 (by omega)))|(go_at_call 269;exact b4.quiet (Y1 (by omega))))|simp only[d1]|simp only[d2]|simp only[hz']|simp only[hz2]));refine wpQuiet_nil ?_;intro x)|(go_at_call 251;refine gm (Y0 (by omega)) ?_;intro x)|(go_at_call 269;refine gm (Y1 (by omega)) ?_;intro x))
       go_roundw
       case rel=>exact⟨k+1,m+(6+es.Data.size),by go_num,by omega,HF,by go_num,by omega,by omega,HG,b5.of⟩
       case measure=>simp[intOf];omega
      ·have HF:=lH (show J4 A3 B4.Id none rr.Records=false by have:=HV.out;rw[ehd.out,HP.out]at this;rw[← this];have h2:decide (fs.Id<es.Id)=false:=(by simp at d2 ⊢;omega);simp only[J4,d1,h2,Bool.true_and,Bool.false_and])
       go_wp2_with (first|((with_reducible refine rl ?_);(repeat(first|go_big_quiet_step (first|(go_at_call 251;exact b4.quiet (Y0 (by omega)))|(go_at_call 269;exact b4.quiet (Y1 (by omega))))|simp only[d1]|simp only[d2]|simp only[hz']|simp only[hz2]));refine wpQuiet_nil ?_;intro x)|(go_at_call 251;refine gm (Y0 (by omega)) ?_;intro x)|(go_at_call 269;refine gm (Y1 (by omega)) ?_;intro x))
       go_ret
       exact b4.mk (by rw[HD2.out,HF.out];rfl)
   ·have HALL:=lH (show J4 A3 B4.Id none rr.Records=true by have:=HV.out;rw[List.drop_of_length_le (by have:=HN.out;omega)]at this;rw[← this];cases N9 rr.Records k<;>rfl)
    have HM:=lH (show m=aq5 rr.Records by have:=HU.out;rw[List.drop_of_length_le (by have:=HN.out;omega),aq5]at this;omega)
    have hsl:=hs2.toSlInt
    have hln:rr.Dropped.length=nd:=HND.out
    cases d1:decide (rr.Room<m)
    ·have hu:decide (aq5 rr.Records≤rr.Room)=true:=by rw[← HM.out];simp at d1 ⊢;omega
     have HE:=lH (show L5 rr=N1 0 65535 rr.Dropped by rw[HD2.out,HALL.out,hu];rfl)
     clear hu
     go_wp2_with (first|(go_at_call 114;refine gm (d6) ?_;intro x)|(go_at_call 252;refine gm (ac6) ?_;intro x))
     go_ret
     exact b4.mk (by rw[HE.out];rfl)
    ·have hu:decide (aq5 rr.Records≤rr.Room)=false:=by rw[← HM.out];simp at d1 ⊢;omega
     have HE:=lH (show L5 rr=false by rw[HD2.out,HALL.out,hu];rfl)
     clear hu
     go_wp2_with (first|(go_at_call 114;refine gm (d6) ?_;intro x))
     go_ret
     exact b4.mk (by rw[HE.out];rfl)
 ·have kr:decide (65536<(nd:Int))=true:=by simp;omega
  have hd3:decide ((nd:Int)≤65536)=false:=by simp;omega
  go_enter Tryz.func254,Tryz.ntmps254
  go_wp2_with (first|(go_at_call 114;refine gm (d6) ?_;intro x))
  go_ret
  exact b4.mk (by rw[HD.out,c0,hd3];rfl)
theorem bh0{B:Nat}{a a2:Option Addr}{c c2:Nat}{rr:J0}{w:World}(hs:RdS B w a c rr.Records)(hs2:RdS B w a2 c2 rr.Dropped)(hm:rr.Records.length≤100000000)(hm2:rr.Dropped.length≤100000000) :
  Calls Tryz.prog 243 #[.agg #[.int .i64 rr.Room,.slice a rr.Records.length c,.slice a2 rr.Dropped.length c2]] w (b4 w (.bool (L5 rr))):=by
 obtain⟨n,hn⟩:∃ n,rr.Records.length=n:=⟨_,rfl⟩
 obtain⟨nd,hnd⟩:∃ nd,rr.Dropped.length=nd:=⟨_,rfl⟩
 have HN:=lH hn
 have HND:=lH hnd
 have HD:=lH (show L5 rr=(inB rr.Room 0 4000 && (decide ((nd:Int)≤65536) && (J4 A3 B4.Id none rr.Records && (decide (aq5 rr.Records≤rr.Room) && N1 0 65535 rr.Dropped))))by rw[L5,hnd])
 rw[hn]at hm ⊢
 rw[hnd]at hm2 ⊢
 clear hn hnd
 cases c0:inB rr.Room 0 4000
 ·go_enter Tryz.func243,Tryz.ntmps243
  go_wp2_with (first|(go_at_call 73;refine gm (d8) ?_;intro x))
  go_ret
  exact b4.mk (by rw[HD.out,c0];rfl)
 by_cases hr:nd≤65536
 ·have kr:decide (65536<(nd:Int))=false:=by simp;omega
  have hd3:decide ((nd:Int)≤65536)=true:=by simp;omega
  have⟨hro1,hro2⟩:=D6.1 c0
  have HD2:=lH (show L5 rr=(J4 A3 B4.Id none rr.Records && (decide (aq5 rr.Records≤rr.Room) && N1 0 65535 rr.Dropped))by rw[HD.out,c0,hd3];rfl)
  clear HD hd3
  go_enter Tryz.func243,Tryz.ntmps243
  go_wp2_with (first|(go_at_call 73;refine gm (d8) ?_;intro x))
  clear c0 kr
  go_loopw [3] (fun v wr=>∃ k:Nat,v=.int .i64 k∧k≤nd∧Hid (N1 0 65535 (rr.Dropped.drop k)=N1 0 65535 rr.Dropped)∧∃ X:b5 (w.alloc (.cells #[.int .i64 rr.Room,.slice a n c,.slice a2 nd c2] 82)),wr=X.w) (fun v _=>(nd - intOf v).toNat)
  case atStart=>exact⟨0,rfl,by omega,rfl,b5.of⟩
  case round =>
   obtain⟨k,rfl,hk,HV,X,rfl⟩:=hrel
   by_cases h:k<nd
   ·have hkl:k<rr.Dropped.length:=by have:=HND.out;omega
    obtain⟨eb,eoff,es,rfl,ehb,ehd,eok,eh0⟩:=hs2.atInt hkl
    have EOK:=lH eok;clear eok hkl
    cases d1:inB es 0 65535
    ·have HF:=lH (show N1 0 65535 rr.Dropped=false by have:=HV.out;rw[ehd.out,N1,d1]at this;rw[← this];rfl)
     go_wp2_with (first|(go_at_call 73;refine gm (d8) ?_;intro x))
     go_ret
     exact b4.mk (by rw[HD2.out,HF.out];simp)
    ·have HF:=lH (show N1 0 65535 (rr.Dropped.drop (k+1))=N1 0 65535 rr.Dropped by have:=HV.out;rw[ehd.out,N1,d1]at this;exact this)
     go_wp2_with (first|(go_at_call 73;refine gm (d8) ?_;intro x))
     go_roundw
     case rel=>exact⟨k+1,by go_num,by omega,HF,b5.of⟩
     case measure=>simp[intOf];omega
   ·have HB:=lH (show N1 0 65535 rr.Dropped=true by have:=HV.out;rw[List.drop_of_length_le (by have:=HND.out;omega),N1]at this;rw[← this])
    clear HV
    go_wp2_with fail
    go_loopw [4] (fun v wr=>∃ (k:Nat),v=.int .i64 k∧k≤n∧Hid (J4 A3 B4.Id (N9 rr.Records k) (rr.Records.drop k)=J4 A3 B4.Id none rr.Records)∧∃ X:b5 (w.alloc (.cells #[.int .i64 rr.Room,.slice a n c,.slice a2 nd c2] 82)),wr=X.w) (fun v _=>(n - intOf v).toNat)
    case atStart=>exact⟨0,rfl,by omega,rfl,b5.of⟩
    case round =>
     obtain⟨k,rfl,hk,HV,X,rfl⟩:=hrel
     by_cases h:k<n
     ·have hkl:k<rr.Records.length:=by have:=HN.out;omega
      obtain⟨eb,eoff,es,rfl,ehb,ehd,eok,eh0,eh1,eh2,eh3⟩:=hs.atTRecord hkl
      have hx1:es.Data.size≤9223372036854775807:=eok.2.2.2.1
      have EOK:=lH eok;clear eok hkl
      cases d1:A3 es
      ·have HF:=lH (show J4 A3 B4.Id none rr.Records=false by have:=HV.out;rw[ehd.out]at this;rw[← this];cases N9 rr.Records k<;>simp[J4,d1])
       go_wp2_with (first|((with_reducible refine rl ?_);(repeat(first|go_big_quiet_step (first|(go_at_call 242;exact b4.quiet (Y2 (by omega))))|simp only[d1]));refine wpQuiet_nil ?_;intro x)|(go_at_call 242;refine gm (Y2 (by omega)) ?_;intro x))
       go_ret
       exact b4.mk (by rw[HD2.out,HF.out];rfl)
      ·skip
       by_cases hz0:k=0
       ·have HF:=lH (show J4 A3 B4.Id (N9 rr.Records (k+1)) (rr.Records.drop (k+1))=J4 A3 B4.Id none rr.Records by have:=HV.out;rw[ehd.out,hz0]at this;rw[R7 ehd.out,← this];simp[J4,N9,d1,hz0])
        have hz':decide (0<(k:Int))=false:=by simp;omega
        have hz2:decide (0<k)=false:=by simp;omega
        clear hz0
        go_wp2_with (first|((with_reducible refine rl ?_);(repeat(first|go_big_quiet_step (first|(go_at_call 242;exact b4.quiet (Y2 (by omega))))|simp only[d1]|simp only[hz']|simp only[hz2]));refine wpQuiet_nil ?_;intro x)|(go_at_call 242;refine gm (Y2 (by omega)) ?_;intro x))
        go_roundw
        case rel=>exact⟨k+1,by go_num,by omega,HF,b5.of⟩
        case measure=>simp[intOf];omega
       ·obtain⟨fb,foff,fs,hbo,fhb,fhd,fok,fh0,fh1,fh2,fh3⟩:=hs.atTRecord (show k - 1<rr.Records.length by have:=HN.out;omega)
        simp only[Option.some.injEq,Addr.mk.injEq,and_true]at hbo
        obtain⟨rfl,rfl⟩:=hbo
        have FOK:=lH fok;clear fok
        have hz':decide (0<(k:Int))=true:=by simp;omega
        have hz2:decide (0<k)=true:=by simp;omega
        have hp:N9 rr.Records k=some fs:=by have:=R7 fhd.out;rwa[show k - 1+1=k from by omega]at this
        have HP:=lH hp;clear hp
        cases d2:decide (es.Id≤fs.Id)
        ·have HF:=lH (show J4 A3 B4.Id (N9 rr.Records (k+1)) (rr.Records.drop (k+1))=J4 A3 B4.Id none rr.Records by have:=HV.out;rw[ehd.out,HP.out]at this;rw[R7 ehd.out,← this];have h2:decide (fs.Id<es.Id)=true:=(by simp at d2 ⊢;omega);simp only[J4,d1,h2,Bool.true_and])
         go_wp2_with (first|((with_reducible refine rl ?_);(repeat(first|go_big_quiet_step (first|(go_at_call 242;exact b4.quiet (Y2 (by omega))))|simp only[d1]|simp only[d2]|simp only[hz']|simp only[hz2]));refine wpQuiet_nil ?_;intro x)|(go_at_call 242;refine gm (Y2 (by omega)) ?_;intro x))
         go_roundw
         case rel=>exact⟨k+1,by go_num,by omega,HF,b5.of⟩
         case measure=>simp[intOf];omega
        ·have HF:=lH (show J4 A3 B4.Id none rr.Records=false by have:=HV.out;rw[ehd.out,HP.out]at this;rw[← this];have h2:decide (fs.Id<es.Id)=false:=(by simp at d2 ⊢;omega);simp only[J4,d1,h2,Bool.true_and,Bool.false_and])
         go_wp2_with (first|((with_reducible refine rl ?_);(repeat(first|go_big_quiet_step (first|(go_at_call 242;exact b4.quiet (Y2 (by omega))))|simp only[d1]|simp only[d2]|simp only[hz']|simp only[hz2]));refine wpQuiet_nil ?_;intro x)|(go_at_call 242;refine gm (Y2 (by omega)) ?_;intro x))
         go_ret
         exact b4.mk (by rw[HD2.out,HF.out];rfl)
     ·have HALL:=lH (show J4 A3 B4.Id none rr.Records=true by have:=HV.out;rw[List.drop_of_length_le (by have:=HN.out;omega)]at this;rw[← this];cases N9 rr.Records k<;>rfl)
      have hall:=aP2 HALL.out
      have hln:rr.Records.length=n:=HN.out
      cases d1:decide (aq5 rr.Records≤rr.Room)
      ·have HE:=lH (show L5 rr=false by rw[HD2.out,HALL.out,d1];rfl)
       go_wp2_with (first|((with_reducible refine rl ?_);(repeat(first|go_big_quiet_step (first|(go_at_call 264;exact b4.quiet (ay6)))|simp only[d1]));refine wpQuiet_nil ?_;intro x)|(go_at_call 264;refine gm (ay6) ?_;intro x))
       go_ret
       exact b4.mk (by rw[HE.out];first|rfl|(rw[d1]))
      ·have HE:=lH (show L5 rr=true by rw[HD2.out,HALL.out,d1,HB.out];rfl)
       go_wp2_with (first|((with_reducible refine rl ?_);(repeat(first|go_big_quiet_step (first|(go_at_call 264;exact b4.quiet (ay6)))|simp only[d1]));refine wpQuiet_nil ?_;intro x)|(go_at_call 264;refine gm (ay6) ?_;intro x))
       go_ret
       exact b4.mk (by rw[HE.out];first|rfl|(rw[d1]))
 ·have kr:decide (65536<(nd:Int))=true:=by simp;omega
  have hd3:decide ((nd:Int)≤65536)=false:=by simp;omega
  go_enter Tryz.func243,Tryz.ntmps243
  go_wp2_with (first|(go_at_call 73;refine gm (d8) ?_;intro x))
  go_ret
  exact b4.mk (by rw[HD.out,c0,hd3];rfl)
theorem RdS.slStr{B:Nat}{w:World}{a:Option Addr}{c:Nat}{l:List ByteArray}(h:RdS B w a c l):Sl R3 w a l:=fun i s hx=>by
 obtain⟨b,off,vs,h0,-,h2,h3,h4⟩:=h.2.2.2 i s hx
 exact⟨b,off,h0,h2,fun j v hv=>by
  obtain⟨rfl,-⟩:=h3
  have:=h4 j v hv
  rw[show Enc.size ByteArray=(R3 s).length from rfl]at this
  exact this⟩
def R4(f:j7):Bool:=L8 f.File f.Data.size f.Queue
def aw3(f:D4):Bool:=ag3 f.File f.Size f.Check f.Parts
theorem ab2{B n:Nat}{a:Option Addr}{c:Nat}{f:j7}{w0 w:World}(hs0:RdS B w0 a c f.Queue:=by exact sd)[g:b8 B w0 w](hn:f.Queue.length=n:=by exact sd)(hm:n≤100000000:=by exact sd)(hz:f.Data.size≤100000000:=by exact sd) :
  Calls Tryz.prog 209 #[.agg #[.int .i64 f.File,.string f.Data,.slice a n c,.bool f.Done]] w (b4 w (.bool (R4 f))) :=
 ax4 (hs0.to g).toSlInt hn (by omega) hz
theorem ab5{B n:Nat}{a:Option Addr}{c:Nat}{f:j7}{w0 w:World}(hs0:RdS B w0 a c f.Queue:=by exact sd)[g:b8 B w0 w](hn:f.Queue.length=n:=by exact sd)(hm:n≤100000000:=by exact sd)(hz:f.Data.size≤100000000:=by exact sd) :
  Calls Tryz.prog 176 #[.agg #[.int .i64 f.File,.string f.Data,.slice a n c,.bool f.Done]] w (b4 w (.bool (R4 f))) :=
 ax6 (hs0.to g).toSlInt hn (by omega) hz
theorem aC0{B n:Nat}{a:Option Addr}{c:Nat}{f:D4}{w0 w:World}(hs0:RdS B w0 a c f.Parts:=by exact sd)[g:b8 B w0 w](hn:f.Parts.length=n:=by exact sd)(hm:n≤100000000:=by exact sd)(hz:∀ s∈f.Parts,s.size≤100000000:=by exact sd) :
  Calls Tryz.prog 206 #[.agg #[.int .i64 f.File,.int .i64 f.Size,.int .i64 f.Check,.slice a n c]] w (b4 w (.bool (aw3 f))) :=
 bs3 (hs0.to g).slStr hn (by omega) hz
theorem aC3{B n:Nat}{a:Option Addr}{c:Nat}{f:D4}{w0 w:World}(hs0:RdS B w0 a c f.Parts:=by exact sd)[g:b8 B w0 w](hn:f.Parts.length=n:=by exact sd)(hm:n≤100000000:=by exact sd)(hz:∀ s∈f.Parts,s.size≤100000000:=by exact sd) :
  Calls Tryz.prog 173 #[.agg #[.int .i64 f.File,.int .i64 f.Size,.int .i64 f.Check,.slice a n c]] w (b4 w (.bool (aw3 f))) :=
 bt0 (hs0.to g).slStr hn (by omega) hz
theorem RdS.toSlPair{B:Nat}{w:World}{a:Option Addr}{c:Nat}{l:List af2}(h:RdS B w a c l):Sl Y8 w a l:=fun i s hx=>by
 obtain⟨b,off,vs,h0,-,h2,h3,h4⟩:=h.2.2.2 i s hx
 exact⟨b,off,h0,h2,fun j v hv=>by
  obtain⟨rfl,-⟩:=h3
  have:=h4 j v hv
  rw[show Enc.size af2=(Y8 s).length from rfl]at this
  exact this⟩
def as5(x:aA8):Bool:=au8 x.Rate x.Offset
def au0(x:aA9):Bool:=az3 x.Period x.Start x.Length
theorem bD4{x:aA8}{w:World}:Calls Tryz.prog 115 #[.agg #[.int .i64 x.Rate,.int .i64 x.Offset]] w (b4 w (.bool (as5 x))):=bz8
theorem bD5{x:aA9}{w:World}:Calls Tryz.prog 116 #[.agg #[.int .i64 x.Period,.int .i64 x.Start,.int .i64 x.Length]] w (b4 w (.bool (au0 x))):=bz9
theorem ao5{B n:Nat}{a:Option Addr}{c:Nat}{l:List af2}{w0 w:World}(hs0:RdS B w0 a c l:=by exact sd)[g:b8 B w0 w](hn:l.length=n:=by exact sd)(hm:n≤100000000:=by exact sd) :
  Calls Tryz.prog 204 #[.slice a n c] w (b4 w (.bool (aj2 l))):=bA0 (hs0.to g).toSlPair hn (by omega)
theorem aG5{B n:Nat}{a:Option Addr}{c:Nat}{l:List s6}{w0 w:World}(hs0:RdS B w0 a c l)[g:b8 B w0 w](hn:l.length=n)(hm:n≤100000000) :
  Calls Tryz.prog 118 #[.slice a n c] w (b4 w (.bool (Q8 l))):=by
 subst hn;exact bo3 (hs0.to g) hm
theorem ag6{B n:Nat}{a:Option Addr}{c:Nat}{l:List B4}{w0 w:World}(hs0:RdS B w0 a c l:=by exact sd)[g:b8 B w0 w](hn:l.length=n:=by exact sd)(hm:n≤100000000:=by exact sd) :
  Calls Tryz.prog 205 #[.slice a n c] w (b4 w (.bool (R9 l))):=by
 subst hn;exact bo4 (hs0.to g) hm
theorem ab4{B n:Nat}{a:Option Addr}{c:Nat}{sD:R6}{w0 w:World}(hs0:RdS B w0 a c sD.Waiting:=by exact sd)[g:b8 B w0 w](hn:sD.Waiting.length=n:=by exact sd)(hm:n≤100000000:=by exact sd)(hi:al0 sD:=by exact sd) :
  Calls Tryz.prog 202 #[.agg #[.int .i64 sD.Next,.int .i64 sD.Window,.slice a n c,.int .i64 sD.Done]] w (b4 w (.bool (Q7 sD))):=by
 subst hn;exact bw2 (hs0.to g) hm hi
theorem ab3{B n:Nat}{a:Option Addr}{c:Nat}{p:R5}{w0 w:World}(hs0:RdS B w0 a c p.Starts:=by exact sd)[g:b8 B w0 w](hn:p.Starts.length=n:=by exact sd)(hm:n≤100000000:=by exact sd)(hz:p.Rest.size≤100000000:=by exact sd) :
  Calls Tryz.prog 208 #[.agg #[.int .i64 p.Channel,.int .i64 p.Count,.string p.Rest,.slice a n c]] w (b4 w (.bool (ai1 p))):=by
 subst hn;exact bw1 (hs0.to g) hm hz
theorem bD7{x:aA8}{w:World}:Calls Tryz.prog 74 #[.agg #[.int .i64 x.Rate,.int .i64 x.Offset]] w (b4 w (.bool (as5 x))):=bA2
theorem bD8{x:aA9}{w:World}:Calls Tryz.prog 75 #[.agg #[.int .i64 x.Period,.int .i64 x.Start,.int .i64 x.Length]] w (b4 w (.bool (au0 x))):=bA3
theorem ah7{B n:Nat}{a:Option Addr}{c:Nat}{l:List af2}{w0 w:World}(hs0:RdS B w0 a c l:=by exact sd)[g:b8 B w0 w](hn:l.length=n:=by exact sd)(hm:n≤100000000:=by exact sd) :
  Calls Tryz.prog 171 #[.slice a n c] w (b4 w (.bool (aj2 l))):=bA4 (hs0.to g).toSlPair hn (by omega)
theorem aG6{B n:Nat}{a:Option Addr}{c:Nat}{l:List s6}{w0 w:World}(hs0:RdS B w0 a c l)[g:b8 B w0 w](hn:l.length=n)(hm:n≤100000000) :
  Calls Tryz.prog 77 #[.slice a n c] w (b4 w (.bool (Q8 l))):=by
 subst hn;exact bo5 (hs0.to g) hm
theorem ag7{B n:Nat}{a:Option Addr}{c:Nat}{l:List B4}{w0 w:World}(hs0:RdS B w0 a c l:=by exact sd)[g:b8 B w0 w](hn:l.length=n:=by exact sd)(hm:n≤100000000:=by exact sd) :
  Calls Tryz.prog 172 #[.slice a n c] w (b4 w (.bool (R9 l))):=by
 subst hn;exact bo7 (hs0.to g) hm
theorem W0{B n:Nat}{a:Option Addr}{c:Nat}{sD:R6}{w0 w:World}(hs0:RdS B w0 a c sD.Waiting:=by exact sd)[g:b8 B w0 w](hn:sD.Waiting.length=n:=by exact sd)(hm:n≤100000000:=by exact sd)(hi:al0 sD:=by exact sd) :
  Calls Tryz.prog 169 #[.agg #[.int .i64 sD.Next,.int .i64 sD.Window,.slice a n c,.int .i64 sD.Done]] w (b4 w (.bool (Q7 sD))):=by
 subst hn;exact bw5 (hs0.to g) hm hi
theorem ab6{B n:Nat}{a:Option Addr}{c:Nat}{p:R5}{w0 w:World}(hs0:RdS B w0 a c p.Starts:=by exact sd)[g:b8 B w0 w](hn:p.Starts.length=n:=by exact sd)(hm:n≤100000000:=by exact sd)(hz:p.Rest.size≤100000000:=by exact sd) :
  Calls Tryz.prog 175 #[.agg #[.int .i64 p.Channel,.int .i64 p.Count,.string p.Rest,.slice a n c]] w (b4 w (.bool (ai1 p))):=by
 subst hn;exact bw4 (hs0.to g) hm hz
def X8(q:Int):Nat→List A4→Int
 | _,[]=>-1
 | k,s::r=>if s.Number=q then(k:Int)else X8 q (k+1) r
theorem bb0{q:Int}{s:A4}{r:List A4}(hs:s.Number=q):∀ (l:List A4) (k j:Nat),l.drop j=s::r→(X8 q k l=((k+j:Nat):Int)↔∀ y∈l.take j,y.Number≠q)
 | [],_,j,h=>by simp at h
 | y::t,k,0,h=>by
  rw[List.drop_zero]at h
  injection h with h1 h2
  rw[X8,h1,if_pos hs]
  simp
 | y::t,k,j+1,h=>by
  rw[List.drop_succ_cons]at h
  rw[X8,List.take_succ_cons]
  by_cases hy:y.Number=q
  ·rw[if_pos hy]
   constructor
   ·intro e;omega
   ·intro e;exact absurd hy (e y (by simp))
  ·rw[if_neg hy,show((k+(j+1):Nat):Int)=((k+1+j:Nat):Int)from by omega,bb0 hs t (k+1) j h]
   constructor
   ·intro e z hz
    rcases List.mem_cons.1 hz with h1|h1
    ·rw[h1];exact hy
    ·exact e z h1
   ·intro e z hz
    exact e z (List.mem_cons_of_mem _ hz)
theorem aa0{B n:Nat}{a:Option Addr}{c:Nat}{q:Int}{l:List A4}{w0 w:World}(hs0:RdS B w0 a c l:=by exact sd)[g:b8 B w0 w](hn:l.length=n:=by exact sd)(hm:n≤100000000:=by exact sd) :
  Calls Tryz.prog 268 #[.slice a n c,.int .i64 q] w (b4 w (.int .i64 (X8 q 0 l))):=by
 have HN:=lH hn
 have hs:=hs0.to g;clear hs0
 clear hn
 go_enter Tryz.func268,Tryz.ntmps268
 go_wp2_with (fail)
 go_loopw [9] (fun v wr=>∃ k:Nat,v=.int .i64 k∧k≤n∧Hid (X8 q k (l.drop k)=X8 q 0 l)∧∃ y:b5 w,wr=y.w) (fun v _=>(n - intOf v).toNat)
 case atStart=>exact⟨0,rfl,by omega,rfl,b5.of⟩
 case round =>
  obtain⟨k,rfl,hk,HV,y,rfl⟩:=hrel
  by_cases h:k<n
  ·have hkl:k<l.length:=by have:=HN.out;omega
   obtain⟨eb,eoff,es,rfl,ehb,ehd,eok,eh0,eh1,eh2,eh3,eh4⟩:=hs.atTWaiting hkl
   have EOK:=lH eok;clear eok hkl
   by_cases hq:es.Number=q
   ·have kq:(es.Number == q)=true:=by simp[hq]
    have HF:=lH (show(k:Int)=X8 q 0 l by have:=HV.out;rw[ehd.out,X8,if_pos hq]at this;exact this)
    clear hq
    go_wp2_with (fail)
    go_ret
    exact b4.mk (by rw[← HF.out];rfl)
   ·have kq:(es.Number == q)=false:=by simp[hq]
    have HF:=lH (show X8 q (k+1) (l.drop (k+1))=X8 q 0 l by have:=HV.out;rw[ehd.out,X8,if_neg hq]at this;exact this)
    clear hq
    go_wp2_with (fail)
    go_roundw
    case rel=>exact⟨k+1,by go_num,by omega,HF,b5.of⟩
    case measure=>simp[intOf];omega
  ·have HF:=lH (show -1=X8 q 0 l by have:=HV.out;rw[List.drop_of_length_le (by have:=HN.out;omega),X8]at this;exact this)
   go_wp2_with (fail)
   go_ret
   exact b4.mk (by rw[← HF.out];rfl)
def ao0(s:A4):Option A4→Bool
 | none=>true
 | some q=>!(decide (s.Order.At<q.Order.At) || (s.Order.At == q.Order.At && decide (s.Number<q.Number)))
def ai2(taken:Int)(L:List A4)(k:Nat)(s:A4):Bool :=
 w8 s.Order && (inB s.Number 0 (taken - 1) && ((L.take k).all (fun y=>y.Number != s.Number) && ao0 s (N9 L k)))
def B6(taken:Int)(L:List A4):Nat→List A4→Bool
 | _,[]=>true
 | k,s::r=>ai2 taken L k s && B6 taken L (k+1) r
def L3(taken:Int)(L:List A4):Bool:=decide ((L.length:Int)≤40) && B6 taken L 0 L
theorem bb1{L r:List A4}{s:A4}{k:Nat}(h:L.drop k=s::r):(X8 s.Number 0 L=(k:Int))↔(L.take k).all (fun y=>y.Number != s.Number)=true:=by
 have:=bb0 (q:=s.Number) rfl L 0 k h
 rw[Nat.zero_add]at this
 rw[this,List.all_eq_true]
 simp
theorem aC2{B n:Nat}{a:Option Addr}{c:Nat}{taken:Int}{l:List A4}{w0 w:World}(hs0:RdS B w0 a c l:=by exact sd)[g:b8 B w0 w](hn:l.length=n:=by exact sd)(hm:n≤100000000:=by exact sd)(ht0:0≤taken:=by exact sd)(ht1:taken≤65535:=by exact sd) :
  Calls Tryz.prog 253 #[.slice a n c,.int .i64 taken] w (b4 w (.bool (L3 taken l))):=by
 have HN:=lH hn
 have hs:=hs0.to g;clear hs0
 have HD:=lH (show L3 taken l=(decide ((n:Int)≤40) && B6 taken l 0 l)by rw[L3,hn])
 by_cases h40:n≤40
 ·have k40:decide (40<(n:Int))=false:=by simp;omega
  have HD2:=lH (show L3 taken l=B6 taken l 0 l by rw[HD.out,decide_eq_true (by omega)];rfl)
  clear HD
  go_enter Tryz.func253,Tryz.ntmps253
  go_wp2_with fail
  go_loopw [13] (fun v wr=>∃ k:Nat,v=.int .i64 k∧k≤n∧Hid (B6 taken l k (l.drop k)=B6 taken l 0 l)∧∃ y:b5 w,wr=y.w) (fun v _=>(n - intOf v).toNat)
  case atStart=>exact⟨0,rfl,by omega,rfl,b5.of⟩
  case round =>
   obtain⟨k,rfl,hk,HV,y,rfl⟩:=hrel
   by_cases h:k<n
   ·have hkl:k<l.length:=by have:=HN.out;omega
    obtain⟨eb,eoff,es,rfl,ehb,ehd,eok,eh0,eh1,eh2,eh3,eh4⟩:=hs.atTWaiting hkl
    have EOK:=lH eok;clear eok hkl
    cases d1:w8 es.Order
    ·have HF:=lH (show L3 taken l=false by have:=HV.out;rw[ehd.out,B6,ai2,d1]at this;rw[HD2.out,← this];rfl)
     go_wp2_with (first|(go_at_call 216;refine gm (ad0) ?_;intro x))
     go_ret
     exact b4.mk (by rw[HF.out];rfl)
    cases d2:inB es.Number 0 (taken - 1)
    ·have HF:=lH (show L3 taken l=false by have:=HV.out;rw[ehd.out,B6,ai2,d1,d2]at this;rw[HD2.out,← this];rfl)
     go_wp2_with (first|(go_at_call 114;refine gm (d6) ?_;intro x)|(go_at_call 216;refine gm (ad0) ?_;intro x))
     go_ret
     exact b4.mk (by rw[HF.out];rfl)
    cases d3:(l.take k).all (fun y=>y.Number != es.Number)
    ·have HF:=lH (show L3 taken l=false by have:=HV.out;rw[ehd.out,B6,ai2,d1,d2,d3]at this;rw[HD2.out,← this];rfl)
     have e3:(X8 es.Number 0 l == (k:Int))=false:=by
      have:=(not_congr (bb1 ehd.out)).2 (by rw[d3];simp)
      simp[this]
     have e4:(X8 es.Number 0 l != (k:Int))=true:=by rw[bne,e3];rfl
     clear d3
     go_wp2_with (first|(go_at_call 114;refine gm (d6) ?_;intro x)|(go_at_call 216;refine gm (ad0) ?_;intro x)|(go_at_call 268;refine gm (aa0) ?_;intro x))
     go_ret
     exact b4.mk (by rw[HF.out];rfl)
    have e3:(X8 es.Number 0 l == (k:Int))=true:=by
     have:=(bb1 ehd.out).2 d3
     simp[this]
    have e4:(X8 es.Number 0 l != (k:Int))=false:=by rw[bne,e3];rfl
    by_cases hz0:k=0
    ·have HF:=lH (show B6 taken l (k+1) (l.drop (k+1))=B6 taken l 0 l by have:=HV.out;rw[ehd.out,B6,ai2,d1,d2,d3]at this;rw[← this];simp[N9,hz0,ao0])
     have hz':((k:Int) == 0)=true:=by simp[hz0]
     clear d3 hz0
     go_wp2_with (first|(go_at_call 114;refine gm (d6) ?_;intro x)|(go_at_call 216;refine gm (ad0) ?_;intro x)|(go_at_call 268;refine gm (aa0) ?_;intro x))
     go_roundw
     case rel=>exact⟨k+1,by go_num,by omega,HF,b5.of⟩
     case measure=>simp[intOf];omega
    ·obtain⟨fb,foff,fs,hbo,fhb,fhd,fok,fh0,fh1,fh2,fh3,fh4⟩:=hs.atTWaiting (show k - 1<l.length by have:=HN.out;omega)
     simp only[Option.some.injEq,Addr.mk.injEq,and_true]at hbo
     obtain⟨rfl,rfl⟩:=hbo
     have FOK:=lH fok;clear fok
     have hz':((k:Int) == 0)=false:=by simp;omega
     have hp:N9 l k=some fs:=by have:=R7 fhd.out;rwa[show k - 1+1=k from by omega]at this
     have HP:=lH hp;clear hp
     cases f1:decide (es.Order.At<fs.Order.At)
     ·cases f2:(es.Order.At == fs.Order.At)
      ·have HF:=lH (show B6 taken l (k+1) (l.drop (k+1))=B6 taken l 0 l by have:=HV.out;rw[ehd.out,B6,ai2,d1,d2,d3,HP.out,ao0,f1,f2]at this;exact this)
       clear d3
       go_wp2_with (first|(go_at_call 114;refine gm (d6) ?_;intro x)|(go_at_call 216;refine gm (ad0) ?_;intro x)|(go_at_call 268;refine gm (aa0) ?_;intro x))
       go_roundw
       case rel=>exact⟨k+1,by go_num,by omega,HF,b5.of⟩
       case measure=>simp[intOf];omega
      ·cases f3:decide (es.Number<fs.Number)
       ·have HF:=lH (show B6 taken l (k+1) (l.drop (k+1))=B6 taken l 0 l by have:=HV.out;rw[ehd.out,B6,ai2,d1,d2,d3,HP.out,ao0,f1,f2,f3]at this;exact this)
        have F2:=lH f2
        clear d3
        go_wp2_with (first|(go_at_call 114;refine gm (d6) ?_;intro x)|(go_at_call 216;refine gm (ad0) ?_;intro x)|(go_at_call 268;refine gm (aa0) ?_;intro x))
        go_roundw
        case rel=>exact⟨k+1,by go_num,by omega,HF,b5.of⟩
        case measure=>simp[intOf];omega
       ·have HF:=lH (show L3 taken l=false by have:=HV.out;rw[ehd.out,B6,ai2,d1,d2,d3,HP.out,ao0,f1,f2,f3]at this;rw[HD2.out,← this];rfl)
        clear d3
        go_wp2_with (first|(go_at_call 114;refine gm (d6) ?_;intro x)|(go_at_call 216;refine gm (ad0) ?_;intro x)|(go_at_call 268;refine gm (aa0) ?_;intro x))
        go_ret
        exact b4.mk (by rw[HF.out];rfl)
     ·have HF:=lH (show L3 taken l=false by have:=HV.out;rw[ehd.out,B6,ai2,d1,d2,d3,HP.out,ao0,f1]at this;rw[HD2.out,← this];rfl)
      clear d3
      go_wp2_with (first|(go_at_call 114;refine gm (d6) ?_;intro x)|(go_at_call 216;refine gm (ad0) ?_;intro x)|(go_at_call 268;refine gm (aa0) ?_;intro x))
      go_ret
      exact b4.mk (by rw[HF.out];rfl)
   ·have HF:=lH (show L3 taken l=true by have:=HV.out;rw[List.drop_of_length_le (by have:=HN.out;omega),B6]at this;rw[HD2.out,← this])
    go_wp2_with fail
    go_ret
    exact b4.mk (by rw[HF.out];rfl)
 ·have k40:decide (40<(n:Int))=true:=by simp;omega
  have HD2:=lH (show L3 taken l=false by rw[HD.out,decide_eq_false (by omega)];rfl)
  go_enter Tryz.func253,Tryz.ntmps253
  go_wp2_with fail
  go_ret
  exact b4.mk (by rw[HD2.out];rfl)
theorem bo6{B:Nat}{A:af3}{bd:D5}{w0 w:World}(F0:am1 B w0 A bd)[g:b8 B w0 w](hm:bd.Orders.length≤100000000)(ht0:0≤bd.Taken)(ht1:bd.Taken≤65535) :
  Calls Tryz.prog 244 #[.agg #[.int .i64 bd.Clock,.slice A.a0 bd.Params.length A.c0,.bool bd.Safe,.slice A.a1 bd.Limits.length A.c1,.slice A.a2 bd.Orders.length A.c2,.slice A.a3 bd.Done.length A.c3,.int .i64 bd.Recorder.Room,.slice A.a4 bd.Recorder.Records.length A.c4,.slice A.a5 bd.Recorder.Dropped.length A.c5,.int .i64 bd.Made,.int .i64 bd.Taken,.slice A.a6 bd.Asked.length A.c6]] w (b4 w (.bool (L3 bd.Taken bd.Orders))):=by
 have hs:=F0.q2.to g;clear F0
 obtain⟨l,hl⟩:∃ l,bd.Orders=l:=⟨_,rfl⟩
 obtain⟨taken,htk⟩:∃ t,bd.Taken=t:=⟨_,rfl⟩
 obtain⟨a,ha⟩:∃ a,A.a2=a:=⟨_,rfl⟩
 obtain⟨n,hn⟩:∃ n,l.length=n:=⟨_,rfl⟩
 rw[hl,ha]at hs
 rw[hl,hn]at hm
 rw[htk]at ht0 ht1
 rw[hl,htk,ha,hn]
 have HN:=lH hn
 clear hl htk ha hn
 have HD:=lH (show L3 taken l=(decide ((n:Int)≤40) && B6 taken l 0 l)by rw[L3,HN.out])
 by_cases h40:n≤40
 ·have k40:decide (40<(n:Int))=false:=by simp;omega
  have HD2:=lH (show L3 taken l=B6 taken l 0 l by rw[HD.out,decide_eq_true (by omega)];rfl)
  clear HD
  go_enter Tryz.func244,Tryz.ntmps244
  go_wp2_with fail
  go_loopw [3] (fun v wr=>∃ k:Nat,v=.int .i64 k∧k≤n∧Hid (B6 taken l k (l.drop k)=B6 taken l 0 l)∧∃ y:b5 (w.alloc (.cells #[.int .i64 bd.Clock,.slice A.a0 bd.Params.length A.c0,.bool bd.Safe,.slice A.a1 bd.Limits.length A.c1,.slice a n A.c2,.slice A.a3 bd.Done.length A.c3,.int .i64 bd.Recorder.Room,.slice A.a4 bd.Recorder.Records.length A.c4,.slice A.a5 bd.Recorder.Dropped.length A.c5,.int .i64 bd.Made,.int .i64 taken,.slice A.a6 bd.Asked.length A.c6] 84)),wr=y.w) (fun v _=>(n - intOf v).toNat)
  case atStart=>exact⟨0,rfl,by omega,rfl,b5.of⟩
  case round =>
   obtain⟨k,rfl,hk,HV,y,rfl⟩:=hrel
   by_cases h:k<n
   ·have hkl:k<l.length:=by have:=HN.out;omega
    obtain⟨eb,eoff,es,rfl,ehb,ehd,eok,eh0,eh1,eh2,eh3,eh4⟩:=hs.atTWaiting hkl
    have EOK:=lH eok;clear eok hkl
    cases d1:w8 es.Order
    ·have HF:=lH (show L3 taken l=false by have:=HV.out;rw[ehd.out,B6,ai2,d1]at this;rw[HD2.out,← this];rfl)
     go_wp2_with (first|(go_at_call 183;refine gm (as7) ?_;intro x))
     go_ret
     exact b4.mk (by rw[HF.out];rfl)
    cases d2:inB es.Number 0 (taken - 1)
    ·have HF:=lH (show L3 taken l=false by have:=HV.out;rw[ehd.out,B6,ai2,d1,d2]at this;rw[HD2.out,← this];rfl)
     go_wp2_with (first|(go_at_call 73;refine gm (d8) ?_;intro x)|(go_at_call 183;refine gm (as7) ?_;intro x))
     go_ret
     exact b4.mk (by rw[HF.out];rfl)
    go_wp2_with (first|(go_at_call 73;refine gm (d8) ?_;intro x)|(go_at_call 183;refine gm (as7) ?_;intro x))
    go_loopw [5] (fun v wr=>∃ j:Nat,v=.int .i64 j∧j≤k∧Hid ((l.take j).all (fun z=>z.Number != es.Number)=true)∧∃ z:b5 (y.w.alloc (.cells #[.int .i64 es.Number,.int .i64 es.Order.Kind,.int .i64 es.Order.At,.int .i64 es.Order.A,.int .i64 es.Order.B] 254)),wr=z.w) (fun v _=>(k - intOf v).toNat)
    case atStart=>exact⟨0,rfl,by omega,by rw[Hid];rfl,b5.of⟩
    case round =>
     obtain⟨j,rfl,hj,HJ,z,rfl⟩:=hrel
     by_cases hjk:j<k
     ·obtain⟨gb,goff,gs,hbo,ghb,ghd,gok,gh0,gh1,gh2,gh3,gh4⟩:=hs.atTWaiting (show j<l.length by have:=HN.out;omega)
      simp only[Option.some.injEq,Addr.mk.injEq,and_true]at hbo
      obtain⟨rfl,rfl⟩:=hbo
      have GOK:=lH gok;clear gok
      have hT:=lH (show l.take (j+1)=l.take j++[gs]by rw[List.take_succ_eq_append_getElem (by have:=HN.out;omega)];congr 1;have h0:(l.drop j)[0]?=some gs:=(by rw[ghd.out];rfl);rw[List.getElem?_drop]at h0;simp at h0;obtain⟨_,h0⟩:=List.getElem?_eq_some_iff.1 h0;rw[h0])
      cases e1:(gs.Number == es.Number)
      ·have HJ2:=lH (show(l.take (j+1)).all (fun z=>z.Number != es.Number)=true by rw[hT.out,List.all_append,HJ.out];simp only[List.all_cons,List.all_nil,bne,e1];rfl)
       go_wp2_with (first|((with_reducible refine rl ?_);(repeat(first|go_big_quiet_step (first|fail)|simp only[e1]));refine wpQuiet_nil ?_;intro x))
       go_roundw
       case rel=>exact⟨j+1,by go_num,by omega,HJ2,b5.of⟩
       case measure=>simp[intOf];omega
      ·have HJ2:=lH (show(l.take k).all (fun z=>z.Number != es.Number)=false by have h1:gs∈l.take k:=(List.take_subset_take_left _ (show j+1≤k by omega)) (by rw[hT.out];simp);rw[Bool.eq_false_iff];intro hh;have:=List.all_eq_true.1 hh gs h1;rw[bne,e1]at this;cases this)
       have HF:=lH (show L3 taken l=false by have:=HV.out;rw[ehd.out,B6,ai2,d1,d2,HJ2.out]at this;rw[HD2.out,← this];rfl)
       go_wp2_with (first|((with_reducible refine rl ?_);(repeat(first|go_big_quiet_step (first|fail)|simp only[e1]));refine wpQuiet_nil ?_;intro x))
       go_ret
       exact b4.mk (by rw[HF.out];rfl)
     have ejk:j=k:=by omega
     subst ejk
     have d3:(l.take j).all (fun z=>z.Number != es.Number)=true:=HJ.out
     have EK:=lH d1
     by_cases hz0:j=0
     ·have HF:=lH (show B6 taken l (j+1) (l.drop (j+1))=B6 taken l 0 l by have:=HV.out;rw[ehd.out,B6,ai2,d1,d2,d3]at this;rw[← this];simp[N9,hz0,ao0])
      have hz':decide (0<(j:Int))=false:=by simp;omega
      have hz2:decide (0<j)=false:=by simp;omega
      clear d3 hz0
      go_wp2_with (first|((with_reducible refine rl ?_);(repeat(first|go_big_quiet_step (first|fail)|simp only[hz']|simp only[hz2]));refine wpQuiet_nil ?_;intro x))
      go_roundw
      case rel=>exact⟨j+1,by go_num,by omega,HF,b5.of⟩
      case measure=>simp[intOf];omega
     ·obtain⟨fb,foff,fs,hbo,fhb,fhd,fok,fh0,fh1,fh2,fh3,fh4⟩:=hs.atTWaiting (show j - 1<l.length by have:=HN.out;omega)
      simp only[Option.some.injEq,Addr.mk.injEq,and_true]at hbo
      obtain⟨rfl,rfl⟩:=hbo
      have FOK:=lH fok;clear fok
      have hz':decide (0<(j:Int))=true:=by simp;omega
      have hz2:decide (0<j)=true:=by simp;omega
      have hp:N9 l j=some fs:=by have:=R7 fhd.out;rwa[show j - 1+1=j from by omega]at this
      have HP:=lH hp;clear hp
      cases f1:decide (es.Order.At<fs.Order.At)
      ·cases f2:(es.Order.At == fs.Order.At)
       ·have HF:=lH (show B6 taken l (j+1) (l.drop (j+1))=B6 taken l 0 l by have:=HV.out;rw[ehd.out,B6,ai2,d1,d2,d3,HP.out,ao0,f1,f2]at this;exact this)
        clear d3
        go_wp2_with (first|((with_reducible refine rl ?_);(repeat(first|go_big_quiet_step (first|fail)|simp only[hz']|simp only[hz2]|simp only[f1]|simp only[f2]));refine wpQuiet_nil ?_;intro x))
        go_roundw
        case rel=>exact⟨j+1,by go_num,by omega,HF,b5.of⟩
        case measure=>simp[intOf];omega
       ·cases f3:decide (es.Number<fs.Number)
        ·have HF:=lH (show B6 taken l (j+1) (l.drop (j+1))=B6 taken l 0 l by have:=HV.out;rw[ehd.out,B6,ai2,d1,d2,d3,HP.out,ao0,f1,f2,f3]at this;exact this)
         have F2:=lH f2
         clear d3
         go_wp2_with (first|((with_reducible refine rl ?_);(repeat(first|go_big_quiet_step (first|fail)|simp only[hz']|simp only[hz2]|simp only[f1]|simp only[f2]|simp only[f3]));refine wpQuiet_nil ?_;intro x))
         go_roundw
         case rel=>exact⟨j+1,by go_num,by omega,HF,b5.of⟩
         case measure=>simp[intOf];omega
        ·have HF:=lH (show L3 taken l=false by have:=HV.out;rw[ehd.out,B6,ai2,d1,d2,d3,HP.out,ao0,f1,f2,f3]at this;rw[HD2.out,← this];rfl)
         clear d3
         go_wp2_with (first|((with_reducible refine rl ?_);(repeat(first|go_big_quiet_step (first|fail)|simp only[hz']|simp only[hz2]|simp only[f1]|simp only[f2]|simp only[f3]));refine wpQuiet_nil ?_;intro x))
         go_ret
         exact b4.mk (by rw[HF.out];rfl)
      ·have HF:=lH (show L3 taken l=false by have:=HV.out;rw[ehd.out,B6,ai2,d1,d2,d3,HP.out,ao0,f1]at this;rw[HD2.out,← this];rfl)
       clear d3
       go_wp2_with (first|((with_reducible refine rl ?_);(repeat(first|go_big_quiet_step (first|fail)|simp only[hz']|simp only[hz2]|simp only[f1]));refine wpQuiet_nil ?_;intro x))
       go_ret
       exact b4.mk (by rw[HF.out];rfl)
   ·have HF:=lH (show L3 taken l=true by have:=HV.out;rw[List.drop_of_length_le (by have:=HN.out;omega),B6]at this;rw[HD2.out,← this])
    go_wp2_with fail
    go_ret
    exact b4.mk (by rw[HF.out];rfl)
 ·have k40:decide (40<(n:Int))=true:=by simp;omega
  have HD2:=lH (show L3 taken l=false by rw[HD.out,decide_eq_false (by omega)];rfl)
  go_enter Tryz.func244,Tryz.ntmps244
  go_wp2_with fail
  go_ret
  exact b4.mk (by rw[HD2.out];rfl)
