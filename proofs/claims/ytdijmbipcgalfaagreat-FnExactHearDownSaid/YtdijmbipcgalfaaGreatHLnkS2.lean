/- The link of the reference: bits spread and mixed, blocks. No condition but on sizes. -/
import Derived.Test.YtdijmbipcgalfaaGreatHM29
import Derived.Test.YtdijmbipcgalfaaGreatHM0
import Derived.Deep.CutRange
namespace Go.Proofs.YtdijmbipcgalfaaGreat
set_option maxRecDepth 100000
set_option maxHeartbeats 4000000
set_option linter.unusedVariables false
open Go.ChangeShapes Go.WideShapes Go.ChangeAt Go.RowKit
theorem bx4{s:ByteArray}{w:World}(hm:s.size≤400):Calls Tryz.prog 206 #[.string s] w (b5 w (.string (strOfNums (scr 255 (s5 s))))):=by
 have hlen:=M7 s
 obtain⟨n,hn⟩:∃ n,s.size=n:=⟨_,rfl⟩
 have hln:(s5 s).length=n:=by omega
 go_enter Tryz.func206,Tryz.ntmps206
 go_wp2_with (fail)
 go_loopw [3,4,5] (fun a u v wr=>∃ (k:Nat) (x:Int) (L:List Int) (sa:Option Addr) (sc:Nat),a=.slice sa k sc∧v=I k∧u=I x∧0≤x∧x≤255∧k≤n∧L.length=k∧Hid (L++scr x ((s5 s).drop k)=scr 255 (s5 s))∧Hid (k=0→sa=some ⟨w.heap.size,0,none⟩)∧Hid (Own Y1 5 1 w.heap.size wr sa sc L)∧∃ y:b7 w,wr=y.w) (fun _ _ v _=>(n - intOf v).toNat)
 case atStart=>exact⟨0,255,[],_,_,rfl,rfl,rfl,by omega,by omega,by omega,rfl,rfl,fun _=>rfl,Own.empty0 ar5 nl,b7.of⟩
 case round =>
  obtain⟨k,x,L,sa,sc,rfl,rfl,rfl,hx0,hx1,hk,hL,HF,h00,hO,y,rfl⟩:=hrel
  by_cases hkn:k<n
  ·have hks:k<s.size:=by omega
   obtain⟨hb1,hdr⟩:=ab4 hks
   obtain⟨b,hb⟩:∃ b:Int,((s[k]'hks).toNat:Int)=b:=⟨_,rfl⟩
   have hb0:0≤b:=by omega
   rw[hb]at hb1 hdr
   have HB:=lH hdr
   clear hdr
   have HX:=lH (bY8 hx0 hx1)
   have⟨hl0,hl1⟩:=bM4 hx0
   have hw8:IntKind.u8.wrap x=x:=bU9 hx0 hx1
   go_upto_region 6 with(fail)
   (try simp only[hb])
   go_wp2_with (first|((at_builtin;refine ak7 (enc:=Y1) (w0:=w) (B:=w.heap.size) (z:=.int .u8 0) (size:=1) (bytes:=1) (bv6 b x) rfl (.tmp 13) (.tmp 20) rfl Tryz.underlying258 kr rfl de de rfl rfl hL (Own.to hO.out ii) bk rfl (am7 _) om LeN.out ii LeN.out ?_;intro sa1 sc1 x1 hown1 hgr1);have HO6:=lH hown1;clear hown1 hgr1))
   go_roundw
   case rel=>exact⟨k+1,bi6 x,L++[bv6 b x],sa1,sc1,rfl,by go_num,by rw[← HX.out],hl0,hl1,by omega,by simp[hL],lH (bW2 HF.out HB.out),lH (fun e=>by omega),HO6,b7.of⟩
   case measure=>simp[intOf];omega
  ·obtain rfl:n=k:=by omega
   have hq:L.length=n:=hL
   have hcv:∀ (W':World) [b8 y.w W'],(convert 258 9 (.slice sa n sc)).run Tryz.prog W'=.ok (.string (strOfNums L)) W':=by
    by_cases hq0:n=0
    ·intro W' _
     rw[h00.out hq0]
     exact run_convert_bytes_arg W' 258 5 Tryz.underlying258 Tryz.underlying5 w.heap.size 0 n sc L hL (fun i hi=>by omega) 9 Tryz.underlying9
    ·exact at7 (P:=Tryz.prog) (c:=sc) Tryz.underlying258 Tryz.underlying5 Tryz.underlying9 hO.out.sl hL om
   have hcv1:=hcv y.w
   clear hcv
   have HF2:=lH (show L=scr 255 (s5 s)by have:=HF.out;rw[List.drop_of_length_le om]at this;simpa[scr]using this)
   go_wp2_with (fail)
   go_ret
   exact b5.mk (by rw[HF2.out];rfl)
