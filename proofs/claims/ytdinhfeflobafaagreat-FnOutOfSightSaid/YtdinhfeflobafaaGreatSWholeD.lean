/- The contracts of what draws a file: l01Bytes, DrawFile. No condition but on lengths. -/
import Derived.Test.YtdinhfeflobafaaGreatSM0
import Derived.Test.YtdinhfeflobafaaGreatSWord
import Derived.Test.YtdinhfeflobafaaGreatSWork
namespace Go.Proofs.YtdinhfeflobafaaGreat
set_option linter.unusedVariables false
open Go.ChangeShapes Go.WideShapes Go.ChangeAt Go.RowKit
def lenOf:Value→Nat
 | .slice _ n _=>n
 | _=>0
set_option maxRecDepth 100000 in
set_option maxHeartbeats 2000000 in
theorem c_sl01Bytes{w:World}{p:Nat}{a:Option Addr}{n c:Nat}{l:List Int}{i m:Nat}(hc:IsCur w p a n c l i)(hm:m≤200) :
  Calls Tryz.prog 197 #[.pointer (some ⟨p,0,none⟩),.int .i64 m] w fun e w'=>∃ s:ByteArray,e=.returned (.string s)∧s.size=m∧w.grownBy w' (some p)∧∃ i',IsCur w' p a n c l i':=by
 have HC:=lH hc;clear hc
 have hp:=HC.out.lt.out
 go_enter Tryz.func197,Tryz.ntmps197
 go_wp2_with (first|((with_reducible refine wp_region_later (by kernel_rfl) (by kernel_rfl) ?_);(repeat(first|go_big_quiet_step (first|fail)));refine wpQuiet_nil ?_;rintro _ ⟨x,rfl⟩))
 go_loopw [5] (fun v wr=>∃ (L:List Int) (sa:Option Addr) (sc q:Nat),v=.slice sa q sc∧L.length=q∧q≤m∧Hid (q=0→sa=some ⟨w.heap.size,0,none⟩)∧Hid (Own encByte 5 1 w.heap.size wr sa sc L)∧Hid (w.grownBy wr (some p))∧∃ i',Hid (IsCur wr p a n c l i')) (fun v _=>m - lenOf v)
 case atStart=>exact⟨[],_,_,0,rfl,rfl,by omega,fun _=>rfl,Own.empty0 encByte_len (Nat.le_refl _),grownBy_new (grownBy_refl w (some p)) _,i,HC.out.alloc _⟩
 case round =>
  obtain⟨L,sa,sc,q,rfl,hL,hq,h00,hO,hG,i2,hC⟩:=hrel
  by_cases h:q<m
  ·have k1:decide ((q:Int)<(m:Int))=true:=by simp;omega
   go_wp2_with (first|((with_reducible refine wp_region_later (by kernel_rfl) (by kernel_rfl) ?_);(repeat(first|go_big_quiet_step (first|fail)|simp only[k1]));refine wpQuiet_nil ?_;rintro _ ⟨x,rfl⟩))
   refine(c_sl01Below hC.out (by omega) (by omega)).mono ?_
   rintro _ w2 ⟨y,rfl,hy,hg2,i3,hc2⟩
   have O2:=Own.kept hO.out hg2 (fun k hk=>by cases hk;exact .inl hp)
   have G2:=lH (grownBy_trans hG.out hg2);have HC2:=lH hc2;clear hO hG hC hg2 hc2
   have hsz:=G2.out.size
   have hp2:=HC2.out.lt.out
   have hy2:y % 256=y:=by omega
   go_wp2_with (first|((with_reducible refine wp_region_later (by kernel_rfl) (by kernel_rfl) ?_);(repeat(first|go_big_quiet_step (first|fail)));refine wpQuiet_nil ?_;rintro _ ⟨x,rfl⟩)|(at_builtin;go_must (refine wpList_app1B (enc:=encByte) (B:=w.heap.size) (z:=.int .u8 0) (size:=1) (bytes:=1) (y:Int) rfl (.tmp 11) (.tmp 15) rfl Tryz.underlying96 (by kernel_rfl) rfl (by decide) (by decide) rfl rfl hL O2 (by rfl) (by intro u hu;simp[encByte]at hu;subst hu;rfl) (by omega) hsz ?_;intro sa1 sc1 w6 O6 g6)))
   have hlt:=O2.lt (n:=q)
   go_roundw
   case rel =>
    refine⟨L++[y],sa1,sc1,q+1,rfl,by simp[hL],by omega,fun e=>by omega,O6,?_,i3,HC2.out.kept g6.size (fun j hj=>g6.block j (by omega) (fun e=>by have:=(hlt j e.symm).1;omega))⟩
    have G:=G2.out
    exact⟨g6.os.trans G.os,g6.tape.trans G.tape,g6.output.trans G.output,Nat.le_trans G.size g6.size,fun j hj hr=>(g6.block j (by omega) (fun e=>by have:=(hlt j e.symm).1;omega)).trans (G.block j hj hr)⟩
   case measure=>simp[lenOf];omega
  ·have k1:decide ((q:Int)<(m:Int))=false:=by simp;omega
   have hcv:∀ (W':World) [Grows wr W'],(convert 96 9 (.slice sa q sc)).run Tryz.prog W'=.ok (.string (strOfNums L)) W':=by
    by_cases hq0:q=0
    ·intro W' _
     rw[h00.out hq0]
     exact run_convert_bytes_arg W' 96 5 Tryz.underlying96 Tryz.underlying5 w.heap.size 0 q sc L hL (fun i hi=>by omega) 9 Tryz.underlying9
    ·exact conv_str (P:=Tryz.prog) (c:=sc) Tryz.underlying96 Tryz.underlying5 Tryz.underlying9 hO.out.sl hL (by omega)
   have hcv1:=hcv wr
   clear hcv
   go_wp2_with (first|((with_reducible refine wp_region_later (by kernel_rfl) (by kernel_rfl) ?_);(repeat(first|go_big_quiet_step (first|fail)|simp only[k1]));refine wpQuiet_nil ?_;rintro _ ⟨x,rfl⟩))
   go_ret
   exact⟨strOfNums L,rfl,by rw[show(strOfNums L).size=L.length by simp[strOfNums,ByteArray.size]];omega,hG.out,i2,hC.out⟩
end Go.Proofs.YtdinhfeflobafaaGreat
