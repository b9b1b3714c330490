/- The contracts on receivers of files: their mirrors, their equality, their marks. No condition but on lengths. -/
import Derived.Test.YtbaffippdifbpaaGreatSM9
namespace Go.Proofs.YtbaffippdifbpaaGreat
set_option linter.unusedVariables false
open Go.ChangeShapes Go.WideShapes Go.ChangeAt Go.RowKit
def shortAll(p:List ByteArray):Bool:=p.all (fun s=>decide (s.size≤24))
def fileInOk(f z k:Int)(p:List ByteArray):Bool:=inB f 0 7 && (inB z (-1) 600 && (inB k (-1) 65535 && (((z == -1) == (k == -1)) && (decide (p.length=25) && shortAll p))))
set_option maxRecDepth 100000 in
set_option maxHeartbeats 2000000 in
theorem c_iFileInOk{a:Option Addr}{n c:Nat}{f z k:Int}{p:List ByteArray}{w:World}(hs:Sl encStr w a p)(hn:p.length=n)(hm:n≤4611686018427387904)(hsz:∀ s∈p,s.size≤100000000) :
  Calls Tryz.prog 230 #[.agg #[.int .i64 f,.int .i64 z,.int .i64 k,.slice a n c]] w (Gives w (.bool (fileInOk f z k p))):=by
 have HS:=lH hsz;clear hsz
 have HF:=lH (show fileInOk f z k p=(inB f 0 7 && (inB z (-1) 600 && (inB k (-1) 65535 && (((z == -1) == (k == -1)) && (decide (n=25) && shortAll p)))))by rw[fileInOk,hn])
 cases c1:inB f 0 7
 ·go_enter Tryz.func230,Tryz.ntmps230
  go_wp2_with (first|(go_at_call 127;refine(c_ibetween).mono ?_;rintro _ _ ⟨rfl,x,rfl⟩))
  go_ret
  exact Gives.mk (by rw[HF.out,c1];rfl)
 cases c2:inB z (-1) 600
 ·go_enter Tryz.func230,Tryz.ntmps230
  go_wp2_with (first|(go_at_call 127;refine(c_ibetween).mono ?_;rintro _ _ ⟨rfl,x,rfl⟩))
  go_ret
  exact Gives.mk (by rw[HF.out,c1,c2];rfl)
 cases c3:inB k (-1) 65535
 ·go_enter Tryz.func230,Tryz.ntmps230
  go_wp2_with (first|(go_at_call 127;refine(c_ibetween).mono ?_;rintro _ _ ⟨rfl,x,rfl⟩))
  go_ret
  exact Gives.mk (by rw[HF.out,c1,c2,c3];rfl)
 cases c4:((z == -1) == (k == -1))
 ·have c5:((z == -1) != (k == -1))=true:=by rw[bne,c4];rfl
  go_enter Tryz.func230,Tryz.ntmps230
  go_wp2_with (first|(go_at_call 127;refine(c_ibetween).mono ?_;rintro _ _ ⟨rfl,x,rfl⟩))
  go_ret
  exact Gives.mk (by rw[HF.out,c1,c2,c3,c4];rfl)
 have c5:((z == -1) != (k == -1))=false:=by rw[bne,c4];rfl
 have HF2:=lH (show fileInOk f z k p=(decide (n=25) && shortAll p)by rw[HF.out,c1,c2,c3,c4];rfl)
 clear HF
 by_cases h6:n=25
 ·have c6:((n:Int) != 25)=false:=by simp;omega
  have HF3:=lH (show fileInOk f z k p=shortAll p by rw[HF2.out,h6];rfl)
  clear HF2 h6
  go_enter Tryz.func230,Tryz.ntmps230
  go_wp2_with (first|(go_at_call 127;refine(c_ibetween).mono ?_;rintro _ _ ⟨rfl,x,rfl⟩))
  go_loopw [37] (fun v wr=>∃ k:Nat,v=.int .i64 k∧k≤n∧Hid (shortAll (p.drop k)=shortAll p)∧∃ x:Later w,wr=x.w) (fun v _=>(n - intOf v).toNat)
  case atStart=>exact⟨0,rfl,by omega,rfl,Later.of⟩
  case round =>
   obtain⟨k,rfl,hk,hf,x,rfl⟩:=hrel
   by_cases h:k<n
   ·obtain⟨b,off,s,rfl,hb,hd,h0⟩:=hs.str (show k<p.length by omega)
    have hsm:s.size≤100000000:=HS.out s (List.mem_of_mem_drop (by rw[hd.out];exact List.mem_cons_self ..))
    by_cases h7:24<s.size
    ·go_wp2_with fail
     go_ret
     exact Gives.mk (by have:=hf.out;rw[hd.out,shortAll,List.all_cons,decide_eq_false (by omega)]at this;rw[HF3.out,← this];rfl)
    ·go_wp2_with fail
     go_roundw
     case rel=>exact⟨k+1,by go_num,by omega,by have:=hf.out;rw[hd.out,shortAll,List.all_cons,decide_eq_true (by omega)]at this;exact this,Later.of⟩
     case measure=>simp[intOf];omega
   ·go_wp2_with fail
    go_ret
    exact Gives.mk (by have:=hf.out;rw[List.drop_of_length_le (by omega)]at this;rw[HF3.out,← this];rfl)
 ·have c6:((n:Int) != 25)=true:=by simp;omega
  have HF3:=lH (show fileInOk f z k p=false by rw[HF2.out,decide_eq_false h6];rfl)
  clear HF2 h6
  go_enter Tryz.func230,Tryz.ntmps230
  go_wp2_with (first|(go_at_call 127;refine(c_ibetween).mono ?_;rintro _ _ ⟨rfl,x,rfl⟩))
  go_ret
  exact Gives.mk (by rw[HF3.out];rfl)
set_option maxRecDepth 100000 in
set_option maxHeartbeats 2000000 in
theorem c_sFileInOk{a:Option Addr}{n c:Nat}{f z k:Int}{p:List ByteArray}{w:World}(hs:Sl encStr w a p)(hn:p.length=n)(hm:n≤4611686018427387904)(hsz:∀ s∈p,s.size≤100000000) :
  Calls Tryz.prog 227 #[.agg #[.int .i64 f,.int .i64 z,.int .i64 k,.slice a n c]] w (Gives w (.bool (fileInOk f z k p))):=by
 have HS:=lH hsz;clear hsz
 have HF:=lH (show fileInOk f z k p=(inB f 0 7 && (inB z (-1) 600 && (inB k (-1) 65535 && (((z == -1) == (k == -1)) && (decide (n=25) && shortAll p)))))by rw[fileInOk,hn])
 go_enter Tryz.func227,Tryz.ntmps227
 go_wp2_with fail
 go_loopw [3] (fun v wr=>∃ j:Nat,v=.int .i64 j∧j≤n∧Hid (shortAll (p.drop j)=shortAll p)∧∃ x:Later (w.alloc (.cells #[.int .i64 f,.int .i64 z,.int .i64 k,.slice a n c] 140)),wr=x.w) (fun v _=>(n - intOf v).toNat)
 case atStart=>exact⟨0,rfl,by omega,rfl,Later.of⟩
 case round =>
  obtain⟨j,rfl,hk,hf,x,rfl⟩:=hrel
  by_cases h:j<n
  ·obtain⟨b,off,s,rfl,hb,hd,h0⟩:=hs.str (show j<p.length by omega)
   have hsm:s.size≤100000000:=HS.out s (List.mem_of_mem_drop (by rw[hd.out];exact List.mem_cons_self ..))
   by_cases h7:24<s.size
   ·go_wp2_with fail
    go_ret
    exact Gives.mk (by have:=hf.out;rw[hd.out,shortAll,List.all_cons,decide_eq_false (by omega)]at this;rw[HF.out,← this];simp)
   ·go_wp2_with fail
    go_roundw
    case rel=>exact⟨j+1,by go_num,by omega,by have:=hf.out;rw[hd.out,shortAll,List.all_cons,decide_eq_true (by omega)]at this;exact this,Later.of⟩
    case measure=>simp[intOf];omega
  ·have hf':=hf.out
   rw[List.drop_of_length_le (by omega)]at hf'
   have HA:=lH (show shortAll p=true from hf'.symm);clear hf hf'
   cases c1:inB f 0 7
   ·go_wp2_with (first|(go_at_call 151;refine(c_sl01In).mono ?_;rintro _ _ ⟨rfl,x,rfl⟩))
    go_ret
    exact Gives.mk (by rw[HF.out,c1];rfl)
   cases c2:inB z (-1) 600
   ·go_wp2_with (first|(go_at_call 151;refine(c_sl01In).mono ?_;rintro _ _ ⟨rfl,x,rfl⟩))
    go_ret
    exact Gives.mk (by rw[HF.out,c1,c2];rfl)
   cases c3:inB k (-1) 65535
   ·go_wp2_with (first|(go_at_call 151;refine(c_sl01In).mono ?_;rintro _ _ ⟨rfl,x,rfl⟩))
    go_ret
    exact Gives.mk (by rw[HF.out,c1,c2,c3];rfl)
   cases c4:((z == -1) == (k == -1))
   ·go_wp2_with (first|(go_at_call 151;refine(c_sl01In).mono ?_;rintro _ _ ⟨rfl,x,rfl⟩))
    go_ret
    exact Gives.mk (by rw[HF.out,c1,c2,c3,c4];rfl)
   by_cases h6:n=25
   ·have c6:((n:Int) == 25)=true:=by simp;omega
    have HF3:=lH (show fileInOk f z k p=true by rw[HF.out,c1,c2,c3,c4,h6,HA.out];rfl)
    clear HF h6 HA
    go_wp2_with (first|(go_at_call 151;refine(c_sl01In).mono ?_;rintro _ _ ⟨rfl,x,rfl⟩))
    go_ret
    exact Gives.mk (by rw[HF3.out];rfl)
   ·have c6:((n:Int) == 25)=false:=by simp;omega
    have HF3:=lH (show fileInOk f z k p=false by rw[HF.out,c1,c2,c3,c4,decide_eq_false h6];rfl)
    clear HF h6 HA
    go_wp2_with (first|(go_at_call 151;refine(c_sl01In).mono ?_;rintro _ _ ⟨rfl,x,rfl⟩))
    go_ret
    exact Gives.mk (by rw[HF3.out];rfl)
end Go.Proofs.YtbaffippdifbpaaGreat
