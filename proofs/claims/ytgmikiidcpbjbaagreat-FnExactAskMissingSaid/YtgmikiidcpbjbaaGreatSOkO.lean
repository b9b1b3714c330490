/- The contracts of what says whether a board's waiting orders are valid. No condition but on sizes. -/
import Derived.Test.YtgmikiidcpbjbaaGreatSM21
namespace Go.Proofs.YtgmikiidcpbjbaaGreat
set_option linter.unusedVariables false
open Go.ChangeShapes Go.WideShapes Go.ChangeAt Go.RowKit
def waitAsc(s:TWaiting):Option TWaiting→Bool
 | none=>true
 | some q=>!(decide (s.Order.At<q.Order.At) || (s.Order.At == q.Order.At && decide (s.Number<q.Number)))
def waitOk(taken:Int)(L:List TWaiting)(k:Nat)(s:TWaiting):Bool :=
 orderOk s.Order && (inB s.Number 0 (taken - 1) && ((L.take k).all (fun y=>y.Number != s.Number) && waitAsc s (prevOf L k)))
def ordersFrom(taken:Int)(L:List TWaiting):Nat→List TWaiting→Bool
 | _,[]=>true
 | k,s::r=>waitOk taken L k s && ordersFrom taken L (k+1) r
def ordersOk(taken:Int)(L:List TWaiting):Bool:=decide ((L.length:Int)≤40) && ordersFrom taken L 0 L
theorem firstAt_no{L r:List TWaiting}{s:TWaiting}{k:Nat}(h:L.drop k=s::r):(firstAt s.Number 0 L=(k:Int))↔(L.take k).all (fun y=>y.Number != s.Number)=true:=by
 have:=firstAt_is (q:=s.Number) rfl L 0 k h
 rw[Nat.zero_add]at this
 rw[this,List.all_eq_true]
 simp
set_option maxRecDepth 100000 in
set_option maxHeartbeats 2000000 in
theorem k_iordersOk{B n:Nat}{a:Option Addr}{c:Nat}{taken:Int}{l:List TWaiting}{w0 w:World}(hs0:RdS B w0 a c l:=by first|assumption|(apply Sl.to<;>first|assumption|infer_instance)|omega)[g:Keeps B w0 w](hn:l.length=n:=by first|assumption|(apply Sl.to<;>first|assumption|infer_instance)|omega)(hm:n≤100000000:=by first|assumption|(apply Sl.to<;>first|assumption|infer_instance)|omega)(ht0:0≤taken:=by first|assumption|(apply Sl.to<;>first|assumption|infer_instance)|omega)(ht1:taken≤65535:=by first|assumption|(apply Sl.to<;>first|assumption|infer_instance)|omega) :
  Calls Tryz.prog 399 #[.slice a n c,.int .i64 taken] w (Gives w (.bool (ordersOk taken l))):=by
 have HN:=lH hn
 have hs:=hs0.to g;clear hs0
 have HD:=lH (show ordersOk taken l=(decide ((n:Int)≤40) && ordersFrom taken l 0 l)by rw[ordersOk,hn])
 by_cases h40:n≤40
 ·have k40:decide (40<(n:Int))=false:=by simp;omega
  have HD2:=lH (show ordersOk taken l=ordersFrom taken l 0 l by rw[HD.out,decide_eq_true (by omega)];rfl)
  clear HD
  go_enter Tryz.func399,Tryz.ntmps399
  go_wp2_with fail
  go_loopw [13] (fun v wr=>∃ k:Nat,v=.int .i64 k∧k≤n∧Hid (ordersFrom taken l k (l.drop k)=ordersFrom taken l 0 l)∧∃ y:Later w,wr=y.w) (fun v _=>(n - intOf v).toNat)
  case atStart=>exact⟨0,rfl,by omega,rfl,Later.of⟩
  case round =>
   obtain⟨k,rfl,hk,HV,y,rfl⟩:=hrel
   by_cases h:k<n
   ·have hkl:k<l.length:=by have:=HN.out;omega
    obtain⟨eb,eoff,es,rfl,ehb,ehd,eok,eh0,eh1,eh2,eh3,eh4⟩:=hs.atTWaiting hkl
    have EOK:=lH eok;clear eok hkl
    cases d1:orderOk es.Order
    ·have HF:=lH (show ordersOk taken l=false by have:=HV.out;rw[ehd.out,ordersFrom,waitOk,d1]at this;rw[HD2.out,← this];rfl)
     go_wp2_with (first|(go_at_call 169;refine(k_iOrderOk).mono ?_;rintro _ _ ⟨rfl,x,rfl⟩))
     go_ret
     exact Gives.mk (by rw[HF.out];rfl)
    cases d2:inB es.Number 0 (taken - 1)
    ·have HF:=lH (show ordersOk taken l=false by have:=HV.out;rw[ehd.out,ordersFrom,waitOk,d1,d2]at this;rw[HD2.out,← this];rfl)
     go_wp2_with (first|(go_at_call 156;refine(c_ibetween).mono ?_;rintro _ _ ⟨rfl,x,rfl⟩)|(go_at_call 169;refine(k_iOrderOk).mono ?_;rintro _ _ ⟨rfl,x,rfl⟩))
     go_ret
     exact Gives.mk (by rw[HF.out];rfl)
    cases d3:(l.take k).all (fun y=>y.Number != es.Number)
    ·have HF:=lH (show ordersOk taken l=false by have:=HV.out;rw[ehd.out,ordersFrom,waitOk,d1,d2,d3]at this;rw[HD2.out,← this];rfl)
     have e3:(firstAt es.Number 0 l == (k:Int))=false:=by
      have:=(not_congr (firstAt_no ehd.out)).2 (by rw[d3];simp)
      simp[this]
     have e4:(firstAt es.Number 0 l != (k:Int))=true:=by rw[bne,e3];rfl
     clear d3
     go_wp2_with (first|(go_at_call 156;refine(c_ibetween).mono ?_;rintro _ _ ⟨rfl,x,rfl⟩)|(go_at_call 169;refine(k_iOrderOk).mono ?_;rintro _ _ ⟨rfl,x,rfl⟩)|(go_at_call 401;refine(k_iindexOfOrder).mono ?_;rintro _ _ ⟨rfl,x,rfl⟩))
     go_ret
     exact Gives.mk (by rw[HF.out];rfl)
    have e3:(firstAt es.Number 0 l == (k:Int))=true:=by
     have:=(firstAt_no ehd.out).2 d3
     simp[this]
    have e4:(firstAt es.Number 0 l != (k:Int))=false:=by rw[bne,e3];rfl
    by_cases hz0:k=0
    ·have HF:=lH (show ordersFrom taken l (k+1) (l.drop (k+1))=ordersFrom taken l 0 l by have:=HV.out;rw[ehd.out,ordersFrom,waitOk,d1,d2,d3]at this;rw[← this];simp[prevOf,hz0,waitAsc])
     have hz':((k:Int) == 0)=true:=by simp[hz0]
     clear d3 hz0
     go_wp2_with (first|(go_at_call 156;refine(c_ibetween).mono ?_;rintro _ _ ⟨rfl,x,rfl⟩)|(go_at_call 169;refine(k_iOrderOk).mono ?_;rintro _ _ ⟨rfl,x,rfl⟩)|(go_at_call 401;refine(k_iindexOfOrder).mono ?_;rintro _ _ ⟨rfl,x,rfl⟩))
     go_roundw
     case rel=>exact⟨k+1,by go_num,by omega,HF,Later.of⟩
     case measure=>simp[intOf];omega
    ·obtain⟨fb,foff,fs,hbo,fhb,fhd,fok,fh0,fh1,fh2,fh3,fh4⟩:=hs.atTWaiting (show k - 1<l.length by have:=HN.out;omega)
     simp only[Option.some.injEq,Addr.mk.injEq,and_true]at hbo
     obtain⟨rfl,rfl⟩:=hbo
     have FOK:=lH fok;clear fok
     have hz':((k:Int) == 0)=false:=by simp;omega
     have hp:prevOf l k=some fs:=by have:=prevOf_succ fhd.out;rwa[show k - 1+1=k from by omega]at this
     have HP:=lH hp;clear hp
     cases f1:decide (es.Order.At<fs.Order.At)
     ·cases f2:(es.Order.At == fs.Order.At)
      ·have HF:=lH (show ordersFrom taken l (k+1) (l.drop (k+1))=ordersFrom taken l 0 l by have:=HV.out;rw[ehd.out,ordersFrom,waitOk,d1,d2,d3,HP.out,waitAsc,f1,f2]at this;exact this)
       clear d3
       go_wp2_with (first|(go_at_call 156;refine(c_ibetween).mono ?_;rintro _ _ ⟨rfl,x,rfl⟩)|(go_at_call 169;refine(k_iOrderOk).mono ?_;rintro _ _ ⟨rfl,x,rfl⟩)|(go_at_call 401;refine(k_iindexOfOrder).mono ?_;rintro _ _ ⟨rfl,x,rfl⟩))
       go_roundw
       case rel=>exact⟨k+1,by go_num,by omega,HF,Later.of⟩
       case measure=>simp[intOf];omega
      ·cases f3:decide (es.Number<fs.Number)
       ·have HF:=lH (show ordersFrom taken l (k+1) (l.drop (k+1))=ordersFrom taken l 0 l by have:=HV.out;rw[ehd.out,ordersFrom,waitOk,d1,d2,d3,HP.out,waitAsc,f1,f2,f3]at this;exact this)
        have F2:=lH f2
        clear d3
        go_wp2_with (first|(go_at_call 156;refine(c_ibetween).mono ?_;rintro _ _ ⟨rfl,x,rfl⟩)|(go_at_call 169;refine(k_iOrderOk).mono ?_;rintro _ _ ⟨rfl,x,rfl⟩)|(go_at_call 401;refine(k_iindexOfOrder).mono ?_;rintro _ _ ⟨rfl,x,rfl⟩))
        go_roundw
        case rel=>exact⟨k+1,by go_num,by omega,HF,Later.of⟩
        case measure=>simp[intOf];omega
       ·have HF:=lH (show ordersOk taken l=false by have:=HV.out;rw[ehd.out,ordersFrom,waitOk,d1,d2,d3,HP.out,waitAsc,f1,f2,f3]at this;rw[HD2.out,← this];rfl)
        clear d3
        go_wp2_with (first|(go_at_call 156;refine(c_ibetween).mono ?_;rintro _ _ ⟨rfl,x,rfl⟩)|(go_at_call 169;refine(k_iOrderOk).mono ?_;rintro _ _ ⟨rfl,x,rfl⟩)|(go_at_call 401;refine(k_iindexOfOrder).mono ?_;rintro _ _ ⟨rfl,x,rfl⟩))
        go_ret
        exact Gives.mk (by rw[HF.out];rfl)
     ·have HF:=lH (show ordersOk taken l=false by have:=HV.out;rw[ehd.out,ordersFrom,waitOk,d1,d2,d3,HP.out,waitAsc,f1]at this;rw[HD2.out,← this];rfl)
      clear d3
      go_wp2_with (first|(go_at_call 156;refine(c_ibetween).mono ?_;rintro _ _ ⟨rfl,x,rfl⟩)|(go_at_call 169;refine(k_iOrderOk).mono ?_;rintro _ _ ⟨rfl,x,rfl⟩)|(go_at_call 401;refine(k_iindexOfOrder).mono ?_;rintro _ _ ⟨rfl,x,rfl⟩))
      go_ret
      exact Gives.mk (by rw[HF.out];rfl)
   ·have HF:=lH (show ordersOk taken l=true by have:=HV.out;rw[List.drop_of_length_le (by have:=HN.out;omega),ordersFrom]at this;rw[HD2.out,← this])
    go_wp2_with fail
    go_ret
    exact Gives.mk (by rw[HF.out];rfl)
 ·have k40:decide (40<(n:Int))=true:=by simp;omega
  have HD2:=lH (show ordersOk taken l=false by rw[HD.out,decide_eq_false (by omega)];rfl)
  go_enter Tryz.func399,Tryz.ntmps399
  go_wp2_with fail
  go_ret
  exact Gives.mk (by rw[HD2.out];rfl)
end Go.Proofs.YtgmikiidcpbjbaaGreat
