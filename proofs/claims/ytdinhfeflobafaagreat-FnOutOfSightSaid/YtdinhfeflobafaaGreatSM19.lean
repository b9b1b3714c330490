/- The contracts of valid senders and receivers of files, for their Lean types, both sides. No condition but on sizes. -/
import Derived.Test.YtdinhfeflobafaaGreatSOkR
import Derived.Test.YtdinhfeflobafaaGreatSM12
import Derived.Test.YtdinhfeflobafaaGreatSSlots2
import Derived.Test.YtdinhfeflobafaaGreatSM5
import Derived.Test.YtdinhfeflobafaaGreatSStab3
import Derived.Laws.ByValue
namespace Go.Proofs.YtdinhfeflobafaaGreat
set_option linter.unusedVariables false
open Go.ChangeShapes Go.WideShapes Go.ChangeAt Go.RowKit
theorem RdS.slStr{B:Nat}{w:World}{a:Option Addr}{c:Nat}{l:List ByteArray}(h:RdS B w a c l):Sl encStr w a l:=fun i s hx=>by
 obtain⟨b,off,vs,h0,-,h2,h3,h4⟩:=h.2.2.2 i s hx
 exact⟨b,off,h0,h2,fun j v hv=>by
  obtain⟨rfl,-⟩:=h3
  have:=h4 j v hv
  rw[show Enc.size ByteArray=(encStr s).length from rfl]at this
  exact this⟩
def fileOutOkT(f:TFileOut):Bool:=fileOutOk f.File f.Data.size f.Queue
def fileInOkT(f:TFileIn):Bool:=fileInOk f.File f.Size f.Check f.Parts
theorem k_iFileOutOk{B n:Nat}{a:Option Addr}{c:Nat}{f:TFileOut}{w0 w:World}(hs0:RdS B w0 a c f.Queue:=by first|assumption|(apply Sl.to<;>first|assumption|infer_instance)|omega)[g:Keeps B w0 w](hn:f.Queue.length=n:=by first|assumption|(apply Sl.to<;>first|assumption|infer_instance)|omega)(hm:n≤100000000:=by first|assumption|(apply Sl.to<;>first|assumption|infer_instance)|omega)(hz:f.Data.size≤100000000:=by first|assumption|(apply Sl.to<;>first|assumption|infer_instance)|omega) :
  Calls Tryz.prog 155 #[.agg #[.int .i64 f.File,.string f.Data,.slice a n c,.bool f.Done]] w (Gives w (.bool (fileOutOkT f))) :=
 c_iFileOutOk (hs0.to g).toSlInt hn (by omega) hz
theorem k_sFileOutOk{B n:Nat}{a:Option Addr}{c:Nat}{f:TFileOut}{w0 w:World}(hs0:RdS B w0 a c f.Queue:=by first|assumption|(apply Sl.to<;>first|assumption|infer_instance)|omega)[g:Keeps B w0 w](hn:f.Queue.length=n:=by first|assumption|(apply Sl.to<;>first|assumption|infer_instance)|omega)(hm:n≤100000000:=by first|assumption|(apply Sl.to<;>first|assumption|infer_instance)|omega)(hz:f.Data.size≤100000000:=by first|assumption|(apply Sl.to<;>first|assumption|infer_instance)|omega) :
  Calls Tryz.prog 117 #[.agg #[.int .i64 f.File,.string f.Data,.slice a n c,.bool f.Done]] w (Gives w (.bool (fileOutOkT f))) :=
 c_sFileOutOk (hs0.to g).toSlInt hn (by omega) hz
theorem k_iFileInOk{B n:Nat}{a:Option Addr}{c:Nat}{f:TFileIn}{w0 w:World}(hs0:RdS B w0 a c f.Parts:=by first|assumption|(apply Sl.to<;>first|assumption|infer_instance)|omega)[g:Keeps B w0 w](hn:f.Parts.length=n:=by first|assumption|(apply Sl.to<;>first|assumption|infer_instance)|omega)(hm:n≤100000000:=by first|assumption|(apply Sl.to<;>first|assumption|infer_instance)|omega)(hz:∀ s∈f.Parts,s.size≤100000000:=by first|assumption|(apply Sl.to<;>first|assumption|infer_instance)|omega) :
  Calls Tryz.prog 211 #[.agg #[.int .i64 f.File,.int .i64 f.Size,.int .i64 f.Check,.slice a n c]] w (Gives w (.bool (fileInOkT f))) :=
 c_iFileInOk (hs0.to g).slStr hn (by omega) hz
theorem k_sFileInOk{B n:Nat}{a:Option Addr}{c:Nat}{f:TFileIn}{w0 w:World}(hs0:RdS B w0 a c f.Parts:=by first|assumption|(apply Sl.to<;>first|assumption|infer_instance)|omega)[g:Keeps B w0 w](hn:f.Parts.length=n:=by first|assumption|(apply Sl.to<;>first|assumption|infer_instance)|omega)(hm:n≤100000000:=by first|assumption|(apply Sl.to<;>first|assumption|infer_instance)|omega)(hz:∀ s∈f.Parts,s.size≤100000000:=by first|assumption|(apply Sl.to<;>first|assumption|infer_instance)|omega) :
  Calls Tryz.prog 225 #[.agg #[.int .i64 f.File,.int .i64 f.Size,.int .i64 f.Check,.slice a n c]] w (Gives w (.bool (fileInOkT f))) :=
 c_sFileInOk (hs0.to g).slStr hn (by omega) hz
theorem RdS.toSlPair{B:Nat}{w:World}{a:Option Addr}{c:Nat}{l:List Pair}(h:RdS B w a c l):Sl encPair w a l:=fun i s hx=>by
 obtain⟨b,off,vs,h0,-,h2,h3,h4⟩:=h.2.2.2 i s hx
 exact⟨b,off,h0,h2,fun j v hv=>by
  obtain⟨rfl,-⟩:=h3
  have:=h4 j v hv
  rw[show Enc.size Pair=(encPair s).length from rfl]at this
  exact this⟩
def driftOkT(x:TDrift):Bool:=driftOk x.Rate x.Offset
def orbitOkT(x:TOrbit):Bool:=orbitOk x.Period x.Start x.Length
theorem k_iDriftOk{x:TDrift}{w:World}:Calls Tryz.prog 144 #[.agg #[.int .i64 x.Rate,.int .i64 x.Offset]] w (Gives w (.bool (driftOkT x))):=c_iDriftOk
theorem k_iOrbitOk{x:TOrbit}{w:World}:Calls Tryz.prog 145 #[.agg #[.int .i64 x.Period,.int .i64 x.Start,.int .i64 x.Length]] w (Gives w (.bool (orbitOkT x))):=c_iOrbitOk
theorem k_iPairsOk{B n:Nat}{a:Option Addr}{c:Nat}{l:List Pair}{w0 w:World}(hs0:RdS B w0 a c l:=by first|assumption|(apply Sl.to<;>first|assumption|infer_instance)|omega)[g:Keeps B w0 w](hn:l.length=n:=by first|assumption|(apply Sl.to<;>first|assumption|infer_instance)|omega)(hm:n≤100000000:=by first|assumption|(apply Sl.to<;>first|assumption|infer_instance)|omega) :
  Calls Tryz.prog 248 #[.slice a n c] w (Gives w (.bool (pairsOk l))):=c_iPairsOk (hs0.to g).toSlPair hn (by omega)
theorem k_iflightsOkN{B n:Nat}{a:Option Addr}{c:Nat}{l:List TFlight}{w0 w:World}(hs0:RdS B w0 a c l)[g:Keeps B w0 w](hn:l.length=n)(hm:n≤100000000) :
  Calls Tryz.prog 147 #[.slice a n c] w (Gives w (.bool (flightsOk l))):=by
 subst hn;exact k_iflightsOk (hs0.to g) hm
theorem k_irecordsOkN{B n:Nat}{a:Option Addr}{c:Nat}{l:List TRecord}{w0 w:World}(hs0:RdS B w0 a c l:=by first|assumption|(apply Sl.to<;>first|assumption|infer_instance)|omega)[g:Keeps B w0 w](hn:l.length=n:=by first|assumption|(apply Sl.to<;>first|assumption|infer_instance)|omega)(hm:n≤100000000:=by first|assumption|(apply Sl.to<;>first|assumption|infer_instance)|omega) :
  Calls Tryz.prog 249 #[.slice a n c] w (Gives w (.bool (recordsOk l))):=by
 subst hn;exact k_irecordsOk (hs0.to g) hm
theorem k_iSenderOkN{B n:Nat}{a:Option Addr}{c:Nat}{sd:TSender}{w0 w:World}(hs0:RdS B w0 a c sd.Waiting:=by first|assumption|(apply Sl.to<;>first|assumption|infer_instance)|omega)[g:Keeps B w0 w](hn:sd.Waiting.length=n:=by first|assumption|(apply Sl.to<;>first|assumption|infer_instance)|omega)(hm:n≤100000000:=by first|assumption|(apply Sl.to<;>first|assumption|infer_instance)|omega)(hi:okDTSender sd:=by first|assumption|(apply Sl.to<;>first|assumption|infer_instance)|omega) :
  Calls Tryz.prog 192 #[.agg #[.int .i64 sd.Next,.int .i64 sd.Window,.slice a n c,.int .i64 sd.Done]] w (Gives w (.bool (senderOk sd))):=by
 subst hn;exact k_iSenderOk (hs0.to g) hm hi
theorem k_iPackerOkN{B n:Nat}{a:Option Addr}{c:Nat}{p:TPacker}{w0 w:World}(hs0:RdS B w0 a c p.Starts:=by first|assumption|(apply Sl.to<;>first|assumption|infer_instance)|omega)[g:Keeps B w0 w](hn:p.Starts.length=n:=by first|assumption|(apply Sl.to<;>first|assumption|infer_instance)|omega)(hm:n≤100000000:=by first|assumption|(apply Sl.to<;>first|assumption|infer_instance)|omega)(hz:p.Rest.size≤100000000:=by first|assumption|(apply Sl.to<;>first|assumption|infer_instance)|omega) :
  Calls Tryz.prog 251 #[.agg #[.int .i64 p.Channel,.int .i64 p.Count,.string p.Rest,.slice a n c]] w (Gives w (.bool (packerOk p))):=by
 subst hn;exact k_iPackerOk (hs0.to g) hm hz
theorem k_sDriftOk{x:TDrift}{w:World}:Calls Tryz.prog 89 #[.agg #[.int .i64 x.Rate,.int .i64 x.Offset]] w (Gives w (.bool (driftOkT x))):=c_sDriftOk
theorem k_sOrbitOk{x:TOrbit}{w:World}:Calls Tryz.prog 109 #[.agg #[.int .i64 x.Period,.int .i64 x.Start,.int .i64 x.Length]] w (Gives w (.bool (orbitOkT x))):=c_sOrbitOk
theorem k_sPairsOk{B n:Nat}{a:Option Addr}{c:Nat}{l:List Pair}{w0 w:World}(hs0:RdS B w0 a c l:=by first|assumption|(apply Sl.to<;>first|assumption|infer_instance)|omega)[g:Keeps B w0 w](hn:l.length=n:=by first|assumption|(apply Sl.to<;>first|assumption|infer_instance)|omega)(hm:n≤100000000:=by first|assumption|(apply Sl.to<;>first|assumption|infer_instance)|omega) :
  Calls Tryz.prog 223 #[.slice a n c] w (Gives w (.bool (pairsOk l))):=c_sPairsOk (hs0.to g).toSlPair hn (by omega)
theorem k_sflightsOkN{B n:Nat}{a:Option Addr}{c:Nat}{l:List TFlight}{w0 w:World}(hs0:RdS B w0 a c l)[g:Keeps B w0 w](hn:l.length=n)(hm:n≤100000000) :
  Calls Tryz.prog 111 #[.slice a n c] w (Gives w (.bool (flightsOk l))):=by
 subst hn;exact k_sflightsOk (hs0.to g) hm
theorem k_srecordsOkN{B n:Nat}{a:Option Addr}{c:Nat}{l:List TRecord}{w0 w:World}(hs0:RdS B w0 a c l:=by first|assumption|(apply Sl.to<;>first|assumption|infer_instance)|omega)[g:Keeps B w0 w](hn:l.length=n:=by first|assumption|(apply Sl.to<;>first|assumption|infer_instance)|omega)(hm:n≤100000000:=by first|assumption|(apply Sl.to<;>first|assumption|infer_instance)|omega) :
  Calls Tryz.prog 224 #[.slice a n c] w (Gives w (.bool (recordsOk l))):=by
 subst hn;exact k_srecordsOk (hs0.to g) hm
theorem k_sSenderOkN{B n:Nat}{a:Option Addr}{c:Nat}{sd:TSender}{w0 w:World}(hs0:RdS B w0 a c sd.Waiting:=by first|assumption|(apply Sl.to<;>first|assumption|infer_instance)|omega)[g:Keeps B w0 w](hn:sd.Waiting.length=n:=by first|assumption|(apply Sl.to<;>first|assumption|infer_instance)|omega)(hm:n≤100000000:=by first|assumption|(apply Sl.to<;>first|assumption|infer_instance)|omega)(hi:okDTSender sd:=by first|assumption|(apply Sl.to<;>first|assumption|infer_instance)|omega) :
  Calls Tryz.prog 186 #[.agg #[.int .i64 sd.Next,.int .i64 sd.Window,.slice a n c,.int .i64 sd.Done]] w (Gives w (.bool (senderOk sd))):=by
 subst hn;exact k_sSenderOk (hs0.to g) hm hi
theorem k_sPackerOkN{B n:Nat}{a:Option Addr}{c:Nat}{p:TPacker}{w0 w:World}(hs0:RdS B w0 a c p.Starts:=by first|assumption|(apply Sl.to<;>first|assumption|infer_instance)|omega)[g:Keeps B w0 w](hn:p.Starts.length=n:=by first|assumption|(apply Sl.to<;>first|assumption|infer_instance)|omega)(hm:n≤100000000:=by first|assumption|(apply Sl.to<;>first|assumption|infer_instance)|omega)(hz:p.Rest.size≤100000000:=by first|assumption|(apply Sl.to<;>first|assumption|infer_instance)|omega) :
  Calls Tryz.prog 227 #[.agg #[.int .i64 p.Channel,.int .i64 p.Count,.string p.Rest,.slice a n c]] w (Gives w (.bool (packerOk p))):=by
 subst hn;exact k_sPackerOk (hs0.to g) hm hz
def firstAt(q:Int):Nat→List TWaiting→Int
 | _,[]=>-1
 | k,s::r=>if s.Number=q then(k:Int)else firstAt q (k+1) r
theorem firstAt_is{q:Int}{s:TWaiting}{r:List TWaiting}(hs:s.Number=q):∀ (l:List TWaiting) (k j:Nat),l.drop j=s::r→(firstAt q k l=((k+j:Nat):Int)↔∀ y∈l.take j,y.Number≠q)
 | [],_,j,h=>by simp at h
 | y::t,k,0,h=>by
  rw[List.drop_zero]at h
  injection h with h1 h2
  rw[firstAt,h1,if_pos hs]
  simp
 | y::t,k,j+1,h=>by
  rw[List.drop_succ_cons]at h
  rw[firstAt,List.take_succ_cons]
  by_cases hy:y.Number=q
  ·rw[if_pos hy]
   constructor
   ·intro e;omega
   ·intro e;exact absurd hy (e y (by simp))
  ·rw[if_neg hy,show((k+(j+1):Nat):Int)=((k+1+j:Nat):Int)from by omega,firstAt_is hs t (k+1) j h]
   constructor
   ·intro e z hz
    rcases List.mem_cons.1 hz with h1|h1
    ·rw[h1];exact hy
    ·exact e z h1
   ·intro e z hz
    exact e z (List.mem_cons_of_mem _ hz)
theorem k_iindexOfOrder{B n:Nat}{a:Option Addr}{c:Nat}{q:Int}{l:List TWaiting}{w0 w:World}(hs0:RdS B w0 a c l:=by first|assumption|(apply Sl.to<;>first|assumption|infer_instance)|omega)[g:Keeps B w0 w](hn:l.length=n:=by first|assumption|(apply Sl.to<;>first|assumption|infer_instance)|omega)(hm:n≤100000000:=by first|assumption|(apply Sl.to<;>first|assumption|infer_instance)|omega) :
  Calls Tryz.prog 256 #[.slice a n c,.int .i64 q] w (Gives w (.int .i64 (firstAt q 0 l))):=by
 have HN:=lH hn
 have hs:=hs0.to g;clear hs0
 clear hn
 go_enter Tryz.func256,Tryz.ntmps256
 go_wp2_with (first|((with_reducible refine wp_region_later (by kernel_rfl) (by kernel_rfl) ?_);(repeat(first|go_big_quiet_step (first|fail)));refine wpQuiet_nil ?_;rintro _ ⟨x,rfl⟩))
 go_loopw [9] (fun v wr=>∃ k:Nat,v=.int .i64 k∧k≤n∧Hid (firstAt q k (l.drop k)=firstAt q 0 l)∧∃ y:Later w,wr=y.w) (fun v _=>(n - intOf v).toNat)
 case atStart=>exact⟨0,rfl,by omega,rfl,Later.of⟩
 case round =>
  obtain⟨k,rfl,hk,HV,y,rfl⟩:=hrel
  by_cases h:k<n
  ·have hkl:k<l.length:=by have:=HN.out;omega
   obtain⟨eb,eoff,es,rfl,ehb,ehd,eok,eh0,eh1,eh2,eh3,eh4⟩:=hs.atTWaiting hkl
   have EOK:=lH eok;clear eok hkl
   by_cases hq:es.Number=q
   ·have kq:(es.Number == q)=true:=by simp[hq]
    have HF:=lH (show(k:Int)=firstAt q 0 l by have:=HV.out;rw[ehd.out,firstAt,if_pos hq]at this;exact this)
    clear hq
    go_wp2_with (first|((with_reducible refine wp_region_later (by kernel_rfl) (by kernel_rfl) ?_);(repeat(first|go_big_quiet_step (first|fail)|simp only[kq]));refine wpQuiet_nil ?_;rintro _ ⟨x,rfl⟩))
    go_ret
    exact Gives.mk (by rw[← HF.out];rfl)
   ·have kq:(es.Number == q)=false:=by simp[hq]
    have HF:=lH (show firstAt q (k+1) (l.drop (k+1))=firstAt q 0 l by have:=HV.out;rw[ehd.out,firstAt,if_neg hq]at this;exact this)
    clear hq
    go_wp2_with (first|((with_reducible refine wp_region_later (by kernel_rfl) (by kernel_rfl) ?_);(repeat(first|go_big_quiet_step (first|fail)|simp only[kq]));refine wpQuiet_nil ?_;rintro _ ⟨x,rfl⟩))
    go_roundw
    case rel=>exact⟨k+1,by go_num,by omega,HF,Later.of⟩
    case measure=>simp[intOf];omega
  ·have HF:=lH (show -1=firstAt q 0 l by have:=HV.out;rw[List.drop_of_length_le (by have:=HN.out;omega),firstAt]at this;exact this)
   go_wp2_with (first|((with_reducible refine wp_region_later (by kernel_rfl) (by kernel_rfl) ?_);(repeat(first|go_big_quiet_step (first|fail)));refine wpQuiet_nil ?_;rintro _ ⟨x,rfl⟩))
   go_ret
   exact Gives.mk (by rw[← HF.out];rfl)
def waitAsc(s:TWaiting):Option TWaiting→Bool
 | none=>true
 | some q=>!(decide (s.Order.At<q.Order.At) || (s.Order.At == q.Order.At && decide (s.Number<q.Number)))
def waitOk(taken:Int)(L:List TWaiting)(k:Nat)(s:TWaiting):Bool :=
 orderOk s.Order && (inB s.Number 0 (taken - 1) && ((L.take k).all (fun y=>y.Number != s.Number) && waitAsc s (prevOf L k)))
def ordersFrom(taken:Int)(L:List TWaiting):Nat→List TWaiting→Bool
 | _,[]=>true
 | k,s::r=>waitOk taken L k s && ordersFrom taken L (k+1) r
def ordersOk(taken:Int)(L:List TWaiting):Bool:=decide ((L.length:Int)≤40) && ordersFrom taken L 0 L
theorem firstAt_no{L r:List TWaiting}{s:TWaiting}{k:Nat}(h:L.drop k=s::r):(firstAt s.Number 0 L=(k:Int))↔(L.take k).all (fun y=>y.Number != s.Number)=true:=by
 have:=firstAt_is (q:=s.Number) rfl L 0 k h
 rw[Nat.zero_add]at this
 rw[this,List.all_eq_true]
 simp
set_option maxRecDepth 100000 in
set_option maxHeartbeats 2000000 in
theorem k_iordersOk{B n:Nat}{a:Option Addr}{c:Nat}{taken:Int}{l:List TWaiting}{w0 w:World}(hs0:RdS B w0 a c l:=by first|assumption|(apply Sl.to<;>first|assumption|infer_instance)|omega)[g:Keeps B w0 w](hn:l.length=n:=by first|assumption|(apply Sl.to<;>first|assumption|infer_instance)|omega)(hm:n≤100000000:=by first|assumption|(apply Sl.to<;>first|assumption|infer_instance)|omega)(ht0:0≤taken:=by first|assumption|(apply Sl.to<;>first|assumption|infer_instance)|omega)(ht1:taken≤65535:=by first|assumption|(apply Sl.to<;>first|assumption|infer_instance)|omega) :
  Calls Tryz.prog 253 #[.slice a n c,.int .i64 taken] w (Gives w (.bool (ordersOk taken l))):=by
 have HN:=lH hn
 have hs:=hs0.to g;clear hs0
 have HD:=lH (show ordersOk taken l=(decide ((n:Int)≤40) && ordersFrom taken l 0 l)by rw[ordersOk,hn])
 by_cases h40:n≤40
 ·have k40:decide (40<(n:Int))=false:=by simp;omega
  have HD2:=lH (show ordersOk taken l=ordersFrom taken l 0 l by rw[HD.out,decide_eq_true (by omega)];rfl)
  clear HD
  go_enter Tryz.func253,Tryz.ntmps253
  go_wp2_with fail
  go_loopw [13] (fun v wr=>∃ k:Nat,v=.int .i64 k∧k≤n∧Hid (ordersFrom taken l k (l.drop k)=ordersFrom taken l 0 l)∧∃ y:Later w,wr=y.w) (fun v _=>(n - intOf v).toNat)
  case atStart=>exact⟨0,rfl,by omega,rfl,Later.of⟩
  case round =>
   obtain⟨k,rfl,hk,HV,y,rfl⟩:=hrel
   by_cases h:k<n
   ·have hkl:k<l.length:=by have:=HN.out;omega
    obtain⟨eb,eoff,es,rfl,ehb,ehd,eok,eh0,eh1,eh2,eh3,eh4⟩:=hs.atTWaiting hkl
    have EOK:=lH eok;clear eok hkl
    cases d1:orderOk es.Order
    ·have HF:=lH (show ordersOk taken l=false by have:=HV.out;rw[ehd.out,ordersFrom,waitOk,d1]at this;rw[HD2.out,← this];rfl)
     go_wp2_with (first|(go_at_call 255;refine(k_iOrderOk).mono ?_;rintro _ _ ⟨rfl,x,rfl⟩))
     go_ret
     exact Gives.mk (by rw[HF.out];rfl)
    cases d2:inB es.Number 0 (taken - 1)
    ·have HF:=lH (show ordersOk taken l=false by have:=HV.out;rw[ehd.out,ordersFrom,waitOk,d1,d2]at this;rw[HD2.out,← this];rfl)
     go_wp2_with (first|(go_at_call 85;refine(c_ibetween).mono ?_;rintro _ _ ⟨rfl,x,rfl⟩)|(go_at_call 255;refine(k_iOrderOk).mono ?_;rintro _ _ ⟨rfl,x,rfl⟩))
     go_ret
     exact Gives.mk (by rw[HF.out];rfl)
    cases d3:(l.take k).all (fun y=>y.Number != es.Number)
    ·have HF:=lH (show ordersOk taken l=false by have:=HV.out;rw[ehd.out,ordersFrom,waitOk,d1,d2,d3]at this;rw[HD2.out,← this];rfl)
     have e3:(firstAt es.Number 0 l == (k:Int))=false:=by
      have:=(not_congr (firstAt_no ehd.out)).2 (by rw[d3];simp)
      simp[this]
     have e4:(firstAt es.Number 0 l != (k:Int))=true:=by rw[bne,e3];rfl
     clear d3
     go_wp2_with (first|(go_at_call 85;refine(c_ibetween).mono ?_;rintro _ _ ⟨rfl,x,rfl⟩)|(go_at_call 255;refine(k_iOrderOk).mono ?_;rintro _ _ ⟨rfl,x,rfl⟩)|(go_at_call 256;refine(k_iindexOfOrder).mono ?_;rintro _ _ ⟨rfl,x,rfl⟩))
     go_ret
     exact Gives.mk (by rw[HF.out];rfl)
    have e3:(firstAt es.Number 0 l == (k:Int))=true:=by
     have:=(firstAt_no ehd.out).2 d3
     simp[this]
    have e4:(firstAt es.Number 0 l != (k:Int))=false:=by rw[bne,e3];rfl
    by_cases hz0:k=0
    ·have HF:=lH (show ordersFrom taken l (k+1) (l.drop (k+1))=ordersFrom taken l 0 l by have:=HV.out;rw[ehd.out,ordersFrom,waitOk,d1,d2,d3]at this;rw[← this];simp[prevOf,hz0,waitAsc])
     have hz':((k:Int) == 0)=true:=by simp[hz0]
     clear d3 hz0
     go_wp2_with (first|(go_at_call 85;refine(c_ibetween).mono ?_;rintro _ _ ⟨rfl,x,rfl⟩)|(go_at_call 255;refine(k_iOrderOk).mono ?_;rintro _ _ ⟨rfl,x,rfl⟩)|(go_at_call 256;refine(k_iindexOfOrder).mono ?_;rintro _ _ ⟨rfl,x,rfl⟩))
     go_roundw
     case rel=>exact⟨k+1,by go_num,by omega,HF,Later.of⟩
     case measure=>simp[intOf];omega
    ·obtain⟨fb,foff,fs,hbo,fhb,fhd,fok,fh0,fh1,fh2,fh3,fh4⟩:=hs.atTWaiting (show k - 1<l.length by have:=HN.out;omega)
     simp only[Option.some.injEq,Addr.mk.injEq,and_true]at hbo
     obtain⟨rfl,rfl⟩:=hbo
     have FOK:=lH fok;clear fok
     have hz':((k:Int) == 0)=false:=by simp;omega
     have hp:prevOf l k=some fs:=by have:=prevOf_succ fhd.out;rwa[show k - 1+1=k from by omega]at this
     have HP:=lH hp;clear hp
     cases f1:decide (es.Order.At<fs.Order.At)
     ·cases f2:(es.Order.At == fs.Order.At)
      ·have HF:=lH (show ordersFrom taken l (k+1) (l.drop (k+1))=ordersFrom taken l 0 l by have:=HV.out;rw[ehd.out,ordersFrom,waitOk,d1,d2,d3,HP.out,waitAsc,f1,f2]at this;exact this)
       clear d3
       go_wp2_with (first|(go_at_call 85;refine(c_ibetween).mono ?_;rintro _ _ ⟨rfl,x,rfl⟩)|(go_at_call 255;refine(k_iOrderOk).mono ?_;rintro _ _ ⟨rfl,x,rfl⟩)|(go_at_call 256;refine(k_iindexOfOrder).mono ?_;rintro _ _ ⟨rfl,x,rfl⟩))
       go_roundw
       case rel=>exact⟨k+1,by go_num,by omega,HF,Later.of⟩
       case measure=>simp[intOf];omega
      ·cases f3:decide (es.Number<fs.Number)
       ·have HF:=lH (show ordersFrom taken l (k+1) (l.drop (k+1))=ordersFrom taken l 0 l by have:=HV.out;rw[ehd.out,ordersFrom,waitOk,d1,d2,d3,HP.out,waitAsc,f1,f2,f3]at this;exact this)
        have F2:=lH f2
        clear d3
        go_wp2_with (first|(go_at_call 85;refine(c_ibetween).mono ?_;rintro _ _ ⟨rfl,x,rfl⟩)|(go_at_call 255;refine(k_iOrderOk).mono ?_;rintro _ _ ⟨rfl,x,rfl⟩)|(go_at_call 256;refine(k_iindexOfOrder).mono ?_;rintro _ _ ⟨rfl,x,rfl⟩))
        go_roundw
        case rel=>exact⟨k+1,by go_num,by omega,HF,Later.of⟩
        case measure=>simp[intOf];omega
       ·have HF:=lH (show ordersOk taken l=false by have:=HV.out;rw[ehd.out,ordersFrom,waitOk,d1,d2,d3,HP.out,waitAsc,f1,f2,f3]at this;rw[HD2.out,← this];rfl)
        clear d3
        go_wp2_with (first|(go_at_call 85;refine(c_ibetween).mono ?_;rintro _ _ ⟨rfl,x,rfl⟩)|(go_at_call 255;refine(k_iOrderOk).mono ?_;rintro _ _ ⟨rfl,x,rfl⟩)|(go_at_call 256;refine(k_iindexOfOrder).mono ?_;rintro _ _ ⟨rfl,x,rfl⟩))
        go_ret
        exact Gives.mk (by rw[HF.out];rfl)
     ·have HF:=lH (show ordersOk taken l=false by have:=HV.out;rw[ehd.out,ordersFrom,waitOk,d1,d2,d3,HP.out,waitAsc,f1]at this;rw[HD2.out,← this];rfl)
      clear d3
      go_wp2_with (first|(go_at_call 85;refine(c_ibetween).mono ?_;rintro _ _ ⟨rfl,x,rfl⟩)|(go_at_call 255;refine(k_iOrderOk).mono ?_;rintro _ _ ⟨rfl,x,rfl⟩)|(go_at_call 256;refine(k_iindexOfOrder).mono ?_;rintro _ _ ⟨rfl,x,rfl⟩))
      go_ret
      exact Gives.mk (by rw[HF.out];rfl)
   ·have HF:=lH (show ordersOk taken l=true by have:=HV.out;rw[List.drop_of_length_le (by have:=HN.out;omega),ordersFrom]at this;rw[HD2.out,← this])
    go_wp2_with fail
    go_ret
    exact Gives.mk (by rw[HF.out];rfl)
 ·have k40:decide (40<(n:Int))=true:=by simp;omega
  have HD2:=lH (show ordersOk taken l=false by rw[HD.out,decide_eq_false (by omega)];rfl)
  go_enter Tryz.func253,Tryz.ntmps253
  go_wp2_with fail
  go_ret
  exact Gives.mk (by rw[HD2.out];rfl)
set_option maxRecDepth 100000 in
set_option maxHeartbeats 2000000 in
theorem k_sl05Orders{B:Nat}{A:TBoardA}{bd:TBoard}{w0 w:World}(F0:TBoardF B w0 A bd)[g:Keeps B w0 w](hm:bd.Orders.length≤100000000)(ht0:0≤bd.Taken)(ht1:bd.Taken≤65535) :
  Calls Tryz.prog 229 #[.agg #[.int .i64 bd.Clock,.slice A.a0 bd.Params.length A.c0,.bool bd.Safe,.slice A.a1 bd.Limits.length A.c1,.slice A.a2 bd.Orders.length A.c2,.slice A.a3 bd.Done.length A.c3,.int .i64 bd.Recorder.Room,.slice A.a4 bd.Recorder.Records.length A.c4,.slice A.a5 bd.Recorder.Dropped.length A.c5,.int .i64 bd.Made,.int .i64 bd.Taken,.slice A.a6 bd.Asked.length A.c6]] w (Gives w (.bool (ordersOk bd.Taken bd.Orders))):=by
 have hs:=F0.q2.to g;clear F0
 obtain⟨l,hl⟩:∃ l,bd.Orders=l:=⟨_,rfl⟩
 obtain⟨taken,htk⟩:∃ t,bd.Taken=t:=⟨_,rfl⟩
 obtain⟨a,ha⟩:∃ a,A.a2=a:=⟨_,rfl⟩
 obtain⟨n,hn⟩:∃ n,l.length=n:=⟨_,rfl⟩
 rw[hl,ha]at hs
 rw[hl,hn]at hm
 rw[htk]at ht0 ht1
 rw[hl,htk,ha,hn]
 have HN:=lH hn
 clear hl htk ha hn
 have HD:=lH (show ordersOk taken l=(decide ((n:Int)≤40) && ordersFrom taken l 0 l)by rw[ordersOk,HN.out])
 by_cases h40:n≤40
 ·have k40:decide (40<(n:Int))=false:=by simp;omega
  have HD2:=lH (show ordersOk taken l=ordersFrom taken l 0 l by rw[HD.out,decide_eq_true (by omega)];rfl)
  clear HD
  go_enter Tryz.func229,Tryz.ntmps229
  go_wp2_with fail
  go_loopw [3] (fun v wr=>∃ k:Nat,v=.int .i64 k∧k≤n∧Hid (ordersFrom taken l k (l.drop k)=ordersFrom taken l 0 l)∧∃ y:Later (w.alloc (.cells #[.int .i64 bd.Clock,.slice A.a0 bd.Params.length A.c0,.bool bd.Safe,.slice A.a1 bd.Limits.length A.c1,.slice a n A.c2,.slice A.a3 bd.Done.length A.c3,.int .i64 bd.Recorder.Room,.slice A.a4 bd.Recorder.Records.length A.c4,.slice A.a5 bd.Recorder.Dropped.length A.c5,.int .i64 bd.Made,.int .i64 taken,.slice A.a6 bd.Asked.length A.c6] 84)),wr=y.w) (fun v _=>(n - intOf v).toNat)
  case atStart=>exact⟨0,rfl,by omega,rfl,Later.of⟩
  case round =>
   obtain⟨k,rfl,hk,HV,y,rfl⟩:=hrel
   by_cases h:k<n
   ·have hkl:k<l.length:=by have:=HN.out;omega
    obtain⟨eb,eoff,es,rfl,ehb,ehd,eok,eh0,eh1,eh2,eh3,eh4⟩:=hs.atTWaiting hkl
    have EOK:=lH eok;clear eok hkl
    cases d1:orderOk es.Order
    ·have HF:=lH (show ordersOk taken l=false by have:=HV.out;rw[ehd.out,ordersFrom,waitOk,d1]at this;rw[HD2.out,← this];rfl)
     go_wp2_with (first|(go_at_call 82;refine(k_sOrderOk).mono ?_;rintro _ _ ⟨rfl,x,rfl⟩))
     go_ret
     exact Gives.mk (by rw[HF.out];rfl)
    cases d2:inB es.Number 0 (taken - 1)
    ·have HF:=lH (show ordersOk taken l=false by have:=HV.out;rw[ehd.out,ordersFrom,waitOk,d1,d2]at this;rw[HD2.out,← this];rfl)
     go_wp2_with (first|(go_at_call 88;refine(c_sl01In).mono ?_;rintro _ _ ⟨rfl,x,rfl⟩)|(go_at_call 82;refine(k_sOrderOk).mono ?_;rintro _ _ ⟨rfl,x,rfl⟩))
     go_ret
     exact Gives.mk (by rw[HF.out];rfl)
    go_wp2_with (first|(go_at_call 88;refine(c_sl01In).mono ?_;rintro _ _ ⟨rfl,x,rfl⟩)|(go_at_call 82;refine(k_sOrderOk).mono ?_;rintro _ _ ⟨rfl,x,rfl⟩))
    go_loopw [5] (fun v wr=>∃ j:Nat,v=.int .i64 j∧j≤k∧Hid ((l.take j).all (fun z=>z.Number != es.Number)=true)∧∃ z:Later (y.w.alloc (.cells #[.int .i64 es.Number,.int .i64 es.Order.Kind,.int .i64 es.Order.At,.int .i64 es.Order.A,.int .i64 es.Order.B] 168)),wr=z.w) (fun v _=>(k - intOf v).toNat)
    case atStart=>exact⟨0,rfl,by omega,by rw[Hid];rfl,Later.of⟩
    case round =>
     obtain⟨j,rfl,hj,HJ,z,rfl⟩:=hrel
     by_cases hjk:j<k
     ·obtain⟨gb,goff,gs,hbo,ghb,ghd,gok,gh0,gh1,gh2,gh3,gh4⟩:=hs.atTWaiting (show j<l.length by have:=HN.out;omega)
      simp only[Option.some.injEq,Addr.mk.injEq,and_true]at hbo
      obtain⟨rfl,rfl⟩:=hbo
      have GOK:=lH gok;clear gok
      have hT:=lH (show l.take (j+1)=l.take j++[gs]by rw[List.take_succ_eq_append_getElem (by have:=HN.out;omega)];congr 1;have h0:(l.drop j)[0]?=some gs:=(by rw[ghd.out];rfl);rw[List.getElem?_drop]at h0;simp at h0;obtain⟨_,h0⟩:=List.getElem?_eq_some_iff.1 h0;rw[h0])
      cases e1:(gs.Number == es.Number)
      ·have HJ2:=lH (show(l.take (j+1)).all (fun z=>z.Number != es.Number)=true by rw[hT.out,List.all_append,HJ.out];simp only[List.all_cons,List.all_nil,bne,e1];rfl)
       go_wp2_with (first|((with_reducible refine wp_region_later (by kernel_rfl) (by kernel_rfl) ?_);(repeat(first|go_big_quiet_step (first|fail)|simp only[e1]));refine wpQuiet_nil ?_;rintro _ ⟨x,rfl⟩))
       go_roundw
       case rel=>exact⟨j+1,by go_num,by omega,HJ2,Later.of⟩
       case measure=>simp[intOf];omega
      ·have HJ2:=lH (show(l.take k).all (fun z=>z.Number != es.Number)=false by have h1:gs∈l.take k:=(List.take_subset_take_left _ (show j+1≤k by omega)) (by rw[hT.out];simp);rw[Bool.eq_false_iff];intro hh;have:=List.all_eq_true.1 hh gs h1;rw[bne,e1]at this;cases this)
       have HF:=lH (show ordersOk taken l=false by have:=HV.out;rw[ehd.out,ordersFrom,waitOk,d1,d2,HJ2.out]at this;rw[HD2.out,← this];rfl)
       go_wp2_with (first|((with_reducible refine wp_region_later (by kernel_rfl) (by kernel_rfl) ?_);(repeat(first|go_big_quiet_step (first|fail)|simp only[e1]));refine wpQuiet_nil ?_;rintro _ ⟨x,rfl⟩))
       go_ret
       exact Gives.mk (by rw[HF.out];rfl)
     have ejk:j=k:=by omega
     subst ejk
     have d3:(l.take j).all (fun z=>z.Number != es.Number)=true:=HJ.out
     have EK:=lH d1
     by_cases hz0:j=0
     ·have HF:=lH (show ordersFrom taken l (j+1) (l.drop (j+1))=ordersFrom taken l 0 l by have:=HV.out;rw[ehd.out,ordersFrom,waitOk,d1,d2,d3]at this;rw[← this];simp[prevOf,hz0,waitAsc])
      have hz':decide (0<(j:Int))=false:=by simp;omega
      have hz2:decide (0<j)=false:=by simp;omega
      clear d3 hz0
      go_wp2_with (first|((with_reducible refine wp_region_later (by kernel_rfl) (by kernel_rfl) ?_);(repeat(first|go_big_quiet_step (first|fail)|simp only[hz']|simp only[hz2]));refine wpQuiet_nil ?_;rintro _ ⟨x,rfl⟩))
      go_roundw
      case rel=>exact⟨j+1,by go_num,by omega,HF,Later.of⟩
      case measure=>simp[intOf];omega
     ·obtain⟨fb,foff,fs,hbo,fhb,fhd,fok,fh0,fh1,fh2,fh3,fh4⟩:=hs.atTWaiting (show j - 1<l.length by have:=HN.out;omega)
      simp only[Option.some.injEq,Addr.mk.injEq,and_true]at hbo
      obtain⟨rfl,rfl⟩:=hbo
      have FOK:=lH fok;clear fok
      have hz':decide (0<(j:Int))=true:=by simp;omega
      have hz2:decide (0<j)=true:=by simp;omega
      have hp:prevOf l j=some fs:=by have:=prevOf_succ fhd.out;rwa[show j - 1+1=j from by omega]at this
      have HP:=lH hp;clear hp
      cases f1:decide (es.Order.At<fs.Order.At)
      ·cases f2:(es.Order.At == fs.Order.At)
       ·have HF:=lH (show ordersFrom taken l (j+1) (l.drop (j+1))=ordersFrom taken l 0 l by have:=HV.out;rw[ehd.out,ordersFrom,waitOk,d1,d2,d3,HP.out,waitAsc,f1,f2]at this;exact this)
        clear d3
        go_wp2_with (first|((with_reducible refine wp_region_later (by kernel_rfl) (by kernel_rfl) ?_);(repeat(first|go_big_quiet_step (first|fail)|simp only[hz']|simp only[hz2]|simp only[f1]|simp only[f2]));refine wpQuiet_nil ?_;rintro _ ⟨x,rfl⟩))
        go_roundw
        case rel=>exact⟨j+1,by go_num,by omega,HF,Later.of⟩
        case measure=>simp[intOf];omega
       ·cases f3:decide (es.Number<fs.Number)
        ·have HF:=lH (show ordersFrom taken l (j+1) (l.drop (j+1))=ordersFrom taken l 0 l by have:=HV.out;rw[ehd.out,ordersFrom,waitOk,d1,d2,d3,HP.out,waitAsc,f1,f2,f3]at this;exact this)
         have F2:=lH f2
         clear d3
         go_wp2_with (first|((with_reducible refine wp_region_later (by kernel_rfl) (by kernel_rfl) ?_);(repeat(first|go_big_quiet_step (first|fail)|simp only[hz']|simp only[hz2]|simp only[f1]|simp only[f2]|simp only[f3]));refine wpQuiet_nil ?_;rintro _ ⟨x,rfl⟩))
         go_roundw
         case rel=>exact⟨j+1,by go_num,by omega,HF,Later.of⟩
         case measure=>simp[intOf];omega
        ·have HF:=lH (show ordersOk taken l=false by have:=HV.out;rw[ehd.out,ordersFrom,waitOk,d1,d2,d3,HP.out,waitAsc,f1,f2,f3]at this;rw[HD2.out,← this];rfl)
         clear d3
         go_wp2_with (first|((with_reducible refine wp_region_later (by kernel_rfl) (by kernel_rfl) ?_);(repeat(first|go_big_quiet_step (first|fail)|simp only[hz']|simp only[hz2]|simp only[f1]|simp only[f2]|simp only[f3]));refine wpQuiet_nil ?_;rintro _ ⟨x,rfl⟩))
         go_ret
         exact Gives.mk (by rw[HF.out];rfl)
      ·have HF:=lH (show ordersOk taken l=false by have:=HV.out;rw[ehd.out,ordersFrom,waitOk,d1,d2,d3,HP.out,waitAsc,f1]at this;rw[HD2.out,← this];rfl)
       clear d3
       go_wp2_with (first|((with_reducible refine wp_region_later (by kernel_rfl) (by kernel_rfl) ?_);(repeat(first|go_big_quiet_step (first|fail)|simp only[hz']|simp only[hz2]|simp only[f1]));refine wpQuiet_nil ?_;rintro _ ⟨x,rfl⟩))
       go_ret
       exact Gives.mk (by rw[HF.out];rfl)
   ·have HF:=lH (show ordersOk taken l=true by have:=HV.out;rw[List.drop_of_length_le (by have:=HN.out;omega),ordersFrom]at this;rw[HD2.out,← this])
    go_wp2_with fail
    go_ret
    exact Gives.mk (by rw[HF.out];rfl)
 ·have k40:decide (40<(n:Int))=true:=by simp;omega
  have HD2:=lH (show ordersOk taken l=false by rw[HD.out,decide_eq_false (by omega)];rfl)
  go_enter Tryz.func229,Tryz.ntmps229
  go_wp2_with fail
  go_ret
  exact Gives.mk (by rw[HD2.out];rfl)
def limitOk(x:TLimit):Bool:=inB x.Param 0 7 && (inB x.Low 0 65535 && inB x.High 0 65535)
def doneOk(t:Int)(x:TDone):Bool:=inB x.Number 0 (t - 1) && (inB x.Time 0 1000000 && inB x.Result 0 1)
def idOk(t:Int)(x:TRecord):Bool:=!decide (t≤x.Id)
def offerOk(s:ByteArray):Bool:=inB s.size 1 40
def filesFrom:Nat→List TFileIn→Bool
 | _,[]=>true
 | k,y::r=>(fileInOkT y && (y.File == (k:Int))) && filesFrom (k+1) r
def outOk(s:ByteArray)(k:Nat)(y:TFileOut):Bool:=!decide (600<(s.size:Int)) && (fileOutOkT y && ((y.File == (k:Int)) && (y.Data.toList == s.toList)))
def outsFrom(files:List ByteArray):Nat→List TFileOut→Bool
 | _,[]=>true
 | k,y::r=>outOk (files.getD k ByteArray.empty) k y && outsFrom files (k+1) r
def boardOk(b:TBoard):Bool:=inB b.Clock 0 1000000 && (((b.Params.length:Int) == 8) && (allB 0 65535 b.Params && (decide ((b.Limits.length:Int)≤8) && (b.Limits.all limitOk && (inB b.Made 0 65535 && (inB b.Taken 0 65535 && (ordersOk b.Taken b.Orders && (decide ((b.Done.length:Int)≤5000) && (b.Done.all (doneOk b.Taken) && (recorderOk b.Recorder && (b.Recorder.Records.all (idOk b.Made) && (decide ((b.Asked.length:Int)≤5000) && (allB 0 7 b.Asked)))))))))))))
theorem boardOk_no1{b:TBoard}(h:inB b.Clock 0 1000000=false):boardOk b=false:=by rw[boardOk,h];simp
theorem boardOk_no2{b:TBoard}(h:((b.Params.length:Int) == 8)=false):boardOk b=false:=by rw[boardOk,h];simp
theorem boardOk_no3{b:TBoard}(h:allB 0 65535 b.Params=false):boardOk b=false:=by rw[boardOk,h];simp
theorem boardOk_no4{b:TBoard}(h:decide ((b.Limits.length:Int)≤8)=false):boardOk b=false:=by rw[boardOk,h];simp
theorem boardOk_no5{b:TBoard}(h:b.Limits.all limitOk=false):boardOk b=false:=by rw[boardOk,h];simp
theorem boardOk_no6{b:TBoard}(h:inB b.Made 0 65535=false):boardOk b=false:=by rw[boardOk,h];simp
theorem boardOk_no7{b:TBoard}(h:inB b.Taken 0 65535=false):boardOk b=false:=by rw[boardOk,h];simp
theorem boardOk_no8{b:TBoard}(h:ordersOk b.Taken b.Orders=false):boardOk b=false:=by rw[boardOk,h];simp
theorem boardOk_no9{b:TBoard}(h:decide ((b.Done.length:Int)≤5000)=false):boardOk b=false:=by rw[boardOk,h];simp
theorem boardOk_no10{b:TBoard}(h:b.Done.all (doneOk b.Taken)=false):boardOk b=false:=by rw[boardOk,h];simp
theorem boardOk_no11{b:TBoard}(h:recorderOk b.Recorder=false):boardOk b=false:=by rw[boardOk,h];simp
theorem boardOk_no12{b:TBoard}(h:b.Recorder.Records.all (idOk b.Made)=false):boardOk b=false:=by rw[boardOk,h];simp
theorem boardOk_no13{b:TBoard}(h:decide ((b.Asked.length:Int)≤5000)=false):boardOk b=false:=by rw[boardOk,h];simp
theorem boardOk_no14{b:TBoard}(h:allB 0 7 b.Asked=false):boardOk b=false:=by rw[boardOk,h];simp
theorem boardOk_yes{b:TBoard}(h1:inB b.Clock 0 1000000=true)(h2:((b.Params.length:Int) == 8)=true)(h3:allB 0 65535 b.Params=true)(h4:decide ((b.Limits.length:Int)≤8)=true)(h5:b.Limits.all limitOk=true)(h6:inB b.Made 0 65535=true)(h7:inB b.Taken 0 65535=true)(h8:ordersOk b.Taken b.Orders=true)(h9:decide ((b.Done.length:Int)≤5000)=true)(h10:b.Done.all (doneOk b.Taken)=true)(h11:recorderOk b.Recorder=true)(h12:b.Recorder.Records.all (idOk b.Made)=true)(h13:decide ((b.Asked.length:Int)≤5000)=true)(h14:allB 0 7 b.Asked=true):boardOk b=true:=by rw[boardOk,h1,h2,h3,h4,h5,h6,h7,h8,h9,h10,h11,h12,h13,h14];rfl
def groundOk(b:TGround):Bool:=senderOk b.Sender && (unpackerOk b.Unpacker && (pairsOk b.Pairs && ((b.Unpacker.Channel == 0) && (inB b.Notice.Expect 0 255 && (decide ((b.Offers.length:Int)≤200) && (recordsOk b.Records && (b.Offers.all offerOk && (((b.Files.length:Int) == 8) && (((b.Told.length:Int) == 8) && (filesFrom 0 b.Files))))))))))
theorem groundOk_no1{b:TGround}(h:senderOk b.Sender=false):groundOk b=false:=by rw[groundOk,h];simp
theorem groundOk_no2{b:TGround}(h:unpackerOk b.Unpacker=false):groundOk b=false:=by rw[groundOk,h];simp
theorem groundOk_no3{b:TGround}(h:pairsOk b.Pairs=false):groundOk b=false:=by rw[groundOk,h];simp
theorem groundOk_no4{b:TGround}(h:(b.Unpacker.Channel == 0)=false):groundOk b=false:=by rw[groundOk,h];simp
theorem groundOk_no5{b:TGround}(h:inB b.Notice.Expect 0 255=false):groundOk b=false:=by rw[groundOk,h];simp
theorem groundOk_no6{b:TGround}(h:decide ((b.Offers.length:Int)≤200)=false):groundOk b=false:=by rw[groundOk,h];simp
theorem groundOk_no7{b:TGround}(h:recordsOk b.Records=false):groundOk b=false:=by rw[groundOk,h];simp
theorem groundOk_no8{b:TGround}(h:b.Offers.all offerOk=false):groundOk b=false:=by rw[groundOk,h];simp
theorem groundOk_no9{b:TGround}(h:((b.Files.length:Int) == 8)=false):groundOk b=false:=by rw[groundOk,h];simp
theorem groundOk_no10{b:TGround}(h:((b.Told.length:Int) == 8)=false):groundOk b=false:=by rw[groundOk,h];simp
theorem groundOk_no11{b:TGround}(h:filesFrom 0 b.Files=false):groundOk b=false:=by rw[groundOk,h];simp
theorem groundOk_yes{b:TGround}(h1:senderOk b.Sender=true)(h2:unpackerOk b.Unpacker=true)(h3:pairsOk b.Pairs=true)(h4:(b.Unpacker.Channel == 0)=true)(h5:inB b.Notice.Expect 0 255=true)(h6:decide ((b.Offers.length:Int)≤200)=true)(h7:recordsOk b.Records=true)(h8:b.Offers.all offerOk=true)(h9:((b.Files.length:Int) == 8)=true)(h10:((b.Told.length:Int) == 8)=true)(h11:filesFrom 0 b.Files=true):groundOk b=true:=by rw[groundOk,h1,h2,h3,h4,h5,h6,h7,h8,h9,h10,h11];rfl
def spaceOk(b:TSpace):Bool:=receiverOk b.Receiver && (boardOk b.Board && (packerOk b.Packer && ((b.Packer.Channel == 0) && (inB b.Seq 0 65535 && (inB b.Begun 0 b.Board.Asked.length && (recordsOk b.Sent && (((b.Files.length:Int) == 8) && (((b.Outs.length:Int) == 8) && (outsFrom b.Files 0 b.Outs)))))))))
theorem spaceOk_no1{b:TSpace}(h:receiverOk b.Receiver=false):spaceOk b=false:=by rw[spaceOk,h];simp
theorem spaceOk_no2{b:TSpace}(h:boardOk b.Board=false):spaceOk b=false:=by rw[spaceOk,h];simp
theorem spaceOk_no3{b:TSpace}(h:packerOk b.Packer=false):spaceOk b=false:=by rw[spaceOk,h];simp
theorem spaceOk_no4{b:TSpace}(h:(b.Packer.Channel == 0)=false):spaceOk b=false:=by rw[spaceOk,h];simp
theorem spaceOk_no5{b:TSpace}(h:inB b.Seq 0 65535=false):spaceOk b=false:=by rw[spaceOk,h];simp
theorem spaceOk_no6{b:TSpace}(h:inB b.Begun 0 b.Board.Asked.length=false):spaceOk b=false:=by rw[spaceOk,h];simp
theorem spaceOk_no7{b:TSpace}(h:recordsOk b.Sent=false):spaceOk b=false:=by rw[spaceOk,h];simp
theorem spaceOk_no8{b:TSpace}(h:((b.Files.length:Int) == 8)=false):spaceOk b=false:=by rw[spaceOk,h];simp
theorem spaceOk_no9{b:TSpace}(h:((b.Outs.length:Int) == 8)=false):spaceOk b=false:=by rw[spaceOk,h];simp
theorem spaceOk_no10{b:TSpace}(h:outsFrom b.Files 0 b.Outs=false):spaceOk b=false:=by rw[spaceOk,h];simp
theorem spaceOk_yes{b:TSpace}(h1:receiverOk b.Receiver=true)(h2:boardOk b.Board=true)(h3:packerOk b.Packer=true)(h4:(b.Packer.Channel == 0)=true)(h5:inB b.Seq 0 65535=true)(h6:inB b.Begun 0 b.Board.Asked.length=true)(h7:recordsOk b.Sent=true)(h8:((b.Files.length:Int) == 8)=true)(h9:((b.Outs.length:Int) == 8)=true)(h10:outsFrom b.Files 0 b.Outs=true):spaceOk b=true:=by rw[spaceOk,h1,h2,h3,h4,h5,h6,h7,h8,h9,h10];rfl
theorem boardOk_taken{b:TBoard}(h:inB b.Taken 0 65535=true):0≤b.Taken∧b.Taken≤65535:=inB_iff.1 h
theorem k_iRecorderOkN{B n n2:Nat}{a a2:Option Addr}{c c2:Nat}{rr:TRecorder}{w0 w:World}(hs0:RdS B w0 a c rr.Records:=by first|assumption|(apply Sl.to<;>first|assumption|infer_instance)|omega)(hs20:RdS B w0 a2 c2 rr.Dropped:=by first|assumption|(apply Sl.to<;>first|assumption|infer_instance)|omega)[g:Keeps B w0 w](hn:rr.Records.length=n:=by first|assumption|(apply Sl.to<;>first|assumption|infer_instance)|omega)(hn2:rr.Dropped.length=n2:=by first|assumption|(apply Sl.to<;>first|assumption|infer_instance)|omega)(hm:n≤100000000:=by first|assumption|(apply Sl.to<;>first|assumption|infer_instance)|omega)(hm2:n2≤100000000:=by first|assumption|(apply Sl.to<;>first|assumption|infer_instance)|omega) :
  Calls Tryz.prog 254 #[.agg #[.int .i64 rr.Room,.slice a n c,.slice a2 n2 c2]] w (Gives w (.bool (recorderOk rr))):=by
 subst hn;subst hn2;exact k_iRecorderOk (hs0.to g) (hs20.to g) hm hm2
theorem k_sRecorderOkN{B n n2:Nat}{a a2:Option Addr}{c c2:Nat}{rr:TRecorder}{w0 w:World}(hs0:RdS B w0 a c rr.Records:=by first|assumption|(apply Sl.to<;>first|assumption|infer_instance)|omega)(hs20:RdS B w0 a2 c2 rr.Dropped:=by first|assumption|(apply Sl.to<;>first|assumption|infer_instance)|omega)[g:Keeps B w0 w](hn:rr.Records.length=n:=by first|assumption|(apply Sl.to<;>first|assumption|infer_instance)|omega)(hn2:rr.Dropped.length=n2:=by first|assumption|(apply Sl.to<;>first|assumption|infer_instance)|omega)(hm:n≤100000000:=by first|assumption|(apply Sl.to<;>first|assumption|infer_instance)|omega)(hm2:n2≤100000000:=by first|assumption|(apply Sl.to<;>first|assumption|infer_instance)|omega) :
  Calls Tryz.prog 228 #[.agg #[.int .i64 rr.Room,.slice a n c,.slice a2 n2 c2]] w (Gives w (.bool (recorderOk rr))):=by
 subst hn;subst hn2;exact k_sRecorderOk (hs0.to g) (hs20.to g) hm hm2
theorem k_sl05OrdersN{B n0 n1 n2 n3 n4 n5 n6:Nat}{a0 a1 a2 a3 a4 a5 a6:Option Addr}{c0 c1 c2 c3 c4 c5 c6:Nat}{bd:TBoard}{w0 w:World}(hq0:RdS B w0 a0 c0 bd.Params:=by first|assumption|(apply Sl.to<;>first|assumption|infer_instance)|omega)(hq1:RdS B w0 a1 c1 bd.Limits:=by first|assumption|(apply Sl.to<;>first|assumption|infer_instance)|omega)(hq2:RdS B w0 a2 c2 bd.Orders:=by first|assumption|(apply Sl.to<;>first|assumption|infer_instance)|omega)(hq3:RdS B w0 a3 c3 bd.Done:=by first|assumption|(apply Sl.to<;>first|assumption|infer_instance)|omega)(hq4:RdS B w0 a4 c4 bd.Recorder.Records:=by first|assumption|(apply Sl.to<;>first|assumption|infer_instance)|omega)(hq5:RdS B w0 a5 c5 bd.Recorder.Dropped:=by first|assumption|(apply Sl.to<;>first|assumption|infer_instance)|omega)(hq6:RdS B w0 a6 c6 bd.Asked:=by first|assumption|(apply Sl.to<;>first|assumption|infer_instance)|omega)[g:Keeps B w0 w](ok:okDTBoard bd:=by first|assumption|(apply Sl.to<;>first|assumption|infer_instance)|omega)(hn0:bd.Params.length=n0:=by first|assumption|(apply Sl.to<;>first|assumption|infer_instance)|omega)(hn1:bd.Limits.length=n1:=by first|assumption|(apply Sl.to<;>first|assumption|infer_instance)|omega)(hn2:bd.Orders.length=n2:=by first|assumption|(apply Sl.to<;>first|assumption|infer_instance)|omega)(hn3:bd.Done.length=n3:=by first|assumption|(apply Sl.to<;>first|assumption|infer_instance)|omega)(hn4:bd.Recorder.Records.length=n4:=by first|assumption|(apply Sl.to<;>first|assumption|infer_instance)|omega)(hn5:bd.Recorder.Dropped.length=n5:=by first|assumption|(apply Sl.to<;>first|assumption|infer_instance)|omega)(hn6:bd.Asked.length=n6:=by first|assumption|(apply Sl.to<;>first|assumption|infer_instance)|omega)(hm0:n0≤100000000:=by first|assumption|(apply Sl.to<;>first|assumption|infer_instance)|omega)(hm1:n1≤100000000:=by first|assumption|(apply Sl.to<;>first|assumption|infer_instance)|omega)(hm2:n2≤100000000:=by first|assumption|(apply Sl.to<;>first|assumption|infer_instance)|omega)(hm3:n3≤100000000:=by first|assumption|(apply Sl.to<;>first|assumption|infer_instance)|omega)(hm4:n4≤100000000:=by first|assumption|(apply Sl.to<;>first|assumption|infer_instance)|omega)(hm5:n5≤100000000:=by first|assumption|(apply Sl.to<;>first|assumption|infer_instance)|omega)(hm6:n6≤100000000:=by first|assumption|(apply Sl.to<;>first|assumption|infer_instance)|omega)  (ht0:0≤bd.Taken:=by first|assumption|(apply Sl.to<;>first|assumption|infer_instance)|omega)(ht1:bd.Taken≤65535:=by first|assumption|(apply Sl.to<;>first|assumption|infer_instance)|omega) :
  Calls Tryz.prog 229 #[.agg #[.int .i64 bd.Clock,.slice a0 n0 c0,.bool bd.Safe,.slice a1 n1 c1,.slice a2 n2 c2,.slice a3 n3 c3,.int .i64 bd.Recorder.Room,.slice a4 n4 c4,.slice a5 n5 c5,.int .i64 bd.Made,.int .i64 bd.Taken,.slice a6 n6 c6]] w (Gives w (.bool (ordersOk bd.Taken bd.Orders))):=by
 subst hn0;subst hn1;subst hn2;subst hn3;subst hn4;subst hn5;subst hn6
 exact k_sl05Orders (A:=⟨a0,c0,a1,c1,a2,c2,a3,c3,a4,c4,a5,c5,a6,c6⟩) ⟨hq0,hq1,hq2,hq3,hq4,hq5,hq6,ok⟩ hm2 ht0 ht1
def missionOk(b:TMission):Bool:=inB b.Time 0 1000000 && (inB b.Light 0 50 && (inB b.Bad 0 1000000 && (driftOkT b.Drift && (orbitOkT b.Orbit && (channelOk b.Up && (channelOk b.Down && (decide ((b.Plan.length:Int)≤1500) && (flightsOk b.Ups && (flightsOk b.Downs && (groundOk b.Ground && (spaceOk b.Space && (decide ((b.Offered.length:Int)≤5000) && (decide ((b.Took.length:Int)≤5000))))))))))))))
theorem missionOk_no1{b:TMission}(h:inB b.Time 0 1000000=false):missionOk b=false:=by rw[missionOk,h];simp
theorem missionOk_no2{b:TMission}(h:inB b.Light 0 50=false):missionOk b=false:=by rw[missionOk,h];simp
theorem missionOk_no3{b:TMission}(h:inB b.Bad 0 1000000=false):missionOk b=false:=by rw[missionOk,h];simp
theorem missionOk_no4{b:TMission}(h:driftOkT b.Drift=false):missionOk b=false:=by rw[missionOk,h];simp
theorem missionOk_no5{b:TMission}(h:orbitOkT b.Orbit=false):missionOk b=false:=by rw[missionOk,h];simp
theorem missionOk_no6{b:TMission}(h:channelOk b.Up=false):missionOk b=false:=by rw[missionOk,h];simp
theorem missionOk_no7{b:TMission}(h:channelOk b.Down=false):missionOk b=false:=by rw[missionOk,h];simp
theorem missionOk_no8{b:TMission}(h:decide ((b.Plan.length:Int)≤1500)=false):missionOk b=false:=by rw[missionOk,h];simp
theorem missionOk_no9{b:TMission}(h:flightsOk b.Ups=false):missionOk b=false:=by rw[missionOk,h];simp
theorem missionOk_no10{b:TMission}(h:flightsOk b.Downs=false):missionOk b=false:=by rw[missionOk,h];simp
theorem missionOk_no11{b:TMission}(h:groundOk b.Ground=false):missionOk b=false:=by rw[missionOk,h];simp
theorem missionOk_no12{b:TMission}(h:spaceOk b.Space=false):missionOk b=false:=by rw[missionOk,h];simp
theorem missionOk_no13{b:TMission}(h:decide ((b.Offered.length:Int)≤5000)=false):missionOk b=false:=by rw[missionOk,h];simp
theorem missionOk_no14{b:TMission}(h:decide ((b.Took.length:Int)≤5000)=false):missionOk b=false:=by rw[missionOk,h];simp
theorem missionOk_yes{b:TMission}(h1:inB b.Time 0 1000000=true)(h2:inB b.Light 0 50=true)(h3:inB b.Bad 0 1000000=true)(h4:driftOkT b.Drift=true)(h5:orbitOkT b.Orbit=true)(h6:channelOk b.Up=true)(h7:channelOk b.Down=true)(h8:decide ((b.Plan.length:Int)≤1500)=true)(h9:flightsOk b.Ups=true)(h10:flightsOk b.Downs=true)(h11:groundOk b.Ground=true)(h12:spaceOk b.Space=true)(h13:decide ((b.Offered.length:Int)≤5000)=true)(h14:decide ((b.Took.length:Int)≤5000)=true):missionOk b=true:=by rw[missionOk,h1,h2,h3,h4,h5,h6,h7,h8,h9,h10,h11,h12,h13,h14];rfl
section
variable {P:Program} {ops:Array Oper} {rest:List Oper} {op:Oper} {a:Act} {w:World} {Q:Exit→Act→World→Prop}
theorem stepLoadW(hw:Region.wanted op (yielded ops a.tmps)=true)(ty:TypeId)(x:Operand)(ho:op.op=.load ty x)(b o:Nat)(hx:a.eval x=.pointer (some ⟨b,o,none⟩)){cs row:List Value}{T:TypeId}(H:Held w b cs T)
  (d:TypeDesc) (hu:P.underlying ty=some d) (hd:d.isRow=true) (hi:(P.info? ty).map (·.size)=some row.length) (hr:(cs.drop o).take row.length=row)
  (h:wpList P ops Q rest (a.put op.dst (.agg row.toArray)) w):wpList P ops Q (op::rest) a w :=
 BigFrame.wpList_want hw fun _ hK=>wp_load_mid ty x ho b o hx row d (H.range hr) hu hd hi (hK _ _ h)
end
structure MSmall(bd:TMission):Prop where
 m0:bd.Plan.length≤100000000
 m1:bd.Ups.length≤100000000
 m2:bd.Downs.length≤100000000
 m3:bd.Ground.Offers.length≤100000000
 m4:bd.Ground.Sender.Waiting.length≤100000000
 m5:bd.Ground.Pairs.length≤100000000
 m6:bd.Ground.Records.length≤100000000
 m7:bd.Ground.Files.length≤100000000
 m8:bd.Ground.Told.length≤100000000
 m9:bd.Space.Board.Params.length≤100000000
 m10:bd.Space.Board.Limits.length≤100000000
 m11:bd.Space.Board.Orders.length≤100000000
 m12:bd.Space.Board.Done.length≤100000000
 m13:bd.Space.Board.Recorder.Records.length≤100000000
 m14:bd.Space.Board.Recorder.Dropped.length≤100000000
 m15:bd.Space.Board.Asked.length≤100000000
 m16:bd.Space.Packer.Starts.length≤100000000
 m17:bd.Space.Files.length≤100000000
 m18:bd.Space.Outs.length≤100000000
 m19:bd.Space.Sent.length≤100000000
 m20:bd.Offered.length≤100000000
 m21:bd.Took.length≤100000000
 hxf:∀ y∈bd.Ground.Files,y.Parts.length≤100000000∧∀ s∈y.Parts,s.size≤100000000
 hzr:bd.Space.Packer.Rest.size≤100000000
 hxo:∀ y∈bd.Space.Outs,y.Queue.length≤100000000∧y.Data.size≤100000000
 hxs:∀ s∈bd.Space.Files,s.size≤100000000
theorem mission_small{m:TMission}(ht:Enc.tot m≤100000000):MSmall m:=by
 have h:=mbounds ht
 have hg:totL m.Ground.Offers+totL m.Ground.Sender.Waiting+(m.Ground.Unpacker.Rest.size:Int)+totL m.Ground.Pairs+totL m.Ground.Records+totL m.Ground.Files+totL m.Ground.Told≤100000000:=h.2.2.1
 have hsp:(totL m.Space.Board.Params+totL m.Space.Board.Limits+totL m.Space.Board.Orders+totL m.Space.Board.Done+(totL m.Space.Board.Recorder.Records+totL m.Space.Board.Recorder.Dropped)+totL m.Space.Board.Asked)+((m.Space.Packer.Rest.size:Int)+totL m.Space.Packer.Starts)+totL m.Space.Files+totL m.Space.Outs+totL m.Space.Sent≤100000000:=h.2.2.2.1
 have l0:=totL_len m.Plan
 have l1:=totL_len m.Ups
 have l2:=totL_len m.Downs
 have l3:=totL_len m.Ground.Offers
 have l4:=totL_len m.Ground.Sender.Waiting
 have l5:=totL_len m.Ground.Pairs
 have l6:=totL_len m.Ground.Records
 have l7:=totL_len m.Ground.Files
 have l8:=totL_len m.Ground.Told
 have l9:=totL_len m.Space.Board.Params
 have l10:=totL_len m.Space.Board.Limits
 have l11:=totL_len m.Space.Board.Orders
 have l12:=totL_len m.Space.Board.Done
 have l13:=totL_len m.Space.Board.Recorder.Records
 have l14:=totL_len m.Space.Board.Recorder.Dropped
 have l15:=totL_len m.Space.Board.Asked
 have l16:=totL_len m.Space.Packer.Starts
 have l17:=totL_len m.Space.Files
 have l18:=totL_len m.Space.Outs
 have l19:=totL_len m.Space.Sent
 have l20:=totL_len m.Offered
 have l21:=totL_len m.Took
 refine⟨by omega,by omega,by omega,by omega,by omega,by omega,by omega,by omega,by omega,by omega,by omega,by omega,by omega,by omega,by omega,by omega,by omega,by omega,by omega,by omega,by omega,by omega,fun y hy=>?_,by omega,fun y hy=>?_,fun s hs=>?_⟩
 ·have hx1:Enc.tot y≤totL m.Ground.Files:=totL_mem hy
  have hx2:totL y.Parts≤totL m.Ground.Files:=hx1
  have hx3:=totL_len y.Parts
  refine⟨by omega,fun s hs=>?_⟩
  have hs1:(s.size:Int)≤totL y.Parts:=totL_mem hs
  omega
 ·have hx1:Enc.tot y≤totL m.Space.Outs:=totL_mem hy
  have hx2:(y.Data.size:Int)+totL y.Queue≤totL m.Space.Outs:=hx1
  have hx3:=totL_len y.Queue
  exact⟨by omega,by omega⟩
 ·have hs1:(s.size:Int)≤totL m.Space.Files:=totL_mem hs
  omega
set_option maxRecDepth 100000 in
set_option maxHeartbeats 4000000 in
theorem k_iBoardOk{B n0 n1 n2 n3 n4 n5 n6:Nat}{a0 a1 a2 a3 a4 a5 a6:Option Addr}{c0 c1 c2 c3 c4 c5 c6:Nat}{bd:TBoard}{w0 w:World}(hq0:RdS B w0 a0 c0 bd.Params:=by first|assumption|(apply Sl.to<;>first|assumption|infer_instance)|omega)(hq1:RdS B w0 a1 c1 bd.Limits:=by first|assumption|(apply Sl.to<;>first|assumption|infer_instance)|omega)(hq2:RdS B w0 a2 c2 bd.Orders:=by first|assumption|(apply Sl.to<;>first|assumption|infer_instance)|omega)(hq3:RdS B w0 a3 c3 bd.Done:=by first|assumption|(apply Sl.to<;>first|assumption|infer_instance)|omega)(hq4:RdS B w0 a4 c4 bd.Recorder.Records:=by first|assumption|(apply Sl.to<;>first|assumption|infer_instance)|omega)(hq5:RdS B w0 a5 c5 bd.Recorder.Dropped:=by first|assumption|(apply Sl.to<;>first|assumption|infer_instance)|omega)(hq6:RdS B w0 a6 c6 bd.Asked:=by first|assumption|(apply Sl.to<;>first|assumption|infer_instance)|omega)[g:Keeps B w0 w](ok:okDTBoard bd:=by first|assumption|(apply Sl.to<;>first|assumption|infer_instance)|omega)(hn0:bd.Params.length=n0:=by first|assumption|(apply Sl.to<;>first|assumption|infer_instance)|omega)(hn1:bd.Limits.length=n1:=by first|assumption|(apply Sl.to<;>first|assumption|infer_instance)|omega)(hn2:bd.Orders.length=n2:=by first|assumption|(apply Sl.to<;>first|assumption|infer_instance)|omega)(hn3:bd.Done.length=n3:=by first|assumption|(apply Sl.to<;>first|assumption|infer_instance)|omega)(hn4:bd.Recorder.Records.length=n4:=by first|assumption|(apply Sl.to<;>first|assumption|infer_instance)|omega)(hn5:bd.Recorder.Dropped.length=n5:=by first|assumption|(apply Sl.to<;>first|assumption|infer_instance)|omega)(hn6:bd.Asked.length=n6:=by first|assumption|(apply Sl.to<;>first|assumption|infer_instance)|omega)(hm0:n0≤100000000:=by first|assumption|(apply Sl.to<;>first|assumption|infer_instance)|omega)(hm1:n1≤100000000:=by first|assumption|(apply Sl.to<;>first|assumption|infer_instance)|omega)(hm2:n2≤100000000:=by first|assumption|(apply Sl.to<;>first|assumption|infer_instance)|omega)(hm3:n3≤100000000:=by first|assumption|(apply Sl.to<;>first|assumption|infer_instance)|omega)(hm4:n4≤100000000:=by first|assumption|(apply Sl.to<;>first|assumption|infer_instance)|omega)(hm5:n5≤100000000:=by first|assumption|(apply Sl.to<;>first|assumption|infer_instance)|omega)(hm6:n6≤100000000:=by first|assumption|(apply Sl.to<;>first|assumption|infer_instance)|omega)  :
  Calls Tryz.prog 151 #[.agg #[.int .i64 bd.Clock,.slice a0 n0 c0,.bool bd.Safe,.slice a1 n1 c1,.slice a2 n2 c2,.slice a3 n3 c3,.int .i64 bd.Recorder.Room,.slice a4 n4 c4,.slice a5 n5 c5,.int .i64 bd.Made,.int .i64 bd.Taken,.slice a6 n6 c6]] w (Gives w (.bool (boardOk bd))):=by
 have hs0:=hq0.to g
 have hs1:=hq1.to g
 have hs2:=hq2.to g
 have hs3:=hq3.to g
 have hs4:=hq4.to g
 have hs5:=hq5.to g
 have hs6:=hq6.to g
 have HN0:=lH hn0
 have HN1:=lH hn1
 have HN2:=lH hn2
 have HN3:=lH hn3
 have HN4:=lH hn4
 have HN5:=lH hn5
 have HN6:=lH hn6
 clear hq0 hn0 hq1 hn1 hq2 hn2 hq3 hn3 hq4 hn4 hq5 hn5 hq6 hn6
 cases g1:inB bd.Clock 0 1000000
 ·have HF:=lH (show boardOk bd=false from boardOk_no1 g1)
  go_enter Tryz.func151,Tryz.ntmps151
  go_wp2_with (first|(go_at_call 85;refine(c_ibetween).mono ?_;rintro _ _ ⟨rfl,x,rfl⟩))
  go_ret
  exact Gives.mk (by rw[HF.out];rfl)
 have T1:=lH g1
 by_cases h2:n0=8
 rotate_left
 ·have k2:((n0:Int) != 8)=true:=by simp;omega
  have k2b:((n0:Int) == 8)=false:=by simp;omega
  have HF:=lH (show boardOk bd=false from boardOk_no2 (by rw[HN0.out];exact k2b))
  clear h2
  go_enter Tryz.func151,Tryz.ntmps151
  go_wp2_with (first|(go_at_call 85;refine(c_ibetween).mono ?_;rintro _ _ ⟨rfl,x,rfl⟩))
  go_ret
  exact Gives.mk (by rw[HF.out];rfl)
 subst h2
 have T2:=lH (show((bd.Params.length:Int) == 8)=true by rw[HN0.out];rfl)
 have hsl0:=hs0.toSlInt
 have hl0:=HN0.out
 cases g3:allB 0 65535 bd.Params
 ·have HF:=lH (show boardOk bd=false from boardOk_no3 g3)
  go_enter Tryz.func151,Tryz.ntmps151
  go_wp2_with (first|(go_at_call 85;refine(c_ibetween).mono ?_;rintro _ _ ⟨rfl,x,rfl⟩)|(go_at_call 210;refine(c_iallBetween).mono ?_;rintro _ _ ⟨rfl,x,rfl⟩))
  go_ret
  exact Gives.mk (by rw[HF.out];rfl)
 have T3:=lH g3
 by_cases h4:n1≤8
 rotate_left
 ·have k4:decide (8<(n1:Int))=true:=by simp;omega
  have k4b:decide ((n1:Int)≤8)=false:=by simp;omega
  have HF:=lH (show boardOk bd=false from boardOk_no4 (by rw[HN1.out];exact k4b))
  clear h4
  go_enter Tryz.func151,Tryz.ntmps151
  go_wp2_with (first|(go_at_call 85;refine(c_ibetween).mono ?_;rintro _ _ ⟨rfl,x,rfl⟩)|(go_at_call 210;refine(c_iallBetween).mono ?_;rintro _ _ ⟨rfl,x,rfl⟩))
  go_ret
  exact Gives.mk (by rw[HF.out];rfl)
 have k4:decide (8<(n1:Int))=false:=by simp;omega
 have k4b:decide ((n1:Int)≤8)=true:=by simp;omega
 have T4:=lH (show decide ((bd.Limits.length:Int)≤8)=true by rw[HN1.out];exact k4b)
 clear h4
 go_enter Tryz.func151,Tryz.ntmps151
 go_wp2_with (first|(go_at_call 85;refine(c_ibetween).mono ?_;rintro _ _ ⟨rfl,x,rfl⟩)|(go_at_call 210;refine(c_iallBetween).mono ?_;rintro _ _ ⟨rfl,x,rfl⟩))
 clear g1 g3 k4 k4b hsl0 hl0
 go_loopw [32] (fun v wr=>∃ k:Nat,v=.int .i64 k∧k≤n1∧Hid ((bd.Limits.drop k).all limitOk=bd.Limits.all limitOk)∧∃ X:Later (w.alloc (.cells #[.int .i64 bd.Clock,.slice a0 8 c0,.bool bd.Safe,.slice a1 n1 c1,.slice a2 n2 c2,.slice a3 n3 c3,.int .i64 bd.Recorder.Room,.slice a4 n4 c4,.slice a5 n5 c5,.int .i64 bd.Made,.int .i64 bd.Taken,.slice a6 n6 c6] 84)),wr=X.w) (fun v _=>(n1 - intOf v).toNat)
 case atStart=>exact⟨0,rfl,by omega,rfl,Later.of⟩
 case round =>
  obtain⟨k,rfl,hk,HV,X,rfl⟩:=hrel
  by_cases h:k<n1
  ·have hkl:k<bd.Limits.length:=by have:=HN1.out;omega
   obtain⟨eb,eoff,es,rfl,ehb,ehd,eok,eh0,eh1,eh2⟩:=hs1.atTLimit hkl
   have EOK:=lH eok;clear eok
   clear hkl
   cases d1:inB es.Param 0 7
   ·have HF:=lH (show boardOk bd=false from boardOk_no5 (by have:=HV.out;rw[ehd.out,List.all_cons]at this;rw[← this,limitOk,d1]<;>rfl))
    go_wp2_with (first|(go_at_call 85;refine(c_ibetween).mono ?_;rintro _ _ ⟨rfl,x,rfl⟩))
    go_ret
    exact Gives.mk (by rw[HF.out];rfl)
   cases d2:inB es.Low 0 65535
   ·have HF:=lH (show boardOk bd=false from boardOk_no5 (by have:=HV.out;rw[ehd.out,List.all_cons]at this;rw[← this,limitOk,d1,d2]<;>rfl))
    go_wp2_with (first|(go_at_call 85;refine(c_ibetween).mono ?_;rintro _ _ ⟨rfl,x,rfl⟩))
    go_ret
    exact Gives.mk (by rw[HF.out];rfl)
   cases d3:inB es.High 0 65535
   ·have HF:=lH (show boardOk bd=false from boardOk_no5 (by have:=HV.out;rw[ehd.out,List.all_cons]at this;rw[← this,limitOk,d1,d2,d3]<;>rfl))
    go_wp2_with (first|(go_at_call 85;refine(c_ibetween).mono ?_;rintro _ _ ⟨rfl,x,rfl⟩))
    go_ret
    exact Gives.mk (by rw[HF.out];rfl)
   have HF:=lH (show(bd.Limits.drop (k+1)).all limitOk=bd.Limits.all limitOk by have:=HV.out;rw[ehd.out,List.all_cons]at this;rw[← this,limitOk,d1,d2,d3]<;>rfl)
   go_wp2_with (first|(go_at_call 85;refine(c_ibetween).mono ?_;rintro _ _ ⟨rfl,x,rfl⟩))
   go_roundw
   case rel=>exact⟨k+1,by go_num,by omega,HF,Later.of⟩
   case measure=>simp[intOf];omega
  ·have T5:=lH (show bd.Limits.all limitOk=true by have:=HV.out;rw[List.drop_of_length_le (by have:=HN1.out;omega)]at this;rw[← this];rfl)
   clear HV
   cases g6:inB bd.Made 0 65535
   ·have HF:=lH (show boardOk bd=false from boardOk_no6 g6)
    go_wp2_with (first|(go_at_call 85;refine(c_ibetween).mono ?_;rintro _ _ ⟨rfl,x,rfl⟩))
    go_ret
    exact Gives.mk (by rw[HF.out];rfl)
   have T6:=lH g6
   cases g7:inB bd.Taken 0 65535
   ·have HF:=lH (show boardOk bd=false from boardOk_no7 g7)
    go_wp2_with (first|(go_at_call 85;refine(c_ibetween).mono ?_;rintro _ _ ⟨rfl,x,rfl⟩))
    go_ret
    exact Gives.mk (by rw[HF.out];rfl)
   have T7:=lH g7
   have⟨htk0,htk1⟩:=boardOk_taken T7.out
   have hl2:=HN2.out
   cases g8:ordersOk bd.Taken bd.Orders
   ·have HF:=lH (show boardOk bd=false from boardOk_no8 g8)
    go_wp2_with (first|(go_at_call 85;refine(c_ibetween).mono ?_;rintro _ _ ⟨rfl,x,rfl⟩)|(go_at_call 253;refine(k_iordersOk).mono ?_;rintro _ _ ⟨rfl,x,rfl⟩))
    go_ret
    exact Gives.mk (by rw[HF.out];rfl)
   have T8:=lH g8
   by_cases h9:n3≤5000
   rotate_left
   ·have k9:decide (5000<(n3:Int))=true:=by simp;omega
    have k9b:decide ((n3:Int)≤5000)=false:=by simp;omega
    have HF:=lH (show boardOk bd=false from boardOk_no9 (by rw[HN3.out];exact k9b))
    clear h9
    go_wp2_with (first|(go_at_call 85;refine(c_ibetween).mono ?_;rintro _ _ ⟨rfl,x,rfl⟩)|(go_at_call 253;refine(k_iordersOk).mono ?_;rintro _ _ ⟨rfl,x,rfl⟩))
    go_ret
    exact Gives.mk (by rw[HF.out];rfl)
   have k9:decide (5000<(n3:Int))=false:=by simp;omega
   have k9b:decide ((n3:Int)≤5000)=true:=by simp;omega
   have T9:=lH (show decide ((bd.Done.length:Int)≤5000)=true by rw[HN3.out];exact k9b)
   clear h9
   go_wp2_with (first|(go_at_call 85;refine(c_ibetween).mono ?_;rintro _ _ ⟨rfl,x,rfl⟩)|(go_at_call 253;refine(k_iordersOk).mono ?_;rintro _ _ ⟨rfl,x,rfl⟩))
   clear g6 g7 g8 k9 k9b hl2
   go_loopw [78] (fun v wr=>∃ k:Nat,v=.int .i64 k∧k≤n3∧Hid ((bd.Done.drop k).all (doneOk bd.Taken)=bd.Done.all (doneOk bd.Taken))∧∃ X:Later (w.alloc (.cells #[.int .i64 bd.Clock,.slice a0 8 c0,.bool bd.Safe,.slice a1 n1 c1,.slice a2 n2 c2,.slice a3 n3 c3,.int .i64 bd.Recorder.Room,.slice a4 n4 c4,.slice a5 n5 c5,.int .i64 bd.Made,.int .i64 bd.Taken,.slice a6 n6 c6] 84)),wr=X.w) (fun v _=>(n3 - intOf v).toNat)
   case atStart=>exact⟨0,rfl,by omega,rfl,Later.of⟩
   case round =>
    obtain⟨k,rfl,hk,HV,X,rfl⟩:=hrel
    by_cases h:k<n3
    ·have hkl:k<bd.Done.length:=by have:=HN3.out;omega
     obtain⟨eb,eoff,es,rfl,ehb,ehd,eok,eh0,eh1,eh2⟩:=hs3.atTDone hkl
     have EOK:=lH eok;clear eok
     have⟨htt0,htt1⟩:=boardOk_taken T7.out
     clear hkl
     cases d1:inB es.Number 0 (bd.Taken - 1)
     ·have HF:=lH (show boardOk bd=false from boardOk_no10 (by have:=HV.out;rw[ehd.out,List.all_cons]at this;rw[← this,doneOk,d1]<;>rfl))
      go_wp2_with (first|(go_at_call 85;refine(c_ibetween).mono ?_;rintro _ _ ⟨rfl,x,rfl⟩))
      go_ret
      exact Gives.mk (by rw[HF.out];rfl)
     cases d2:inB es.Time 0 1000000
     ·have HF:=lH (show boardOk bd=false from boardOk_no10 (by have:=HV.out;rw[ehd.out,List.all_cons]at this;rw[← this,doneOk,d1,d2]<;>rfl))
      go_wp2_with (first|(go_at_call 85;refine(c_ibetween).mono ?_;rintro _ _ ⟨rfl,x,rfl⟩))
      go_ret
      exact Gives.mk (by rw[HF.out];rfl)
     cases d3:inB es.Result 0 1
     ·have HF:=lH (show boardOk bd=false from boardOk_no10 (by have:=HV.out;rw[ehd.out,List.all_cons]at this;rw[← this,doneOk,d1,d2,d3]<;>rfl))
      go_wp2_with (first|(go_at_call 85;refine(c_ibetween).mono ?_;rintro _ _ ⟨rfl,x,rfl⟩))
      go_ret
      exact Gives.mk (by rw[HF.out];rfl)
     have HF:=lH (show(bd.Done.drop (k+1)).all (doneOk bd.Taken)=bd.Done.all (doneOk bd.Taken)by have:=HV.out;rw[ehd.out,List.all_cons]at this;rw[← this,doneOk,d1,d2,d3]<;>rfl)
     go_wp2_with (first|(go_at_call 85;refine(c_ibetween).mono ?_;rintro _ _ ⟨rfl,x,rfl⟩))
     go_roundw
     case rel=>exact⟨k+1,by go_num,by omega,HF,Later.of⟩
     case measure=>simp[intOf];omega
    ·have T10:=lH (show bd.Done.all (doneOk bd.Taken)=true by have:=HV.out;rw[List.drop_of_length_le (by have:=HN3.out;omega)]at this;rw[← this];rfl)
     clear HV
     have hr4:=HN4.out
     have hr5:=HN5.out
     cases g11:recorderOk bd.Recorder
     ·have HF:=lH (show boardOk bd=false from boardOk_no11 g11)
      go_wp2_with (first|(go_at_call 85;refine(c_ibetween).mono ?_;rintro _ _ ⟨rfl,x,rfl⟩)|(go_at_call 254;refine(k_iRecorderOkN).mono ?_;rintro _ _ ⟨rfl,x,rfl⟩))
      go_ret
      exact Gives.mk (by rw[HF.out];rfl)
     have T11:=lH g11
     go_wp2_with (first|(go_at_call 85;refine(c_ibetween).mono ?_;rintro _ _ ⟨rfl,x,rfl⟩)|(go_at_call 254;refine(k_iRecorderOkN).mono ?_;rintro _ _ ⟨rfl,x,rfl⟩))
     clear g11 hr4 hr5
     go_loopw [110] (fun v wr=>∃ k:Nat,v=.int .i64 k∧k≤n4∧Hid ((bd.Recorder.Records.drop k).all (idOk bd.Made)=bd.Recorder.Records.all (idOk bd.Made))∧∃ X:Later (w.alloc (.cells #[.int .i64 bd.Clock,.slice a0 8 c0,.bool bd.Safe,.slice a1 n1 c1,.slice a2 n2 c2,.slice a3 n3 c3,.int .i64 bd.Recorder.Room,.slice a4 n4 c4,.slice a5 n5 c5,.int .i64 bd.Made,.int .i64 bd.Taken,.slice a6 n6 c6] 84)),wr=X.w) (fun v _=>(n4 - intOf v).toNat)
     case atStart=>exact⟨0,rfl,by omega,rfl,Later.of⟩
     case round =>
      obtain⟨k,rfl,hk,HV,X,rfl⟩:=hrel
      by_cases h:k<n4
      ·have hkl:k<bd.Recorder.Records.length:=by have:=HN4.out;omega
       obtain⟨eb,eoff,es,rfl,ehb,ehd,eok,eh0,eh1,eh2,eh3⟩:=hs4.atTRecord hkl
       have hz9:es.Data.size≤9223372036854775807:=eok.2.2.2.1
       have EOK:=lH eok;clear eok
       clear hkl
       cases d1:decide (bd.Made≤es.Id)
       rotate_left
       ·have HF:=lH (show boardOk bd=false from boardOk_no12 (by have:=HV.out;rw[ehd.out,List.all_cons]at this;rw[← this,idOk,d1]<;>rfl))
        go_wp2_with fail
        go_ret
        exact Gives.mk (by rw[HF.out];rfl)
       have HF:=lH (show(bd.Recorder.Records.drop (k+1)).all (idOk bd.Made)=bd.Recorder.Records.all (idOk bd.Made)by have:=HV.out;rw[ehd.out,List.all_cons]at this;rw[← this,idOk,d1]<;>rfl)
       go_wp2_with fail
       go_roundw
       case rel=>exact⟨k+1,by go_num,by omega,HF,Later.of⟩
       case measure=>simp[intOf];omega
      ·have T12:=lH (show bd.Recorder.Records.all (idOk bd.Made)=true by have:=HV.out;rw[List.drop_of_length_le (by have:=HN4.out;omega)]at this;rw[← this];rfl)
       clear HV
       by_cases h13:n6≤5000
       rotate_left
       ·have k13:decide (5000<(n6:Int))=true:=by simp;omega
        have k13b:decide ((n6:Int)≤5000)=false:=by simp;omega
        have HF:=lH (show boardOk bd=false from boardOk_no13 (by rw[HN6.out];exact k13b))
        clear h13
        go_wp2_with (first|(go_at_call 85;refine(c_ibetween).mono ?_;rintro _ _ ⟨rfl,x,rfl⟩))
        go_ret
        exact Gives.mk (by rw[HF.out];rfl)
       have k13:decide (5000<(n6:Int))=false:=by simp;omega
       have k13b:decide ((n6:Int)≤5000)=true:=by simp;omega
       have T13:=lH (show decide ((bd.Asked.length:Int)≤5000)=true by rw[HN6.out];exact k13b)
       clear h13
       have hsl6:=hs6.toSlInt
       have hl6:=HN6.out
       go_wp2_with (first|(go_at_call 85;refine(c_ibetween).mono ?_;rintro _ _ ⟨rfl,x,rfl⟩)|(go_at_call 210;refine(c_iallBetween).mono ?_;rintro _ _ ⟨rfl,x,rfl⟩))
       go_ret
       exact Gives.mk (by
        cases g14:allB 0 7 bd.Asked
        ·rw[boardOk_no14 g14];rfl
        ·rw[boardOk_yes T1.out T2.out T3.out T4.out T5.out T6.out T7.out T8.out T9.out T10.out T11.out T12.out T13.out g14];rfl)
set_option maxRecDepth 100000 in
set_option maxHeartbeats 4000000 in
theorem k_ispaceOk{B n0 n1 n2 n3 n4 n5 n6 n7 n8 n9 n10:Nat}{a0 a1 a2 a3 a4 a5 a6 a7 a8 a9 a10:Option Addr}{c0 c1 c2 c3 c4 c5 c6 c7 c8 c9 c10:Nat}{bd:TSpace}{w0 w:World}(hq0:RdS B w0 a0 c0 bd.Board.Params)(hq1:RdS B w0 a1 c1 bd.Board.Limits)(hq2:RdS B w0 a2 c2 bd.Board.Orders)(hq3:RdS B w0 a3 c3 bd.Board.Done)(hq4:RdS B w0 a4 c4 bd.Board.Recorder.Records)(hq5:RdS B w0 a5 c5 bd.Board.Recorder.Dropped)(hq6:RdS B w0 a6 c6 bd.Board.Asked)(hq7:RdS B w0 a7 c7 bd.Packer.Starts)(hq8:RdS B w0 a8 c8 bd.Files)(hq9:RdS B w0 a9 c9 bd.Outs)(hq10:RdS B w0 a10 c10 bd.Sent)[g:Keeps B w0 w](ok:okDTSpace bd)(hn0:bd.Board.Params.length=n0)(hn1:bd.Board.Limits.length=n1)(hn2:bd.Board.Orders.length=n2)(hn3:bd.Board.Done.length=n3)(hn4:bd.Board.Recorder.Records.length=n4)(hn5:bd.Board.Recorder.Dropped.length=n5)(hn6:bd.Board.Asked.length=n6)(hn7:bd.Packer.Starts.length=n7)(hn8:bd.Files.length=n8)(hn9:bd.Outs.length=n9)(hn10:bd.Sent.length=n10)(hm0:n0≤100000000)(hm1:n1≤100000000)(hm2:n2≤100000000)(hm3:n3≤100000000)(hm4:n4≤100000000)(hm5:n5≤100000000)(hm6:n6≤100000000)(hm7:n7≤100000000)(hm8:n8≤100000000)(hm9:n9≤100000000)(hm10:n10≤100000000)(hzr:bd.Packer.Rest.size≤100000000)(hxo:∀ y∈bd.Outs,y.Queue.length≤100000000∧y.Data.size≤100000000)(hxs:∀ s∈bd.Files,s.size≤100000000) :
  Calls Tryz.prog 149 #[.agg #[.int .i64 bd.Receiver.Expect,.bool bd.Receiver.Locked,.bool bd.Receiver.Again,.int .i64 bd.Receiver.Taken,.int .i64 bd.Board.Clock,.slice a0 n0 c0,.bool bd.Board.Safe,.slice a1 n1 c1,.slice a2 n2 c2,.slice a3 n3 c3,.int .i64 bd.Board.Recorder.Room,.slice a4 n4 c4,.slice a5 n5 c5,.int .i64 bd.Board.Made,.int .i64 bd.Board.Taken,.slice a6 n6 c6,.int .i64 bd.Packer.Channel,.int .i64 bd.Packer.Count,.string bd.Packer.Rest,.slice a7 n7 c7,.int .i64 bd.Seq,.slice a8 n8 c8,.slice a9 n9 c9,.int .i64 bd.Begun,.slice a10 n10 c10]] w (Gives w (.bool (spaceOk bd))):=by
 have hs0:=hq0.to g
 have hs1:=hq1.to g
 have hs2:=hq2.to g
 have hs3:=hq3.to g
 have hs4:=hq4.to g
 have hs5:=hq5.to g
 have hs6:=hq6.to g
 have hs7:=hq7.to g
 have hs8:=hq8.to g
 have hs9:=hq9.to g
 have hs10:=hq10.to g
 have HN0:=lH hn0
 have HN1:=lH hn1
 have HN2:=lH hn2
 have HN3:=lH hn3
 have HN4:=lH hn4
 have HN5:=lH hn5
 have HN6:=lH hn6
 have HN7:=lH hn7
 have HN8:=lH hn8
 have HN9:=lH hn9
 have HN10:=lH hn10
 clear hq0 hn0 hq1 hn1 hq2 hn2 hq3 hn3 hq4 hn4 hq5 hn5 hq6 hn6 hq7 hn7 hq8 hn8 hq9 hn9 hq10 hn10
 cases g1:receiverOk bd.Receiver
 ·have HF:=lH (show spaceOk bd=false from spaceOk_no1 g1)
  go_enter Tryz.func149,Tryz.ntmps149
  go_wp2_with (first|(go_at_call 85;refine(c_ibetween).mono ?_;rintro _ _ ⟨rfl,x,rfl⟩)|(go_at_call 250;refine(k_iReceiverOk).mono ?_;rintro _ _ ⟨rfl,x,rfl⟩))
  go_ret
  exact Gives.mk (by rw[HF.out];rfl)
 have T1:=lH g1
 have oks:=ok.2.1
 have hd0:=HN0.out
 have hd1:=HN1.out
 have hd2:=HN2.out
 have hd3:=HN3.out
 have hd4:=HN4.out
 have hd5:=HN5.out
 have hd6:=HN6.out
 cases g2:boardOk bd.Board
 ·have HF:=lH (show spaceOk bd=false from spaceOk_no2 g2)
  go_enter Tryz.func149,Tryz.ntmps149
  go_wp2_with (first|(go_at_call 85;refine(c_ibetween).mono ?_;rintro _ _ ⟨rfl,x,rfl⟩)|(go_at_call 250;refine(k_iReceiverOk).mono ?_;rintro _ _ ⟨rfl,x,rfl⟩)|(go_at_call 151;refine(k_iBoardOk).mono ?_;rintro _ _ ⟨rfl,x,rfl⟩))
  go_ret
  exact Gives.mk (by rw[HF.out];rfl)
 have T2:=lH g2
 have hd7:=HN7.out
 cases g3:packerOk bd.Packer
 ·have HF:=lH (show spaceOk bd=false from spaceOk_no3 g3)
  go_enter Tryz.func149,Tryz.ntmps149
  go_wp2_with (first|(go_at_call 85;refine(c_ibetween).mono ?_;rintro _ _ ⟨rfl,x,rfl⟩)|(go_at_call 250;refine(k_iReceiverOk).mono ?_;rintro _ _ ⟨rfl,x,rfl⟩)|(go_at_call 151;refine(k_iBoardOk).mono ?_;rintro _ _ ⟨rfl,x,rfl⟩)|(go_at_call 251;refine(k_iPackerOkN).mono ?_;rintro _ _ ⟨rfl,x,rfl⟩))
  go_ret
  exact Gives.mk (by rw[HF.out];rfl)
 have T3:=lH g3
 cases g4:(bd.Packer.Channel == 0)
 ·have HF:=lH (show spaceOk bd=false from spaceOk_no4 g4)
  have g4b:(bd.Packer.Channel != 0)=true:=by rw[bne,g4];rfl
  go_enter Tryz.func149,Tryz.ntmps149
  go_wp2_with (first|(go_at_call 85;refine(c_ibetween).mono ?_;rintro _ _ ⟨rfl,x,rfl⟩)|(go_at_call 250;refine(k_iReceiverOk).mono ?_;rintro _ _ ⟨rfl,x,rfl⟩)|(go_at_call 151;refine(k_iBoardOk).mono ?_;rintro _ _ ⟨rfl,x,rfl⟩)|(go_at_call 251;refine(k_iPackerOkN).mono ?_;rintro _ _ ⟨rfl,x,rfl⟩))
  go_ret
  exact Gives.mk (by rw[HF.out];rfl)
 have T4:=lH g4
 have g4b:(bd.Packer.Channel != 0)=false:=by rw[bne,g4];rfl
 cases g5:inB bd.Seq 0 65535
 ·have HF:=lH (show spaceOk bd=false from spaceOk_no5 g5)
  go_enter Tryz.func149,Tryz.ntmps149
  go_wp2_with (first|(go_at_call 85;refine(c_ibetween).mono ?_;rintro _ _ ⟨rfl,x,rfl⟩)|(go_at_call 250;refine(k_iReceiverOk).mono ?_;rintro _ _ ⟨rfl,x,rfl⟩)|(go_at_call 151;refine(k_iBoardOk).mono ?_;rintro _ _ ⟨rfl,x,rfl⟩)|(go_at_call 251;refine(k_iPackerOkN).mono ?_;rintro _ _ ⟨rfl,x,rfl⟩))
  go_ret
  exact Gives.mk (by rw[HF.out];rfl)
 have T5:=lH g5
 cases g6:inB bd.Begun 0 (n6:Int)
 ·have HF:=lH (show spaceOk bd=false from spaceOk_no6 (by rw[HN6.out];exact g6))
  go_enter Tryz.func149,Tryz.ntmps149
  go_wp2_with (first|(go_at_call 85;refine(c_ibetween).mono ?_;rintro _ _ ⟨rfl,x,rfl⟩)|(go_at_call 250;refine(k_iReceiverOk).mono ?_;rintro _ _ ⟨rfl,x,rfl⟩)|(go_at_call 151;refine(k_iBoardOk).mono ?_;rintro _ _ ⟨rfl,x,rfl⟩)|(go_at_call 251;refine(k_iPackerOkN).mono ?_;rintro _ _ ⟨rfl,x,rfl⟩))
  go_ret
  exact Gives.mk (by rw[HF.out];rfl)
 have T6:=lH (show inB bd.Begun 0 bd.Board.Asked.length=true by rw[HN6.out];exact g6)
 have hd10:=HN10.out
 cases g7:recordsOk bd.Sent
 ·have HF:=lH (show spaceOk bd=false from spaceOk_no7 g7)
  go_enter Tryz.func149,Tryz.ntmps149
  go_wp2_with (first|(go_at_call 85;refine(c_ibetween).mono ?_;rintro _ _ ⟨rfl,x,rfl⟩)|(go_at_call 250;refine(k_iReceiverOk).mono ?_;rintro _ _ ⟨rfl,x,rfl⟩)|(go_at_call 151;refine(k_iBoardOk).mono ?_;rintro _ _ ⟨rfl,x,rfl⟩)|(go_at_call 251;refine(k_iPackerOkN).mono ?_;rintro _ _ ⟨rfl,x,rfl⟩)|(go_at_call 249;refine(k_irecordsOkN).mono ?_;rintro _ _ ⟨rfl,x,rfl⟩))
  go_ret
  exact Gives.mk (by rw[HF.out];rfl)
 have T7:=lH g7
 by_cases h8:n8=8
 rotate_left
 ·have k8:((n8:Int) != 8)=true:=by simp;omega
  have k8b:((n8:Int) == 8)=false:=by simp;omega
  have HF:=lH (show spaceOk bd=false from spaceOk_no8 (by rw[HN8.out];exact k8b))
  clear h8
  go_enter Tryz.func149,Tryz.ntmps149
  go_wp2_with (first|(go_at_call 85;refine(c_ibetween).mono ?_;rintro _ _ ⟨rfl,x,rfl⟩)|(go_at_call 250;refine(k_iReceiverOk).mono ?_;rintro _ _ ⟨rfl,x,rfl⟩)|(go_at_call 151;refine(k_iBoardOk).mono ?_;rintro _ _ ⟨rfl,x,rfl⟩)|(go_at_call 251;refine(k_iPackerOkN).mono ?_;rintro _ _ ⟨rfl,x,rfl⟩)|(go_at_call 249;refine(k_irecordsOkN).mono ?_;rintro _ _ ⟨rfl,x,rfl⟩))
  go_ret
  exact Gives.mk (by rw[HF.out];rfl)
 subst h8
 have T8:=lH (show((bd.Files.length:Int) == 8)=true by rw[HN8.out];rfl)
 by_cases h9:n9=8
 rotate_left
 ·have k9:((n9:Int) != 8)=true:=by simp;omega
  have k9b:((n9:Int) == 8)=false:=by simp;omega
  have HF:=lH (show spaceOk bd=false from spaceOk_no9 (by rw[HN9.out];exact k9b))
  clear h9
  go_enter Tryz.func149,Tryz.ntmps149
  go_wp2_with (first|(go_at_call 85;refine(c_ibetween).mono ?_;rintro _ _ ⟨rfl,x,rfl⟩)|(go_at_call 250;refine(k_iReceiverOk).mono ?_;rintro _ _ ⟨rfl,x,rfl⟩)|(go_at_call 151;refine(k_iBoardOk).mono ?_;rintro _ _ ⟨rfl,x,rfl⟩)|(go_at_call 251;refine(k_iPackerOkN).mono ?_;rintro _ _ ⟨rfl,x,rfl⟩)|(go_at_call 249;refine(k_irecordsOkN).mono ?_;rintro _ _ ⟨rfl,x,rfl⟩))
  go_ret
  exact Gives.mk (by rw[HF.out];rfl)
 subst h9
 have T9:=lH (show((bd.Outs.length:Int) == 8)=true by rw[HN9.out];rfl)
 go_enter Tryz.func149,Tryz.ntmps149
 go_wp2_with (first|(go_at_call 85;refine(c_ibetween).mono ?_;rintro _ _ ⟨rfl,x,rfl⟩)|(go_at_call 250;refine(k_iReceiverOk).mono ?_;rintro _ _ ⟨rfl,x,rfl⟩)|(go_at_call 151;refine(k_iBoardOk).mono ?_;rintro _ _ ⟨rfl,x,rfl⟩)|(go_at_call 251;refine(k_iPackerOkN).mono ?_;rintro _ _ ⟨rfl,x,rfl⟩)|(go_at_call 249;refine(k_irecordsOkN).mono ?_;rintro _ _ ⟨rfl,x,rfl⟩))
 clear g1 g2 g3 g4 g4b g5 g6 g7 oks hd0 hd1 hd2 hd3 hd4 hd5 hd6 hd7 hd10
 go_loopw [60] (fun v wr=>∃ k:Nat,v=.int .i64 k∧k≤8∧Hid (outsFrom bd.Files k (bd.Outs.drop k)=outsFrom bd.Files 0 bd.Outs)∧∃ X:Later (w.alloc (.cells #[.int .i64 bd.Receiver.Expect,.bool bd.Receiver.Locked,.bool bd.Receiver.Again,.int .i64 bd.Receiver.Taken,.int .i64 bd.Board.Clock,.slice a0 n0 c0,.bool bd.Board.Safe,.slice a1 n1 c1,.slice a2 n2 c2,.slice a3 n3 c3,.int .i64 bd.Board.Recorder.Room,.slice a4 n4 c4,.slice a5 n5 c5,.int .i64 bd.Board.Made,.int .i64 bd.Board.Taken,.slice a6 n6 c6,.int .i64 bd.Packer.Channel,.int .i64 bd.Packer.Count,.string bd.Packer.Rest,.slice a7 n7 c7,.int .i64 bd.Seq,.slice a8 8 c8,.slice a9 8 c9,.int .i64 bd.Begun,.slice a10 n10 c10] 88)),wr=X.w) (fun v _=>(8 - intOf v).toNat)
 case atStart=>exact⟨0,rfl,by omega,rfl,Later.of⟩
 case round =>
  obtain⟨k,rfl,hk,HV,X,rfl⟩:=hrel
  by_cases h:k<8
  ·have hkl:k<bd.Outs.length:=by have:=HN9.out;omega
   obtain⟨eb,eoff,es,ea0,ec0,he,ehb,ehd,eq0,eok,eh0,eh1,eh2,eh3⟩:=hs9.atTFileOut hkl
   cases he
   have EOK:=lH eok;clear eok
   obtain⟨fb,foff,fs,hf8,fhb,fhd,fok,fh0⟩:=hs8.atStr (show k<bd.Files.length by have:=HN8.out;omega)
   obtain rfl:=hf8
   have hfs:bd.Files.getD k ByteArray.empty=fs:=by
    have:=congrArg (fun m=>m[0]?) fhd.out
    simp only[List.getElem?_drop,Nat.add_zero,List.getElem?_cons_zero]at this
    simp[List.getD,this]
   have hx3:=hxs fs (memDrop fhd.out)
   have hx1:=(hxo es (memDrop ehd.out)).1
   have hx2:=(hxo es (memDrop ehd.out)).2
   obtain⟨pn,hpn⟩:∃ pn,es.Queue.length=pn:=⟨_,rfl⟩
   rw[hpn]at hx1 eh2
   have HFS:=lH hfs;clear hfs
   clear hkl
   cases d1:decide (600<(fs.size:Int))
   rotate_left
   ·have HF:=lH (show spaceOk bd=false from spaceOk_no10 (by have:=HV.out;rw[ehd.out,outsFrom,HFS.out]at this;rw[← this,outOk,d1]<;>rfl))
    go_wp2_with (first|((with_reducible refine wp_region_later (by kernel_rfl) (by kernel_rfl) ?_);(repeat(first|go_big_quiet_step (first|fail)|simp only[d1]));refine wpQuiet_nil ?_;rintro _ ⟨x,rfl⟩))
    go_ret
    exact Gives.mk (by rw[HF.out];rfl)
   cases d2:fileOutOkT es
   ·have HF:=lH (show spaceOk bd=false from spaceOk_no10 (by have:=HV.out;rw[ehd.out,outsFrom,HFS.out]at this;rw[← this,outOk,d1,d2]<;>rfl))
    go_wp2_with (first|((with_reducible refine wp_region_later (by kernel_rfl) (by kernel_rfl) ?_);(repeat(first|go_big_quiet_step (first|(go_at_call 155;exact Gives.quiet (k_iFileOutOk)))|simp only[d1]|simp only[d2]));refine wpQuiet_nil ?_;rintro _ ⟨x,rfl⟩)|(go_at_call 155;refine(k_iFileOutOk).mono ?_;rintro _ _ ⟨rfl,x,rfl⟩))
    go_ret
    exact Gives.mk (by rw[HF.out];rfl)
   cases d3:(es.File == (k:Int))
   ·have HF:=lH (show spaceOk bd=false from spaceOk_no10 (by have:=HV.out;rw[ehd.out,outsFrom,HFS.out]at this;rw[← this,outOk,d1,d2,d3]<;>rfl))
    have d3b:(es.File != (k:Int))=true:=by rw[bne,d3];rfl
    go_wp2_with (first|((with_reducible refine wp_region_later (by kernel_rfl) (by kernel_rfl) ?_);(repeat(first|go_big_quiet_step (first|(go_at_call 155;exact Gives.quiet (k_iFileOutOk)))|simp only[d1]|simp only[d2]|simp only[d3]|simp only[d3b]));refine wpQuiet_nil ?_;rintro _ ⟨x,rfl⟩)|(go_at_call 155;refine(k_iFileOutOk).mono ?_;rintro _ _ ⟨rfl,x,rfl⟩))
    go_ret
    exact Gives.mk (by rw[HF.out];rfl)
   have d3b:(es.File != (k:Int))=false:=by rw[bne,d3];rfl
   cases d4:(es.Data.toList == fs.toList)
   ·have HF:=lH (show spaceOk bd=false from spaceOk_no10 (by have:=HV.out;rw[ehd.out,outsFrom,HFS.out]at this;rw[← this,outOk,d1,d2,d3,d4]<;>rfl))
    have d4b:(es.Data.toList != fs.toList)=true:=by rw[bne,d4];rfl
    go_wp2_with (first|((with_reducible refine wp_region_later (by kernel_rfl) (by kernel_rfl) ?_);(repeat(first|go_big_quiet_step (first|(go_at_call 155;exact Gives.quiet (k_iFileOutOk)))|simp only[d1]|simp only[d2]|simp only[d3]|simp only[d3b]|simp only[d4]|simp only[d4b]));refine wpQuiet_nil ?_;rintro _ ⟨x,rfl⟩)|(go_at_call 155;refine(k_iFileOutOk).mono ?_;rintro _ _ ⟨rfl,x,rfl⟩))
    go_ret
    exact Gives.mk (by rw[HF.out];rfl)
   have d4b:(es.Data.toList != fs.toList)=false:=by rw[bne,d4];rfl
   have HF:=lH (show outsFrom bd.Files (k+1) (bd.Outs.drop (k+1))=outsFrom bd.Files 0 bd.Outs by have:=HV.out;rw[ehd.out,outsFrom,HFS.out]at this;rw[← this,outOk,d1,d2,d3,d4]<;>rfl)
   go_wp2_with (first|((with_reducible refine wp_region_later (by kernel_rfl) (by kernel_rfl) ?_);(repeat(first|go_big_quiet_step (first|(go_at_call 155;exact Gives.quiet (k_iFileOutOk)))|simp only[d1]|simp only[d2]|simp only[d3]|simp only[d4]|simp only[d3b]|simp only[d4b]));refine wpQuiet_nil ?_;rintro _ ⟨x,rfl⟩)|(go_at_call 155;refine(k_iFileOutOk).mono ?_;rintro _ _ ⟨rfl,x,rfl⟩))
   go_roundw
   case rel=>exact⟨k+1,by go_num,by omega,HF,Later.of⟩
   case measure=>simp[intOf];omega
  ·have T10:=lH (show outsFrom bd.Files 0 bd.Outs=true by have:=HV.out;rw[List.drop_of_length_le (by have:=HN9.out;omega)]at this;rw[← this];rfl)
   clear HV
   go_wp2_with (first|(go_at_call 85;refine(c_ibetween).mono ?_;rintro _ _ ⟨rfl,x,rfl⟩))
   go_ret
   exact Gives.mk (by rw[spaceOk_yes T1.out T2.out T3.out T4.out T5.out T6.out T7.out T8.out T9.out T10.out];rfl)
set_option maxRecDepth 100000 in
set_option maxHeartbeats 4000000 in
theorem k_sBoardOk{B n0 n1 n2 n3 n4 n5 n6:Nat}{a0 a1 a2 a3 a4 a5 a6:Option Addr}{c0 c1 c2 c3 c4 c5 c6:Nat}{bd:TBoard}{w0 w:World}(hq0:RdS B w0 a0 c0 bd.Params:=by first|assumption|(apply Sl.to<;>first|assumption|infer_instance)|omega)(hq1:RdS B w0 a1 c1 bd.Limits:=by first|assumption|(apply Sl.to<;>first|assumption|infer_instance)|omega)(hq2:RdS B w0 a2 c2 bd.Orders:=by first|assumption|(apply Sl.to<;>first|assumption|infer_instance)|omega)(hq3:RdS B w0 a3 c3 bd.Done:=by first|assumption|(apply Sl.to<;>first|assumption|infer_instance)|omega)(hq4:RdS B w0 a4 c4 bd.Recorder.Records:=by first|assumption|(apply Sl.to<;>first|assumption|infer_instance)|omega)(hq5:RdS B w0 a5 c5 bd.Recorder.Dropped:=by first|assumption|(apply Sl.to<;>first|assumption|infer_instance)|omega)(hq6:RdS B w0 a6 c6 bd.Asked:=by first|assumption|(apply Sl.to<;>first|assumption|infer_instance)|omega)[g:Keeps B w0 w](ok:okDTBoard bd:=by first|assumption|(apply Sl.to<;>first|assumption|infer_instance)|omega)(hn0:bd.Params.length=n0:=by first|assumption|(apply Sl.to<;>first|assumption|infer_instance)|omega)(hn1:bd.Limits.length=n1:=by first|assumption|(apply Sl.to<;>first|assumption|infer_instance)|omega)(hn2:bd.Orders.length=n2:=by first|assumption|(apply Sl.to<;>first|assumption|infer_instance)|omega)(hn3:bd.Done.length=n3:=by first|assumption|(apply Sl.to<;>first|assumption|infer_instance)|omega)(hn4:bd.Recorder.Records.length=n4:=by first|assumption|(apply Sl.to<;>first|assumption|infer_instance)|omega)(hn5:bd.Recorder.Dropped.length=n5:=by first|assumption|(apply Sl.to<;>first|assumption|infer_instance)|omega)(hn6:bd.Asked.length=n6:=by first|assumption|(apply Sl.to<;>first|assumption|infer_instance)|omega)(hm0:n0≤100000000:=by first|assumption|(apply Sl.to<;>first|assumption|infer_instance)|omega)(hm1:n1≤100000000:=by first|assumption|(apply Sl.to<;>first|assumption|infer_instance)|omega)(hm2:n2≤100000000:=by first|assumption|(apply Sl.to<;>first|assumption|infer_instance)|omega)(hm3:n3≤100000000:=by first|assumption|(apply Sl.to<;>first|assumption|infer_instance)|omega)(hm4:n4≤100000000:=by first|assumption|(apply Sl.to<;>first|assumption|infer_instance)|omega)(hm5:n5≤100000000:=by first|assumption|(apply Sl.to<;>first|assumption|infer_instance)|omega)(hm6:n6≤100000000:=by first|assumption|(apply Sl.to<;>first|assumption|infer_instance)|omega)  :
  Calls Tryz.prog 114 #[.agg #[.int .i64 bd.Clock,.slice a0 n0 c0,.bool bd.Safe,.slice a1 n1 c1,.slice a2 n2 c2,.slice a3 n3 c3,.int .i64 bd.Recorder.Room,.slice a4 n4 c4,.slice a5 n5 c5,.int .i64 bd.Made,.int .i64 bd.Taken,.slice a6 n6 c6]] w (Gives w (.bool (boardOk bd))):=by
 have hs0:=hq0.to g
 have hs1:=hq1.to g
 have hs2:=hq2.to g
 have hs3:=hq3.to g
 have hs4:=hq4.to g
 have hs5:=hq5.to g
 have hs6:=hq6.to g
 have HN0:=lH hn0
 have HN1:=lH hn1
 have HN2:=lH hn2
 have HN3:=lH hn3
 have HN4:=lH hn4
 have HN5:=lH hn5
 have HN6:=lH hn6
 clear hq0 hn0 hq1 hn1 hq2 hn2 hq3 hn3 hq4 hn4 hq5 hn5 hq6 hn6
 cases g1:inB bd.Clock 0 1000000
 ·have HF:=lH (show boardOk bd=false from boardOk_no1 g1)
  go_enter Tryz.func114,Tryz.ntmps114
  go_wp2_with (first|(go_at_call 88;refine(c_sl01In).mono ?_;rintro _ _ ⟨rfl,x,rfl⟩))
  go_ret
  exact Gives.mk (by rw[HF.out];rfl)
 have T1:=lH g1
 by_cases h2:n0=8
 rotate_left
 ·have k2:((n0:Int) != 8)=true:=by simp;omega
  have k2b:((n0:Int) == 8)=false:=by simp;omega
  have HF:=lH (show boardOk bd=false from boardOk_no2 (by rw[HN0.out];exact k2b))
  clear h2
  go_enter Tryz.func114,Tryz.ntmps114
  go_wp2_with (first|(go_at_call 88;refine(c_sl01In).mono ?_;rintro _ _ ⟨rfl,x,rfl⟩))
  go_ret
  exact Gives.mk (by rw[HF.out];rfl)
 subst h2
 have T2:=lH (show((bd.Params.length:Int) == 8)=true by rw[HN0.out];rfl)
 by_cases h4:n1≤8
 rotate_left
 ·have k4:decide (8<(n1:Int))=true:=by simp;omega
  have k4b:decide ((n1:Int)≤8)=false:=by simp;omega
  have HF:=lH (show boardOk bd=false from boardOk_no4 (by rw[HN1.out];exact k4b))
  clear h4
  go_enter Tryz.func114,Tryz.ntmps114
  go_wp2_with (first|(go_at_call 88;refine(c_sl01In).mono ?_;rintro _ _ ⟨rfl,x,rfl⟩))
  go_ret
  exact Gives.mk (by rw[HF.out];rfl)
 have k4:decide (8<(n1:Int))=false:=by simp;omega
 have k4b:decide ((n1:Int)≤8)=true:=by simp;omega
 have T4:=lH (show decide ((bd.Limits.length:Int)≤8)=true by rw[HN1.out];exact k4b)
 clear h4
 cases g6:inB bd.Made 0 65535
 ·have HF:=lH (show boardOk bd=false from boardOk_no6 g6)
  go_enter Tryz.func114,Tryz.ntmps114
  go_wp2_with (first|(go_at_call 88;refine(c_sl01In).mono ?_;rintro _ _ ⟨rfl,x,rfl⟩))
  go_ret
  exact Gives.mk (by rw[HF.out];rfl)
 have T6:=lH g6
 cases g7:inB bd.Taken 0 65535
 ·have HF:=lH (show boardOk bd=false from boardOk_no7 g7)
  go_enter Tryz.func114,Tryz.ntmps114
  go_wp2_with (first|(go_at_call 88;refine(c_sl01In).mono ?_;rintro _ _ ⟨rfl,x,rfl⟩))
  go_ret
  exact Gives.mk (by rw[HF.out];rfl)
 have T7:=lH g7
 by_cases h9:n3≤5000
 rotate_left
 ·have k9:decide (5000<(n3:Int))=true:=by simp;omega
  have k9b:decide ((n3:Int)≤5000)=false:=by simp;omega
  have HF:=lH (show boardOk bd=false from boardOk_no9 (by rw[HN3.out];exact k9b))
  clear h9
  go_enter Tryz.func114,Tryz.ntmps114
  go_wp2_with (first|(go_at_call 88;refine(c_sl01In).mono ?_;rintro _ _ ⟨rfl,x,rfl⟩))
  go_ret
  exact Gives.mk (by rw[HF.out];rfl)
 have k9:decide (5000<(n3:Int))=false:=by simp;omega
 have k9b:decide ((n3:Int)≤5000)=true:=by simp;omega
 have T9:=lH (show decide ((bd.Done.length:Int)≤5000)=true by rw[HN3.out];exact k9b)
 clear h9
 by_cases h13:n6≤5000
 rotate_left
 ·have k13:decide (5000<(n6:Int))=true:=by simp;omega
  have k13b:decide ((n6:Int)≤5000)=false:=by simp;omega
  have HF:=lH (show boardOk bd=false from boardOk_no13 (by rw[HN6.out];exact k13b))
  clear h13
  go_enter Tryz.func114,Tryz.ntmps114
  go_wp2_with (first|(go_at_call 88;refine(c_sl01In).mono ?_;rintro _ _ ⟨rfl,x,rfl⟩))
  go_ret
  exact Gives.mk (by rw[HF.out];rfl)
 have k13:decide (5000<(n6:Int))=false:=by simp;omega
 have k13b:decide ((n6:Int)≤5000)=true:=by simp;omega
 have T13:=lH (show decide ((bd.Asked.length:Int)≤5000)=true by rw[HN6.out];exact k13b)
 clear h13
 have hr4:=HN4.out
 have hr5:=HN5.out
 cases g11:recorderOk bd.Recorder
 ·have HF:=lH (show boardOk bd=false from boardOk_no11 g11)
  go_enter Tryz.func114,Tryz.ntmps114
  go_wp2_with (first|(go_at_call 88;refine(c_sl01In).mono ?_;rintro _ _ ⟨rfl,x,rfl⟩)|(go_at_call 228;refine(k_sRecorderOkN).mono ?_;rintro _ _ ⟨rfl,x,rfl⟩))
  go_ret
  exact Gives.mk (by rw[HF.out];rfl)
 have T11:=lH g11
 have⟨htk0,htk1⟩:=boardOk_taken T7.out
 have hl0:=HN0.out
 have hl1:=HN1.out
 have hl2:=HN2.out
 have hl3:=HN3.out
 have hl4:=HN4.out
 have hl5:=HN5.out
 have hl6:=HN6.out
 cases g8:ordersOk bd.Taken bd.Orders
 ·have HF:=lH (show boardOk bd=false from boardOk_no8 g8)
  go_enter Tryz.func114,Tryz.ntmps114
  go_wp2_with (first|(go_at_call 88;refine(c_sl01In).mono ?_;rintro _ _ ⟨rfl,x,rfl⟩)|(go_at_call 228;refine(k_sRecorderOkN).mono ?_;rintro _ _ ⟨rfl,x,rfl⟩)|(go_at_call 229;refine(k_sl05OrdersN).mono ?_;rintro _ _ ⟨rfl,x,rfl⟩))
  go_ret
  exact Gives.mk (by rw[HF.out];rfl)
 have T8:=lH g8
 go_enter Tryz.func114,Tryz.ntmps114
 go_wp2_with (first|(go_at_call 88;refine(c_sl01In).mono ?_;rintro _ _ ⟨rfl,x,rfl⟩)|(go_at_call 228;refine(k_sRecorderOkN).mono ?_;rintro _ _ ⟨rfl,x,rfl⟩)|(go_at_call 229;refine(k_sl05OrdersN).mono ?_;rintro _ _ ⟨rfl,x,rfl⟩))
 clear g1 k4 k4b g6 g7 k9 k9b k13 k13b g11 g8 hr4 hr5 hl0 hl1 hl2 hl3 hl4 hl5 hl6
 go_loopw [3] (fun v wr=>∃ k:Nat,v=.int .i64 k∧k≤8∧Hid (allB 0 65535 (bd.Params.drop k)=allB 0 65535 bd.Params)∧∃ X:Later (w.alloc (.cells #[.int .i64 bd.Clock,.slice a0 8 c0,.bool bd.Safe,.slice a1 n1 c1,.slice a2 n2 c2,.slice a3 n3 c3,.int .i64 bd.Recorder.Room,.slice a4 n4 c4,.slice a5 n5 c5,.int .i64 bd.Made,.int .i64 bd.Taken,.slice a6 n6 c6] 84)),wr=X.w) (fun v _=>(8 - intOf v).toNat)
 case atStart=>exact⟨0,rfl,by omega,rfl,Later.of⟩
 case round =>
  obtain⟨k,rfl,hk,HV,X,rfl⟩:=hrel
  by_cases h:k<8
  ·have hkl:k<bd.Params.length:=by have:=HN0.out;omega
   obtain⟨eb,eoff,es,rfl,ehb,ehd,eok,eh0⟩:=hs0.atInt hkl
   have EOK:=lH eok;clear eok
   clear hkl
   cases d1:inB es 0 65535
   ·have HF:=lH (show boardOk bd=false from boardOk_no3 (by have:=HV.out;rw[ehd.out,allB]at this;rw[← this,d1]<;>rfl))
    go_wp2_with (first|(go_at_call 88;refine(c_sl01In).mono ?_;rintro _ _ ⟨rfl,x,rfl⟩))
    go_ret
    exact Gives.mk (by rw[HF.out];rfl)
   have HF:=lH (show allB 0 65535 (bd.Params.drop (k+1))=allB 0 65535 bd.Params by have:=HV.out;rw[ehd.out,allB]at this;rw[← this,d1]<;>rfl)
   go_wp2_with (first|(go_at_call 88;refine(c_sl01In).mono ?_;rintro _ _ ⟨rfl,x,rfl⟩))
   go_roundw
   case rel=>exact⟨k+1,by go_num,by omega,HF,Later.of⟩
   case measure=>simp[intOf];omega
  ·have T3:=lH (show allB 0 65535 bd.Params=true by have:=HV.out;rw[List.drop_of_length_le (by have:=HN0.out;omega)]at this;rw[← this];rfl)
   clear HV
   go_wp2_with (first|(go_at_call 88;refine(c_sl01In).mono ?_;rintro _ _ ⟨rfl,x,rfl⟩))
   go_loopw [4] (fun v wr=>∃ k:Nat,v=.int .i64 k∧k≤n1∧Hid ((bd.Limits.drop k).all limitOk=bd.Limits.all limitOk)∧∃ X:Later (w.alloc (.cells #[.int .i64 bd.Clock,.slice a0 8 c0,.bool bd.Safe,.slice a1 n1 c1,.slice a2 n2 c2,.slice a3 n3 c3,.int .i64 bd.Recorder.Room,.slice a4 n4 c4,.slice a5 n5 c5,.int .i64 bd.Made,.int .i64 bd.Taken,.slice a6 n6 c6] 84)),wr=X.w) (fun v _=>(n1 - intOf v).toNat)
   case atStart=>exact⟨0,rfl,by omega,rfl,Later.of⟩
   case round =>
    obtain⟨k,rfl,hk,HV,X,rfl⟩:=hrel
    by_cases h:k<n1
    ·have hkl:k<bd.Limits.length:=by have:=HN1.out;omega
     obtain⟨eb,eoff,es,rfl,ehb,ehd,eok,eh0,eh1,eh2⟩:=hs1.atTLimit hkl
     have EOK:=lH eok;clear eok
     clear hkl
     cases d1:inB es.Param 0 7
     ·have HF:=lH (show boardOk bd=false from boardOk_no5 (by have:=HV.out;rw[ehd.out,List.all_cons]at this;rw[← this,limitOk,d1]<;>rfl))
      go_wp2_with (first|(go_at_call 88;refine(c_sl01In).mono ?_;rintro _ _ ⟨rfl,x,rfl⟩))
      go_ret
      exact Gives.mk (by rw[HF.out];rfl)
     cases d2:inB es.Low 0 65535
     ·have HF:=lH (show boardOk bd=false from boardOk_no5 (by have:=HV.out;rw[ehd.out,List.all_cons]at this;rw[← this,limitOk,d1,d2]<;>rfl))
      go_wp2_with (first|(go_at_call 88;refine(c_sl01In).mono ?_;rintro _ _ ⟨rfl,x,rfl⟩))
      go_ret
      exact Gives.mk (by rw[HF.out];rfl)
     cases d3:inB es.High 0 65535
     ·have HF:=lH (show boardOk bd=false from boardOk_no5 (by have:=HV.out;rw[ehd.out,List.all_cons]at this;rw[← this,limitOk,d1,d2,d3]<;>rfl))
      go_wp2_with (first|(go_at_call 88;refine(c_sl01In).mono ?_;rintro _ _ ⟨rfl,x,rfl⟩))
      go_ret
      exact Gives.mk (by rw[HF.out];rfl)
     have HF:=lH (show(bd.Limits.drop (k+1)).all limitOk=bd.Limits.all limitOk by have:=HV.out;rw[ehd.out,List.all_cons]at this;rw[← this,limitOk,d1,d2,d3]<;>rfl)
     go_wp2_with (first|(go_at_call 88;refine(c_sl01In).mono ?_;rintro _ _ ⟨rfl,x,rfl⟩))
     go_roundw
     case rel=>exact⟨k+1,by go_num,by omega,HF,Later.of⟩
     case measure=>simp[intOf];omega
    ·have T5:=lH (show bd.Limits.all limitOk=true by have:=HV.out;rw[List.drop_of_length_le (by have:=HN1.out;omega)]at this;rw[← this];rfl)
     clear HV
     go_wp2_with (first|(go_at_call 88;refine(c_sl01In).mono ?_;rintro _ _ ⟨rfl,x,rfl⟩))
     go_loopw [6] (fun v wr=>∃ k:Nat,v=.int .i64 k∧k≤n3∧Hid ((bd.Done.drop k).all (doneOk bd.Taken)=bd.Done.all (doneOk bd.Taken))∧∃ X:Later (w.alloc (.cells #[.int .i64 bd.Clock,.slice a0 8 c0,.bool bd.Safe,.slice a1 n1 c1,.slice a2 n2 c2,.slice a3 n3 c3,.int .i64 bd.Recorder.Room,.slice a4 n4 c4,.slice a5 n5 c5,.int .i64 bd.Made,.int .i64 bd.Taken,.slice a6 n6 c6] 84)),wr=X.w) (fun v _=>(n3 - intOf v).toNat)
     case atStart=>exact⟨0,rfl,by omega,rfl,Later.of⟩
     case round =>
      obtain⟨k,rfl,hk,HV,X,rfl⟩:=hrel
      by_cases h:k<n3
      ·have hkl:k<bd.Done.length:=by have:=HN3.out;omega
       obtain⟨eb,eoff,es,rfl,ehb,ehd,eok,eh0,eh1,eh2⟩:=hs3.atTDone hkl
       have EOK:=lH eok;clear eok
       have⟨htt0,htt1⟩:=boardOk_taken T7.out
       clear hkl
       cases d1:inB es.Number 0 (bd.Taken - 1)
       ·have HF:=lH (show boardOk bd=false from boardOk_no10 (by have:=HV.out;rw[ehd.out,List.all_cons]at this;rw[← this,doneOk,d1]<;>rfl))
        go_wp2_with (first|(go_at_call 88;refine(c_sl01In).mono ?_;rintro _ _ ⟨rfl,x,rfl⟩))
        go_ret
        exact Gives.mk (by rw[HF.out];rfl)
       cases d2:inB es.Time 0 1000000
       ·have HF:=lH (show boardOk bd=false from boardOk_no10 (by have:=HV.out;rw[ehd.out,List.all_cons]at this;rw[← this,doneOk,d1,d2]<;>rfl))
        go_wp2_with (first|(go_at_call 88;refine(c_sl01In).mono ?_;rintro _ _ ⟨rfl,x,rfl⟩))
        go_ret
        exact Gives.mk (by rw[HF.out];rfl)
       cases d3:inB es.Result 0 1
       ·have HF:=lH (show boardOk bd=false from boardOk_no10 (by have:=HV.out;rw[ehd.out,List.all_cons]at this;rw[← this,doneOk,d1,d2,d3]<;>rfl))
        go_wp2_with (first|(go_at_call 88;refine(c_sl01In).mono ?_;rintro _ _ ⟨rfl,x,rfl⟩))
        go_ret
        exact Gives.mk (by rw[HF.out];rfl)
       have HF:=lH (show(bd.Done.drop (k+1)).all (doneOk bd.Taken)=bd.Done.all (doneOk bd.Taken)by have:=HV.out;rw[ehd.out,List.all_cons]at this;rw[← this,doneOk,d1,d2,d3]<;>rfl)
       go_wp2_with (first|(go_at_call 88;refine(c_sl01In).mono ?_;rintro _ _ ⟨rfl,x,rfl⟩))
       go_roundw
       case rel=>exact⟨k+1,by go_num,by omega,HF,Later.of⟩
       case measure=>simp[intOf];omega
      ·have T10:=lH (show bd.Done.all (doneOk bd.Taken)=true by have:=HV.out;rw[List.drop_of_length_le (by have:=HN3.out;omega)]at this;rw[← this];rfl)
       clear HV
       go_wp2_with (first|(go_at_call 88;refine(c_sl01In).mono ?_;rintro _ _ ⟨rfl,x,rfl⟩))
       go_loopw [8] (fun v wr=>∃ k:Nat,v=.int .i64 k∧k≤n4∧Hid ((bd.Recorder.Records.drop k).all (idOk bd.Made)=bd.Recorder.Records.all (idOk bd.Made))∧∃ X:Later (w.alloc (.cells #[.int .i64 bd.Clock,.slice a0 8 c0,.bool bd.Safe,.slice a1 n1 c1,.slice a2 n2 c2,.slice a3 n3 c3,.int .i64 bd.Recorder.Room,.slice a4 n4 c4,.slice a5 n5 c5,.int .i64 bd.Made,.int .i64 bd.Taken,.slice a6 n6 c6] 84)),wr=X.w) (fun v _=>(n4 - intOf v).toNat)
       case atStart=>exact⟨0,rfl,by omega,rfl,Later.of⟩
       case round =>
        obtain⟨k,rfl,hk,HV,X,rfl⟩:=hrel
        by_cases h:k<n4
        ·have hkl:k<bd.Recorder.Records.length:=by have:=HN4.out;omega
         obtain⟨eb,eoff,es,rfl,ehb,ehd,eok,eh0,eh1,eh2,eh3⟩:=hs4.atTRecord hkl
         have hz9:es.Data.size≤9223372036854775807:=eok.2.2.2.1
         have EOK:=lH eok;clear eok
         clear hkl
         cases d1:decide (bd.Made≤es.Id)
         rotate_left
         ·have HF:=lH (show boardOk bd=false from boardOk_no12 (by have:=HV.out;rw[ehd.out,List.all_cons]at this;rw[← this,idOk,d1]<;>rfl))
          go_wp2_with (first|((with_reducible refine wp_region_later (by kernel_rfl) (by kernel_rfl) ?_);(repeat(first|go_big_quiet_step (first|fail)|simp only[d1]));refine wpQuiet_nil ?_;rintro _ ⟨x,rfl⟩))
          go_ret
          exact Gives.mk (by rw[HF.out];rfl)
         have HF:=lH (show(bd.Recorder.Records.drop (k+1)).all (idOk bd.Made)=bd.Recorder.Records.all (idOk bd.Made)by have:=HV.out;rw[ehd.out,List.all_cons]at this;rw[← this,idOk,d1]<;>rfl)
         go_wp2_with (first|((with_reducible refine wp_region_later (by kernel_rfl) (by kernel_rfl) ?_);(repeat(first|go_big_quiet_step (first|fail)|simp only[d1]));refine wpQuiet_nil ?_;rintro _ ⟨x,rfl⟩))
         go_roundw
         case rel=>exact⟨k+1,by go_num,by omega,HF,Later.of⟩
         case measure=>simp[intOf];omega
        ·have T12:=lH (show bd.Recorder.Records.all (idOk bd.Made)=true by have:=HV.out;rw[List.drop_of_length_le (by have:=HN4.out;omega)]at this;rw[← this];rfl)
         clear HV
         go_wp2_with (first|(go_at_call 88;refine(c_sl01In).mono ?_;rintro _ _ ⟨rfl,x,rfl⟩))
         go_loopw [9] (fun v wr=>∃ k:Nat,v=.int .i64 k∧k≤n6∧Hid (allB 0 7 (bd.Asked.drop k)=allB 0 7 bd.Asked)∧∃ X:Later (w.alloc (.cells #[.int .i64 bd.Clock,.slice a0 8 c0,.bool bd.Safe,.slice a1 n1 c1,.slice a2 n2 c2,.slice a3 n3 c3,.int .i64 bd.Recorder.Room,.slice a4 n4 c4,.slice a5 n5 c5,.int .i64 bd.Made,.int .i64 bd.Taken,.slice a6 n6 c6] 84)),wr=X.w) (fun v _=>(n6 - intOf v).toNat)
         case atStart=>exact⟨0,rfl,by omega,rfl,Later.of⟩
         case round =>
          obtain⟨k,rfl,hk,HV,X,rfl⟩:=hrel
          by_cases h:k<n6
          ·have hkl:k<bd.Asked.length:=by have:=HN6.out;omega
           obtain⟨eb,eoff,es,rfl,ehb,ehd,eok,eh0⟩:=hs6.atInt hkl
           have EOK:=lH eok;clear eok
           clear hkl
           cases d1:inB es 0 7
           ·have HF:=lH (show boardOk bd=false from boardOk_no14 (by have:=HV.out;rw[ehd.out,allB]at this;rw[← this,d1]<;>rfl))
            go_wp2_with (first|(go_at_call 88;refine(c_sl01In).mono ?_;rintro _ _ ⟨rfl,x,rfl⟩))
            go_ret
            exact Gives.mk (by rw[HF.out];rfl)
           have HF:=lH (show allB 0 7 (bd.Asked.drop (k+1))=allB 0 7 bd.Asked by have:=HV.out;rw[ehd.out,allB]at this;rw[← this,d1]<;>rfl)
           go_wp2_with (first|(go_at_call 88;refine(c_sl01In).mono ?_;rintro _ _ ⟨rfl,x,rfl⟩))
           go_roundw
           case rel=>exact⟨k+1,by go_num,by omega,HF,Later.of⟩
           case measure=>simp[intOf];omega
          ·have T14:=lH (show allB 0 7 bd.Asked=true by have:=HV.out;rw[List.drop_of_length_le (by have:=HN6.out;omega)]at this;rw[← this];rfl)
           clear HV
           go_wp2_with (first|(go_at_call 88;refine(c_sl01In).mono ?_;rintro _ _ ⟨rfl,x,rfl⟩))
           go_ret
           exact Gives.mk (by rw[boardOk_yes T1.out T2.out T3.out T4.out T5.out T6.out T7.out T8.out T9.out T10.out T11.out T12.out T13.out T14.out];rfl)
def addAt(ops:Array Oper)(b:Act)(i:Nat):Option (ByteArray × ByteArray) :=
 if Region.wanted (opAt ops i) (yielded ops b.tmps)then(match (opAt ops i).op with
  | .binOp .add _ x y _=>(match b.eval x,b.eval y with|.string s,.string t=>some (s,t)|_,_=>none)
  | _=>none)else none
theorem run_add{P:Program}{ops:Array Oper}{b:Act}{w:World}{i:Nat}{s t:ByteArray}(hk:addAt ops b i=some (s,t))(hs:s.size+t.size≤9223372036854775807):runAt P ops b w i=some (.string (s++t),w):=by
 unfold addAt at hk
 split at hk
 case isFalse=>cases hk
 rename_i hw
 split at hk
 case h_2=>cases hk
 rename_i ty x y ty2 hop
 split at hk
 case h_2=>cases hk
 rename_i s' t' hx hy
 simp only[Option.some.injEq,Prod.mk.injEq]at hk
 obtain⟨rfl,rfl⟩:=hk
 have hn:¬ ((s'.size+t'.size:Nat):Int) > IntKind.i64.max:=by
  have:IntKind.i64.max=9223372036854775807:=by decide
  omega
 unfold runAt
 rw[if_pos hw]
 unfold execOp
 simp only[hop,hx,hy,binOp_string_add]
 unfold Op.stringOp
 have he:eqGuard BinOp.add ty x y (Value.string s') (Value.string t')=pure ():=rfl
 simp only[if_neg hn,he,Sem.run_bind,Sem.run_pure,Result.andThen_ok]
theorem chain0{R:World→World→Prop}{Fs:EntL R}{w:World}{G:(Nat→Value)→Prop}{val:Nat→Value}(h:G val):chain Fs w G [] val:=h
theorem chain1{R:World→World→Prop}{Fs:EntL R}{w:World}{G:(Nat→Value)→Prop}{val:Nat→Value}{i:Nat}{r:List Nat}(h:∀ v,(entAt Fs i).p v w→chain Fs w G r (upd i v val)):chain Fs w G (i::r) val:=h
def bOk(l:List Pair)(b:Int):Bool:=pairsOk l && inB b 0 2000000
def bLo(l:List Pair)(b:Int):Int:=if bOk l b=true then(boundsFrom b 0 l).1 else 0
def bHi(l:List Pair)(b:Int):Int:=if bOk l b=true then(boundsFrom b 0 l).2 else 0
def pairTrue(r o:Int)(p:Pair):Bool:=boardTime r o p.True == p.Board
noncomputable def recTimed(l:List Pair)(r o:Int)(x:TRecord):Bool:=bOk l x.Time && (!decide ((since r o x.Time:Int)<bLo l x.Time) && !decide (bHi l x.Time<(since r o x.Time:Int) - 1))
noncomputable def timesTrue(m:TMission):Bool:=m.Ground.Pairs.all (pairTrue m.Drift.Rate m.Drift.Offset) && ((boardTime m.Drift.Rate m.Drift.Offset m.Time == m.Space.Board.Clock) && m.Ground.Records.all (recTimed m.Ground.Pairs m.Drift.Rate m.Drift.Offset))
end Go.Proofs.YtdinhfeflobafaaGreat
