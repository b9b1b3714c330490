/- The contracts of valid senders and receivers of files, for their Lean types, both sides. No condition but on sizes. -/
import Derived.Test.YtdijmbipcgalfaaGreatHOkR
import Derived.Test.YtdijmbipcgalfaaGreatHM18
import Derived.Test.YtdijmbipcgalfaaGreatHSlots2
import Derived.Test.YtdijmbipcgalfaaGreatHStab3
import Derived.Test.YtdijmbipcgalfaaGreatHOwnF
import Derived.Test.YtdijmbipcgalfaaGreatHM0
import Derived.Test.YtdijmbipcgalfaaGreatHStepH
import Derived.Test.YtdijmbipcgalfaaGreatHOnce
import Derived.Laws.ByValue
import Derived.Test.YtdijmbipcgalfaaGreatHHearP
import Derived.Test.YtdijmbipcgalfaaGreatHNextP
namespace Go.Proofs.YtdijmbipcgalfaaGreat
set_option maxRecDepth 100000
set_option maxHeartbeats 4000000
set_option linter.unusedVariables false
open Go.ChangeShapes Go.WideShapes Go.ChangeAt Go.RowKit
variable {B c c0 c1 c2 c3 c4 c5 c6 n n0 n1 n2 n3 n4 n5 n6:Nat}{a a0 a1 a2 a3 a4 a5 a6:Option Addr}{w w0:World}
theorem RdS.slStr{B:Nat}{w:World}{a:Option Addr}{c:Nat}{l:List ByteArray}(h:RdS B w a c l):Sl L4 w a l:=fun i s hx=>by
 obtain⟨b,off,vs,h0,-,h2,h3,h4⟩:=h.2.2.2 i s hx
 exact⟨b,off,h0,h2,fun j v hv=>by
  obtain⟨rfl,-⟩:=h3
  have:=h4 j v hv
  rw[show Enc.size ByteArray=(L4 s).length from rfl]at this
  exact this⟩
def ai9(f:s7):Bool:=am8 f.File f.Data.size f.Queue
def Y8(f:A8):Bool:=J9 f.File f.Size f.Check f.Parts
theorem ab5{f:s7}(hs0:RdS B w0 a c f.Queue:=by exact sd)[g:d7 B w0 w](hn:f.Queue.length=n:=by exact sd)(hm:n≤100000000:=by exact sd)(hz:f.Data.size≤100000000:=by exact sd) :
  Calls Tryz.prog 265 #[.agg #[I f.File,.string f.Data,.slice a n c,.bool f.Done]] w (b5 w (.bool (ai9 f))) :=
 bo2 (hs0.to g).toSlInt hn om hz
theorem ab7{f:s7}(hs0:RdS B w0 a c f.Queue:=by exact sd)[g:d7 B w0 w](hn:f.Queue.length=n:=by exact sd)(hm:n≤100000000:=by exact sd)(hz:f.Data.size≤100000000:=by exact sd) :
  Calls Tryz.prog 237 #[.agg #[I f.File,.string f.Data,.slice a n c,.bool f.Done]] w (b5 w (.bool (ai9 f))) :=
 bp2 (hs0.to g).toSlInt hn om hz
theorem aD0{f:A8}(hs0:RdS B w0 a c f.Parts:=by exact sd)[g:d7 B w0 w](hn:f.Parts.length=n:=by exact sd)(hm:n≤100000000:=by exact sd)(hz:∀ s∈f.Parts,s.size≤100000000:=by exact sd) :
  Calls Tryz.prog 262 #[.agg #[I f.File,I f.Size,I f.Check,.slice a n c]] w (b5 w (.bool (Y8 f))) :=
 aT5 (hs0.to g).slStr hn om hz
theorem aD3{f:A8}(hs0:RdS B w0 a c f.Parts:=by exact sd)[g:d7 B w0 w](hn:f.Parts.length=n:=by exact sd)(hm:n≤100000000:=by exact sd)(hz:∀ s∈f.Parts,s.size≤100000000:=by exact sd) :
  Calls Tryz.prog 234 #[.agg #[I f.File,I f.Size,I f.Check,.slice a n c]] w (b5 w (.bool (Y8 f))) :=
 aT8 (hs0.to g).slStr hn om hz
theorem RdS.toSlPair{B:Nat}{w:World}{a:Option Addr}{c:Nat}{l:List X1}(h:RdS B w a c l):Sl M4 w a l:=fun i s hx=>by
 obtain⟨b,off,vs,h0,-,h2,h3,h4⟩:=h.2.2.2 i s hx
 exact⟨b,off,h0,h2,fun j v hv=>by
  obtain⟨rfl,-⟩:=h3
  have:=h4 j v hv
  rw[show Enc.size X1=(M4 s).length from rfl]at this
  exact this⟩
def at9(x:aB7):Bool:=av9 x.Rate x.Offset
def av6(x:aB8):Bool:=az9 x.Period x.Start x.Length
theorem bI7{x:aB7}:Calls Tryz.prog 147 #[.agg #[I x.Rate,I x.Offset]] w (b5 w (.bool (at9 x))):=bE9
theorem bI8{x:aB8}:Calls Tryz.prog 148 #[.agg #[I x.Period,I x.Start,I x.Length]] w (b5 w (.bool (av6 x))):=bF0
theorem aq2{l:List X1}(hs0:RdS B w0 a c l:=by exact sd)[g:d7 B w0 w](hn:l.length=n:=by exact sd)(hm:n≤100000000:=by exact sd) :
  Calls Tryz.prog 260 #[.slice a n c] w (b5 w (.bool (Z9 l))):=aK3 (hs0.to g).toSlPair hn om
theorem aI0{l:List k5}(hs0:RdS B w0 a c l)[g:d7 B w0 w](hn:l.length=n)(hm:n≤100000000) :
  Calls Tryz.prog 150 #[.slice a n c] w (b5 w (.bool (N6 l))):=by
 subst hn;exact br8 (hs0.to g) hm
theorem ah1{l:List s8}(hs0:RdS B w0 a c l:=by exact sd)[g:d7 B w0 w](hn:l.length=n:=by exact sd)(hm:n≤100000000:=by exact sd) :
  Calls Tryz.prog 261 #[.slice a n c] w (b5 w (.bool (N8 l))):=by
 subst hn;exact br9 (hs0.to g) hm
theorem V1{sD:E8}(hs0:RdS B w0 a c sD.Waiting:=by exact sd)[g:d7 B w0 w](hn:sD.Waiting.length=n:=by exact sd)(hm:n≤100000000:=by exact sd)(hi:am4 sD:=by exact sd) :
  Calls Tryz.prog 259 #[.agg #[I sD.Next,I sD.Window,.slice a n c,I sD.Done]] w (b5 w (.bool (J3 sD))):=by
 subst hn;exact bA2 (hs0.to g) hm hi
theorem ab6{p:Q8}(hs0:RdS B w0 a c p.Starts:=by exact sd)[g:d7 B w0 w](hn:p.Starts.length=n:=by exact sd)(hm:n≤100000000:=by exact sd)(hz:p.Rest.size≤100000000:=by exact sd) :
  Calls Tryz.prog 217 #[.agg #[I p.Channel,I p.Count,.string p.Rest,.slice a n c]] w (b5 w (.bool (aj7 p))):=by
 subst hn;exact bA1 (hs0.to g) hm hz
theorem bJ0{x:aB7}:Calls Tryz.prog 102 #[.agg #[I x.Rate,I x.Offset]] w (b5 w (.bool (at9 x))):=bF3
theorem bJ1{x:aB8}:Calls Tryz.prog 103 #[.agg #[I x.Period,I x.Start,I x.Length]] w (b5 w (.bool (av6 x))):=bF4
theorem aj3{l:List X1}(hs0:RdS B w0 a c l:=by exact sd)[g:d7 B w0 w](hn:l.length=n:=by exact sd)(hm:n≤100000000:=by exact sd) :
  Calls Tryz.prog 232 #[.slice a n c] w (b5 w (.bool (Z9 l))):=aK4 (hs0.to g).toSlPair hn om
theorem aI1{l:List k5}(hs0:RdS B w0 a c l)[g:d7 B w0 w](hn:l.length=n)(hm:n≤100000000) :
  Calls Tryz.prog 105 #[.slice a n c] w (b5 w (.bool (N6 l))):=by
 subst hn;exact bs0 (hs0.to g) hm
theorem ah2{l:List s8}(hs0:RdS B w0 a c l:=by exact sd)[g:d7 B w0 w](hn:l.length=n:=by exact sd)(hm:n≤100000000:=by exact sd) :
  Calls Tryz.prog 233 #[.slice a n c] w (b5 w (.bool (N8 l))):=by
 subst hn;exact bs2 (hs0.to g) hm
theorem N7{sD:E8}(hs0:RdS B w0 a c sD.Waiting:=by exact sd)[g:d7 B w0 w](hn:sD.Waiting.length=n:=by exact sd)(hm:n≤100000000:=by exact sd)(hi:am4 sD:=by exact sd) :
  Calls Tryz.prog 231 #[.agg #[I sD.Next,I sD.Window,.slice a n c,I sD.Done]] w (b5 w (.bool (J3 sD))):=by
 subst hn;exact bA6 (hs0.to g) hm hi
theorem ab8{p:Q8}(hs0:RdS B w0 a c p.Starts:=by exact sd)[g:d7 B w0 w](hn:p.Starts.length=n:=by exact sd)(hm:n≤100000000:=by exact sd)(hz:p.Rest.size≤100000000:=by exact sd) :
  Calls Tryz.prog 204 #[.agg #[I p.Channel,I p.Count,.string p.Rest,.slice a n c]] w (b5 w (.bool (aj7 p))):=by
 subst hn;exact bA4 (hs0.to g) hm hz
def Y2(q:Int):Nat→List D4→Int
 | _,[]=>-1
 | k,s::r=>if s.Number=q then(k:Int)else Y2 q (k+1) r
theorem bc9{q:Int}{s:D4}{r:List D4}(hs:s.Number=q):∀ (l:List D4) (k j:Nat),l.drop j=s::r→(Y2 q k l=((k+j:Nat):Int)↔∀ y∈l.take j,y.Number≠q)
 | [],_,j,h=>by simp at h
 | y::t,k,0,h=>by
  rw[List.drop_zero]at h
  injection h with h1 h2
  rw[Y2,h1,if_pos hs]
  simp
 | y::t,k,j+1,h=>by
  rw[List.drop_succ_cons]at h
  rw[Y2,List.take_succ_cons]
  by_cases hy:y.Number=q
  ·rw[if_pos hy]
   constructor
   ·intro e;omega
   ·intro e;exact absurd hy (e y si)
  ·rw[if_neg hy,show((k+(j+1):Nat):Int)=((k+1+j:Nat):Int)from by omega,bc9 hs t (k+1) j h]
   constructor
   ·intro e z hz
    rcases List.mem_cons.1 hz with h1|h1
    ·rw[h1];exact hy
    ·exact e z h1
   ·intro e z hz
    exact e z (List.mem_cons_of_mem _ hz)
theorem aa5{q:Int}{l:List D4}(hs0:RdS B w0 a c l:=by exact sd)[g:d7 B w0 w](hn:l.length=n:=by exact sd)(hm:n≤100000000:=by exact sd) :
  Calls Tryz.prog 347 #[.slice a n c,I q] w (b5 w (I (Y2 q 0 l))):=by
 have HN:=lH hn
 have hs:=hs0.to g;clear hs0
 clear hn
 go_enter Tryz.func347,Tryz.ntmps347
 go_wp2_with (fail)
 go_loopw [9] (fun v wr=>∃ k:Nat,v=I k∧k≤n∧Hid (Y2 q k (l.drop k)=Y2 q 0 l)∧∃ y:b7 w,wr=y.w) (fun v _=>(n - intOf v).toNat)
 case atStart=>exact⟨0,rfl,by omega,rfl,b7.of⟩
 case round =>
  obtain⟨k,rfl,hk,HV,y,rfl⟩:=hrel
  by_cases h:k<n
  ·have hkl:k<l.length:=by have:=HN.out;omega
   obtain⟨eb,eoff,es,rfl,ehb,ehd,eok,eh0,eh1,eh2,eh3,eh4⟩:=hs.atTWaiting hkl
   have EOK:=lH eok;clear eok hkl
   by_cases hq:es.Number=q
   ·have kq:(es.Number == q)=true:=by simp[hq]
    have HF:=lH (show(k:Int)=Y2 q 0 l by have:=HV.out;rw[ehd.out,Y2,if_pos hq]at this;exact this)
    clear hq
    go_wp2_with (fail)
    go_ret
    exact b5.mk (by rw[← HF.out];rfl)
   ·have kq:(es.Number == q)=false:=by simp[hq]
    have HF:=lH (show Y2 q (k+1) (l.drop (k+1))=Y2 q 0 l by have:=HV.out;rw[ehd.out,Y2,if_neg hq]at this;exact this)
    clear hq
    go_wp2_with (fail)
    go_roundw
    case rel=>exact⟨k+1,by go_num,by omega,HF,b7.of⟩
    case measure=>simp[intOf];omega
  ·have HF:=lH (show -1=Y2 q 0 l by have:=HV.out;rw[List.drop_of_length_le (by have:=HN.out;omega),Y2]at this;exact this)
   go_wp2_with (fail)
   go_ret
   exact b5.mk (by rw[← HF.out];rfl)
def ap2(s:D4):Option D4→Bool
 | none=>true
 | some q=>!(decide (s.Order.At<q.Order.At) || (s.Order.At == q.Order.At && decide (s.Number<q.Number)))
def ak1(taken:Int)(L:List D4)(k:Nat)(s:D4):Bool :=
 A4 s.Order && (inB s.Number 0 (taken - 1) && ((L.take k).all (fun y=>y.Number != s.Number) && ap2 s (N5 L k)))
def B4(taken:Int)(L:List D4):Nat→List D4→Bool
 | _,[]=>true
 | k,s::r=>ak1 taken L k s && B4 taken L (k+1) r
def J6(taken:Int)(L:List D4):Bool:=decide ((L.length:Int)≤40) && B4 taken L 0 L
theorem bd0{L r:List D4}{s:D4}{k:Nat}(h:L.drop k=s::r):(Y2 s.Number 0 L=(k:Int))↔(L.take k).all (fun y=>y.Number != s.Number)=true:=by
 have:=bc9 (q:=s.Number) rfl L 0 k h
 rw[Nat.zero_add]at this
 rw[this,List.all_eq_true]
 simp
theorem aD2{taken:Int}{l:List D4}(hs0:RdS B w0 a c l:=by exact sd)[g:d7 B w0 w](hn:l.length=n:=by exact sd)(hm:n≤100000000:=by exact sd)(ht0:0≤taken:=by exact sd)(ht1:taken≤65535:=by exact sd) :
  Calls Tryz.prog 326 #[.slice a n c,I taken] w (b5 w (.bool (J6 taken l))):=by
 have HN:=lH hn
 have hs:=hs0.to g;clear hs0
 have HD:=lH (show J6 taken l=(decide ((n:Int)≤40) && B4 taken l 0 l)by rw[J6,hn])
 by_cases h40:n≤40
 ·have k40:decide (40<(n:Int))=false:=by simp;omega
  have HD2:=lH (show J6 taken l=B4 taken l 0 l by rw[HD.out,decide_eq_true om];rfl)
  clear HD
  go_enter Tryz.func326,Tryz.ntmps326
  go_wp2_with fail
  go_loopw [13] (fun v wr=>∃ k:Nat,v=I k∧k≤n∧Hid (B4 taken l k (l.drop k)=B4 taken l 0 l)∧∃ y:b7 w,wr=y.w) (fun v _=>(n - intOf v).toNat)
  case atStart=>exact⟨0,rfl,by omega,rfl,b7.of⟩
  case round =>
   obtain⟨k,rfl,hk,HV,y,rfl⟩:=hrel
   by_cases h:k<n
   ·have hkl:k<l.length:=by have:=HN.out;omega
    obtain⟨eb,eoff,es,rfl,ehb,ehd,eok,eh0,eh1,eh2,eh3,eh4⟩:=hs.atTWaiting hkl
    have EOK:=lH eok;clear eok hkl
    cases d1:A4 es.Order
    ·have HF:=lH (show J6 taken l=false by have:=HV.out;rw[ehd.out,B4,ak1,d1]at this;rw[HD2.out,← this];rfl)
     go_wp2_with (first|(go_at_call 346;refine gm (aj2) ?_;intro x))
     go_ret
     exact b5.mk (by rw[HF.out];rfl)
    cases d2:inB es.Number 0 (taken - 1)
    ·have HF:=lH (show J6 taken l=false by have:=HV.out;rw[ehd.out,B4,ak1,d1,d2]at this;rw[HD2.out,← this];rfl)
     go_wp2_with (first|(go_at_call 146;refine gm (d8) ?_;intro x)|(go_at_call 346;refine gm (aj2) ?_;intro x))
     go_ret
     exact b5.mk (by rw[HF.out];rfl)
    cases d3:(l.take k).all (fun y=>y.Number != es.Number)
    ·have HF:=lH (show J6 taken l=false by have:=HV.out;rw[ehd.out,B4,ak1,d1,d2,d3]at this;rw[HD2.out,← this];rfl)
     have e3:(Y2 es.Number 0 l == (k:Int))=false:=by
      have:=(not_congr (bd0 ehd.out)).2 (by rw[d3];simp)
      simp[this]
     have e4:(Y2 es.Number 0 l != (k:Int))=true:=by rw[bne,e3];rfl
     clear d3
     go_wp2_with (first|(go_at_call 146;refine gm (d8) ?_;intro x)|(go_at_call 346;refine gm (aj2) ?_;intro x)|(go_at_call 347;refine gm (aa5) ?_;intro x))
     go_ret
     exact b5.mk (by rw[HF.out];rfl)
    have e3:(Y2 es.Number 0 l == (k:Int))=true:=by
     have:=(bd0 ehd.out).2 d3
     simp[this]
    have e4:(Y2 es.Number 0 l != (k:Int))=false:=by rw[bne,e3];rfl
    by_cases hz0:k=0
    ·have HF:=lH (show B4 taken l (k+1) (l.drop (k+1))=B4 taken l 0 l by have:=HV.out;rw[ehd.out,B4,ak1,d1,d2,d3]at this;rw[← this];simp[N5,hz0,ap2])
     have hz':((k:Int) == 0)=true:=by simp[hz0]
     clear d3 hz0
     go_wp2_with (first|(go_at_call 146;refine gm (d8) ?_;intro x)|(go_at_call 346;refine gm (aj2) ?_;intro x)|(go_at_call 347;refine gm (aa5) ?_;intro x))
     go_roundw
     case rel=>exact⟨k+1,by go_num,by omega,HF,b7.of⟩
     case measure=>simp[intOf];omega
    ·obtain⟨fb,foff,fs,hbo,fhb,fhd,fok,fh0,fh1,fh2,fh3,fh4⟩:=hs.atTWaiting (show k - 1<l.length by have:=HN.out;omega)
     simp only[Option.some.injEq,Addr.mk.injEq,and_true]at hbo
     obtain⟨rfl,rfl⟩:=hbo
     have FOK:=lH fok;clear fok
     have hz':((k:Int) == 0)=false:=by simp;omega
     have hp:N5 l k=some fs:=by have:=R2 fhd.out;rwa[show k - 1+1=k from by omega]at this
     have HP:=lH hp;clear hp
     cases f1:decide (es.Order.At<fs.Order.At)
     ·cases f2:(es.Order.At == fs.Order.At)
      ·have HF:=lH (show B4 taken l (k+1) (l.drop (k+1))=B4 taken l 0 l by have:=HV.out;rw[ehd.out,B4,ak1,d1,d2,d3,HP.out,ap2,f1,f2]at this;exact this)
       clear d3
       go_wp2_with (first|(go_at_call 146;refine gm (d8) ?_;intro x)|(go_at_call 346;refine gm (aj2) ?_;intro x)|(go_at_call 347;refine gm (aa5) ?_;intro x))
       go_roundw
       case rel=>exact⟨k+1,by go_num,by omega,HF,b7.of⟩
       case measure=>simp[intOf];omega
      ·cases f3:decide (es.Number<fs.Number)
       ·have HF:=lH (show B4 taken l (k+1) (l.drop (k+1))=B4 taken l 0 l by have:=HV.out;rw[ehd.out,B4,ak1,d1,d2,d3,HP.out,ap2,f1,f2,f3]at this;exact this)
        have F2:=lH f2
        clear d3
        go_wp2_with (first|(go_at_call 146;refine gm (d8) ?_;intro x)|(go_at_call 346;refine gm (aj2) ?_;intro x)|(go_at_call 347;refine gm (aa5) ?_;intro x))
        go_roundw
        case rel=>exact⟨k+1,by go_num,by omega,HF,b7.of⟩
        case measure=>simp[intOf];omega
       ·have HF:=lH (show J6 taken l=false by have:=HV.out;rw[ehd.out,B4,ak1,d1,d2,d3,HP.out,ap2,f1,f2,f3]at this;rw[HD2.out,← this];rfl)
        clear d3
        go_wp2_with (first|(go_at_call 146;refine gm (d8) ?_;intro x)|(go_at_call 346;refine gm (aj2) ?_;intro x)|(go_at_call 347;refine gm (aa5) ?_;intro x))
        go_ret
        exact b5.mk (by rw[HF.out];rfl)
     ·have HF:=lH (show J6 taken l=false by have:=HV.out;rw[ehd.out,B4,ak1,d1,d2,d3,HP.out,ap2,f1]at this;rw[HD2.out,← this];rfl)
      clear d3
      go_wp2_with (first|(go_at_call 146;refine gm (d8) ?_;intro x)|(go_at_call 346;refine gm (aj2) ?_;intro x)|(go_at_call 347;refine gm (aa5) ?_;intro x))
      go_ret
      exact b5.mk (by rw[HF.out];rfl)
   ·have HF:=lH (show J6 taken l=true by have:=HV.out;rw[List.drop_of_length_le (by have:=HN.out;omega),B4]at this;rw[HD2.out,← this])
    go_wp2_with fail
    go_ret
    exact b5.mk (by rw[HF.out];rfl)
 ·have k40:decide (40<(n:Int))=true:=by simp;omega
  have HD2:=lH (show J6 taken l=false by rw[HD.out,decide_eq_false om];rfl)
  go_enter Tryz.func326,Tryz.ntmps326
  go_wp2_with fail
  go_ret
  exact b5.mk (by rw[HD2.out];rfl)
theorem bs1{A:af9}{bd:I3}(F0:an3 B w0 A bd)[g:d7 B w0 w](hm:bd.Orders.length≤100000000)(ht0:0≤bd.Taken)(ht1:bd.Taken≤65535) :
  Calls Tryz.prog 318 #[.agg #[I bd.Clock,.slice A.a0 bd.Params.length A.c0,.bool bd.Safe,.slice A.a1 bd.Limits.length A.c1,.slice A.a2 bd.Orders.length A.c2,.slice A.a3 bd.Done.length A.c3,I bd.Recorder.Room,.slice A.a4 bd.Recorder.Records.length A.c4,.slice A.a5 bd.Recorder.Dropped.length A.c5,I bd.Made,I bd.Taken,.slice A.a6 bd.Asked.length A.c6]] w (b5 w (.bool (J6 bd.Taken bd.Orders))):=by
 have hs:=F0.q2.to g;clear F0
 obtain⟨l,hl⟩:∃ l,bd.Orders=l:=⟨_,rfl⟩
 obtain⟨taken,htk⟩:∃ t,bd.Taken=t:=⟨_,rfl⟩
 obtain⟨a,ha⟩:∃ a,A.a2=a:=⟨_,rfl⟩
 obtain⟨n,hn⟩:∃ n,l.length=n:=⟨_,rfl⟩
 rw[hl,ha]at hs
 rw[hl,hn]at hm
 rw[htk]at ht0 ht1
 rw[hl,htk,ha,hn]
 have HN:=lH hn
 clear hl htk ha hn
 have HD:=lH (show J6 taken l=(decide ((n:Int)≤40) && B4 taken l 0 l)by rw[J6,HN.out])
 by_cases h40:n≤40
 ·have k40:decide (40<(n:Int))=false:=by simp;omega
  have HD2:=lH (show J6 taken l=B4 taken l 0 l by rw[HD.out,decide_eq_true om];rfl)
  clear HD
  go_enter Tryz.func318,Tryz.ntmps318
  go_wp2_with fail
  go_loopw [3] (fun v wr=>∃ k:Nat,v=I k∧k≤n∧Hid (B4 taken l k (l.drop k)=B4 taken l 0 l)∧∃ y:b7 (w.alloc (.cells #[I bd.Clock,.slice A.a0 bd.Params.length A.c0,.bool bd.Safe,.slice A.a1 bd.Limits.length A.c1,.slice a n A.c2,.slice A.a3 bd.Done.length A.c3,I bd.Recorder.Room,.slice A.a4 bd.Recorder.Records.length A.c4,.slice A.a5 bd.Recorder.Dropped.length A.c5,I bd.Made,I taken,.slice A.a6 bd.Asked.length A.c6] 84)),wr=y.w) (fun v _=>(n - intOf v).toNat)
  case atStart=>exact⟨0,rfl,by omega,rfl,b7.of⟩
  case round =>
   obtain⟨k,rfl,hk,HV,y,rfl⟩:=hrel
   by_cases h:k<n
   ·have hkl:k<l.length:=by have:=HN.out;omega
    obtain⟨eb,eoff,es,rfl,ehb,ehd,eok,eh0,eh1,eh2,eh3,eh4⟩:=hs.atTWaiting hkl
    have EOK:=lH eok;clear eok hkl
    cases d1:A4 es.Order
    ·have HF:=lH (show J6 taken l=false by have:=HV.out;rw[ehd.out,B4,ak1,d1]at this;rw[HD2.out,← this];rfl)
     go_wp2_with (first|(go_at_call 344;refine gm (aK6) ?_;intro x))
     go_ret
     exact b5.mk (by rw[HF.out];rfl)
    cases d2:inB es.Number 0 (taken - 1)
    ·have HF:=lH (show J6 taken l=false by have:=HV.out;rw[ehd.out,B4,ak1,d1,d2]at this;rw[HD2.out,← this];rfl)
     go_wp2_with (first|(go_at_call 101;refine gm (f5) ?_;intro x)|(go_at_call 344;refine gm (aK6) ?_;intro x))
     go_ret
     exact b5.mk (by rw[HF.out];rfl)
    go_wp2_with (first|(go_at_call 101;refine gm (f5) ?_;intro x)|(go_at_call 344;refine gm (aK6) ?_;intro x))
    go_loopw [5] (fun v wr=>∃ j:Nat,v=I j∧j≤k∧Hid ((l.take j).all (fun z=>z.Number != es.Number)=true)∧∃ z:b7 (y.w.alloc (.cells #[I es.Number,I es.Order.Kind,I es.Order.At,I es.Order.A,I es.Order.B] 318)),wr=z.w) (fun v _=>(k - intOf v).toNat)
    case atStart=>exact⟨0,rfl,by omega,by rw[Hid];rfl,b7.of⟩
    case round =>
     obtain⟨j,rfl,hj,HJ,z,rfl⟩:=hrel
     by_cases hjk:j<k
     ·obtain⟨gb,goff,gs,hbo,ghb,ghd,gok,gh0,gh1,gh2,gh3,gh4⟩:=hs.atTWaiting (show j<l.length by have:=HN.out;omega)
      simp only[Option.some.injEq,Addr.mk.injEq,and_true]at hbo
      obtain⟨rfl,rfl⟩:=hbo
      have GOK:=lH gok;clear gok
      have hT:=lH (show l.take (j+1)=l.take j++[gs]by rw[List.take_succ_eq_append_getElem (by have:=HN.out;omega)];congr 1;have h0:(l.drop j)[0]?=some gs:=(by rw[ghd.out];rfl);rw[List.getElem?_drop]at h0;simp at h0;obtain⟨_,h0⟩:=List.getElem?_eq_some_iff.1 h0;rw[h0])
      cases e1:(gs.Number == es.Number)
      ·have HJ2:=lH (show(l.take (j+1)).all (fun z=>z.Number != es.Number)=true by rw[hT.out,List.all_append,HJ.out];simp only[List.all_cons,List.all_nil,bne,e1];rfl)
       go_wp2_with (first|((with_reducible refine rl ?_);(repeat(first|go_big_quiet_step (first|fail)|simp only[e1]));refine wpQuiet_nil ?_;intro x))
       go_roundw
       case rel=>exact⟨j+1,by go_num,by omega,HJ2,b7.of⟩
       case measure=>simp[intOf];omega
      ·have HJ2:=lH (show(l.take k).all (fun z=>z.Number != es.Number)=false by have h1:gs∈l.take k:=(List.take_subset_take_left _ (show j+1≤k by omega)) (by rw[hT.out];simp);rw[Bool.eq_false_iff];intro hh;have:=List.all_eq_true.1 hh gs h1;rw[bne,e1]at this;cases this)
       have HF:=lH (show J6 taken l=false by have:=HV.out;rw[ehd.out,B4,ak1,d1,d2,HJ2.out]at this;rw[HD2.out,← this];rfl)
       go_wp2_with (first|((with_reducible refine rl ?_);(repeat(first|go_big_quiet_step (first|fail)|simp only[e1]));refine wpQuiet_nil ?_;intro x))
       go_ret
       exact b5.mk (by rw[HF.out];rfl)
     have ejk:j=k:=by omega
     subst ejk
     have d3:(l.take j).all (fun z=>z.Number != es.Number)=true:=HJ.out
     have EK:=lH d1
     by_cases hz0:j=0
     ·have HF:=lH (show B4 taken l (j+1) (l.drop (j+1))=B4 taken l 0 l by have:=HV.out;rw[ehd.out,B4,ak1,d1,d2,d3]at this;rw[← this];simp[N5,hz0,ap2])
      have hz':decide (0<(j:Int))=false:=by simp;omega
      have hz2:decide (0<j)=false:=by simp;omega
      clear d3 hz0
      go_wp2_with (first|((with_reducible refine rl ?_);(repeat(first|go_big_quiet_step (first|fail)|simp only[hz']|simp only[hz2]));refine wpQuiet_nil ?_;intro x))
      go_roundw
      case rel=>exact⟨j+1,by go_num,by omega,HF,b7.of⟩
      case measure=>simp[intOf];omega
     ·obtain⟨fb,foff,fs,hbo,fhb,fhd,fok,fh0,fh1,fh2,fh3,fh4⟩:=hs.atTWaiting (show j - 1<l.length by have:=HN.out;omega)
      simp only[Option.some.injEq,Addr.mk.injEq,and_true]at hbo
      obtain⟨rfl,rfl⟩:=hbo
      have FOK:=lH fok;clear fok
      have hz':decide (0<(j:Int))=true:=by simp;omega
      have hz2:decide (0<j)=true:=by simp;omega
      have hp:N5 l j=some fs:=by have:=R2 fhd.out;rwa[show j - 1+1=j from by omega]at this
      have HP:=lH hp;clear hp
      cases f1:decide (es.Order.At<fs.Order.At)
      ·cases f2:(es.Order.At == fs.Order.At)
       ·have HF:=lH (show B4 taken l (j+1) (l.drop (j+1))=B4 taken l 0 l by have:=HV.out;rw[ehd.out,B4,ak1,d1,d2,d3,HP.out,ap2,f1,f2]at this;exact this)
        clear d3
        go_wp2_with (first|((with_reducible refine rl ?_);(repeat(first|go_big_quiet_step (first|fail)|simp only[hz']|simp only[hz2]|simp only[f1]|simp only[f2]));refine wpQuiet_nil ?_;intro x))
        go_roundw
        case rel=>exact⟨j+1,by go_num,by omega,HF,b7.of⟩
        case measure=>simp[intOf];omega
       ·cases f3:decide (es.Number<fs.Number)
        ·have HF:=lH (show B4 taken l (j+1) (l.drop (j+1))=B4 taken l 0 l by have:=HV.out;rw[ehd.out,B4,ak1,d1,d2,d3,HP.out,ap2,f1,f2,f3]at this;exact this)
         have F2:=lH f2
         clear d3
         go_wp2_with (first|((with_reducible refine rl ?_);(repeat(first|go_big_quiet_step (first|fail)|simp only[hz']|simp only[hz2]|simp only[f1]|simp only[f2]|simp only[f3]));refine wpQuiet_nil ?_;intro x))
         go_roundw
         case rel=>exact⟨j+1,by go_num,by omega,HF,b7.of⟩
         case measure=>simp[intOf];omega
        ·have HF:=lH (show J6 taken l=false by have:=HV.out;rw[ehd.out,B4,ak1,d1,d2,d3,HP.out,ap2,f1,f2,f3]at this;rw[HD2.out,← this];rfl)
         clear d3
         go_wp2_with (first|((with_reducible refine rl ?_);(repeat(first|go_big_quiet_step (first|fail)|simp only[hz']|simp only[hz2]|simp only[f1]|simp only[f2]|simp only[f3]));refine wpQuiet_nil ?_;intro x))
         go_ret
         exact b5.mk (by rw[HF.out];rfl)
      ·have HF:=lH (show J6 taken l=false by have:=HV.out;rw[ehd.out,B4,ak1,d1,d2,d3,HP.out,ap2,f1]at this;rw[HD2.out,← this];rfl)
       clear d3
       go_wp2_with (first|((with_reducible refine rl ?_);(repeat(first|go_big_quiet_step (first|fail)|simp only[hz']|simp only[hz2]|simp only[f1]));refine wpQuiet_nil ?_;intro x))
       go_ret
       exact b5.mk (by rw[HF.out];rfl)
   ·have HF:=lH (show J6 taken l=true by have:=HV.out;rw[List.drop_of_length_le (by have:=HN.out;omega),B4]at this;rw[HD2.out,← this])
    go_wp2_with fail
    go_ret
    exact b5.mk (by rw[HF.out];rfl)
 ·have k40:decide (40<(n:Int))=true:=by simp;omega
  have HD2:=lH (show J6 taken l=false by rw[HD.out,decide_eq_false om];rfl)
  go_enter Tryz.func318,Tryz.ntmps318
  go_wp2_with fail
  go_ret
  exact b5.mk (by rw[HD2.out];rfl)
def W6(x:V8):Bool:=inB x.Param 0 7 && (inB x.Low 0 65535 && inB x.High 0 65535)
def ac9(t:Int)(x:ad2):Bool:=inB x.Number 0 (t - 1) && (inB x.Time 0 1000000 && inB x.Result 0 1)
def aC9(t:Int)(x:s8):Bool:=!decide (t≤x.Id)
def ac3(s:ByteArray):Bool:=inB s.size 1 40
def L7:Nat→List A8→Bool
 | _,[]=>true
 | k,y::r=>(Y8 y && (y.File == (k:Int))) && L7 (k+1) r
def aE5(s:ByteArray)(k:Nat)(y:s7):Bool:=!decide (600<(s.size:Int)) && (ai9 y && ((y.File == (k:Int)) && (y.Data.toList == s.toList)))
def M9(files:List ByteArray):Nat→List s7→Bool
 | _,[]=>true
 | k,y::r=>aE5 (files.getD k ByteArray.empty) k y && M9 files (k+1) r
def A2(b:I3):Bool:=inB b.Clock 0 1000000 && (((b.Params.length:Int) == 8) && (X2 0 65535 b.Params && (decide ((b.Limits.length:Int)≤8) && (b.Limits.all W6 && (inB b.Made 0 65535 && (inB b.Taken 0 65535 && (J6 b.Taken b.Orders && (decide ((b.Done.length:Int)≤5000) && (b.Done.all (ac9 b.Taken) && (J7 b.Recorder && (b.Recorder.Records.all (aC9 b.Made) && (decide ((b.Asked.length:Int)≤5000) && (X2 0 7 b.Asked)))))))))))))
theorem aS5{b:I3}(h:inB b.Clock 0 1000000=false):A2 b=false:=by rw[A2,h];simp
theorem aS6{b:I3}(h:((b.Params.length:Int) == 8)=false):A2 b=false:=by rw[A2,h];simp
theorem aS7{b:I3}(h:X2 0 65535 b.Params=false):A2 b=false:=by rw[A2,h];simp
theorem aS8{b:I3}(h:decide ((b.Limits.length:Int)≤8)=false):A2 b=false:=by rw[A2,h];simp
theorem am6{b:I3}(h:b.Limits.all W6=false):A2 b=false:=by rw[A2,h];simp
theorem aS9{b:I3}(h:inB b.Made 0 65535=false):A2 b=false:=by rw[A2,h];simp
theorem aT0{b:I3}(h:inB b.Taken 0 65535=false):A2 b=false:=by rw[A2,h];simp
theorem aT1{b:I3}(h:J6 b.Taken b.Orders=false):A2 b=false:=by rw[A2,h];simp
theorem aT2{b:I3}(h:decide ((b.Done.length:Int)≤5000)=false):A2 b=false:=by rw[A2,h];simp
theorem ak3{b:I3}(h:b.Done.all (ac9 b.Taken)=false):A2 b=false:=by rw[A2,h];simp
theorem aL3{b:I3}(h:J7 b.Recorder=false):A2 b=false:=by rw[A2,h];simp
theorem aL4{b:I3}(h:b.Recorder.Records.all (aC9 b.Made)=false):A2 b=false:=by rw[A2,h];simp
theorem aL5{b:I3}(h:decide ((b.Asked.length:Int)≤5000)=false):A2 b=false:=by rw[A2,h];simp
theorem aL6{b:I3}(h:X2 0 7 b.Asked=false):A2 b=false:=by rw[A2,h];simp
theorem aT3{b:I3}(h1:inB b.Clock 0 1000000=true)(h2:((b.Params.length:Int) == 8)=true)(h3:X2 0 65535 b.Params=true)(h4:decide ((b.Limits.length:Int)≤8)=true)(h5:b.Limits.all W6=true)(h6:inB b.Made 0 65535=true)(h7:inB b.Taken 0 65535=true)(h8:J6 b.Taken b.Orders=true)(h9:decide ((b.Done.length:Int)≤5000)=true)(h10:b.Done.all (ac9 b.Taken)=true)(h11:J7 b.Recorder=true)(h12:b.Recorder.Records.all (aC9 b.Made)=true)(h13:decide ((b.Asked.length:Int)≤5000)=true)(h14:X2 0 7 b.Asked=true):A2 b=true:=by rw[A2,h1,h2,h3,h4,h5,h6,h7,h8,h9,h10,h11,h12,h13,h14];rfl
def B3(b:I8):Bool:=J3 b.Sender && (j6 b.Unpacker && (Z9 b.Pairs && ((b.Unpacker.Channel == 0) && (inB b.Notice.Expect 0 255 && (decide ((b.Offers.length:Int)≤200) && (N8 b.Records && (b.Offers.all ac3 && (((b.Files.length:Int) == 8) && (((b.Told.length:Int) == 8) && (L7 0 b.Files))))))))))
theorem aN4{b:I8}(h:J3 b.Sender=false):B3 b=false:=by rw[B3,h];simp
theorem aN5{b:I8}(h:j6 b.Unpacker=false):B3 b=false:=by rw[B3,h];simp
theorem aN6{b:I8}(h:Z9 b.Pairs=false):B3 b=false:=by rw[B3,h];simp
theorem aN7{b:I8}(h:(b.Unpacker.Channel == 0)=false):B3 b=false:=by rw[B3,h];simp
theorem aN8{b:I8}(h:inB b.Notice.Expect 0 255=false):B3 b=false:=by rw[B3,h];simp
theorem aN9{b:I8}(h:decide ((b.Offers.length:Int)≤200)=false):B3 b=false:=by rw[B3,h];simp
theorem aO0{b:I8}(h:N8 b.Records=false):B3 b=false:=by rw[B3,h];simp
theorem aO1{b:I8}(h:b.Offers.all ac3=false):B3 b=false:=by rw[B3,h];simp
theorem aO2{b:I8}(h:((b.Files.length:Int) == 8)=false):B3 b=false:=by rw[B3,h];simp
theorem aH9{b:I8}(h:((b.Told.length:Int) == 8)=false):B3 b=false:=by rw[B3,h];simp
theorem ar0{b:I8}(h:L7 0 b.Files=false):B3 b=false:=by rw[B3,h];simp
theorem aO3{b:I8}(h1:J3 b.Sender=true)(h2:j6 b.Unpacker=true)(h3:Z9 b.Pairs=true)(h4:(b.Unpacker.Channel == 0)=true)(h5:inB b.Notice.Expect 0 255=true)(h6:decide ((b.Offers.length:Int)≤200)=true)(h7:N8 b.Records=true)(h8:b.Offers.all ac3=true)(h9:((b.Files.length:Int) == 8)=true)(h10:((b.Told.length:Int) == 8)=true)(h11:L7 0 b.Files=true):B3 b=true:=by rw[B3,h1,h2,h3,h4,h5,h6,h7,h8,h9,h10,h11];rfl
def D3(b:M0):Bool:=L0 b.Receiver && (A2 b.Board && (aj7 b.Packer && ((b.Packer.Channel == 0) && (inB b.Seq 0 65535 && (inB b.Begun 0 b.Board.Asked.length && (N8 b.Sent && (((b.Files.length:Int) == 8) && (((b.Outs.length:Int) == 8) && (M9 b.Files 0 b.Outs)))))))))
theorem aV6{b:M0}(h:L0 b.Receiver=false):D3 b=false:=by rw[D3,h];simp
theorem aV7{b:M0}(h:A2 b.Board=false):D3 b=false:=by rw[D3,h];simp
theorem aV8{b:M0}(h:aj7 b.Packer=false):D3 b=false:=by rw[D3,h];simp
theorem aV9{b:M0}(h:(b.Packer.Channel == 0)=false):D3 b=false:=by rw[D3,h];simp
theorem aW0{b:M0}(h:inB b.Seq 0 65535=false):D3 b=false:=by rw[D3,h];simp
theorem aW1{b:M0}(h:inB b.Begun 0 b.Board.Asked.length=false):D3 b=false:=by rw[D3,h];simp
theorem aW2{b:M0}(h:N8 b.Sent=false):D3 b=false:=by rw[D3,h];simp
theorem aW3{b:M0}(h:((b.Files.length:Int) == 8)=false):D3 b=false:=by rw[D3,h];simp
theorem aW4{b:M0}(h:((b.Outs.length:Int) == 8)=false):D3 b=false:=by rw[D3,h];simp
theorem ac5{b:M0}(h:M9 b.Files 0 b.Outs=false):D3 b=false:=by rw[D3,h];simp
theorem aW5{b:M0}(h1:L0 b.Receiver=true)(h2:A2 b.Board=true)(h3:aj7 b.Packer=true)(h4:(b.Packer.Channel == 0)=true)(h5:inB b.Seq 0 65535=true)(h6:inB b.Begun 0 b.Board.Asked.length=true)(h7:N8 b.Sent=true)(h8:((b.Files.length:Int) == 8)=true)(h9:((b.Outs.length:Int) == 8)=true)(h10:M9 b.Files 0 b.Outs=true):D3 b=true:=by rw[D3,h1,h2,h3,h4,h5,h6,h7,h8,h9,h10];rfl
theorem aq8{b:I3}(h:inB b.Taken 0 65535=true):0≤b.Taken∧b.Taken≤65535:=D8.1 h
theorem aD1{rr:I9}(hs0:RdS B w0 a c rr.Records:=by exact sd)(hs20:RdS B w0 a2 c2 rr.Dropped:=by exact sd)[g:d7 B w0 w](hn:rr.Records.length=n:=by exact sd)(hn2:rr.Dropped.length=n2:=by exact sd)(hm:n≤100000000:=by exact sd)(hm2:n2≤100000000:=by exact sd) :
  Calls Tryz.prog 306 #[.agg #[I rr.Room,.slice a n c,.slice a2 n2 c2]] w (b5 w (.bool (J7 rr))):=by
 subst hn;subst hn2;exact bi4 (hs0.to g) (hs20.to g) hm hm2
theorem au4{rr:I9}(hs0:RdS B w0 a c rr.Records:=by exact sd)(hs20:RdS B w0 a2 c2 rr.Dropped:=by exact sd)[g:d7 B w0 w](hn:rr.Records.length=n:=by exact sd)(hn2:rr.Dropped.length=n2:=by exact sd)(hm:n≤100000000:=by exact sd)(hm2:n2≤100000000:=by exact sd) :
  Calls Tryz.prog 200 #[.agg #[I rr.Room,.slice a n c,.slice a2 n2 c2]] w (b5 w (.bool (J7 rr))):=by
 subst hn;subst hn2;exact bi5 (hs0.to g) (hs20.to g) hm hm2
theorem aI2{bd:I3}(hq0:RdS B w0 a0 c0 bd.Params:=by exact sd)(hq1:RdS B w0 a1 c1 bd.Limits:=by exact sd)(hq2:RdS B w0 a2 c2 bd.Orders:=by exact sd)(hq3:RdS B w0 a3 c3 bd.Done:=by exact sd)(hq4:RdS B w0 a4 c4 bd.Recorder.Records:=by exact sd)(hq5:RdS B w0 a5 c5 bd.Recorder.Dropped:=by exact sd)(hq6:RdS B w0 a6 c6 bd.Asked:=by exact sd)[g:d7 B w0 w](ok:at3 bd:=by exact sd)(hn0:bd.Params.length=n0:=by exact sd)(hn1:bd.Limits.length=n1:=by exact sd)(hn2:bd.Orders.length=n2:=by exact sd)(hn3:bd.Done.length=n3:=by exact sd)(hn4:bd.Recorder.Records.length=n4:=by exact sd)(hn5:bd.Recorder.Dropped.length=n5:=by exact sd)(hn6:bd.Asked.length=n6:=by exact sd)(hm0:n0≤100000000:=by exact sd)(hm1:n1≤100000000:=by exact sd)(hm2:n2≤100000000:=by exact sd)(hm3:n3≤100000000:=by exact sd)(hm4:n4≤100000000:=by exact sd)(hm5:n5≤100000000:=by exact sd)(hm6:n6≤100000000:=by exact sd)  (ht0:0≤bd.Taken:=by exact sd)(ht1:bd.Taken≤65535:=by exact sd) :
  Calls Tryz.prog 318 #[.agg #[I bd.Clock,.slice a0 n0 c0,.bool bd.Safe,.slice a1 n1 c1,.slice a2 n2 c2,.slice a3 n3 c3,I bd.Recorder.Room,.slice a4 n4 c4,.slice a5 n5 c5,I bd.Made,I bd.Taken,.slice a6 n6 c6]] w (b5 w (.bool (J6 bd.Taken bd.Orders))):=by
 subst hn0;subst hn1;subst hn2;subst hn3;subst hn4;subst hn5;subst hn6
 exact bs1 (A:=⟨a0,c0,a1,c1,a2,c2,a3,c3,a4,c4,a5,c5,a6,c6⟩) ⟨hq0,hq1,hq2,hq3,hq4,hq5,hq6,ok⟩ hm2 ht0 ht1
def j7(b:f7):Bool:=inB b.Time 0 1000000 && (inB b.Light 0 50 && (inB b.Bad 0 1000000 && (at9 b.Drift && (av6 b.Orbit && (J0 b.Up && (J0 b.Down && (decide ((b.Plan.length:Int)≤1500) && (N6 b.Ups && (N6 b.Downs && (B3 b.Ground && (D3 b.Space && (decide ((b.Offered.length:Int)≤5000) && (decide ((b.Took.length:Int)≤5000))))))))))))))
theorem aI3{b:f7}(h:inB b.Time 0 1000000=false):j7 b=false:=by rw[j7,h];simp
theorem aI4{b:f7}(h:inB b.Light 0 50=false):j7 b=false:=by rw[j7,h];simp
theorem aI5{b:f7}(h:inB b.Bad 0 1000000=false):j7 b=false:=by rw[j7,h];simp
theorem aI6{b:f7}(h:at9 b.Drift=false):j7 b=false:=by rw[j7,h];simp
theorem aI7{b:f7}(h:av6 b.Orbit=false):j7 b=false:=by rw[j7,h];simp
theorem aI8{b:f7}(h:J0 b.Up=false):j7 b=false:=by rw[j7,h];simp
theorem aI9{b:f7}(h:J0 b.Down=false):j7 b=false:=by rw[j7,h];simp
theorem aJ0{b:f7}(h:decide ((b.Plan.length:Int)≤1500)=false):j7 b=false:=by rw[j7,h];simp
theorem aJ1{b:f7}(h:N6 b.Ups=false):j7 b=false:=by rw[j7,h];simp
theorem aD4{b:f7}(h:N6 b.Downs=false):j7 b=false:=by rw[j7,h];simp
theorem aD5{b:f7}(h:B3 b.Ground=false):j7 b=false:=by rw[j7,h];simp
theorem aD6{b:f7}(h:D3 b.Space=false):j7 b=false:=by rw[j7,h];simp
theorem aD7{b:f7}(h:decide ((b.Offered.length:Int)≤5000)=false):j7 b=false:=by rw[j7,h];simp
theorem aD8{b:f7}(h:decide ((b.Took.length:Int)≤5000)=false):j7 b=false:=by rw[j7,h];simp
theorem aJ2{b:f7}(h1:inB b.Time 0 1000000=true)(h2:inB b.Light 0 50=true)(h3:inB b.Bad 0 1000000=true)(h4:at9 b.Drift=true)(h5:av6 b.Orbit=true)(h6:J0 b.Up=true)(h7:J0 b.Down=true)(h8:decide ((b.Plan.length:Int)≤1500)=true)(h9:N6 b.Ups=true)(h10:N6 b.Downs=true)(h11:B3 b.Ground=true)(h12:D3 b.Space=true)(h13:decide ((b.Offered.length:Int)≤5000)=true)(h14:decide ((b.Took.length:Int)≤5000)=true):j7 b=true:=by rw[j7,h1,h2,h3,h4,h5,h6,h7,h8,h9,h10,h11,h12,h13,h14];rfl
section
variable {P:Program} {ops:Array Oper} {rest:List Oper} {op:Oper} {a:Act} {w:World} {Q:Exit→Act→World→Prop}
theorem aa9(hw:Region.wanted op (yielded ops a.tmps)=true)(ty:TypeId)(x:Operand)(ho:op.op=.load ty x)(b o:Nat)(hx:a.eval x=.pointer (some ⟨b,o,none⟩)){cs row:List Value}{T:TypeId}(H:j5 w b cs T)
  (d:TypeDesc) (hu:P.underlying ty=some d) (hd:d.isRow=true) (hi:(P.info? ty).map (·.size)=some row.length) (hr:(cs.drop o).take row.length=row)
  (h:wpList P ops Q rest (a.put op.dst (.agg row.toArray)) w):wpList P ops Q (op::rest) a w :=
 BigFrame.wpList_want hw fun _ hK=>wp_load_mid ty x ho b o hx row d (H.range hr) hu hd hi (hK _ _ h)
end
structure bY0(bd:f7):Prop where
 m0:bd.Plan.length≤100000000
 m1:bd.Ups.length≤100000000
 m2:bd.Downs.length≤100000000
 m3:bd.Ground.Offers.length≤100000000
 m4:bd.Ground.Sender.Waiting.length≤100000000
 m5:bd.Ground.Pairs.length≤100000000
 m6:bd.Ground.Records.length≤100000000
 m7:bd.Ground.Files.length≤100000000
 m8:bd.Ground.Told.length≤100000000
 m9:bd.Space.Board.Params.length≤100000000
 m10:bd.Space.Board.Limits.length≤100000000
 m11:bd.Space.Board.Orders.length≤100000000
 m12:bd.Space.Board.Done.length≤100000000
 m13:bd.Space.Board.Recorder.Records.length≤100000000
 m14:bd.Space.Board.Recorder.Dropped.length≤100000000
 m15:bd.Space.Board.Asked.length≤100000000
 m16:bd.Space.Packer.Starts.length≤100000000
 m17:bd.Space.Files.length≤100000000
 m18:bd.Space.Outs.length≤100000000
 m19:bd.Space.Sent.length≤100000000
 m20:bd.Offered.length≤100000000
 m21:bd.Took.length≤100000000
 hxf:∀ y∈bd.Ground.Files,y.Parts.length≤100000000∧∀ s∈y.Parts,s.size≤100000000
 hzr:bd.Space.Packer.Rest.size≤100000000
 hxo:∀ y∈bd.Space.Outs,y.Queue.length≤100000000∧y.Data.size≤100000000
 hxs:∀ s∈bd.Space.Files,s.size≤100000000
theorem aJ3{m:f7}(ht:Enc.tot m≤100000000):bY0 m:=by
 have h:=bV7 ht
 have hg:d9 m.Ground.Offers+d9 m.Ground.Sender.Waiting+(m.Ground.Unpacker.Rest.size:Int)+d9 m.Ground.Pairs+d9 m.Ground.Records+d9 m.Ground.Files+d9 m.Ground.Told≤100000000:=h.2.2.1
 have hsp:(d9 m.Space.Board.Params+d9 m.Space.Board.Limits+d9 m.Space.Board.Orders+d9 m.Space.Board.Done+(d9 m.Space.Board.Recorder.Records+d9 m.Space.Board.Recorder.Dropped)+d9 m.Space.Board.Asked)+((m.Space.Packer.Rest.size:Int)+d9 m.Space.Packer.Starts)+d9 m.Space.Files+d9 m.Space.Outs+d9 m.Space.Sent≤100000000:=h.2.2.2.1
 have l0:=f6 m.Plan
 have l1:=f6 m.Ups
 have l2:=f6 m.Downs
 have l3:=f6 m.Ground.Offers
 have l4:=f6 m.Ground.Sender.Waiting
 have l5:=f6 m.Ground.Pairs
 have l6:=f6 m.Ground.Records
 have l7:=f6 m.Ground.Files
 have l8:=f6 m.Ground.Told
 have l9:=f6 m.Space.Board.Params
 have l10:=f6 m.Space.Board.Limits
 have l11:=f6 m.Space.Board.Orders
 have l12:=f6 m.Space.Board.Done
 have l13:=f6 m.Space.Board.Recorder.Records
 have l14:=f6 m.Space.Board.Recorder.Dropped
 have l15:=f6 m.Space.Board.Asked
 have l16:=f6 m.Space.Packer.Starts
 have l17:=f6 m.Space.Files
 have l18:=f6 m.Space.Outs
 have l19:=f6 m.Space.Sent
 have l20:=f6 m.Offered
 have l21:=f6 m.Took
 refine⟨by omega,by omega,by omega,by omega,by omega,by omega,by omega,by omega,by omega,by omega,by omega,by omega,by omega,by omega,by omega,by omega,by omega,by omega,by omega,by omega,by omega,by omega,fun y hy=>?_,by omega,fun y hy=>?_,fun s hs=>?_⟩
 ·have hx1:Enc.tot y≤d9 m.Ground.Files:=af1 hy
  have hx2:d9 y.Parts≤d9 m.Ground.Files:=hx1
  have hx3:=f6 y.Parts
  refine⟨by omega,fun s hs=>?_⟩
  have hs1:(s.size:Int)≤d9 y.Parts:=af1 hs
  omega
 ·have hx1:Enc.tot y≤d9 m.Space.Outs:=af1 hy
  have hx2:(y.Data.size:Int)+d9 y.Queue≤d9 m.Space.Outs:=hx1
  have hx3:=f6 y.Queue
  exact⟨by omega,by omega⟩
 ·have hs1:(s.size:Int)≤d9 m.Space.Files:=af1 hs
  omega
theorem ag5{bd:I3}(hq0:RdS B w0 a0 c0 bd.Params:=by exact sd)(hq1:RdS B w0 a1 c1 bd.Limits:=by exact sd)(hq2:RdS B w0 a2 c2 bd.Orders:=by exact sd)(hq3:RdS B w0 a3 c3 bd.Done:=by exact sd)(hq4:RdS B w0 a4 c4 bd.Recorder.Records:=by exact sd)(hq5:RdS B w0 a5 c5 bd.Recorder.Dropped:=by exact sd)(hq6:RdS B w0 a6 c6 bd.Asked:=by exact sd)[g:d7 B w0 w](ok:at3 bd:=by exact sd)(hn0:bd.Params.length=n0:=by exact sd)(hn1:bd.Limits.length=n1:=by exact sd)(hn2:bd.Orders.length=n2:=by exact sd)(hn3:bd.Done.length=n3:=by exact sd)(hn4:bd.Recorder.Records.length=n4:=by exact sd)(hn5:bd.Recorder.Dropped.length=n5:=by exact sd)(hn6:bd.Asked.length=n6:=by exact sd)(hm0:n0≤100000000:=by exact sd)(hm1:n1≤100000000:=by exact sd)(hm2:n2≤100000000:=by exact sd)(hm3:n3≤100000000:=by exact sd)(hm4:n4≤100000000:=by exact sd)(hm5:n5≤100000000:=by exact sd)(hm6:n6≤100000000:=by exact sd)  :
  Calls Tryz.prog 264 #[.agg #[I bd.Clock,.slice a0 n0 c0,.bool bd.Safe,.slice a1 n1 c1,.slice a2 n2 c2,.slice a3 n3 c3,I bd.Recorder.Room,.slice a4 n4 c4,.slice a5 n5 c5,I bd.Made,I bd.Taken,.slice a6 n6 c6]] w (b5 w (.bool (A2 bd))):=by
 have hs0:=hq0.to g
 have hs1:=hq1.to g
 have hs2:=hq2.to g
 have hs3:=hq3.to g
 have hs4:=hq4.to g
 have hs5:=hq5.to g
 have hs6:=hq6.to g
 have HN0:=lH hn0
 have HN1:=lH hn1
 have HN2:=lH hn2
 have HN3:=lH hn3
 have HN4:=lH hn4
 have HN5:=lH hn5
 have HN6:=lH hn6
 clear hq0 hn0 hq1 hn1 hq2 hn2 hq3 hn3 hq4 hn4 hq5 hn5 hq6 hn6
 cases g1:inB bd.Clock 0 1000000
 ·have HF:=lH (show A2 bd=false from aS5 g1)
  go_enter Tryz.func264,Tryz.ntmps264
  go_wp2_with (first|(go_at_call 146;refine gm (d8) ?_;intro x))
  go_ret
  exact b5.mk (by rw[HF.out];rfl)
 have T1:=lH g1
 by_cases h2:n0=8
 rotate_left
 ·have k2:((n0:Int) != 8)=true:=by simp;omega
  have k2b:((n0:Int) == 8)=false:=by simp;omega
  have HF:=lH (show A2 bd=false from aS6 (by rw[HN0.out];exact k2b))
  clear h2
  go_enter Tryz.func264,Tryz.ntmps264
  go_wp2_with (first|(go_at_call 146;refine gm (d8) ?_;intro x))
  go_ret
  exact b5.mk (by rw[HF.out];rfl)
 subst h2
 have T2:=lH (show((bd.Params.length:Int) == 8)=true by rw[HN0.out];rfl)
 have hsl0:=hs0.toSlInt
 have hl0:=HN0.out
 cases g3:X2 0 65535 bd.Params
 ·have HF:=lH (show A2 bd=false from aS7 g3)
  go_enter Tryz.func264,Tryz.ntmps264
  go_wp2_with (first|(go_at_call 146;refine gm (d8) ?_;intro x)|(go_at_call 325;refine gm (ac7) ?_;intro x))
  go_ret
  exact b5.mk (by rw[HF.out];rfl)
 have T3:=lH g3
 by_cases h4:n1≤8
 rotate_left
 ·have k4:decide (8<(n1:Int))=true:=by simp;omega
  have k4b:decide ((n1:Int)≤8)=false:=by simp;omega
  have HF:=lH (show A2 bd=false from aS8 (by rw[HN1.out];exact k4b))
  clear h4
  go_enter Tryz.func264,Tryz.ntmps264
  go_wp2_with (first|(go_at_call 146;refine gm (d8) ?_;intro x)|(go_at_call 325;refine gm (ac7) ?_;intro x))
  go_ret
  exact b5.mk (by rw[HF.out];rfl)
 have k4:decide (8<(n1:Int))=false:=by simp;omega
 have k4b:decide ((n1:Int)≤8)=true:=by simp;omega
 have T4:=lH (show decide ((bd.Limits.length:Int)≤8)=true by rw[HN1.out];exact k4b)
 clear h4
 go_enter Tryz.func264,Tryz.ntmps264
 go_wp2_with (first|(go_at_call 146;refine gm (d8) ?_;intro x)|(go_at_call 325;refine gm (ac7) ?_;intro x))
 clear g1 g3 k4 k4b hsl0 hl0
 go_loopw [32] (fun v wr=>∃ k:Nat,v=I k∧k≤n1∧Hid ((bd.Limits.drop k).all W6=bd.Limits.all W6)∧∃ X:b7 (w.alloc (.cells #[I bd.Clock,.slice a0 8 c0,.bool bd.Safe,.slice a1 n1 c1,.slice a2 n2 c2,.slice a3 n3 c3,I bd.Recorder.Room,.slice a4 n4 c4,.slice a5 n5 c5,I bd.Made,I bd.Taken,.slice a6 n6 c6] 84)),wr=X.w) (fun v _=>(n1 - intOf v).toNat)
 case atStart=>exact⟨0,rfl,by omega,rfl,b7.of⟩
 case round =>
  obtain⟨k,rfl,hk,HV,X,rfl⟩:=hrel
  by_cases h:k<n1
  ·have hkl:k<bd.Limits.length:=by have:=HN1.out;omega
   obtain⟨eb,eoff,es,rfl,ehb,ehd,eok,eh0,eh1,eh2⟩:=hs1.atTLimit hkl
   have EOK:=lH eok;clear eok
   clear hkl
   cases d1:inB es.Param 0 7
   ·have HF:=lH (show A2 bd=false from am6 (by have:=HV.out;rw[ehd.out,List.all_cons]at this;rw[← this,W6,d1]<;>rfl))
    go_wp2_with (first|(go_at_call 146;refine gm (d8) ?_;intro x))
    go_ret
    exact b5.mk (by rw[HF.out];rfl)
   cases d2:inB es.Low 0 65535
   ·have HF:=lH (show A2 bd=false from am6 (by have:=HV.out;rw[ehd.out,List.all_cons]at this;rw[← this,W6,d1,d2]<;>rfl))
    go_wp2_with (first|(go_at_call 146;refine gm (d8) ?_;intro x))
    go_ret
    exact b5.mk (by rw[HF.out];rfl)
   cases d3:inB es.High 0 65535
   ·have HF:=lH (show A2 bd=false from am6 (by have:=HV.out;rw[ehd.out,List.all_cons]at this;rw[← this,W6,d1,d2,d3]<;>rfl))
    go_wp2_with (first|(go_at_call 146;refine gm (d8) ?_;intro x))
    go_ret
    exact b5.mk (by rw[HF.out];rfl)
   have HF:=lH (show(bd.Limits.drop (k+1)).all W6=bd.Limits.all W6 by have:=HV.out;rw[ehd.out,List.all_cons]at this;rw[← this,W6,d1,d2,d3]<;>rfl)
   go_wp2_with (first|(go_at_call 146;refine gm (d8) ?_;intro x))
   go_roundw
   case rel=>exact⟨k+1,by go_num,by omega,HF,b7.of⟩
   case measure=>simp[intOf];omega
  ·have T5:=lH (show bd.Limits.all W6=true by have:=HV.out;rw[List.drop_of_length_le (by have:=HN1.out;omega)]at this;rw[← this];rfl)
   clear HV
   cases g6:inB bd.Made 0 65535
   ·have HF:=lH (show A2 bd=false from aS9 g6)
    go_wp2_with (first|(go_at_call 146;refine gm (d8) ?_;intro x))
    go_ret
    exact b5.mk (by rw[HF.out];rfl)
   have T6:=lH g6
   cases g7:inB bd.Taken 0 65535
   ·have HF:=lH (show A2 bd=false from aT0 g7)
    go_wp2_with (first|(go_at_call 146;refine gm (d8) ?_;intro x))
    go_ret
    exact b5.mk (by rw[HF.out];rfl)
   have T7:=lH g7
   have⟨htk0,htk1⟩:=aq8 T7.out
   have hl2:=HN2.out
   cases g8:J6 bd.Taken bd.Orders
   ·have HF:=lH (show A2 bd=false from aT1 g8)
    go_wp2_with (first|(go_at_call 146;refine gm (d8) ?_;intro x)|(go_at_call 326;refine gm (aD2) ?_;intro x))
    go_ret
    exact b5.mk (by rw[HF.out];rfl)
   have T8:=lH g8
   by_cases h9:n3≤5000
   rotate_left
   ·have k9:decide (5000<(n3:Int))=true:=by simp;omega
    have k9b:decide ((n3:Int)≤5000)=false:=by simp;omega
    have HF:=lH (show A2 bd=false from aT2 (by rw[HN3.out];exact k9b))
    clear h9
    go_wp2_with (first|(go_at_call 146;refine gm (d8) ?_;intro x)|(go_at_call 326;refine gm (aD2) ?_;intro x))
    go_ret
    exact b5.mk (by rw[HF.out];rfl)
   have k9:decide (5000<(n3:Int))=false:=by simp;omega
   have k9b:decide ((n3:Int)≤5000)=true:=by simp;omega
   have T9:=lH (show decide ((bd.Done.length:Int)≤5000)=true by rw[HN3.out];exact k9b)
   clear h9
   go_wp2_with (first|(go_at_call 146;refine gm (d8) ?_;intro x)|(go_at_call 326;refine gm (aD2) ?_;intro x))
   clear g6 g7 g8 k9 k9b hl2
   go_loopw [78] (fun v wr=>∃ k:Nat,v=I k∧k≤n3∧Hid ((bd.Done.drop k).all (ac9 bd.Taken)=bd.Done.all (ac9 bd.Taken))∧∃ X:b7 (w.alloc (.cells #[I bd.Clock,.slice a0 8 c0,.bool bd.Safe,.slice a1 n1 c1,.slice a2 n2 c2,.slice a3 n3 c3,I bd.Recorder.Room,.slice a4 n4 c4,.slice a5 n5 c5,I bd.Made,I bd.Taken,.slice a6 n6 c6] 84)),wr=X.w) (fun v _=>(n3 - intOf v).toNat)
   case atStart=>exact⟨0,rfl,by omega,rfl,b7.of⟩
   case round =>
    obtain⟨k,rfl,hk,HV,X,rfl⟩:=hrel
    by_cases h:k<n3
    ·have hkl:k<bd.Done.length:=by have:=HN3.out;omega
     obtain⟨eb,eoff,es,rfl,ehb,ehd,eok,eh0,eh1,eh2⟩:=hs3.atTDone hkl
     have EOK:=lH eok;clear eok
     have⟨htt0,htt1⟩:=aq8 T7.out
     clear hkl
     cases d1:inB es.Number 0 (bd.Taken - 1)
     ·have HF:=lH (show A2 bd=false from ak3 (by have:=HV.out;rw[ehd.out,List.all_cons]at this;rw[← this,ac9,d1]<;>rfl))
      go_wp2_with (first|(go_at_call 146;refine gm (d8) ?_;intro x))
      go_ret
      exact b5.mk (by rw[HF.out];rfl)
     cases d2:inB es.Time 0 1000000
     ·have HF:=lH (show A2 bd=false from ak3 (by have:=HV.out;rw[ehd.out,List.all_cons]at this;rw[← this,ac9,d1,d2]<;>rfl))
      go_wp2_with (first|(go_at_call 146;refine gm (d8) ?_;intro x))
      go_ret
      exact b5.mk (by rw[HF.out];rfl)
     cases d3:inB es.Result 0 1
     ·have HF:=lH (show A2 bd=false from ak3 (by have:=HV.out;rw[ehd.out,List.all_cons]at this;rw[← this,ac9,d1,d2,d3]<;>rfl))
      go_wp2_with (first|(go_at_call 146;refine gm (d8) ?_;intro x))
      go_ret
      exact b5.mk (by rw[HF.out];rfl)
     have HF:=lH (show(bd.Done.drop (k+1)).all (ac9 bd.Taken)=bd.Done.all (ac9 bd.Taken)by have:=HV.out;rw[ehd.out,List.all_cons]at this;rw[← this,ac9,d1,d2,d3]<;>rfl)
     go_wp2_with (first|(go_at_call 146;refine gm (d8) ?_;intro x))
     go_roundw
     case rel=>exact⟨k+1,by go_num,by omega,HF,b7.of⟩
     case measure=>simp[intOf];omega
    ·have T10:=lH (show bd.Done.all (ac9 bd.Taken)=true by have:=HV.out;rw[List.drop_of_length_le (by have:=HN3.out;omega)]at this;rw[← this];rfl)
     clear HV
     have hr4:=HN4.out
     have hr5:=HN5.out
     cases g11:J7 bd.Recorder
     ·have HF:=lH (show A2 bd=false from aL3 g11)
      go_wp2_with (first|(go_at_call 146;refine gm (d8) ?_;intro x)|(go_at_call 306;refine gm (aD1) ?_;intro x))
      go_ret
      exact b5.mk (by rw[HF.out];rfl)
     have T11:=lH g11
     go_wp2_with (first|(go_at_call 146;refine gm (d8) ?_;intro x)|(go_at_call 306;refine gm (aD1) ?_;intro x))
     clear g11 hr4 hr5
     go_loopw [110] (fun v wr=>∃ k:Nat,v=I k∧k≤n4∧Hid ((bd.Recorder.Records.drop k).all (aC9 bd.Made)=bd.Recorder.Records.all (aC9 bd.Made))∧∃ X:b7 (w.alloc (.cells #[I bd.Clock,.slice a0 8 c0,.bool bd.Safe,.slice a1 n1 c1,.slice a2 n2 c2,.slice a3 n3 c3,I bd.Recorder.Room,.slice a4 n4 c4,.slice a5 n5 c5,I bd.Made,I bd.Taken,.slice a6 n6 c6] 84)),wr=X.w) (fun v _=>(n4 - intOf v).toNat)
     case atStart=>exact⟨0,rfl,by omega,rfl,b7.of⟩
     case round =>
      obtain⟨k,rfl,hk,HV,X,rfl⟩:=hrel
      by_cases h:k<n4
      ·have hkl:k<bd.Recorder.Records.length:=by have:=HN4.out;omega
       obtain⟨eb,eoff,es,rfl,ehb,ehd,eok,eh0,eh1,eh2,eh3⟩:=hs4.atTRecord hkl
       have hz9:es.Data.size≤9223372036854775807:=eok.2.2.2.1
       have EOK:=lH eok;clear eok
       clear hkl
       cases d1:decide (bd.Made≤es.Id)
       rotate_left
       ·have HF:=lH (show A2 bd=false from aL4 (by have:=HV.out;rw[ehd.out,List.all_cons]at this;rw[← this,aC9,d1]<;>rfl))
        go_wp2_with fail
        go_ret
        exact b5.mk (by rw[HF.out];rfl)
       have HF:=lH (show(bd.Recorder.Records.drop (k+1)).all (aC9 bd.Made)=bd.Recorder.Records.all (aC9 bd.Made)by have:=HV.out;rw[ehd.out,List.all_cons]at this;rw[← this,aC9,d1]<;>rfl)
       go_wp2_with fail
       go_roundw
       case rel=>exact⟨k+1,by go_num,by omega,HF,b7.of⟩
       case measure=>simp[intOf];omega
      ·have T12:=lH (show bd.Recorder.Records.all (aC9 bd.Made)=true by have:=HV.out;rw[List.drop_of_length_le (by have:=HN4.out;omega)]at this;rw[← this];rfl)
       clear HV
       by_cases h13:n6≤5000
       rotate_left
       ·have k13:decide (5000<(n6:Int))=true:=by simp;omega
        have k13b:decide ((n6:Int)≤5000)=false:=by simp;omega
        have HF:=lH (show A2 bd=false from aL5 (by rw[HN6.out];exact k13b))
        clear h13
        go_wp2_with (first|(go_at_call 146;refine gm (d8) ?_;intro x))
        go_ret
        exact b5.mk (by rw[HF.out];rfl)
       have k13:decide (5000<(n6:Int))=false:=by simp;omega
       have k13b:decide ((n6:Int)≤5000)=true:=by simp;omega
       have T13:=lH (show decide ((bd.Asked.length:Int)≤5000)=true by rw[HN6.out];exact k13b)
       clear h13
       have hsl6:=hs6.toSlInt
       have hl6:=HN6.out
       go_wp2_with (first|(go_at_call 146;refine gm (d8) ?_;intro x)|(go_at_call 325;refine gm (ac7) ?_;intro x))
       go_ret
       exact b5.mk (by
        cases g14:X2 0 7 bd.Asked
        ·rw[aL6 g14];rfl
        ·rw[aT3 T1.out T2.out T3.out T4.out T5.out T6.out T7.out T8.out T9.out T10.out T11.out T12.out T13.out g14];rfl)
theorem bI9{n7 n8 n9 n10:Nat}{a7 a8 a9 a10:Option Addr}{c7 c8 c9 c10:Nat}{bd:M0}(hq0:RdS B w0 a0 c0 bd.Board.Params)(hq1:RdS B w0 a1 c1 bd.Board.Limits)(hq2:RdS B w0 a2 c2 bd.Board.Orders)(hq3:RdS B w0 a3 c3 bd.Board.Done)(hq4:RdS B w0 a4 c4 bd.Board.Recorder.Records)(hq5:RdS B w0 a5 c5 bd.Board.Recorder.Dropped)(hq6:RdS B w0 a6 c6 bd.Board.Asked)(hq7:RdS B w0 a7 c7 bd.Packer.Starts)(hq8:RdS B w0 a8 c8 bd.Files)(hq9:RdS B w0 a9 c9 bd.Outs)(hq10:RdS B w0 a10 c10 bd.Sent)[g:d7 B w0 w](ok:ax6 bd)(hn0:bd.Board.Params.length=n0)(hn1:bd.Board.Limits.length=n1)(hn2:bd.Board.Orders.length=n2)(hn3:bd.Board.Done.length=n3)(hn4:bd.Board.Recorder.Records.length=n4)(hn5:bd.Board.Recorder.Dropped.length=n5)(hn6:bd.Board.Asked.length=n6)(hn7:bd.Packer.Starts.length=n7)(hn8:bd.Files.length=n8)(hn9:bd.Outs.length=n9)(hn10:bd.Sent.length=n10)(hm0:n0≤100000000)(hm1:n1≤100000000)(hm2:n2≤100000000)(hm3:n3≤100000000)(hm4:n4≤100000000)(hm5:n5≤100000000)(hm6:n6≤100000000)(hm7:n7≤100000000)(hm8:n8≤100000000)(hm9:n9≤100000000)(hm10:n10≤100000000)(hzr:bd.Packer.Rest.size≤100000000)(hxo:∀ y∈bd.Outs,y.Queue.length≤100000000∧y.Data.size≤100000000)(hxs:∀ s∈bd.Files,s.size≤100000000) :
  Calls Tryz.prog 152 #[.agg #[I bd.Receiver.Expect,.bool bd.Receiver.Locked,.bool bd.Receiver.Again,I bd.Receiver.Taken,I bd.Board.Clock,.slice a0 n0 c0,.bool bd.Board.Safe,.slice a1 n1 c1,.slice a2 n2 c2,.slice a3 n3 c3,I bd.Board.Recorder.Room,.slice a4 n4 c4,.slice a5 n5 c5,I bd.Board.Made,I bd.Board.Taken,.slice a6 n6 c6,I bd.Packer.Channel,I bd.Packer.Count,.string bd.Packer.Rest,.slice a7 n7 c7,I bd.Seq,.slice a8 n8 c8,.slice a9 n9 c9,I bd.Begun,.slice a10 n10 c10]] w (b5 w (.bool (D3 bd))):=by
 have hs0:=hq0.to g
 have hs1:=hq1.to g
 have hs2:=hq2.to g
 have hs3:=hq3.to g
 have hs4:=hq4.to g
 have hs5:=hq5.to g
 have hs6:=hq6.to g
 have hs7:=hq7.to g
 have hs8:=hq8.to g
 have hs9:=hq9.to g
 have hs10:=hq10.to g
 have HN0:=lH hn0
 have HN1:=lH hn1
 have HN2:=lH hn2
 have HN3:=lH hn3
 have HN4:=lH hn4
 have HN5:=lH hn5
 have HN6:=lH hn6
 have HN7:=lH hn7
 have HN8:=lH hn8
 have HN9:=lH hn9
 have HN10:=lH hn10
 clear hq0 hn0 hq1 hn1 hq2 hn2 hq3 hn3 hq4 hn4 hq5 hn5 hq6 hn6 hq7 hn7 hq8 hn8 hq9 hn9 hq10 hn10
 cases g1:L0 bd.Receiver
 ·have HF:=lH (show D3 bd=false from aV6 g1)
  go_enter Tryz.func152,Tryz.ntmps152
  go_wp2_with (first|(go_at_call 146;refine gm (d8) ?_;intro x)|(go_at_call 263;refine gm (U3) ?_;intro x))
  go_ret
  exact b5.mk (by rw[HF.out];rfl)
 have T1:=lH g1
 have oks:=ok.2.1
 have hd0:=HN0.out
 have hd1:=HN1.out
 have hd2:=HN2.out
 have hd3:=HN3.out
 have hd4:=HN4.out
 have hd5:=HN5.out
 have hd6:=HN6.out
 cases g2:A2 bd.Board
 ·have HF:=lH (show D3 bd=false from aV7 g2)
  go_enter Tryz.func152,Tryz.ntmps152
  go_wp2_with (first|(go_at_call 146;refine gm (d8) ?_;intro x)|(go_at_call 263;refine gm (U3) ?_;intro x)|(go_at_call 264;refine gm (ag5) ?_;intro x))
  go_ret
  exact b5.mk (by rw[HF.out];rfl)
 have T2:=lH g2
 have hd7:=HN7.out
 cases g3:aj7 bd.Packer
 ·have HF:=lH (show D3 bd=false from aV8 g3)
  go_enter Tryz.func152,Tryz.ntmps152
  go_wp2_with (first|(go_at_call 146;refine gm (d8) ?_;intro x)|(go_at_call 263;refine gm (U3) ?_;intro x)|(go_at_call 264;refine gm (ag5) ?_;intro x)|(go_at_call 217;refine gm (ab6) ?_;intro x))
  go_ret
  exact b5.mk (by rw[HF.out];rfl)
 have T3:=lH g3
 cases g4:(bd.Packer.Channel == 0)
 ·have HF:=lH (show D3 bd=false from aV9 g4)
  have g4b:(bd.Packer.Channel != 0)=true:=by rw[bne,g4];rfl
  go_enter Tryz.func152,Tryz.ntmps152
  go_wp2_with (first|(go_at_call 146;refine gm (d8) ?_;intro x)|(go_at_call 263;refine gm (U3) ?_;intro x)|(go_at_call 264;refine gm (ag5) ?_;intro x)|(go_at_call 217;refine gm (ab6) ?_;intro x))
  go_ret
  exact b5.mk (by rw[HF.out];rfl)
 have T4:=lH g4
 have g4b:(bd.Packer.Channel != 0)=false:=by rw[bne,g4];rfl
 cases g5:inB bd.Seq 0 65535
 ·have HF:=lH (show D3 bd=false from aW0 g5)
  go_enter Tryz.func152,Tryz.ntmps152
  go_wp2_with (first|(go_at_call 146;refine gm (d8) ?_;intro x)|(go_at_call 263;refine gm (U3) ?_;intro x)|(go_at_call 264;refine gm (ag5) ?_;intro x)|(go_at_call 217;refine gm (ab6) ?_;intro x))
  go_ret
  exact b5.mk (by rw[HF.out];rfl)
 have T5:=lH g5
 cases g6:inB bd.Begun 0 (n6:Int)
 ·have HF:=lH (show D3 bd=false from aW1 (by rw[HN6.out];exact g6))
  go_enter Tryz.func152,Tryz.ntmps152
  go_wp2_with (first|(go_at_call 146;refine gm (d8) ?_;intro x)|(go_at_call 263;refine gm (U3) ?_;intro x)|(go_at_call 264;refine gm (ag5) ?_;intro x)|(go_at_call 217;refine gm (ab6) ?_;intro x))
  go_ret
  exact b5.mk (by rw[HF.out];rfl)
 have T6:=lH (show inB bd.Begun 0 bd.Board.Asked.length=true by rw[HN6.out];exact g6)
 have hd10:=HN10.out
 cases g7:N8 bd.Sent
 ·have HF:=lH (show D3 bd=false from aW2 g7)
  go_enter Tryz.func152,Tryz.ntmps152
  go_wp2_with (first|(go_at_call 146;refine gm (d8) ?_;intro x)|(go_at_call 263;refine gm (U3) ?_;intro x)|(go_at_call 264;refine gm (ag5) ?_;intro x)|(go_at_call 217;refine gm (ab6) ?_;intro x)|(go_at_call 261;refine gm (ah1) ?_;intro x))
  go_ret
  exact b5.mk (by rw[HF.out];rfl)
 have T7:=lH g7
 by_cases h8:n8=8
 rotate_left
 ·have k8:((n8:Int) != 8)=true:=by simp;omega
  have k8b:((n8:Int) == 8)=false:=by simp;omega
  have HF:=lH (show D3 bd=false from aW3 (by rw[HN8.out];exact k8b))
  clear h8
  go_enter Tryz.func152,Tryz.ntmps152
  go_wp2_with (first|(go_at_call 146;refine gm (d8) ?_;intro x)|(go_at_call 263;refine gm (U3) ?_;intro x)|(go_at_call 264;refine gm (ag5) ?_;intro x)|(go_at_call 217;refine gm (ab6) ?_;intro x)|(go_at_call 261;refine gm (ah1) ?_;intro x))
  go_ret
  exact b5.mk (by rw[HF.out];rfl)
 subst h8
 have T8:=lH (show((bd.Files.length:Int) == 8)=true by rw[HN8.out];rfl)
 by_cases h9:n9=8
 rotate_left
 ·have k9:((n9:Int) != 8)=true:=by simp;omega
  have k9b:((n9:Int) == 8)=false:=by simp;omega
  have HF:=lH (show D3 bd=false from aW4 (by rw[HN9.out];exact k9b))
  clear h9
  go_enter Tryz.func152,Tryz.ntmps152
  go_wp2_with (first|(go_at_call 146;refine gm (d8) ?_;intro x)|(go_at_call 263;refine gm (U3) ?_;intro x)|(go_at_call 264;refine gm (ag5) ?_;intro x)|(go_at_call 217;refine gm (ab6) ?_;intro x)|(go_at_call 261;refine gm (ah1) ?_;intro x))
  go_ret
  exact b5.mk (by rw[HF.out];rfl)
 subst h9
 have T9:=lH (show((bd.Outs.length:Int) == 8)=true by rw[HN9.out];rfl)
 go_enter Tryz.func152,Tryz.ntmps152
 go_wp2_with (first|(go_at_call 146;refine gm (d8) ?_;intro x)|(go_at_call 263;refine gm (U3) ?_;intro x)|(go_at_call 264;refine gm (ag5) ?_;intro x)|(go_at_call 217;refine gm (ab6) ?_;intro x)|(go_at_call 261;refine gm (ah1) ?_;intro x))
 clear g1 g2 g3 g4 g4b g5 g6 g7 oks hd0 hd1 hd2 hd3 hd4 hd5 hd6 hd7 hd10
 go_loopw [60] (fun v wr=>∃ k:Nat,v=I k∧k≤8∧Hid (M9 bd.Files k (bd.Outs.drop k)=M9 bd.Files 0 bd.Outs)∧∃ X:b7 (w.alloc (.cells #[I bd.Receiver.Expect,.bool bd.Receiver.Locked,.bool bd.Receiver.Again,I bd.Receiver.Taken,I bd.Board.Clock,.slice a0 n0 c0,.bool bd.Board.Safe,.slice a1 n1 c1,.slice a2 n2 c2,.slice a3 n3 c3,I bd.Board.Recorder.Room,.slice a4 n4 c4,.slice a5 n5 c5,I bd.Board.Made,I bd.Board.Taken,.slice a6 n6 c6,I bd.Packer.Channel,I bd.Packer.Count,.string bd.Packer.Rest,.slice a7 n7 c7,I bd.Seq,.slice a8 8 c8,.slice a9 8 c9,I bd.Begun,.slice a10 n10 c10] 88)),wr=X.w) (fun v _=>(8 - intOf v).toNat)
 case atStart=>exact⟨0,rfl,by omega,rfl,b7.of⟩
 case round =>
  obtain⟨k,rfl,hk,HV,X,rfl⟩:=hrel
  by_cases h:k<8
  ·have hkl:k<bd.Outs.length:=by have:=HN9.out;omega
   obtain⟨eb,eoff,es,ea0,ec0,he,ehb,ehd,eq0,eok,eh0,eh1,eh2,eh3⟩:=hs9.atTFileOut hkl
   cases he
   have EOK:=lH eok;clear eok
   obtain⟨fb,foff,fs,hf8,fhb,fhd,fok,fh0⟩:=hs8.atStr (show k<bd.Files.length by have:=HN8.out;omega)
   obtain rfl:=hf8
   have hfs:bd.Files.getD k ByteArray.empty=fs:=by
    have:=congrArg (fun m=>m[0]?) fhd.out
    simp only[List.getElem?_drop,Nat.add_zero,List.getElem?_cons_zero]at this
    simp[List.getD,this]
   have hx3:=hxs fs (ao4 fhd.out)
   have hx1:=(hxo es (ao4 ehd.out)).1
   have hx2:=(hxo es (ao4 ehd.out)).2
   obtain⟨pn,hpn⟩:∃ pn,es.Queue.length=pn:=⟨_,rfl⟩
   rw[hpn]at hx1 eh2
   have HFS:=lH hfs;clear hfs
   clear hkl
   cases d1:decide (600<(fs.size:Int))
   rotate_left
   ·have HF:=lH (show D3 bd=false from ac5 (by have:=HV.out;rw[ehd.out,M9,HFS.out]at this;rw[← this,aE5,d1]<;>rfl))
    go_wp2_with (first|((with_reducible refine rl ?_);(repeat(first|go_big_quiet_step (first|fail)|simp only[d1]));refine wpQuiet_nil ?_;intro x))
    go_ret
    exact b5.mk (by rw[HF.out];rfl)
   cases d2:ai9 es
   ·have HF:=lH (show D3 bd=false from ac5 (by have:=HV.out;rw[ehd.out,M9,HFS.out]at this;rw[← this,aE5,d1,d2]<;>rfl))
    go_wp2_with (first|((with_reducible refine rl ?_);(repeat(first|go_big_quiet_step (first|(go_at_call 265;exact b5.quiet (ab5)))|simp only[d1]|simp only[d2]));refine wpQuiet_nil ?_;intro x)|(go_at_call 265;refine gm (ab5) ?_;intro x))
    go_ret
    exact b5.mk (by rw[HF.out];rfl)
   cases d3:(es.File == (k:Int))
   ·have HF:=lH (show D3 bd=false from ac5 (by have:=HV.out;rw[ehd.out,M9,HFS.out]at this;rw[← this,aE5,d1,d2,d3]<;>rfl))
    have d3b:(es.File != (k:Int))=true:=by rw[bne,d3];rfl
    go_wp2_with (first|((with_reducible refine rl ?_);(repeat(first|go_big_quiet_step (first|(go_at_call 265;exact b5.quiet (ab5)))|simp only[d1]|simp only[d2]|simp only[d3]|simp only[d3b]));refine wpQuiet_nil ?_;intro x)|(go_at_call 265;refine gm (ab5) ?_;intro x))
    go_ret
    exact b5.mk (by rw[HF.out];rfl)
   have d3b:(es.File != (k:Int))=false:=by rw[bne,d3];rfl
   cases d4:(es.Data.toList == fs.toList)
   ·have HF:=lH (show D3 bd=false from ac5 (by have:=HV.out;rw[ehd.out,M9,HFS.out]at this;rw[← this,aE5,d1,d2,d3,d4]<;>rfl))
    have d4b:(es.Data.toList != fs.toList)=true:=by rw[bne,d4];rfl
    go_wp2_with (first|((with_reducible refine rl ?_);(repeat(first|go_big_quiet_step (first|(go_at_call 265;exact b5.quiet (ab5)))|simp only[d1]|simp only[d2]|simp only[d3]|simp only[d3b]|simp only[d4]|simp only[d4b]));refine wpQuiet_nil ?_;intro x)|(go_at_call 265;refine gm (ab5) ?_;intro x))
    go_ret
    exact b5.mk (by rw[HF.out];rfl)
   have d4b:(es.Data.toList != fs.toList)=false:=by rw[bne,d4];rfl
   have HF:=lH (show M9 bd.Files (k+1) (bd.Outs.drop (k+1))=M9 bd.Files 0 bd.Outs by have:=HV.out;rw[ehd.out,M9,HFS.out]at this;rw[← this,aE5,d1,d2,d3,d4]<;>rfl)
   go_wp2_with (first|((with_reducible refine rl ?_);(repeat(first|go_big_quiet_step (first|(go_at_call 265;exact b5.quiet (ab5)))|simp only[d1]|simp only[d2]|simp only[d3]|simp only[d4]|simp only[d3b]|simp only[d4b]));refine wpQuiet_nil ?_;intro x)|(go_at_call 265;refine gm (ab5) ?_;intro x))
   go_roundw
   case rel=>exact⟨k+1,by go_num,by omega,HF,b7.of⟩
   case measure=>simp[intOf];omega
  ·have T10:=lH (show M9 bd.Files 0 bd.Outs=true by have:=HV.out;rw[List.drop_of_length_le (by have:=HN9.out;omega)]at this;rw[← this];rfl)
   clear HV
   go_wp2_with (first|(go_at_call 146;refine gm (d8) ?_;intro x))
   go_ret
   exact b5.mk (by rw[aW5 T1.out T2.out T3.out T4.out T5.out T6.out T7.out T8.out T9.out T10.out];rfl)
theorem ag6{bd:I3}(hq0:RdS B w0 a0 c0 bd.Params:=by exact sd)(hq1:RdS B w0 a1 c1 bd.Limits:=by exact sd)(hq2:RdS B w0 a2 c2 bd.Orders:=by exact sd)(hq3:RdS B w0 a3 c3 bd.Done:=by exact sd)(hq4:RdS B w0 a4 c4 bd.Recorder.Records:=by exact sd)(hq5:RdS B w0 a5 c5 bd.Recorder.Dropped:=by exact sd)(hq6:RdS B w0 a6 c6 bd.Asked:=by exact sd)[g:d7 B w0 w](ok:at3 bd:=by exact sd)(hn0:bd.Params.length=n0:=by exact sd)(hn1:bd.Limits.length=n1:=by exact sd)(hn2:bd.Orders.length=n2:=by exact sd)(hn3:bd.Done.length=n3:=by exact sd)(hn4:bd.Recorder.Records.length=n4:=by exact sd)(hn5:bd.Recorder.Dropped.length=n5:=by exact sd)(hn6:bd.Asked.length=n6:=by exact sd)(hm0:n0≤100000000:=by exact sd)(hm1:n1≤100000000:=by exact sd)(hm2:n2≤100000000:=by exact sd)(hm3:n3≤100000000:=by exact sd)(hm4:n4≤100000000:=by exact sd)(hm5:n5≤100000000:=by exact sd)(hm6:n6≤100000000:=by exact sd)  :
  Calls Tryz.prog 236 #[.agg #[I bd.Clock,.slice a0 n0 c0,.bool bd.Safe,.slice a1 n1 c1,.slice a2 n2 c2,.slice a3 n3 c3,I bd.Recorder.Room,.slice a4 n4 c4,.slice a5 n5 c5,I bd.Made,I bd.Taken,.slice a6 n6 c6]] w (b5 w (.bool (A2 bd))):=by
 have hs0:=hq0.to g
 have hs1:=hq1.to g
 have hs2:=hq2.to g
 have hs3:=hq3.to g
 have hs4:=hq4.to g
 have hs5:=hq5.to g
 have hs6:=hq6.to g
 have HN0:=lH hn0
 have HN1:=lH hn1
 have HN2:=lH hn2
 have HN3:=lH hn3
 have HN4:=lH hn4
 have HN5:=lH hn5
 have HN6:=lH hn6
 clear hq0 hn0 hq1 hn1 hq2 hn2 hq3 hn3 hq4 hn4 hq5 hn5 hq6 hn6
 cases g1:inB bd.Clock 0 1000000
 ·have HF:=lH (show A2 bd=false from aS5 g1)
  go_enter Tryz.func236,Tryz.ntmps236
  go_wp2_with (first|(go_at_call 101;refine gm (f5) ?_;intro x))
  go_ret
  exact b5.mk (by rw[HF.out];rfl)
 have T1:=lH g1
 by_cases h2:n0=8
 rotate_left
 ·have k2:((n0:Int) != 8)=true:=by simp;omega
  have k2b:((n0:Int) == 8)=false:=by simp;omega
  have HF:=lH (show A2 bd=false from aS6 (by rw[HN0.out];exact k2b))
  clear h2
  go_enter Tryz.func236,Tryz.ntmps236
  go_wp2_with (first|(go_at_call 101;refine gm (f5) ?_;intro x))
  go_ret
  exact b5.mk (by rw[HF.out];rfl)
 subst h2
 have T2:=lH (show((bd.Params.length:Int) == 8)=true by rw[HN0.out];rfl)
 by_cases h4:n1≤8
 rotate_left
 ·have k4:decide (8<(n1:Int))=true:=by simp;omega
  have k4b:decide ((n1:Int)≤8)=false:=by simp;omega
  have HF:=lH (show A2 bd=false from aS8 (by rw[HN1.out];exact k4b))
  clear h4
  go_enter Tryz.func236,Tryz.ntmps236
  go_wp2_with (first|(go_at_call 101;refine gm (f5) ?_;intro x))
  go_ret
  exact b5.mk (by rw[HF.out];rfl)
 have k4:decide (8<(n1:Int))=false:=by simp;omega
 have k4b:decide ((n1:Int)≤8)=true:=by simp;omega
 have T4:=lH (show decide ((bd.Limits.length:Int)≤8)=true by rw[HN1.out];exact k4b)
 clear h4
 cases g6:inB bd.Made 0 65535
 ·have HF:=lH (show A2 bd=false from aS9 g6)
  go_enter Tryz.func236,Tryz.ntmps236
  go_wp2_with (first|(go_at_call 101;refine gm (f5) ?_;intro x))
  go_ret
  exact b5.mk (by rw[HF.out];rfl)
 have T6:=lH g6
 cases g7:inB bd.Taken 0 65535
 ·have HF:=lH (show A2 bd=false from aT0 g7)
  go_enter Tryz.func236,Tryz.ntmps236
  go_wp2_with (first|(go_at_call 101;refine gm (f5) ?_;intro x))
  go_ret
  exact b5.mk (by rw[HF.out];rfl)
 have T7:=lH g7
 by_cases h9:n3≤5000
 rotate_left
 ·have k9:decide (5000<(n3:Int))=true:=by simp;omega
  have k9b:decide ((n3:Int)≤5000)=false:=by simp;omega
  have HF:=lH (show A2 bd=false from aT2 (by rw[HN3.out];exact k9b))
  clear h9
  go_enter Tryz.func236,Tryz.ntmps236
  go_wp2_with (first|(go_at_call 101;refine gm (f5) ?_;intro x))
  go_ret
  exact b5.mk (by rw[HF.out];rfl)
 have k9:decide (5000<(n3:Int))=false:=by simp;omega
 have k9b:decide ((n3:Int)≤5000)=true:=by simp;omega
 have T9:=lH (show decide ((bd.Done.length:Int)≤5000)=true by rw[HN3.out];exact k9b)
 clear h9
 by_cases h13:n6≤5000
 rotate_left
 ·have k13:decide (5000<(n6:Int))=true:=by simp;omega
  have k13b:decide ((n6:Int)≤5000)=false:=by simp;omega
  have HF:=lH (show A2 bd=false from aL5 (by rw[HN6.out];exact k13b))
  clear h13
  go_enter Tryz.func236,Tryz.ntmps236
  go_wp2_with (first|(go_at_call 101;refine gm (f5) ?_;intro x))
  go_ret
  exact b5.mk (by rw[HF.out];rfl)
 have k13:decide (5000<(n6:Int))=false:=by simp;omega
 have k13b:decide ((n6:Int)≤5000)=true:=by simp;omega
 have T13:=lH (show decide ((bd.Asked.length:Int)≤5000)=true by rw[HN6.out];exact k13b)
 clear h13
 have hr4:=HN4.out
 have hr5:=HN5.out
 cases g11:J7 bd.Recorder
 ·have HF:=lH (show A2 bd=false from aL3 g11)
  go_enter Tryz.func236,Tryz.ntmps236
  go_wp2_with (first|(go_at_call 101;refine gm (f5) ?_;intro x)|(go_at_call 200;refine gm (au4) ?_;intro x))
  go_ret
  exact b5.mk (by rw[HF.out];rfl)
 have T11:=lH g11
 have⟨htk0,htk1⟩:=aq8 T7.out
 have hl0:=HN0.out
 have hl1:=HN1.out
 have hl2:=HN2.out
 have hl3:=HN3.out
 have hl4:=HN4.out
 have hl5:=HN5.out
 have hl6:=HN6.out
 cases g8:J6 bd.Taken bd.Orders
 ·have HF:=lH (show A2 bd=false from aT1 g8)
  go_enter Tryz.func236,Tryz.ntmps236
  go_wp2_with (first|(go_at_call 101;refine gm (f5) ?_;intro x)|(go_at_call 200;refine gm (au4) ?_;intro x)|(go_at_call 318;refine gm (aI2) ?_;intro x))
  go_ret
  exact b5.mk (by rw[HF.out];rfl)
 have T8:=lH g8
 go_enter Tryz.func236,Tryz.ntmps236
 go_wp2_with (first|(go_at_call 101;refine gm (f5) ?_;intro x)|(go_at_call 200;refine gm (au4) ?_;intro x)|(go_at_call 318;refine gm (aI2) ?_;intro x))
 clear g1 k4 k4b g6 g7 k9 k9b k13 k13b g11 g8 hr4 hr5 hl0 hl1 hl2 hl3 hl4 hl5 hl6
 go_loopw [3] (fun v wr=>∃ k:Nat,v=I k∧k≤8∧Hid (X2 0 65535 (bd.Params.drop k)=X2 0 65535 bd.Params)∧∃ X:b7 (w.alloc (.cells #[I bd.Clock,.slice a0 8 c0,.bool bd.Safe,.slice a1 n1 c1,.slice a2 n2 c2,.slice a3 n3 c3,I bd.Recorder.Room,.slice a4 n4 c4,.slice a5 n5 c5,I bd.Made,I bd.Taken,.slice a6 n6 c6] 84)),wr=X.w) (fun v _=>(8 - intOf v).toNat)
 case atStart=>exact⟨0,rfl,by omega,rfl,b7.of⟩
 case round =>
  obtain⟨k,rfl,hk,HV,X,rfl⟩:=hrel
  by_cases h:k<8
  ·have hkl:k<bd.Params.length:=by have:=HN0.out;omega
   obtain⟨eb,eoff,es,rfl,ehb,ehd,eok,eh0⟩:=hs0.atInt hkl
   have EOK:=lH eok;clear eok
   clear hkl
   cases d1:inB es 0 65535
   ·have HF:=lH (show A2 bd=false from aS7 (by have:=HV.out;rw[ehd.out,X2]at this;rw[← this,d1]<;>rfl))
    go_wp2_with (first|(go_at_call 101;refine gm (f5) ?_;intro x))
    go_ret
    exact b5.mk (by rw[HF.out];rfl)
   have HF:=lH (show X2 0 65535 (bd.Params.drop (k+1))=X2 0 65535 bd.Params by have:=HV.out;rw[ehd.out,X2]at this;rw[← this,d1]<;>rfl)
   go_wp2_with (first|(go_at_call 101;refine gm (f5) ?_;intro x))
   go_roundw
   case rel=>exact⟨k+1,by go_num,by omega,HF,b7.of⟩
   case measure=>simp[intOf];omega
  ·have T3:=lH (show X2 0 65535 bd.Params=true by have:=HV.out;rw[List.drop_of_length_le (by have:=HN0.out;omega)]at this;rw[← this];rfl)
   clear HV
   go_wp2_with (first|(go_at_call 101;refine gm (f5) ?_;intro x))
   go_loopw [4] (fun v wr=>∃ k:Nat,v=I k∧k≤n1∧Hid ((bd.Limits.drop k).all W6=bd.Limits.all W6)∧∃ X:b7 (w.alloc (.cells #[I bd.Clock,.slice a0 8 c0,.bool bd.Safe,.slice a1 n1 c1,.slice a2 n2 c2,.slice a3 n3 c3,I bd.Recorder.Room,.slice a4 n4 c4,.slice a5 n5 c5,I bd.Made,I bd.Taken,.slice a6 n6 c6] 84)),wr=X.w) (fun v _=>(n1 - intOf v).toNat)
   case atStart=>exact⟨0,rfl,by omega,rfl,b7.of⟩
   case round =>
    obtain⟨k,rfl,hk,HV,X,rfl⟩:=hrel
    by_cases h:k<n1
    ·have hkl:k<bd.Limits.length:=by have:=HN1.out;omega
     obtain⟨eb,eoff,es,rfl,ehb,ehd,eok,eh0,eh1,eh2⟩:=hs1.atTLimit hkl
     have EOK:=lH eok;clear eok
     clear hkl
     cases d1:inB es.Param 0 7
     ·have HF:=lH (show A2 bd=false from am6 (by have:=HV.out;rw[ehd.out,List.all_cons]at this;rw[← this,W6,d1]<;>rfl))
      go_wp2_with (first|(go_at_call 101;refine gm (f5) ?_;intro x))
      go_ret
      exact b5.mk (by rw[HF.out];rfl)
     cases d2:inB es.Low 0 65535
     ·have HF:=lH (show A2 bd=false from am6 (by have:=HV.out;rw[ehd.out,List.all_cons]at this;rw[← this,W6,d1,d2]<;>rfl))
      go_wp2_with (first|(go_at_call 101;refine gm (f5) ?_;intro x))
      go_ret
      exact b5.mk (by rw[HF.out];rfl)
     cases d3:inB es.High 0 65535
     ·have HF:=lH (show A2 bd=false from am6 (by have:=HV.out;rw[ehd.out,List.all_cons]at this;rw[← this,W6,d1,d2,d3]<;>rfl))
      go_wp2_with (first|(go_at_call 101;refine gm (f5) ?_;intro x))
      go_ret
      exact b5.mk (by rw[HF.out];rfl)
     have HF:=lH (show(bd.Limits.drop (k+1)).all W6=bd.Limits.all W6 by have:=HV.out;rw[ehd.out,List.all_cons]at this;rw[← this,W6,d1,d2,d3]<;>rfl)
     go_wp2_with (first|(go_at_call 101;refine gm (f5) ?_;intro x))
     go_roundw
     case rel=>exact⟨k+1,by go_num,by omega,HF,b7.of⟩
     case measure=>simp[intOf];omega
    ·have T5:=lH (show bd.Limits.all W6=true by have:=HV.out;rw[List.drop_of_length_le (by have:=HN1.out;omega)]at this;rw[← this];rfl)
     clear HV
     go_wp2_with (first|(go_at_call 101;refine gm (f5) ?_;intro x))
     go_loopw [6] (fun v wr=>∃ k:Nat,v=I k∧k≤n3∧Hid ((bd.Done.drop k).all (ac9 bd.Taken)=bd.Done.all (ac9 bd.Taken))∧∃ X:b7 (w.alloc (.cells #[I bd.Clock,.slice a0 8 c0,.bool bd.Safe,.slice a1 n1 c1,.slice a2 n2 c2,.slice a3 n3 c3,I bd.Recorder.Room,.slice a4 n4 c4,.slice a5 n5 c5,I bd.Made,I bd.Taken,.slice a6 n6 c6] 84)),wr=X.w) (fun v _=>(n3 - intOf v).toNat)
     case atStart=>exact⟨0,rfl,by omega,rfl,b7.of⟩
     case round =>
      obtain⟨k,rfl,hk,HV,X,rfl⟩:=hrel
      by_cases h:k<n3
      ·have hkl:k<bd.Done.length:=by have:=HN3.out;omega
       obtain⟨eb,eoff,es,rfl,ehb,ehd,eok,eh0,eh1,eh2⟩:=hs3.atTDone hkl
       have EOK:=lH eok;clear eok
       have⟨htt0,htt1⟩:=aq8 T7.out
       clear hkl
       cases d1:inB es.Number 0 (bd.Taken - 1)
       ·have HF:=lH (show A2 bd=false from ak3 (by have:=HV.out;rw[ehd.out,List.all_cons]at this;rw[← this,ac9,d1]<;>rfl))
        go_wp2_with (first|(go_at_call 101;refine gm (f5) ?_;intro x))
        go_ret
        exact b5.mk (by rw[HF.out];rfl)
       cases d2:inB es.Time 0 1000000
       ·have HF:=lH (show A2 bd=false from ak3 (by have:=HV.out;rw[ehd.out,List.all_cons]at this;rw[← this,ac9,d1,d2]<;>rfl))
        go_wp2_with (first|(go_at_call 101;refine gm (f5) ?_;intro x))
        go_ret
        exact b5.mk (by rw[HF.out];rfl)
       cases d3:inB es.Result 0 1
       ·have HF:=lH (show A2 bd=false from ak3 (by have:=HV.out;rw[ehd.out,List.all_cons]at this;rw[← this,ac9,d1,d2,d3]<;>rfl))
        go_wp2_with (first|(go_at_call 101;refine gm (f5) ?_;intro x))
        go_ret
        exact b5.mk (by rw[HF.out];rfl)
       have HF:=lH (show(bd.Done.drop (k+1)).all (ac9 bd.Taken)=bd.Done.all (ac9 bd.Taken)by have:=HV.out;rw[ehd.out,List.all_cons]at this;rw[← this,ac9,d1,d2,d3]<;>rfl)
       go_wp2_with (first|(go_at_call 101;refine gm (f5) ?_;intro x))
       go_roundw
       case rel=>exact⟨k+1,by go_num,by omega,HF,b7.of⟩
       case measure=>simp[intOf];omega
      ·have T10:=lH (show bd.Done.all (ac9 bd.Taken)=true by have:=HV.out;rw[List.drop_of_length_le (by have:=HN3.out;omega)]at this;rw[← this];rfl)
       clear HV
       go_wp2_with (first|(go_at_call 101;refine gm (f5) ?_;intro x))
       go_loopw [8] (fun v wr=>∃ k:Nat,v=I k∧k≤n4∧Hid ((bd.Recorder.Records.drop k).all (aC9 bd.Made)=bd.Recorder.Records.all (aC9 bd.Made))∧∃ X:b7 (w.alloc (.cells #[I bd.Clock,.slice a0 8 c0,.bool bd.Safe,.slice a1 n1 c1,.slice a2 n2 c2,.slice a3 n3 c3,I bd.Recorder.Room,.slice a4 n4 c4,.slice a5 n5 c5,I bd.Made,I bd.Taken,.slice a6 n6 c6] 84)),wr=X.w) (fun v _=>(n4 - intOf v).toNat)
       case atStart=>exact⟨0,rfl,by omega,rfl,b7.of⟩
       case round =>
        obtain⟨k,rfl,hk,HV,X,rfl⟩:=hrel
        by_cases h:k<n4
        ·have hkl:k<bd.Recorder.Records.length:=by have:=HN4.out;omega
         obtain⟨eb,eoff,es,rfl,ehb,ehd,eok,eh0,eh1,eh2,eh3⟩:=hs4.atTRecord hkl
         have hz9:es.Data.size≤9223372036854775807:=eok.2.2.2.1
         have EOK:=lH eok;clear eok
         clear hkl
         cases d1:decide (bd.Made≤es.Id)
         rotate_left
         ·have HF:=lH (show A2 bd=false from aL4 (by have:=HV.out;rw[ehd.out,List.all_cons]at this;rw[← this,aC9,d1]<;>rfl))
          go_wp2_with (first|((with_reducible refine rl ?_);(repeat(first|go_big_quiet_step (first|fail)|simp only[d1]));refine wpQuiet_nil ?_;intro x))
          go_ret
          exact b5.mk (by rw[HF.out];rfl)
         have HF:=lH (show(bd.Recorder.Records.drop (k+1)).all (aC9 bd.Made)=bd.Recorder.Records.all (aC9 bd.Made)by have:=HV.out;rw[ehd.out,List.all_cons]at this;rw[← this,aC9,d1]<;>rfl)
         go_wp2_with (first|((with_reducible refine rl ?_);(repeat(first|go_big_quiet_step (first|fail)|simp only[d1]));refine wpQuiet_nil ?_;intro x))
         go_roundw
         case rel=>exact⟨k+1,by go_num,by omega,HF,b7.of⟩
         case measure=>simp[intOf];omega
        ·have T12:=lH (show bd.Recorder.Records.all (aC9 bd.Made)=true by have:=HV.out;rw[List.drop_of_length_le (by have:=HN4.out;omega)]at this;rw[← this];rfl)
         clear HV
         go_wp2_with (first|(go_at_call 101;refine gm (f5) ?_;intro x))
         go_loopw [9] (fun v wr=>∃ k:Nat,v=I k∧k≤n6∧Hid (X2 0 7 (bd.Asked.drop k)=X2 0 7 bd.Asked)∧∃ X:b7 (w.alloc (.cells #[I bd.Clock,.slice a0 8 c0,.bool bd.Safe,.slice a1 n1 c1,.slice a2 n2 c2,.slice a3 n3 c3,I bd.Recorder.Room,.slice a4 n4 c4,.slice a5 n5 c5,I bd.Made,I bd.Taken,.slice a6 n6 c6] 84)),wr=X.w) (fun v _=>(n6 - intOf v).toNat)
         case atStart=>exact⟨0,rfl,by omega,rfl,b7.of⟩
         case round =>
          obtain⟨k,rfl,hk,HV,X,rfl⟩:=hrel
          by_cases h:k<n6
          ·have hkl:k<bd.Asked.length:=by have:=HN6.out;omega
           obtain⟨eb,eoff,es,rfl,ehb,ehd,eok,eh0⟩:=hs6.atInt hkl
           have EOK:=lH eok;clear eok
           clear hkl
           cases d1:inB es 0 7
           ·have HF:=lH (show A2 bd=false from aL6 (by have:=HV.out;rw[ehd.out,X2]at this;rw[← this,d1]<;>rfl))
            go_wp2_with (first|(go_at_call 101;refine gm (f5) ?_;intro x))
            go_ret
            exact b5.mk (by rw[HF.out];rfl)
           have HF:=lH (show X2 0 7 (bd.Asked.drop (k+1))=X2 0 7 bd.Asked by have:=HV.out;rw[ehd.out,X2]at this;rw[← this,d1]<;>rfl)
           go_wp2_with (first|(go_at_call 101;refine gm (f5) ?_;intro x))
           go_roundw
           case rel=>exact⟨k+1,by go_num,by omega,HF,b7.of⟩
           case measure=>simp[intOf];omega
          ·have T14:=lH (show X2 0 7 bd.Asked=true by have:=HV.out;rw[List.drop_of_length_le (by have:=HN6.out;omega)]at this;rw[← this];rfl)
           clear HV
           go_wp2_with (first|(go_at_call 101;refine gm (f5) ?_;intro x))
           go_ret
           exact b5.mk (by rw[aT3 T1.out T2.out T3.out T4.out T5.out T6.out T7.out T8.out T9.out T10.out T11.out T12.out T13.out T14.out];rfl)
theorem bJ2{n7 n8 n9 n10:Nat}{a7 a8 a9 a10:Option Addr}{c7 c8 c9 c10:Nat}{bd:M0}(hq0:RdS B w0 a0 c0 bd.Board.Params)(hq1:RdS B w0 a1 c1 bd.Board.Limits)(hq2:RdS B w0 a2 c2 bd.Board.Orders)(hq3:RdS B w0 a3 c3 bd.Board.Done)(hq4:RdS B w0 a4 c4 bd.Board.Recorder.Records)(hq5:RdS B w0 a5 c5 bd.Board.Recorder.Dropped)(hq6:RdS B w0 a6 c6 bd.Board.Asked)(hq7:RdS B w0 a7 c7 bd.Packer.Starts)(hq8:RdS B w0 a8 c8 bd.Files)(hq9:RdS B w0 a9 c9 bd.Outs)(hq10:RdS B w0 a10 c10 bd.Sent)[g:d7 B w0 w](ok:ax6 bd)(hn0:bd.Board.Params.length=n0)(hn1:bd.Board.Limits.length=n1)(hn2:bd.Board.Orders.length=n2)(hn3:bd.Board.Done.length=n3)(hn4:bd.Board.Recorder.Records.length=n4)(hn5:bd.Board.Recorder.Dropped.length=n5)(hn6:bd.Board.Asked.length=n6)(hn7:bd.Packer.Starts.length=n7)(hn8:bd.Files.length=n8)(hn9:bd.Outs.length=n9)(hn10:bd.Sent.length=n10)(hm0:n0≤100000000)(hm1:n1≤100000000)(hm2:n2≤100000000)(hm3:n3≤100000000)(hm4:n4≤100000000)(hm5:n5≤100000000)(hm6:n6≤100000000)(hm7:n7≤100000000)(hm8:n8≤100000000)(hm9:n9≤100000000)(hm10:n10≤100000000)(hzr:bd.Packer.Rest.size≤100000000)(hxo:∀ y∈bd.Outs,y.Queue.length≤100000000∧y.Data.size≤100000000)(hxs:∀ s∈bd.Files,s.size≤100000000) :
  Calls Tryz.prog 107 #[.agg #[I bd.Receiver.Expect,.bool bd.Receiver.Locked,.bool bd.Receiver.Again,I bd.Receiver.Taken,I bd.Board.Clock,.slice a0 n0 c0,.bool bd.Board.Safe,.slice a1 n1 c1,.slice a2 n2 c2,.slice a3 n3 c3,I bd.Board.Recorder.Room,.slice a4 n4 c4,.slice a5 n5 c5,I bd.Board.Made,I bd.Board.Taken,.slice a6 n6 c6,I bd.Packer.Channel,I bd.Packer.Count,.string bd.Packer.Rest,.slice a7 n7 c7,I bd.Seq,.slice a8 n8 c8,.slice a9 n9 c9,I bd.Begun,.slice a10 n10 c10]] w (b5 w (.bool (D3 bd))):=by
 have hs0:=hq0.to g
 have hs1:=hq1.to g
 have hs2:=hq2.to g
 have hs3:=hq3.to g
 have hs4:=hq4.to g
 have hs5:=hq5.to g
 have hs6:=hq6.to g
 have hs7:=hq7.to g
 have hs8:=hq8.to g
 have hs9:=hq9.to g
 have hs10:=hq10.to g
 have HN0:=lH hn0
 have HN1:=lH hn1
 have HN2:=lH hn2
 have HN3:=lH hn3
 have HN4:=lH hn4
 have HN5:=lH hn5
 have HN6:=lH hn6
 have HN7:=lH hn7
 have HN8:=lH hn8
 have HN9:=lH hn9
 have HN10:=lH hn10
 clear hq0 hn0 hq1 hn1 hq2 hn2 hq3 hn3 hq4 hn4 hq5 hn5 hq6 hn6 hq7 hn7 hq8 hn8 hq9 hn9 hq10 hn10
 cases g1:L0 bd.Receiver
 ·have HF:=lH (show D3 bd=false from aV6 g1)
  go_enter Tryz.func107,Tryz.ntmps107
  go_wp2_with (first|(go_at_call 101;refine gm (f5) ?_;intro x)|(go_at_call 235;refine gm (U4) ?_;intro x))
  go_ret
  exact b5.mk (by rw[HF.out];rfl)
 have T1:=lH g1
 have oks:=ok.2.1
 have hd0:=HN0.out
 have hd1:=HN1.out
 have hd2:=HN2.out
 have hd3:=HN3.out
 have hd4:=HN4.out
 have hd5:=HN5.out
 have hd6:=HN6.out
 cases g2:A2 bd.Board
 ·have HF:=lH (show D3 bd=false from aV7 g2)
  go_enter Tryz.func107,Tryz.ntmps107
  go_wp2_with (first|(go_at_call 101;refine gm (f5) ?_;intro x)|(go_at_call 235;refine gm (U4) ?_;intro x)|(go_at_call 236;refine gm (ag6) ?_;intro x))
  go_ret
  exact b5.mk (by rw[HF.out];rfl)
 have T2:=lH g2
 have hd7:=HN7.out
 cases g3:aj7 bd.Packer
 ·have HF:=lH (show D3 bd=false from aV8 g3)
  go_enter Tryz.func107,Tryz.ntmps107
  go_wp2_with (first|(go_at_call 101;refine gm (f5) ?_;intro x)|(go_at_call 235;refine gm (U4) ?_;intro x)|(go_at_call 236;refine gm (ag6) ?_;intro x)|(go_at_call 204;refine gm (ab8) ?_;intro x))
  go_ret
  exact b5.mk (by rw[HF.out];rfl)
 have T3:=lH g3
 cases g4:(bd.Packer.Channel == 0)
 ·have HF:=lH (show D3 bd=false from aV9 g4)
  have g4b:(bd.Packer.Channel != 0)=true:=by rw[bne,g4];rfl
  go_enter Tryz.func107,Tryz.ntmps107
  go_wp2_with (first|(go_at_call 101;refine gm (f5) ?_;intro x)|(go_at_call 235;refine gm (U4) ?_;intro x)|(go_at_call 236;refine gm (ag6) ?_;intro x)|(go_at_call 204;refine gm (ab8) ?_;intro x))
  go_ret
  exact b5.mk (by rw[HF.out];rfl)
 have T4:=lH g4
 have g4b:(bd.Packer.Channel != 0)=false:=by rw[bne,g4];rfl
 cases g5:inB bd.Seq 0 65535
 ·have HF:=lH (show D3 bd=false from aW0 g5)
  go_enter Tryz.func107,Tryz.ntmps107
  go_wp2_with (first|(go_at_call 101;refine gm (f5) ?_;intro x)|(go_at_call 235;refine gm (U4) ?_;intro x)|(go_at_call 236;refine gm (ag6) ?_;intro x)|(go_at_call 204;refine gm (ab8) ?_;intro x))
  go_ret
  exact b5.mk (by rw[HF.out];rfl)
 have T5:=lH g5
 by_cases h8:n8=8
 rotate_left
 ·have k8:((n8:Int) != 8)=true:=by simp;omega
  have k8b:((n8:Int) == 8)=false:=by simp;omega
  have HF:=lH (show D3 bd=false from aW3 (by rw[HN8.out];exact k8b))
  clear h8
  go_enter Tryz.func107,Tryz.ntmps107
  go_wp2_with (first|(go_at_call 101;refine gm (f5) ?_;intro x)|(go_at_call 235;refine gm (U4) ?_;intro x)|(go_at_call 236;refine gm (ag6) ?_;intro x)|(go_at_call 204;refine gm (ab8) ?_;intro x))
  go_ret
  exact b5.mk (by rw[HF.out];rfl)
 subst h8
 have T8:=lH (show((bd.Files.length:Int) == 8)=true by rw[HN8.out];rfl)
 by_cases h9:n9=8
 rotate_left
 ·have k9:((n9:Int) != 8)=true:=by simp;omega
  have k9b:((n9:Int) == 8)=false:=by simp;omega
  have HF:=lH (show D3 bd=false from aW4 (by rw[HN9.out];exact k9b))
  clear h9
  go_enter Tryz.func107,Tryz.ntmps107
  go_wp2_with (first|(go_at_call 101;refine gm (f5) ?_;intro x)|(go_at_call 235;refine gm (U4) ?_;intro x)|(go_at_call 236;refine gm (ag6) ?_;intro x)|(go_at_call 204;refine gm (ab8) ?_;intro x))
  go_ret
  exact b5.mk (by rw[HF.out];rfl)
 subst h9
 have T9:=lH (show((bd.Outs.length:Int) == 8)=true by rw[HN9.out];rfl)
 cases g6:inB bd.Begun 0 (n6:Int)
 ·have HF:=lH (show D3 bd=false from aW1 (by rw[HN6.out];exact g6))
  go_enter Tryz.func107,Tryz.ntmps107
  go_wp2_with (first|(go_at_call 101;refine gm (f5) ?_;intro x)|(go_at_call 235;refine gm (U4) ?_;intro x)|(go_at_call 236;refine gm (ag6) ?_;intro x)|(go_at_call 204;refine gm (ab8) ?_;intro x))
  go_ret
  exact b5.mk (by rw[HF.out];rfl)
 have T6:=lH (show inB bd.Begun 0 bd.Board.Asked.length=true by rw[HN6.out];exact g6)
 have hd10:=HN10.out
 cases g7:N8 bd.Sent
 ·have HF:=lH (show D3 bd=false from aW2 g7)
  go_enter Tryz.func107,Tryz.ntmps107
  go_wp2_with (first|(go_at_call 101;refine gm (f5) ?_;intro x)|(go_at_call 235;refine gm (U4) ?_;intro x)|(go_at_call 236;refine gm (ag6) ?_;intro x)|(go_at_call 204;refine gm (ab8) ?_;intro x)|(go_at_call 233;refine gm (ah2) ?_;intro x))
  go_ret
  exact b5.mk (by rw[HF.out];rfl)
 have T7:=lH g7
 go_enter Tryz.func107,Tryz.ntmps107
 go_wp2_with (first|(go_at_call 101;refine gm (f5) ?_;intro x)|(go_at_call 235;refine gm (U4) ?_;intro x)|(go_at_call 236;refine gm (ag6) ?_;intro x)|(go_at_call 204;refine gm (ab8) ?_;intro x)|(go_at_call 233;refine gm (ah2) ?_;intro x))
 clear g1 g2 g3 g4 g4b g5 g6 g7 oks hd0 hd1 hd2 hd3 hd4 hd5 hd6 hd7 hd10
 go_loopw [3] (fun v wr=>∃ k:Nat,v=I k∧k≤8∧Hid (M9 bd.Files k (bd.Outs.drop k)=M9 bd.Files 0 bd.Outs)∧∃ X:b7 (w.alloc (.cells #[I bd.Receiver.Expect,.bool bd.Receiver.Locked,.bool bd.Receiver.Again,I bd.Receiver.Taken,I bd.Board.Clock,.slice a0 n0 c0,.bool bd.Board.Safe,.slice a1 n1 c1,.slice a2 n2 c2,.slice a3 n3 c3,I bd.Board.Recorder.Room,.slice a4 n4 c4,.slice a5 n5 c5,I bd.Board.Made,I bd.Board.Taken,.slice a6 n6 c6,I bd.Packer.Channel,I bd.Packer.Count,.string bd.Packer.Rest,.slice a7 n7 c7,I bd.Seq,.slice a8 8 c8,.slice a9 8 c9,I bd.Begun,.slice a10 n10 c10] 88)),wr=X.w) (fun v _=>(8 - intOf v).toNat)
 case atStart=>exact⟨0,rfl,by omega,rfl,b7.of⟩
 case round =>
  obtain⟨k,rfl,hk,HV,X,rfl⟩:=hrel
  by_cases h:k<8
  ·have hkl:k<bd.Outs.length:=by have:=HN9.out;omega
   obtain⟨eb,eoff,es,ea0,ec0,he,ehb,ehd,eq0,eok,eh0,eh1,eh2,eh3⟩:=hs9.atTFileOut hkl
   cases he
   have EOK:=lH eok;clear eok
   obtain⟨fb,foff,fs,hf8,fhb,fhd,fok,fh0⟩:=hs8.atStr (show k<bd.Files.length by have:=HN8.out;omega)
   obtain rfl:=hf8
   have hfs:bd.Files.getD k ByteArray.empty=fs:=by
    have:=congrArg (fun m=>m[0]?) fhd.out
    simp only[List.getElem?_drop,Nat.add_zero,List.getElem?_cons_zero]at this
    simp[List.getD,this]
   have hx3:=hxs fs (ao4 fhd.out)
   have hx1:=(hxo es (ao4 ehd.out)).1
   have hx2:=(hxo es (ao4 ehd.out)).2
   obtain⟨pn,hpn⟩:∃ pn,es.Queue.length=pn:=⟨_,rfl⟩
   rw[hpn]at hx1 eh2
   have HFS:=lH hfs;clear hfs
   clear hkl
   cases d1:decide (600<(fs.size:Int))
   rotate_left
   ·have HF:=lH (show D3 bd=false from ac5 (by have:=HV.out;rw[ehd.out,M9,HFS.out]at this;rw[← this,aE5,d1]<;>rfl))
    go_wp2_with (first|((with_reducible refine rl ?_);(repeat(first|go_big_quiet_step (first|fail)|simp only[d1]));refine wpQuiet_nil ?_;intro x))
    go_ret
    exact b5.mk (by rw[HF.out];rfl)
   cases d2:ai9 es
   ·have HF:=lH (show D3 bd=false from ac5 (by have:=HV.out;rw[ehd.out,M9,HFS.out]at this;rw[← this,aE5,d1,d2]<;>rfl))
    go_wp2_with (first|((with_reducible refine rl ?_);(repeat(first|go_big_quiet_step (first|(go_at_call 237;exact b5.quiet (ab7)))|simp only[d1]|simp only[d2]));refine wpQuiet_nil ?_;intro x)|(go_at_call 237;refine gm (ab7) ?_;intro x))
    go_ret
    exact b5.mk (by rw[HF.out];rfl)
   cases d3:(es.File == (k:Int))
   ·have HF:=lH (show D3 bd=false from ac5 (by have:=HV.out;rw[ehd.out,M9,HFS.out]at this;rw[← this,aE5,d1,d2,d3]<;>rfl))
    have d3b:(es.File != (k:Int))=true:=by rw[bne,d3];rfl
    go_wp2_with (first|((with_reducible refine rl ?_);(repeat(first|go_big_quiet_step (first|(go_at_call 237;exact b5.quiet (ab7)))|simp only[d1]|simp only[d2]|simp only[d3]|simp only[d3b]));refine wpQuiet_nil ?_;intro x)|(go_at_call 237;refine gm (ab7) ?_;intro x))
    go_ret
    exact b5.mk (by rw[HF.out];rfl)
   have d3b:(es.File != (k:Int))=false:=by rw[bne,d3];rfl
   cases d4:(es.Data.toList == fs.toList)
   ·have HF:=lH (show D3 bd=false from ac5 (by have:=HV.out;rw[ehd.out,M9,HFS.out]at this;rw[← this,aE5,d1,d2,d3,d4]<;>rfl))
    have d4b:(es.Data.toList != fs.toList)=true:=by rw[bne,d4];rfl
    go_wp2_with (first|((with_reducible refine rl ?_);(repeat(first|go_big_quiet_step (first|(go_at_call 237;exact b5.quiet (ab7)))|simp only[d1]|simp only[d2]|simp only[d3]|simp only[d3b]|simp only[d4]|simp only[d4b]));refine wpQuiet_nil ?_;intro x)|(go_at_call 237;refine gm (ab7) ?_;intro x))
    go_ret
    exact b5.mk (by rw[HF.out];rfl)
   have d4b:(es.Data.toList != fs.toList)=false:=by rw[bne,d4];rfl
   have HF:=lH (show M9 bd.Files (k+1) (bd.Outs.drop (k+1))=M9 bd.Files 0 bd.Outs by have:=HV.out;rw[ehd.out,M9,HFS.out]at this;rw[← this,aE5,d1,d2,d3,d4]<;>rfl)
   go_wp2_with (first|((with_reducible refine rl ?_);(repeat(first|go_big_quiet_step (first|(go_at_call 237;exact b5.quiet (ab7)))|simp only[d1]|simp only[d2]|simp only[d3]|simp only[d4]|simp only[d3b]|simp only[d4b]));refine wpQuiet_nil ?_;intro x)|(go_at_call 237;refine gm (ab7) ?_;intro x))
   go_roundw
   case rel=>exact⟨k+1,by go_num,by omega,HF,b7.of⟩
   case measure=>simp[intOf];omega
  ·have T10:=lH (show M9 bd.Files 0 bd.Outs=true by have:=HV.out;rw[List.drop_of_length_le (by have:=HN9.out;omega)]at this;rw[← this];rfl)
   clear HV
   go_wp2_with (first|(go_at_call 101;refine gm (f5) ?_;intro x))
   go_ret
   exact b5.mk (by rw[aW5 T1.out T2.out T3.out T4.out T5.out T6.out T7.out T8.out T9.out T10.out];rfl)
theorem bp9{R:World→World→Prop}{Fs:ai2 R}{G:(Nat→Value)→Prop}{val:Nat→Value}(h:G val):ak8 Fs w G [] val:=h
theorem aq0{R:World→World→Prop}{Fs:ai2 R}{G:(Nat→Value)→Prop}{val:Nat→Value}{i:Nat}{r:List Nat}(h:∀ v,(U9 Fs i).p v w→ak8 Fs w G r (upd i v val)):ak8 Fs w G (i::r) val:=h

