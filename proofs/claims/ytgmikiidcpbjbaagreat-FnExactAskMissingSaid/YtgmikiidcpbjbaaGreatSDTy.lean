/- The structs of the mission: what their cells read as. No condition but on sizes. -/
import Derived.Test.YtgmikiidcpbjbaaGreatSM4
namespace Go.Proofs.YtgmikiidcpbjbaaGreat
set_option linter.unusedVariables false
open Go.ChangeShapes Go.WideShapes Go.ChangeAt Go.RowKit
theorem RdS.atInt{B:Nat}{w:World}{a:Option Addr}{c:Nat}{l:List Int}(h:RdS B w a c l){k:Nat}(hk:k<l.length) :
  ∃ b off x,a=some ⟨b,off,none⟩∧LtN b w.heap.size∧Hid (l.drop k=x::l.drop (k+1))∧i64 x∧(∀ (W:World) [Grows w W],W.cell? ⟨b,off+k,none⟩=some (.int .i64 x)):=by
 obtain⟨b,off,x,vs,h0,h1,h2,⟨rfl,q⟩,hc⟩:=h.at hk
 have:=hc 0 _ rfl
 rw[show off+k*Enc.size Int+0=off+k from by rw[show Enc.size Int=1 from rfl];omega]at this
 exact⟨b,off,x,h0,h1,h2,q,cell_grown h1.out this⟩
theorem RdS.atBool{B:Nat}{w:World}{a:Option Addr}{c:Nat}{l:List Bool}(h:RdS B w a c l){k:Nat}(hk:k<l.length) :
  ∃ b off x,a=some ⟨b,off,none⟩∧LtN b w.heap.size∧Hid (l.drop k=x::l.drop (k+1))∧(∀ (W:World) [Grows w W],W.cell? ⟨b,off+k,none⟩=some (.bool x)):=by
 obtain⟨b,off,x,vs,h0,h1,h2,rfl,hc⟩:=h.at hk
 have:=hc 0 _ rfl
 rw[show off+k*Enc.size Bool+0=off+k from by rw[show Enc.size Bool=1 from rfl];omega]at this
 exact⟨b,off,x,h0,h1,h2,cell_grown h1.out this⟩
theorem RdS.atStr{B:Nat}{w:World}{a:Option Addr}{c:Nat}{l:List ByteArray}(h:RdS B w a c l){k:Nat}(hk:k<l.length) :
  ∃ b off x,a=some ⟨b,off,none⟩∧LtN b w.heap.size∧Hid (l.drop k=x::l.drop (k+1))∧x.size≤9223372036854775807∧(∀ (W:World) [Grows w W],W.cell? ⟨b,off+k,none⟩=some (.string x)):=by
 obtain⟨b,off,x,vs,h0,h1,h2,⟨rfl,q⟩,hc⟩:=h.at hk
 have:=hc 0 _ rfl
 rw[show off+k*Enc.size ByteArray+0=off+k from by rw[show Enc.size ByteArray=1 from rfl];omega]at this
 exact⟨b,off,x,h0,h1,h2,q,cell_grown h1.out this⟩
structure TChannel where
 Seed:Int
 Burst:Int
 Loss:Int
def okDTChannel(x:TChannel):Prop:=i64 x.Seed∧i64 x.Burst∧i64 x.Loss∧True
instance:Enc TChannel where
 size:=3
 Rd B w vs x:=vs=[.int .i64 x.Seed,.int .i64 x.Burst,.int .i64 x.Loss]∧okDTChannel x
 len:=by rintro _ _ _ _ ⟨rfl,hok⟩;rfl
 keep:=by rintro _ _ _ _ _ ⟨rfl,hok⟩ g;exact⟨rfl,hok⟩
 mono:=by rintro _ _ _ _ _ ⟨rfl,hok⟩ g;exact⟨rfl,hok⟩
 tot x:=0
 tot_nonneg x:=by exact Int.le_refl _
structure TPacker where
 Channel:Int
 Count:Int
 Rest:ByteArray
 Starts:List Int
def okDTPacker(x:TPacker):Prop:=i64 x.Channel∧i64 x.Count∧x.Rest.size≤9223372036854775807∧True
instance:Enc TPacker where
 size:=4
 Rd B w vs x:=∃ (a0:Option Addr) (c0:Nat),vs=[.int .i64 x.Channel,.int .i64 x.Count,.string x.Rest,.slice a0 x.Starts.length c0]∧RdS B w a0 c0 x.Starts∧okDTPacker x
 len:=by rintro _ _ _ _ ⟨a0,c0,rfl,q0,hok⟩;rfl
 keep:=by rintro _ _ _ _ _ ⟨a0,c0,rfl,q0,hok⟩ g;exact⟨a0,c0,rfl,q0.keep g,hok⟩
 mono:=by rintro _ _ _ _ _ ⟨a0,c0,rfl,q0,hok⟩ g;exact⟨a0,c0,rfl,q0.mono g,hok⟩
 tot x:=(x.Rest.size:Int)+totL x.Starts
 tot_nonneg x:=by have h0:=totL_nonneg x.Starts;omega
structure TUnpacker where
 Channel:Int
 Next:Int
 Synced:Bool
 Rest:ByteArray
 Lost:Int
def okDTUnpacker(x:TUnpacker):Prop:=i64 x.Channel∧i64 x.Next∧x.Rest.size≤9223372036854775807∧i64 x.Lost∧True
instance:Enc TUnpacker where
 size:=5
 Rd B w vs x:=vs=[.int .i64 x.Channel,.int .i64 x.Next,.bool x.Synced,.string x.Rest,.int .i64 x.Lost]∧okDTUnpacker x
 len:=by rintro _ _ _ _ ⟨rfl,hok⟩;rfl
 keep:=by rintro _ _ _ _ _ ⟨rfl,hok⟩ g;exact⟨rfl,hok⟩
 mono:=by rintro _ _ _ _ _ ⟨rfl,hok⟩ g;exact⟨rfl,hok⟩
 tot x:=(x.Rest.size:Int)
 tot_nonneg x:=by omega
structure TSent where
 Seq:Int
 Data:ByteArray
def okDTSent(x:TSent):Prop:=i64 x.Seq∧x.Data.size≤9223372036854775807∧True
instance:Enc TSent where
 size:=2
 Rd B w vs x:=vs=[.int .i64 x.Seq,.string x.Data]∧okDTSent x
 len:=by rintro _ _ _ _ ⟨rfl,hok⟩;rfl
 keep:=by rintro _ _ _ _ _ ⟨rfl,hok⟩ g;exact⟨rfl,hok⟩
 mono:=by rintro _ _ _ _ _ ⟨rfl,hok⟩ g;exact⟨rfl,hok⟩
 tot x:=(x.Data.size:Int)
 tot_nonneg x:=by omega
theorem RdS.atTSent{B:Nat}{w:World}{a:Option Addr}{c:Nat}{l:List TSent}(h:RdS B w a c l){k:Nat}(hk:k<l.length) :
  ∃ b off x,a=some ⟨b,off,none⟩∧LtN b w.heap.size∧Hid (l.drop k=x::l.drop (k+1))∧okDTSent x∧(∀ (W:World) [Grows w W],W.cell? ⟨b,off+k*2,none⟩=some (.int .i64 x.Seq))∧(∀ (W:World) [Grows w W],W.cell? ⟨b,off+k*2+1,none⟩=some (.string x.Data)):=by
 obtain⟨b,off,x,vs,h0,h1,h2,⟨rfl,hok⟩,hc⟩:=h.at hk
 exact⟨b,off,x,h0,h1,h2,hok,cell_grown h1.out (hc 0 _ rfl),cell_grown h1.out (hc 1 _ rfl)⟩
structure TSender where
 Next:Int
 Window:Int
 Waiting:List TSent
 Done:Int
def okDTSender(x:TSender):Prop:=i64 x.Next∧i64 x.Window∧i64 x.Done∧True
instance:Enc TSender where
 size:=4
 Rd B w vs x:=∃ (a0:Option Addr) (c0:Nat),vs=[.int .i64 x.Next,.int .i64 x.Window,.slice a0 x.Waiting.length c0,.int .i64 x.Done]∧RdS B w a0 c0 x.Waiting∧okDTSender x
 len:=by rintro _ _ _ _ ⟨a0,c0,rfl,q0,hok⟩;rfl
 keep:=by rintro _ _ _ _ _ ⟨a0,c0,rfl,q0,hok⟩ g;exact⟨a0,c0,rfl,q0.keep g,hok⟩
 mono:=by rintro _ _ _ _ _ ⟨a0,c0,rfl,q0,hok⟩ g;exact⟨a0,c0,rfl,q0.mono g,hok⟩
 tot x:=totL x.Waiting
 tot_nonneg x:=by have h0:=totL_nonneg x.Waiting;omega
structure TReceiver where
 Expect:Int
 Locked:Bool
 Again:Bool
 Taken:Int
def okDTReceiver(x:TReceiver):Prop:=i64 x.Expect∧i64 x.Taken∧True
instance:Enc TReceiver where
 size:=4
 Rd B w vs x:=vs=[.int .i64 x.Expect,.bool x.Locked,.bool x.Again,.int .i64 x.Taken]∧okDTReceiver x
 len:=by rintro _ _ _ _ ⟨rfl,hok⟩;rfl
 keep:=by rintro _ _ _ _ _ ⟨rfl,hok⟩ g;exact⟨rfl,hok⟩
 mono:=by rintro _ _ _ _ _ ⟨rfl,hok⟩ g;exact⟨rfl,hok⟩
 tot x:=0
 tot_nonneg x:=by exact Int.le_refl _
structure TNotice where
 Expect:Int
 Locked:Bool
 Again:Bool
def okDTNotice(x:TNotice):Prop:=i64 x.Expect∧True
instance:Enc TNotice where
 size:=3
 Rd B w vs x:=vs=[.int .i64 x.Expect,.bool x.Locked,.bool x.Again]∧okDTNotice x
 len:=by rintro _ _ _ _ ⟨rfl,hok⟩;rfl
 keep:=by rintro _ _ _ _ _ ⟨rfl,hok⟩ g;exact⟨rfl,hok⟩
 mono:=by rintro _ _ _ _ _ ⟨rfl,hok⟩ g;exact⟨rfl,hok⟩
 tot x:=0
 tot_nonneg x:=by exact Int.le_refl _
structure TOrder where
 Kind:Int
 At:Int
 A:Int
 B:Int
def okDTOrder(x:TOrder):Prop:=i64 x.Kind∧i64 x.At∧i64 x.A∧i64 x.B∧True
instance:Enc TOrder where
 size:=4
 Rd B w vs x:=vs=[.int .i64 x.Kind,.int .i64 x.At,.int .i64 x.A,.int .i64 x.B]∧okDTOrder x
 len:=by rintro _ _ _ _ ⟨rfl,hok⟩;rfl
 keep:=by rintro _ _ _ _ _ ⟨rfl,hok⟩ g;exact⟨rfl,hok⟩
 mono:=by rintro _ _ _ _ _ ⟨rfl,hok⟩ g;exact⟨rfl,hok⟩
 tot x:=0
 tot_nonneg x:=by exact Int.le_refl _
structure TRecord where
 Id:Int
 Priority:Int
 Time:Int
 Data:ByteArray
def okDTRecord(x:TRecord):Prop:=i64 x.Id∧i64 x.Priority∧i64 x.Time∧x.Data.size≤9223372036854775807∧True
instance:Enc TRecord where
 size:=4
 Rd B w vs x:=vs=[.int .i64 x.Id,.int .i64 x.Priority,.int .i64 x.Time,.string x.Data]∧okDTRecord x
 len:=by rintro _ _ _ _ ⟨rfl,hok⟩;rfl
 keep:=by rintro _ _ _ _ _ ⟨rfl,hok⟩ g;exact⟨rfl,hok⟩
 mono:=by rintro _ _ _ _ _ ⟨rfl,hok⟩ g;exact⟨rfl,hok⟩
 tot x:=(x.Data.size:Int)
 tot_nonneg x:=by omega
theorem RdS.atTRecord{B:Nat}{w:World}{a:Option Addr}{c:Nat}{l:List TRecord}(h:RdS B w a c l){k:Nat}(hk:k<l.length) :
  ∃ b off x,a=some ⟨b,off,none⟩∧LtN b w.heap.size∧Hid (l.drop k=x::l.drop (k+1))∧okDTRecord x∧(∀ (W:World) [Grows w W],W.cell? ⟨b,off+k*4,none⟩=some (.int .i64 x.Id))∧(∀ (W:World) [Grows w W],W.cell? ⟨b,off+k*4+1,none⟩=some (.int .i64 x.Priority))∧(∀ (W:World) [Grows w W],W.cell? ⟨b,off+k*4+2,none⟩=some (.int .i64 x.Time))∧(∀ (W:World) [Grows w W],W.cell? ⟨b,off+k*4+3,none⟩=some (.string x.Data)):=by
 obtain⟨b,off,x,vs,h0,h1,h2,⟨rfl,hok⟩,hc⟩:=h.at hk
 exact⟨b,off,x,h0,h1,h2,hok,cell_grown h1.out (hc 0 _ rfl),cell_grown h1.out (hc 1 _ rfl),cell_grown h1.out (hc 2 _ rfl),cell_grown h1.out (hc 3 _ rfl)⟩
structure TRecorder where
 Room:Int
 Records:List TRecord
 Dropped:List Int
def okDTRecorder(x:TRecorder):Prop:=i64 x.Room∧True
instance:Enc TRecorder where
 size:=3
 Rd B w vs x:=∃ (a0:Option Addr) (c0:Nat),∃ (a1:Option Addr) (c1:Nat),vs=[.int .i64 x.Room,.slice a0 x.Records.length c0,.slice a1 x.Dropped.length c1]∧RdS B w a0 c0 x.Records∧RdS B w a1 c1 x.Dropped∧okDTRecorder x
 len:=by rintro _ _ _ _ ⟨a0,c0,a1,c1,rfl,q0,q1,hok⟩;rfl
 keep:=by rintro _ _ _ _ _ ⟨a0,c0,a1,c1,rfl,q0,q1,hok⟩ g;exact⟨a0,c0,a1,c1,rfl,q0.keep g,q1.keep g,hok⟩
 mono:=by rintro _ _ _ _ _ ⟨a0,c0,a1,c1,rfl,q0,q1,hok⟩ g;exact⟨a0,c0,a1,c1,rfl,q0.mono g,q1.mono g,hok⟩
 tot x:=totL x.Records+totL x.Dropped
 tot_nonneg x:=by have h0:=totL_nonneg x.Records;have h1:=totL_nonneg x.Dropped;omega
structure TLimit where
 Param:Int
 Low:Int
 High:Int
def okDTLimit(x:TLimit):Prop:=i64 x.Param∧i64 x.Low∧i64 x.High∧True
instance:Enc TLimit where
 size:=3
 Rd B w vs x:=vs=[.int .i64 x.Param,.int .i64 x.Low,.int .i64 x.High]∧okDTLimit x
 len:=by rintro _ _ _ _ ⟨rfl,hok⟩;rfl
 keep:=by rintro _ _ _ _ _ ⟨rfl,hok⟩ g;exact⟨rfl,hok⟩
 mono:=by rintro _ _ _ _ _ ⟨rfl,hok⟩ g;exact⟨rfl,hok⟩
 tot x:=0
 tot_nonneg x:=by exact Int.le_refl _
theorem RdS.atTLimit{B:Nat}{w:World}{a:Option Addr}{c:Nat}{l:List TLimit}(h:RdS B w a c l){k:Nat}(hk:k<l.length) :
  ∃ b off x,a=some ⟨b,off,none⟩∧LtN b w.heap.size∧Hid (l.drop k=x::l.drop (k+1))∧okDTLimit x∧(∀ (W:World) [Grows w W],W.cell? ⟨b,off+k*3,none⟩=some (.int .i64 x.Param))∧(∀ (W:World) [Grows w W],W.cell? ⟨b,off+k*3+1,none⟩=some (.int .i64 x.Low))∧(∀ (W:World) [Grows w W],W.cell? ⟨b,off+k*3+2,none⟩=some (.int .i64 x.High)):=by
 obtain⟨b,off,x,vs,h0,h1,h2,⟨rfl,hok⟩,hc⟩:=h.at hk
 exact⟨b,off,x,h0,h1,h2,hok,cell_grown h1.out (hc 0 _ rfl),cell_grown h1.out (hc 1 _ rfl),cell_grown h1.out (hc 2 _ rfl)⟩
structure TWaiting where
 Number:Int
 Order:TOrder
def okDTWaiting(x:TWaiting):Prop:=i64 x.Number∧okDTOrder x.Order∧True
instance:Enc TWaiting where
 size:=5
 Rd B w vs x:=vs=[.int .i64 x.Number,.int .i64 x.Order.Kind,.int .i64 x.Order.At,.int .i64 x.Order.A,.int .i64 x.Order.B]∧okDTWaiting x
 len:=by rintro _ _ _ _ ⟨rfl,hok⟩;rfl
 keep:=by rintro _ _ _ _ _ ⟨rfl,hok⟩ g;exact⟨rfl,hok⟩
 mono:=by rintro _ _ _ _ _ ⟨rfl,hok⟩ g;exact⟨rfl,hok⟩
 tot x:=0
 tot_nonneg x:=by exact Int.le_refl _
theorem RdS.atTWaiting{B:Nat}{w:World}{a:Option Addr}{c:Nat}{l:List TWaiting}(h:RdS B w a c l){k:Nat}(hk:k<l.length) :
  ∃ b off x,a=some ⟨b,off,none⟩∧LtN b w.heap.size∧Hid (l.drop k=x::l.drop (k+1))∧okDTWaiting x∧(∀ (W:World) [Grows w W],W.cell? ⟨b,off+k*5,none⟩=some (.int .i64 x.Number))∧(∀ (W:World) [Grows w W],W.cell? ⟨b,off+k*5+1,none⟩=some (.int .i64 x.Order.Kind))∧(∀ (W:World) [Grows w W],W.cell? ⟨b,off+k*5+2,none⟩=some (.int .i64 x.Order.At))∧(∀ (W:World) [Grows w W],W.cell? ⟨b,off+k*5+3,none⟩=some (.int .i64 x.Order.A))∧(∀ (W:World) [Grows w W],W.cell? ⟨b,off+k*5+4,none⟩=some (.int .i64 x.Order.B)):=by
 obtain⟨b,off,x,vs,h0,h1,h2,⟨rfl,hok⟩,hc⟩:=h.at hk
 exact⟨b,off,x,h0,h1,h2,hok,cell_grown h1.out (hc 0 _ rfl),cell_grown h1.out (hc 1 _ rfl),cell_grown h1.out (hc 2 _ rfl),cell_grown h1.out (hc 3 _ rfl),cell_grown h1.out (hc 4 _ rfl)⟩
structure TDone where
 Number:Int
 Time:Int
 Result:Int
def okDTDone(x:TDone):Prop:=i64 x.Number∧i64 x.Time∧i64 x.Result∧True
instance:Enc TDone where
 size:=3
 Rd B w vs x:=vs=[.int .i64 x.Number,.int .i64 x.Time,.int .i64 x.Result]∧okDTDone x
 len:=by rintro _ _ _ _ ⟨rfl,hok⟩;rfl
 keep:=by rintro _ _ _ _ _ ⟨rfl,hok⟩ g;exact⟨rfl,hok⟩
 mono:=by rintro _ _ _ _ _ ⟨rfl,hok⟩ g;exact⟨rfl,hok⟩
 tot x:=0
 tot_nonneg x:=by exact Int.le_refl _
theorem RdS.atTDone{B:Nat}{w:World}{a:Option Addr}{c:Nat}{l:List TDone}(h:RdS B w a c l){k:Nat}(hk:k<l.length) :
  ∃ b off x,a=some ⟨b,off,none⟩∧LtN b w.heap.size∧Hid (l.drop k=x::l.drop (k+1))∧okDTDone x∧(∀ (W:World) [Grows w W],W.cell? ⟨b,off+k*3,none⟩=some (.int .i64 x.Number))∧(∀ (W:World) [Grows w W],W.cell? ⟨b,off+k*3+1,none⟩=some (.int .i64 x.Time))∧(∀ (W:World) [Grows w W],W.cell? ⟨b,off+k*3+2,none⟩=some (.int .i64 x.Result)):=by
 obtain⟨b,off,x,vs,h0,h1,h2,⟨rfl,hok⟩,hc⟩:=h.at hk
 exact⟨b,off,x,h0,h1,h2,hok,cell_grown h1.out (hc 0 _ rfl),cell_grown h1.out (hc 1 _ rfl),cell_grown h1.out (hc 2 _ rfl)⟩
structure TBoard where
 Clock:Int
 Params:List Int
 Safe:Bool
 Limits:List TLimit
 Orders:List TWaiting
 Done:List TDone
 Recorder:TRecorder
 Made:Int
 Taken:Int
 Asked:List Int
abbrev cBoard(x:TBoard)(a0:Option Addr)(c0:Nat)(a1:Option Addr)(c1:Nat)(a2:Option Addr)(c2:Nat)(a3:Option Addr)(c3:Nat)(a4:Option Addr)(c4:Nat)(a5:Option Addr)(c5:Nat)(a6:Option Addr)(c6:Nat):List Value:=[.int .i64 x.Clock,.slice a0 x.Params.length c0,.bool x.Safe,.slice a1 x.Limits.length c1,.slice a2 x.Orders.length c2,.slice a3 x.Done.length c3,.int .i64 x.Recorder.Room,.slice a4 x.Recorder.Records.length c4,.slice a5 x.Recorder.Dropped.length c5,.int .i64 x.Made,.int .i64 x.Taken,.slice a6 x.Asked.length c6]
abbrev zBoard:List Value:=[.int .i64 0,.slice none 0 0,.bool false,.slice none 0 0,.slice none 0 0,.slice none 0 0,.int .i64 0,.slice none 0 0,.slice none 0 0,.int .i64 0,.int .i64 0,.slice none 0 0]
def okDTBoard(x:TBoard):Prop:=i64 x.Clock∧okDTRecorder x.Recorder∧i64 x.Made∧i64 x.Taken∧True
structure TBoardA where
 a0:Option Addr
 c0:Nat
 a1:Option Addr
 c1:Nat
 a2:Option Addr
 c2:Nat
 a3:Option Addr
 c3:Nat
 a4:Option Addr
 c4:Nat
 a5:Option Addr
 c5:Nat
 a6:Option Addr
 c6:Nat
abbrev dBoard(x:TBoard)(A:TBoardA):List Value:=cBoard x A.a0 A.c0 A.a1 A.c1 A.a2 A.c2 A.a3 A.c3 A.a4 A.c4 A.a5 A.c5 A.a6 A.c6
structure TBoardF(B:Nat)(w:World)(A:TBoardA)(x:TBoard):Prop where
 q0:RdS B w A.a0 A.c0 x.Params
 q1:RdS B w A.a1 A.c1 x.Limits
 q2:RdS B w A.a2 A.c2 x.Orders
 q3:RdS B w A.a3 A.c3 x.Done
 q4:RdS B w A.a4 A.c4 x.Recorder.Records
 q5:RdS B w A.a5 A.c5 x.Recorder.Dropped
 q6:RdS B w A.a6 A.c6 x.Asked
 ok:okDTBoard x
theorem TBoardF.keep{B:Nat}{w w2:World}{A:TBoardA}{x:TBoard}(h:TBoardF B w A x)(g:Keeps B w w2):TBoardF B w2 A x:=⟨h.q0.keep g,h.q1.keep g,h.q2.keep g,h.q3.keep g,h.q4.keep g,h.q5.keep g,h.q6.keep g,h.ok⟩
theorem TBoardF.mono{B B2:Nat}{w:World}{A:TBoardA}{x:TBoard}(h:TBoardF B w A x)(g:B2≤B):TBoardF B2 w A x:=⟨h.q0.mono g,h.q1.mono g,h.q2.mono g,h.q3.mono g,h.q4.mono g,h.q5.mono g,h.q6.mono g,h.ok⟩
instance:Enc TBoard where
 size:=12
 Rd B w vs x:=∃ A:TBoardA,vs=[.int .i64 x.Clock,.slice A.a0 x.Params.length A.c0,.bool x.Safe,.slice A.a1 x.Limits.length A.c1,.slice A.a2 x.Orders.length A.c2,.slice A.a3 x.Done.length A.c3,.int .i64 x.Recorder.Room,.slice A.a4 x.Recorder.Records.length A.c4,.slice A.a5 x.Recorder.Dropped.length A.c5,.int .i64 x.Made,.int .i64 x.Taken,.slice A.a6 x.Asked.length A.c6]∧TBoardF B w A x
 len:=by rintro _ _ _ _ ⟨A,h,F⟩;rw[h];rfl
 keep:=by rintro _ _ _ _ _ ⟨A,h,F⟩ g;exact⟨A,h,F.keep g⟩
 mono:=by rintro _ _ _ _ _ ⟨A,h,F⟩ g;exact⟨A,h,F.mono g⟩
 tot x:=totL x.Params+totL x.Limits+totL x.Orders+totL x.Done+Enc.tot x.Recorder+totL x.Asked
 tot_nonneg x:=by have h0:=totL_nonneg x.Params;have h1:=totL_nonneg x.Limits;have h2:=totL_nonneg x.Orders;have h3:=totL_nonneg x.Done;have h4:=Enc.tot_nonneg x.Recorder;have h5:=totL_nonneg x.Asked;omega
structure TFileIn where
 File:Int
 Size:Int
 Check:Int
 Parts:List ByteArray
def okDTFileIn(x:TFileIn):Prop:=i64 x.File∧i64 x.Size∧i64 x.Check∧True
instance:Enc TFileIn where
 size:=4
 Rd B w vs x:=∃ (a0:Option Addr) (c0:Nat),vs=[.int .i64 x.File,.int .i64 x.Size,.int .i64 x.Check,.slice a0 x.Parts.length c0]∧RdS B w a0 c0 x.Parts∧okDTFileIn x
 len:=by rintro _ _ _ _ ⟨a0,c0,rfl,q0,hok⟩;rfl
 keep:=by rintro _ _ _ _ _ ⟨a0,c0,rfl,q0,hok⟩ g;exact⟨a0,c0,rfl,q0.keep g,hok⟩
 mono:=by rintro _ _ _ _ _ ⟨a0,c0,rfl,q0,hok⟩ g;exact⟨a0,c0,rfl,q0.mono g,hok⟩
 tot x:=totL x.Parts
 tot_nonneg x:=by have h0:=totL_nonneg x.Parts;omega
theorem RdS.atTFileIn{B:Nat}{w:World}{a:Option Addr}{c:Nat}{l:List TFileIn}(h:RdS B w a c l){k:Nat}(hk:k<l.length) :
  ∃ b off x,∃ (a0:Option Addr) (c0:Nat),a=some ⟨b,off,none⟩∧LtN b w.heap.size∧Hid (l.drop k=x::l.drop (k+1))∧RdS B w a0 c0 x.Parts∧okDTFileIn x∧(∀ (W:World) [Grows w W],W.cell? ⟨b,off+k*4,none⟩=some (.int .i64 x.File))∧(∀ (W:World) [Grows w W],W.cell? ⟨b,off+k*4+1,none⟩=some (.int .i64 x.Size))∧(∀ (W:World) [Grows w W],W.cell? ⟨b,off+k*4+2,none⟩=some (.int .i64 x.Check))∧(∀ (W:World) [Grows w W],W.cell? ⟨b,off+k*4+3,none⟩=some (.slice a0 x.Parts.length c0)):=by
 obtain⟨b,off,x,vs,h0,h1,h2,⟨a0,c0,rfl,q0,hok⟩,hc⟩:=h.at hk
 exact⟨b,off,x,a0,c0,h0,h1,h2,q0,hok,cell_grown h1.out (hc 0 _ rfl),cell_grown h1.out (hc 1 _ rfl),cell_grown h1.out (hc 2 _ rfl),cell_grown h1.out (hc 3 _ rfl)⟩
structure TFileOut where
 File:Int
 Data:ByteArray
 Queue:List Int
 Done:Bool
def okDTFileOut(x:TFileOut):Prop:=i64 x.File∧x.Data.size≤9223372036854775807∧True
instance:Enc TFileOut where
 size:=4
 Rd B w vs x:=∃ (a0:Option Addr) (c0:Nat),vs=[.int .i64 x.File,.string x.Data,.slice a0 x.Queue.length c0,.bool x.Done]∧RdS B w a0 c0 x.Queue∧okDTFileOut x
 len:=by rintro _ _ _ _ ⟨a0,c0,rfl,q0,hok⟩;rfl
 keep:=by rintro _ _ _ _ _ ⟨a0,c0,rfl,q0,hok⟩ g;exact⟨a0,c0,rfl,q0.keep g,hok⟩
 mono:=by rintro _ _ _ _ _ ⟨a0,c0,rfl,q0,hok⟩ g;exact⟨a0,c0,rfl,q0.mono g,hok⟩
 tot x:=(x.Data.size:Int)+totL x.Queue
 tot_nonneg x:=by have h0:=totL_nonneg x.Queue;omega
theorem RdS.atTFileOut{B:Nat}{w:World}{a:Option Addr}{c:Nat}{l:List TFileOut}(h:RdS B w a c l){k:Nat}(hk:k<l.length) :
  ∃ b off x,∃ (a0:Option Addr) (c0:Nat),a=some ⟨b,off,none⟩∧LtN b w.heap.size∧Hid (l.drop k=x::l.drop (k+1))∧RdS B w a0 c0 x.Queue∧okDTFileOut x∧(∀ (W:World) [Grows w W],W.cell? ⟨b,off+k*4,none⟩=some (.int .i64 x.File))∧(∀ (W:World) [Grows w W],W.cell? ⟨b,off+k*4+1,none⟩=some (.string x.Data))∧(∀ (W:World) [Grows w W],W.cell? ⟨b,off+k*4+2,none⟩=some (.slice a0 x.Queue.length c0))∧(∀ (W:World) [Grows w W],W.cell? ⟨b,off+k*4+3,none⟩=some (.bool x.Done)):=by
 obtain⟨b,off,x,vs,h0,h1,h2,⟨a0,c0,rfl,q0,hok⟩,hc⟩:=h.at hk
 exact⟨b,off,x,a0,c0,h0,h1,h2,q0,hok,cell_grown h1.out (hc 0 _ rfl),cell_grown h1.out (hc 1 _ rfl),cell_grown h1.out (hc 2 _ rfl),cell_grown h1.out (hc 3 _ rfl)⟩
structure TDrift where
 Rate:Int
 Offset:Int
def okDTDrift(x:TDrift):Prop:=i64 x.Rate∧i64 x.Offset∧True
instance:Enc TDrift where
 size:=2
 Rd B w vs x:=vs=[.int .i64 x.Rate,.int .i64 x.Offset]∧okDTDrift x
 len:=by rintro _ _ _ _ ⟨rfl,hok⟩;rfl
 keep:=by rintro _ _ _ _ _ ⟨rfl,hok⟩ g;exact⟨rfl,hok⟩
 mono:=by rintro _ _ _ _ _ ⟨rfl,hok⟩ g;exact⟨rfl,hok⟩
 tot x:=0
 tot_nonneg x:=by exact Int.le_refl _
def okDPair(x:Pair):Prop:=i64 x.Board∧i64 x.True∧True
instance:Enc Pair where
 size:=2
 Rd B w vs x:=vs=[.int .i64 x.Board,.int .i64 x.True]∧okDPair x
 len:=by rintro _ _ _ _ ⟨rfl,hok⟩;rfl
 keep:=by rintro _ _ _ _ _ ⟨rfl,hok⟩ g;exact⟨rfl,hok⟩
 mono:=by rintro _ _ _ _ _ ⟨rfl,hok⟩ g;exact⟨rfl,hok⟩
 tot x:=0
 tot_nonneg x:=by exact Int.le_refl _
theorem RdS.atPair{B:Nat}{w:World}{a:Option Addr}{c:Nat}{l:List Pair}(h:RdS B w a c l){k:Nat}(hk:k<l.length) :
  ∃ b off x,a=some ⟨b,off,none⟩∧LtN b w.heap.size∧Hid (l.drop k=x::l.drop (k+1))∧okDPair x∧(∀ (W:World) [Grows w W],W.cell? ⟨b,off+k*2,none⟩=some (.int .i64 x.Board))∧(∀ (W:World) [Grows w W],W.cell? ⟨b,off+k*2+1,none⟩=some (.int .i64 x.True)):=by
 obtain⟨b,off,x,vs,h0,h1,h2,⟨rfl,hok⟩,hc⟩:=h.at hk
 exact⟨b,off,x,h0,h1,h2,hok,cell_grown h1.out (hc 0 _ rfl),cell_grown h1.out (hc 1 _ rfl)⟩
structure TOrbit where
 Period:Int
 Start:Int
 Length:Int
def okDTOrbit(x:TOrbit):Prop:=i64 x.Period∧i64 x.Start∧i64 x.Length∧True
instance:Enc TOrbit where
 size:=3
 Rd B w vs x:=vs=[.int .i64 x.Period,.int .i64 x.Start,.int .i64 x.Length]∧okDTOrbit x
 len:=by rintro _ _ _ _ ⟨rfl,hok⟩;rfl
 keep:=by rintro _ _ _ _ _ ⟨rfl,hok⟩ g;exact⟨rfl,hok⟩
 mono:=by rintro _ _ _ _ _ ⟨rfl,hok⟩ g;exact⟨rfl,hok⟩
 tot x:=0
 tot_nonneg x:=by exact Int.le_refl _
def okDSlot(x:Slot):Prop:=i64 x.Time∧i64 x.Id∧True
instance:Enc Slot where
 size:=2
 Rd B w vs x:=vs=[.int .i64 x.Time,.int .i64 x.Id]∧okDSlot x
 len:=by rintro _ _ _ _ ⟨rfl,hok⟩;rfl
 keep:=by rintro _ _ _ _ _ ⟨rfl,hok⟩ g;exact⟨rfl,hok⟩
 mono:=by rintro _ _ _ _ _ ⟨rfl,hok⟩ g;exact⟨rfl,hok⟩
 tot x:=0
 tot_nonneg x:=by exact Int.le_refl _
theorem RdS.atSlot{B:Nat}{w:World}{a:Option Addr}{c:Nat}{l:List Slot}(h:RdS B w a c l){k:Nat}(hk:k<l.length) :
  ∃ b off x,a=some ⟨b,off,none⟩∧LtN b w.heap.size∧Hid (l.drop k=x::l.drop (k+1))∧okDSlot x∧(∀ (W:World) [Grows w W],W.cell? ⟨b,off+k*2,none⟩=some (.int .i64 x.Time))∧(∀ (W:World) [Grows w W],W.cell? ⟨b,off+k*2+1,none⟩=some (.int .i64 x.Id)):=by
 obtain⟨b,off,x,vs,h0,h1,h2,⟨rfl,hok⟩,hc⟩:=h.at hk
 exact⟨b,off,x,h0,h1,h2,hok,cell_grown h1.out (hc 0 _ rfl),cell_grown h1.out (hc 1 _ rfl)⟩
structure TFlight where
 At:Int
 Data:ByteArray
def okDTFlight(x:TFlight):Prop:=i64 x.At∧x.Data.size≤9223372036854775807∧True
instance:Enc TFlight where
 size:=2
 Rd B w vs x:=vs=[.int .i64 x.At,.string x.Data]∧okDTFlight x
 len:=by rintro _ _ _ _ ⟨rfl,hok⟩;rfl
 keep:=by rintro _ _ _ _ _ ⟨rfl,hok⟩ g;exact⟨rfl,hok⟩
 mono:=by rintro _ _ _ _ _ ⟨rfl,hok⟩ g;exact⟨rfl,hok⟩
 tot x:=(x.Data.size:Int)
 tot_nonneg x:=by omega
theorem RdS.atTFlight{B:Nat}{w:World}{a:Option Addr}{c:Nat}{l:List TFlight}(h:RdS B w a c l){k:Nat}(hk:k<l.length) :
  ∃ b off x,a=some ⟨b,off,none⟩∧LtN b w.heap.size∧Hid (l.drop k=x::l.drop (k+1))∧okDTFlight x∧(∀ (W:World) [Grows w W],W.cell? ⟨b,off+k*2,none⟩=some (.int .i64 x.At))∧(∀ (W:World) [Grows w W],W.cell? ⟨b,off+k*2+1,none⟩=some (.string x.Data)):=by
 obtain⟨b,off,x,vs,h0,h1,h2,⟨rfl,hok⟩,hc⟩:=h.at hk
 exact⟨b,off,x,h0,h1,h2,hok,cell_grown h1.out (hc 0 _ rfl),cell_grown h1.out (hc 1 _ rfl)⟩
structure TGround where
 Offers:List ByteArray
 Sender:TSender
 Notice:TNotice
 Unpacker:TUnpacker
 Pairs:List Pair
 Records:List TRecord
 Files:List TFileIn
 Told:List Bool
abbrev cGround(x:TGround)(a0:Option Addr)(c0:Nat)(a1:Option Addr)(c1:Nat)(a2:Option Addr)(c2:Nat)(a3:Option Addr)(c3:Nat)(a4:Option Addr)(c4:Nat)(a5:Option Addr)(c5:Nat):List Value:=[.slice a0 x.Offers.length c0,.int .i64 x.Sender.Next,.int .i64 x.Sender.Window,.slice a1 x.Sender.Waiting.length c1,.int .i64 x.Sender.Done,.int .i64 x.Notice.Expect,.bool x.Notice.Locked,.bool x.Notice.Again,.int .i64 x.Unpacker.Channel,.int .i64 x.Unpacker.Next,.bool x.Unpacker.Synced,.string x.Unpacker.Rest,.int .i64 x.Unpacker.Lost,.slice a2 x.Pairs.length c2,.slice a3 x.Records.length c3,.slice a4 x.Files.length c4,.slice a5 x.Told.length c5]
abbrev zGround:List Value:=[.slice none 0 0,.int .i64 0,.int .i64 0,.slice none 0 0,.int .i64 0,.int .i64 0,.bool false,.bool false,.int .i64 0,.int .i64 0,.bool false,.string ⟨#[]⟩,.int .i64 0,.slice none 0 0,.slice none 0 0,.slice none 0 0,.slice none 0 0]
def okDTGround(x:TGround):Prop:=okDTSender x.Sender∧okDTNotice x.Notice∧okDTUnpacker x.Unpacker∧True
structure TGroundA where
 a0:Option Addr
 c0:Nat
 a1:Option Addr
 c1:Nat
 a2:Option Addr
 c2:Nat
 a3:Option Addr
 c3:Nat
 a4:Option Addr
 c4:Nat
 a5:Option Addr
 c5:Nat
abbrev dGround(x:TGround)(A:TGroundA):List Value:=cGround x A.a0 A.c0 A.a1 A.c1 A.a2 A.c2 A.a3 A.c3 A.a4 A.c4 A.a5 A.c5
structure TGroundF(B:Nat)(w:World)(A:TGroundA)(x:TGround):Prop where
 q0:RdS B w A.a0 A.c0 x.Offers
 q1:RdS B w A.a1 A.c1 x.Sender.Waiting
 q2:RdS B w A.a2 A.c2 x.Pairs
 q3:RdS B w A.a3 A.c3 x.Records
 q4:RdS B w A.a4 A.c4 x.Files
 q5:RdS B w A.a5 A.c5 x.Told
 ok:okDTGround x
theorem TGroundF.keep{B:Nat}{w w2:World}{A:TGroundA}{x:TGround}(h:TGroundF B w A x)(g:Keeps B w w2):TGroundF B w2 A x:=⟨h.q0.keep g,h.q1.keep g,h.q2.keep g,h.q3.keep g,h.q4.keep g,h.q5.keep g,h.ok⟩
theorem TGroundF.mono{B B2:Nat}{w:World}{A:TGroundA}{x:TGround}(h:TGroundF B w A x)(g:B2≤B):TGroundF B2 w A x:=⟨h.q0.mono g,h.q1.mono g,h.q2.mono g,h.q3.mono g,h.q4.mono g,h.q5.mono g,h.ok⟩
instance:Enc TGround where
 size:=17
 Rd B w vs x:=∃ A:TGroundA,vs=[.slice A.a0 x.Offers.length A.c0,.int .i64 x.Sender.Next,.int .i64 x.Sender.Window,.slice A.a1 x.Sender.Waiting.length A.c1,.int .i64 x.Sender.Done,.int .i64 x.Notice.Expect,.bool x.Notice.Locked,.bool x.Notice.Again,.int .i64 x.Unpacker.Channel,.int .i64 x.Unpacker.Next,.bool x.Unpacker.Synced,.string x.Unpacker.Rest,.int .i64 x.Unpacker.Lost,.slice A.a2 x.Pairs.length A.c2,.slice A.a3 x.Records.length A.c3,.slice A.a4 x.Files.length A.c4,.slice A.a5 x.Told.length A.c5]∧TGroundF B w A x
 len:=by rintro _ _ _ _ ⟨A,h,F⟩;rw[h];rfl
 keep:=by rintro _ _ _ _ _ ⟨A,h,F⟩ g;exact⟨A,h,F.keep g⟩
 mono:=by rintro _ _ _ _ _ ⟨A,h,F⟩ g;exact⟨A,h,F.mono g⟩
 tot x:=totL x.Offers+Enc.tot x.Sender+Enc.tot x.Unpacker+totL x.Pairs+totL x.Records+totL x.Files+totL x.Told
 tot_nonneg x:=by have h0:=totL_nonneg x.Offers;have h1:=Enc.tot_nonneg x.Sender;have h2:=Enc.tot_nonneg x.Unpacker;have h3:=totL_nonneg x.Pairs;have h4:=totL_nonneg x.Records;have h5:=totL_nonneg x.Files;have h6:=totL_nonneg x.Told;omega
structure TSpace where
 Receiver:TReceiver
 Board:TBoard
 Packer:TPacker
 Seq:Int
 Files:List ByteArray
 Outs:List TFileOut
 Begun:Int
 Sent:List TRecord
abbrev cSpace(x:TSpace)(a0:Option Addr)(c0:Nat)(a1:Option Addr)(c1:Nat)(a2:Option Addr)(c2:Nat)(a3:Option Addr)(c3:Nat)(a4:Option Addr)(c4:Nat)(a5:Option Addr)(c5:Nat)(a6:Option Addr)(c6:Nat)(a7:Option Addr)(c7:Nat)(a8:Option Addr)(c8:Nat)(a9:Option Addr)(c9:Nat)(a10:Option Addr)(c10:Nat):List Value:=[.int .i64 x.Receiver.Expect,.bool x.Receiver.Locked,.bool x.Receiver.Again,.int .i64 x.Receiver.Taken,.int .i64 x.Board.Clock,.slice a0 x.Board.Params.length c0,.bool x.Board.Safe,.slice a1 x.Board.Limits.length c1,.slice a2 x.Board.Orders.length c2,.slice a3 x.Board.Done.length c3,.int .i64 x.Board.Recorder.Room,.slice a4 x.Board.Recorder.Records.length c4,.slice a5 x.Board.Recorder.Dropped.length c5,.int .i64 x.Board.Made,.int .i64 x.Board.Taken,.slice a6 x.Board.Asked.length c6,.int .i64 x.Packer.Channel,.int .i64 x.Packer.Count,.string x.Packer.Rest,.slice a7 x.Packer.Starts.length c7,.int .i64 x.Seq,.slice a8 x.Files.length c8,.slice a9 x.Outs.length c9,.int .i64 x.Begun,.slice a10 x.Sent.length c10]
abbrev zSpace:List Value:=[.int .i64 0,.bool false,.bool false,.int .i64 0,.int .i64 0,.slice none 0 0,.bool false,.slice none 0 0,.slice none 0 0,.slice none 0 0,.int .i64 0,.slice none 0 0,.slice none 0 0,.int .i64 0,.int .i64 0,.slice none 0 0,.int .i64 0,.int .i64 0,.string ⟨#[]⟩,.slice none 0 0,.int .i64 0,.slice none 0 0,.slice none 0 0,.int .i64 0,.slice none 0 0]
def okDTSpace(x:TSpace):Prop:=okDTReceiver x.Receiver∧okDTBoard x.Board∧okDTPacker x.Packer∧i64 x.Seq∧i64 x.Begun∧True
structure TSpaceA where
 a0:Option Addr
 c0:Nat
 a1:Option Addr
 c1:Nat
 a2:Option Addr
 c2:Nat
 a3:Option Addr
 c3:Nat
 a4:Option Addr
 c4:Nat
 a5:Option Addr
 c5:Nat
 a6:Option Addr
 c6:Nat
 a7:Option Addr
 c7:Nat
 a8:Option Addr
 c8:Nat
 a9:Option Addr
 c9:Nat
 a10:Option Addr
 c10:Nat
abbrev dSpace(x:TSpace)(A:TSpaceA):List Value:=cSpace x A.a0 A.c0 A.a1 A.c1 A.a2 A.c2 A.a3 A.c3 A.a4 A.c4 A.a5 A.c5 A.a6 A.c6 A.a7 A.c7 A.a8 A.c8 A.a9 A.c9 A.a10 A.c10
structure TSpaceF(B:Nat)(w:World)(A:TSpaceA)(x:TSpace):Prop where
 q0:RdS B w A.a0 A.c0 x.Board.Params
 q1:RdS B w A.a1 A.c1 x.Board.Limits
 q2:RdS B w A.a2 A.c2 x.Board.Orders
 q3:RdS B w A.a3 A.c3 x.Board.Done
 q4:RdS B w A.a4 A.c4 x.Board.Recorder.Records
 q5:RdS B w A.a5 A.c5 x.Board.Recorder.Dropped
 q6:RdS B w A.a6 A.c6 x.Board.Asked
 q7:RdS B w A.a7 A.c7 x.Packer.Starts
 q8:RdS B w A.a8 A.c8 x.Files
 q9:RdS B w A.a9 A.c9 x.Outs
 q10:RdS B w A.a10 A.c10 x.Sent
 ok:okDTSpace x
theorem TSpaceF.keep{B:Nat}{w w2:World}{A:TSpaceA}{x:TSpace}(h:TSpaceF B w A x)(g:Keeps B w w2):TSpaceF B w2 A x:=⟨h.q0.keep g,h.q1.keep g,h.q2.keep g,h.q3.keep g,h.q4.keep g,h.q5.keep g,h.q6.keep g,h.q7.keep g,h.q8.keep g,h.q9.keep g,h.q10.keep g,h.ok⟩
theorem TSpaceF.mono{B B2:Nat}{w:World}{A:TSpaceA}{x:TSpace}(h:TSpaceF B w A x)(g:B2≤B):TSpaceF B2 w A x:=⟨h.q0.mono g,h.q1.mono g,h.q2.mono g,h.q3.mono g,h.q4.mono g,h.q5.mono g,h.q6.mono g,h.q7.mono g,h.q8.mono g,h.q9.mono g,h.q10.mono g,h.ok⟩
instance:Enc TSpace where
 size:=25
 Rd B w vs x:=∃ A:TSpaceA,vs=[.int .i64 x.Receiver.Expect,.bool x.Receiver.Locked,.bool x.Receiver.Again,.int .i64 x.Receiver.Taken,.int .i64 x.Board.Clock,.slice A.a0 x.Board.Params.length A.c0,.bool x.Board.Safe,.slice A.a1 x.Board.Limits.length A.c1,.slice A.a2 x.Board.Orders.length A.c2,.slice A.a3 x.Board.Done.length A.c3,.int .i64 x.Board.Recorder.Room,.slice A.a4 x.Board.Recorder.Records.length A.c4,.slice A.a5 x.Board.Recorder.Dropped.length A.c5,.int .i64 x.Board.Made,.int .i64 x.Board.Taken,.slice A.a6 x.Board.Asked.length A.c6,.int .i64 x.Packer.Channel,.int .i64 x.Packer.Count,.string x.Packer.Rest,.slice A.a7 x.Packer.Starts.length A.c7,.int .i64 x.Seq,.slice A.a8 x.Files.length A.c8,.slice A.a9 x.Outs.length A.c9,.int .i64 x.Begun,.slice A.a10 x.Sent.length A.c10]∧TSpaceF B w A x
 len:=by rintro _ _ _ _ ⟨A,h,F⟩;rw[h];rfl
 keep:=by rintro _ _ _ _ _ ⟨A,h,F⟩ g;exact⟨A,h,F.keep g⟩
 mono:=by rintro _ _ _ _ _ ⟨A,h,F⟩ g;exact⟨A,h,F.mono g⟩
 tot x:=Enc.tot x.Board+Enc.tot x.Packer+totL x.Files+totL x.Outs+totL x.Sent
 tot_nonneg x:=by have h0:=Enc.tot_nonneg x.Board;have h1:=Enc.tot_nonneg x.Packer;have h2:=totL_nonneg x.Files;have h3:=totL_nonneg x.Outs;have h4:=totL_nonneg x.Sent;omega
structure TMission where
 Time:Int
 Light:Int
 Drift:TDrift
 Orbit:TOrbit
 Plan:List Slot
 Up:TChannel
 Down:TChannel
 Ups:List TFlight
 Downs:List TFlight
 Ground:TGround
 Space:TSpace
 Offered:List ByteArray
 Took:List ByteArray
 Bad:Int
abbrev cMission(x:TMission)(a0:Option Addr)(c0:Nat)(a1:Option Addr)(c1:Nat)(a2:Option Addr)(c2:Nat)(a3:Option Addr)(c3:Nat)(a4:Option Addr)(c4:Nat)(a5:Option Addr)(c5:Nat)(a6:Option Addr)(c6:Nat)(a7:Option Addr)(c7:Nat)(a8:Option Addr)(c8:Nat)(a9:Option Addr)(c9:Nat)(a10:Option Addr)(c10:Nat)(a11:Option Addr)(c11:Nat)(a12:Option Addr)(c12:Nat)(a13:Option Addr)(c13:Nat)(a14:Option Addr)(c14:Nat)(a15:Option Addr)(c15:Nat)(a16:Option Addr)(c16:Nat)(a17:Option Addr)(c17:Nat)(a18:Option Addr)(c18:Nat)(a19:Option Addr)(c19:Nat)(a20:Option Addr)(c20:Nat)(a21:Option Addr)(c21:Nat):List Value:=[.int .i64 x.Time,.int .i64 x.Light,.int .i64 x.Drift.Rate,.int .i64 x.Drift.Offset,.int .i64 x.Orbit.Period,.int .i64 x.Orbit.Start,.int .i64 x.Orbit.Length,.slice a0 x.Plan.length c0,.int .i64 x.Up.Seed,.int .i64 x.Up.Burst,.int .i64 x.Up.Loss,.int .i64 x.Down.Seed,.int .i64 x.Down.Burst,.int .i64 x.Down.Loss,.slice a1 x.Ups.length c1,.slice a2 x.Downs.length c2,.slice a3 x.Ground.Offers.length c3,.int .i64 x.Ground.Sender.Next,.int .i64 x.Ground.Sender.Window,.slice a4 x.Ground.Sender.Waiting.length c4,.int .i64 x.Ground.Sender.Done,.int .i64 x.Ground.Notice.Expect,.bool x.Ground.Notice.Locked,.bool x.Ground.Notice.Again,.int .i64 x.Ground.Unpacker.Channel,.int .i64 x.Ground.Unpacker.Next,.bool x.Ground.Unpacker.Synced,.string x.Ground.Unpacker.Rest,.int .i64 x.Ground.Unpacker.Lost,.slice a5 x.Ground.Pairs.length c5,.slice a6 x.Ground.Records.length c6,.slice a7 x.Ground.Files.length c7,.slice a8 x.Ground.Told.length c8,.int .i64 x.Space.Receiver.Expect,.bool x.Space.Receiver.Locked,.bool x.Space.Receiver.Again,.int .i64 x.Space.Receiver.Taken,.int .i64 x.Space.Board.Clock,.slice a9 x.Space.Board.Params.length c9,.bool x.Space.Board.Safe,.slice a10 x.Space.Board.Limits.length c10,.slice a11 x.Space.Board.Orders.length c11,.slice a12 x.Space.Board.Done.length c12,.int .i64 x.Space.Board.Recorder.Room,.slice a13 x.Space.Board.Recorder.Records.length c13,.slice a14 x.Space.Board.Recorder.Dropped.length c14,.int .i64 x.Space.Board.Made,.int .i64 x.Space.Board.Taken,.slice a15 x.Space.Board.Asked.length c15,.int .i64 x.Space.Packer.Channel,.int .i64 x.Space.Packer.Count,.string x.Space.Packer.Rest,.slice a16 x.Space.Packer.Starts.length c16,.int .i64 x.Space.Seq,.slice a17 x.Space.Files.length c17,.slice a18 x.Space.Outs.length c18,.int .i64 x.Space.Begun,.slice a19 x.Space.Sent.length c19,.slice a20 x.Offered.length c20,.slice a21 x.Took.length c21,.int .i64 x.Bad]
abbrev zMission:List Value:=[.int .i64 0,.int .i64 0,.int .i64 0,.int .i64 0,.int .i64 0,.int .i64 0,.int .i64 0,.slice none 0 0,.int .i64 0,.int .i64 0,.int .i64 0,.int .i64 0,.int .i64 0,.int .i64 0,.slice none 0 0,.slice none 0 0,.slice none 0 0,.int .i64 0,.int .i64 0,.slice none 0 0,.int .i64 0,.int .i64 0,.bool false,.bool false,.int .i64 0,.int .i64 0,.bool false,.string ⟨#[]⟩,.int .i64 0,.slice none 0 0,.slice none 0 0,.slice none 0 0,.slice none 0 0,.int .i64 0,.bool false,.bool false,.int .i64 0,.int .i64 0,.slice none 0 0,.bool false,.slice none 0 0,.slice none 0 0,.slice none 0 0,.int .i64 0,.slice none 0 0,.slice none 0 0,.int .i64 0,.int .i64 0,.slice none 0 0,.int .i64 0,.int .i64 0,.string ⟨#[]⟩,.slice none 0 0,.int .i64 0,.slice none 0 0,.slice none 0 0,.int .i64 0,.slice none 0 0,.slice none 0 0,.slice none 0 0,.int .i64 0]
abbrev eMission(x:TMission)(a0:Option Addr)(n0 c0:Nat)(a1:Option Addr)(n1 c1:Nat)(a2:Option Addr)(n2 c2:Nat)(a3:Option Addr)(n3 c3:Nat)(a4:Option Addr)(n4 c4:Nat)(a5:Option Addr)(n5 c5:Nat)(a6:Option Addr)(n6 c6:Nat)(a7:Option Addr)(n7 c7:Nat)(a8:Option Addr)(n8 c8:Nat)(a9:Option Addr)(n9 c9:Nat)(a10:Option Addr)(n10 c10:Nat)(a11:Option Addr)(n11 c11:Nat)(a12:Option Addr)(n12 c12:Nat)(a13:Option Addr)(n13 c13:Nat)(a14:Option Addr)(n14 c14:Nat)(a15:Option Addr)(n15 c15:Nat)(a16:Option Addr)(n16 c16:Nat)(a17:Option Addr)(n17 c17:Nat)(a18:Option Addr)(n18 c18:Nat)(a19:Option Addr)(n19 c19:Nat)(a20:Option Addr)(n20 c20:Nat)(a21:Option Addr)(n21 c21:Nat):List Value:=[.int .i64 x.Time,.int .i64 x.Light,.int .i64 x.Drift.Rate,.int .i64 x.Drift.Offset,.int .i64 x.Orbit.Period,.int .i64 x.Orbit.Start,.int .i64 x.Orbit.Length,.slice a0 n0 c0,.int .i64 x.Up.Seed,.int .i64 x.Up.Burst,.int .i64 x.Up.Loss,.int .i64 x.Down.Seed,.int .i64 x.Down.Burst,.int .i64 x.Down.Loss,.slice a1 n1 c1,.slice a2 n2 c2,.slice a3 n3 c3,.int .i64 x.Ground.Sender.Next,.int .i64 x.Ground.Sender.Window,.slice a4 n4 c4,.int .i64 x.Ground.Sender.Done,.int .i64 x.Ground.Notice.Expect,.bool x.Ground.Notice.Locked,.bool x.Ground.Notice.Again,.int .i64 x.Ground.Unpacker.Channel,.int .i64 x.Ground.Unpacker.Next,.bool x.Ground.Unpacker.Synced,.string x.Ground.Unpacker.Rest,.int .i64 x.Ground.Unpacker.Lost,.slice a5 n5 c5,.slice a6 n6 c6,.slice a7 n7 c7,.slice a8 n8 c8,.int .i64 x.Space.Receiver.Expect,.bool x.Space.Receiver.Locked,.bool x.Space.Receiver.Again,.int .i64 x.Space.Receiver.Taken,.int .i64 x.Space.Board.Clock,.slice a9 n9 c9,.bool x.Space.Board.Safe,.slice a10 n10 c10,.slice a11 n11 c11,.slice a12 n12 c12,.int .i64 x.Space.Board.Recorder.Room,.slice a13 n13 c13,.slice a14 n14 c14,.int .i64 x.Space.Board.Made,.int .i64 x.Space.Board.Taken,.slice a15 n15 c15,.int .i64 x.Space.Packer.Channel,.int .i64 x.Space.Packer.Count,.string x.Space.Packer.Rest,.slice a16 n16 c16,.int .i64 x.Space.Seq,.slice a17 n17 c17,.slice a18 n18 c18,.int .i64 x.Space.Begun,.slice a19 n19 c19,.slice a20 n20 c20,.slice a21 n21 c21,.int .i64 x.Bad]
def okDTMission(x:TMission):Prop:=i64 x.Time∧i64 x.Light∧okDTDrift x.Drift∧okDTOrbit x.Orbit∧okDTChannel x.Up∧okDTChannel x.Down∧okDTGround x.Ground∧okDTSpace x.Space∧i64 x.Bad∧True
structure TMissionA where
 a0:Option Addr
 c0:Nat
 a1:Option Addr
 c1:Nat
 a2:Option Addr
 c2:Nat
 a3:Option Addr
 c3:Nat
 a4:Option Addr
 c4:Nat
 a5:Option Addr
 c5:Nat
 a6:Option Addr
 c6:Nat
 a7:Option Addr
 c7:Nat
 a8:Option Addr
 c8:Nat
 a9:Option Addr
 c9:Nat
 a10:Option Addr
 c10:Nat
 a11:Option Addr
 c11:Nat
 a12:Option Addr
 c12:Nat
 a13:Option Addr
 c13:Nat
 a14:Option Addr
 c14:Nat
 a15:Option Addr
 c15:Nat
 a16:Option Addr
 c16:Nat
 a17:Option Addr
 c17:Nat
 a18:Option Addr
 c18:Nat
 a19:Option Addr
 c19:Nat
 a20:Option Addr
 c20:Nat
 a21:Option Addr
 c21:Nat
abbrev dMission(x:TMission)(A:TMissionA):List Value:=cMission x A.a0 A.c0 A.a1 A.c1 A.a2 A.c2 A.a3 A.c3 A.a4 A.c4 A.a5 A.c5 A.a6 A.c6 A.a7 A.c7 A.a8 A.c8 A.a9 A.c9 A.a10 A.c10 A.a11 A.c11 A.a12 A.c12 A.a13 A.c13 A.a14 A.c14 A.a15 A.c15 A.a16 A.c16 A.a17 A.c17 A.a18 A.c18 A.a19 A.c19 A.a20 A.c20 A.a21 A.c21
structure TMissionF(B:Nat)(w:World)(A:TMissionA)(x:TMission):Prop where
 q0:RdS B w A.a0 A.c0 x.Plan
 q1:RdS B w A.a1 A.c1 x.Ups
 q2:RdS B w A.a2 A.c2 x.Downs
 q3:RdS B w A.a3 A.c3 x.Ground.Offers
 q4:RdS B w A.a4 A.c4 x.Ground.Sender.Waiting
 q5:RdS B w A.a5 A.c5 x.Ground.Pairs
 q6:RdS B w A.a6 A.c6 x.Ground.Records
 q7:RdS B w A.a7 A.c7 x.Ground.Files
 q8:RdS B w A.a8 A.c8 x.Ground.Told
 q9:RdS B w A.a9 A.c9 x.Space.Board.Params
 q10:RdS B w A.a10 A.c10 x.Space.Board.Limits
 q11:RdS B w A.a11 A.c11 x.Space.Board.Orders
 q12:RdS B w A.a12 A.c12 x.Space.Board.Done
 q13:RdS B w A.a13 A.c13 x.Space.Board.Recorder.Records
 q14:RdS B w A.a14 A.c14 x.Space.Board.Recorder.Dropped
 q15:RdS B w A.a15 A.c15 x.Space.Board.Asked
 q16:RdS B w A.a16 A.c16 x.Space.Packer.Starts
 q17:RdS B w A.a17 A.c17 x.Space.Files
 q18:RdS B w A.a18 A.c18 x.Space.Outs
 q19:RdS B w A.a19 A.c19 x.Space.Sent
 q20:RdS B w A.a20 A.c20 x.Offered
 q21:RdS B w A.a21 A.c21 x.Took
 ok:okDTMission x
theorem TMissionF.keep{B:Nat}{w w2:World}{A:TMissionA}{x:TMission}(h:TMissionF B w A x)(g:Keeps B w w2):TMissionF B w2 A x:=⟨h.q0.keep g,h.q1.keep g,h.q2.keep g,h.q3.keep g,h.q4.keep g,h.q5.keep g,h.q6.keep g,h.q7.keep g,h.q8.keep g,h.q9.keep g,h.q10.keep g,h.q11.keep g,h.q12.keep g,h.q13.keep g,h.q14.keep g,h.q15.keep g,h.q16.keep g,h.q17.keep g,h.q18.keep g,h.q19.keep g,h.q20.keep g,h.q21.keep g,h.ok⟩
theorem TMissionF.mono{B B2:Nat}{w:World}{A:TMissionA}{x:TMission}(h:TMissionF B w A x)(g:B2≤B):TMissionF B2 w A x:=⟨h.q0.mono g,h.q1.mono g,h.q2.mono g,h.q3.mono g,h.q4.mono g,h.q5.mono g,h.q6.mono g,h.q7.mono g,h.q8.mono g,h.q9.mono g,h.q10.mono g,h.q11.mono g,h.q12.mono g,h.q13.mono g,h.q14.mono g,h.q15.mono g,h.q16.mono g,h.q17.mono g,h.q18.mono g,h.q19.mono g,h.q20.mono g,h.q21.mono g,h.ok⟩
instance:Enc TMission where
 size:=61
 Rd B w vs x:=∃ A:TMissionA,vs=[.int .i64 x.Time,.int .i64 x.Light,.int .i64 x.Drift.Rate,.int .i64 x.Drift.Offset,.int .i64 x.Orbit.Period,.int .i64 x.Orbit.Start,.int .i64 x.Orbit.Length,.slice A.a0 x.Plan.length A.c0,.int .i64 x.Up.Seed,.int .i64 x.Up.Burst,.int .i64 x.Up.Loss,.int .i64 x.Down.Seed,.int .i64 x.Down.Burst,.int .i64 x.Down.Loss,.slice A.a1 x.Ups.length A.c1,.slice A.a2 x.Downs.length A.c2,.slice A.a3 x.Ground.Offers.length A.c3,.int .i64 x.Ground.Sender.Next,.int .i64 x.Ground.Sender.Window,.slice A.a4 x.Ground.Sender.Waiting.length A.c4,.int .i64 x.Ground.Sender.Done,.int .i64 x.Ground.Notice.Expect,.bool x.Ground.Notice.Locked,.bool x.Ground.Notice.Again,.int .i64 x.Ground.Unpacker.Channel,.int .i64 x.Ground.Unpacker.Next,.bool x.Ground.Unpacker.Synced,.string x.Ground.Unpacker.Rest,.int .i64 x.Ground.Unpacker.Lost,.slice A.a5 x.Ground.Pairs.length A.c5,.slice A.a6 x.Ground.Records.length A.c6,.slice A.a7 x.Ground.Files.length A.c7,.slice A.a8 x.Ground.Told.length A.c8,.int .i64 x.Space.Receiver.Expect,.bool x.Space.Receiver.Locked,.bool x.Space.Receiver.Again,.int .i64 x.Space.Receiver.Taken,.int .i64 x.Space.Board.Clock,.slice A.a9 x.Space.Board.Params.length A.c9,.bool x.Space.Board.Safe,.slice A.a10 x.Space.Board.Limits.length A.c10,.slice A.a11 x.Space.Board.Orders.length A.c11,.slice A.a12 x.Space.Board.Done.length A.c12,.int .i64 x.Space.Board.Recorder.Room,.slice A.a13 x.Space.Board.Recorder.Records.length A.c13,.slice A.a14 x.Space.Board.Recorder.Dropped.length A.c14,.int .i64 x.Space.Board.Made,.int .i64 x.Space.Board.Taken,.slice A.a15 x.Space.Board.Asked.length A.c15,.int .i64 x.Space.Packer.Channel,.int .i64 x.Space.Packer.Count,.string x.Space.Packer.Rest,.slice A.a16 x.Space.Packer.Starts.length A.c16,.int .i64 x.Space.Seq,.slice A.a17 x.Space.Files.length A.c17,.slice A.a18 x.Space.Outs.length A.c18,.int .i64 x.Space.Begun,.slice A.a19 x.Space.Sent.length A.c19,.slice A.a20 x.Offered.length A.c20,.slice A.a21 x.Took.length A.c21,.int .i64 x.Bad]∧TMissionF B w A x
 len:=by rintro _ _ _ _ ⟨A,h,F⟩;rw[h];rfl
 keep:=by rintro _ _ _ _ _ ⟨A,h,F⟩ g;exact⟨A,h,F.keep g⟩
 mono:=by rintro _ _ _ _ _ ⟨A,h,F⟩ g;exact⟨A,h,F.mono g⟩
 tot x:=totL x.Plan+totL x.Ups+totL x.Downs+Enc.tot x.Ground+Enc.tot x.Space+totL x.Offered+totL x.Took
 tot_nonneg x:=by have h0:=totL_nonneg x.Plan;have h1:=totL_nonneg x.Ups;have h2:=totL_nonneg x.Downs;have h3:=Enc.tot_nonneg x.Ground;have h4:=Enc.tot_nonneg x.Space;have h5:=totL_nonneg x.Offered;have h6:=totL_nonneg x.Took;omega
theorem mTot(x:TMission):Enc.tot x=totL x.Plan+totL x.Ups+totL x.Downs+Enc.tot x.Ground+Enc.tot x.Space+totL x.Offered+totL x.Took∧0≤totL x.Plan∧(x.Plan.length:Int)≤totL x.Plan∧0≤totL x.Ups∧(x.Ups.length:Int)≤totL x.Ups∧0≤totL x.Downs∧(x.Downs.length:Int)≤totL x.Downs∧0≤Enc.tot x.Ground∧Enc.tot x.Ground=totL x.Ground.Offers+Enc.tot x.Ground.Sender+Enc.tot x.Ground.Unpacker+totL x.Ground.Pairs+totL x.Ground.Records+totL x.Ground.Files+totL x.Ground.Told∧0≤totL x.Ground.Offers∧(x.Ground.Offers.length:Int)≤totL x.Ground.Offers∧0≤Enc.tot x.Ground.Sender∧Enc.tot x.Ground.Sender=totL x.Ground.Sender.Waiting∧0≤totL x.Ground.Sender.Waiting∧(x.Ground.Sender.Waiting.length:Int)≤totL x.Ground.Sender.Waiting∧0≤Enc.tot x.Ground.Unpacker∧Enc.tot x.Ground.Unpacker=(x.Ground.Unpacker.Rest.size:Int)∧0≤totL x.Ground.Pairs∧(x.Ground.Pairs.length:Int)≤totL x.Ground.Pairs∧0≤totL x.Ground.Records∧(x.Ground.Records.length:Int)≤totL x.Ground.Records∧0≤totL x.Ground.Files∧(x.Ground.Files.length:Int)≤totL x.Ground.Files∧0≤totL x.Ground.Told∧(x.Ground.Told.length:Int)≤totL x.Ground.Told∧0≤Enc.tot x.Space∧Enc.tot x.Space=Enc.tot x.Space.Board+Enc.tot x.Space.Packer+totL x.Space.Files+totL x.Space.Outs+totL x.Space.Sent∧0≤Enc.tot x.Space.Board∧Enc.tot x.Space.Board=totL x.Space.Board.Params+totL x.Space.Board.Limits+totL x.Space.Board.Orders+totL x.Space.Board.Done+Enc.tot x.Space.Board.Recorder+totL x.Space.Board.Asked∧0≤totL x.Space.Board.Params∧(x.Space.Board.Params.length:Int)≤totL x.Space.Board.Params∧0≤totL x.Space.Board.Limits∧(x.Space.Board.Limits.length:Int)≤totL x.Space.Board.Limits∧0≤totL x.Space.Board.Orders∧(x.Space.Board.Orders.length:Int)≤totL x.Space.Board.Orders∧0≤totL x.Space.Board.Done∧(x.Space.Board.Done.length:Int)≤totL x.Space.Board.Done∧0≤Enc.tot x.Space.Board.Recorder∧Enc.tot x.Space.Board.Recorder=totL x.Space.Board.Recorder.Records+totL x.Space.Board.Recorder.Dropped∧0≤totL x.Space.Board.Recorder.Records∧(x.Space.Board.Recorder.Records.length:Int)≤totL x.Space.Board.Recorder.Records∧0≤totL x.Space.Board.Recorder.Dropped∧(x.Space.Board.Recorder.Dropped.length:Int)≤totL x.Space.Board.Recorder.Dropped∧0≤totL x.Space.Board.Asked∧(x.Space.Board.Asked.length:Int)≤totL x.Space.Board.Asked∧0≤Enc.tot x.Space.Packer∧Enc.tot x.Space.Packer=(x.Space.Packer.Rest.size:Int)+totL x.Space.Packer.Starts∧0≤totL x.Space.Packer.Starts∧(x.Space.Packer.Starts.length:Int)≤totL x.Space.Packer.Starts∧0≤totL x.Space.Files∧(x.Space.Files.length:Int)≤totL x.Space.Files∧0≤totL x.Space.Outs∧(x.Space.Outs.length:Int)≤totL x.Space.Outs∧0≤totL x.Space.Sent∧(x.Space.Sent.length:Int)≤totL x.Space.Sent∧0≤totL x.Offered∧(x.Offered.length:Int)≤totL x.Offered∧0≤totL x.Took∧(x.Took.length:Int)≤totL x.Took :=
 ⟨rfl,totL_nonneg _,totL_len _,totL_nonneg _,totL_len _,totL_nonneg _,totL_len _,Enc.tot_nonneg _,rfl,totL_nonneg _,totL_len _,Enc.tot_nonneg _,rfl,totL_nonneg _,totL_len _,Enc.tot_nonneg _,rfl,totL_nonneg _,totL_len _,totL_nonneg _,totL_len _,totL_nonneg _,totL_len _,totL_nonneg _,totL_len _,Enc.tot_nonneg _,rfl,Enc.tot_nonneg _,rfl,totL_nonneg _,totL_len _,totL_nonneg _,totL_len _,totL_nonneg _,totL_len _,totL_nonneg _,totL_len _,Enc.tot_nonneg _,rfl,totL_nonneg _,totL_len _,totL_nonneg _,totL_len _,totL_nonneg _,totL_len _,Enc.tot_nonneg _,rfl,totL_nonneg _,totL_len _,totL_nonneg _,totL_len _,totL_nonneg _,totL_len _,totL_nonneg _,totL_len _,totL_nonneg _,totL_len _,totL_nonneg _,totL_len _⟩

end Go.Proofs.YtgmikiidcpbjbaaGreat
