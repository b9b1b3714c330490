/- The structs of the mission: what their cells read as. No condition but on sizes. -/
import Derived.Test.YtdijmbipcgalfaaGreatHM0
namespace Go.Proofs.YtdijmbipcgalfaaGreat
set_option linter.unusedVariables false
open Go.ChangeShapes Go.WideShapes Go.ChangeAt Go.RowKit
theorem RdS.atInt{B:Nat}{w:World}{a:Option Addr}{c:Nat}{l:List Int}(h:RdS B w a c l){k:Nat}(hk:k<l.length) :
  ∃ b off x,a=some ⟨b,off,none⟩∧LtN b w.heap.size∧Hid (l.drop k=x::l.drop (k+1))∧i64 x∧(∀ (W:World) [b8 w W],W.cell? ⟨b,off+k,none⟩=some (.int .i64 x)):=by
 obtain⟨b,off,x,vs,h0,h1,h2,⟨rfl,q⟩,hc⟩:=h.at hk
 have:=hc 0 _ rfl
 rw[show off+k*Enc.size Int+0=off+k from by rw[show Enc.size Int=1 from rfl];omega]at this
 exact⟨b,off,x,h0,h1,h2,q,j4 h1.out this⟩
theorem RdS.atBool{B:Nat}{w:World}{a:Option Addr}{c:Nat}{l:List Bool}(h:RdS B w a c l){k:Nat}(hk:k<l.length) :
  ∃ b off x,a=some ⟨b,off,none⟩∧LtN b w.heap.size∧Hid (l.drop k=x::l.drop (k+1))∧(∀ (W:World) [b8 w W],W.cell? ⟨b,off+k,none⟩=some (.bool x)):=by
 obtain⟨b,off,x,vs,h0,h1,h2,rfl,hc⟩:=h.at hk
 have:=hc 0 _ rfl
 rw[show off+k*Enc.size Bool+0=off+k from by rw[show Enc.size Bool=1 from rfl];omega]at this
 exact⟨b,off,x,h0,h1,h2,j4 h1.out this⟩
theorem RdS.atStr{B:Nat}{w:World}{a:Option Addr}{c:Nat}{l:List ByteArray}(h:RdS B w a c l){k:Nat}(hk:k<l.length) :
  ∃ b off x,a=some ⟨b,off,none⟩∧LtN b w.heap.size∧Hid (l.drop k=x::l.drop (k+1))∧x.size≤9223372036854775807∧(∀ (W:World) [b8 w W],W.cell? ⟨b,off+k,none⟩=some (.string x)):=by
 obtain⟨b,off,x,vs,h0,h1,h2,⟨rfl,q⟩,hc⟩:=h.at hk
 have:=hc 0 _ rfl
 rw[show off+k*Enc.size ByteArray+0=off+k from by rw[show Enc.size ByteArray=1 from rfl];omega]at this
 exact⟨b,off,x,h0,h1,h2,q,j4 h1.out this⟩
structure an4 where
 Seed:Int
 Burst:Int
 Loss:Int
def aE4(x:an4):Prop:=i64 x.Seed∧i64 x.Burst∧i64 x.Loss∧True
instance:Enc an4 where
 size:=3
 Rd B w vs x:=vs=[.int .i64 x.Seed,.int .i64 x.Burst,.int .i64 x.Loss]∧aE4 x
 len:=by rintro _ _ _ _ ⟨rfl,hok⟩;rfl
 keep:=by rintro _ _ _ _ _ ⟨rfl,hok⟩ g;exact⟨rfl,hok⟩
 mono:=by rintro _ _ _ _ _ ⟨rfl,hok⟩ g;exact⟨rfl,hok⟩
 tot x:=0
 tot_nonneg x:=by exact Int.le_refl _
structure Q8 where
 Channel:Int
 Count:Int
 Rest:ByteArray
 Starts:List Int
def aK7(x:Q8):Prop:=i64 x.Channel∧i64 x.Count∧x.Rest.size≤9223372036854775807∧True
instance:Enc Q8 where
 size:=4
 Rd B w vs x:=∃ (a0:Option Addr) (c0:Nat),vs=[.int .i64 x.Channel,.int .i64 x.Count,.string x.Rest,.slice a0 x.Starts.length c0]∧RdS B w a0 c0 x.Starts∧aK7 x
 len:=by rintro _ _ _ _ ⟨a0,c0,rfl,q0,hok⟩;rfl
 keep:=by rintro _ _ _ _ _ ⟨a0,c0,rfl,q0,hok⟩ g;exact⟨a0,c0,rfl,q0.keep g,hok⟩
 mono:=by rintro _ _ _ _ _ ⟨a0,c0,rfl,q0,hok⟩ g;exact⟨a0,c0,rfl,q0.mono g,hok⟩
 tot x:=(x.Rest.size:Int)+d9 x.Starts
 tot_nonneg x:=by have h0:=d6 x.Starts;omega
structure f9 where
 Channel:Int
 Next:Int
 Synced:Bool
 Rest:ByteArray
 Lost:Int
def aP6(x:f9):Prop:=i64 x.Channel∧i64 x.Next∧x.Rest.size≤9223372036854775807∧i64 x.Lost∧True
instance:Enc f9 where
 size:=5
 Rd B w vs x:=vs=[.int .i64 x.Channel,.int .i64 x.Next,.bool x.Synced,.string x.Rest,.int .i64 x.Lost]∧aP6 x
 len:=by rintro _ _ _ _ ⟨rfl,hok⟩;rfl
 keep:=by rintro _ _ _ _ _ ⟨rfl,hok⟩ g;exact⟨rfl,hok⟩
 mono:=by rintro _ _ _ _ _ ⟨rfl,hok⟩ g;exact⟨rfl,hok⟩
 tot x:=(x.Rest.size:Int)
 tot_nonneg x:=by omega
structure V9 where
 Seq:Int
 Data:ByteArray
def ar9(x:V9):Prop:=i64 x.Seq∧x.Data.size≤9223372036854775807∧True
instance:Enc V9 where
 size:=2
 Rd B w vs x:=vs=[.int .i64 x.Seq,.string x.Data]∧ar9 x
 len:=by rintro _ _ _ _ ⟨rfl,hok⟩;rfl
 keep:=by rintro _ _ _ _ _ ⟨rfl,hok⟩ g;exact⟨rfl,hok⟩
 mono:=by rintro _ _ _ _ _ ⟨rfl,hok⟩ g;exact⟨rfl,hok⟩
 tot x:=(x.Data.size:Int)
 tot_nonneg x:=by omega
theorem RdS.atTSent{B:Nat}{w:World}{a:Option Addr}{c:Nat}{l:List V9}(h:RdS B w a c l){k:Nat}(hk:k<l.length) :
  ∃ b off x,a=some ⟨b,off,none⟩∧LtN b w.heap.size∧Hid (l.drop k=x::l.drop (k+1))∧ar9 x∧(∀ (W:World) [b8 w W],W.cell? ⟨b,off+k*2,none⟩=some (.int .i64 x.Seq))∧(∀ (W:World) [b8 w W],W.cell? ⟨b,off+k*2+1,none⟩=some (.string x.Data)):=by
 obtain⟨b,off,x,vs,h0,h1,h2,⟨rfl,hok⟩,hc⟩:=h.at hk
 exact⟨b,off,x,h0,h1,h2,hok,j4 h1.out (hc 0 _ rfl),j4 h1.out (hc 1 _ rfl)⟩
structure E8 where
 Next:Int
 Window:Int
 Waiting:List V9
 Done:Int
def am4(x:E8):Prop:=i64 x.Next∧i64 x.Window∧i64 x.Done∧True
instance:Enc E8 where
 size:=4
 Rd B w vs x:=∃ (a0:Option Addr) (c0:Nat),vs=[.int .i64 x.Next,.int .i64 x.Window,.slice a0 x.Waiting.length c0,.int .i64 x.Done]∧RdS B w a0 c0 x.Waiting∧am4 x
 len:=by rintro _ _ _ _ ⟨a0,c0,rfl,q0,hok⟩;rfl
 keep:=by rintro _ _ _ _ _ ⟨a0,c0,rfl,q0,hok⟩ g;exact⟨a0,c0,rfl,q0.keep g,hok⟩
 mono:=by rintro _ _ _ _ _ ⟨a0,c0,rfl,q0,hok⟩ g;exact⟨a0,c0,rfl,q0.mono g,hok⟩
 tot x:=d9 x.Waiting
 tot_nonneg x:=by have h0:=d6 x.Waiting;omega
structure am5 where
 Expect:Int
 Locked:Bool
 Again:Bool
 Taken:Int
def aP5(x:am5):Prop:=i64 x.Expect∧i64 x.Taken∧True
instance:Enc am5 where
 size:=4
 Rd B w vs x:=vs=[.int .i64 x.Expect,.bool x.Locked,.bool x.Again,.int .i64 x.Taken]∧aP5 x
 len:=by rintro _ _ _ _ ⟨rfl,hok⟩;rfl
 keep:=by rintro _ _ _ _ _ ⟨rfl,hok⟩ g;exact⟨rfl,hok⟩
 mono:=by rintro _ _ _ _ _ ⟨rfl,hok⟩ g;exact⟨rfl,hok⟩
 tot x:=0
 tot_nonneg x:=by exact Int.le_refl _
structure X8 where
 Expect:Int
 Locked:Bool
 Again:Bool
def be6(x:X8):Prop:=i64 x.Expect∧True
instance:Enc X8 where
 size:=3
 Rd B w vs x:=vs=[.int .i64 x.Expect,.bool x.Locked,.bool x.Again]∧be6 x
 len:=by rintro _ _ _ _ ⟨rfl,hok⟩;rfl
 keep:=by rintro _ _ _ _ _ ⟨rfl,hok⟩ g;exact⟨rfl,hok⟩
 mono:=by rintro _ _ _ _ _ ⟨rfl,hok⟩ g;exact⟨rfl,hok⟩
 tot x:=0
 tot_nonneg x:=by exact Int.le_refl _
structure aB9 where
 Kind:Int
 At:Int
 A:Int
 B:Int
def bm5(x:aB9):Prop:=i64 x.Kind∧i64 x.At∧i64 x.A∧i64 x.B∧True
instance:Enc aB9 where
 size:=4
 Rd B w vs x:=vs=[.int .i64 x.Kind,.int .i64 x.At,.int .i64 x.A,.int .i64 x.B]∧bm5 x
 len:=by rintro _ _ _ _ ⟨rfl,hok⟩;rfl
 keep:=by rintro _ _ _ _ _ ⟨rfl,hok⟩ g;exact⟨rfl,hok⟩
 mono:=by rintro _ _ _ _ _ ⟨rfl,hok⟩ g;exact⟨rfl,hok⟩
 tot x:=0
 tot_nonneg x:=by exact Int.le_refl _
structure s8 where
 Id:Int
 Priority:Int
 Time:Int
 Data:ByteArray
def av4(x:s8):Prop:=i64 x.Id∧i64 x.Priority∧i64 x.Time∧x.Data.size≤9223372036854775807∧True
instance:Enc s8 where
 size:=4
 Rd B w vs x:=vs=[.int .i64 x.Id,.int .i64 x.Priority,.int .i64 x.Time,.string x.Data]∧av4 x
 len:=by rintro _ _ _ _ ⟨rfl,hok⟩;rfl
 keep:=by rintro _ _ _ _ _ ⟨rfl,hok⟩ g;exact⟨rfl,hok⟩
 mono:=by rintro _ _ _ _ _ ⟨rfl,hok⟩ g;exact⟨rfl,hok⟩
 tot x:=(x.Data.size:Int)
 tot_nonneg x:=by omega
theorem RdS.atTRecord{B:Nat}{w:World}{a:Option Addr}{c:Nat}{l:List s8}(h:RdS B w a c l){k:Nat}(hk:k<l.length) :
  ∃ b off x,a=some ⟨b,off,none⟩∧LtN b w.heap.size∧Hid (l.drop k=x::l.drop (k+1))∧av4 x∧(∀ (W:World) [b8 w W],W.cell? ⟨b,off+k*4,none⟩=some (.int .i64 x.Id))∧(∀ (W:World) [b8 w W],W.cell? ⟨b,off+k*4+1,none⟩=some (.int .i64 x.Priority))∧(∀ (W:World) [b8 w W],W.cell? ⟨b,off+k*4+2,none⟩=some (.int .i64 x.Time))∧(∀ (W:World) [b8 w W],W.cell? ⟨b,off+k*4+3,none⟩=some (.string x.Data)):=by
 obtain⟨b,off,x,vs,h0,h1,h2,⟨rfl,hok⟩,hc⟩:=h.at hk
 exact⟨b,off,x,h0,h1,h2,hok,j4 h1.out (hc 0 _ rfl),j4 h1.out (hc 1 _ rfl),j4 h1.out (hc 2 _ rfl),j4 h1.out (hc 3 _ rfl)⟩
structure I9 where
 Room:Int
 Records:List s8
 Dropped:List Int
def az8(x:I9):Prop:=i64 x.Room∧True
instance:Enc I9 where
 size:=3
 Rd B w vs x:=∃ (a0:Option Addr) (c0:Nat),∃ (a1:Option Addr) (c1:Nat),vs=[.int .i64 x.Room,.slice a0 x.Records.length c0,.slice a1 x.Dropped.length c1]∧RdS B w a0 c0 x.Records∧RdS B w a1 c1 x.Dropped∧az8 x
 len:=by rintro _ _ _ _ ⟨a0,c0,a1,c1,rfl,q0,q1,hok⟩;rfl
 keep:=by rintro _ _ _ _ _ ⟨a0,c0,a1,c1,rfl,q0,q1,hok⟩ g;exact⟨a0,c0,a1,c1,rfl,q0.keep g,q1.keep g,hok⟩
 mono:=by rintro _ _ _ _ _ ⟨a0,c0,a1,c1,rfl,q0,q1,hok⟩ g;exact⟨a0,c0,a1,c1,rfl,q0.mono g,q1.mono g,hok⟩
 tot x:=d9 x.Records+d9 x.Dropped
 tot_nonneg x:=by have h0:=d6 x.Records;have h1:=d6 x.Dropped;omega
structure V8 where
 Param:Int
 Low:Int
 High:Int
def aG7(x:V8):Prop:=i64 x.Param∧i64 x.Low∧i64 x.High∧True
instance:Enc V8 where
 size:=3
 Rd B w vs x:=vs=[.int .i64 x.Param,.int .i64 x.Low,.int .i64 x.High]∧aG7 x
 len:=by rintro _ _ _ _ ⟨rfl,hok⟩;rfl
 keep:=by rintro _ _ _ _ _ ⟨rfl,hok⟩ g;exact⟨rfl,hok⟩
 mono:=by rintro _ _ _ _ _ ⟨rfl,hok⟩ g;exact⟨rfl,hok⟩
 tot x:=0
 tot_nonneg x:=by exact Int.le_refl _
theorem RdS.atTLimit{B:Nat}{w:World}{a:Option Addr}{c:Nat}{l:List V8}(h:RdS B w a c l){k:Nat}(hk:k<l.length) :
  ∃ b off x,a=some ⟨b,off,none⟩∧LtN b w.heap.size∧Hid (l.drop k=x::l.drop (k+1))∧aG7 x∧(∀ (W:World) [b8 w W],W.cell? ⟨b,off+k*3,none⟩=some (.int .i64 x.Param))∧(∀ (W:World) [b8 w W],W.cell? ⟨b,off+k*3+1,none⟩=some (.int .i64 x.Low))∧(∀ (W:World) [b8 w W],W.cell? ⟨b,off+k*3+2,none⟩=some (.int .i64 x.High)):=by
 obtain⟨b,off,x,vs,h0,h1,h2,⟨rfl,hok⟩,hc⟩:=h.at hk
 exact⟨b,off,x,h0,h1,h2,hok,j4 h1.out (hc 0 _ rfl),j4 h1.out (hc 1 _ rfl),j4 h1.out (hc 2 _ rfl)⟩
structure D4 where
 Number:Int
 Order:aB9
def aw4(x:D4):Prop:=i64 x.Number∧bm5 x.Order∧True
instance:Enc D4 where
 size:=5
 Rd B w vs x:=vs=[.int .i64 x.Number,.int .i64 x.Order.Kind,.int .i64 x.Order.At,.int .i64 x.Order.A,.int .i64 x.Order.B]∧aw4 x
 len:=by rintro _ _ _ _ ⟨rfl,hok⟩;rfl
 keep:=by rintro _ _ _ _ _ ⟨rfl,hok⟩ g;exact⟨rfl,hok⟩
 mono:=by rintro _ _ _ _ _ ⟨rfl,hok⟩ g;exact⟨rfl,hok⟩
 tot x:=0
 tot_nonneg x:=by exact Int.le_refl _
theorem RdS.atTWaiting{B:Nat}{w:World}{a:Option Addr}{c:Nat}{l:List D4}(h:RdS B w a c l){k:Nat}(hk:k<l.length) :
  ∃ b off x,a=some ⟨b,off,none⟩∧LtN b w.heap.size∧Hid (l.drop k=x::l.drop (k+1))∧aw4 x∧(∀ (W:World) [b8 w W],W.cell? ⟨b,off+k*5,none⟩=some (.int .i64 x.Number))∧(∀ (W:World) [b8 w W],W.cell? ⟨b,off+k*5+1,none⟩=some (.int .i64 x.Order.Kind))∧(∀ (W:World) [b8 w W],W.cell? ⟨b,off+k*5+2,none⟩=some (.int .i64 x.Order.At))∧(∀ (W:World) [b8 w W],W.cell? ⟨b,off+k*5+3,none⟩=some (.int .i64 x.Order.A))∧(∀ (W:World) [b8 w W],W.cell? ⟨b,off+k*5+4,none⟩=some (.int .i64 x.Order.B)):=by
 obtain⟨b,off,x,vs,h0,h1,h2,⟨rfl,hok⟩,hc⟩:=h.at hk
 exact⟨b,off,x,h0,h1,h2,hok,j4 h1.out (hc 0 _ rfl),j4 h1.out (hc 1 _ rfl),j4 h1.out (hc 2 _ rfl),j4 h1.out (hc 3 _ rfl),j4 h1.out (hc 4 _ rfl)⟩
structure ad2 where
 Number:Int
 Time:Int
 Result:Int
def aP4(x:ad2):Prop:=i64 x.Number∧i64 x.Time∧i64 x.Result∧True
instance:Enc ad2 where
 size:=3
 Rd B w vs x:=vs=[.int .i64 x.Number,.int .i64 x.Time,.int .i64 x.Result]∧aP4 x
 len:=by rintro _ _ _ _ ⟨rfl,hok⟩;rfl
 keep:=by rintro _ _ _ _ _ ⟨rfl,hok⟩ g;exact⟨rfl,hok⟩
 mono:=by rintro _ _ _ _ _ ⟨rfl,hok⟩ g;exact⟨rfl,hok⟩
 tot x:=0
 tot_nonneg x:=by exact Int.le_refl _
theorem RdS.atTDone{B:Nat}{w:World}{a:Option Addr}{c:Nat}{l:List ad2}(h:RdS B w a c l){k:Nat}(hk:k<l.length) :
  ∃ b off x,a=some ⟨b,off,none⟩∧LtN b w.heap.size∧Hid (l.drop k=x::l.drop (k+1))∧aP4 x∧(∀ (W:World) [b8 w W],W.cell? ⟨b,off+k*3,none⟩=some (.int .i64 x.Number))∧(∀ (W:World) [b8 w W],W.cell? ⟨b,off+k*3+1,none⟩=some (.int .i64 x.Time))∧(∀ (W:World) [b8 w W],W.cell? ⟨b,off+k*3+2,none⟩=some (.int .i64 x.Result)):=by
 obtain⟨b,off,x,vs,h0,h1,h2,⟨rfl,hok⟩,hc⟩:=h.at hk
 exact⟨b,off,x,h0,h1,h2,hok,j4 h1.out (hc 0 _ rfl),j4 h1.out (hc 1 _ rfl),j4 h1.out (hc 2 _ rfl)⟩
structure I3 where
 Clock:Int
 Params:List Int
 Safe:Bool
 Limits:List V8
 Orders:List D4
 Done:List ad2
 Recorder:I9
 Made:Int
 Taken:Int
 Asked:List Int
abbrev S8(x:I3)(a0:Option Addr)(c0:Nat)(a1:Option Addr)(c1:Nat)(a2:Option Addr)(c2:Nat)(a3:Option Addr)(c3:Nat)(a4:Option Addr)(c4:Nat)(a5:Option Addr)(c5:Nat)(a6:Option Addr)(c6:Nat):List Value:=[.int .i64 x.Clock,.slice a0 x.Params.length c0,.bool x.Safe,.slice a1 x.Limits.length c1,.slice a2 x.Orders.length c2,.slice a3 x.Done.length c3,.int .i64 x.Recorder.Room,.slice a4 x.Recorder.Records.length c4,.slice a5 x.Recorder.Dropped.length c5,.int .i64 x.Made,.int .i64 x.Taken,.slice a6 x.Asked.length c6]
abbrev S3:List Value:=[.int .i64 0,.slice none 0 0,.bool false,.slice none 0 0,.slice none 0 0,.slice none 0 0,.int .i64 0,.slice none 0 0,.slice none 0 0,.int .i64 0,.int .i64 0,.slice none 0 0]
def at3(x:I3):Prop:=i64 x.Clock∧az8 x.Recorder∧i64 x.Made∧i64 x.Taken∧True
structure af9 where
 a0:Option Addr
 c0:Nat
 a1:Option Addr
 c1:Nat
 a2:Option Addr
 c2:Nat
 a3:Option Addr
 c3:Nat
 a4:Option Addr
 c4:Nat
 a5:Option Addr
 c5:Nat
 a6:Option Addr
 c6:Nat
abbrev F8(x:I3)(A:af9):List Value:=S8 x A.a0 A.c0 A.a1 A.c1 A.a2 A.c2 A.a3 A.c3 A.a4 A.c4 A.a5 A.c5 A.a6 A.c6
structure an3(B:Nat)(w:World)(A:af9)(x:I3):Prop where
 q0:RdS B w A.a0 A.c0 x.Params
 q1:RdS B w A.a1 A.c1 x.Limits
 q2:RdS B w A.a2 A.c2 x.Orders
 q3:RdS B w A.a3 A.c3 x.Done
 q4:RdS B w A.a4 A.c4 x.Recorder.Records
 q5:RdS B w A.a5 A.c5 x.Recorder.Dropped
 q6:RdS B w A.a6 A.c6 x.Asked
 ok:at3 x
theorem an3.keep{B:Nat}{w w2:World}{A:af9}{x:I3}(h:an3 B w A x)(g:d7 B w w2):an3 B w2 A x:=⟨h.q0.keep g,h.q1.keep g,h.q2.keep g,h.q3.keep g,h.q4.keep g,h.q5.keep g,h.q6.keep g,h.ok⟩
theorem an3.mono{B B2:Nat}{w:World}{A:af9}{x:I3}(h:an3 B w A x)(g:B2≤B):an3 B2 w A x:=⟨h.q0.mono g,h.q1.mono g,h.q2.mono g,h.q3.mono g,h.q4.mono g,h.q5.mono g,h.q6.mono g,h.ok⟩
instance:Enc I3 where
 size:=12
 Rd B w vs x:=∃ A:af9,vs=[.int .i64 x.Clock,.slice A.a0 x.Params.length A.c0,.bool x.Safe,.slice A.a1 x.Limits.length A.c1,.slice A.a2 x.Orders.length A.c2,.slice A.a3 x.Done.length A.c3,.int .i64 x.Recorder.Room,.slice A.a4 x.Recorder.Records.length A.c4,.slice A.a5 x.Recorder.Dropped.length A.c5,.int .i64 x.Made,.int .i64 x.Taken,.slice A.a6 x.Asked.length A.c6]∧an3 B w A x
 len:=by rintro _ _ _ _ ⟨A,h,F⟩;rw[h];rfl
 keep:=by rintro _ _ _ _ _ ⟨A,h,F⟩ g;exact⟨A,h,F.keep g⟩
 mono:=by rintro _ _ _ _ _ ⟨A,h,F⟩ g;exact⟨A,h,F.mono g⟩
 tot x:=d9 x.Params+d9 x.Limits+d9 x.Orders+d9 x.Done+Enc.tot x.Recorder+d9 x.Asked
 tot_nonneg x:=by have h0:=d6 x.Params;have h1:=d6 x.Limits;have h2:=d6 x.Orders;have h3:=d6 x.Done;have h4:=Enc.tot_nonneg x.Recorder;have h5:=d6 x.Asked;omega
structure A8 where
 File:Int
 Size:Int
 Check:Int
 Parts:List ByteArray
def aq3(x:A8):Prop:=i64 x.File∧i64 x.Size∧i64 x.Check∧True
instance:Enc A8 where
 size:=4
 Rd B w vs x:=∃ (a0:Option Addr) (c0:Nat),vs=[.int .i64 x.File,.int .i64 x.Size,.int .i64 x.Check,.slice a0 x.Parts.length c0]∧RdS B w a0 c0 x.Parts∧aq3 x
 len:=by rintro _ _ _ _ ⟨a0,c0,rfl,q0,hok⟩;rfl
 keep:=by rintro _ _ _ _ _ ⟨a0,c0,rfl,q0,hok⟩ g;exact⟨a0,c0,rfl,q0.keep g,hok⟩
 mono:=by rintro _ _ _ _ _ ⟨a0,c0,rfl,q0,hok⟩ g;exact⟨a0,c0,rfl,q0.mono g,hok⟩
 tot x:=d9 x.Parts
 tot_nonneg x:=by have h0:=d6 x.Parts;omega
theorem RdS.atTFileIn{B:Nat}{w:World}{a:Option Addr}{c:Nat}{l:List A8}(h:RdS B w a c l){k:Nat}(hk:k<l.length) :
  ∃ b off x,∃ (a0:Option Addr) (c0:Nat),a=some ⟨b,off,none⟩∧LtN b w.heap.size∧Hid (l.drop k=x::l.drop (k+1))∧RdS B w a0 c0 x.Parts∧aq3 x∧(∀ (W:World) [b8 w W],W.cell? ⟨b,off+k*4,none⟩=some (.int .i64 x.File))∧(∀ (W:World) [b8 w W],W.cell? ⟨b,off+k*4+1,none⟩=some (.int .i64 x.Size))∧(∀ (W:World) [b8 w W],W.cell? ⟨b,off+k*4+2,none⟩=some (.int .i64 x.Check))∧(∀ (W:World) [b8 w W],W.cell? ⟨b,off+k*4+3,none⟩=some (.slice a0 x.Parts.length c0)):=by
 obtain⟨b,off,x,vs,h0,h1,h2,⟨a0,c0,rfl,q0,hok⟩,hc⟩:=h.at hk
 exact⟨b,off,x,a0,c0,h0,h1,h2,q0,hok,j4 h1.out (hc 0 _ rfl),j4 h1.out (hc 1 _ rfl),j4 h1.out (hc 2 _ rfl),j4 h1.out (hc 3 _ rfl)⟩
structure s7 where
 File:Int
 Data:ByteArray
 Queue:List Int
 Done:Bool
def af7(x:s7):Prop:=i64 x.File∧x.Data.size≤9223372036854775807∧True
instance:Enc s7 where
 size:=4
 Rd B w vs x:=∃ (a0:Option Addr) (c0:Nat),vs=[.int .i64 x.File,.string x.Data,.slice a0 x.Queue.length c0,.bool x.Done]∧RdS B w a0 c0 x.Queue∧af7 x
 len:=by rintro _ _ _ _ ⟨a0,c0,rfl,q0,hok⟩;rfl
 keep:=by rintro _ _ _ _ _ ⟨a0,c0,rfl,q0,hok⟩ g;exact⟨a0,c0,rfl,q0.keep g,hok⟩
 mono:=by rintro _ _ _ _ _ ⟨a0,c0,rfl,q0,hok⟩ g;exact⟨a0,c0,rfl,q0.mono g,hok⟩
 tot x:=(x.Data.size:Int)+d9 x.Queue
 tot_nonneg x:=by have h0:=d6 x.Queue;omega
theorem RdS.atTFileOut{B:Nat}{w:World}{a:Option Addr}{c:Nat}{l:List s7}(h:RdS B w a c l){k:Nat}(hk:k<l.length) :
  ∃ b off x,∃ (a0:Option Addr) (c0:Nat),a=some ⟨b,off,none⟩∧LtN b w.heap.size∧Hid (l.drop k=x::l.drop (k+1))∧RdS B w a0 c0 x.Queue∧af7 x∧(∀ (W:World) [b8 w W],W.cell? ⟨b,off+k*4,none⟩=some (.int .i64 x.File))∧(∀ (W:World) [b8 w W],W.cell? ⟨b,off+k*4+1,none⟩=some (.string x.Data))∧(∀ (W:World) [b8 w W],W.cell? ⟨b,off+k*4+2,none⟩=some (.slice a0 x.Queue.length c0))∧(∀ (W:World) [b8 w W],W.cell? ⟨b,off+k*4+3,none⟩=some (.bool x.Done)):=by
 obtain⟨b,off,x,vs,h0,h1,h2,⟨a0,c0,rfl,q0,hok⟩,hc⟩:=h.at hk
 exact⟨b,off,x,a0,c0,h0,h1,h2,q0,hok,j4 h1.out (hc 0 _ rfl),j4 h1.out (hc 1 _ rfl),j4 h1.out (hc 2 _ rfl),j4 h1.out (hc 3 _ rfl)⟩
structure aB7 where
 Rate:Int
 Offset:Int
def bm3(x:aB7):Prop:=i64 x.Rate∧i64 x.Offset∧True
instance:Enc aB7 where
 size:=2
 Rd B w vs x:=vs=[.int .i64 x.Rate,.int .i64 x.Offset]∧bm3 x
 len:=by rintro _ _ _ _ ⟨rfl,hok⟩;rfl
 keep:=by rintro _ _ _ _ _ ⟨rfl,hok⟩ g;exact⟨rfl,hok⟩
 mono:=by rintro _ _ _ _ _ ⟨rfl,hok⟩ g;exact⟨rfl,hok⟩
 tot x:=0
 tot_nonneg x:=by exact Int.le_refl _
def aZ7(x:X1):Prop:=i64 x.Board∧i64 x.True∧True
instance:Enc X1 where
 size:=2
 Rd B w vs x:=vs=[.int .i64 x.Board,.int .i64 x.True]∧aZ7 x
 len:=by rintro _ _ _ _ ⟨rfl,hok⟩;rfl
 keep:=by rintro _ _ _ _ _ ⟨rfl,hok⟩ g;exact⟨rfl,hok⟩
 mono:=by rintro _ _ _ _ _ ⟨rfl,hok⟩ g;exact⟨rfl,hok⟩
 tot x:=0
 tot_nonneg x:=by exact Int.le_refl _
theorem RdS.atPair{B:Nat}{w:World}{a:Option Addr}{c:Nat}{l:List X1}(h:RdS B w a c l){k:Nat}(hk:k<l.length) :
  ∃ b off x,a=some ⟨b,off,none⟩∧LtN b w.heap.size∧Hid (l.drop k=x::l.drop (k+1))∧aZ7 x∧(∀ (W:World) [b8 w W],W.cell? ⟨b,off+k*2,none⟩=some (.int .i64 x.Board))∧(∀ (W:World) [b8 w W],W.cell? ⟨b,off+k*2+1,none⟩=some (.int .i64 x.True)):=by
 obtain⟨b,off,x,vs,h0,h1,h2,⟨rfl,hok⟩,hc⟩:=h.at hk
 exact⟨b,off,x,h0,h1,h2,hok,j4 h1.out (hc 0 _ rfl),j4 h1.out (hc 1 _ rfl)⟩
structure aB8 where
 Period:Int
 Start:Int
 Length:Int
def bm4(x:aB8):Prop:=i64 x.Period∧i64 x.Start∧i64 x.Length∧True
instance:Enc aB8 where
 size:=3
 Rd B w vs x:=vs=[.int .i64 x.Period,.int .i64 x.Start,.int .i64 x.Length]∧bm4 x
 len:=by rintro _ _ _ _ ⟨rfl,hok⟩;rfl
 keep:=by rintro _ _ _ _ _ ⟨rfl,hok⟩ g;exact⟨rfl,hok⟩
 mono:=by rintro _ _ _ _ _ ⟨rfl,hok⟩ g;exact⟨rfl,hok⟩
 tot x:=0
 tot_nonneg x:=by exact Int.le_refl _
def aZ8(x:ap8):Prop:=i64 x.Time∧i64 x.Id∧True
instance:Enc ap8 where
 size:=2
 Rd B w vs x:=vs=[.int .i64 x.Time,.int .i64 x.Id]∧aZ8 x
 len:=by rintro _ _ _ _ ⟨rfl,hok⟩;rfl
 keep:=by rintro _ _ _ _ _ ⟨rfl,hok⟩ g;exact⟨rfl,hok⟩
 mono:=by rintro _ _ _ _ _ ⟨rfl,hok⟩ g;exact⟨rfl,hok⟩
 tot x:=0
 tot_nonneg x:=by exact Int.le_refl _
theorem RdS.atSlot{B:Nat}{w:World}{a:Option Addr}{c:Nat}{l:List ap8}(h:RdS B w a c l){k:Nat}(hk:k<l.length) :
  ∃ b off x,a=some ⟨b,off,none⟩∧LtN b w.heap.size∧Hid (l.drop k=x::l.drop (k+1))∧aZ8 x∧(∀ (W:World) [b8 w W],W.cell? ⟨b,off+k*2,none⟩=some (.int .i64 x.Time))∧(∀ (W:World) [b8 w W],W.cell? ⟨b,off+k*2+1,none⟩=some (.int .i64 x.Id)):=by
 obtain⟨b,off,x,vs,h0,h1,h2,⟨rfl,hok⟩,hc⟩:=h.at hk
 exact⟨b,off,x,h0,h1,h2,hok,j4 h1.out (hc 0 _ rfl),j4 h1.out (hc 1 _ rfl)⟩
structure k5 where
 At:Int
 Data:ByteArray
def aj6(x:k5):Prop:=i64 x.At∧x.Data.size≤9223372036854775807∧True
instance:Enc k5 where
 size:=2
 Rd B w vs x:=vs=[.int .i64 x.At,.string x.Data]∧aj6 x
 len:=by rintro _ _ _ _ ⟨rfl,hok⟩;rfl
 keep:=by rintro _ _ _ _ _ ⟨rfl,hok⟩ g;exact⟨rfl,hok⟩
 mono:=by rintro _ _ _ _ _ ⟨rfl,hok⟩ g;exact⟨rfl,hok⟩
 tot x:=(x.Data.size:Int)
 tot_nonneg x:=by omega
theorem RdS.atTFlight{B:Nat}{w:World}{a:Option Addr}{c:Nat}{l:List k5}(h:RdS B w a c l){k:Nat}(hk:k<l.length) :
  ∃ b off x,a=some ⟨b,off,none⟩∧LtN b w.heap.size∧Hid (l.drop k=x::l.drop (k+1))∧aj6 x∧(∀ (W:World) [b8 w W],W.cell? ⟨b,off+k*2,none⟩=some (.int .i64 x.At))∧(∀ (W:World) [b8 w W],W.cell? ⟨b,off+k*2+1,none⟩=some (.string x.Data)):=by
 obtain⟨b,off,x,vs,h0,h1,h2,⟨rfl,hok⟩,hc⟩:=h.at hk
 exact⟨b,off,x,h0,h1,h2,hok,j4 h1.out (hc 0 _ rfl),j4 h1.out (hc 1 _ rfl)⟩
structure I8 where
 Offers:List ByteArray
 Sender:E8
 Notice:X8
 Unpacker:f9
 Pairs:List X1
 Records:List s8
 Files:List A8
 Told:List Bool
abbrev X3(x:I8)(a0:Option Addr)(c0:Nat)(a1:Option Addr)(c1:Nat)(a2:Option Addr)(c2:Nat)(a3:Option Addr)(c3:Nat)(a4:Option Addr)(c4:Nat)(a5:Option Addr)(c5:Nat):List Value:=[.slice a0 x.Offers.length c0,.int .i64 x.Sender.Next,.int .i64 x.Sender.Window,.slice a1 x.Sender.Waiting.length c1,.int .i64 x.Sender.Done,.int .i64 x.Notice.Expect,.bool x.Notice.Locked,.bool x.Notice.Again,.int .i64 x.Unpacker.Channel,.int .i64 x.Unpacker.Next,.bool x.Unpacker.Synced,.string x.Unpacker.Rest,.int .i64 x.Unpacker.Lost,.slice a2 x.Pairs.length c2,.slice a3 x.Records.length c3,.slice a4 x.Files.length c4,.slice a5 x.Told.length c5]
abbrev X5:List Value:=[.slice none 0 0,.int .i64 0,.int .i64 0,.slice none 0 0,.int .i64 0,.int .i64 0,.bool false,.bool false,.int .i64 0,.int .i64 0,.bool false,.string ⟨#[]⟩,.int .i64 0,.slice none 0 0,.slice none 0 0,.slice none 0 0,.slice none 0 0]
def av3(x:I8):Prop:=am4 x.Sender∧be6 x.Notice∧aP6 x.Unpacker∧True
structure ab1 where
 a0:Option Addr
 c0:Nat
 a1:Option Addr
 c1:Nat
 a2:Option Addr
 c2:Nat
 a3:Option Addr
 c3:Nat
 a4:Option Addr
 c4:Nat
 a5:Option Addr
 c5:Nat
abbrev M1(x:I8)(A:ab1):List Value:=X3 x A.a0 A.c0 A.a1 A.c1 A.a2 A.c2 A.a3 A.c3 A.a4 A.c4 A.a5 A.c5
structure al1(B:Nat)(w:World)(A:ab1)(x:I8):Prop where
 q0:RdS B w A.a0 A.c0 x.Offers
 q1:RdS B w A.a1 A.c1 x.Sender.Waiting
 q2:RdS B w A.a2 A.c2 x.Pairs
 q3:RdS B w A.a3 A.c3 x.Records
 q4:RdS B w A.a4 A.c4 x.Files
 q5:RdS B w A.a5 A.c5 x.Told
 ok:av3 x
theorem al1.keep{B:Nat}{w w2:World}{A:ab1}{x:I8}(h:al1 B w A x)(g:d7 B w w2):al1 B w2 A x:=⟨h.q0.keep g,h.q1.keep g,h.q2.keep g,h.q3.keep g,h.q4.keep g,h.q5.keep g,h.ok⟩
theorem al1.mono{B B2:Nat}{w:World}{A:ab1}{x:I8}(h:al1 B w A x)(g:B2≤B):al1 B2 w A x:=⟨h.q0.mono g,h.q1.mono g,h.q2.mono g,h.q3.mono g,h.q4.mono g,h.q5.mono g,h.ok⟩
instance:Enc I8 where
 size:=17
 Rd B w vs x:=∃ A:ab1,vs=[.slice A.a0 x.Offers.length A.c0,.int .i64 x.Sender.Next,.int .i64 x.Sender.Window,.slice A.a1 x.Sender.Waiting.length A.c1,.int .i64 x.Sender.Done,.int .i64 x.Notice.Expect,.bool x.Notice.Locked,.bool x.Notice.Again,.int .i64 x.Unpacker.Channel,.int .i64 x.Unpacker.Next,.bool x.Unpacker.Synced,.string x.Unpacker.Rest,.int .i64 x.Unpacker.Lost,.slice A.a2 x.Pairs.length A.c2,.slice A.a3 x.Records.length A.c3,.slice A.a4 x.Files.length A.c4,.slice A.a5 x.Told.length A.c5]∧al1 B w A x
 len:=by rintro _ _ _ _ ⟨A,h,F⟩;rw[h];rfl
 keep:=by rintro _ _ _ _ _ ⟨A,h,F⟩ g;exact⟨A,h,F.keep g⟩
 mono:=by rintro _ _ _ _ _ ⟨A,h,F⟩ g;exact⟨A,h,F.mono g⟩
 tot x:=d9 x.Offers+Enc.tot x.Sender+Enc.tot x.Unpacker+d9 x.Pairs+d9 x.Records+d9 x.Files+d9 x.Told
 tot_nonneg x:=by have h0:=d6 x.Offers;have h1:=Enc.tot_nonneg x.Sender;have h2:=Enc.tot_nonneg x.Unpacker;have h3:=d6 x.Pairs;have h4:=d6 x.Records;have h5:=d6 x.Files;have h6:=d6 x.Told;omega
structure M0 where
 Receiver:am5
 Board:I3
 Packer:Q8
 Seq:Int
 Files:List ByteArray
 Outs:List s7
 Begun:Int
 Sent:List s8
abbrev ad9(x:M0)(a0:Option Addr)(c0:Nat)(a1:Option Addr)(c1:Nat)(a2:Option Addr)(c2:Nat)(a3:Option Addr)(c3:Nat)(a4:Option Addr)(c4:Nat)(a5:Option Addr)(c5:Nat)(a6:Option Addr)(c6:Nat)(a7:Option Addr)(c7:Nat)(a8:Option Addr)(c8:Nat)(a9:Option Addr)(c9:Nat)(a10:Option Addr)(c10:Nat):List Value:=[.int .i64 x.Receiver.Expect,.bool x.Receiver.Locked,.bool x.Receiver.Again,.int .i64 x.Receiver.Taken,.int .i64 x.Board.Clock,.slice a0 x.Board.Params.length c0,.bool x.Board.Safe,.slice a1 x.Board.Limits.length c1,.slice a2 x.Board.Orders.length c2,.slice a3 x.Board.Done.length c3,.int .i64 x.Board.Recorder.Room,.slice a4 x.Board.Recorder.Records.length c4,.slice a5 x.Board.Recorder.Dropped.length c5,.int .i64 x.Board.Made,.int .i64 x.Board.Taken,.slice a6 x.Board.Asked.length c6,.int .i64 x.Packer.Channel,.int .i64 x.Packer.Count,.string x.Packer.Rest,.slice a7 x.Packer.Starts.length c7,.int .i64 x.Seq,.slice a8 x.Files.length c8,.slice a9 x.Outs.length c9,.int .i64 x.Begun,.slice a10 x.Sent.length c10]
abbrev ah5:List Value:=[.int .i64 0,.bool false,.bool false,.int .i64 0,.int .i64 0,.slice none 0 0,.bool false,.slice none 0 0,.slice none 0 0,.slice none 0 0,.int .i64 0,.slice none 0 0,.slice none 0 0,.int .i64 0,.int .i64 0,.slice none 0 0,.int .i64 0,.int .i64 0,.string ⟨#[]⟩,.slice none 0 0,.int .i64 0,.slice none 0 0,.slice none 0 0,.int .i64 0,.slice none 0 0]
def ax6(x:M0):Prop:=aP5 x.Receiver∧at3 x.Board∧aK7 x.Packer∧i64 x.Seq∧i64 x.Begun∧True
structure ah7 where
 a0:Option Addr
 c0:Nat
 a1:Option Addr
 c1:Nat
 a2:Option Addr
 c2:Nat
 a3:Option Addr
 c3:Nat
 a4:Option Addr
 c4:Nat
 a5:Option Addr
 c5:Nat
 a6:Option Addr
 c6:Nat
 a7:Option Addr
 c7:Nat
 a8:Option Addr
 c8:Nat
 a9:Option Addr
 c9:Nat
 a10:Option Addr
 c10:Nat
abbrev S9(x:M0)(A:ah7):List Value:=ad9 x A.a0 A.c0 A.a1 A.c1 A.a2 A.c2 A.a3 A.c3 A.a4 A.c4 A.a5 A.c5 A.a6 A.c6 A.a7 A.c7 A.a8 A.c8 A.a9 A.c9 A.a10 A.c10
structure aq7(B:Nat)(w:World)(A:ah7)(x:M0):Prop where
 q0:RdS B w A.a0 A.c0 x.Board.Params
 q1:RdS B w A.a1 A.c1 x.Board.Limits
 q2:RdS B w A.a2 A.c2 x.Board.Orders
 q3:RdS B w A.a3 A.c3 x.Board.Done
 q4:RdS B w A.a4 A.c4 x.Board.Recorder.Records
 q5:RdS B w A.a5 A.c5 x.Board.Recorder.Dropped
 q6:RdS B w A.a6 A.c6 x.Board.Asked
 q7:RdS B w A.a7 A.c7 x.Packer.Starts
 q8:RdS B w A.a8 A.c8 x.Files
 q9:RdS B w A.a9 A.c9 x.Outs
 q10:RdS B w A.a10 A.c10 x.Sent
 ok:ax6 x
theorem aq7.keep{B:Nat}{w w2:World}{A:ah7}{x:M0}(h:aq7 B w A x)(g:d7 B w w2):aq7 B w2 A x:=⟨h.q0.keep g,h.q1.keep g,h.q2.keep g,h.q3.keep g,h.q4.keep g,h.q5.keep g,h.q6.keep g,h.q7.keep g,h.q8.keep g,h.q9.keep g,h.q10.keep g,h.ok⟩
theorem aq7.mono{B B2:Nat}{w:World}{A:ah7}{x:M0}(h:aq7 B w A x)(g:B2≤B):aq7 B2 w A x:=⟨h.q0.mono g,h.q1.mono g,h.q2.mono g,h.q3.mono g,h.q4.mono g,h.q5.mono g,h.q6.mono g,h.q7.mono g,h.q8.mono g,h.q9.mono g,h.q10.mono g,h.ok⟩
instance:Enc M0 where
 size:=25
 Rd B w vs x:=∃ A:ah7,vs=[.int .i64 x.Receiver.Expect,.bool x.Receiver.Locked,.bool x.Receiver.Again,.int .i64 x.Receiver.Taken,.int .i64 x.Board.Clock,.slice A.a0 x.Board.Params.length A.c0,.bool x.Board.Safe,.slice A.a1 x.Board.Limits.length A.c1,.slice A.a2 x.Board.Orders.length A.c2,.slice A.a3 x.Board.Done.length A.c3,.int .i64 x.Board.Recorder.Room,.slice A.a4 x.Board.Recorder.Records.length A.c4,.slice A.a5 x.Board.Recorder.Dropped.length A.c5,.int .i64 x.Board.Made,.int .i64 x.Board.Taken,.slice A.a6 x.Board.Asked.length A.c6,.int .i64 x.Packer.Channel,.int .i64 x.Packer.Count,.string x.Packer.Rest,.slice A.a7 x.Packer.Starts.length A.c7,.int .i64 x.Seq,.slice A.a8 x.Files.length A.c8,.slice A.a9 x.Outs.length A.c9,.int .i64 x.Begun,.slice A.a10 x.Sent.length A.c10]∧aq7 B w A x
 len:=by rintro _ _ _ _ ⟨A,h,F⟩;rw[h];rfl
 keep:=by rintro _ _ _ _ _ ⟨A,h,F⟩ g;exact⟨A,h,F.keep g⟩
 mono:=by rintro _ _ _ _ _ ⟨A,h,F⟩ g;exact⟨A,h,F.mono g⟩
 tot x:=Enc.tot x.Board+Enc.tot x.Packer+d9 x.Files+d9 x.Outs+d9 x.Sent
 tot_nonneg x:=by have h0:=Enc.tot_nonneg x.Board;have h1:=Enc.tot_nonneg x.Packer;have h2:=d6 x.Files;have h3:=d6 x.Outs;have h4:=d6 x.Sent;omega
structure f7 where
 Time:Int
 Light:Int
 Drift:aB7
 Orbit:aB8
 Plan:List ap8
 Up:an4
 Down:an4
 Ups:List k5
 Downs:List k5
 Ground:I8
 Space:M0
 Offered:List ByteArray
 Took:List ByteArray
 Bad:Int
abbrev D1(x:f7)(a0:Option Addr)(c0:Nat)(a1:Option Addr)(c1:Nat)(a2:Option Addr)(c2:Nat)(a3:Option Addr)(c3:Nat)(a4:Option Addr)(c4:Nat)(a5:Option Addr)(c5:Nat)(a6:Option Addr)(c6:Nat)(a7:Option Addr)(c7:Nat)(a8:Option Addr)(c8:Nat)(a9:Option Addr)(c9:Nat)(a10:Option Addr)(c10:Nat)(a11:Option Addr)(c11:Nat)(a12:Option Addr)(c12:Nat)(a13:Option Addr)(c13:Nat)(a14:Option Addr)(c14:Nat)(a15:Option Addr)(c15:Nat)(a16:Option Addr)(c16:Nat)(a17:Option Addr)(c17:Nat)(a18:Option Addr)(c18:Nat)(a19:Option Addr)(c19:Nat)(a20:Option Addr)(c20:Nat)(a21:Option Addr)(c21:Nat):List Value:=[.int .i64 x.Time,.int .i64 x.Light,.int .i64 x.Drift.Rate,.int .i64 x.Drift.Offset,.int .i64 x.Orbit.Period,.int .i64 x.Orbit.Start,.int .i64 x.Orbit.Length,.slice a0 x.Plan.length c0,.int .i64 x.Up.Seed,.int .i64 x.Up.Burst,.int .i64 x.Up.Loss,.int .i64 x.Down.Seed,.int .i64 x.Down.Burst,.int .i64 x.Down.Loss,.slice a1 x.Ups.length c1,.slice a2 x.Downs.length c2,.slice a3 x.Ground.Offers.length c3,.int .i64 x.Ground.Sender.Next,.int .i64 x.Ground.Sender.Window,.slice a4 x.Ground.Sender.Waiting.length c4,.int .i64 x.Ground.Sender.Done,.int .i64 x.Ground.Notice.Expect,.bool x.Ground.Notice.Locked,.bool x.Ground.Notice.Again,.int .i64 x.Ground.Unpacker.Channel,.int .i64 x.Ground.Unpacker.Next,.bool x.Ground.Unpacker.Synced,.string x.Ground.Unpacker.Rest,.int .i64 x.Ground.Unpacker.Lost,.slice a5 x.Ground.Pairs.length c5,.slice a6 x.Ground.Records.length c6,.slice a7 x.Ground.Files.length c7,.slice a8 x.Ground.Told.length c8,.int .i64 x.Space.Receiver.Expect,.bool x.Space.Receiver.Locked,.bool x.Space.Receiver.Again,.int .i64 x.Space.Receiver.Taken,.int .i64 x.Space.Board.Clock,.slice a9 x.Space.Board.Params.length c9,.bool x.Space.Board.Safe,.slice a10 x.Space.Board.Limits.length c10,.slice a11 x.Space.Board.Orders.length c11,.slice a12 x.Space.Board.Done.length c12,.int .i64 x.Space.Board.Recorder.Room,.slice a13 x.Space.Board.Recorder.Records.length c13,.slice a14 x.Space.Board.Recorder.Dropped.length c14,.int .i64 x.Space.Board.Made,.int .i64 x.Space.Board.Taken,.slice a15 x.Space.Board.Asked.length c15,.int .i64 x.Space.Packer.Channel,.int .i64 x.Space.Packer.Count,.string x.Space.Packer.Rest,.slice a16 x.Space.Packer.Starts.length c16,.int .i64 x.Space.Seq,.slice a17 x.Space.Files.length c17,.slice a18 x.Space.Outs.length c18,.int .i64 x.Space.Begun,.slice a19 x.Space.Sent.length c19,.slice a20 x.Offered.length c20,.slice a21 x.Took.length c21,.int .i64 x.Bad]
abbrev A3:List Value:=[.int .i64 0,.int .i64 0,.int .i64 0,.int .i64 0,.int .i64 0,.int .i64 0,.int .i64 0,.slice none 0 0,.int .i64 0,.int .i64 0,.int .i64 0,.int .i64 0,.int .i64 0,.int .i64 0,.slice none 0 0,.slice none 0 0,.slice none 0 0,.int .i64 0,.int .i64 0,.slice none 0 0,.int .i64 0,.int .i64 0,.bool false,.bool false,.int .i64 0,.int .i64 0,.bool false,.string ⟨#[]⟩,.int .i64 0,.slice none 0 0,.slice none 0 0,.slice none 0 0,.slice none 0 0,.int .i64 0,.bool false,.bool false,.int .i64 0,.int .i64 0,.slice none 0 0,.bool false,.slice none 0 0,.slice none 0 0,.slice none 0 0,.int .i64 0,.slice none 0 0,.slice none 0 0,.int .i64 0,.int .i64 0,.slice none 0 0,.int .i64 0,.int .i64 0,.string ⟨#[]⟩,.slice none 0 0,.int .i64 0,.slice none 0 0,.slice none 0 0,.int .i64 0,.slice none 0 0,.slice none 0 0,.slice none 0 0,.int .i64 0]
abbrev bz7(x:f7)(a0:Option Addr)(n0 c0:Nat)(a1:Option Addr)(n1 c1:Nat)(a2:Option Addr)(n2 c2:Nat)(a3:Option Addr)(n3 c3:Nat)(a4:Option Addr)(n4 c4:Nat)(a5:Option Addr)(n5 c5:Nat)(a6:Option Addr)(n6 c6:Nat)(a7:Option Addr)(n7 c7:Nat)(a8:Option Addr)(n8 c8:Nat)(a9:Option Addr)(n9 c9:Nat)(a10:Option Addr)(n10 c10:Nat)(a11:Option Addr)(n11 c11:Nat)(a12:Option Addr)(n12 c12:Nat)(a13:Option Addr)(n13 c13:Nat)(a14:Option Addr)(n14 c14:Nat)(a15:Option Addr)(n15 c15:Nat)(a16:Option Addr)(n16 c16:Nat)(a17:Option Addr)(n17 c17:Nat)(a18:Option Addr)(n18 c18:Nat)(a19:Option Addr)(n19 c19:Nat)(a20:Option Addr)(n20 c20:Nat)(a21:Option Addr)(n21 c21:Nat):List Value:=[.int .i64 x.Time,.int .i64 x.Light,.int .i64 x.Drift.Rate,.int .i64 x.Drift.Offset,.int .i64 x.Orbit.Period,.int .i64 x.Orbit.Start,.int .i64 x.Orbit.Length,.slice a0 n0 c0,.int .i64 x.Up.Seed,.int .i64 x.Up.Burst,.int .i64 x.Up.Loss,.int .i64 x.Down.Seed,.int .i64 x.Down.Burst,.int .i64 x.Down.Loss,.slice a1 n1 c1,.slice a2 n2 c2,.slice a3 n3 c3,.int .i64 x.Ground.Sender.Next,.int .i64 x.Ground.Sender.Window,.slice a4 n4 c4,.int .i64 x.Ground.Sender.Done,.int .i64 x.Ground.Notice.Expect,.bool x.Ground.Notice.Locked,.bool x.Ground.Notice.Again,.int .i64 x.Ground.Unpacker.Channel,.int .i64 x.Ground.Unpacker.Next,.bool x.Ground.Unpacker.Synced,.string x.Ground.Unpacker.Rest,.int .i64 x.Ground.Unpacker.Lost,.slice a5 n5 c5,.slice a6 n6 c6,.slice a7 n7 c7,.slice a8 n8 c8,.int .i64 x.Space.Receiver.Expect,.bool x.Space.Receiver.Locked,.bool x.Space.Receiver.Again,.int .i64 x.Space.Receiver.Taken,.int .i64 x.Space.Board.Clock,.slice a9 n9 c9,.bool x.Space.Board.Safe,.slice a10 n10 c10,.slice a11 n11 c11,.slice a12 n12 c12,.int .i64 x.Space.Board.Recorder.Room,.slice a13 n13 c13,.slice a14 n14 c14,.int .i64 x.Space.Board.Made,.int .i64 x.Space.Board.Taken,.slice a15 n15 c15,.int .i64 x.Space.Packer.Channel,.int .i64 x.Space.Packer.Count,.string x.Space.Packer.Rest,.slice a16 n16 c16,.int .i64 x.Space.Seq,.slice a17 n17 c17,.slice a18 n18 c18,.int .i64 x.Space.Begun,.slice a19 n19 c19,.slice a20 n20 c20,.slice a21 n21 c21,.int .i64 x.Bad]
abbrev af0(k:Nat)(x:f7)(a0:Option Addr:=none)(c0:Nat:=0)(a1:Option Addr:=none)(c1:Nat:=0)(a2:Option Addr:=none)(c2:Nat:=0)(a3:Option Addr:=none)(c3:Nat:=0)(a4:Option Addr:=none)(c4:Nat:=0)(a5:Option Addr:=none)(c5:Nat:=0)(a6:Option Addr:=none)(c6:Nat:=0)(a7:Option Addr:=none)(c7:Nat:=0)(a8:Option Addr:=none)(c8:Nat:=0)(a9:Option Addr:=none)(c9:Nat:=0)(a10:Option Addr:=none)(c10:Nat:=0)(a11:Option Addr:=none)(c11:Nat:=0)(a12:Option Addr:=none)(c12:Nat:=0)(a13:Option Addr:=none)(c13:Nat:=0)(a14:Option Addr:=none)(c14:Nat:=0)(a15:Option Addr:=none)(c15:Nat:=0)(a16:Option Addr:=none)(c16:Nat:=0)(a17:Option Addr:=none)(c17:Nat:=0)(a18:Option Addr:=none)(c18:Nat:=0)(a19:Option Addr:=none)(c19:Nat:=0)(a20:Option Addr:=none)(c20:Nat:=0)(a21:Option Addr:=none)(c21:Nat:=0):List Value:=(D1 x a0 c0 a1 c1 a2 c2 a3 c3 a4 c4 a5 c5 a6 c6 a7 c7 a8 c8 a9 c9 a10 c10 a11 c11 a12 c12 a13 c13 a14 c14 a15 c15 a16 c16 a17 c17 a18 c18 a19 c19 a20 c20 a21 c21).take k++A3.drop k
abbrev aK8(k:Nat)(x:M0)(a0:Option Addr:=none)(c0:Nat:=0)(a1:Option Addr:=none)(c1:Nat:=0)(a2:Option Addr:=none)(c2:Nat:=0)(a3:Option Addr:=none)(c3:Nat:=0)(a4:Option Addr:=none)(c4:Nat:=0)(a5:Option Addr:=none)(c5:Nat:=0)(a6:Option Addr:=none)(c6:Nat:=0)(a7:Option Addr:=none)(c7:Nat:=0)(a8:Option Addr:=none)(c8:Nat:=0)(a9:Option Addr:=none)(c9:Nat:=0)(a10:Option Addr:=none)(c10:Nat:=0):List Value:=(ad9 x a0 c0 a1 c1 a2 c2 a3 c3 a4 c4 a5 c5 a6 c6 a7 c7 a8 c8 a9 c9 a10 c10).take k++ah5.drop k
abbrev aA7(k:Nat)(x:I8)(a0:Option Addr:=none)(c0:Nat:=0)(a1:Option Addr:=none)(c1:Nat:=0)(a2:Option Addr:=none)(c2:Nat:=0)(a3:Option Addr:=none)(c3:Nat:=0)(a4:Option Addr:=none)(c4:Nat:=0)(a5:Option Addr:=none)(c5:Nat:=0):List Value:=(X3 x a0 c0 a1 c1 a2 c2 a3 c3 a4 c4 a5 c5).take k++X5.drop k
abbrev aA6(k:Nat)(x:I3)(a0:Option Addr:=none)(c0:Nat:=0)(a1:Option Addr:=none)(c1:Nat:=0)(a2:Option Addr:=none)(c2:Nat:=0)(a3:Option Addr:=none)(c3:Nat:=0)(a4:Option Addr:=none)(c4:Nat:=0)(a5:Option Addr:=none)(c5:Nat:=0)(a6:Option Addr:=none)(c6:Nat:=0):List Value:=(S8 x a0 c0 a1 c1 a2 c2 a3 c3 a4 c4 a5 c5 a6 c6).take k++S3.drop k
def af8(x:f7):Prop:=i64 x.Time∧i64 x.Light∧bm3 x.Drift∧bm4 x.Orbit∧aE4 x.Up∧aE4 x.Down∧av3 x.Ground∧ax6 x.Space∧i64 x.Bad∧True
structure I1 where
 a0:Option Addr
 c0:Nat
 a1:Option Addr
 c1:Nat
 a2:Option Addr
 c2:Nat
 a3:Option Addr
 c3:Nat
 a4:Option Addr
 c4:Nat
 a5:Option Addr
 c5:Nat
 a6:Option Addr
 c6:Nat
 a7:Option Addr
 c7:Nat
 a8:Option Addr
 c8:Nat
 a9:Option Addr
 c9:Nat
 a10:Option Addr
 c10:Nat
 a11:Option Addr
 c11:Nat
 a12:Option Addr
 c12:Nat
 a13:Option Addr
 c13:Nat
 a14:Option Addr
 c14:Nat
 a15:Option Addr
 c15:Nat
 a16:Option Addr
 c16:Nat
 a17:Option Addr
 c17:Nat
 a18:Option Addr
 c18:Nat
 a19:Option Addr
 c19:Nat
 a20:Option Addr
 c20:Nat
 a21:Option Addr
 c21:Nat
abbrev s9(x:f7)(A:I1):List Value:=D1 x A.a0 A.c0 A.a1 A.c1 A.a2 A.c2 A.a3 A.c3 A.a4 A.c4 A.a5 A.c5 A.a6 A.c6 A.a7 A.c7 A.a8 A.c8 A.a9 A.c9 A.a10 A.c10 A.a11 A.c11 A.a12 A.c12 A.a13 A.c13 A.a14 A.c14 A.a15 A.c15 A.a16 A.c16 A.a17 A.c17 A.a18 A.c18 A.a19 A.c19 A.a20 A.c20 A.a21 A.c21
structure ad7(B:Nat)(w:World)(A:I1)(x:f7):Prop where
 q0:RdS B w A.a0 A.c0 x.Plan
 q1:RdS B w A.a1 A.c1 x.Ups
 q2:RdS B w A.a2 A.c2 x.Downs
 q3:RdS B w A.a3 A.c3 x.Ground.Offers
 q4:RdS B w A.a4 A.c4 x.Ground.Sender.Waiting
 q5:RdS B w A.a5 A.c5 x.Ground.Pairs
 q6:RdS B w A.a6 A.c6 x.Ground.Records
 q7:RdS B w A.a7 A.c7 x.Ground.Files
 q8:RdS B w A.a8 A.c8 x.Ground.Told
 q9:RdS B w A.a9 A.c9 x.Space.Board.Params
 q10:RdS B w A.a10 A.c10 x.Space.Board.Limits
 q11:RdS B w A.a11 A.c11 x.Space.Board.Orders
 q12:RdS B w A.a12 A.c12 x.Space.Board.Done
 q13:RdS B w A.a13 A.c13 x.Space.Board.Recorder.Records
 q14:RdS B w A.a14 A.c14 x.Space.Board.Recorder.Dropped
 q15:RdS B w A.a15 A.c15 x.Space.Board.Asked
 q16:RdS B w A.a16 A.c16 x.Space.Packer.Starts
 q17:RdS B w A.a17 A.c17 x.Space.Files
 q18:RdS B w A.a18 A.c18 x.Space.Outs
 q19:RdS B w A.a19 A.c19 x.Space.Sent
 q20:RdS B w A.a20 A.c20 x.Offered
 q21:RdS B w A.a21 A.c21 x.Took
 ok:af8 x
theorem ad7.keep{B:Nat}{w w2:World}{A:I1}{x:f7}(h:ad7 B w A x)(g:d7 B w w2):ad7 B w2 A x:=⟨h.q0.keep g,h.q1.keep g,h.q2.keep g,h.q3.keep g,h.q4.keep g,h.q5.keep g,h.q6.keep g,h.q7.keep g,h.q8.keep g,h.q9.keep g,h.q10.keep g,h.q11.keep g,h.q12.keep g,h.q13.keep g,h.q14.keep g,h.q15.keep g,h.q16.keep g,h.q17.keep g,h.q18.keep g,h.q19.keep g,h.q20.keep g,h.q21.keep g,h.ok⟩
theorem ad7.mono{B B2:Nat}{w:World}{A:I1}{x:f7}(h:ad7 B w A x)(g:B2≤B):ad7 B2 w A x:=⟨h.q0.mono g,h.q1.mono g,h.q2.mono g,h.q3.mono g,h.q4.mono g,h.q5.mono g,h.q6.mono g,h.q7.mono g,h.q8.mono g,h.q9.mono g,h.q10.mono g,h.q11.mono g,h.q12.mono g,h.q13.mono g,h.q14.mono g,h.q15.mono g,h.q16.mono g,h.q17.mono g,h.q18.mono g,h.q19.mono g,h.q20.mono g,h.q21.mono g,h.ok⟩
instance:Enc f7 where
 size:=61
 Rd B w vs x:=∃ A:I1,vs=[.int .i64 x.Time,.int .i64 x.Light,.int .i64 x.Drift.Rate,.int .i64 x.Drift.Offset,.int .i64 x.Orbit.Period,.int .i64 x.Orbit.Start,.int .i64 x.Orbit.Length,.slice A.a0 x.Plan.length A.c0,.int .i64 x.Up.Seed,.int .i64 x.Up.Burst,.int .i64 x.Up.Loss,.int .i64 x.Down.Seed,.int .i64 x.Down.Burst,.int .i64 x.Down.Loss,.slice A.a1 x.Ups.length A.c1,.slice A.a2 x.Downs.length A.c2,.slice A.a3 x.Ground.Offers.length A.c3,.int .i64 x.Ground.Sender.Next,.int .i64 x.Ground.Sender.Window,.slice A.a4 x.Ground.Sender.Waiting.length A.c4,.int .i64 x.Ground.Sender.Done,.int .i64 x.Ground.Notice.Expect,.bool x.Ground.Notice.Locked,.bool x.Ground.Notice.Again,.int .i64 x.Ground.Unpacker.Channel,.int .i64 x.Ground.Unpacker.Next,.bool x.Ground.Unpacker.Synced,.string x.Ground.Unpacker.Rest,.int .i64 x.Ground.Unpacker.Lost,.slice A.a5 x.Ground.Pairs.length A.c5,.slice A.a6 x.Ground.Records.length A.c6,.slice A.a7 x.Ground.Files.length A.c7,.slice A.a8 x.Ground.Told.length A.c8,.int .i64 x.Space.Receiver.Expect,.bool x.Space.Receiver.Locked,.bool x.Space.Receiver.Again,.int .i64 x.Space.Receiver.Taken,.int .i64 x.Space.Board.Clock,.slice A.a9 x.Space.Board.Params.length A.c9,.bool x.Space.Board.Safe,.slice A.a10 x.Space.Board.Limits.length A.c10,.slice A.a11 x.Space.Board.Orders.length A.c11,.slice A.a12 x.Space.Board.Done.length A.c12,.int .i64 x.Space.Board.Recorder.Room,.slice A.a13 x.Space.Board.Recorder.Records.length A.c13,.slice A.a14 x.Space.Board.Recorder.Dropped.length A.c14,.int .i64 x.Space.Board.Made,.int .i64 x.Space.Board.Taken,.slice A.a15 x.Space.Board.Asked.length A.c15,.int .i64 x.Space.Packer.Channel,.int .i64 x.Space.Packer.Count,.string x.Space.Packer.Rest,.slice A.a16 x.Space.Packer.Starts.length A.c16,.int .i64 x.Space.Seq,.slice A.a17 x.Space.Files.length A.c17,.slice A.a18 x.Space.Outs.length A.c18,.int .i64 x.Space.Begun,.slice A.a19 x.Space.Sent.length A.c19,.slice A.a20 x.Offered.length A.c20,.slice A.a21 x.Took.length A.c21,.int .i64 x.Bad]∧ad7 B w A x
 len:=by rintro _ _ _ _ ⟨A,h,F⟩;rw[h];rfl
 keep:=by rintro _ _ _ _ _ ⟨A,h,F⟩ g;exact⟨A,h,F.keep g⟩
 mono:=by rintro _ _ _ _ _ ⟨A,h,F⟩ g;exact⟨A,h,F.mono g⟩
 tot x:=d9 x.Plan+d9 x.Ups+d9 x.Downs+Enc.tot x.Ground+Enc.tot x.Space+d9 x.Offered+d9 x.Took
 tot_nonneg x:=by have h0:=d6 x.Plan;have h1:=d6 x.Ups;have h2:=d6 x.Downs;have h3:=Enc.tot_nonneg x.Ground;have h4:=Enc.tot_nonneg x.Space;have h5:=d6 x.Offered;have h6:=d6 x.Took;omega
theorem bP7(x:f7):Enc.tot x=d9 x.Plan+d9 x.Ups+d9 x.Downs+Enc.tot x.Ground+Enc.tot x.Space+d9 x.Offered+d9 x.Took∧0≤d9 x.Plan∧(x.Plan.length:Int)≤d9 x.Plan∧0≤d9 x.Ups∧(x.Ups.length:Int)≤d9 x.Ups∧0≤d9 x.Downs∧(x.Downs.length:Int)≤d9 x.Downs∧0≤Enc.tot x.Ground∧Enc.tot x.Ground=d9 x.Ground.Offers+Enc.tot x.Ground.Sender+Enc.tot x.Ground.Unpacker+d9 x.Ground.Pairs+d9 x.Ground.Records+d9 x.Ground.Files+d9 x.Ground.Told∧0≤d9 x.Ground.Offers∧(x.Ground.Offers.length:Int)≤d9 x.Ground.Offers∧0≤Enc.tot x.Ground.Sender∧Enc.tot x.Ground.Sender=d9 x.Ground.Sender.Waiting∧0≤d9 x.Ground.Sender.Waiting∧(x.Ground.Sender.Waiting.length:Int)≤d9 x.Ground.Sender.Waiting∧0≤Enc.tot x.Ground.Unpacker∧Enc.tot x.Ground.Unpacker=(x.Ground.Unpacker.Rest.size:Int)∧0≤d9 x.Ground.Pairs∧(x.Ground.Pairs.length:Int)≤d9 x.Ground.Pairs∧0≤d9 x.Ground.Records∧(x.Ground.Records.length:Int)≤d9 x.Ground.Records∧0≤d9 x.Ground.Files∧(x.Ground.Files.length:Int)≤d9 x.Ground.Files∧0≤d9 x.Ground.Told∧(x.Ground.Told.length:Int)≤d9 x.Ground.Told∧0≤Enc.tot x.Space∧Enc.tot x.Space=Enc.tot x.Space.Board+Enc.tot x.Space.Packer+d9 x.Space.Files+d9 x.Space.Outs+d9 x.Space.Sent∧0≤Enc.tot x.Space.Board∧Enc.tot x.Space.Board=d9 x.Space.Board.Params+d9 x.Space.Board.Limits+d9 x.Space.Board.Orders+d9 x.Space.Board.Done+Enc.tot x.Space.Board.Recorder+d9 x.Space.Board.Asked∧0≤d9 x.Space.Board.Params∧(x.Space.Board.Params.length:Int)≤d9 x.Space.Board.Params∧0≤d9 x.Space.Board.Limits∧(x.Space.Board.Limits.length:Int)≤d9 x.Space.Board.Limits∧0≤d9 x.Space.Board.Orders∧(x.Space.Board.Orders.length:Int)≤d9 x.Space.Board.Orders∧0≤d9 x.Space.Board.Done∧(x.Space.Board.Done.length:Int)≤d9 x.Space.Board.Done∧0≤Enc.tot x.Space.Board.Recorder∧Enc.tot x.Space.Board.Recorder=d9 x.Space.Board.Recorder.Records+d9 x.Space.Board.Recorder.Dropped∧0≤d9 x.Space.Board.Recorder.Records∧(x.Space.Board.Recorder.Records.length:Int)≤d9 x.Space.Board.Recorder.Records∧0≤d9 x.Space.Board.Recorder.Dropped∧(x.Space.Board.Recorder.Dropped.length:Int)≤d9 x.Space.Board.Recorder.Dropped∧0≤d9 x.Space.Board.Asked∧(x.Space.Board.Asked.length:Int)≤d9 x.Space.Board.Asked∧0≤Enc.tot x.Space.Packer∧Enc.tot x.Space.Packer=(x.Space.Packer.Rest.size:Int)+d9 x.Space.Packer.Starts∧0≤d9 x.Space.Packer.Starts∧(x.Space.Packer.Starts.length:Int)≤d9 x.Space.Packer.Starts∧0≤d9 x.Space.Files∧(x.Space.Files.length:Int)≤d9 x.Space.Files∧0≤d9 x.Space.Outs∧(x.Space.Outs.length:Int)≤d9 x.Space.Outs∧0≤d9 x.Space.Sent∧(x.Space.Sent.length:Int)≤d9 x.Space.Sent∧0≤d9 x.Offered∧(x.Offered.length:Int)≤d9 x.Offered∧0≤d9 x.Took∧(x.Took.length:Int)≤d9 x.Took :=
 ⟨rfl,d6 _,f6 _,d6 _,f6 _,d6 _,f6 _,Enc.tot_nonneg _,rfl,d6 _,f6 _,Enc.tot_nonneg _,rfl,d6 _,f6 _,Enc.tot_nonneg _,rfl,d6 _,f6 _,d6 _,f6 _,d6 _,f6 _,d6 _,f6 _,Enc.tot_nonneg _,rfl,Enc.tot_nonneg _,rfl,d6 _,f6 _,d6 _,f6 _,d6 _,f6 _,d6 _,f6 _,Enc.tot_nonneg _,rfl,d6 _,f6 _,d6 _,f6 _,d6 _,f6 _,Enc.tot_nonneg _,rfl,d6 _,f6 _,d6 _,f6 _,d6 _,f6 _,d6 _,f6 _,d6 _,f6 _,d6 _,f6 _⟩

