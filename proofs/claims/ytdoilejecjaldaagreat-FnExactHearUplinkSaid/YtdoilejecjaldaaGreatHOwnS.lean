/- Ownership of the structs with slices: each slice has a colour of its own. -/
import Derived.Test.YtdoilejecjaldaaGreatHOwnF
namespace Go.Proofs.YtdoilejecjaldaaGreat
set_option linter.unusedVariables false
open Go.ChangeShapes Go.WideShapes Go.ChangeAt Go.RowKit
class R8(α:Type) extends Enc α where
 O:Nat→(Nat→Col)→Nat→World→List Value→α→Prop
 toRd:∀ {B χ o w vs x},O B χ o w vs x→Rd B w vs x
def U0{α:Type}[E:R8 α](w:World)(x:α):Ending→World→Prop:=fun e w'=>∃ (vs:List Value) (χ:Nat→Col),e=.returned (.agg vs.toArray)∧E.O w.heap.size χ 0 w' vs x∧∃ y:b5 w,w'=y.w
theorem U0.d{α:Type}[E:R8 α]{w w':World}{x:α}{e:Ending}(h:U0 w x e w'):ah3 w x e w':=by
 obtain⟨vs,χ,he,ho,hy⟩:=h
 exact⟨vs,he,E.toRd ho,hy⟩
def D3(d:Nat)(i:Col):Col:=(i.1+d,i.2)
theorem D0.ic{α:Type}[E:D9 α]{B:Nat}{χ:Nat→Col}{i i':Col}{w:World}{a:Option Addr}{c:Nat}{l:List α}(h:D0 B χ i w a c l)(e:i=i'):D0 B χ i' w a c l:=e▸h
instance ao2.iTFileIn:ao2 D4 ByteArray where
 toEnc:=inferInstance
 cells x a c:=[.int .i64 x.File,.int .i64 x.Size,.int .i64 x.Check,.slice a x.Parts.length c]
 inner x:=x.Parts
 ty:=150
 good:=at7
 cellsLen:=fun _ _ _=>rfl
 one:=fun x a c u hu=>by
  simp only[List.mem_cons,List.not_mem_nil,or_false]at hu
  rcases hu with rfl|rfl|rfl|rfl<;>rfl
instance aY0.iTFileIn:aY0 D4 where
 rd:=fun h1 h2=>⟨_,_,rfl,h2,h1⟩
instance ao2.iTFileOut:ao2 j7 Int where
 toEnc:=inferInstance
 cells x a c:=[.int .i64 x.File,.string x.Data,.slice a x.Queue.length c,.bool x.Done]
 inner x:=x.Queue
 ty:=155
 good:=ac2
 cellsLen:=fun _ _ _=>rfl
 one:=fun x a c u hu=>by
  simp only[List.mem_cons,List.not_mem_nil,or_false]at hu
  rcases hu with rfl|rfl|rfl|rfl<;>rfl
instance aY0.iTFileOut:aY0 j7 where
 rd:=fun h1 h2=>⟨_,_,rfl,h2,h1⟩
structure aa7(B:Nat)(χ:Nat→Col)(o:Nat)(w:World)(a0:Option Addr)(c0:Nat)(x:R5):Prop where
 o0:D0 B χ (o,0) w a0 c0 x.Starts
 ok:aJ2 x
theorem aa7.keep{B:Nat}{χ:Nat→Col}{o:Nat}{w w2:World}{a0:Option Addr}{c0:Nat}{x:R5}(h:aa7 B χ o w a0 c0 x)(g:b8 B w w2):aa7 B χ o w2 a0 c0 x:=⟨h.o0.keep g,h.ok⟩
theorem aa7.mono{B:Nat}{χ:Nat→Col}{o:Nat}{w:World}{a0:Option Addr}{c0:Nat}{x:R5}(h:aa7 B χ o w a0 c0 x){B2:Nat}(g:B2≤B):aa7 B2 χ o w a0 c0 x:=⟨h.o0.mono g,h.ok⟩
theorem aa7.rd{B:Nat}{χ:Nat→Col}{o:Nat}{w:World}{a0:Option Addr}{c0:Nat}{x:R5}(h:aa7 B χ o w a0 c0 x):Enc.Rd B w [.int .i64 x.Channel,.int .i64 x.Count,.string x.Rest,.slice a0 x.Starts.length c0] x:=⟨a0,c0,rfl,h.o0.rd,h.ok⟩
instance R8.iTPacker:R8 R5 where
 toEnc:=inferInstance
 O B χ o w vs x:=∃ (a0:Option Addr) (c0:Nat),vs=[.int .i64 x.Channel,.int .i64 x.Count,.string x.Rest,.slice a0 x.Starts.length c0]∧aa7 B χ o w a0 c0 x
 toRd:=by rintro _ _ _ _ _ _ ⟨a0,c0,rfl,h⟩;exact h.rd
structure aa8(B:Nat)(χ:Nat→Col)(o:Nat)(w:World)(a0:Option Addr)(c0:Nat)(x:R6):Prop where
 o0:D0 B χ (o,0) w a0 c0 x.Waiting
 ok:al0 x
theorem aa8.keep{B:Nat}{χ:Nat→Col}{o:Nat}{w w2:World}{a0:Option Addr}{c0:Nat}{x:R6}(h:aa8 B χ o w a0 c0 x)(g:b8 B w w2):aa8 B χ o w2 a0 c0 x:=⟨h.o0.keep g,h.ok⟩
theorem aa8.mono{B:Nat}{χ:Nat→Col}{o:Nat}{w:World}{a0:Option Addr}{c0:Nat}{x:R6}(h:aa8 B χ o w a0 c0 x){B2:Nat}(g:B2≤B):aa8 B2 χ o w a0 c0 x:=⟨h.o0.mono g,h.ok⟩
theorem aa8.rd{B:Nat}{χ:Nat→Col}{o:Nat}{w:World}{a0:Option Addr}{c0:Nat}{x:R6}(h:aa8 B χ o w a0 c0 x):Enc.Rd B w [.int .i64 x.Next,.int .i64 x.Window,.slice a0 x.Waiting.length c0,.int .i64 x.Done] x:=⟨a0,c0,rfl,h.o0.rd,h.ok⟩
instance R8.iTSender:R8 R6 where
 toEnc:=inferInstance
 O B χ o w vs x:=∃ (a0:Option Addr) (c0:Nat),vs=[.int .i64 x.Next,.int .i64 x.Window,.slice a0 x.Waiting.length c0,.int .i64 x.Done]∧aa8 B χ o w a0 c0 x
 toRd:=by rintro _ _ _ _ _ _ ⟨a0,c0,rfl,h⟩;exact h.rd
structure U7(B:Nat)(χ:Nat→Col)(o:Nat)(w:World)(a0:Option Addr)(c0:Nat)(a1:Option Addr)(c1:Nat)(x:J0):Prop where
 o0:D0 B χ (o,0) w a0 c0 x.Records
 o1:D0 B χ (o+1,0) w a1 c1 x.Dropped
 ok:az2 x
theorem U7.keep{B:Nat}{χ:Nat→Col}{o:Nat}{w w2:World}{a0:Option Addr}{c0:Nat}{a1:Option Addr}{c1:Nat}{x:J0}(h:U7 B χ o w a0 c0 a1 c1 x)(g:b8 B w w2):U7 B χ o w2 a0 c0 a1 c1 x:=⟨h.o0.keep g,h.o1.keep g,h.ok⟩
theorem U7.mono{B:Nat}{χ:Nat→Col}{o:Nat}{w:World}{a0:Option Addr}{c0:Nat}{a1:Option Addr}{c1:Nat}{x:J0}(h:U7 B χ o w a0 c0 a1 c1 x){B2:Nat}(g:B2≤B):U7 B2 χ o w a0 c0 a1 c1 x:=⟨h.o0.mono g,h.o1.mono g,h.ok⟩
theorem U7.rd{B:Nat}{χ:Nat→Col}{o:Nat}{w:World}{a0:Option Addr}{c0:Nat}{a1:Option Addr}{c1:Nat}{x:J0}(h:U7 B χ o w a0 c0 a1 c1 x):Enc.Rd B w [.int .i64 x.Room,.slice a0 x.Records.length c0,.slice a1 x.Dropped.length c1] x:=⟨a0,c0,a1,c1,rfl,h.o0.rd,h.o1.rd,h.ok⟩
instance R8.iTRecorder:R8 J0 where
 toEnc:=inferInstance
 O B χ o w vs x:=∃ (a0:Option Addr) (c0:Nat),∃ (a1:Option Addr) (c1:Nat),vs=[.int .i64 x.Room,.slice a0 x.Records.length c0,.slice a1 x.Dropped.length c1]∧U7 B χ o w a0 c0 a1 c1 x
 toRd:=by rintro _ _ _ _ _ _ ⟨a0,c0,a1,c1,rfl,h⟩;exact h.rd
structure ad6(B:Nat)(χ:Nat→Col)(o:Nat)(w:World)(A:af3)(x:D5):Prop where
 o0:D0 B χ (o,0) w A.a0 A.c0 x.Params
 o1:D0 B χ (o+1,0) w A.a1 A.c1 x.Limits
 o2:D0 B χ (o+2,0) w A.a2 A.c2 x.Orders
 o3:D0 B χ (o+3,0) w A.a3 A.c3 x.Done
 o4:D0 B χ (o+4,0) w A.a4 A.c4 x.Recorder.Records
 o5:D0 B χ (o+5,0) w A.a5 A.c5 x.Recorder.Dropped
 o6:D0 B χ (o+6,0) w A.a6 A.c6 x.Asked
 ok:ar9 x
theorem ad6.keep{B:Nat}{χ:Nat→Col}{o:Nat}{w w2:World}{A:af3}{x:D5}(h:ad6 B χ o w A x)(g:b8 B w w2):ad6 B χ o w2 A x:=⟨h.o0.keep g,h.o1.keep g,h.o2.keep g,h.o3.keep g,h.o4.keep g,h.o5.keep g,h.o6.keep g,h.ok⟩
theorem ad6.mono{B:Nat}{χ:Nat→Col}{o:Nat}{w:World}{A:af3}{x:D5}(h:ad6 B χ o w A x){B2:Nat}(g:B2≤B):ad6 B2 χ o w A x:=⟨h.o0.mono g,h.o1.mono g,h.o2.mono g,h.o3.mono g,h.o4.mono g,h.o5.mono g,h.o6.mono g,h.ok⟩
theorem ad6.f{B:Nat}{χ:Nat→Col}{o:Nat}{w:World}{A:af3}{x:D5}(h:ad6 B χ o w A x):am1 B w A x:=⟨h.o0.rd,h.o1.rd,h.o2.rd,h.o3.rd,h.o4.rd,h.o5.rd,h.o6.rd,h.ok⟩
theorem ad6.rd{B:Nat}{χ:Nat→Col}{o:Nat}{w:World}{A:af3}{x:D5}(h:ad6 B χ o w A x):Enc.Rd B w (I0 x A) x:=⟨A,rfl,h.f⟩
instance R8.iTBoard:R8 D5 where
 toEnc:=inferInstance
 O B χ o w vs x:=∃ A:af3,vs=(I0 x A)∧ad6 B χ o w A x
 toRd:=by rintro _ _ _ _ _ _ ⟨A,rfl,h⟩;exact h.rd
structure am3(B:Nat)(χ:Nat→Col)(o:Nat)(w:World)(a0:Option Addr)(c0:Nat)(x:D4):Prop where
 o0:D0 B χ (o,0) w a0 c0 x.Parts
 ok:at7 x
theorem am3.keep{B:Nat}{χ:Nat→Col}{o:Nat}{w w2:World}{a0:Option Addr}{c0:Nat}{x:D4}(h:am3 B χ o w a0 c0 x)(g:b8 B w w2):am3 B χ o w2 a0 c0 x:=⟨h.o0.keep g,h.ok⟩
theorem am3.mono{B:Nat}{χ:Nat→Col}{o:Nat}{w:World}{a0:Option Addr}{c0:Nat}{x:D4}(h:am3 B χ o w a0 c0 x){B2:Nat}(g:B2≤B):am3 B2 χ o w a0 c0 x:=⟨h.o0.mono g,h.ok⟩
theorem am3.rd{B:Nat}{χ:Nat→Col}{o:Nat}{w:World}{a0:Option Addr}{c0:Nat}{x:D4}(h:am3 B χ o w a0 c0 x):Enc.Rd B w [.int .i64 x.File,.int .i64 x.Size,.int .i64 x.Check,.slice a0 x.Parts.length c0] x:=⟨a0,c0,rfl,h.o0.rd,h.ok⟩
instance R8.iTFileIn:R8 D4 where
 toEnc:=inferInstance
 O B χ o w vs x:=∃ (a0:Option Addr) (c0:Nat),vs=[.int .i64 x.File,.int .i64 x.Size,.int .i64 x.Check,.slice a0 x.Parts.length c0]∧am3 B χ o w a0 c0 x
 toRd:=by rintro _ _ _ _ _ _ ⟨a0,c0,rfl,h⟩;exact h.rd
structure ai3(B:Nat)(χ:Nat→Col)(o:Nat)(w:World)(a0:Option Addr)(c0:Nat)(x:j7):Prop where
 o0:D0 B χ (o,0) w a0 c0 x.Queue
 ok:ac2 x
theorem ai3.keep{B:Nat}{χ:Nat→Col}{o:Nat}{w w2:World}{a0:Option Addr}{c0:Nat}{x:j7}(h:ai3 B χ o w a0 c0 x)(g:b8 B w w2):ai3 B χ o w2 a0 c0 x:=⟨h.o0.keep g,h.ok⟩
theorem ai3.mono{B:Nat}{χ:Nat→Col}{o:Nat}{w:World}{a0:Option Addr}{c0:Nat}{x:j7}(h:ai3 B χ o w a0 c0 x){B2:Nat}(g:B2≤B):ai3 B2 χ o w a0 c0 x:=⟨h.o0.mono g,h.ok⟩
theorem ai3.rd{B:Nat}{χ:Nat→Col}{o:Nat}{w:World}{a0:Option Addr}{c0:Nat}{x:j7}(h:ai3 B χ o w a0 c0 x):Enc.Rd B w [.int .i64 x.File,.string x.Data,.slice a0 x.Queue.length c0,.bool x.Done] x:=⟨a0,c0,rfl,h.o0.rd,h.ok⟩
instance R8.iTFileOut:R8 j7 where
 toEnc:=inferInstance
 O B χ o w vs x:=∃ (a0:Option Addr) (c0:Nat),vs=[.int .i64 x.File,.string x.Data,.slice a0 x.Queue.length c0,.bool x.Done]∧ai3 B χ o w a0 c0 x
 toRd:=by rintro _ _ _ _ _ _ ⟨a0,c0,rfl,h⟩;exact h.rd
structure X4(B:Nat)(χ:Nat→Col)(o:Nat)(w:World)(A:aa6)(x:I8):Prop where
 o0:D0 B χ (o,0) w A.a0 A.c0 x.Offers
 o1:D0 B χ (o+1,0) w A.a1 A.c1 x.Sender.Waiting
 o2:D0 B χ (o+2,0) w A.a2 A.c2 x.Pairs
 o3:D0 B χ (o+3,0) w A.a3 A.c3 x.Records
 o4:∃ rows:List (N7 D4),rows.map (·.x)=x.Files∧M9 B χ (o+4) w A.a4 A.c4 rows
 o5:D0 B χ (o+5,0) w A.a5 A.c5 x.Told
 ok:at8 x
theorem X4.keep{B:Nat}{χ:Nat→Col}{o:Nat}{w w2:World}{A:aa6}{x:I8}(h:X4 B χ o w A x)(g:b8 B w w2):X4 B χ o w2 A x:=⟨h.o0.keep g,h.o1.keep g,h.o2.keep g,h.o3.keep g,h.o4.elim fun r hr=>⟨r,hr.1,hr.2.keep g⟩,h.o5.keep g,h.ok⟩
theorem X4.mono{B:Nat}{χ:Nat→Col}{o:Nat}{w:World}{A:aa6}{x:I8}(h:X4 B χ o w A x){B2:Nat}(g:B2≤B):X4 B2 χ o w A x:=⟨h.o0.mono g,h.o1.mono g,h.o2.mono g,h.o3.mono g,h.o4.elim fun r hr=>⟨r,hr.1,hr.2.mono g⟩,h.o5.mono g,h.ok⟩
theorem X4.f{B:Nat}{χ:Nat→Col}{o:Nat}{w:World}{A:aa6}{x:I8}(h:X4 B χ o w A x):aj6 B w A x:=⟨h.o0.rd,h.o1.rd,h.o2.rd,h.o3.rd,h.o4.elim fun r hr=>hr.1▸hr.2.rd,h.o5.rd,h.ok⟩
theorem X4.rd{B:Nat}{χ:Nat→Col}{o:Nat}{w:World}{A:aa6}{x:I8}(h:X4 B χ o w A x):Enc.Rd B w (M8 x A) x:=⟨A,rfl,h.f⟩
instance R8.iTGround:R8 I8 where
 toEnc:=inferInstance
 O B χ o w vs x:=∃ A:aa6,vs=(M8 x A)∧X4 B χ o w A x
 toRd:=by rintro _ _ _ _ _ _ ⟨A,rfl,h⟩;exact h.rd
structure ad7(B:Nat)(χ:Nat→Col)(o:Nat)(w:World)(A:ag9)(x:M7):Prop where
 o0:D0 B χ (o,0) w A.a0 A.c0 x.Board.Params
 o1:D0 B χ (o+1,0) w A.a1 A.c1 x.Board.Limits
 o2:D0 B χ (o+2,0) w A.a2 A.c2 x.Board.Orders
 o3:D0 B χ (o+3,0) w A.a3 A.c3 x.Board.Done
 o4:D0 B χ (o+4,0) w A.a4 A.c4 x.Board.Recorder.Records
 o5:D0 B χ (o+5,0) w A.a5 A.c5 x.Board.Recorder.Dropped
 o6:D0 B χ (o+6,0) w A.a6 A.c6 x.Board.Asked
 o7:D0 B χ (o+7,0) w A.a7 A.c7 x.Packer.Starts
 o8:D0 B χ (o+8,0) w A.a8 A.c8 x.Files
 o9:∃ rows:List (N7 j7),rows.map (·.x)=x.Outs∧M9 B χ (o+9) w A.a9 A.c9 rows
 o10:D0 B χ (o+10,0) w A.a10 A.c10 x.Sent
 ok:aw7 x
theorem ad7.keep{B:Nat}{χ:Nat→Col}{o:Nat}{w w2:World}{A:ag9}{x:M7}(h:ad7 B χ o w A x)(g:b8 B w w2):ad7 B χ o w2 A x:=⟨h.o0.keep g,h.o1.keep g,h.o2.keep g,h.o3.keep g,h.o4.keep g,h.o5.keep g,h.o6.keep g,h.o7.keep g,h.o8.keep g,h.o9.elim fun r hr=>⟨r,hr.1,hr.2.keep g⟩,h.o10.keep g,h.ok⟩
theorem ad7.mono{B:Nat}{χ:Nat→Col}{o:Nat}{w:World}{A:ag9}{x:M7}(h:ad7 B χ o w A x){B2:Nat}(g:B2≤B):ad7 B2 χ o w A x:=⟨h.o0.mono g,h.o1.mono g,h.o2.mono g,h.o3.mono g,h.o4.mono g,h.o5.mono g,h.o6.mono g,h.o7.mono g,h.o8.mono g,h.o9.elim fun r hr=>⟨r,hr.1,hr.2.mono g⟩,h.o10.mono g,h.ok⟩
theorem ad7.f{B:Nat}{χ:Nat→Col}{o:Nat}{w:World}{A:ag9}{x:M7}(h:ad7 B χ o w A x):ap0 B w A x:=⟨h.o0.rd,h.o1.rd,h.o2.rd,h.o3.rd,h.o4.rd,h.o5.rd,h.o6.rd,h.o7.rd,h.o8.rd,h.o9.elim fun r hr=>hr.1▸hr.2.rd,h.o10.rd,h.ok⟩
theorem ad7.rd{B:Nat}{χ:Nat→Col}{o:Nat}{w:World}{A:ag9}{x:M7}(h:ad7 B χ o w A x):Enc.Rd B w (U3 x A) x:=⟨A,rfl,h.f⟩
instance R8.iTSpace:R8 M7 where
 toEnc:=inferInstance
 O B χ o w vs x:=∃ A:ag9,vs=(U3 x A)∧ad7 B χ o w A x
 toRd:=by rintro _ _ _ _ _ _ ⟨A,rfl,h⟩;exact h.rd
structure I1(B:Nat)(χ:Nat→Col)(o:Nat)(w:World)(A:I9)(x:f5):Prop where
 o0:D0 B χ (o,0) w A.a0 A.c0 x.Plan
 o1:D0 B χ (o+1,0) w A.a1 A.c1 x.Ups
 o2:D0 B χ (o+2,0) w A.a2 A.c2 x.Downs
 o3:D0 B χ (o+3,0) w A.a3 A.c3 x.Ground.Offers
 o4:D0 B χ (o+4,0) w A.a4 A.c4 x.Ground.Sender.Waiting
 o5:D0 B χ (o+5,0) w A.a5 A.c5 x.Ground.Pairs
 o6:D0 B χ (o+6,0) w A.a6 A.c6 x.Ground.Records
 o7:∃ rows:List (N7 D4),rows.map (·.x)=x.Ground.Files∧M9 B χ (o+7) w A.a7 A.c7 rows
 o8:D0 B χ (o+8,0) w A.a8 A.c8 x.Ground.Told
 o9:D0 B χ (o+9,0) w A.a9 A.c9 x.Space.Board.Params
 o10:D0 B χ (o+10,0) w A.a10 A.c10 x.Space.Board.Limits
 o11:D0 B χ (o+11,0) w A.a11 A.c11 x.Space.Board.Orders
 o12:D0 B χ (o+12,0) w A.a12 A.c12 x.Space.Board.Done
 o13:D0 B χ (o+13,0) w A.a13 A.c13 x.Space.Board.Recorder.Records
 o14:D0 B χ (o+14,0) w A.a14 A.c14 x.Space.Board.Recorder.Dropped
 o15:D0 B χ (o+15,0) w A.a15 A.c15 x.Space.Board.Asked
 o16:D0 B χ (o+16,0) w A.a16 A.c16 x.Space.Packer.Starts
 o17:D0 B χ (o+17,0) w A.a17 A.c17 x.Space.Files
 o18:∃ rows:List (N7 j7),rows.map (·.x)=x.Space.Outs∧M9 B χ (o+18) w A.a18 A.c18 rows
 o19:D0 B χ (o+19,0) w A.a19 A.c19 x.Space.Sent
 o20:D0 B χ (o+20,0) w A.a20 A.c20 x.Offered
 o21:D0 B χ (o+21,0) w A.a21 A.c21 x.Took
 ok:al6 x
theorem I1.to{B:Nat}{χ:Nat→Col}{o:Nat}{w w2:World}{A:I9}{x:f5}(h:I1 B χ o w A x)(g:d5 w w2):I1 B χ o w2 A x:=⟨h.o0.to g,h.o1.to g,h.o2.to g,h.o3.to g,h.o4.to g,h.o5.to g,h.o6.to g,h.o7.elim fun r hr=>⟨r,hr.1,hr.2.to g⟩,h.o8.to g,h.o9.to g,h.o10.to g,h.o11.to g,h.o12.to g,h.o13.to g,h.o14.to g,h.o15.to g,h.o16.to g,h.o17.to g,h.o18.elim fun r hr=>⟨r,hr.1,hr.2.to g⟩,h.o19.to g,h.o20.to g,h.o21.to g,h.ok⟩
theorem I1.keep{B:Nat}{χ:Nat→Col}{o:Nat}{w w2:World}{A:I9}{x:f5}(h:I1 B χ o w A x)(g:b8 B w w2):I1 B χ o w2 A x:=⟨h.o0.keep g,h.o1.keep g,h.o2.keep g,h.o3.keep g,h.o4.keep g,h.o5.keep g,h.o6.keep g,h.o7.elim fun r hr=>⟨r,hr.1,hr.2.keep g⟩,h.o8.keep g,h.o9.keep g,h.o10.keep g,h.o11.keep g,h.o12.keep g,h.o13.keep g,h.o14.keep g,h.o15.keep g,h.o16.keep g,h.o17.keep g,h.o18.elim fun r hr=>⟨r,hr.1,hr.2.keep g⟩,h.o19.keep g,h.o20.keep g,h.o21.keep g,h.ok⟩
theorem I1.mono{B:Nat}{χ:Nat→Col}{o:Nat}{w:World}{A:I9}{x:f5}(h:I1 B χ o w A x){B2:Nat}(g:B2≤B):I1 B2 χ o w A x:=⟨h.o0.mono g,h.o1.mono g,h.o2.mono g,h.o3.mono g,h.o4.mono g,h.o5.mono g,h.o6.mono g,h.o7.elim fun r hr=>⟨r,hr.1,hr.2.mono g⟩,h.o8.mono g,h.o9.mono g,h.o10.mono g,h.o11.mono g,h.o12.mono g,h.o13.mono g,h.o14.mono g,h.o15.mono g,h.o16.mono g,h.o17.mono g,h.o18.elim fun r hr=>⟨r,hr.1,hr.2.mono g⟩,h.o19.mono g,h.o20.mono g,h.o21.mono g,h.ok⟩
theorem I1.old{B:Nat}{χ χ2:Nat→Col}{o:Nat}{w:World}{A:I9}{x:f5}(h:I1 B χ o w A x){f:Col→Col}{U:Nat}(g:w.heap.size≤U):I1 B (E9 U χ χ2 f) o w A x:=⟨h.o0.old g,h.o1.old g,h.o2.old g,h.o3.old g,h.o4.old g,h.o5.old g,h.o6.old g,h.o7.elim fun r hr=>⟨r,hr.1,hr.2.old g⟩,h.o8.old g,h.o9.old g,h.o10.old g,h.o11.old g,h.o12.old g,h.o13.old g,h.o14.old g,h.o15.old g,h.o16.old g,h.o17.old g,h.o18.elim fun r hr=>⟨r,hr.1,hr.2.old g⟩,h.o19.old g,h.o20.old g,h.o21.old g,h.ok⟩
theorem I1.f{B:Nat}{χ:Nat→Col}{o:Nat}{w:World}{A:I9}{x:f5}(h:I1 B χ o w A x):ad8 B w A x:=⟨h.o0.rd,h.o1.rd,h.o2.rd,h.o3.rd,h.o4.rd,h.o5.rd,h.o6.rd,h.o7.elim fun r hr=>hr.1▸hr.2.rd,h.o8.rd,h.o9.rd,h.o10.rd,h.o11.rd,h.o12.rd,h.o13.rd,h.o14.rd,h.o15.rd,h.o16.rd,h.o17.rd,h.o18.elim fun r hr=>hr.1▸hr.2.rd,h.o19.rd,h.o20.rd,h.o21.rd,h.ok⟩
theorem I1.rd{B:Nat}{χ:Nat→Col}{o:Nat}{w:World}{A:I9}{x:f5}(h:I1 B χ o w A x):Enc.Rd B w (A0 x A) x:=⟨A,rfl,h.f⟩
instance R8.iTMission:R8 f5 where
 toEnc:=inferInstance
 O B χ o w vs x:=∃ A:I9,vs=(A0 x A)∧I1 B χ o w A x
 toRd:=by rintro _ _ _ _ _ _ ⟨A,rfl,h⟩;exact h.rd
