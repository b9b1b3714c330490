/- Ownership of the structs with slices: each slice has a colour of its own. -/
import Derived.Test.YtdijmbipcgalfaaGreatHOwnF
namespace Go.Proofs.YtdijmbipcgalfaaGreat
set_option linter.unusedVariables false
open Go.ChangeShapes Go.WideShapes Go.ChangeAt Go.RowKit
class W0(α:Type) extends Enc α where
 O:Nat→(Nat→Col)→Nat→World→List Value→α→Prop
 toRd:∀ {B χ o w vs x},O B χ o w vs x→Rd B w vs x
def R3{α:Type}[E:W0 α](w:World)(x:α):Ending→World→Prop:=fun e w'=>∃ (vs:List Value) (χ:Nat→Col),e=.returned (.agg vs.toArray)∧E.O w.heap.size χ 0 w' vs x∧∃ y:b7 w,w'=y.w
theorem R3.d{α:Type}[E:W0 α]{w w':World}{x:α}{e:Ending}(h:R3 w x e w'):ai3 w x e w':=by
 obtain⟨vs,χ,he,ho,hy⟩:=h
 exact⟨vs,he,E.toRd ho,hy⟩
def B9(d:Nat)(i:Col):Col:=(i.1+d,i.2)
theorem B6.ic{α:Type}[E:D7 α]{B:Nat}{χ:Nat→Col}{i i':Col}{w:World}{a:Option Addr}{c:Nat}{l:List α}(h:B6 B χ i w a c l)(e:i=i'):B6 B χ i' w a c l:=e▸h
instance ap4.iTFileIn:ap4 A8 ByteArray where
 toEnc:=inferInstance
 cells x a c:=[I x.File,I x.Size,I x.Check,.slice a x.Parts.length c]
 inner x:=x.Parts
 ty:=179
 good:=aq3
 cellsLen:=fun _ _ _=>rfl
 one:=fun x a c u hu=>by
  simp only[List.mem_cons,List.not_mem_nil,or_false]at hu
  rcases hu with rfl|rfl|rfl|rfl<;>rfl
instance ba4.iTFileIn:ba4 A8 where
 rd:=fun h1 h2=>⟨_,_,rfl,h2,h1⟩
instance ap4.iTFileOut:ap4 s7 Int where
 toEnc:=inferInstance
 cells x a c:=[I x.File,.string x.Data,.slice a x.Queue.length c,.bool x.Done]
 inner x:=x.Queue
 ty:=183
 good:=af7
 cellsLen:=fun _ _ _=>rfl
 one:=fun x a c u hu=>by
  simp only[List.mem_cons,List.not_mem_nil,or_false]at hu
  rcases hu with rfl|rfl|rfl|rfl<;>rfl
instance ba4.iTFileOut:ba4 s7 where
 rd:=fun h1 h2=>⟨_,_,rfl,h2,h1⟩
structure ab2(B:Nat)(χ:Nat→Col)(o:Nat)(w:World)(a0:Option Addr)(c0:Nat)(x:Q8):Prop where
 o0:B6 B χ (o,0) w a0 c0 x.Starts
 ok:aK7 x
theorem ab2.keep{B:Nat}{χ:Nat→Col}{o:Nat}{w w2:World}{a0:Option Addr}{c0:Nat}{x:Q8}(h:ab2 B χ o w a0 c0 x)(g:d7 B w w2):ab2 B χ o w2 a0 c0 x:=⟨h.o0.keep g,h.ok⟩
theorem ab2.mono{B:Nat}{χ:Nat→Col}{o:Nat}{w:World}{a0:Option Addr}{c0:Nat}{x:Q8}(h:ab2 B χ o w a0 c0 x){B2:Nat}(g:B2≤B):ab2 B2 χ o w a0 c0 x:=⟨h.o0.mono g,h.ok⟩
theorem ab2.rd{B:Nat}{χ:Nat→Col}{o:Nat}{w:World}{a0:Option Addr}{c0:Nat}{x:Q8}(h:ab2 B χ o w a0 c0 x):Enc.Rd B w [I x.Channel,I x.Count,.string x.Rest,.slice a0 x.Starts.length c0] x:=⟨a0,c0,rfl,h.o0.rd,h.ok⟩
instance W0.iTPacker:W0 Q8 where
 toEnc:=inferInstance
 O B χ o w vs x:=∃ (a0:Option Addr) (c0:Nat),vs=[I x.Channel,I x.Count,.string x.Rest,.slice a0 x.Starts.length c0]∧ab2 B χ o w a0 c0 x
 toRd:=by rintro _ _ _ _ _ _ ⟨a0,c0,rfl,h⟩;exact h.rd
structure ab3(B:Nat)(χ:Nat→Col)(o:Nat)(w:World)(a0:Option Addr)(c0:Nat)(x:E8):Prop where
 o0:B6 B χ (o,0) w a0 c0 x.Waiting
 ok:am4 x
theorem ab3.keep{B:Nat}{χ:Nat→Col}{o:Nat}{w w2:World}{a0:Option Addr}{c0:Nat}{x:E8}(h:ab3 B χ o w a0 c0 x)(g:d7 B w w2):ab3 B χ o w2 a0 c0 x:=⟨h.o0.keep g,h.ok⟩
theorem ab3.mono{B:Nat}{χ:Nat→Col}{o:Nat}{w:World}{a0:Option Addr}{c0:Nat}{x:E8}(h:ab3 B χ o w a0 c0 x){B2:Nat}(g:B2≤B):ab3 B2 χ o w a0 c0 x:=⟨h.o0.mono g,h.ok⟩
theorem ab3.rd{B:Nat}{χ:Nat→Col}{o:Nat}{w:World}{a0:Option Addr}{c0:Nat}{x:E8}(h:ab3 B χ o w a0 c0 x):Enc.Rd B w [I x.Next,I x.Window,.slice a0 x.Waiting.length c0,I x.Done] x:=⟨a0,c0,rfl,h.o0.rd,h.ok⟩
instance W0.iTSender:W0 E8 where
 toEnc:=inferInstance
 O B χ o w vs x:=∃ (a0:Option Addr) (c0:Nat),vs=[I x.Next,I x.Window,.slice a0 x.Waiting.length c0,I x.Done]∧ab3 B χ o w a0 c0 x
 toRd:=by rintro _ _ _ _ _ _ ⟨a0,c0,rfl,h⟩;exact h.rd
structure U6(B:Nat)(χ:Nat→Col)(o:Nat)(w:World)(a0:Option Addr)(c0:Nat)(a1:Option Addr)(c1:Nat)(x:I9):Prop where
 o0:B6 B χ (o,0) w a0 c0 x.Records
 o1:B6 B χ (o+1,0) w a1 c1 x.Dropped
 ok:az8 x
theorem U6.keep{B:Nat}{χ:Nat→Col}{o:Nat}{w w2:World}{a0:Option Addr}{c0:Nat}{a1:Option Addr}{c1:Nat}{x:I9}(h:U6 B χ o w a0 c0 a1 c1 x)(g:d7 B w w2):U6 B χ o w2 a0 c0 a1 c1 x:=⟨h.o0.keep g,h.o1.keep g,h.ok⟩
theorem U6.mono{B:Nat}{χ:Nat→Col}{o:Nat}{w:World}{a0:Option Addr}{c0:Nat}{a1:Option Addr}{c1:Nat}{x:I9}(h:U6 B χ o w a0 c0 a1 c1 x){B2:Nat}(g:B2≤B):U6 B2 χ o w a0 c0 a1 c1 x:=⟨h.o0.mono g,h.o1.mono g,h.ok⟩
theorem U6.rd{B:Nat}{χ:Nat→Col}{o:Nat}{w:World}{a0:Option Addr}{c0:Nat}{a1:Option Addr}{c1:Nat}{x:I9}(h:U6 B χ o w a0 c0 a1 c1 x):Enc.Rd B w [I x.Room,.slice a0 x.Records.length c0,.slice a1 x.Dropped.length c1] x:=⟨a0,c0,a1,c1,rfl,h.o0.rd,h.o1.rd,h.ok⟩
instance W0.iTRecorder:W0 I9 where
 toEnc:=inferInstance
 O B χ o w vs x:=∃ (a0:Option Addr) (c0:Nat),∃ (a1:Option Addr) (c1:Nat),vs=[I x.Room,.slice a0 x.Records.length c0,.slice a1 x.Dropped.length c1]∧U6 B χ o w a0 c0 a1 c1 x
 toRd:=by rintro _ _ _ _ _ _ ⟨a0,c0,a1,c1,rfl,h⟩;exact h.rd
structure ad5(B:Nat)(χ:Nat→Col)(o:Nat)(w:World)(A:af9)(x:I3):Prop where
 o0:B6 B χ (o,0) w A.a0 A.c0 x.Params
 o1:B6 B χ (o+1,0) w A.a1 A.c1 x.Limits
 o2:B6 B χ (o+2,0) w A.a2 A.c2 x.Orders
 o3:B6 B χ (o+3,0) w A.a3 A.c3 x.Done
 o4:B6 B χ (o+4,0) w A.a4 A.c4 x.Recorder.Records
 o5:B6 B χ (o+5,0) w A.a5 A.c5 x.Recorder.Dropped
 o6:B6 B χ (o+6,0) w A.a6 A.c6 x.Asked
 ok:at3 x
theorem ad5.keep{B:Nat}{χ:Nat→Col}{o:Nat}{w w2:World}{A:af9}{x:I3}(h:ad5 B χ o w A x)(g:d7 B w w2):ad5 B χ o w2 A x:=⟨h.o0.keep g,h.o1.keep g,h.o2.keep g,h.o3.keep g,h.o4.keep g,h.o5.keep g,h.o6.keep g,h.ok⟩
theorem ad5.mono{B:Nat}{χ:Nat→Col}{o:Nat}{w:World}{A:af9}{x:I3}(h:ad5 B χ o w A x){B2:Nat}(g:B2≤B):ad5 B2 χ o w A x:=⟨h.o0.mono g,h.o1.mono g,h.o2.mono g,h.o3.mono g,h.o4.mono g,h.o5.mono g,h.o6.mono g,h.ok⟩
theorem ad5.f{B:Nat}{χ:Nat→Col}{o:Nat}{w:World}{A:af9}{x:I3}(h:ad5 B χ o w A x):an3 B w A x:=⟨h.o0.rd,h.o1.rd,h.o2.rd,h.o3.rd,h.o4.rd,h.o5.rd,h.o6.rd,h.ok⟩
theorem ad5.rd{B:Nat}{χ:Nat→Col}{o:Nat}{w:World}{A:af9}{x:I3}(h:ad5 B χ o w A x):Enc.Rd B w (F8 x A) x:=⟨A,rfl,h.f⟩
instance W0.iTBoard:W0 I3 where
 toEnc:=inferInstance
 O B χ o w vs x:=∃ A:af9,vs=(F8 x A)∧ad5 B χ o w A x
 toRd:=by rintro _ _ _ _ _ _ ⟨A,rfl,h⟩;exact h.rd
structure an5(B:Nat)(χ:Nat→Col)(o:Nat)(w:World)(a0:Option Addr)(c0:Nat)(x:A8):Prop where
 o0:B6 B χ (o,0) w a0 c0 x.Parts
 ok:aq3 x
theorem an5.keep{B:Nat}{χ:Nat→Col}{o:Nat}{w w2:World}{a0:Option Addr}{c0:Nat}{x:A8}(h:an5 B χ o w a0 c0 x)(g:d7 B w w2):an5 B χ o w2 a0 c0 x:=⟨h.o0.keep g,h.ok⟩
theorem an5.mono{B:Nat}{χ:Nat→Col}{o:Nat}{w:World}{a0:Option Addr}{c0:Nat}{x:A8}(h:an5 B χ o w a0 c0 x){B2:Nat}(g:B2≤B):an5 B2 χ o w a0 c0 x:=⟨h.o0.mono g,h.ok⟩
theorem an5.rd{B:Nat}{χ:Nat→Col}{o:Nat}{w:World}{a0:Option Addr}{c0:Nat}{x:A8}(h:an5 B χ o w a0 c0 x):Enc.Rd B w [I x.File,I x.Size,I x.Check,.slice a0 x.Parts.length c0] x:=⟨a0,c0,rfl,h.o0.rd,h.ok⟩
instance W0.iTFileIn:W0 A8 where
 toEnc:=inferInstance
 O B χ o w vs x:=∃ (a0:Option Addr) (c0:Nat),vs=[I x.File,I x.Size,I x.Check,.slice a0 x.Parts.length c0]∧an5 B χ o w a0 c0 x
 toRd:=by rintro _ _ _ _ _ _ ⟨a0,c0,rfl,h⟩;exact h.rd
structure ak2(B:Nat)(χ:Nat→Col)(o:Nat)(w:World)(a0:Option Addr)(c0:Nat)(x:s7):Prop where
 o0:B6 B χ (o,0) w a0 c0 x.Queue
 ok:af7 x
theorem ak2.keep{B:Nat}{χ:Nat→Col}{o:Nat}{w w2:World}{a0:Option Addr}{c0:Nat}{x:s7}(h:ak2 B χ o w a0 c0 x)(g:d7 B w w2):ak2 B χ o w2 a0 c0 x:=⟨h.o0.keep g,h.ok⟩
theorem ak2.mono{B:Nat}{χ:Nat→Col}{o:Nat}{w:World}{a0:Option Addr}{c0:Nat}{x:s7}(h:ak2 B χ o w a0 c0 x){B2:Nat}(g:B2≤B):ak2 B2 χ o w a0 c0 x:=⟨h.o0.mono g,h.ok⟩
theorem ak2.rd{B:Nat}{χ:Nat→Col}{o:Nat}{w:World}{a0:Option Addr}{c0:Nat}{x:s7}(h:ak2 B χ o w a0 c0 x):Enc.Rd B w [I x.File,.string x.Data,.slice a0 x.Queue.length c0,.bool x.Done] x:=⟨a0,c0,rfl,h.o0.rd,h.ok⟩
instance W0.iTFileOut:W0 s7 where
 toEnc:=inferInstance
 O B χ o w vs x:=∃ (a0:Option Addr) (c0:Nat),vs=[I x.File,.string x.Data,.slice a0 x.Queue.length c0,.bool x.Done]∧ak2 B χ o w a0 c0 x
 toRd:=by rintro _ _ _ _ _ _ ⟨a0,c0,rfl,h⟩;exact h.rd
structure X6(B:Nat)(χ:Nat→Col)(o:Nat)(w:World)(A:ab1)(x:I8):Prop where
 o0:B6 B χ (o,0) w A.a0 A.c0 x.Offers
 o1:B6 B χ (o+1,0) w A.a1 A.c1 x.Sender.Waiting
 o2:B6 B χ (o+2,0) w A.a2 A.c2 x.Pairs
 o3:B6 B χ (o+3,0) w A.a3 A.c3 x.Records
 o4:∃ rows:List (N2 A8),rows.map (·.x)=x.Files∧M3 B χ (o+4) w A.a4 A.c4 rows
 o5:B6 B χ (o+5,0) w A.a5 A.c5 x.Told
 ok:av3 x
theorem X6.keep{B:Nat}{χ:Nat→Col}{o:Nat}{w w2:World}{A:ab1}{x:I8}(h:X6 B χ o w A x)(g:d7 B w w2):X6 B χ o w2 A x:=⟨h.o0.keep g,h.o1.keep g,h.o2.keep g,h.o3.keep g,h.o4.elim fun r hr=>⟨r,hr.1,hr.2.keep g⟩,h.o5.keep g,h.ok⟩
theorem X6.mono{B:Nat}{χ:Nat→Col}{o:Nat}{w:World}{A:ab1}{x:I8}(h:X6 B χ o w A x){B2:Nat}(g:B2≤B):X6 B2 χ o w A x:=⟨h.o0.mono g,h.o1.mono g,h.o2.mono g,h.o3.mono g,h.o4.elim fun r hr=>⟨r,hr.1,hr.2.mono g⟩,h.o5.mono g,h.ok⟩
theorem X6.f{B:Nat}{χ:Nat→Col}{o:Nat}{w:World}{A:ab1}{x:I8}(h:X6 B χ o w A x):al1 B w A x:=⟨h.o0.rd,h.o1.rd,h.o2.rd,h.o3.rd,h.o4.elim fun r hr=>hr.1▸hr.2.rd,h.o5.rd,h.ok⟩
theorem X6.rd{B:Nat}{χ:Nat→Col}{o:Nat}{w:World}{A:ab1}{x:I8}(h:X6 B χ o w A x):Enc.Rd B w (M1 x A) x:=⟨A,rfl,h.f⟩
instance W0.iTGround:W0 I8 where
 toEnc:=inferInstance
 O B χ o w vs x:=∃ A:ab1,vs=(M1 x A)∧X6 B χ o w A x
 toRd:=by rintro _ _ _ _ _ _ ⟨A,rfl,h⟩;exact h.rd
structure ad6(B:Nat)(χ:Nat→Col)(o:Nat)(w:World)(A:ah7)(x:M0):Prop where
 o0:B6 B χ (o,0) w A.a0 A.c0 x.Board.Params
 o1:B6 B χ (o+1,0) w A.a1 A.c1 x.Board.Limits
 o2:B6 B χ (o+2,0) w A.a2 A.c2 x.Board.Orders
 o3:B6 B χ (o+3,0) w A.a3 A.c3 x.Board.Done
 o4:B6 B χ (o+4,0) w A.a4 A.c4 x.Board.Recorder.Records
 o5:B6 B χ (o+5,0) w A.a5 A.c5 x.Board.Recorder.Dropped
 o6:B6 B χ (o+6,0) w A.a6 A.c6 x.Board.Asked
 o7:B6 B χ (o+7,0) w A.a7 A.c7 x.Packer.Starts
 o8:B6 B χ (o+8,0) w A.a8 A.c8 x.Files
 o9:∃ rows:List (N2 s7),rows.map (·.x)=x.Outs∧M3 B χ (o+9) w A.a9 A.c9 rows
 o10:B6 B χ (o+10,0) w A.a10 A.c10 x.Sent
 ok:ax6 x
theorem ad6.keep{B:Nat}{χ:Nat→Col}{o:Nat}{w w2:World}{A:ah7}{x:M0}(h:ad6 B χ o w A x)(g:d7 B w w2):ad6 B χ o w2 A x:=⟨h.o0.keep g,h.o1.keep g,h.o2.keep g,h.o3.keep g,h.o4.keep g,h.o5.keep g,h.o6.keep g,h.o7.keep g,h.o8.keep g,h.o9.elim fun r hr=>⟨r,hr.1,hr.2.keep g⟩,h.o10.keep g,h.ok⟩
theorem ad6.mono{B:Nat}{χ:Nat→Col}{o:Nat}{w:World}{A:ah7}{x:M0}(h:ad6 B χ o w A x){B2:Nat}(g:B2≤B):ad6 B2 χ o w A x:=⟨h.o0.mono g,h.o1.mono g,h.o2.mono g,h.o3.mono g,h.o4.mono g,h.o5.mono g,h.o6.mono g,h.o7.mono g,h.o8.mono g,h.o9.elim fun r hr=>⟨r,hr.1,hr.2.mono g⟩,h.o10.mono g,h.ok⟩
theorem ad6.f{B:Nat}{χ:Nat→Col}{o:Nat}{w:World}{A:ah7}{x:M0}(h:ad6 B χ o w A x):aq7 B w A x:=⟨h.o0.rd,h.o1.rd,h.o2.rd,h.o3.rd,h.o4.rd,h.o5.rd,h.o6.rd,h.o7.rd,h.o8.rd,h.o9.elim fun r hr=>hr.1▸hr.2.rd,h.o10.rd,h.ok⟩
theorem ad6.rd{B:Nat}{χ:Nat→Col}{o:Nat}{w:World}{A:ah7}{x:M0}(h:ad6 B χ o w A x):Enc.Rd B w (S9 x A) x:=⟨A,rfl,h.f⟩
instance W0.iTSpace:W0 M0 where
 toEnc:=inferInstance
 O B χ o w vs x:=∃ A:ah7,vs=(S9 x A)∧ad6 B χ o w A x
 toRd:=by rintro _ _ _ _ _ _ ⟨A,rfl,h⟩;exact h.rd
structure D9(B:Nat)(χ:Nat→Col)(o:Nat)(w:World)(A:I1)(x:f7):Prop where
 o0:B6 B χ (o,0) w A.a0 A.c0 x.Plan
 o1:B6 B χ (o+1,0) w A.a1 A.c1 x.Ups
 o2:B6 B χ (o+2,0) w A.a2 A.c2 x.Downs
 o3:B6 B χ (o+3,0) w A.a3 A.c3 x.Ground.Offers
 o4:B6 B χ (o+4,0) w A.a4 A.c4 x.Ground.Sender.Waiting
 o5:B6 B χ (o+5,0) w A.a5 A.c5 x.Ground.Pairs
 o6:B6 B χ (o+6,0) w A.a6 A.c6 x.Ground.Records
 o7:∃ rows:List (N2 A8),rows.map (·.x)=x.Ground.Files∧M3 B χ (o+7) w A.a7 A.c7 rows
 o8:B6 B χ (o+8,0) w A.a8 A.c8 x.Ground.Told
 o9:B6 B χ (o+9,0) w A.a9 A.c9 x.Space.Board.Params
 o10:B6 B χ (o+10,0) w A.a10 A.c10 x.Space.Board.Limits
 o11:B6 B χ (o+11,0) w A.a11 A.c11 x.Space.Board.Orders
 o12:B6 B χ (o+12,0) w A.a12 A.c12 x.Space.Board.Done
 o13:B6 B χ (o+13,0) w A.a13 A.c13 x.Space.Board.Recorder.Records
 o14:B6 B χ (o+14,0) w A.a14 A.c14 x.Space.Board.Recorder.Dropped
 o15:B6 B χ (o+15,0) w A.a15 A.c15 x.Space.Board.Asked
 o16:B6 B χ (o+16,0) w A.a16 A.c16 x.Space.Packer.Starts
 o17:B6 B χ (o+17,0) w A.a17 A.c17 x.Space.Files
 o18:∃ rows:List (N2 s7),rows.map (·.x)=x.Space.Outs∧M3 B χ (o+18) w A.a18 A.c18 rows
 o19:B6 B χ (o+19,0) w A.a19 A.c19 x.Space.Sent
 o20:B6 B χ (o+20,0) w A.a20 A.c20 x.Offered
 o21:B6 B χ (o+21,0) w A.a21 A.c21 x.Took
 ok:af8 x
theorem D9.to{B:Nat}{χ:Nat→Col}{o:Nat}{w w2:World}{A:I1}{x:f7}(h:D9 B χ o w A x)(g:b8 w w2):D9 B χ o w2 A x:=⟨h.o0.to g,h.o1.to g,h.o2.to g,h.o3.to g,h.o4.to g,h.o5.to g,h.o6.to g,h.o7.elim fun r hr=>⟨r,hr.1,hr.2.to g⟩,h.o8.to g,h.o9.to g,h.o10.to g,h.o11.to g,h.o12.to g,h.o13.to g,h.o14.to g,h.o15.to g,h.o16.to g,h.o17.to g,h.o18.elim fun r hr=>⟨r,hr.1,hr.2.to g⟩,h.o19.to g,h.o20.to g,h.o21.to g,h.ok⟩
theorem D9.keep{B:Nat}{χ:Nat→Col}{o:Nat}{w w2:World}{A:I1}{x:f7}(h:D9 B χ o w A x)(g:d7 B w w2):D9 B χ o w2 A x:=⟨h.o0.keep g,h.o1.keep g,h.o2.keep g,h.o3.keep g,h.o4.keep g,h.o5.keep g,h.o6.keep g,h.o7.elim fun r hr=>⟨r,hr.1,hr.2.keep g⟩,h.o8.keep g,h.o9.keep g,h.o10.keep g,h.o11.keep g,h.o12.keep g,h.o13.keep g,h.o14.keep g,h.o15.keep g,h.o16.keep g,h.o17.keep g,h.o18.elim fun r hr=>⟨r,hr.1,hr.2.keep g⟩,h.o19.keep g,h.o20.keep g,h.o21.keep g,h.ok⟩
theorem D9.mono{B:Nat}{χ:Nat→Col}{o:Nat}{w:World}{A:I1}{x:f7}(h:D9 B χ o w A x){B2:Nat}(g:B2≤B):D9 B2 χ o w A x:=⟨h.o0.mono g,h.o1.mono g,h.o2.mono g,h.o3.mono g,h.o4.mono g,h.o5.mono g,h.o6.mono g,h.o7.elim fun r hr=>⟨r,hr.1,hr.2.mono g⟩,h.o8.mono g,h.o9.mono g,h.o10.mono g,h.o11.mono g,h.o12.mono g,h.o13.mono g,h.o14.mono g,h.o15.mono g,h.o16.mono g,h.o17.mono g,h.o18.elim fun r hr=>⟨r,hr.1,hr.2.mono g⟩,h.o19.mono g,h.o20.mono g,h.o21.mono g,h.ok⟩
theorem D9.old{B:Nat}{χ χ2:Nat→Col}{o:Nat}{w:World}{A:I1}{x:f7}(h:D9 B χ o w A x){f:Col→Col}{U:Nat}(g:w.heap.size≤U):D9 B (I7 U χ χ2 f) o w A x:=⟨h.o0.old g,h.o1.old g,h.o2.old g,h.o3.old g,h.o4.old g,h.o5.old g,h.o6.old g,h.o7.elim fun r hr=>⟨r,hr.1,hr.2.old g⟩,h.o8.old g,h.o9.old g,h.o10.old g,h.o11.old g,h.o12.old g,h.o13.old g,h.o14.old g,h.o15.old g,h.o16.old g,h.o17.old g,h.o18.elim fun r hr=>⟨r,hr.1,hr.2.old g⟩,h.o19.old g,h.o20.old g,h.o21.old g,h.ok⟩
theorem D9.f{B:Nat}{χ:Nat→Col}{o:Nat}{w:World}{A:I1}{x:f7}(h:D9 B χ o w A x):ad7 B w A x:=⟨h.o0.rd,h.o1.rd,h.o2.rd,h.o3.rd,h.o4.rd,h.o5.rd,h.o6.rd,h.o7.elim fun r hr=>hr.1▸hr.2.rd,h.o8.rd,h.o9.rd,h.o10.rd,h.o11.rd,h.o12.rd,h.o13.rd,h.o14.rd,h.o15.rd,h.o16.rd,h.o17.rd,h.o18.elim fun r hr=>hr.1▸hr.2.rd,h.o19.rd,h.o20.rd,h.o21.rd,h.ok⟩
theorem D9.rd{B:Nat}{χ:Nat→Col}{o:Nat}{w:World}{A:I1}{x:f7}(h:D9 B χ o w A x):Enc.Rd B w (s9 x A) x:=⟨A,rfl,h.f⟩
instance W0.iTMission:W0 f7 where
 toEnc:=inferInstance
 O B χ o w vs x:=∃ A:I1,vs=(s9 x A)∧D9 B χ o w A x
 toRd:=by rintro _ _ _ _ _ _ ⟨A,rfl,h⟩;exact h.rd
