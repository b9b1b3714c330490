/- Ownership of the structs with slices: each slice has a colour of its own. -/
import Derived.Test.YthbepablpaldgaaGreatSOwnF
namespace Go.Proofs.YthbepablpaldgaaGreat
set_option linter.unusedVariables false
open Go.ChangeShapes Go.WideShapes Go.ChangeAt Go.RowKit
class EncO(α:Type) extends Enc α where
 O:Nat→(Nat→Col)→Nat→World→List Value→α→Prop
 toRd:∀ {B χ o w vs x},O B χ o w vs x→Rd B w vs x
def GivesO{α:Type}[E:EncO α](w:World)(x:α):Ending→World→Prop:=fun e w'=>∃ (vs:List Value) (χ:Nat→Col),e=.returned (.agg vs.toArray)∧E.O w.heap.size χ 0 w' vs x∧∃ y:Later w,w'=y.w
theorem GivesO.d{α:Type}[E:EncO α]{w w':World}{x:α}{e:Ending}(h:GivesO w x e w'):GivesD w x e w':=by
 obtain⟨vs,χ,he,ho,hy⟩:=h
 exact⟨vs,he,E.toRd ho,hy⟩
def shift(d:Nat)(i:Col):Col:=(i.1+d,i.2)
theorem OwnC.ic{α:Type}[E:Flat α]{B:Nat}{χ:Nat→Col}{i i':Col}{w:World}{a:Option Addr}{c:Nat}{l:List α}(h:OwnC B χ i w a c l)(e:i=i'):OwnC B χ i' w a c l:=e▸h
instance Nest.iTFileIn:Nest TFileIn ByteArray where
 toEnc:=inferInstance
 cells x a c:=[.int .i64 x.File,.int .i64 x.Size,.int .i64 x.Check,.slice a x.Parts.length c]
 inner x:=x.Parts
 ty:=154
 good:=okDTFileIn
 cellsLen:=fun _ _ _=>rfl
 one:=fun x a c u hu=>by
  simp only[List.mem_cons,List.not_mem_nil,or_false]at hu
  rcases hu with rfl|rfl|rfl|rfl<;>rfl
instance NestRd.iTFileIn:NestRd TFileIn where
 rd:=fun h1 h2=>⟨_,_,rfl,h2,h1⟩
instance Nest.iTFileOut:Nest TFileOut Int where
 toEnc:=inferInstance
 cells x a c:=[.int .i64 x.File,.string x.Data,.slice a x.Queue.length c,.bool x.Done]
 inner x:=x.Queue
 ty:=105
 good:=okDTFileOut
 cellsLen:=fun _ _ _=>rfl
 one:=fun x a c u hu=>by
  simp only[List.mem_cons,List.not_mem_nil,or_false]at hu
  rcases hu with rfl|rfl|rfl|rfl<;>rfl
instance NestRd.iTFileOut:NestRd TFileOut where
 rd:=fun h1 h2=>⟨_,_,rfl,h2,h1⟩
structure TPackerO(B:Nat)(χ:Nat→Col)(o:Nat)(w:World)(a0:Option Addr)(c0:Nat)(x:TPacker):Prop where
 o0:OwnC B χ (o,0) w a0 c0 x.Starts
 ok:okDTPacker x
theorem TPackerO.keep{B:Nat}{χ:Nat→Col}{o:Nat}{w w2:World}{a0:Option Addr}{c0:Nat}{x:TPacker}(h:TPackerO B χ o w a0 c0 x)(g:Keeps B w w2):TPackerO B χ o w2 a0 c0 x:=⟨h.o0.keep g,h.ok⟩
theorem TPackerO.mono{B:Nat}{χ:Nat→Col}{o:Nat}{w:World}{a0:Option Addr}{c0:Nat}{x:TPacker}(h:TPackerO B χ o w a0 c0 x){B2:Nat}(g:B2≤B):TPackerO B2 χ o w a0 c0 x:=⟨h.o0.mono g,h.ok⟩
theorem TPackerO.rd{B:Nat}{χ:Nat→Col}{o:Nat}{w:World}{a0:Option Addr}{c0:Nat}{x:TPacker}(h:TPackerO B χ o w a0 c0 x):Enc.Rd B w [.int .i64 x.Channel,.int .i64 x.Count,.string x.Rest,.slice a0 x.Starts.length c0] x:=⟨a0,c0,rfl,h.o0.rd,h.ok⟩
instance EncO.iTPacker:EncO TPacker where
 toEnc:=inferInstance
 O B χ o w vs x:=∃ (a0:Option Addr) (c0:Nat),vs=[.int .i64 x.Channel,.int .i64 x.Count,.string x.Rest,.slice a0 x.Starts.length c0]∧TPackerO B χ o w a0 c0 x
 toRd:=by rintro _ _ _ _ _ _ ⟨a0,c0,rfl,h⟩;exact h.rd
structure TSenderO(B:Nat)(χ:Nat→Col)(o:Nat)(w:World)(a0:Option Addr)(c0:Nat)(x:TSender):Prop where
 o0:OwnC B χ (o,0) w a0 c0 x.Waiting
 ok:okDTSender x
theorem TSenderO.keep{B:Nat}{χ:Nat→Col}{o:Nat}{w w2:World}{a0:Option Addr}{c0:Nat}{x:TSender}(h:TSenderO B χ o w a0 c0 x)(g:Keeps B w w2):TSenderO B χ o w2 a0 c0 x:=⟨h.o0.keep g,h.ok⟩
theorem TSenderO.mono{B:Nat}{χ:Nat→Col}{o:Nat}{w:World}{a0:Option Addr}{c0:Nat}{x:TSender}(h:TSenderO B χ o w a0 c0 x){B2:Nat}(g:B2≤B):TSenderO B2 χ o w a0 c0 x:=⟨h.o0.mono g,h.ok⟩
theorem TSenderO.rd{B:Nat}{χ:Nat→Col}{o:Nat}{w:World}{a0:Option Addr}{c0:Nat}{x:TSender}(h:TSenderO B χ o w a0 c0 x):Enc.Rd B w [.int .i64 x.Next,.int .i64 x.Window,.slice a0 x.Waiting.length c0,.int .i64 x.Done] x:=⟨a0,c0,rfl,h.o0.rd,h.ok⟩
instance EncO.iTSender:EncO TSender where
 toEnc:=inferInstance
 O B χ o w vs x:=∃ (a0:Option Addr) (c0:Nat),vs=[.int .i64 x.Next,.int .i64 x.Window,.slice a0 x.Waiting.length c0,.int .i64 x.Done]∧TSenderO B χ o w a0 c0 x
 toRd:=by rintro _ _ _ _ _ _ ⟨a0,c0,rfl,h⟩;exact h.rd
structure TRecorderO(B:Nat)(χ:Nat→Col)(o:Nat)(w:World)(a0:Option Addr)(c0:Nat)(a1:Option Addr)(c1:Nat)(x:TRecorder):Prop where
 o0:OwnC B χ (o,0) w a0 c0 x.Records
 o1:OwnC B χ (o+1,0) w a1 c1 x.Dropped
 ok:okDTRecorder x
theorem TRecorderO.keep{B:Nat}{χ:Nat→Col}{o:Nat}{w w2:World}{a0:Option Addr}{c0:Nat}{a1:Option Addr}{c1:Nat}{x:TRecorder}(h:TRecorderO B χ o w a0 c0 a1 c1 x)(g:Keeps B w w2):TRecorderO B χ o w2 a0 c0 a1 c1 x:=⟨h.o0.keep g,h.o1.keep g,h.ok⟩
theorem TRecorderO.mono{B:Nat}{χ:Nat→Col}{o:Nat}{w:World}{a0:Option Addr}{c0:Nat}{a1:Option Addr}{c1:Nat}{x:TRecorder}(h:TRecorderO B χ o w a0 c0 a1 c1 x){B2:Nat}(g:B2≤B):TRecorderO B2 χ o w a0 c0 a1 c1 x:=⟨h.o0.mono g,h.o1.mono g,h.ok⟩
theorem TRecorderO.rd{B:Nat}{χ:Nat→Col}{o:Nat}{w:World}{a0:Option Addr}{c0:Nat}{a1:Option Addr}{c1:Nat}{x:TRecorder}(h:TRecorderO B χ o w a0 c0 a1 c1 x):Enc.Rd B w [.int .i64 x.Room,.slice a0 x.Records.length c0,.slice a1 x.Dropped.length c1] x:=⟨a0,c0,a1,c1,rfl,h.o0.rd,h.o1.rd,h.ok⟩
instance EncO.iTRecorder:EncO TRecorder where
 toEnc:=inferInstance
 O B χ o w vs x:=∃ (a0:Option Addr) (c0:Nat),∃ (a1:Option Addr) (c1:Nat),vs=[.int .i64 x.Room,.slice a0 x.Records.length c0,.slice a1 x.Dropped.length c1]∧TRecorderO B χ o w a0 c0 a1 c1 x
 toRd:=by rintro _ _ _ _ _ _ ⟨a0,c0,a1,c1,rfl,h⟩;exact h.rd
structure TBoardO(B:Nat)(χ:Nat→Col)(o:Nat)(w:World)(A:TBoardA)(x:TBoard):Prop where
 o0:OwnC B χ (o,0) w A.a0 A.c0 x.Params
 o1:OwnC B χ (o+1,0) w A.a1 A.c1 x.Limits
 o2:OwnC B χ (o+2,0) w A.a2 A.c2 x.Orders
 o3:OwnC B χ (o+3,0) w A.a3 A.c3 x.Done
 o4:OwnC B χ (o+4,0) w A.a4 A.c4 x.Recorder.Records
 o5:OwnC B χ (o+5,0) w A.a5 A.c5 x.Recorder.Dropped
 o6:OwnC B χ (o+6,0) w A.a6 A.c6 x.Asked
 ok:okDTBoard x
theorem TBoardO.keep{B:Nat}{χ:Nat→Col}{o:Nat}{w w2:World}{A:TBoardA}{x:TBoard}(h:TBoardO B χ o w A x)(g:Keeps B w w2):TBoardO B χ o w2 A x:=⟨h.o0.keep g,h.o1.keep g,h.o2.keep g,h.o3.keep g,h.o4.keep g,h.o5.keep g,h.o6.keep g,h.ok⟩
theorem TBoardO.mono{B:Nat}{χ:Nat→Col}{o:Nat}{w:World}{A:TBoardA}{x:TBoard}(h:TBoardO B χ o w A x){B2:Nat}(g:B2≤B):TBoardO B2 χ o w A x:=⟨h.o0.mono g,h.o1.mono g,h.o2.mono g,h.o3.mono g,h.o4.mono g,h.o5.mono g,h.o6.mono g,h.ok⟩
theorem TBoardO.f{B:Nat}{χ:Nat→Col}{o:Nat}{w:World}{A:TBoardA}{x:TBoard}(h:TBoardO B χ o w A x):TBoardF B w A x:=⟨h.o0.rd,h.o1.rd,h.o2.rd,h.o3.rd,h.o4.rd,h.o5.rd,h.o6.rd,h.ok⟩
theorem TBoardO.rd{B:Nat}{χ:Nat→Col}{o:Nat}{w:World}{A:TBoardA}{x:TBoard}(h:TBoardO B χ o w A x):Enc.Rd B w (dBoard x A) x:=⟨A,rfl,h.f⟩
instance EncO.iTBoard:EncO TBoard where
 toEnc:=inferInstance
 O B χ o w vs x:=∃ A:TBoardA,vs=(dBoard x A)∧TBoardO B χ o w A x
 toRd:=by rintro _ _ _ _ _ _ ⟨A,rfl,h⟩;exact h.rd
structure TFileInO(B:Nat)(χ:Nat→Col)(o:Nat)(w:World)(a0:Option Addr)(c0:Nat)(x:TFileIn):Prop where
 o0:OwnC B χ (o,0) w a0 c0 x.Parts
 ok:okDTFileIn x
theorem TFileInO.keep{B:Nat}{χ:Nat→Col}{o:Nat}{w w2:World}{a0:Option Addr}{c0:Nat}{x:TFileIn}(h:TFileInO B χ o w a0 c0 x)(g:Keeps B w w2):TFileInO B χ o w2 a0 c0 x:=⟨h.o0.keep g,h.ok⟩
theorem TFileInO.mono{B:Nat}{χ:Nat→Col}{o:Nat}{w:World}{a0:Option Addr}{c0:Nat}{x:TFileIn}(h:TFileInO B χ o w a0 c0 x){B2:Nat}(g:B2≤B):TFileInO B2 χ o w a0 c0 x:=⟨h.o0.mono g,h.ok⟩
theorem TFileInO.rd{B:Nat}{χ:Nat→Col}{o:Nat}{w:World}{a0:Option Addr}{c0:Nat}{x:TFileIn}(h:TFileInO B χ o w a0 c0 x):Enc.Rd B w [.int .i64 x.File,.int .i64 x.Size,.int .i64 x.Check,.slice a0 x.Parts.length c0] x:=⟨a0,c0,rfl,h.o0.rd,h.ok⟩
instance EncO.iTFileIn:EncO TFileIn where
 toEnc:=inferInstance
 O B χ o w vs x:=∃ (a0:Option Addr) (c0:Nat),vs=[.int .i64 x.File,.int .i64 x.Size,.int .i64 x.Check,.slice a0 x.Parts.length c0]∧TFileInO B χ o w a0 c0 x
 toRd:=by rintro _ _ _ _ _ _ ⟨a0,c0,rfl,h⟩;exact h.rd
structure TFileOutO(B:Nat)(χ:Nat→Col)(o:Nat)(w:World)(a0:Option Addr)(c0:Nat)(x:TFileOut):Prop where
 o0:OwnC B χ (o,0) w a0 c0 x.Queue
 ok:okDTFileOut x
theorem TFileOutO.keep{B:Nat}{χ:Nat→Col}{o:Nat}{w w2:World}{a0:Option Addr}{c0:Nat}{x:TFileOut}(h:TFileOutO B χ o w a0 c0 x)(g:Keeps B w w2):TFileOutO B χ o w2 a0 c0 x:=⟨h.o0.keep g,h.ok⟩
theorem TFileOutO.mono{B:Nat}{χ:Nat→Col}{o:Nat}{w:World}{a0:Option Addr}{c0:Nat}{x:TFileOut}(h:TFileOutO B χ o w a0 c0 x){B2:Nat}(g:B2≤B):TFileOutO B2 χ o w a0 c0 x:=⟨h.o0.mono g,h.ok⟩
theorem TFileOutO.rd{B:Nat}{χ:Nat→Col}{o:Nat}{w:World}{a0:Option Addr}{c0:Nat}{x:TFileOut}(h:TFileOutO B χ o w a0 c0 x):Enc.Rd B w [.int .i64 x.File,.string x.Data,.slice a0 x.Queue.length c0,.bool x.Done] x:=⟨a0,c0,rfl,h.o0.rd,h.ok⟩
instance EncO.iTFileOut:EncO TFileOut where
 toEnc:=inferInstance
 O B χ o w vs x:=∃ (a0:Option Addr) (c0:Nat),vs=[.int .i64 x.File,.string x.Data,.slice a0 x.Queue.length c0,.bool x.Done]∧TFileOutO B χ o w a0 c0 x
 toRd:=by rintro _ _ _ _ _ _ ⟨a0,c0,rfl,h⟩;exact h.rd
structure TGroundO(B:Nat)(χ:Nat→Col)(o:Nat)(w:World)(A:TGroundA)(x:TGround):Prop where
 o0:OwnC B χ (o,0) w A.a0 A.c0 x.Offers
 o1:OwnC B χ (o+1,0) w A.a1 A.c1 x.Sender.Waiting
 o2:OwnC B χ (o+2,0) w A.a2 A.c2 x.Pairs
 o3:OwnC B χ (o+3,0) w A.a3 A.c3 x.Records
 o4:∃ rows:List (NRow TFileIn),rows.map (·.x)=x.Files∧OwnN B χ (o+4) w A.a4 A.c4 rows
 o5:OwnC B χ (o+5,0) w A.a5 A.c5 x.Told
 ok:okDTGround x
theorem TGroundO.keep{B:Nat}{χ:Nat→Col}{o:Nat}{w w2:World}{A:TGroundA}{x:TGround}(h:TGroundO B χ o w A x)(g:Keeps B w w2):TGroundO B χ o w2 A x:=⟨h.o0.keep g,h.o1.keep g,h.o2.keep g,h.o3.keep g,h.o4.elim fun r hr=>⟨r,hr.1,hr.2.keep g⟩,h.o5.keep g,h.ok⟩
theorem TGroundO.mono{B:Nat}{χ:Nat→Col}{o:Nat}{w:World}{A:TGroundA}{x:TGround}(h:TGroundO B χ o w A x){B2:Nat}(g:B2≤B):TGroundO B2 χ o w A x:=⟨h.o0.mono g,h.o1.mono g,h.o2.mono g,h.o3.mono g,h.o4.elim fun r hr=>⟨r,hr.1,hr.2.mono g⟩,h.o5.mono g,h.ok⟩
theorem TGroundO.f{B:Nat}{χ:Nat→Col}{o:Nat}{w:World}{A:TGroundA}{x:TGround}(h:TGroundO B χ o w A x):TGroundF B w A x:=⟨h.o0.rd,h.o1.rd,h.o2.rd,h.o3.rd,h.o4.elim fun r hr=>hr.1▸hr.2.rd,h.o5.rd,h.ok⟩
theorem TGroundO.rd{B:Nat}{χ:Nat→Col}{o:Nat}{w:World}{A:TGroundA}{x:TGround}(h:TGroundO B χ o w A x):Enc.Rd B w (dGround x A) x:=⟨A,rfl,h.f⟩
instance EncO.iTGround:EncO TGround where
 toEnc:=inferInstance
 O B χ o w vs x:=∃ A:TGroundA,vs=(dGround x A)∧TGroundO B χ o w A x
 toRd:=by rintro _ _ _ _ _ _ ⟨A,rfl,h⟩;exact h.rd
structure TSpaceO(B:Nat)(χ:Nat→Col)(o:Nat)(w:World)(A:TSpaceA)(x:TSpace):Prop where
 o0:OwnC B χ (o,0) w A.a0 A.c0 x.Board.Params
 o1:OwnC B χ (o+1,0) w A.a1 A.c1 x.Board.Limits
 o2:OwnC B χ (o+2,0) w A.a2 A.c2 x.Board.Orders
 o3:OwnC B χ (o+3,0) w A.a3 A.c3 x.Board.Done
 o4:OwnC B χ (o+4,0) w A.a4 A.c4 x.Board.Recorder.Records
 o5:OwnC B χ (o+5,0) w A.a5 A.c5 x.Board.Recorder.Dropped
 o6:OwnC B χ (o+6,0) w A.a6 A.c6 x.Board.Asked
 o7:OwnC B χ (o+7,0) w A.a7 A.c7 x.Packer.Starts
 o8:OwnC B χ (o+8,0) w A.a8 A.c8 x.Files
 o9:∃ rows:List (NRow TFileOut),rows.map (·.x)=x.Outs∧OwnN B χ (o+9) w A.a9 A.c9 rows
 o10:OwnC B χ (o+10,0) w A.a10 A.c10 x.Sent
 ok:okDTSpace x
theorem TSpaceO.keep{B:Nat}{χ:Nat→Col}{o:Nat}{w w2:World}{A:TSpaceA}{x:TSpace}(h:TSpaceO B χ o w A x)(g:Keeps B w w2):TSpaceO B χ o w2 A x:=⟨h.o0.keep g,h.o1.keep g,h.o2.keep g,h.o3.keep g,h.o4.keep g,h.o5.keep g,h.o6.keep g,h.o7.keep g,h.o8.keep g,h.o9.elim fun r hr=>⟨r,hr.1,hr.2.keep g⟩,h.o10.keep g,h.ok⟩
theorem TSpaceO.mono{B:Nat}{χ:Nat→Col}{o:Nat}{w:World}{A:TSpaceA}{x:TSpace}(h:TSpaceO B χ o w A x){B2:Nat}(g:B2≤B):TSpaceO B2 χ o w A x:=⟨h.o0.mono g,h.o1.mono g,h.o2.mono g,h.o3.mono g,h.o4.mono g,h.o5.mono g,h.o6.mono g,h.o7.mono g,h.o8.mono g,h.o9.elim fun r hr=>⟨r,hr.1,hr.2.mono g⟩,h.o10.mono g,h.ok⟩
theorem TSpaceO.f{B:Nat}{χ:Nat→Col}{o:Nat}{w:World}{A:TSpaceA}{x:TSpace}(h:TSpaceO B χ o w A x):TSpaceF B w A x:=⟨h.o0.rd,h.o1.rd,h.o2.rd,h.o3.rd,h.o4.rd,h.o5.rd,h.o6.rd,h.o7.rd,h.o8.rd,h.o9.elim fun r hr=>hr.1▸hr.2.rd,h.o10.rd,h.ok⟩
theorem TSpaceO.rd{B:Nat}{χ:Nat→Col}{o:Nat}{w:World}{A:TSpaceA}{x:TSpace}(h:TSpaceO B χ o w A x):Enc.Rd B w (dSpace x A) x:=⟨A,rfl,h.f⟩
instance EncO.iTSpace:EncO TSpace where
 toEnc:=inferInstance
 O B χ o w vs x:=∃ A:TSpaceA,vs=(dSpace x A)∧TSpaceO B χ o w A x
 toRd:=by rintro _ _ _ _ _ _ ⟨A,rfl,h⟩;exact h.rd
structure TMissionO(B:Nat)(χ:Nat→Col)(o:Nat)(w:World)(A:TMissionA)(x:TMission):Prop where
 o0:OwnC B χ (o,0) w A.a0 A.c0 x.Plan
 o1:OwnC B χ (o+1,0) w A.a1 A.c1 x.Ups
 o2:OwnC B χ (o+2,0) w A.a2 A.c2 x.Downs
 o3:OwnC B χ (o+3,0) w A.a3 A.c3 x.Ground.Offers
 o4:OwnC B χ (o+4,0) w A.a4 A.c4 x.Ground.Sender.Waiting
 o5:OwnC B χ (o+5,0) w A.a5 A.c5 x.Ground.Pairs
 o6:OwnC B χ (o+6,0) w A.a6 A.c6 x.Ground.Records
 o7:∃ rows:List (NRow TFileIn),rows.map (·.x)=x.Ground.Files∧OwnN B χ (o+7) w A.a7 A.c7 rows
 o8:OwnC B χ (o+8,0) w A.a8 A.c8 x.Ground.Told
 o9:OwnC B χ (o+9,0) w A.a9 A.c9 x.Space.Board.Params
 o10:OwnC B χ (o+10,0) w A.a10 A.c10 x.Space.Board.Limits
 o11:OwnC B χ (o+11,0) w A.a11 A.c11 x.Space.Board.Orders
 o12:OwnC B χ (o+12,0) w A.a12 A.c12 x.Space.Board.Done
 o13:OwnC B χ (o+13,0) w A.a13 A.c13 x.Space.Board.Recorder.Records
 o14:OwnC B χ (o+14,0) w A.a14 A.c14 x.Space.Board.Recorder.Dropped
 o15:OwnC B χ (o+15,0) w A.a15 A.c15 x.Space.Board.Asked
 o16:OwnC B χ (o+16,0) w A.a16 A.c16 x.Space.Packer.Starts
 o17:OwnC B χ (o+17,0) w A.a17 A.c17 x.Space.Files
 o18:∃ rows:List (NRow TFileOut),rows.map (·.x)=x.Space.Outs∧OwnN B χ (o+18) w A.a18 A.c18 rows
 o19:OwnC B χ (o+19,0) w A.a19 A.c19 x.Space.Sent
 o20:OwnC B χ (o+20,0) w A.a20 A.c20 x.Offered
 o21:OwnC B χ (o+21,0) w A.a21 A.c21 x.Took
 ok:okDTMission x
theorem TMissionO.to{B:Nat}{χ:Nat→Col}{o:Nat}{w w2:World}{A:TMissionA}{x:TMission}(h:TMissionO B χ o w A x)(g:Grows w w2):TMissionO B χ o w2 A x:=⟨h.o0.to g,h.o1.to g,h.o2.to g,h.o3.to g,h.o4.to g,h.o5.to g,h.o6.to g,h.o7.elim fun r hr=>⟨r,hr.1,hr.2.to g⟩,h.o8.to g,h.o9.to g,h.o10.to g,h.o11.to g,h.o12.to g,h.o13.to g,h.o14.to g,h.o15.to g,h.o16.to g,h.o17.to g,h.o18.elim fun r hr=>⟨r,hr.1,hr.2.to g⟩,h.o19.to g,h.o20.to g,h.o21.to g,h.ok⟩
theorem TMissionO.keep{B:Nat}{χ:Nat→Col}{o:Nat}{w w2:World}{A:TMissionA}{x:TMission}(h:TMissionO B χ o w A x)(g:Keeps B w w2):TMissionO B χ o w2 A x:=⟨h.o0.keep g,h.o1.keep g,h.o2.keep g,h.o3.keep g,h.o4.keep g,h.o5.keep g,h.o6.keep g,h.o7.elim fun r hr=>⟨r,hr.1,hr.2.keep g⟩,h.o8.keep g,h.o9.keep g,h.o10.keep g,h.o11.keep g,h.o12.keep g,h.o13.keep g,h.o14.keep g,h.o15.keep g,h.o16.keep g,h.o17.keep g,h.o18.elim fun r hr=>⟨r,hr.1,hr.2.keep g⟩,h.o19.keep g,h.o20.keep g,h.o21.keep g,h.ok⟩
theorem TMissionO.mono{B:Nat}{χ:Nat→Col}{o:Nat}{w:World}{A:TMissionA}{x:TMission}(h:TMissionO B χ o w A x){B2:Nat}(g:B2≤B):TMissionO B2 χ o w A x:=⟨h.o0.mono g,h.o1.mono g,h.o2.mono g,h.o3.mono g,h.o4.mono g,h.o5.mono g,h.o6.mono g,h.o7.elim fun r hr=>⟨r,hr.1,hr.2.mono g⟩,h.o8.mono g,h.o9.mono g,h.o10.mono g,h.o11.mono g,h.o12.mono g,h.o13.mono g,h.o14.mono g,h.o15.mono g,h.o16.mono g,h.o17.mono g,h.o18.elim fun r hr=>⟨r,hr.1,hr.2.mono g⟩,h.o19.mono g,h.o20.mono g,h.o21.mono g,h.ok⟩
theorem TMissionO.old{B:Nat}{χ χ2:Nat→Col}{o:Nat}{w:World}{A:TMissionA}{x:TMission}(h:TMissionO B χ o w A x){f:Col→Col}{U:Nat}(g:w.heap.size≤U):TMissionO B (paint U χ χ2 f) o w A x:=⟨h.o0.old g,h.o1.old g,h.o2.old g,h.o3.old g,h.o4.old g,h.o5.old g,h.o6.old g,h.o7.elim fun r hr=>⟨r,hr.1,hr.2.old g⟩,h.o8.old g,h.o9.old g,h.o10.old g,h.o11.old g,h.o12.old g,h.o13.old g,h.o14.old g,h.o15.old g,h.o16.old g,h.o17.old g,h.o18.elim fun r hr=>⟨r,hr.1,hr.2.old g⟩,h.o19.old g,h.o20.old g,h.o21.old g,h.ok⟩
theorem TMissionO.f{B:Nat}{χ:Nat→Col}{o:Nat}{w:World}{A:TMissionA}{x:TMission}(h:TMissionO B χ o w A x):TMissionF B w A x:=⟨h.o0.rd,h.o1.rd,h.o2.rd,h.o3.rd,h.o4.rd,h.o5.rd,h.o6.rd,h.o7.elim fun r hr=>hr.1▸hr.2.rd,h.o8.rd,h.o9.rd,h.o10.rd,h.o11.rd,h.o12.rd,h.o13.rd,h.o14.rd,h.o15.rd,h.o16.rd,h.o17.rd,h.o18.elim fun r hr=>hr.1▸hr.2.rd,h.o19.rd,h.o20.rd,h.o21.rd,h.ok⟩
theorem TMissionO.rd{B:Nat}{χ:Nat→Col}{o:Nat}{w:World}{A:TMissionA}{x:TMission}(h:TMissionO B χ o w A x):Enc.Rd B w (dMission x A) x:=⟨A,rfl,h.f⟩
instance EncO.iTMission:EncO TMission where
 toEnc:=inferInstance
 O B χ o w vs x:=∃ A:TMissionA,vs=(dMission x A)∧TMissionO B χ o w A x
 toRd:=by rintro _ _ _ _ _ _ ⟨A,rfl,h⟩;exact h.rd
