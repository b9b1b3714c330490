/- Flat elements, and the copies of their slices. No condition but on sizes. -/
import Derived.Test.YtdijmbipcgalfaaGreatHM18
import Derived.Test.YtdijmbipcgalfaaGreatHM7
namespace Go.Proofs.YtdijmbipcgalfaaGreat
set_option linter.unusedVariables false
open Go.ChangeShapes Go.WideShapes Go.ChangeAt Go.RowKit
variable {B c n:Nat}{a:Option Addr}{w:World}
theorem RdS.goods{α:Type}[E:D7 α]{B:Nat}{w:World}{a:Option Addr}{c:Nat}{l:List α}(h:RdS B w a c l):∀ x∈l,E.good x:=fun x hx=>by
 obtain⟨i,hi⟩:=List.getElem?_of_mem hx
 obtain⟨b,off,vs,-,-,-,h3,-⟩:=h.2.2.2 i x hi
 exact(E.inv h3).2
theorem RdS.slF{α:Type}[E:D7 α]{B:Nat}{w:World}{a:Option Addr}{c:Nat}{l:List α}(h:RdS B w a c l):Sl E.enc w a l:=fun i x hx=>by
 obtain⟨b,off,vs,h0,-,h2,h3,h4⟩:=h.2.2.2 i x hx
 obtain⟨rfl,-⟩:=E.inv h3
 exact⟨b,off,h0,h2,fun j v hv=>by rw[E.encLen];exact h4 j v hv⟩
theorem L3.os{α:Type}[E:D7 α]{w w':World}{l:List α}{e:Ending}{B:Nat}{w0:World}{a:Option Addr}{c:Nat}(h:L3 E.enc E.ty E.size w l e w')(hs:RdS B w0 a c l):U5 w l e w':=by
 obtain⟨a',c',he,ho,y,hy⟩:=h
 exact⟨a',c',he,B6.of ho hs.goods _,y,hy⟩
instance D7.iInt:D7 Int where
 toEnc:=inferInstance
 enc:=ae0
 ty:=3
 good:=i64
 encLen:=fun _=>rfl
 one:=bc8
 rd:=fun h=>⟨rfl,h⟩
 inv:=fun h=>h
theorem au8{l:List Int}(hs:RdS B w a c l)(hm:l.length≤100000000) :
  Calls Tryz.prog 254 #[.slice a l.length c] w (U5 w l) :=
 (bE6 (c:=c) hs.slF rfl hm).mono fun _ _ h=>h.os hs
def aw7(x:Bool):List Value:=[.bool x]
theorem bc5(x:Bool):(aw7 x).length=1:=rfl
theorem bc6(x:Bool):∀ u∈aw7 x,u.oneCell'=true:=by
 intro u hu
 simp only[aw7,List.mem_cons,List.not_mem_nil,or_false]at hu
 rcases hu with rfl<;>rfl
instance D7.iBool:D7 Bool where
 toEnc:=inferInstance
 enc:=aw7
 ty:=4
 good:=fun _=>True
 encLen:=fun _=>rfl
 one:=bc6
 rd:=fun _=>rfl
 inv:=fun h=>⟨h,trivial⟩
theorem bE5{l:List Bool}(hs:Sl aw7 w a l)(hn:l.length=n)(hm:n≤100000000) :
  Calls Tryz.prog 141 #[.slice a n c] w (L3 aw7 4 1 w l):=by
 cases a with
 | none =>
  have hl:l=[]:=by
   cases l with
   | nil=>rfl
   | cons y r=>obtain⟨b,off,h0,-⟩:=hs 0 y rfl;cases h0
  have hq:=fun(w:World)=>run_eql_slice_nil (P:=Tryz.prog) w 41 4 none n c Tryz.underlying41
  simp only[Option.isNone]at hq
  have HL:=lH hl;clear hl
  go_enter Tryz.func141,Tryz.ntmps141
  go_wp2_with (fail)
  go_ret
  exact L3.nilOf bc5 HL.out
 | some ad =>
  have hq:=fun(w:World)=>run_eql_slice_nil (P:=Tryz.prog) w 41 4 (some ad) n c Tryz.underlying41
  simp only[Option.isNone]at hq
  go_enter Tryz.func141,Tryz.ntmps141
  go_wp2_with (first|(at_builtin;refine I0 (enc:=aw7) (w0:=w) (z:=.bool false) (size:=1) (bytes:=1) (n:=0) (l:=[]) rfl (.tmp 5) (.tmp 6) rfl Tryz.underlying41 kr rfl de de rfl rfl (fun h=>by cases h) rfl hn (Own.emptyAt bc5 nl rfl) (hs.to ii) bc6 om ?_;intro sa1 sc1 x1 hown1 hgr1))
  go_ret
  rw[List.nil_append]at hown1
  exact⟨sa1,sc1,by rw[hn];first|rfl|simp,hown1,b7.of⟩
theorem bB3{l:List Bool}(hs:RdS B w a c l)(hm:l.length≤100000000) :
  Calls Tryz.prog 141 #[.slice a l.length c] w (U5 w l) :=
 (bE5 (c:=c) hs.slF rfl hm).mono fun _ _ h=>h.os hs
instance D7.iByteArray:D7 ByteArray where
 toEnc:=inferInstance
 enc:=L4
 ty:=9
 good:=fun s=>s.size≤9223372036854775807
 encLen:=fun _=>rfl
 one:=az1
 rd:=fun h=>⟨rfl,h⟩
 inv:=fun h=>h
theorem ae8{l:List ByteArray}(hs:RdS B w a c l)(hm:l.length≤100000000) :
  Calls Tryz.prog 135 #[.slice a l.length c] w (U5 w l) :=
 (ba6 (c:=c) hs.slF rfl hm).mono fun _ _ h=>h.os hs
theorem aM4(x:ap8):∀ u∈am1 x,u.oneCell'=true:=by
 intro u hu
 simp only[am1,List.mem_cons,List.not_mem_nil,or_false]at hu
 rcases hu with rfl|rfl<;>rfl
instance D7.iSlot:D7 ap8 where
 toEnc:=inferInstance
 enc:=am1
 ty:=211
 good:=aZ8
 encLen:=fun _=>rfl
 one:=aM4
 rd:=fun h=>⟨rfl,h⟩
 inv:=fun h=>h
theorem bw3{l:List ap8}(hs:Sl am1 w a l)(hn:l.length=n)(hm:n≤100000000) :
  Calls Tryz.prog 133 #[.slice a n c] w (L3 am1 211 2 w l):=by
 cases a with
 | none =>
  have hl:l=[]:=by
   cases l with
   | nil=>rfl
   | cons y r=>obtain⟨b,off,h0,-⟩:=hs 0 y rfl;cases h0
  have hq:=fun(w:World)=>run_eql_slice_nil (P:=Tryz.prog) w 64 211 none n c Tryz.underlying64
  simp only[Option.isNone]at hq
  have HL:=lH hl;clear hl
  go_enter Tryz.func133,Tryz.ntmps133
  go_wp2_with (fail)
  go_ret
  exact L3.nilOf aU5 HL.out
 | some ad =>
  have hq:=fun(w:World)=>run_eql_slice_nil (P:=Tryz.prog) w 64 211 (some ad) n c Tryz.underlying64
  simp only[Option.isNone]at hq
  go_enter Tryz.func133,Tryz.ntmps133
  go_wp2_with (first|(at_builtin;refine I0 (enc:=am1) (w0:=w) (z:=.agg #[I 0,I 0]) (size:=2) (bytes:=16) (n:=0) (l:=[]) rfl (.tmp 5) (.tmp 6) rfl Tryz.underlying64 kr rfl de de rfl rfl (fun h=>by cases h) rfl hn (Own.emptyAt aU5 nl rfl) (hs.to ii) aM4 om ?_;intro sa1 sc1 x1 hown1 hgr1))
  go_ret
  rw[List.nil_append]at hown1
  exact⟨sa1,sc1,by rw[hn];first|rfl|simp,hown1,b7.of⟩
theorem bB5{l:List ap8}(hs:RdS B w a c l)(hm:l.length≤100000000) :
  Calls Tryz.prog 133 #[.slice a l.length c] w (U5 w l) :=
 (bw3 (c:=c) hs.slF rfl hm).mono fun _ _ h=>h.os hs
theorem bq9(x:X1):∀ u∈M4 x,u.oneCell'=true:=by
 intro u hu
 simp only[M4,List.mem_cons,List.not_mem_nil,or_false]at hu
 rcases hu with rfl|rfl<;>rfl
instance D7.iPair:D7 X1 where
 toEnc:=inferInstance
 enc:=M4
 ty:=206
 good:=aZ7
 encLen:=fun _=>rfl
 one:=bq9
 rd:=fun h=>⟨rfl,h⟩
 inv:=fun h=>h
theorem bB4{l:List X1}(hs:RdS B w a c l)(hm:l.length≤100000000) :
  Calls Tryz.prog 137 #[.slice a l.length c] w (U5 w l) :=
 (aC1 (c:=c) hs.slF rfl hm).mono fun _ _ h=>h.os hs
def D6(x:k5):List Value:=[.int .i64 x.At,.string x.Data]
theorem ai5(x:k5):(D6 x).length=2:=rfl
theorem ai6(x:k5):∀ u∈D6 x,u.oneCell'=true:=by
 intro u hu
 simp only[D6,List.mem_cons,List.not_mem_nil,or_false]at hu
 rcases hu with rfl|rfl<;>rfl
instance D7.iTFlight:D7 k5 where
 toEnc:=inferInstance
 enc:=D6
 ty:=129
 good:=aj6
 encLen:=fun _=>rfl
 one:=ai6
 rd:=fun h=>⟨rfl,h⟩
 inv:=fun h=>h
theorem ba7{l:List k5}(hs:Sl D6 w a l)(hn:l.length=n)(hm:n≤100000000) :
  Calls Tryz.prog 134 #[.slice a n c] w (L3 D6 129 2 w l):=by
 cases a with
 | none =>
  have hl:l=[]:=by
   cases l with
   | nil=>rfl
   | cons y r=>obtain⟨b,off,h0,-⟩:=hs 0 y rfl;cases h0
  have hq:=fun(w:World)=>run_eql_slice_nil (P:=Tryz.prog) w 66 129 none n c Tryz.underlying66
  simp only[Option.isNone]at hq
  have HL:=lH hl;clear hl
  go_enter Tryz.func134,Tryz.ntmps134
  go_wp2_with (fail)
  go_ret
  exact L3.nilOf ai5 HL.out
 | some ad =>
  have hq:=fun(w:World)=>run_eql_slice_nil (P:=Tryz.prog) w 66 129 (some ad) n c Tryz.underlying66
  simp only[Option.isNone]at hq
  go_enter Tryz.func134,Tryz.ntmps134
  go_wp2_with (first|(at_builtin;refine I0 (enc:=D6) (w0:=w) (z:=.agg #[I 0,.string ByteArray.empty]) (size:=2) (bytes:=24) (n:=0) (l:=[]) rfl (.tmp 5) (.tmp 6) rfl Tryz.underlying66 kr rfl de de rfl rfl (fun h=>by cases h) rfl hn (Own.emptyAt ai5 nl rfl) (hs.to ii) ai6 om ?_;intro sa1 sc1 x1 hown1 hgr1))
  go_ret
  rw[List.nil_append]at hown1
  exact⟨sa1,sc1,by rw[hn];first|rfl|simp,hown1,b7.of⟩
theorem aE1{l:List k5}(hs:RdS B w a c l)(hm:l.length≤100000000) :
  Calls Tryz.prog 134 #[.slice a l.length c] w (U5 w l) :=
 (ba7 (c:=c) hs.slF rfl hm).mono fun _ _ h=>h.os hs
def N3(x:s8):List Value:=[.int .i64 x.Id,.int .i64 x.Priority,.int .i64 x.Time,.string x.Data]
theorem aC5(x:s8):(N3 x).length=4:=rfl
theorem an9(x:s8):∀ u∈N3 x,u.oneCell'=true:=by
 intro u hu
 simp only[N3,List.mem_cons,List.not_mem_nil,or_false]at hu
 rcases hu with rfl|rfl|rfl|rfl<;>rfl
instance D7.iTRecord:D7 s8 where
 toEnc:=inferInstance
 enc:=N3
 ty:=151
 good:=av4
 encLen:=fun _=>rfl
 one:=an9
 rd:=fun h=>⟨rfl,h⟩
 inv:=fun h=>h
theorem ba8{l:List s8}(hs:Sl N3 w a l)(hn:l.length=n)(hm:n≤100000000) :
  Calls Tryz.prog 138 #[.slice a n c] w (L3 N3 151 4 w l):=by
 cases a with
 | none =>
  have hl:l=[]:=by
   cases l with
   | nil=>rfl
   | cons y r=>obtain⟨b,off,h0,-⟩:=hs 0 y rfl;cases h0
  have hq:=fun(w:World)=>run_eql_slice_nil (P:=Tryz.prog) w 73 151 none n c Tryz.underlying73
  simp only[Option.isNone]at hq
  have HL:=lH hl;clear hl
  go_enter Tryz.func138,Tryz.ntmps138
  go_wp2_with (fail)
  go_ret
  exact L3.nilOf aC5 HL.out
 | some ad =>
  have hq:=fun(w:World)=>run_eql_slice_nil (P:=Tryz.prog) w 73 151 (some ad) n c Tryz.underlying73
  simp only[Option.isNone]at hq
  go_enter Tryz.func138,Tryz.ntmps138
  go_wp2_with (first|(at_builtin;refine I0 (enc:=N3) (w0:=w) (z:=.agg #[I 0,I 0,I 0,.string ByteArray.empty]) (size:=4) (bytes:=40) (n:=0) (l:=[]) rfl (.tmp 5) (.tmp 6) rfl Tryz.underlying73 kr rfl de de rfl rfl (fun h=>by cases h) rfl hn (Own.emptyAt aC5 nl rfl) (hs.to ii) an9 om ?_;intro sa1 sc1 x1 hown1 hgr1))
  go_ret
  rw[List.nil_append]at hown1
  exact⟨sa1,sc1,by rw[hn];first|rfl|simp,hown1,b7.of⟩
theorem au9{l:List s8}(hs:RdS B w a c l)(hm:l.length≤100000000) :
  Calls Tryz.prog 138 #[.slice a l.length c] w (U5 w l) :=
 (ba8 (c:=c) hs.slF rfl hm).mono fun _ _ h=>h.os hs
def V4(x:D4):List Value:=[.int .i64 x.Number,.int .i64 x.Order.Kind,.int .i64 x.Order.At,.int .i64 x.Order.A,.int .i64 x.Order.B]
theorem aB2(x:D4):(V4 x).length=5:=rfl
theorem aB3(x:D4):∀ u∈V4 x,u.oneCell'=true:=by
 intro u hu
 simp only[V4,List.mem_cons,List.not_mem_nil,or_false]at hu
 rcases hu with rfl|rfl|rfl|rfl|rfl<;>rfl
instance D7.iTWaiting:D7 D4 where
 toEnc:=inferInstance
 enc:=V4
 ty:=318
 good:=aw4
 encLen:=fun _=>rfl
 one:=aB3
 rd:=fun h=>⟨rfl,h⟩
 inv:=fun h=>h
theorem aW8{l:List D4}(hs:Sl V4 w a l)(hn:l.length=n)(hm:n≤100000000) :
  Calls Tryz.prog 256 #[.slice a n c] w (L3 V4 318 5 w l):=by
 cases a with
 | none =>
  have hl:l=[]:=by
   cases l with
   | nil=>rfl
   | cons y r=>obtain⟨b,off,h0,-⟩:=hs 0 y rfl;cases h0
  have hq:=fun(w:World)=>run_eql_slice_nil (P:=Tryz.prog) w 79 318 none n c Tryz.underlying79
  simp only[Option.isNone]at hq
  have HL:=lH hl;clear hl
  go_enter Tryz.func256,Tryz.ntmps256
  go_wp2_with (fail)
  go_ret
  exact L3.nilOf aB2 HL.out
 | some ad =>
  have hq:=fun(w:World)=>run_eql_slice_nil (P:=Tryz.prog) w 79 318 (some ad) n c Tryz.underlying79
  simp only[Option.isNone]at hq
  go_enter Tryz.func256,Tryz.ntmps256
  go_wp2_with (first|(at_builtin;refine I0 (enc:=V4) (w0:=w) (z:=.agg #[I 0,I 0,I 0,I 0,I 0]) (size:=5) (bytes:=40) (n:=0) (l:=[]) rfl (.tmp 5) (.tmp 6) rfl Tryz.underlying79 kr rfl de de rfl rfl (fun h=>by cases h) rfl hn (Own.emptyAt aB2 nl rfl) (hs.to ii) aB3 om ?_;intro sa1 sc1 x1 hown1 hgr1))
  go_ret
  rw[List.nil_append]at hown1
  exact⟨sa1,sc1,by rw[hn];first|rfl|simp,hown1,b7.of⟩
theorem aY0{l:List D4}(hs:RdS B w a c l)(hm:l.length≤100000000) :
  Calls Tryz.prog 256 #[.slice a l.length c] w (U5 w l) :=
 (aW8 (c:=c) hs.slF rfl hm).mono fun _ _ h=>h.os hs
def aa3(x:V8):List Value:=[.int .i64 x.Param,.int .i64 x.Low,.int .i64 x.High]
theorem aH6(x:V8):(aa3 x).length=3:=rfl
theorem aH7(x:V8):∀ u∈aa3 x,u.oneCell'=true:=by
 intro u hu
 simp only[aa3,List.mem_cons,List.not_mem_nil,or_false]at hu
 rcases hu with rfl|rfl|rfl<;>rfl
instance D7.iTLimit:D7 V8 where
 toEnc:=inferInstance
 enc:=aa3
 ty:=313
 good:=aG7
 encLen:=fun _=>rfl
 one:=aH7
 rd:=fun h=>⟨rfl,h⟩
 inv:=fun h=>h
theorem bg1{l:List V8}(hs:Sl aa3 w a l)(hn:l.length=n)(hm:n≤100000000) :
  Calls Tryz.prog 255 #[.slice a n c] w (L3 aa3 313 3 w l):=by
 cases a with
 | none =>
  have hl:l=[]:=by
   cases l with
   | nil=>rfl
   | cons y r=>obtain⟨b,off,h0,-⟩:=hs 0 y rfl;cases h0
  have hq:=fun(w:World)=>run_eql_slice_nil (P:=Tryz.prog) w 78 313 none n c Tryz.underlying78
  simp only[Option.isNone]at hq
  have HL:=lH hl;clear hl
  go_enter Tryz.func255,Tryz.ntmps255
  go_wp2_with (fail)
  go_ret
  exact L3.nilOf aH6 HL.out
 | some ad =>
  have hq:=fun(w:World)=>run_eql_slice_nil (P:=Tryz.prog) w 78 313 (some ad) n c Tryz.underlying78
  simp only[Option.isNone]at hq
  go_enter Tryz.func255,Tryz.ntmps255
  go_wp2_with (first|(at_builtin;refine I0 (enc:=aa3) (w0:=w) (z:=.agg #[I 0,I 0,I 0]) (size:=3) (bytes:=24) (n:=0) (l:=[]) rfl (.tmp 5) (.tmp 6) rfl Tryz.underlying78 kr rfl de de rfl rfl (fun h=>by cases h) rfl hn (Own.emptyAt aH6 nl rfl) (hs.to ii) aH7 om ?_;intro sa1 sc1 x1 hown1 hgr1))
  go_ret
  rw[List.nil_append]at hown1
  exact⟨sa1,sc1,by rw[hn];first|rfl|simp,hown1,b7.of⟩
theorem bi9{l:List V8}(hs:RdS B w a c l)(hm:l.length≤100000000) :
  Calls Tryz.prog 255 #[.slice a l.length c] w (U5 w l) :=
 (bg1 (c:=c) hs.slF rfl hm).mono fun _ _ h=>h.os hs
def ah0(x:ad2):List Value:=[.int .i64 x.Number,.int .i64 x.Time,.int .i64 x.Result]
theorem aM5(x:ad2):(ah0 x).length=3:=rfl
theorem aM6(x:ad2):∀ u∈ah0 x,u.oneCell'=true:=by
 intro u hu
 simp only[ah0,List.mem_cons,List.not_mem_nil,or_false]at hu
 rcases hu with rfl|rfl|rfl<;>rfl
instance D7.iTDone:D7 ad2 where
 toEnc:=inferInstance
 enc:=ah0
 ty:=321
 good:=aP4
 encLen:=fun _=>rfl
 one:=aM6
 rd:=fun h=>⟨rfl,h⟩
 inv:=fun h=>h
theorem bo0{l:List ad2}(hs:Sl ah0 w a l)(hn:l.length=n)(hm:n≤100000000) :
  Calls Tryz.prog 257 #[.slice a n c] w (L3 ah0 321 3 w l):=by
 cases a with
 | none =>
  have hl:l=[]:=by
   cases l with
   | nil=>rfl
   | cons y r=>obtain⟨b,off,h0,-⟩:=hs 0 y rfl;cases h0
  have hq:=fun(w:World)=>run_eql_slice_nil (P:=Tryz.prog) w 80 321 none n c Tryz.underlying80
  simp only[Option.isNone]at hq
  have HL:=lH hl;clear hl
  go_enter Tryz.func257,Tryz.ntmps257
  go_wp2_with (fail)
  go_ret
  exact L3.nilOf aM5 HL.out
 | some ad =>
  have hq:=fun(w:World)=>run_eql_slice_nil (P:=Tryz.prog) w 80 321 (some ad) n c Tryz.underlying80
  simp only[Option.isNone]at hq
  go_enter Tryz.func257,Tryz.ntmps257
  go_wp2_with (first|(at_builtin;refine I0 (enc:=ah0) (w0:=w) (z:=.agg #[I 0,I 0,I 0]) (size:=3) (bytes:=24) (n:=0) (l:=[]) rfl (.tmp 5) (.tmp 6) rfl Tryz.underlying80 kr rfl de de rfl rfl (fun h=>by cases h) rfl hn (Own.emptyAt aM5 nl rfl) (hs.to ii) aM6 om ?_;intro sa1 sc1 x1 hown1 hgr1))
  go_ret
  rw[List.nil_append]at hown1
  exact⟨sa1,sc1,by rw[hn];first|rfl|simp,hown1,b7.of⟩
theorem bs5{l:List ad2}(hs:RdS B w a c l)(hm:l.length≤100000000) :
  Calls Tryz.prog 257 #[.slice a l.length c] w (U5 w l) :=
 (bo0 (c:=c) hs.slF rfl hm).mono fun _ _ h=>h.os hs
def R6(x:V9):List Value:=[.int .i64 x.Seq,.string x.Data]
theorem at1(x:V9):(R6 x).length=2:=rfl
theorem aM7(x:V9):∀ u∈R6 x,u.oneCell'=true:=by
 intro u hu
 simp only[R6,List.mem_cons,List.not_mem_nil,or_false]at hu
 rcases hu with rfl|rfl<;>rfl
instance D7.iTSent:D7 V9 where
 toEnc:=inferInstance
 enc:=R6
 ty:=294
 good:=ar9
 encLen:=fun _=>rfl
 one:=aM7
 rd:=fun h=>⟨rfl,h⟩
 inv:=fun h=>h
theorem ay2{l:List V9}(hs:Sl R6 w a l)(hn:l.length=n)(hm:n≤100000000) :
  Calls Tryz.prog 253 #[.slice a n c] w (L3 R6 294 2 w l):=by
 cases a with
 | none =>
  have hl:l=[]:=by
   cases l with
   | nil=>rfl
   | cons y r=>obtain⟨b,off,h0,-⟩:=hs 0 y rfl;cases h0
  have hq:=fun(w:World)=>run_eql_slice_nil (P:=Tryz.prog) w 67 294 none n c Tryz.underlying67
  simp only[Option.isNone]at hq
  have HL:=lH hl;clear hl
  go_enter Tryz.func253,Tryz.ntmps253
  go_wp2_with (fail)
  go_ret
  exact L3.nilOf at1 HL.out
 | some ad =>
  have hq:=fun(w:World)=>run_eql_slice_nil (P:=Tryz.prog) w 67 294 (some ad) n c Tryz.underlying67
  simp only[Option.isNone]at hq
  go_enter Tryz.func253,Tryz.ntmps253
  go_wp2_with (first|(at_builtin;refine I0 (enc:=R6) (w0:=w) (z:=.agg #[I 0,.string ByteArray.empty]) (size:=2) (bytes:=24) (n:=0) (l:=[]) rfl (.tmp 5) (.tmp 6) rfl Tryz.underlying67 kr rfl de de rfl rfl (fun h=>by cases h) rfl hn (Own.emptyAt at1 nl rfl) (hs.to ii) aM7 om ?_;intro sa1 sc1 x1 hown1 hgr1))
  go_ret
  rw[List.nil_append]at hown1
  exact⟨sa1,sc1,by rw[hn];first|rfl|simp,hown1,b7.of⟩
theorem bs6{l:List V9}(hs:RdS B w a c l)(hm:l.length≤100000000) :
  Calls Tryz.prog 253 #[.slice a l.length c] w (U5 w l) :=
 (ay2 (c:=c) hs.slF rfl hm).mono fun _ _ h=>h.os hs
