/- Flat elements, and the copies of their slices. No condition but on sizes. -/
import Derived.Test.YtdoilejecjaldaaGreatHOwnC
import Derived.Test.YtdoilejecjaldaaGreatHM6
namespace Go.Proofs.YtdoilejecjaldaaGreat
set_option linter.unusedVariables false
open Go.ChangeShapes Go.WideShapes Go.ChangeAt Go.RowKit
theorem RdS.goods{α:Type}[E:D9 α]{B:Nat}{w:World}{a:Option Addr}{c:Nat}{l:List α}(h:RdS B w a c l):∀ x∈l,E.good x:=fun x hx=>by
 obtain⟨i,hi⟩:=List.getElem?_of_mem hx
 obtain⟨b,off,vs,-,-,-,h3,-⟩:=h.2.2.2 i x hi
 exact(E.inv h3).2
theorem RdS.slF{α:Type}[E:D9 α]{B:Nat}{w:World}{a:Option Addr}{c:Nat}{l:List α}(h:RdS B w a c l):Sl E.enc w a l:=fun i x hx=>by
 obtain⟨b,off,vs,h0,-,h2,h3,h4⟩:=h.2.2.2 i x hx
 obtain⟨rfl,-⟩:=E.inv h3
 exact⟨b,off,h0,h2,fun j v hv=>by rw[E.encLen];exact h4 j v hv⟩
theorem N0.os{α:Type}[E:D9 α]{w w':World}{l:List α}{e:Ending}{B:Nat}{w0:World}{a:Option Addr}{c:Nat}(h:N0 E.enc E.ty E.size w l e w')(hs:RdS B w0 a c l):U6 w l e w':=by
 obtain⟨a',c',he,ho,y,hy⟩:=h
 exact⟨a',c',he,D0.of ho hs.goods _,y,hy⟩
instance D9.iInt:D9 Int where
 toEnc:=inferInstance
 enc:=K0
 ty:=3
 good:=i64
 encLen:=fun _=>rfl
 one:=af5
 rd:=fun h=>⟨rfl,h⟩
 inv:=fun h=>h
theorem at3{B:Nat}{a:Option Addr}{c:Nat}{l:List Int}{w:World}(hs:RdS B w a c l)(hm:l.length≤100000000) :
  Calls Tryz.prog 197 #[.slice a l.length c] w (U6 w l) :=
 (aY3 (c:=c) hs.slF rfl hm).mono fun _ _ h=>h.os hs
def av5(x:Bool):List Value:=[.bool x]
theorem ba8(x:Bool):(av5 x).length=1:=rfl
theorem ba9(x:Bool):∀ u∈av5 x,u.oneCell'=true:=by
 intro u hu
 simp only[av5,List.mem_cons,List.not_mem_nil,or_false]at hu
 rcases hu with rfl<;>rfl
instance D9.iBool:D9 Bool where
 toEnc:=inferInstance
 enc:=av5
 ty:=4
 good:=fun _=>True
 encLen:=fun _=>rfl
 one:=ba9
 rd:=fun _=>rfl
 inv:=fun h=>⟨h,trivial⟩
theorem bz5{a:Option Addr}{n c:Nat}{l:List Bool}{w:World}(hs:Sl av5 w a l)(hn:l.length=n)(hm:n≤100000000) :
  Calls Tryz.prog 109 #[.slice a n c] w (N0 av5 4 1 w l):=by
 cases a with
 | none =>
  have hl:l=[]:=by
   cases l with
   | nil=>rfl
   | cons y r=>obtain⟨b,off,h0,-⟩:=hs 0 y rfl;cases h0
  have hq:=fun(w:World)=>run_eql_slice_nil (P:=Tryz.prog) w 41 4 none n c Tryz.underlying41
  simp only[Option.isNone]at hq
  have HL:=lH hl;clear hl
  go_enter Tryz.func109,Tryz.ntmps109
  go_wp2_with (fail)
  go_ret
  exact N0.nilOf ba8 HL.out
 | some ad =>
  have hq:=fun(w:World)=>run_eql_slice_nil (P:=Tryz.prog) w 41 4 (some ad) n c Tryz.underlying41
  simp only[Option.isNone]at hq
  go_enter Tryz.func109,Tryz.ntmps109
  go_wp2_with (first|(at_builtin;refine J9 (enc:=av5) (w0:=w) (z:=.bool false) (size:=1) (bytes:=1) (n:=0) (l:=[]) rfl (.tmp 5) (.tmp 6) rfl Tryz.underlying41 kr rfl (by decide) (by decide) rfl rfl (fun h=>by cases h) rfl hn (Own.emptyAt ba8 nl rfl) (hs.to ii) ba9 (by omega) ?_;intro sa1 sc1 x1 hown1 hgr1))
  go_ret
  rw[List.nil_append]at hown1
  exact⟨sa1,sc1,by rw[hn];first|rfl|simp,hown1,b5.of⟩
theorem bx0{B:Nat}{a:Option Addr}{c:Nat}{l:List Bool}{w:World}(hs:RdS B w a c l)(hm:l.length≤100000000) :
  Calls Tryz.prog 109 #[.slice a l.length c] w (U6 w l) :=
 (bz5 (c:=c) hs.slF rfl hm).mono fun _ _ h=>h.os hs
instance D9.iByteArray:D9 ByteArray where
 toEnc:=inferInstance
 enc:=R3
 ty:=9
 good:=fun s=>s.size≤9223372036854775807
 encLen:=fun _=>rfl
 one:=as6
 rd:=fun h=>⟨rfl,h⟩
 inv:=fun h=>h
theorem ae7{B:Nat}{a:Option Addr}{c:Nat}{l:List ByteArray}{w:World}(hs:RdS B w a c l)(hm:l.length≤100000000) :
  Calls Tryz.prog 103 #[.slice a l.length c] w (U6 w l) :=
 (bz6 (c:=c) hs.slF rfl hm).mono fun _ _ h=>h.os hs
theorem aL1(x:ao3):∀ u∈ak3 x,u.oneCell'=true:=by
 intro u hu
 simp only[ak3,List.mem_cons,List.not_mem_nil,or_false]at hu
 rcases hu with rfl|rfl<;>rfl
instance D9.iSlot:D9 ao3 where
 toEnc:=inferInstance
 enc:=ak3
 ty:=178
 good:=aX7
 encLen:=fun _=>rfl
 one:=aL1
 rd:=fun h=>⟨rfl,h⟩
 inv:=fun h=>h
theorem bs2{a:Option Addr}{n c:Nat}{l:List ao3}{w:World}(hs:Sl ak3 w a l)(hn:l.length=n)(hm:n≤100000000) :
  Calls Tryz.prog 101 #[.slice a n c] w (N0 ak3 178 2 w l):=by
 cases a with
 | none =>
  have hl:l=[]:=by
   cases l with
   | nil=>rfl
   | cons y r=>obtain⟨b,off,h0,-⟩:=hs 0 y rfl;cases h0
  have hq:=fun(w:World)=>run_eql_slice_nil (P:=Tryz.prog) w 64 178 none n c Tryz.underlying64
  simp only[Option.isNone]at hq
  have HL:=lH hl;clear hl
  go_enter Tryz.func101,Tryz.ntmps101
  go_wp2_with (fail)
  go_ret
  exact N0.nilOf aS7 HL.out
 | some ad =>
  have hq:=fun(w:World)=>run_eql_slice_nil (P:=Tryz.prog) w 64 178 (some ad) n c Tryz.underlying64
  simp only[Option.isNone]at hq
  go_enter Tryz.func101,Tryz.ntmps101
  go_wp2_with (first|(at_builtin;refine J9 (enc:=ak3) (w0:=w) (z:=.agg #[.int .i64 0,.int .i64 0]) (size:=2) (bytes:=16) (n:=0) (l:=[]) rfl (.tmp 5) (.tmp 6) rfl Tryz.underlying64 kr rfl (by decide) (by decide) rfl rfl (fun h=>by cases h) rfl hn (Own.emptyAt aS7 nl rfl) (hs.to ii) aL1 (by omega) ?_;intro sa1 sc1 x1 hown1 hgr1))
  go_ret
  rw[List.nil_append]at hown1
  exact⟨sa1,sc1,by rw[hn];first|rfl|simp,hown1,b5.of⟩
theorem bx2{B:Nat}{a:Option Addr}{c:Nat}{l:List ao3}{w:World}(hs:RdS B w a c l)(hm:l.length≤100000000) :
  Calls Tryz.prog 101 #[.slice a l.length c] w (U6 w l) :=
 (bs2 (c:=c) hs.slF rfl hm).mono fun _ _ h=>h.os hs
theorem bo0(x:af2):∀ u∈Y8 x,u.oneCell'=true:=by
 intro u hu
 simp only[Y8,List.mem_cons,List.not_mem_nil,or_false]at hu
 rcases hu with rfl|rfl<;>rfl
instance D9.iPair:D9 af2 where
 toEnc:=inferInstance
 enc:=Y8
 ty:=198
 good:=aX6
 encLen:=fun _=>rfl
 one:=bo0
 rd:=fun h=>⟨rfl,h⟩
 inv:=fun h=>h
theorem bx1{B:Nat}{a:Option Addr}{c:Nat}{l:List af2}{w:World}(hs:RdS B w a c l)(hm:l.length≤100000000) :
  Calls Tryz.prog 105 #[.slice a l.length c] w (U6 w l) :=
 (bs1 (c:=c) hs.slF rfl hm).mono fun _ _ h=>h.os hs
def E0(x:s6):List Value:=[.int .i64 x.At,.string x.Data]
theorem ah5(x:s6):(E0 x).length=2:=rfl
theorem ah6(x:s6):∀ u∈E0 x,u.oneCell'=true:=by
 intro u hu
 simp only[E0,List.mem_cons,List.not_mem_nil,or_false]at hu
 rcases hu with rfl|rfl<;>rfl
instance D9.iTFlight:D9 s6 where
 toEnc:=inferInstance
 enc:=E0
 ty:=124
 good:=ai0
 encLen:=fun _=>rfl
 one:=ah6
 rd:=fun h=>⟨rfl,h⟩
 inv:=fun h=>h
theorem aY4{a:Option Addr}{n c:Nat}{l:List s6}{w:World}(hs:Sl E0 w a l)(hn:l.length=n)(hm:n≤100000000) :
  Calls Tryz.prog 102 #[.slice a n c] w (N0 E0 124 2 w l):=by
 cases a with
 | none =>
  have hl:l=[]:=by
   cases l with
   | nil=>rfl
   | cons y r=>obtain⟨b,off,h0,-⟩:=hs 0 y rfl;cases h0
  have hq:=fun(w:World)=>run_eql_slice_nil (P:=Tryz.prog) w 66 124 none n c Tryz.underlying66
  simp only[Option.isNone]at hq
  have HL:=lH hl;clear hl
  go_enter Tryz.func102,Tryz.ntmps102
  go_wp2_with (fail)
  go_ret
  exact N0.nilOf ah5 HL.out
 | some ad =>
  have hq:=fun(w:World)=>run_eql_slice_nil (P:=Tryz.prog) w 66 124 (some ad) n c Tryz.underlying66
  simp only[Option.isNone]at hq
  go_enter Tryz.func102,Tryz.ntmps102
  go_wp2_with (first|(at_builtin;refine J9 (enc:=E0) (w0:=w) (z:=.agg #[.int .i64 0,.string ByteArray.empty]) (size:=2) (bytes:=24) (n:=0) (l:=[]) rfl (.tmp 5) (.tmp 6) rfl Tryz.underlying66 kr rfl (by decide) (by decide) rfl rfl (fun h=>by cases h) rfl hn (Own.emptyAt ah5 nl rfl) (hs.to ii) ah6 (by omega) ?_;intro sa1 sc1 x1 hown1 hgr1))
  go_ret
  rw[List.nil_append]at hown1
  exact⟨sa1,sc1,by rw[hn];first|rfl|simp,hown1,b5.of⟩
theorem aD1{B:Nat}{a:Option Addr}{c:Nat}{l:List s6}{w:World}(hs:RdS B w a c l)(hm:l.length≤100000000) :
  Calls Tryz.prog 102 #[.slice a l.length c] w (U6 w l) :=
 (aY4 (c:=c) hs.slF rfl hm).mono fun _ _ h=>h.os hs
def V9(x:B4):List Value:=[.int .i64 x.Id,.int .i64 x.Priority,.int .i64 x.Time,.string x.Data]
theorem aB6(x:B4):(V9 x).length=4:=rfl
theorem aB7(x:B4):∀ u∈V9 x,u.oneCell'=true:=by
 intro u hu
 simp only[V9,List.mem_cons,List.not_mem_nil,or_false]at hu
 rcases hu with rfl|rfl|rfl|rfl<;>rfl
instance D9.iTRecord:D9 B4 where
 toEnc:=inferInstance
 enc:=V9
 ty:=201
 good:=az1
 encLen:=fun _=>rfl
 one:=aB7
 rd:=fun h=>⟨rfl,h⟩
 inv:=fun h=>h
theorem aY5{a:Option Addr}{n c:Nat}{l:List B4}{w:World}(hs:Sl V9 w a l)(hn:l.length=n)(hm:n≤100000000) :
  Calls Tryz.prog 106 #[.slice a n c] w (N0 V9 201 4 w l):=by
 cases a with
 | none =>
  have hl:l=[]:=by
   cases l with
   | nil=>rfl
   | cons y r=>obtain⟨b,off,h0,-⟩:=hs 0 y rfl;cases h0
  have hq:=fun(w:World)=>run_eql_slice_nil (P:=Tryz.prog) w 73 201 none n c Tryz.underlying73
  simp only[Option.isNone]at hq
  have HL:=lH hl;clear hl
  go_enter Tryz.func106,Tryz.ntmps106
  go_wp2_with (fail)
  go_ret
  exact N0.nilOf aB6 HL.out
 | some ad =>
  have hq:=fun(w:World)=>run_eql_slice_nil (P:=Tryz.prog) w 73 201 (some ad) n c Tryz.underlying73
  simp only[Option.isNone]at hq
  go_enter Tryz.func106,Tryz.ntmps106
  go_wp2_with (first|(at_builtin;refine J9 (enc:=V9) (w0:=w) (z:=.agg #[.int .i64 0,.int .i64 0,.int .i64 0,.string ByteArray.empty]) (size:=4) (bytes:=40) (n:=0) (l:=[]) rfl (.tmp 5) (.tmp 6) rfl Tryz.underlying73 kr rfl (by decide) (by decide) rfl rfl (fun h=>by cases h) rfl hn (Own.emptyAt aB6 nl rfl) (hs.to ii) aB7 (by omega) ?_;intro sa1 sc1 x1 hown1 hgr1))
  go_ret
  rw[List.nil_append]at hown1
  exact⟨sa1,sc1,by rw[hn];first|rfl|simp,hown1,b5.of⟩
theorem at4{B:Nat}{a:Option Addr}{c:Nat}{l:List B4}{w:World}(hs:RdS B w a c l)(hm:l.length≤100000000) :
  Calls Tryz.prog 106 #[.slice a l.length c] w (U6 w l) :=
 (aY5 (c:=c) hs.slF rfl hm).mono fun _ _ h=>h.os hs
def j6(x:A4):List Value:=[.int .i64 x.Number,.int .i64 x.Order.Kind,.int .i64 x.Order.At,.int .i64 x.Order.A,.int .i64 x.Order.B]
theorem I6(x:A4):(j6 x).length=5:=rfl
theorem J5(x:A4):∀ u∈j6 x,u.oneCell'=true:=by
 intro u hu
 simp only[j6,List.mem_cons,List.not_mem_nil,or_false]at hu
 rcases hu with rfl|rfl|rfl|rfl|rfl<;>rfl
instance D9.iTWaiting:D9 A4 where
 toEnc:=inferInstance
 enc:=j6
 ty:=254
 good:=al7
 encLen:=fun _=>rfl
 one:=J5
 rd:=fun h=>⟨rfl,h⟩
 inv:=fun h=>h
theorem aV2{a:Option Addr}{n c:Nat}{l:List A4}{w:World}(hs:Sl j6 w a l)(hn:l.length=n)(hm:n≤100000000) :
  Calls Tryz.prog 199 #[.slice a n c] w (N0 j6 254 5 w l):=by
 cases a with
 | none =>
  have hl:l=[]:=by
   cases l with
   | nil=>rfl
   | cons y r=>obtain⟨b,off,h0,-⟩:=hs 0 y rfl;cases h0
  have hq:=fun(w:World)=>run_eql_slice_nil (P:=Tryz.prog) w 79 254 none n c Tryz.underlying79
  simp only[Option.isNone]at hq
  have HL:=lH hl;clear hl
  go_enter Tryz.func199,Tryz.ntmps199
  go_wp2_with (fail)
  go_ret
  exact N0.nilOf I6 HL.out
 | some ad =>
  have hq:=fun(w:World)=>run_eql_slice_nil (P:=Tryz.prog) w 79 254 (some ad) n c Tryz.underlying79
  simp only[Option.isNone]at hq
  go_enter Tryz.func199,Tryz.ntmps199
  go_wp2_with (first|(at_builtin;refine J9 (enc:=j6) (w0:=w) (z:=.agg #[.int .i64 0,.int .i64 0,.int .i64 0,.int .i64 0,.int .i64 0]) (size:=5) (bytes:=40) (n:=0) (l:=[]) rfl (.tmp 5) (.tmp 6) rfl Tryz.underlying79 kr rfl (by decide) (by decide) rfl rfl (fun h=>by cases h) rfl hn (Own.emptyAt I6 nl rfl) (hs.to ii) J5 (by omega) ?_;intro sa1 sc1 x1 hown1 hgr1))
  go_ret
  rw[List.nil_append]at hown1
  exact⟨sa1,sc1,by rw[hn];first|rfl|simp,hown1,b5.of⟩
theorem aV9{B:Nat}{a:Option Addr}{c:Nat}{l:List A4}{w:World}(hs:RdS B w a c l)(hm:l.length≤100000000) :
  Calls Tryz.prog 199 #[.slice a l.length c] w (U6 w l) :=
 (aV2 (c:=c) hs.slF rfl hm).mono fun _ _ h=>h.os hs
def Z9(x:V3):List Value:=[.int .i64 x.Param,.int .i64 x.Low,.int .i64 x.High]
theorem aG2(x:V3):(Z9 x).length=3:=rfl
theorem aG3(x:V3):∀ u∈Z9 x,u.oneCell'=true:=by
 intro u hu
 simp only[Z9,List.mem_cons,List.not_mem_nil,or_false]at hu
 rcases hu with rfl|rfl|rfl<;>rfl
instance D9.iTLimit:D9 V3 where
 toEnc:=inferInstance
 enc:=Z9
 ty:=275
 good:=aF0
 encLen:=fun _=>rfl
 one:=aG3
 rd:=fun h=>⟨rfl,h⟩
 inv:=fun h=>h
theorem be8{a:Option Addr}{n c:Nat}{l:List V3}{w:World}(hs:Sl Z9 w a l)(hn:l.length=n)(hm:n≤100000000) :
  Calls Tryz.prog 198 #[.slice a n c] w (N0 Z9 275 3 w l):=by
 cases a with
 | none =>
  have hl:l=[]:=by
   cases l with
   | nil=>rfl
   | cons y r=>obtain⟨b,off,h0,-⟩:=hs 0 y rfl;cases h0
  have hq:=fun(w:World)=>run_eql_slice_nil (P:=Tryz.prog) w 78 275 none n c Tryz.underlying78
  simp only[Option.isNone]at hq
  have HL:=lH hl;clear hl
  go_enter Tryz.func198,Tryz.ntmps198
  go_wp2_with (fail)
  go_ret
  exact N0.nilOf aG2 HL.out
 | some ad =>
  have hq:=fun(w:World)=>run_eql_slice_nil (P:=Tryz.prog) w 78 275 (some ad) n c Tryz.underlying78
  simp only[Option.isNone]at hq
  go_enter Tryz.func198,Tryz.ntmps198
  go_wp2_with (first|(at_builtin;refine J9 (enc:=Z9) (w0:=w) (z:=.agg #[.int .i64 0,.int .i64 0,.int .i64 0]) (size:=3) (bytes:=24) (n:=0) (l:=[]) rfl (.tmp 5) (.tmp 6) rfl Tryz.underlying78 kr rfl (by decide) (by decide) rfl rfl (fun h=>by cases h) rfl hn (Own.emptyAt aG2 nl rfl) (hs.to ii) aG3 (by omega) ?_;intro sa1 sc1 x1 hown1 hgr1))
  go_ret
  rw[List.nil_append]at hown1
  exact⟨sa1,sc1,by rw[hn];first|rfl|simp,hown1,b5.of⟩
theorem bh5{B:Nat}{a:Option Addr}{c:Nat}{l:List V3}{w:World}(hs:RdS B w a c l)(hm:l.length≤100000000) :
  Calls Tryz.prog 198 #[.slice a l.length c] w (U6 w l) :=
 (be8 (c:=c) hs.slF rfl hm).mono fun _ _ h=>h.os hs
def ab0(x:aa5):List Value:=[.int .i64 x.Number,.int .i64 x.Time,.int .i64 x.Result]
theorem aL2(x:aa5):(ab0 x).length=3:=rfl
theorem ar3(x:aa5):∀ u∈ab0 x,u.oneCell'=true:=by
 intro u hu
 simp only[ab0,List.mem_cons,List.not_mem_nil,or_false]at hu
 rcases hu with rfl|rfl|rfl<;>rfl
instance D9.iTDone:D9 aa5 where
 toEnc:=inferInstance
 enc:=ab0
 ty:=256
 good:=aN7
 encLen:=fun _=>rfl
 one:=ar3
 rd:=fun h=>⟨rfl,h⟩
 inv:=fun h=>h
theorem bm0{a:Option Addr}{n c:Nat}{l:List aa5}{w:World}(hs:Sl ab0 w a l)(hn:l.length=n)(hm:n≤100000000) :
  Calls Tryz.prog 200 #[.slice a n c] w (N0 ab0 256 3 w l):=by
 cases a with
 | none =>
  have hl:l=[]:=by
   cases l with
   | nil=>rfl
   | cons y r=>obtain⟨b,off,h0,-⟩:=hs 0 y rfl;cases h0
  have hq:=fun(w:World)=>run_eql_slice_nil (P:=Tryz.prog) w 80 256 none n c Tryz.underlying80
  simp only[Option.isNone]at hq
  have HL:=lH hl;clear hl
  go_enter Tryz.func200,Tryz.ntmps200
  go_wp2_with (fail)
  go_ret
  exact N0.nilOf aL2 HL.out
 | some ad =>
  have hq:=fun(w:World)=>run_eql_slice_nil (P:=Tryz.prog) w 80 256 (some ad) n c Tryz.underlying80
  simp only[Option.isNone]at hq
  go_enter Tryz.func200,Tryz.ntmps200
  go_wp2_with (first|(at_builtin;refine J9 (enc:=ab0) (w0:=w) (z:=.agg #[.int .i64 0,.int .i64 0,.int .i64 0]) (size:=3) (bytes:=24) (n:=0) (l:=[]) rfl (.tmp 5) (.tmp 6) rfl Tryz.underlying80 kr rfl (by decide) (by decide) rfl rfl (fun h=>by cases h) rfl hn (Own.emptyAt aL2 nl rfl) (hs.to ii) ar3 (by omega) ?_;intro sa1 sc1 x1 hown1 hgr1))
  go_ret
  rw[List.nil_append]at hown1
  exact⟨sa1,sc1,by rw[hn];first|rfl|simp,hown1,b5.of⟩
theorem bo9{B:Nat}{a:Option Addr}{c:Nat}{l:List aa5}{w:World}(hs:RdS B w a c l)(hm:l.length≤100000000) :
  Calls Tryz.prog 200 #[.slice a l.length c] w (U6 w l) :=
 (bm0 (c:=c) hs.slF rfl hm).mono fun _ _ h=>h.os hs
def ae1(x:Z1):List Value:=[.int .i64 x.Seq,.string x.Data]
theorem aL3(x:Z1):(ae1 x).length=2:=rfl
theorem aL4(x:Z1):∀ u∈ae1 x,u.oneCell'=true:=by
 intro u hu
 simp only[ae1,List.mem_cons,List.not_mem_nil,or_false]at hu
 rcases hu with rfl|rfl<;>rfl
instance D9.iTSent:D9 Z1 where
 toEnc:=inferInstance
 enc:=ae1
 ty:=272
 good:=aN9
 encLen:=fun _=>rfl
 one:=aL4
 rd:=fun h=>⟨rfl,h⟩
 inv:=fun h=>h
theorem bm1{a:Option Addr}{n c:Nat}{l:List Z1}{w:World}(hs:Sl ae1 w a l)(hn:l.length=n)(hm:n≤100000000) :
  Calls Tryz.prog 196 #[.slice a n c] w (N0 ae1 272 2 w l):=by
 cases a with
 | none =>
  have hl:l=[]:=by
   cases l with
   | nil=>rfl
   | cons y r=>obtain⟨b,off,h0,-⟩:=hs 0 y rfl;cases h0
  have hq:=fun(w:World)=>run_eql_slice_nil (P:=Tryz.prog) w 67 272 none n c Tryz.underlying67
  simp only[Option.isNone]at hq
  have HL:=lH hl;clear hl
  go_enter Tryz.func196,Tryz.ntmps196
  go_wp2_with (fail)
  go_ret
  exact N0.nilOf aL3 HL.out
 | some ad =>
  have hq:=fun(w:World)=>run_eql_slice_nil (P:=Tryz.prog) w 67 272 (some ad) n c Tryz.underlying67
  simp only[Option.isNone]at hq
  go_enter Tryz.func196,Tryz.ntmps196
  go_wp2_with (first|(at_builtin;refine J9 (enc:=ae1) (w0:=w) (z:=.agg #[.int .i64 0,.string ByteArray.empty]) (size:=2) (bytes:=24) (n:=0) (l:=[]) rfl (.tmp 5) (.tmp 6) rfl Tryz.underlying67 kr rfl (by decide) (by decide) rfl rfl (fun h=>by cases h) rfl hn (Own.emptyAt aL3 nl rfl) (hs.to ii) aL4 (by omega) ?_;intro sa1 sc1 x1 hown1 hgr1))
  go_ret
  rw[List.nil_append]at hown1
  exact⟨sa1,sc1,by rw[hn];first|rfl|simp,hown1,b5.of⟩
theorem bp0{B:Nat}{a:Option Addr}{c:Nat}{l:List Z1}{w:World}(hs:RdS B w a c l)(hm:l.length≤100000000) :
  Calls Tryz.prog 196 #[.slice a l.length c] w (U6 w l) :=
 (bm1 (c:=c) hs.slF rfl hm).mono fun _ _ h=>h.os hs
