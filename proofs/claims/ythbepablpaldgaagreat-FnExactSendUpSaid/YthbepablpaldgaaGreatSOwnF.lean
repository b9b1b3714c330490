/- Flat elements, and the copies of their slices. No condition but on sizes. -/
import Derived.Test.YthbepablpaldgaaGreatSOwnC
import Derived.Test.YthbepablpaldgaaGreatSM7
namespace Go.Proofs.YthbepablpaldgaaGreat
set_option linter.unusedVariables false
open Go.ChangeShapes Go.WideShapes Go.ChangeAt Go.RowKit
theorem RdS.goods{α:Type}[E:Flat α]{B:Nat}{w:World}{a:Option Addr}{c:Nat}{l:List α}(h:RdS B w a c l):∀ x∈l,E.good x:=fun x hx=>by
 obtain⟨i,hi⟩:=List.getElem?_of_mem hx
 obtain⟨b,off,vs,-,-,-,h3,-⟩:=h.2.2.2 i x hi
 exact(E.inv h3).2
theorem RdS.slF{α:Type}[E:Flat α]{B:Nat}{w:World}{a:Option Addr}{c:Nat}{l:List α}(h:RdS B w a c l):Sl E.enc w a l:=fun i x hx=>by
 obtain⟨b,off,vs,h0,-,h2,h3,h4⟩:=h.2.2.2 i x hx
 obtain⟨rfl,-⟩:=E.inv h3
 exact⟨b,off,h0,h2,fun j v hv=>by rw[E.encLen];exact h4 j v hv⟩
theorem GivesSl.os{α:Type}[E:Flat α]{w w':World}{l:List α}{e:Ending}{B:Nat}{w0:World}{a:Option Addr}{c:Nat}(h:GivesSl E.enc E.ty E.size w l e w')(hs:RdS B w0 a c l):GivesOS w l e w':=by
 obtain⟨a',c',he,ho,y,hy⟩:=h
 exact⟨a',c',he,OwnC.of ho hs.goods _,y,hy⟩
instance Flat.iInt:Flat Int where
 toEnc:=inferInstance
 enc:=encInt
 ty:=3
 good:=i64
 encLen:=fun _=>rfl
 one:=encInt_one
 rd:=fun h=>⟨rfl,h⟩
 inv:=fun h=>h
theorem o_cloneInt{B:Nat}{a:Option Addr}{c:Nat}{l:List Int}{w:World}(hs:RdS B w a c l)(hm:l.length≤100000000) :
  Calls Tryz.prog 208 #[.slice a l.length c] w (GivesOS w l) :=
 (c_cloneInt (c:=c) hs.slF rfl hm).mono fun _ _ h=>h.os hs
def encBoo(x:Bool):List Value:=[.bool x]
theorem encBoo_len(x:Bool):(encBoo x).length=1:=rfl
theorem encBoo_one(x:Bool):∀ u∈encBoo x,u.oneCell'=true:=by
 intro u hu
 simp only[encBoo,List.mem_cons,List.not_mem_nil,or_false]at hu
 rcases hu with rfl<;>rfl
instance Flat.iBool:Flat Bool where
 toEnc:=inferInstance
 enc:=encBoo
 ty:=4
 good:=fun _=>True
 encLen:=fun _=>rfl
 one:=encBoo_one
 rd:=fun _=>rfl
 inv:=fun h=>⟨h,trivial⟩
theorem c_cloneBoo{a:Option Addr}{n c:Nat}{l:List Bool}{w:World}(hs:Sl encBoo w a l)(hn:l.length=n)(hm:n≤100000000) :
  Calls Tryz.prog 115 #[.slice a n c] w (GivesSl encBoo 4 1 w l):=by
 cases a with
 | none =>
  have hl:l=[]:=by
   cases l with
   | nil=>rfl
   | cons y r=>obtain⟨b,off,h0,-⟩:=hs 0 y rfl;cases h0
  have hq:=fun(w:World)=>run_eql_slice_nil (P:=Tryz.prog) w 41 4 none n c Tryz.underlying41
  simp only[Option.isNone]at hq
  have HL:=lH hl;clear hl
  go_enter Tryz.func115,Tryz.ntmps115
  go_wp2_with (fail)
  go_ret
  exact GivesSl.nilOf encBoo_len HL.out
 | some ad =>
  have hq:=fun(w:World)=>run_eql_slice_nil (P:=Tryz.prog) w 41 4 (some ad) n c Tryz.underlying41
  simp only[Option.isNone]at hq
  go_enter Tryz.func115,Tryz.ntmps115
  go_wp2_with (first|(at_builtin;refine wpList_appS (enc:=encBoo) (w0:=w) (z:=.bool false) (size:=1) (bytes:=1) (n:=0) (l:=[]) rfl (.tmp 5) (.tmp 6) rfl Tryz.underlying41 kr rfl (by decide) (by decide) rfl rfl (fun h=>by cases h) rfl hn (Own.emptyAt encBoo_len nl rfl) (hs.to ii) encBoo_one (by omega) ?_;intro sa1 sc1 x1 hown1 hgr1))
  go_ret
  rw[List.nil_append]at hown1
  exact⟨sa1,sc1,by rw[hn];first|rfl|simp,hown1,Later.of⟩
theorem o_cloneBool{B:Nat}{a:Option Addr}{c:Nat}{l:List Bool}{w:World}(hs:RdS B w a c l)(hm:l.length≤100000000) :
  Calls Tryz.prog 115 #[.slice a l.length c] w (GivesOS w l) :=
 (c_cloneBoo (c:=c) hs.slF rfl hm).mono fun _ _ h=>h.os hs
instance Flat.iByteArray:Flat ByteArray where
 toEnc:=inferInstance
 enc:=encStr
 ty:=9
 good:=fun s=>s.size≤9223372036854775807
 encLen:=fun _=>rfl
 one:=encStr_one
 rd:=fun h=>⟨rfl,h⟩
 inv:=fun h=>h
theorem o_cloneByteArray{B:Nat}{a:Option Addr}{c:Nat}{l:List ByteArray}{w:World}(hs:RdS B w a c l)(hm:l.length≤100000000) :
  Calls Tryz.prog 109 #[.slice a l.length c] w (GivesOS w l) :=
 (c_cloneStr (c:=c) hs.slF rfl hm).mono fun _ _ h=>h.os hs
theorem encSlot_oneO(x:Slot):∀ u∈encSlot x,u.oneCell'=true:=by
 intro u hu
 simp only[encSlot,List.mem_cons,List.not_mem_nil,or_false]at hu
 rcases hu with rfl|rfl<;>rfl
instance Flat.iSlot:Flat Slot where
 toEnc:=inferInstance
 enc:=encSlot
 ty:=174
 good:=okDSlot
 encLen:=fun _=>rfl
 one:=encSlot_oneO
 rd:=fun h=>⟨rfl,h⟩
 inv:=fun h=>h
theorem c_cloneSlot{a:Option Addr}{n c:Nat}{l:List Slot}{w:World}(hs:Sl encSlot w a l)(hn:l.length=n)(hm:n≤100000000) :
  Calls Tryz.prog 107 #[.slice a n c] w (GivesSl encSlot 174 2 w l):=by
 cases a with
 | none =>
  have hl:l=[]:=by
   cases l with
   | nil=>rfl
   | cons y r=>obtain⟨b,off,h0,-⟩:=hs 0 y rfl;cases h0
  have hq:=fun(w:World)=>run_eql_slice_nil (P:=Tryz.prog) w 64 174 none n c Tryz.underlying64
  simp only[Option.isNone]at hq
  have HL:=lH hl;clear hl
  go_enter Tryz.func107,Tryz.ntmps107
  go_wp2_with (fail)
  go_ret
  exact GivesSl.nilOf encSlot_len HL.out
 | some ad =>
  have hq:=fun(w:World)=>run_eql_slice_nil (P:=Tryz.prog) w 64 174 (some ad) n c Tryz.underlying64
  simp only[Option.isNone]at hq
  go_enter Tryz.func107,Tryz.ntmps107
  go_wp2_with (first|(at_builtin;refine wpList_appS (enc:=encSlot) (w0:=w) (z:=.agg #[.int .i64 0,.int .i64 0]) (size:=2) (bytes:=16) (n:=0) (l:=[]) rfl (.tmp 5) (.tmp 6) rfl Tryz.underlying64 kr rfl (by decide) (by decide) rfl rfl (fun h=>by cases h) rfl hn (Own.emptyAt encSlot_len nl rfl) (hs.to ii) encSlot_oneO (by omega) ?_;intro sa1 sc1 x1 hown1 hgr1))
  go_ret
  rw[List.nil_append]at hown1
  exact⟨sa1,sc1,by rw[hn];first|rfl|simp,hown1,Later.of⟩
theorem o_cloneSlot{B:Nat}{a:Option Addr}{c:Nat}{l:List Slot}{w:World}(hs:RdS B w a c l)(hm:l.length≤100000000) :
  Calls Tryz.prog 107 #[.slice a l.length c] w (GivesOS w l) :=
 (c_cloneSlot (c:=c) hs.slF rfl hm).mono fun _ _ h=>h.os hs
theorem encPair_oneO(x:Pair):∀ u∈encPair x,u.oneCell'=true:=by
 intro u hu
 simp only[encPair,List.mem_cons,List.not_mem_nil,or_false]at hu
 rcases hu with rfl|rfl<;>rfl
instance Flat.iPair:Flat Pair where
 toEnc:=inferInstance
 enc:=encPair
 ty:=194
 good:=okDPair
 encLen:=fun _=>rfl
 one:=encPair_oneO
 rd:=fun h=>⟨rfl,h⟩
 inv:=fun h=>h
theorem o_clonePair{B:Nat}{a:Option Addr}{c:Nat}{l:List Pair}{w:World}(hs:RdS B w a c l)(hm:l.length≤100000000) :
  Calls Tryz.prog 111 #[.slice a l.length c] w (GivesOS w l) :=
 (c_clonePair (c:=c) hs.slF rfl hm).mono fun _ _ h=>h.os hs
def encTFlight(x:TFlight):List Value:=[.int .i64 x.At,.string x.Data]
theorem encTFlight_len(x:TFlight):(encTFlight x).length=2:=rfl
theorem encTFlight_one(x:TFlight):∀ u∈encTFlight x,u.oneCell'=true:=by
 intro u hu
 simp only[encTFlight,List.mem_cons,List.not_mem_nil,or_false]at hu
 rcases hu with rfl|rfl<;>rfl
instance Flat.iTFlight:Flat TFlight where
 toEnc:=inferInstance
 enc:=encTFlight
 ty:=177
 good:=okDTFlight
 encLen:=fun _=>rfl
 one:=encTFlight_one
 rd:=fun h=>⟨rfl,h⟩
 inv:=fun h=>h
theorem c_cloneTFlight{a:Option Addr}{n c:Nat}{l:List TFlight}{w:World}(hs:Sl encTFlight w a l)(hn:l.length=n)(hm:n≤100000000) :
  Calls Tryz.prog 108 #[.slice a n c] w (GivesSl encTFlight 177 2 w l):=by
 cases a with
 | none =>
  have hl:l=[]:=by
   cases l with
   | nil=>rfl
   | cons y r=>obtain⟨b,off,h0,-⟩:=hs 0 y rfl;cases h0
  have hq:=fun(w:World)=>run_eql_slice_nil (P:=Tryz.prog) w 66 177 none n c Tryz.underlying66
  simp only[Option.isNone]at hq
  have HL:=lH hl;clear hl
  go_enter Tryz.func108,Tryz.ntmps108
  go_wp2_with (fail)
  go_ret
  exact GivesSl.nilOf encTFlight_len HL.out
 | some ad =>
  have hq:=fun(w:World)=>run_eql_slice_nil (P:=Tryz.prog) w 66 177 (some ad) n c Tryz.underlying66
  simp only[Option.isNone]at hq
  go_enter Tryz.func108,Tryz.ntmps108
  go_wp2_with (first|(at_builtin;refine wpList_appS (enc:=encTFlight) (w0:=w) (z:=.agg #[.int .i64 0,.string ByteArray.empty]) (size:=2) (bytes:=24) (n:=0) (l:=[]) rfl (.tmp 5) (.tmp 6) rfl Tryz.underlying66 kr rfl (by decide) (by decide) rfl rfl (fun h=>by cases h) rfl hn (Own.emptyAt encTFlight_len nl rfl) (hs.to ii) encTFlight_one (by omega) ?_;intro sa1 sc1 x1 hown1 hgr1))
  go_ret
  rw[List.nil_append]at hown1
  exact⟨sa1,sc1,by rw[hn];first|rfl|simp,hown1,Later.of⟩
theorem o_cloneTFlight{B:Nat}{a:Option Addr}{c:Nat}{l:List TFlight}{w:World}(hs:RdS B w a c l)(hm:l.length≤100000000) :
  Calls Tryz.prog 108 #[.slice a l.length c] w (GivesOS w l) :=
 (c_cloneTFlight (c:=c) hs.slF rfl hm).mono fun _ _ h=>h.os hs
def encTRecord(x:TRecord):List Value:=[.int .i64 x.Id,.int .i64 x.Priority,.int .i64 x.Time,.string x.Data]
theorem encTRecord_len(x:TRecord):(encTRecord x).length=4:=rfl
theorem encTRecord_one(x:TRecord):∀ u∈encTRecord x,u.oneCell'=true:=by
 intro u hu
 simp only[encTRecord,List.mem_cons,List.not_mem_nil,or_false]at hu
 rcases hu with rfl|rfl|rfl|rfl<;>rfl
instance Flat.iTRecord:Flat TRecord where
 toEnc:=inferInstance
 enc:=encTRecord
 ty:=197
 good:=okDTRecord
 encLen:=fun _=>rfl
 one:=encTRecord_one
 rd:=fun h=>⟨rfl,h⟩
 inv:=fun h=>h
theorem c_cloneTRecord{a:Option Addr}{n c:Nat}{l:List TRecord}{w:World}(hs:Sl encTRecord w a l)(hn:l.length=n)(hm:n≤100000000) :
  Calls Tryz.prog 112 #[.slice a n c] w (GivesSl encTRecord 197 4 w l):=by
 cases a with
 | none =>
  have hl:l=[]:=by
   cases l with
   | nil=>rfl
   | cons y r=>obtain⟨b,off,h0,-⟩:=hs 0 y rfl;cases h0
  have hq:=fun(w:World)=>run_eql_slice_nil (P:=Tryz.prog) w 73 197 none n c Tryz.underlying73
  simp only[Option.isNone]at hq
  have HL:=lH hl;clear hl
  go_enter Tryz.func112,Tryz.ntmps112
  go_wp2_with (fail)
  go_ret
  exact GivesSl.nilOf encTRecord_len HL.out
 | some ad =>
  have hq:=fun(w:World)=>run_eql_slice_nil (P:=Tryz.prog) w 73 197 (some ad) n c Tryz.underlying73
  simp only[Option.isNone]at hq
  go_enter Tryz.func112,Tryz.ntmps112
  go_wp2_with (first|(at_builtin;refine wpList_appS (enc:=encTRecord) (w0:=w) (z:=.agg #[.int .i64 0,.int .i64 0,.int .i64 0,.string ByteArray.empty]) (size:=4) (bytes:=40) (n:=0) (l:=[]) rfl (.tmp 5) (.tmp 6) rfl Tryz.underlying73 kr rfl (by decide) (by decide) rfl rfl (fun h=>by cases h) rfl hn (Own.emptyAt encTRecord_len nl rfl) (hs.to ii) encTRecord_one (by omega) ?_;intro sa1 sc1 x1 hown1 hgr1))
  go_ret
  rw[List.nil_append]at hown1
  exact⟨sa1,sc1,by rw[hn];first|rfl|simp,hown1,Later.of⟩
theorem o_cloneTRecord{B:Nat}{a:Option Addr}{c:Nat}{l:List TRecord}{w:World}(hs:RdS B w a c l)(hm:l.length≤100000000) :
  Calls Tryz.prog 112 #[.slice a l.length c] w (GivesOS w l) :=
 (c_cloneTRecord (c:=c) hs.slF rfl hm).mono fun _ _ h=>h.os hs
def encTWaiting(x:TWaiting):List Value:=[.int .i64 x.Number,.int .i64 x.Order.Kind,.int .i64 x.Order.At,.int .i64 x.Order.A,.int .i64 x.Order.B]
theorem encTWaiting_len(x:TWaiting):(encTWaiting x).length=5:=rfl
theorem encTWaiting_one(x:TWaiting):∀ u∈encTWaiting x,u.oneCell'=true:=by
 intro u hu
 simp only[encTWaiting,List.mem_cons,List.not_mem_nil,or_false]at hu
 rcases hu with rfl|rfl|rfl|rfl|rfl<;>rfl
instance Flat.iTWaiting:Flat TWaiting where
 toEnc:=inferInstance
 enc:=encTWaiting
 ty:=169
 good:=okDTWaiting
 encLen:=fun _=>rfl
 one:=encTWaiting_one
 rd:=fun h=>⟨rfl,h⟩
 inv:=fun h=>h
theorem c_cloneTWaiting{a:Option Addr}{n c:Nat}{l:List TWaiting}{w:World}(hs:Sl encTWaiting w a l)(hn:l.length=n)(hm:n≤100000000) :
  Calls Tryz.prog 210 #[.slice a n c] w (GivesSl encTWaiting 169 5 w l):=by
 cases a with
 | none =>
  have hl:l=[]:=by
   cases l with
   | nil=>rfl
   | cons y r=>obtain⟨b,off,h0,-⟩:=hs 0 y rfl;cases h0
  have hq:=fun(w:World)=>run_eql_slice_nil (P:=Tryz.prog) w 79 169 none n c Tryz.underlying79
  simp only[Option.isNone]at hq
  have HL:=lH hl;clear hl
  go_enter Tryz.func210,Tryz.ntmps210
  go_wp2_with (fail)
  go_ret
  exact GivesSl.nilOf encTWaiting_len HL.out
 | some ad =>
  have hq:=fun(w:World)=>run_eql_slice_nil (P:=Tryz.prog) w 79 169 (some ad) n c Tryz.underlying79
  simp only[Option.isNone]at hq
  go_enter Tryz.func210,Tryz.ntmps210
  go_wp2_with (first|(at_builtin;refine wpList_appS (enc:=encTWaiting) (w0:=w) (z:=.agg #[.int .i64 0,.int .i64 0,.int .i64 0,.int .i64 0,.int .i64 0]) (size:=5) (bytes:=40) (n:=0) (l:=[]) rfl (.tmp 5) (.tmp 6) rfl Tryz.underlying79 kr rfl (by decide) (by decide) rfl rfl (fun h=>by cases h) rfl hn (Own.emptyAt encTWaiting_len nl rfl) (hs.to ii) encTWaiting_one (by omega) ?_;intro sa1 sc1 x1 hown1 hgr1))
  go_ret
  rw[List.nil_append]at hown1
  exact⟨sa1,sc1,by rw[hn];first|rfl|simp,hown1,Later.of⟩
theorem o_cloneTWaiting{B:Nat}{a:Option Addr}{c:Nat}{l:List TWaiting}{w:World}(hs:RdS B w a c l)(hm:l.length≤100000000) :
  Calls Tryz.prog 210 #[.slice a l.length c] w (GivesOS w l) :=
 (c_cloneTWaiting (c:=c) hs.slF rfl hm).mono fun _ _ h=>h.os hs
def encTLimit(x:TLimit):List Value:=[.int .i64 x.Param,.int .i64 x.Low,.int .i64 x.High]
theorem encTLimit_len(x:TLimit):(encTLimit x).length=3:=rfl
theorem encTLimit_one(x:TLimit):∀ u∈encTLimit x,u.oneCell'=true:=by
 intro u hu
 simp only[encTLimit,List.mem_cons,List.not_mem_nil,or_false]at hu
 rcases hu with rfl|rfl|rfl<;>rfl
instance Flat.iTLimit:Flat TLimit where
 toEnc:=inferInstance
 enc:=encTLimit
 ty:=250
 good:=okDTLimit
 encLen:=fun _=>rfl
 one:=encTLimit_one
 rd:=fun h=>⟨rfl,h⟩
 inv:=fun h=>h
theorem c_cloneTLimit{a:Option Addr}{n c:Nat}{l:List TLimit}{w:World}(hs:Sl encTLimit w a l)(hn:l.length=n)(hm:n≤100000000) :
  Calls Tryz.prog 209 #[.slice a n c] w (GivesSl encTLimit 250 3 w l):=by
 cases a with
 | none =>
  have hl:l=[]:=by
   cases l with
   | nil=>rfl
   | cons y r=>obtain⟨b,off,h0,-⟩:=hs 0 y rfl;cases h0
  have hq:=fun(w:World)=>run_eql_slice_nil (P:=Tryz.prog) w 78 250 none n c Tryz.underlying78
  simp only[Option.isNone]at hq
  have HL:=lH hl;clear hl
  go_enter Tryz.func209,Tryz.ntmps209
  go_wp2_with (fail)
  go_ret
  exact GivesSl.nilOf encTLimit_len HL.out
 | some ad =>
  have hq:=fun(w:World)=>run_eql_slice_nil (P:=Tryz.prog) w 78 250 (some ad) n c Tryz.underlying78
  simp only[Option.isNone]at hq
  go_enter Tryz.func209,Tryz.ntmps209
  go_wp2_with (first|(at_builtin;refine wpList_appS (enc:=encTLimit) (w0:=w) (z:=.agg #[.int .i64 0,.int .i64 0,.int .i64 0]) (size:=3) (bytes:=24) (n:=0) (l:=[]) rfl (.tmp 5) (.tmp 6) rfl Tryz.underlying78 kr rfl (by decide) (by decide) rfl rfl (fun h=>by cases h) rfl hn (Own.emptyAt encTLimit_len nl rfl) (hs.to ii) encTLimit_one (by omega) ?_;intro sa1 sc1 x1 hown1 hgr1))
  go_ret
  rw[List.nil_append]at hown1
  exact⟨sa1,sc1,by rw[hn];first|rfl|simp,hown1,Later.of⟩
theorem o_cloneTLimit{B:Nat}{a:Option Addr}{c:Nat}{l:List TLimit}{w:World}(hs:RdS B w a c l)(hm:l.length≤100000000) :
  Calls Tryz.prog 209 #[.slice a l.length c] w (GivesOS w l) :=
 (c_cloneTLimit (c:=c) hs.slF rfl hm).mono fun _ _ h=>h.os hs
def encTDone(x:TDone):List Value:=[.int .i64 x.Number,.int .i64 x.Time,.int .i64 x.Result]
theorem encTDone_len(x:TDone):(encTDone x).length=3:=rfl
theorem encTDone_one(x:TDone):∀ u∈encTDone x,u.oneCell'=true:=by
 intro u hu
 simp only[encTDone,List.mem_cons,List.not_mem_nil,or_false]at hu
 rcases hu with rfl|rfl|rfl<;>rfl
instance Flat.iTDone:Flat TDone where
 toEnc:=inferInstance
 enc:=encTDone
 ty:=252
 good:=okDTDone
 encLen:=fun _=>rfl
 one:=encTDone_one
 rd:=fun h=>⟨rfl,h⟩
 inv:=fun h=>h
theorem c_cloneTDone{a:Option Addr}{n c:Nat}{l:List TDone}{w:World}(hs:Sl encTDone w a l)(hn:l.length=n)(hm:n≤100000000) :
  Calls Tryz.prog 211 #[.slice a n c] w (GivesSl encTDone 252 3 w l):=by
 cases a with
 | none =>
  have hl:l=[]:=by
   cases l with
   | nil=>rfl
   | cons y r=>obtain⟨b,off,h0,-⟩:=hs 0 y rfl;cases h0
  have hq:=fun(w:World)=>run_eql_slice_nil (P:=Tryz.prog) w 80 252 none n c Tryz.underlying80
  simp only[Option.isNone]at hq
  have HL:=lH hl;clear hl
  go_enter Tryz.func211,Tryz.ntmps211
  go_wp2_with (fail)
  go_ret
  exact GivesSl.nilOf encTDone_len HL.out
 | some ad =>
  have hq:=fun(w:World)=>run_eql_slice_nil (P:=Tryz.prog) w 80 252 (some ad) n c Tryz.underlying80
  simp only[Option.isNone]at hq
  go_enter Tryz.func211,Tryz.ntmps211
  go_wp2_with (first|(at_builtin;refine wpList_appS (enc:=encTDone) (w0:=w) (z:=.agg #[.int .i64 0,.int .i64 0,.int .i64 0]) (size:=3) (bytes:=24) (n:=0) (l:=[]) rfl (.tmp 5) (.tmp 6) rfl Tryz.underlying80 kr rfl (by decide) (by decide) rfl rfl (fun h=>by cases h) rfl hn (Own.emptyAt encTDone_len nl rfl) (hs.to ii) encTDone_one (by omega) ?_;intro sa1 sc1 x1 hown1 hgr1))
  go_ret
  rw[List.nil_append]at hown1
  exact⟨sa1,sc1,by rw[hn];first|rfl|simp,hown1,Later.of⟩
theorem o_cloneTDone{B:Nat}{a:Option Addr}{c:Nat}{l:List TDone}{w:World}(hs:RdS B w a c l)(hm:l.length≤100000000) :
  Calls Tryz.prog 211 #[.slice a l.length c] w (GivesOS w l) :=
 (c_cloneTDone (c:=c) hs.slF rfl hm).mono fun _ _ h=>h.os hs
def encTSent(x:TSent):List Value:=[.int .i64 x.Seq,.string x.Data]
theorem encTSent_len(x:TSent):(encTSent x).length=2:=rfl
theorem encTSent_one(x:TSent):∀ u∈encTSent x,u.oneCell'=true:=by
 intro u hu
 simp only[encTSent,List.mem_cons,List.not_mem_nil,or_false]at hu
 rcases hu with rfl|rfl<;>rfl
instance Flat.iTSent:Flat TSent where
 toEnc:=inferInstance
 enc:=encTSent
 ty:=224
 good:=okDTSent
 encLen:=fun _=>rfl
 one:=encTSent_one
 rd:=fun h=>⟨rfl,h⟩
 inv:=fun h=>h
theorem c_cloneTSent{a:Option Addr}{n c:Nat}{l:List TSent}{w:World}(hs:Sl encTSent w a l)(hn:l.length=n)(hm:n≤100000000) :
  Calls Tryz.prog 207 #[.slice a n c] w (GivesSl encTSent 224 2 w l):=by
 cases a with
 | none =>
  have hl:l=[]:=by
   cases l with
   | nil=>rfl
   | cons y r=>obtain⟨b,off,h0,-⟩:=hs 0 y rfl;cases h0
  have hq:=fun(w:World)=>run_eql_slice_nil (P:=Tryz.prog) w 67 224 none n c Tryz.underlying67
  simp only[Option.isNone]at hq
  have HL:=lH hl;clear hl
  go_enter Tryz.func207,Tryz.ntmps207
  go_wp2_with (fail)
  go_ret
  exact GivesSl.nilOf encTSent_len HL.out
 | some ad =>
  have hq:=fun(w:World)=>run_eql_slice_nil (P:=Tryz.prog) w 67 224 (some ad) n c Tryz.underlying67
  simp only[Option.isNone]at hq
  go_enter Tryz.func207,Tryz.ntmps207
  go_wp2_with (first|(at_builtin;refine wpList_appS (enc:=encTSent) (w0:=w) (z:=.agg #[.int .i64 0,.string ByteArray.empty]) (size:=2) (bytes:=24) (n:=0) (l:=[]) rfl (.tmp 5) (.tmp 6) rfl Tryz.underlying67 kr rfl (by decide) (by decide) rfl rfl (fun h=>by cases h) rfl hn (Own.emptyAt encTSent_len nl rfl) (hs.to ii) encTSent_one (by omega) ?_;intro sa1 sc1 x1 hown1 hgr1))
  go_ret
  rw[List.nil_append]at hown1
  exact⟨sa1,sc1,by rw[hn];first|rfl|simp,hown1,Later.of⟩
theorem o_cloneTSent{B:Nat}{a:Option Addr}{c:Nat}{l:List TSent}{w:World}(hs:RdS B w a c l)(hm:l.length≤100000000) :
  Calls Tryz.prog 207 #[.slice a l.length c] w (GivesOS w l) :=
 (c_cloneTSent (c:=c) hs.slF rfl hm).mono fun _ _ h=>h.os hs
