/- The contracts on slices of strings: their mirrors, their size, their equality, their marks. No condition but on sizes. -/
import Derived.Test.YthbepablpaldgaaGreatSM0
namespace Go.Proofs.YthbepablpaldgaaGreat
set_option linter.unusedVariables false
open Go.ChangeShapes Go.WideShapes Go.ChangeAt Go.RowKit
def encStr(s:ByteArray):List Value:=[.string s]
theorem encStr_len(n:ByteArray):(encStr n).length=1:=rfl
theorem encStr_one(n:ByteArray):∀ u∈encStr n,u.oneCell'=true:=by intro u hu;simp[encStr]at hu;subst hu;rfl
theorem Sl.str{w:World}{a:Option Addr}{l:List ByteArray}(h:Sl encStr w a l){k:Nat}(hk:k<l.length) :
  ∃ b off s,a=some ⟨b,off,none⟩∧LtN b w.heap.size∧Hid (l.drop k=s::l.drop (k+1))∧(∀ (W:World) [Grows w W],W.cell? ⟨b,off+k,none⟩=some (.string s)):=by
 obtain⟨s,hs,hd⟩:=drop_at hk
 obtain⟨b,off,ha,hb,hc⟩:=h k s hs
 exact⟨b,off,s,ha,⟨hb⟩,hd,cell_grown hb (by simpa[encStr]using hc 0 _ rfl)⟩
theorem c_cloneStr{a:Option Addr}{n c:Nat}{l:List ByteArray}{w:World}(hs:Sl encStr w a l)(hn:l.length=n)(hm:n≤100000000) :
  Calls Tryz.prog 109 #[.slice a n c] w (GivesSl encStr 9 1 w l):=by
 cases a with
 | none =>
  have hl:l=[]:=by
   cases l with
   | nil=>rfl
   | cons y r=>obtain⟨b,off,h0,-⟩:=hs 0 y rfl;cases h0
  have hq:=fun(w:World)=>run_eql_slice_nil (P:=Tryz.prog) w 30 9 none n c Tryz.underlying30
  simp only[Option.isNone]at hq
  have HL:=lH hl;clear hl
  go_enter Tryz.func109,Tryz.ntmps109
  go_wp2_with (fail)
  go_ret
  exact GivesSl.nilOf encStr_len HL.out
 | some ad =>
  have hq:=fun(w:World)=>run_eql_slice_nil (P:=Tryz.prog) w 30 9 (some ad) n c Tryz.underlying30
  simp only[Option.isNone]at hq
  go_enter Tryz.func109,Tryz.ntmps109
  go_wp2_with (first|(at_builtin;refine wpList_appS (enc:=encStr) (w0:=w) (z:=.string ByteArray.empty) (size:=1) (bytes:=16) (n:=0) (l:=[]) rfl (.tmp 5) (.tmp 6) rfl Tryz.underlying30 kr rfl (by decide) (by decide) rfl rfl (fun h=>by cases h) rfl hn (Own.emptyAt encStr_len nl rfl) (hs.to ii) encStr_one (by omega) ?_;intro sa1 sc1 x1 hown1 hgr1))
  go_ret
  rw[List.nil_append]at hown1
  exact⟨sa1,sc1,by rw[hn];first|rfl|simp,hown1,Later.of⟩
