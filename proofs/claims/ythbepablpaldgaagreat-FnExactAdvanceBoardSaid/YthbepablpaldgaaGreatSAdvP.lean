/- AdvanceBoard step by step: plain functions. -/
import Derived.Test.YthbepablpaldgaaGreatSM38
namespace Go.Proofs.YthbepablpaldgaaGreat
set_option linter.unusedVariables false
open Go.ChangeShapes Go.WideShapes Go.ChangeAt Go.RowKit
theorem td_bd(r o t:Int):0≤ticksDue r o t∧ticksDue r o t≤1000:=by
 rw[ticksDue]
 split
 ·rename_i h
  rw[Bool.and_eq_true]at h
  have h1:=inB_iff.1 h.1
  have h2:=h.2
  have e0:inB t 0 1000000=true:=inB_iff.2 ⟨h1.1,by omega⟩
  have e1:inB (t+1) 0 1000000=true:=inB_iff.2 ⟨by omega,by omega⟩
  rw[driftOk,Bool.and_eq_true]at h2
  have hr:=inB_iff.1 h2.1
  rw[boardTime,boardTime,h.2,e0,e1]
  simp only[Bool.and_self,if_true,Int.add_mul];omega
 ·omega
def advT(m:TMission)(k:Nat):TMission:={ m with Time:=m.Time+1,Space:={ m.Space with Board:=tickN k m.Space.Board } }
theorem advT_next(m:TMission)(k:Nat):mBoard.set (advT m k) (tickBoard (advT m k).Space.Board)=advT m (k+1):=by
 show({ m with Time:=m.Time+1,Space:={ m.Space with Board:=tickBoard (tickN k m.Space.Board) } }:TMission)=_
 rw[← tickN_snoc];rfl
def advA(m:TMission)(N:Nat):List Int:=(tickN N m.Space.Board).Asked.drop m.Space.Begun.toNat
def advF(m:TMission)(N j:Nat):TMission:={ advT m N with Space:={ (advT m N).Space with Outs:=beginFiles m.Space.Files ((advA m N).take j) m.Space.Outs } }
theorem advF_next{m:TMission}{N j:Nat}{f:Int}(h:(advA m N)[j]?=some f):mOuts.set (advF m N j) ((mOuts.get (advF m N j)).set f.toNat (newOut f (m.Space.Files.getD f.toNat ByteArray.empty)))=advF m N (j+1):=by
 have e:(advA m N).take (j+1)=(advA m N).take j++[f]:=by rw[List.take_add_one,h];rfl
 show({ advT m N with Space:={ (advT m N).Space with Outs:=(beginFiles m.Space.Files ((advA m N).take j) m.Space.Outs).set f.toNat (newOut f (m.Space.Files.getD f.toNat ByteArray.empty)) } }:TMission)=_
 rw[← beginFiles_snoc,← e];rfl
theorem advF_end{m:TMission}{M n:Nat}(hn:advNow m=true)(hM:(advA m (advN m)).length=M)(hl:(tickN (advN m) m.Space.Board).Asked.length=n):({ advF m (advN m) M with Space:={ (advF m (advN m) M).Space with Begun:=(n:Int) } }:TMission)=advanceBoard m:=by
 rw[advanceBoard,if_pos hn]
 show({ m with Time:=m.Time+1,Space:={ m.Space with Board:=tickN (advN m) m.Space.Board,Outs:=beginFiles m.Space.Files ((advA m (advN m)).take M) m.Space.Outs,Begun:=(n:Int) } }:TMission)=_
 rw[List.take_of_length_le (by omega),← hl];rfl
theorem tickN_tot{m:TMission}(h:advNow m=true)(k:Nat):Enc.tot (tickN k m.Space.Board)≤81000:=by
 have h1:=boardOk_tot (adv_parts h).2.2.2.1
 have h2:=(tickN_asked k m.Space.Board).2.2
 omega
theorem advA_facts{m:TMission}(h:advNow m=true):∃ s n:Nat,m.Space.Begun=(s:Int)∧(tickN (advN m) m.Space.Board).Asked.length=n∧s≤n∧n≤5000∧(advA m (advN m)).length=n - s∧∀ f∈advA m (advN m),0≤f∧f≤7:=by
 obtain⟨-,-,-,-,h1,-⟩:=adv_parts h
 obtain⟨h2,h3,h4,-⟩:=adv_asked h
 refine⟨m.Space.Begun.toNat,_,by omega,rfl,h2,h4,by rw[advA,List.length_drop],fun f hf=>h3 f (List.mem_of_mem_drop hf)⟩
theorem advF_lens{m:TMission}(h:advNow m=true)(N j:Nat):(advF m N j).Space.Outs.length=8∧(advF m N j).Space.Files=m.Space.Files∧m.Space.Files.length=8∧(∀ i,i<8→(m.Space.Files.getD i ByteArray.empty).size≤600)∧(advF m N j).Space.Board=tickN N m.Space.Board:=by
 obtain⟨-,-,-,-,-,-,h1,h2,-⟩:=adv_parts h
 refine⟨(beginFiles_len ..).trans h2,rfl,h1,fun i hi=>adv_files h _ ?_,rfl⟩
 rw[List.getD_eq_getElem?_getD,List.getElem?_eq_getElem (by omega)]
 exact List.getElem_mem _
