/- SendUp. -/
import Derived.Test.YthbepablpaldgaaGreatSM47
import Derived.Test.YthbepablpaldgaaGreatSM34
namespace Go.Proofs.YthbepablpaldgaaGreat
set_option linter.unusedVariables false
open Go.ChangeShapes Go.WideShapes Go.ChangeAt Go.RowKit
def sendOne(m:TMission)(s:ByteArray):TMission:={ m with Up:=(sendFlight m.Up m.Ups (makeBlock s) (m.Time+m.Light)).1,Ups:=(sendFlight m.Up m.Ups (makeBlock s) (m.Time+m.Light)).2 }
def sendAll:List ByteArray→TMission→TMission
 | [],m=>m
 | s::r,m=>sendAll r (sendOne m s)
def upTexts(m:TMission):List ByteArray:=if m.Ground.Notice.Locked=true then[encCmd 1 0 ⟨#[]⟩]else cmdBlocks m.Ground.Sender
def sendUp(m:TMission):TMission:=if missionOk m=true then(if visible m.Orbit.Period m.Orbit.Start m.Orbit.Length m.Time=true then sendAll ((upTexts (offeredM m)).take 3) (offeredM m)else offeredM m)else m
theorem nextR_i64(s:Int):i64 (nextR s):=by have:=nextR_bd s;unfold i64;omega
theorem sendBlock_ok{c:TChannel}{s:ByteArray}(h:okDTChannel c):okDTChannel (sendBlock c s).1:=by
 obtain⟨h1,h2,h3,-⟩:=h
 unfold sendBlock
 split
 ·split
  ·exact⟨nextR_i64 _,h2,h3,trivial⟩
  ·split
   ·refine⟨?_,h2,h3,trivial⟩
    unfold burst
    split
    ·exact nextR_i64 _
    ·exact nextR_i64 _
   ·exact⟨nextR_i64 _,h2,h3,trivial⟩
 ·exact⟨h1,h2,h3,trivial⟩
theorem sendBlock_size(c:TChannel)(s:ByteArray):(sendBlock c s).2.size≤s.size:=by
 unfold sendBlock
 split
 ·rename_i hc
  have h4:4≤s.size:=by simp only[Bool.and_eq_true,decide_eq_true_eq]at hc;exact hc.2
  split
  ·exact Nat.zero_le _
  ·split
   ·show(s.extract 0 4++(burst (nextR (nextR c.Seed)) (s.extract 4 s.size)).2).size≤s.size
    rw[ByteArray.size_append,burst_size]
    simp
    omega
   ·exact Nat.le_refl _
 ·exact Nat.le_refl _
theorem makeBlock_le(s:ByteArray):(makeBlock s).size≤404:=by
 by_cases h:s.size≤200
 ·have:=makeBlock_size s h;omega
 ·rw[makeBlock,if_pos (.inr (by omega))];exact Nat.zero_le _
theorem sendOne_tot(m:TMission)(s:ByteArray):Enc.tot (sendOne m s)≤Enc.tot m+405∧(sendOne m s).Ups.length≤m.Ups.length+1:=by
 have h1:Enc.tot (sendOne m s)=totL m.Plan+totL (sendOne m s).Ups+totL m.Downs+Enc.tot m.Ground+Enc.tot m.Space+totL m.Offered+totL m.Took:=rfl
 have h2:Enc.tot m=totL m.Plan+totL m.Ups+totL m.Downs+Enc.tot m.Ground+Enc.tot m.Space+totL m.Offered+totL m.Took:=rfl
 have h3:=makeBlock_le s
 have h4:=sendBlock_size m.Up (makeBlock s)
 have h5:(sendOne m s).Ups=if (sendBlock m.Up (makeBlock s)).2.size=0 then m.Ups else m.Ups++[⟨m.Time+m.Light,(sendBlock m.Up (makeBlock s)).2⟩]:=rfl
 rw[h1,h2,h5]
 split
 ·constructor<;>omega
 ·have h6:Enc.tot (⟨m.Time+m.Light,(sendBlock m.Up (makeBlock s)).2⟩:TFlight)=((sendBlock m.Up (makeBlock s)).2.size:Int):=rfl
  rw[totL_snoc,h6,List.length_append]
  exact⟨by omega,Nat.le_refl _⟩
theorem sendAll_tot:∀ (l:List ByteArray) (m:TMission),Enc.tot (sendAll l m)≤Enc.tot m+405*l.length
 | [],m=>by simp[sendAll]
 | s::r,m=>by
  have h1:=sendAll_tot r (sendOne m s)
  have h2:=(sendOne_tot m s).1
  rw[sendAll,List.length_cons]
  omega
theorem sendUp_tot(m:TMission):Enc.tot (sendUp m)≤2*Enc.tot m+1215:=by
 have h0:=Enc.tot_nonneg m
 have h1:=offeredM_tot m
 unfold sendUp
 split
 ·split
  ·have h2:=sendAll_tot ((upTexts (offeredM m)).take 3) (offeredM m)
   have h3:((upTexts (offeredM m)).take 3).length≤3:=by simp;omega
   omega
  ·omega
 ·omega
theorem mission_parts{m:TMission}(h:missionOk m=true):0≤m.Time∧m.Time≤1000000∧0≤m.Light∧m.Light≤50∧senderOk m.Ground.Sender=true:=by
 simp only[missionOk,groundOk,Bool.and_eq_true]at h
 have h1:=inB_iff.1 h.1
 have h2:=inB_iff.1 h.2.1
 exact⟨h1.1,h1.2,h2.1,h2.2,h.2.2.2.2.2.2.2.2.2.2.1.1⟩
theorem offered_ok{m:TMission}(h:missionOk m=true):senderOk (offeredM m).Ground.Sender=true:=(offerGo_app m.Ground.Offers m.Ground.Sender m.Offered).2 (mission_parts h).2.2.2.2
theorem encCmd_fit{kind seq:Int}{s:ByteArray}(h:s.size≤40):(encCmd kind seq s).size≤200:=by rw[encCmd_size];omega
theorem upTexts_fit{m:TMission}(h:senderOk m.Ground.Sender=true):∀ s∈upTexts m,s.size≤200:=by
 intro s hs
 unfold upTexts at hs
 split at hs
 ·rw[List.mem_singleton.1 hs];exact encCmd_fit (by decide)
 ·obtain⟨x,hx,rfl⟩:=List.mem_map.1 hs
  exact encCmd_fit ((senderOk_at h).2 x hx).2.1
