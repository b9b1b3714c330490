/- Offers are given to the sender. Plain functions, no condition. -/
import Derived.Test.YtdinhfeflobafaaGreatSM19
import Derived.Test.YtdinhfeflobafaaGreatSM35
namespace Go.Proofs.YtdinhfeflobafaaGreat
set_option linter.unusedVariables false
open Go.ChangeShapes Go.WideShapes Go.ChangeAt Go.RowKit
def offerRes(s:TSender)(d:ByteArray):TSender:={ s with Waiting:=s.Waiting++[⟨s.Next,d⟩],Next:=(s.Next+1) % 256 }
def offerCmd(s:TSender)(d:ByteArray):TSender × Bool:=if senderOk s=true then(if senderOk (offerRes s d)=true then(offerRes s d,true)else(s,false))else(s,false)
def offerGo:List ByteArray→TSender→List ByteArray→List ByteArray × TSender × List ByteArray
 | [],s,o=>([],s,o)
 | d::r,s,o=>if (offerCmd s d).2=true then offerGo r (offerCmd s d).1 (o++[d])else(d::r,s,o)
def upM(m:TMission)(q:List ByteArray × TSender × List ByteArray):TMission:={ m with Ground:={ m.Ground with Offers:=q.1,Sender:=q.2.1 },Offered:=q.2.2 }
def offeredM(m:TMission):TMission:=upM m (offerGo m.Ground.Offers m.Ground.Sender m.Offered)
theorem sender_tot(s:TSender):Enc.tot s=totL s.Waiting:=rfl
theorem offerRes_tot(s:TSender)(d:ByteArray):Enc.tot (offerRes s d)=Enc.tot s+1+d.size:=totL_snoc s.Waiting _
theorem offerCmd_tot(s:TSender)(d:ByteArray):Enc.tot (offerCmd s d).1≤Enc.tot s+1+d.size:=by
 have h:=offerRes_tot s d
 unfold offerCmd
 split
 ·split
  ·exact Int.le_of_eq h
  ·simp only;omega
 ·simp only;omega
theorem offerCmd_ok{s:TSender}(h:senderOk s=true)(d:ByteArray):senderOk (offerCmd s d).1=true:=by
 unfold offerCmd
 rw[if_pos h]
 split
 ·assumption
 ·exact h
theorem upM_tot(m:TMission)(q:List ByteArray × TSender × List ByteArray):Enc.tot (upM m q)=Enc.tot m - totL m.Ground.Offers - Enc.tot m.Ground.Sender - totL m.Offered+totL q.1+Enc.tot q.2.1+totL q.2.2:=by
 have h1:Enc.tot (upM m q)=totL m.Plan+totL m.Ups+totL m.Downs+(totL q.1+Enc.tot q.2.1+Enc.tot m.Ground.Unpacker+totL m.Ground.Pairs+totL m.Ground.Records+totL m.Ground.Files+totL m.Ground.Told)+Enc.tot m.Space+totL q.2.2+totL m.Took:=rfl
 have h2:Enc.tot m=totL m.Plan+totL m.Ups+totL m.Downs+(totL m.Ground.Offers+Enc.tot m.Ground.Sender+Enc.tot m.Ground.Unpacker+totL m.Ground.Pairs+totL m.Ground.Records+totL m.Ground.Files+totL m.Ground.Told)+Enc.tot m.Space+totL m.Offered+totL m.Took:=rfl
 rw[h1,h2];omega
theorem offers_le(m:TMission):totL m.Ground.Offers≤Enc.tot m∧Enc.tot m.Ground.Sender≤Enc.tot m∧totL m.Offered≤Enc.tot m∧totL m.Ground.Offers+Enc.tot m.Ground.Sender+totL m.Offered≤Enc.tot m:=by
 have h2:Enc.tot m=totL m.Plan+totL m.Ups+totL m.Downs+(totL m.Ground.Offers+Enc.tot m.Ground.Sender+Enc.tot m.Ground.Unpacker+totL m.Ground.Pairs+totL m.Ground.Records+totL m.Ground.Files+totL m.Ground.Told)+Enc.tot m.Space+totL m.Offered+totL m.Took:=rfl
 have a0:=totL_nonneg m.Plan;have a1:=totL_nonneg m.Ups;have a2:=totL_nonneg m.Downs;have a3:=totL_nonneg m.Ground.Offers;have a4:=Enc.tot_nonneg m.Ground.Sender;have a5:=Enc.tot_nonneg m.Ground.Unpacker
 have a6:=totL_nonneg m.Ground.Pairs;have a7:=totL_nonneg m.Ground.Records;have a8:=totL_nonneg m.Ground.Files;have a9:=totL_nonneg m.Ground.Told;have b0:=Enc.tot_nonneg m.Space;have b1:=totL_nonneg m.Offered;have b2:=totL_nonneg m.Took
 omega
theorem offerGo_app:∀ (r:List ByteArray) (s:TSender) (o:List ByteArray),(offerGo r s o).2.2++(offerGo r s o).1=o++r∧(senderOk s=true→senderOk (offerGo r s o).2.1=true)
 | [],_,_=>⟨rfl,id⟩
 | d::r,s,o=>by
  rw[offerGo]
  split
  ·have ih:=offerGo_app r (offerCmd s d).1 (o++[d])
   exact⟨by rw[ih.1,List.append_assoc];rfl,fun h=>ih.2 (offerCmd_ok h d)⟩
  ·exact⟨rfl,id⟩
end Go.Proofs.YtdinhfeflobafaaGreat
