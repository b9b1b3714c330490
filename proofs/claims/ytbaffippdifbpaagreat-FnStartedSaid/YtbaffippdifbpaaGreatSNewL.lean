/- A new mission is valid, and its ledger is. No condition. -/
import Derived.Test.YtbaffippdifbpaaGreatSM45
import Derived.Test.YtbaffippdifbpaaGreatSM5
namespace Go.Proofs.YtbaffippdifbpaaGreat
set_option linter.unusedVariables false
open Go.ChangeShapes Go.WideShapes Go.ChangeAt Go.RowKit
theorem esz:(⟨#[]⟩:ByteArray).size=0:=rfl
theorem newB_ok{room:Int}{L:List TLimit}(hr:inB room 0 4000=true)(hL:L.length≤8)(h:L.all limitOk=true):boardOk (newBoard room L)=true:=by
 have h1:=inB_iff.1 hr
 have hL':((L.length:Int)≤8):=by omega
 simp[boardOk,newBoard,h,recorderOk,used,ascGo,ordersOk,ordersFrom,allB,inB,hL',h1.1,h1.2,List.replicate]
theorem fileIn0_ok{k:Nat}(h:k≤7):fileInOkT (fileIn0 k)=true:=by
 have h1:((k:Int)≤7):=by omega
 simp[fileInOkT,fileInOk,fileIn0,inB,shortAll,List.replicate,h1,esz]
theorem insOf_ok:∀ (l:List ByteArray) (k:Nat),k+l.length≤8→filesFrom k (insOf k l)=true
 | [],_,_=>rfl
 | _::r,k,h=>by
  have h':k+(r.length+1)≤8:=h
  rw[insOf,filesFrom,fileIn0_ok (by omega),insOf_ok r (k+1) (by omega)]
  simp[fileIn0]
theorem fileOut0_ok{k:Nat}{s:ByteArray}(h:k≤7)(hs:s.size≤600):outOk s k (fileOut0 k s)=true:=by
 have h1:((k:Int)≤7):=by omega
 have h2:((s.size:Int)≤600):=by omega
 simp[outOk,fileOutOkT,fileOutOk,fileOut0,inB,allB,h1,h2]
theorem outsOf_ok(fs:List ByteArray):∀ (l pre:List ByteArray),fs=pre++l→fs.length≤8→(∀ s∈fs,s.size≤600)→outsFrom fs pre.length (outsOf pre.length l)=true
 | [],_,_,_,_=>rfl
 | s::r,pre,h,hl,hs=>by
  have hlen:pre.length+(r.length+1)≤8:=by rw[h]at hl;simpa using hl
  have hg:fs.getD pre.length ByteArray.empty=s:=by rw[h];simp[List.getD_eq_getElem?_getD]
  have ih:=outsOf_ok fs r (pre++[s]) (by rw[h];simp) hl hs
  rw[List.length_append,List.length_singleton]at ih
  rw[outsOf,outsFrom,hg,ih,fileOut0_ok (by omega) (hs s (by rw[h];simp))]
  rfl
theorem bt_zero{r o:Int}(h:driftOk r o=true):boardTime r o 0=o:=by
 rw[boardTime,h];simp[inB]
theorem newM_ok{light:Int}{d:TDrift}{o:TOrbit}{pl:List Slot}{up down:TChannel}{room:Int}{L:List TLimit}{fs:List ByteArray}(h1:inB light 0 50=true)(h2:driftOkT d=true)(h3:orbitOkT o=true)(h4:channelOk up=true)(h5:channelOk down=true)
  (h6:pl.length≤1500) (h7:boardOk (newBoard room L)=true) (h8:fs.length=8) (h9:∀ s∈fs,s.size≤600):missionOk (newM light d o pl up down room L fs)=true:=by
 have hd:driftOk d.Rate d.Offset=true:=h2
 have hb:=bt_zero hd
 have ho:inB d.Offset 0 1000=true:=by rw[driftOk,Bool.and_eq_true]at hd;exact hd.2
 have ho':=inB_iff.1 ho
 have hbd:boardOk { newBoard room L with Clock:=boardTime d.Rate d.Offset 0 }=true:=by
  rw[hb]
  have hc:inB d.Offset 0 1000000=true:=inB_iff.2 ⟨ho'.1,by omega⟩
  have h7':=h7
  rw[boardOk,Bool.and_eq_true]at h7' ⊢
  exact⟨hc,h7'.2⟩
 have hi:=insOf_ok fs 0 (by omega)
 have hou:=outsOf_ok fs fs [] rfl (by omega) h9
 simp only[List.length_nil]at hou
 have h6':((pl.length:Int)≤1500):=by omega
 have hil:=insOf_len fs 0
 have hol:=outsOf_len fs 0
 have hg:groundOk (newM light d o pl up down room L fs).Ground=true:=by
  simp[groundOk,newM,senderOk,sentGo,unpackerOk,pairsOk,pairsFrom,recordsOk,inB,hil,h8,hi,esz]
 have hs:spaceOk (newM light d o pl up down room L fs).Space=true:=by
  have h10:(newM light d o pl up down room L fs).Space.Board={ newBoard room L with Clock:=boardTime d.Rate d.Offset 0 }:=rfl
  rw[spaceOk,h10,hbd]
  simp[newM,receiverOk,packerOk,ascGo,recordsOk,inB,newBoard,hol,h8,hou,esz]
 have h1':=inB_iff.1 h1
 rw[missionOk,hg,hs]
 simp[newM,h1'.1,h1'.2,h2,h3,h4,h5,h6',flightsOk,inB]
theorem newM_files(fs:List ByteArray)(told:List Bool)(ht:∀ k,told.getD k false=false):∀ (l:List ByteArray) (k:Nat),filesGo fs told k (insOf k l)=true
 | [],_=>rfl
 | _::r,k=>by
  rw[insOf,filesGo,newM_files fs told ht r (k+1)]
  have h1:xIs (fileIn0 k)=false:=by simp[xIs,textIs,fileIn0]
  rw[fileGood,h1,ht]
  rfl
theorem newM_ledger{light:Int}{d:TDrift}{o:TOrbit}{pl:List Slot}{up down:TChannel}{room:Int}{L:List TLimit}{fs:List ByteArray}(h:missionOk (newM light d o pl up down room L fs)=true):ledgerOk (newM light d o pl up down room L fs)=true:=by
 have h1:commandsOnce (newM light d o pl up down room L fs)=true:=by simp[commandsOnce,newM,eqAll]
 have h2:ordersOnce (newM light d o pl up down room L fs)=true:=by simp[ordersOnce,ordNums,newM,newBoard,once,countsOne]
 have h3:recordsOnce (newM light d o pl up down room L fs)=true:=by simp[recordsOnce,recIds,newM,newBoard,once,countsOne,ascGo]
 have h4:filesTrue (newM light d o pl up down room L fs)=true:=newM_files fs (List.replicate 8 false) (fun k=>by
  rw[List.getD_eq_getElem?_getD,List.getElem?_replicate];split<;>rfl) fs 0
 have h5:timesTrue (newM light d o pl up down room L fs)=true:=by simp[timesTrue,newM]
 rw[ledgerOk,h,h1,h2,h3,h4,h5];rfl
theorem plan2_len{p s l:Int}:(planAll p s l [⟨2,5,60,4⟩,⟨9,0,40,5⟩]).length≤9:=by
 have hr:requestsOk [⟨2,5,60,4⟩,⟨9,0,40,5⟩]=true:=by decide
 cases ok:orbitOk p s l
 ·have:planAll p s l [⟨2,5,60,4⟩,⟨9,0,40,5⟩]=[]:=by rw[planAll,ok];rfl
  rw[this];exact Nat.zero_le _
 have h1:=plan_sum (p:=p) (s:=s) (l:=l) hr
 have h2:=plan_le ok hr ⟨2,5,60,4⟩ (by simp)
 have h3:=plan_le ok hr ⟨9,0,40,5⟩ (by simp)
 simp only at h2 h3
 rw[← h1]
 simp only[slotSum]
 omega
theorem totL_slots:∀ pl:List Slot,totL pl=pl.length
 | []=>rfl
 | x::r=>by
  have h:Enc.tot x=0:=rfl
  simp only[totL,totL_slots r,h,List.length_cons];omega
theorem totL_lims:∀ l:List TLimit,totL l=l.length
 | []=>rfl
 | x::r=>by
  have h:Enc.tot x=0:=rfl
  simp only[totL,totL_lims r,h,List.length_cons];omega
theorem totL_ins:∀ (l:List ByteArray) (k:Nat),totL (insOf k l)=26*l.length
 | [],_=>rfl
 | _::r,k=>by
  have h:Enc.tot (fileIn0 k)=25:=rfl
  simp only[insOf,totL,totL_ins r,h,List.length_cons];omega
theorem totL_outs:∀ (l:List ByteArray) (k:Nat),totL (outsOf k l)=totL l
 | [],_=>rfl
 | s::r,k=>by
  have h:Enc.tot (fileOut0 k s)=s.size+0:=rfl
  have h2:Enc.tot s=(s.size:Int):=rfl
  simp only[outsOf,totL,totL_outs r,h,h2];omega
theorem newM_tot{light:Int}{d:TDrift}{o:TOrbit}{pl:List Slot}{up down:TChannel}{room:Int}{L:List TLimit}{fs:List ByteArray}:Enc.tot (newM light d o pl up down room L fs)=pl.length+26*fs.length+16+L.length+2*totL fs:=by
 have h1:Enc.tot (newM light d o pl up down room L fs)=totL pl+0+0+(0+0+0+0+0+totL (insOf 0 fs)+8)+((8+totL L+0+0+0+0)+0+totL fs+totL (outsOf 0 fs)+0)+0+0:=rfl
 rw[h1,totL_slots,totL_ins,totL_outs,totL_lims];omega
theorem totL_small:∀ {l:List ByteArray} {b:Nat},(∀ s∈l,s.size≤b)→totL l≤l.length*(b+1)
 | [],_,_=>by simp[totL]
 | s::r,b,h=>by
  have h1:=h s (by simp)
  have h2:=totL_small (l:=r) (b:=b) (fun t ht=>h t (by simp[ht]))
  have h3:Enc.tot s=(s.size:Int):=rfl
  have h4:((r.length+1:Nat):Int)*((b:Int)+1)=r.length*(b+1)+(b+1):=by rw[Int.natCast_add,Int.add_mul];simp
  simp only[totL,List.length_cons,h3]
  rw[h4];omega
theorem plan_okD{p s l:Int}{Q:List Request}(hQ:∀ r∈Q,i64 r.Id∧i64 r.Ready∧i64 r.Deadline):∀ x∈planAll p s l Q,okDSlot x:=fun x hx=>by
 obtain⟨-,r,hr,h1,h2⟩:=plan_mem x hx
 have h3:=inB_iff.1 h2
 obtain⟨k1,k2,k3⟩:=hQ r hr
 refine⟨?_,h1▸k1,trivial⟩
 unfold i64 at *;omega
theorem bt_i64(r o t:Int):i64 (boardTime r o t):=by
 unfold boardTime
 split
 ·rename_i h
  rw[Bool.and_eq_true,driftOk,Bool.and_eq_true]at h
  obtain⟨⟨h1,h2⟩,h3⟩:=h
  have h1:=inB_iff.1 h1;have h2:=inB_iff.1 h2;have h3:=inB_iff.1 h3
  have:=bd_mul h3.1 h3.2 h1.1 h1.2
  unfold i64;omega
 ·unfold i64;omega
theorem newM_okD{light:Int}{d:TDrift}{o:TOrbit}{pl:List Slot}{up down:TChannel}{room:Int}{L:List TLimit}{fs:List ByteArray}(h1:i64 light)(h2:okDTDrift d)(h3:okDTOrbit o)(h4:okDTChannel up)(h5:okDTChannel down)(h6:i64 room):okDTMission (newM light d o pl up down room L fs):=by
 have z:i64 0:=by unfold i64;omega
 have z5:i64 5:=by unfold i64;omega
 have z1:i64 (-1):=by unfold i64;omega
 exact⟨z,h1,h2,h3,h4,h5,⟨⟨z,z5,z,trivial⟩,⟨z,trivial⟩,⟨z,z1,Nat.zero_le _,z,trivial⟩,trivial⟩,⟨⟨z,z,trivial⟩,⟨bt_i64 _ _ _,⟨h6,trivial⟩,z,z,trivial⟩,⟨z,z,Nat.zero_le _,trivial⟩,z,z,trivial⟩,z,trivial⟩
end Go.Proofs.YtbaffippdifbpaaGreat
