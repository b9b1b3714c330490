/- Words, orders and lists of what is missing, as they come, of the program. No condition but on sizes. -/
import Derived.Test.YtdijmbipcgalfaaGreatHM18
import Derived.Test.YtdijmbipcgalfaaGreatHM43
import Derived.Test.YtdijmbipcgalfaaGreatHOkF
import Derived.Test.YtdijmbipcgalfaaGreatHM23
import Derived.Test.YtdijmbipcgalfaaGreatHLnk0
import Derived.Test.YtdijmbipcgalfaaGreatHBox2
import Derived.Test.YtdijmbipcgalfaaGreatHStepH
import Derived.Deep.CutRange
namespace Go.Proofs.YtdijmbipcgalfaaGreat
set_option maxRecDepth 100000
set_option maxHeartbeats 4000000
set_option linter.unusedVariables false
open Go.ChangeShapes Go.WideShapes Go.ChangeAt Go.RowKit
theorem af5{s:ByteArray}{a k:Nat}{w:World}(h1:1≤k)(h4:k≤4)(hs:a+k≤s.size)(hm:s.size≤100000000):Calls Tryz.prog 160 #[.string s,I a,I k] w (b5 w (.tuple #[I (R8 s a k),.bool true])):=by
 have HS:=lH hs
 have HM:=lH hm
 have c1:inB k 1 4=true:=D8.2 om
 have c4:decide ((k:Int)<1)=false:=by simp;omega
 have c5:decide ((4:Int)<(k:Int))=false:=by simp;omega
 have c6:decide ((a:Int)<0)=false:=by simp
 have c7:decide ((s.size:Int) - (k:Int)<(a:Int))=false:=by simp;omega
 go_enter Tryz.func160,Tryz.ntmps160
 go_wp2_with (fail)
 go_loopw [8,9] (fun u v wr=>∃ i:Nat,v=I i∧u=I (R8 s a i)∧i≤k∧∃ y:b7 w,wr=y.w) (fun _ v _=>(k - intOf v).toNat)
 case atStart=>exact⟨0,rfl,rfl,Nat.zero_le _,b7.of⟩
 case round =>
  obtain⟨i,rfl,rfl,hi,y,rfl⟩:=hrel
  by_cases h:i<k
  ·have hai:a+i<s.size:=by have:=HS.out;omega
   have e0:bAt s (a+i)=((s[a+i]'hai).toNat:Int):=K0 hai
   have hb:=J5 s (a+i)
   have hn1:0≤R8 s a i∧R8 s a i≤16777215:=by
    have h0:=J5 s (a+0);have h1:=J5 s (a+1);have h2:=J5 s (a+2)
    have hi3:i=0∨i=1∨i=2∨i=3:=by omega
    rcases hi3 with rfl|rfl|rfl|rfl<;>simp only[R8]<;>omega
   have HW:=lH (show R8 s a (i+1)=R8 s a i*256+bAt s (a+i)from rfl)
   obtain⟨n,hn⟩:∃ n,R8 s a i=n:=⟨_,rfl⟩
   obtain⟨b,hb9⟩:∃ b:Int,((s[a+i]'hai).toNat:Int)=b:=⟨_,rfl⟩
   rw[hn]at hn1 HW
   rw[e0,hb9]at hb HW
   clear e0
   have hj0:(0:Int)≤(a:Int)+(i:Int):=by omega
   have hj2:(a:Int)+(i:Int)<(s.size:Int):=by omega
   have hj3:((a:Int)+(i:Int)).toNat=a+i:=by omega
   have hsb:=HM.out
   clear hs hm
   go_wp2_with (fail)
   (try simp only[hn,hb9])
   go_roundw
   case rel=>exact⟨i+1,by go_num,(by first|(rw[HW.out];done)|(rw[HW.out,Int.mul_comm n 256])),by omega,b7.of⟩
   case measure=>simp[intOf];omega
  ·obtain rfl:i=k:=by omega
   clear hs hm
   go_wp2_with (fail)
   refine bodyPost_ret (v:=.tuple #[I (R8 s a i),.bool true]) ?_ rfl (b5.mk (by rfl))
   simp[results,Tryz.results160,go_sem]
