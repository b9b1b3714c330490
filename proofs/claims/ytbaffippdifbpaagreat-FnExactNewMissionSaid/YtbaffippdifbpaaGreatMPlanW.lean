/- The contracts of who gets a time, and when the next one is wanted. No condition but on lengths. -/
import Derived.Test.YtbaffippdifbpaaGreatMM8
import Derived.Test.YtbaffippdifbpaaGreatMM0
namespace Go.Proofs.YtbaffippdifbpaaGreat
set_option linter.unusedVariables false
open Go.ChangeShapes Go.WideShapes Go.ChangeAt Go.RowKit
def idxOf:Option (Nat × Request)→Int
 | none=>-1
 | some (i,_)=>i
def placed(l:List Request):Option (Nat × Request)→Prop
 | none=>True
 | some (i,b)=>l[i]?=some b
theorem nextW_cons{t n m:Int}{rs rs':List Request}{gs gs':List Int}{r:Request}{g:Int}(h1:rs=r::rs')(h2:gs=g::gs')(h3:nextStep t n r g=m):nextW t m rs' gs'=nextW t n rs gs:=by rw[h1,h2,nextW,h3]
theorem nextW_nil{t n:Int}{rs:List Request}{gs:List Int}(h:rs=[]):nextW t n rs gs=n:=by rw[h,nextW];intro r rs g gs h;cases h
set_option maxRecDepth 100000 in
set_option maxHeartbeats 2000000 in
theorem c_inextWanted{a b:Option Addr}{n c c2:Nat}{l:List Request}{gs:List Int}{t:Int}{w:World}(hs:Sl encRequest w a l)(hg:Sl encInt w b gs)(hn:l.length=n)(hn2:gs.length=n)(hm:n≤1048576)(ht:0≤t)(ht':t≤1000001) :
  Calls Tryz.prog 131 #[.slice a n c,.slice b n c2,.int .i64 t] w (Gives w (.int .i64 (nextW t (-1) l gs))):=by
 go_enter Tryz.func131,Tryz.ntmps131
 go_wp2_with (first|((with_reducible refine wp_region_later (by kernel_rfl) (by kernel_rfl) ?_);(repeat(first|go_big_quiet_step (first|fail)));refine wpQuiet_nil ?_;rintro _ ⟨x,rfl⟩))
 go_loopw [7,13] (fun u v wr=>∃ (k:Nat) (m:Int),v=.int .i64 k∧u=.int .i64 m∧k≤n∧Hid (nextW t m (l.drop k) (gs.drop k)=nextW t (-1) l gs)∧∃ x:Later w,wr=x.w) (fun _ v _=>(n - intOf v).toNat)
 case atStart=>exact⟨0,-1,rfl,rfl,by omega,rfl,Later.of⟩
 case round =>
  obtain⟨k,m,rfl,rfl,hk,hf,x0,rfl⟩:=hrel
  by_cases h:k<n
  ·obtain⟨b1,off,s,rfl,hb,hd,h0,h1,h2,h3⟩:=hs.request (show k<l.length by omega)
   obtain⟨b2,off2,g,rfl,hb2,hd2,h4⟩:=hg.int (show k<gs.length by omega)
   cases c1:(g == 0)
   ·cases c2:decide (s.Deadline<t)
    ·by_cases hmx:t<s.Ready
     ·have e:=lH (show max t s.Ready=s.Ready by omega)
      cases c3:decide (m<0)
      ·cases c4:decide (s.Ready<m)
       ·have HS:=lH (show nextStep t m s g=m by simp[nextStep,c1,c2,e.out,c3,c4])
        go_wp2_with (first|((with_reducible refine wp_region_later (by kernel_rfl) (by kernel_rfl) ?_);(repeat(first|go_big_quiet_step (first|fail)|simp only[c1]|simp only[c2]|simp only[c3]|simp only[c4]));refine wpQuiet_nil ?_;rintro _ ⟨x,rfl⟩))
        go_roundw
        case rel=>exact⟨k+1,m,by go_num,rfl,by omega,(nextW_cons hd.out hd2.out HS.out).trans hf.out,Later.of⟩
        case measure=>simp[intOf];omega
       ·have HS:=lH (show nextStep t m s g=s.Ready by simp[nextStep,c1,c2,e.out,c3,c4])
        go_wp2_with (first|((with_reducible refine wp_region_later (by kernel_rfl) (by kernel_rfl) ?_);(repeat(first|go_big_quiet_step (first|fail)|simp only[c1]|simp only[c2]|simp only[c3]|simp only[c4]));refine wpQuiet_nil ?_;rintro _ ⟨x,rfl⟩))
        go_roundw
        case rel=>exact⟨k+1,s.Ready,by go_num,rfl,by omega,(nextW_cons hd.out hd2.out HS.out).trans hf.out,Later.of⟩
        case measure=>simp[intOf];omega
      ·have HS:=lH (show nextStep t m s g=s.Ready by simp[nextStep,c1,c2,e.out,c3])
       go_wp2_with (first|((with_reducible refine wp_region_later (by kernel_rfl) (by kernel_rfl) ?_);(repeat(first|go_big_quiet_step (first|fail)|simp only[c1]|simp only[c2]|simp only[c3]));refine wpQuiet_nil ?_;rintro _ ⟨x,rfl⟩))
       go_roundw
       case rel=>exact⟨k+1,s.Ready,by go_num,rfl,by omega,(nextW_cons hd.out hd2.out HS.out).trans hf.out,Later.of⟩
       case measure=>simp[intOf];omega
     ·have e:=lH (show max t s.Ready=t by omega)
      cases c3:decide (m<0)
      ·cases c4:decide (t<m)
       ·have HS:=lH (show nextStep t m s g=m by simp[nextStep,c1,c2,e.out,c3,c4])
        go_wp2_with (first|((with_reducible refine wp_region_later (by kernel_rfl) (by kernel_rfl) ?_);(repeat(first|go_big_quiet_step (first|fail)|simp only[c1]|simp only[c2]|simp only[c3]|simp only[c4]));refine wpQuiet_nil ?_;rintro _ ⟨x,rfl⟩))
        go_roundw
        case rel=>exact⟨k+1,m,by go_num,rfl,by omega,(nextW_cons hd.out hd2.out HS.out).trans hf.out,Later.of⟩
        case measure=>simp[intOf];omega
       ·have HS:=lH (show nextStep t m s g=t by simp[nextStep,c1,c2,e.out,c3,c4])
        go_wp2_with (first|((with_reducible refine wp_region_later (by kernel_rfl) (by kernel_rfl) ?_);(repeat(first|go_big_quiet_step (first|fail)|simp only[c1]|simp only[c2]|simp only[c3]|simp only[c4]));refine wpQuiet_nil ?_;rintro _ ⟨x,rfl⟩))
        go_roundw
        case rel=>exact⟨k+1,t,by go_num,rfl,by omega,(nextW_cons hd.out hd2.out HS.out).trans hf.out,Later.of⟩
        case measure=>simp[intOf];omega
      ·have HS:=lH (show nextStep t m s g=t by simp[nextStep,c1,c2,e.out,c3])
       go_wp2_with (first|((with_reducible refine wp_region_later (by kernel_rfl) (by kernel_rfl) ?_);(repeat(first|go_big_quiet_step (first|fail)|simp only[c1]|simp only[c2]|simp only[c3]));refine wpQuiet_nil ?_;rintro _ ⟨x,rfl⟩))
       go_roundw
       case rel=>exact⟨k+1,t,by go_num,rfl,by omega,(nextW_cons hd.out hd2.out HS.out).trans hf.out,Later.of⟩
       case measure=>simp[intOf];omega
    ·have HS:=lH (show nextStep t m s g=m by simp[nextStep,c2])
     go_wp2_with (first|((with_reducible refine wp_region_later (by kernel_rfl) (by kernel_rfl) ?_);(repeat(first|go_big_quiet_step (first|fail)|simp only[c1]|simp only[c2]));refine wpQuiet_nil ?_;rintro _ ⟨x,rfl⟩))
     go_roundw
     case rel=>exact⟨k+1,m,by go_num,rfl,by omega,(nextW_cons hd.out hd2.out HS.out).trans hf.out,Later.of⟩
     case measure=>simp[intOf];omega
   ·have HS:=lH (show nextStep t m s g=m by simp[nextStep,c1])
    go_wp2_with (first|((with_reducible refine wp_region_later (by kernel_rfl) (by kernel_rfl) ?_);(repeat(first|go_big_quiet_step (first|fail)|simp only[c1]));refine wpQuiet_nil ?_;rintro _ ⟨x,rfl⟩))
    go_roundw
    case rel=>exact⟨k+1,m,by go_num,rfl,by omega,(nextW_cons hd.out hd2.out HS.out).trans hf.out,Later.of⟩
    case measure=>simp[intOf];omega
  ·go_wp2_with (first|((with_reducible refine wp_region_later (by kernel_rfl) (by kernel_rfl) ?_);(repeat(first|go_big_quiet_step (first|fail)));refine wpQuiet_nil ?_;rintro _ ⟨x,rfl⟩))
   go_ret
   exact Gives.mk (by have:=hf.out;rw[nextW_nil (List.drop_of_length_le (by omega))]at this;rw[← this];rfl)
def bestStep(t:Int)(o:Option (Nat × Request))(k:Nat)(r:Request)(g:Int):Option (Nat × Request):=if (wants t r g && beats r o)=true then some (k,r)else o
theorem best_cons{t:Int}{o q:Option (Nat × Request)}{k:Nat}{rs rs':List Request}{gs gs':List Int}{r:Request}{g:Int}(h1:rs=r::rs')(h2:gs=g::gs')(h3:bestStep t o k r g=q):best t q (k+1) rs' gs'=best t o k rs gs:=by rw[h1,h2,best,← h3,bestStep]
theorem best_nil{t:Int}{o:Option (Nat × Request)}{k:Nat}{rs:List Request}{gs:List Int}(h:rs=[]):best t o k rs gs=o:=by rw[h,best];intro r rs g gs h;cases h
theorem at_of_drop{α:Type}{l r:List α}{s:α}{k:Nat}(h:l.drop k=s::r):l[k]?=some s:=by
 have:=congrArg (fun m=>m[0]?) h
 simpa using this
set_option maxRecDepth 100000 in
set_option maxHeartbeats 2000000 in
theorem c_imostUrgent{a b:Option Addr}{n c c2:Nat}{l:List Request}{gs:List Int}{t:Int}{w:World}(hs:Sl encRequest w a l)(hg:Sl encInt w b gs)(hn:l.length=n)(hn2:gs.length=n)(hm:n≤1048576) :
  Calls Tryz.prog 133 #[.slice a n c,.slice b n c2,.int .i64 t] w (Gives w (.int .i64 (idxOf (best t none 0 l gs)))):=by
 go_enter Tryz.func133,Tryz.ntmps133
 go_wp2_with (first|((with_reducible refine wp_region_later (by kernel_rfl) (by kernel_rfl) ?_);(repeat(first|go_big_quiet_step (first|fail)));refine wpQuiet_nil ?_;rintro _ ⟨x,rfl⟩))
 go_loopw [7,12] (fun u v wr=>∃ (k:Nat) (o:Option (Nat × Request)),v=.int .i64 k∧u=.int .i64 (idxOf o)∧k≤n∧Hid (placed l o)∧Hid (best t o k (l.drop k) (gs.drop k)=best t none 0 l gs)∧∃ x:Later w,wr=x.w) (fun _ v _=>(n - intOf v).toNat)
 case atStart=>exact⟨0,none,rfl,rfl,by omega,trivial,rfl,Later.of⟩
 case round =>
  obtain⟨k,o,rfl,rfl,hk,hpl,hf,x0,rfl⟩:=hrel
  by_cases h:k<n
  ·obtain⟨b1,off,s,rfl,hb,hd,h0,h1,h2,h3⟩:=hs.request (show k<l.length by omega)
   obtain⟨b2,off2,g,rfl,hb2,hd2,h4⟩:=hg.int (show k<gs.length by omega)
   cases c1:(g == 0)
   ·cases c2:inB t s.Ready s.Deadline
    ·have HS:=lH (show bestStep t o k s g=o by simp[bestStep,wants,c2])
     go_wp2_with (first|((with_reducible refine wp_region_later (by kernel_rfl) (by kernel_rfl) ?_);(repeat(first|go_big_quiet_step (first|(go_at_call 127;exact Gives.quiet (c_ibetween)))|simp only[c1]|simp only[c2]));refine wpQuiet_nil ?_;rintro _ ⟨x,rfl⟩)|(go_at_call 127;refine(c_ibetween).mono ?_;rintro _ _ ⟨rfl,x,rfl⟩))
     go_roundw
     case rel=>exact⟨k+1,o,by go_num,rfl,by omega,hpl,(best_cons hd.out hd2.out HS.out).trans hf.out,Later.of⟩
     case measure=>simp[intOf];omega
    ·cases o with
     | none =>
      have HS:=lH (show bestStep t none k s g=some (k,s)by simp[bestStep,wants,c1,c2,beats])
      simp only[idxOf]
      go_wp2_with (first|((with_reducible refine wp_region_later (by kernel_rfl) (by kernel_rfl) ?_);(repeat(first|go_big_quiet_step (first|(go_at_call 127;exact Gives.quiet (c_ibetween)))|simp only[c1]|simp only[c2]));refine wpQuiet_nil ?_;rintro _ ⟨x,rfl⟩)|(go_at_call 127;refine(c_ibetween).mono ?_;rintro _ _ ⟨rfl,x,rfl⟩))
      go_roundw
      case rel=>exact⟨k+1,some (k,s),by go_num,rfl,by omega,at_of_drop hd.out,(best_cons hd.out hd2.out HS.out).trans hf.out,Later.of⟩
      case measure=>simp[intOf];omega
     | some ib =>
      obtain⟨i,q⟩:=ib
      have hi:=hpl.out
      simp only[placed]at hi
      have hil:i<l.length:=(List.getElem?_eq_some_iff.1 hi).1
      have hin:i<n:=by omega
      have c0:decide ((i:Int)<0)=false:=by simp
      obtain⟨b3,off3,q',hbo,hb3,hd3,h5,h6,h7,h8⟩:=hs.request hil
      obtain rfl:q=q':=by have:=at_of_drop hd3.out;rw[hi]at this;exact Option.some.inj this
      simp only[Option.some.injEq,Addr.mk.injEq,and_true]at hbo
      obtain⟨rfl,rfl⟩:=hbo
      have HI:=lH hi;clear hi hd3
      simp only[idxOf]
      cases c3:decide (s.Deadline<q.Deadline)
      ·cases c4:(s.Deadline == q.Deadline)
       ·have HS:=lH (show bestStep t (some (i,q)) k s g=some (i,q)by simp[bestStep,wants,c1,c2,beats,c3,c4])
        go_wp2_with (first|((with_reducible refine wp_region_later (by kernel_rfl) (by kernel_rfl) ?_);(repeat(first|go_big_quiet_step (first|(go_at_call 127;exact Gives.quiet (c_ibetween)))|simp only[c1]|simp only[c2]|simp only[c0]|simp only[c3]|simp only[c4]));refine wpQuiet_nil ?_;rintro _ ⟨x,rfl⟩)|(go_at_call 127;refine(c_ibetween).mono ?_;rintro _ _ ⟨rfl,x,rfl⟩))
        go_roundw
        case rel=>exact⟨k+1,some (i,q),by go_num,rfl,by omega,HI.out,(best_cons hd.out hd2.out HS.out).trans hf.out,Later.of⟩
        case measure=>simp[intOf];omega
       ·cases c5:decide (s.Id<q.Id)
        ·have HS:=lH (show bestStep t (some (i,q)) k s g=some (i,q)by simp[bestStep,wants,c1,c2,beats,c3,c4,c5])
         go_wp2_with (first|((with_reducible refine wp_region_later (by kernel_rfl) (by kernel_rfl) ?_);(repeat(first|go_big_quiet_step (first|(go_at_call 127;exact Gives.quiet (c_ibetween)))|simp only[c1]|simp only[c2]|simp only[c0]|simp only[c3]|simp only[c4]|simp only[c5]));refine wpQuiet_nil ?_;rintro _ ⟨x,rfl⟩)|(go_at_call 127;refine(c_ibetween).mono ?_;rintro _ _ ⟨rfl,x,rfl⟩))
         go_roundw
         case rel=>exact⟨k+1,some (i,q),by go_num,rfl,by omega,HI.out,(best_cons hd.out hd2.out HS.out).trans hf.out,Later.of⟩
         case measure=>simp[intOf];omega
        ·have HS:=lH (show bestStep t (some (i,q)) k s g=some (k,s)by simp[bestStep,wants,c1,c2,beats,c3,c4,c5])
         go_wp2_with (first|((with_reducible refine wp_region_later (by kernel_rfl) (by kernel_rfl) ?_);(repeat(first|go_big_quiet_step (first|(go_at_call 127;exact Gives.quiet (c_ibetween)))|simp only[c1]|simp only[c2]|simp only[c0]|simp only[c3]|simp only[c4]|simp only[c5]));refine wpQuiet_nil ?_;rintro _ ⟨x,rfl⟩)|(go_at_call 127;refine(c_ibetween).mono ?_;rintro _ _ ⟨rfl,x,rfl⟩))
         go_roundw
         case rel=>exact⟨k+1,some (k,s),by go_num,rfl,by omega,at_of_drop hd.out,(best_cons hd.out hd2.out HS.out).trans hf.out,Later.of⟩
         case measure=>simp[intOf];omega
      ·have HS:=lH (show bestStep t (some (i,q)) k s g=some (k,s)by simp[bestStep,wants,c1,c2,beats,c3])
       go_wp2_with (first|((with_reducible refine wp_region_later (by kernel_rfl) (by kernel_rfl) ?_);(repeat(first|go_big_quiet_step (first|(go_at_call 127;exact Gives.quiet (c_ibetween)))|simp only[c1]|simp only[c2]|simp only[c0]|simp only[c3]));refine wpQuiet_nil ?_;rintro _ ⟨x,rfl⟩)|(go_at_call 127;refine(c_ibetween).mono ?_;rintro _ _ ⟨rfl,x,rfl⟩))
       go_roundw
       case rel=>exact⟨k+1,some (k,s),by go_num,rfl,by omega,at_of_drop hd.out,(best_cons hd.out hd2.out HS.out).trans hf.out,Later.of⟩
       case measure=>simp[intOf];omega
   ·have HS:=lH (show bestStep t o k s g=o by simp[bestStep,wants,c1])
    go_wp2_with (first|((with_reducible refine wp_region_later (by kernel_rfl) (by kernel_rfl) ?_);(repeat(first|go_big_quiet_step (first|(go_at_call 127;exact Gives.quiet (c_ibetween)))|simp only[c1]));refine wpQuiet_nil ?_;rintro _ ⟨x,rfl⟩)|(go_at_call 127;refine(c_ibetween).mono ?_;rintro _ _ ⟨rfl,x,rfl⟩))
    go_roundw
    case rel=>exact⟨k+1,o,by go_num,rfl,by omega,hpl,(best_cons hd.out hd2.out HS.out).trans hf.out,Later.of⟩
    case measure=>simp[intOf];omega
  ·go_wp2_with (first|((with_reducible refine wp_region_later (by kernel_rfl) (by kernel_rfl) ?_);(repeat(first|go_big_quiet_step (first|fail)));refine wpQuiet_nil ?_;rintro _ ⟨x,rfl⟩))
   go_ret
   exact Gives.mk (by have:=hf.out;rw[best_nil (List.drop_of_length_le (by omega))]at this;rw[← this];rfl)
end Go.Proofs.YtbaffippdifbpaaGreat
