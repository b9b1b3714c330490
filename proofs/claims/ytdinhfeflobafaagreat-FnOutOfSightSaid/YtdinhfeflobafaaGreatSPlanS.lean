/- The contracts of the reference's PlanPasses. No condition but on lengths. -/
import Derived.Test.YtdinhfeflobafaaGreatSPlanP
import Derived.Test.YtdinhfeflobafaaGreatSM0
namespace Go.Proofs.YtdinhfeflobafaaGreat
set_option linter.unusedVariables false
open Go.ChangeShapes Go.WideShapes Go.ChangeAt Go.RowKit
def restOf(list:List Request)(gots:List Int):List Int:=List.zipWith (fun r g=>r.Need - g) list gots
theorem rest_drop{list:List Request}{gots:List Int}{k:Nat}{s:Request}{g:Int}(h1:list.drop k=s::list.drop (k+1))(h2:gots.drop k=g::gots.drop (k+1)) :
  (restOf list gots).drop k=(s.Need - g)::(restOf list gots).drop (k+1):=by
 rw[restOf,List.drop_zipWith,h1,h2,List.zipWith_cons_cons,← List.drop_zipWith]
theorem rest_set{list:List Request}{gots:List Int}{k:Nat}{r:Request}{g:Int}(v:Int)(h1:list[k]?=some r)(h2:gots[k]?=some g):restOf list (gots.set k v)=(restOf list gots).set k (r.Need - v):=by
 apply List.ext_getElem?
 intro i
 by_cases hi:k=i
 ·subst hi
  have hk1:=(List.getElem?_eq_some_iff.1 h1).1
  have hk2:=(List.getElem?_eq_some_iff.1 h2).1
  rw[List.getElem?_set_self (by simp[restOf];omega),restOf,List.getElem?_zipWith,h1,List.getElem?_set_self hk2]
 ·rw[List.getElem?_set_ne hi,restOf,restOf,List.getElem?_zipWith,List.getElem?_zipWith,List.getElem?_set_ne hi]
theorem rest_at{list:List Request}{gots:List Int}{k:Nat}{r:Request}{g:Int}(h1:list[k]?=some r)(h2:gots[k]?=some g):(restOf list gots)[k]?=some (r.Need - g):=by
 rw[restOf,List.getElem?_zipWith,h1,h2]
theorem rest_zero{list:List Request}:∀ {n:Nat},list.length=n→restOf list (List.replicate n 0)=list.map (·.Need):=by
 induction list with
 | nil=>intro n h;simp[restOf]
 | cons r l ih =>
  intro n h
  subst h
  have:=ih rfl
  simp only[restOf,List.length_cons,List.replicate_succ,List.zipWith_cons_cons,List.map_cons,Int.sub_zero]at this ⊢
  rw[this]
theorem wants_no{t g:Int}{r:Request}(h:t<r.Ready∨r.Deadline<t∨g=0):wants t r g=false:=by
 cases hw:wants t r g
 ·rfl
 ·have:=wants_iff.1 hw;omega
theorem wants_yes{t g:Int}{r:Request}(h:r.Ready≤t)(h2:t≤r.Deadline)(h3:g≠0):wants t r g=true:=wants_iff.2 ⟨h3,h,h2⟩
def atMost(list:List Request)(gots:List Int):Prop:=∀ (i:Nat) r g,list[i]?=some r→gots[i]?=some g→0≤g∧g≤r.Need
set_option maxRecDepth 100000 in
set_option maxHeartbeats 2000000 in
theorem c_sl08Best{a b:Option Addr}{n c c2:Nat}{l:List Request}{gots:List Int}{t:Int}{w:World}(hs:Sl encRequest w a l)(hg:Sl encInt w b gots)(hn:l.length=n)(hn2:gots.length=n)(hle0:atMost l gots)(hm:n≤1048576) :
  Calls Tryz.prog 333 #[.slice a n c,.slice b n c2,.int .i64 t] w (Gives w (.int .i64 (idxOf (best t none 0 l (restOf l gots))))):=by
 have hle:=lH hle0;clear hle0
 go_enter Tryz.func333,Tryz.ntmps333
 go_wp2_with (first|((with_reducible refine wp_region_later (by kernel_rfl) (by kernel_rfl) ?_);(repeat(first|go_big_quiet_step (first|fail)));refine wpQuiet_nil ?_;rintro _ ⟨x,rfl⟩))
 go_loopw [7,8] (fun u v wr=>∃ (k:Nat) (o:Option (Nat × Request)),v=.int .i64 k∧u=.int .i64 (idxOf o)∧k≤n∧Hid (placed l o)∧Hid (best t o k (l.drop k) ((restOf l gots).drop k)=best t none 0 l (restOf l gots))∧∃ x:Later w,wr=x.w) (fun _ v _=>(n - intOf v).toNat)
 case atStart=>exact⟨0,none,rfl,rfl,by omega,trivial,rfl,Later.of⟩
 case round =>
  obtain⟨k,o,rfl,rfl,hk,hpl,hf,x0,rfl⟩:=hrel
  by_cases h:k<n
  ·obtain⟨b1,off,s,rfl,hb,hd,h0,h1,h2,h3⟩:=hs.request (show k<l.length by omega)
   obtain⟨b2,off2,g,rfl,hb2,hd2,h4⟩:=hg.int (show k<gots.length by omega)
   have hgl:=(hle.out k s g (at_of_drop hd.out) (at_of_drop hd2.out)).2
   have HR:=lH (rest_drop hd.out hd2.out)
   cases c1:decide (t<s.Ready)
   ·cases c2:decide (s.Deadline<t)
    ·cases c3:decide (s.Need≤g)
     ·have hw:=lH (wants_yes (t:=t) (r:=s) (g:=s.Need - g) (by have:=of_decide_eq_false c1;omega) (by have:=of_decide_eq_false c2;omega) (by have:=of_decide_eq_false c3;omega))
      cases o with
      | none =>
       have HS:=lH (show bestStep t none k s (s.Need - g)=some (k,s)by simp[bestStep,hw.out,beats])
       simp only[idxOf]
       go_wp2_with (first|((with_reducible refine wp_region_later (by kernel_rfl) (by kernel_rfl) ?_);(repeat(first|go_big_quiet_step (first|fail)|simp only[c1]|simp only[c2]|simp only[c3]));refine wpQuiet_nil ?_;rintro _ ⟨x,rfl⟩))
       go_roundw
       case rel=>exact⟨k+1,some (k,s),by go_num,rfl,by omega,at_of_drop hd.out,(best_cons hd.out HR.out HS.out).trans hf.out,Later.of⟩
       case measure=>simp[intOf];omega
      | some ib =>
       obtain⟨i,q⟩:=ib
       have hi:=hpl.out
       simp only[placed]at hi
       have hil:i<l.length:=(List.getElem?_eq_some_iff.1 hi).1
       have hin:i<n:=by omega
       have c0:decide ((i:Int)<0)=false:=by simp
       obtain⟨b3,off3,q',hbo,hb3,hd3,h5,h6,h7,h8⟩:=hs.request hil
       obtain rfl:q=q':=by have:=at_of_drop hd3.out;rw[hi]at this;exact Option.some.inj this
       simp only[Option.some.injEq,Addr.mk.injEq,and_true]at hbo
       obtain⟨rfl,rfl⟩:=hbo
       have HI:=lH hi;clear hi hd3
       simp only[idxOf]
       cases c4:decide (s.Deadline<q.Deadline)
       ·cases c5:(s.Deadline == q.Deadline)
        ·have HS:=lH (show bestStep t (some (i,q)) k s (s.Need - g)=some (i,q)by simp[bestStep,hw.out,beats,c4,c5])
         go_wp2_with (first|((with_reducible refine wp_region_later (by kernel_rfl) (by kernel_rfl) ?_);(repeat(first|go_big_quiet_step (first|fail)|simp only[c1]|simp only[c2]|simp only[c3]|simp only[c0]|simp only[c4]|simp only[c5]));refine wpQuiet_nil ?_;rintro _ ⟨x,rfl⟩))
         go_roundw
         case rel=>exact⟨k+1,some (i,q),by go_num,rfl,by omega,HI.out,(best_cons hd.out HR.out HS.out).trans hf.out,Later.of⟩
         case measure=>simp[intOf];omega
        ·cases c6:decide (s.Id<q.Id)
         ·have HS:=lH (show bestStep t (some (i,q)) k s (s.Need - g)=some (i,q)by simp[bestStep,hw.out,beats,c4,c5,c6])
          go_wp2_with (first|((with_reducible refine wp_region_later (by kernel_rfl) (by kernel_rfl) ?_);(repeat(first|go_big_quiet_step (first|fail)|simp only[c1]|simp only[c2]|simp only[c3]|simp only[c0]|simp only[c4]|simp only[c5]|simp only[c6]));refine wpQuiet_nil ?_;rintro _ ⟨x,rfl⟩))
          go_roundw
          case rel=>exact⟨k+1,some (i,q),by go_num,rfl,by omega,HI.out,(best_cons hd.out HR.out HS.out).trans hf.out,Later.of⟩
          case measure=>simp[intOf];omega
         ·have HS:=lH (show bestStep t (some (i,q)) k s (s.Need - g)=some (k,s)by simp[bestStep,hw.out,beats,c4,c5,c6])
          go_wp2_with (first|((with_reducible refine wp_region_later (by kernel_rfl) (by kernel_rfl) ?_);(repeat(first|go_big_quiet_step (first|fail)|simp only[c1]|simp only[c2]|simp only[c3]|simp only[c0]|simp only[c4]|simp only[c5]|simp only[c6]));refine wpQuiet_nil ?_;rintro _ ⟨x,rfl⟩))
          go_roundw
          case rel=>exact⟨k+1,some (k,s),by go_num,rfl,by omega,at_of_drop hd.out,(best_cons hd.out HR.out HS.out).trans hf.out,Later.of⟩
          case measure=>simp[intOf];omega
       ·have HS:=lH (show bestStep t (some (i,q)) k s (s.Need - g)=some (k,s)by simp[bestStep,hw.out,beats,c4])
        go_wp2_with (first|((with_reducible refine wp_region_later (by kernel_rfl) (by kernel_rfl) ?_);(repeat(first|go_big_quiet_step (first|fail)|simp only[c1]|simp only[c2]|simp only[c3]|simp only[c0]|simp only[c4]));refine wpQuiet_nil ?_;rintro _ ⟨x,rfl⟩))
        go_roundw
        case rel=>exact⟨k+1,some (k,s),by go_num,rfl,by omega,at_of_drop hd.out,(best_cons hd.out HR.out HS.out).trans hf.out,Later.of⟩
        case measure=>simp[intOf];omega
     ·have HS:=lH (show bestStep t o k s (s.Need - g)=o by simp[bestStep,wants_no (t:=t) (r:=s) (g:=s.Need - g) (.inr (.inr (by have:=of_decide_eq_true c3;omega)))])
      go_wp2_with (first|((with_reducible refine wp_region_later (by kernel_rfl) (by kernel_rfl) ?_);(repeat(first|go_big_quiet_step (first|fail)|simp only[c1]|simp only[c2]|simp only[c3]));refine wpQuiet_nil ?_;rintro _ ⟨x,rfl⟩))
      go_roundw
      case rel=>exact⟨k+1,o,by go_num,rfl,by omega,hpl,(best_cons hd.out HR.out HS.out).trans hf.out,Later.of⟩
      case measure=>simp[intOf];omega
    ·have HS:=lH (show bestStep t o k s (s.Need - g)=o by simp[bestStep,wants_no (t:=t) (r:=s) (g:=s.Need - g) (.inr (.inl (of_decide_eq_true c2)))])
     go_wp2_with (first|((with_reducible refine wp_region_later (by kernel_rfl) (by kernel_rfl) ?_);(repeat(first|go_big_quiet_step (first|fail)|simp only[c1]|simp only[c2]));refine wpQuiet_nil ?_;rintro _ ⟨x,rfl⟩))
     go_roundw
     case rel=>exact⟨k+1,o,by go_num,rfl,by omega,hpl,(best_cons hd.out HR.out HS.out).trans hf.out,Later.of⟩
     case measure=>simp[intOf];omega
   ·have HS:=lH (show bestStep t o k s (s.Need - g)=o by simp[bestStep,wants_no (t:=t) (r:=s) (g:=s.Need - g) (.inl (of_decide_eq_true c1))])
    go_wp2_with (first|((with_reducible refine wp_region_later (by kernel_rfl) (by kernel_rfl) ?_);(repeat(first|go_big_quiet_step (first|fail)|simp only[c1]));refine wpQuiet_nil ?_;rintro _ ⟨x,rfl⟩))
    go_roundw
    case rel=>exact⟨k+1,o,by go_num,rfl,by omega,hpl,(best_cons hd.out HR.out HS.out).trans hf.out,Later.of⟩
    case measure=>simp[intOf];omega
  ·go_wp2_with (first|((with_reducible refine wp_region_later (by kernel_rfl) (by kernel_rfl) ?_);(repeat(first|go_big_quiet_step (first|fail)));refine wpQuiet_nil ?_;rintro _ ⟨x,rfl⟩))
   go_ret
   exact Gives.mk (by have:=hf.out;rw[best_nil (List.drop_of_length_le (by omega))]at this;rw[← this];rfl)
theorem zero_cells{n:Nat}{C:Array Value}(hC:C=madeCells (Value.int .i64 0).cells (n*1)):C.toList=(List.replicate n 0).flatMap encInt:=by
 subst hC
 rw[show(Value.int .i64 0).cells=#[Value.int .i64 0]from rfl]
 apply List.ext_getElem
 ·rw[flatMap_length encInt_len];simp[size_madeCells]
 ·intro i h1 h2
  have hi:i<n:=by simpa[size_madeCells]using h1
  have h4:=flatMap_at encInt_len (List.replicate n 0) i 0 0 (.int .i64 0) (by simp[hi]) rfl
  rw[Nat.mul_one,Nat.add_zero]at h4
  have h5:=List.getElem?_eq_some_iff.1 h4
  obtain⟨h6,h7⟩:=h5
  rw[h7]
  simp[madeCells,Nat.mod_one]
theorem GivesSl.emptyOf{α:Type}{enc:α→List Value}{T size c:Nat}{a:Option Addr}{w w':World}{l:List α}(hl:l=[])(ho:Own enc T size w.heap.size w' a c [])[h:Grows w w']:GivesSl enc T size w l (.returned (.slice a 0 c)) w' :=
 ⟨a,c,by rw[hl];rfl,by rw[hl];exact ho,⟨w',h.out⟩,rfl⟩
set_option maxRecDepth 100000 in
set_option maxHeartbeats 2000000 in
theorem c_sPlanPasses{a:Option Addr}{n c:Nat}{p s l:Int}{list:List Request}{w:World}(hs:Sl encRequest w a list)(hn:list.length=n)(hm:n≤1048576) :
  Calls Tryz.prog 290 #[.agg #[.int .i64 p,.int .i64 s,.int .i64 l],.slice a n c] w (GivesSl encSlot 201 2 w (planAll p s l list)):=by
 cases q1:orbitOk p s l
 ·go_enter Tryz.func290,Tryz.ntmps290
  go_wp2_with (first|((with_reducible refine wp_region_later (by kernel_rfl) (by kernel_rfl) ?_);(repeat(first|go_big_quiet_step (first|(go_at_call 109;exact Gives.quiet (c_sOrbitOk)))|simp only[q1]));refine wpQuiet_nil ?_;rintro _ ⟨x,rfl⟩)|(go_at_call 109;refine(c_sOrbitOk).mono ?_;rintro _ _ ⟨rfl,x,rfl⟩))
  go_ret
  exact GivesSl.emptyOf (by simp[planAll,q1]) ((Own.emptyAt (B:=w.heap.size) (W:=w.alloc (.cells #[.int .i64 p,.int .i64 s,.int .i64 l] 63)) encSlot_len (by simp) (by simp)).to inferInstance)
 cases q2:requestsOk list
 ·go_enter Tryz.func290,Tryz.ntmps290
  go_wp2_with (first|((with_reducible refine wp_region_later (by kernel_rfl) (by kernel_rfl) ?_);(repeat(first|go_big_quiet_step (first|(go_at_call 109;exact Gives.quiet (c_sOrbitOk))|(go_at_call 332;exact Gives.quiet (c_sRequestsOk)))|simp only[q1]|simp only[q2]));refine wpQuiet_nil ?_;rintro _ ⟨x,rfl⟩)|(go_at_call 109;refine(c_sOrbitOk).mono ?_;rintro _ _ ⟨rfl,x,rfl⟩)|(go_at_call 332;refine(c_sRequestsOk).mono ?_;rintro _ _ ⟨rfl,x,rfl⟩))
  go_ret
  exact GivesSl.emptyOf (by simp[planAll,q2]) ((Own.emptyAt (B:=w.heap.size) (W:=w.alloc (.cells #[.int .i64 p,.int .i64 s,.int .i64 l] 63)) encSlot_len (by simp) (by simp)).to inferInstance)
 have HF:=lH (show planAll p s l list=planFrom p s l list (1000001 - 0:Int).toNat 0 (list.map (·.Need))by rw[planAll,q1,q2];rfl)
 have hl:=(requestsOk_mem q2).1
 have HM:=lH (requestsOk_mem q2).2
 have HB:=lH (show ∀ r∈list,r.Ready≤1000000∧r.Deadline≤1000000 from fun r hr=>by have:=HM.out r hr;omega)
 obtain⟨C,hC,hmk⟩:=run_mk (P:=Tryz.prog) Tryz.underlying46 (e:=3) (z:=.int .i64 0) (size:=1) (bytes:=8) (by kernel_rfl) n (by omega) (by omega)
 have hCz:C.size=n*1:=by rw[hC,size_madeCells]
 have HCl:=lH (zero_cells hC)
 clear hC
 go_enter Tryz.func290,Tryz.ntmps290
 go_wp2_with (first|((with_reducible refine wp_region_later (by kernel_rfl) (by kernel_rfl) ?_);(repeat(first|go_big_quiet_step (first|fail)));refine wpQuiet_nil ?_;rintro _ ⟨x,rfl⟩))
 refine c_sOrbitOk.mono ?_
 rintro _ _ ⟨rfl,x0,rfl⟩
 go_wp2_with (first|((with_reducible refine wp_region_later (by kernel_rfl) (by kernel_rfl) ?_);(repeat(first|go_big_quiet_step (first|fail)|simp only[q1]));refine wpQuiet_nil ?_;rintro _ ⟨x,rfl⟩))
 refine(c_sRequestsOk (hs.to inferInstance) hn (by omega)).mono ?_
 rintro _ _ ⟨rfl,x1,rfl⟩
 obtain⟨Y0,hY0⟩:=Later.of (w:=((w.alloc (.cells #[.int .i64 p,.int .i64 s,.int .i64 l] 63)).alloc (.cells #[] 201))) (W:=x1.w)
 rw[hY0]
 go_wp2_with (first|((with_reducible refine wp_region_later (by kernel_rfl) (by kernel_rfl) ?_);(repeat(first|go_big_quiet_step (first|fail)|simp only[q1]|simp only[q2]));refine wpQuiet_nil ?_;rintro _ ⟨x,rfl⟩))
 clear hmk hY0 x1 x0
 have hO2:Own encInt 3 1 (w.alloc (.cells #[.int .i64 p,.int .i64 s,.int .i64 l] 63)).heap.size (Y0.w.alloc (.cells C 3)) (some ⟨Y0.w.heap.size,0,none⟩) n (List.replicate n 0):=own_block encInt_len (by simp) (by omega) LeN.out hCz HCl.out (Later.here _)
 have hO1:Own encSlot 201 2 (w.alloc (.cells #[.int .i64 p,.int .i64 s,.int .i64 l] 63)).heap.size (Y0.w.alloc (.cells C 3)) (some ⟨w.heap.size+1,0,none⟩) 0 []:=(Own.emptyAt (W:=w.alloc (.cells #[.int .i64 p,.int .i64 s,.int .i64 l] 63)) encSlot_len (by simp) (by simp)).to inferInstance
 have hgi:LeN (w.alloc (.cells #[.int .i64 p,.int .i64 s,.int .i64 l] 63)).heap.size Y0.w.heap.size:=inferInstance
 obtain⟨gb,hge⟩:∃ g,Y0.w.heap.size=g:=⟨_,rfl⟩
 obtain⟨Y,hY⟩:=Later.of (w:=(w.alloc (.cells #[.int .i64 p,.int .i64 s,.int .i64 l] 63))) (W:=Y0.w.alloc (.cells C 3))
 rw[hge]at hgi hO2
 rw[hY]at hO1 hO2 ⊢
 simp only[hge]
 have hgi0:LeN w.heap.size gb:=⟨by have:=hgi.out;simp at this;omega⟩
 clear hge hY HCl hCz Y0
 have HN:=lH (show atMost list (List.replicate n 0)from fun i r g h1 h2=>by
  rw[List.getElem?_replicate]at h2
  split at h2
  ·cases h2
   have:=(HM.out r (List.mem_of_getElem? h1)).2.2.2;omega
  ·cases h2)
 go_loopw [5,7] (fun vp vt wr=>∃ (t:Int) (pl:List Slot) (m:Nat) (sa:Option Addr) (sc:Nat) (gots:List Int),vt=.int .i64 t∧vp=.slice sa m sc∧pl.length=m∧(-1≤t∧t≤1000000)∧((m:Int)≤t+1)∧gots.length=n∧Hid (atMost list gots)∧Hid (pl++planFrom p s l list (1000001 - (t+1)).toNat (t+1) (restOf list gots)=planAll p s l list)∧Own encSlot 201 2 (w.alloc (.cells #[.int .i64 p,.int .i64 s,.int .i64 l] 63)).heap.size wr sa sc pl∧Own encInt 3 1 (w.alloc (.cells #[.int .i64 p,.int .i64 s,.int .i64 l] 63)).heap.size wr (some ⟨gb,0,none⟩) n gots∧∃ x:Later (w.alloc (.cells #[.int .i64 p,.int .i64 s,.int .i64 l] 63)),wr=x.w) (fun _ v _=>(1000001 - intOf v).toNat)
 case atStart =>
  refine⟨-1,[],0,_,0,List.replicate n 0,rfl,rfl,rfl,⟨by omega,by omega⟩,by omega,by simp,HN,?_,hO1,hO2,Later.of⟩
  have e0:(-1:Int)+1=0:=by decide
  rw[e0,rest_zero hn,List.nil_append]
  exact HF.out.symm
 case round =>
  obtain⟨t,pl,m,sa,sc,gots,rfl,rfl,hpl,⟨ht1,ht2⟩,hmt,hgl,hg0,hf,hown,hown2,x2,rfl⟩:=hrel
  obtain⟨N,hNe⟩:∃ N,N=nextW (t+1) (-1) list (restOf list gots):=⟨_,rfl⟩
  have TN:=lH (toCome_next (p:=p) (s:=s) (l:=l) (gs:=restOf list gots) HB.out (show 0≤t+1 by omega) (by omega))
  rw[← hNe]at TN
  have HNe:=lH hNe;clear hNe
  go_wp2_with (first|((with_reducible refine wp_region_later (by kernel_rfl) (by kernel_rfl) ?_);(repeat(first|go_big_quiet_step (first|fail)));refine wpQuiet_nil ?_;rintro _ ⟨x,rfl⟩))
  have hsg:=hown2.sl
  go_loopw [8,9] (fun u v wi=>∃ (k:Nat) (m2:Int),v=.int .i64 k∧u=.int .i64 m2∧k≤n∧Hid (nextW (t+1) m2 (list.drop k) ((restOf list gots).drop k)=N)∧∃ y:Later x2.w,wi=y.w) (fun _ v _=>(n - intOf v).toNat)
  case atStart=>exact⟨0,-1,rfl,rfl,by omega,HNe.out.symm,Later.of⟩
  case round =>
   obtain⟨k,m2,rfl,rfl,hk,hfi,y,rfl⟩:=hrel
   by_cases h:k<n
   ·obtain⟨b1,off,r,rfl,hb,hd,h0,h1,h2,h3⟩:=hs.request (show k<list.length by omega)
    obtain⟨b2,off2,g,hbo2,hb2,hd2,h4⟩:=hsg.int (show k<gots.length by omega)
    simp only[Option.some.injEq,Addr.mk.injEq,and_true]at hbo2
    obtain⟨rfl,rfl⟩:=hbo2
    simp only[Nat.zero_add]at h4
    have hgl2:=(hg0.out k r g (at_of_drop hd.out) (at_of_drop hd2.out)).2
    have HR:=lH (rest_drop hd.out hd2.out)
    cases c1:decide (g<r.Need)
    ·have HS:=lH (show nextStep (t+1) m2 r (r.Need - g)=m2 by have:=of_decide_eq_false c1;rw[nextStep,if_pos];simp;omega)
     go_wp2_with (first|((with_reducible refine wp_region_later (by kernel_rfl) (by kernel_rfl) ?_);(repeat(first|go_big_quiet_step (first|fail)|simp only[c1]));refine wpQuiet_nil ?_;rintro _ ⟨x,rfl⟩))
     go_roundw
     case rel=>exact⟨k+1,m2,by go_num,rfl,by omega,(nextW_cons hd.out HR.out HS.out).trans hfi.out,Later.of⟩
     case measure=>simp[intOf];omega
    cases c2:decide (t<r.Deadline)
    ·have HS:=lH (show nextStep (t+1) m2 r (r.Need - g)=m2 by have:=of_decide_eq_false c2;rw[nextStep,if_pos];simp;omega)
     go_wp2_with (first|((with_reducible refine wp_region_later (by kernel_rfl) (by kernel_rfl) ?_);(repeat(first|go_big_quiet_step (first|fail)|simp only[c1]|simp only[c2]));refine wpQuiet_nil ?_;rintro _ ⟨x,rfl⟩))
     go_roundw
     case rel=>exact⟨k+1,m2,by go_num,rfl,by omega,(nextW_cons hd.out HR.out HS.out).trans hfi.out,Later.of⟩
     case measure=>simp[intOf];omega
    have e1:=lH (show ¬ ((r.Need - g == 0) || decide (r.Deadline<t+1))=true by have:=of_decide_eq_true c1;have:=of_decide_eq_true c2;simp;omega)
    by_cases hmx:t+1<r.Ready
    ·have e:=lH (show max (t+1) r.Ready=r.Ready by omega)
     cases c3:decide (m2<0)
     ·cases c4:decide (r.Ready<m2)
      ·have HS:=lH (show nextStep (t+1) m2 r (r.Need - g)=m2 by rw[nextStep,if_neg e1.out,e.out,c3,c4];rfl)
       go_wp2_with (first|((with_reducible refine wp_region_later (by kernel_rfl) (by kernel_rfl) ?_);(repeat(first|go_big_quiet_step (first|fail)|simp only[c1]|simp only[c2]|simp only[c3]|simp only[c4]));refine wpQuiet_nil ?_;rintro _ ⟨x,rfl⟩))
       go_roundw
       case rel=>exact⟨k+1,m2,by go_num,rfl,by omega,(nextW_cons hd.out HR.out HS.out).trans hfi.out,Later.of⟩
       case measure=>simp[intOf];omega
      ·have HS:=lH (show nextStep (t+1) m2 r (r.Need - g)=r.Ready by rw[nextStep,if_neg e1.out,e.out,c3,c4];rfl)
       go_wp2_with (first|((with_reducible refine wp_region_later (by kernel_rfl) (by kernel_rfl) ?_);(repeat(first|go_big_quiet_step (first|fail)|simp only[c1]|simp only[c2]|simp only[c3]|simp only[c4]));refine wpQuiet_nil ?_;rintro _ ⟨x,rfl⟩))
       go_roundw
       case rel=>exact⟨k+1,r.Ready,by go_num,rfl,by omega,(nextW_cons hd.out HR.out HS.out).trans hfi.out,Later.of⟩
       case measure=>simp[intOf];omega
     ·have HS:=lH (show nextStep (t+1) m2 r (r.Need - g)=r.Ready by rw[nextStep,if_neg e1.out,e.out,c3];rfl)
      go_wp2_with (first|((with_reducible refine wp_region_later (by kernel_rfl) (by kernel_rfl) ?_);(repeat(first|go_big_quiet_step (first|fail)|simp only[c1]|simp only[c2]|simp only[c3]));refine wpQuiet_nil ?_;rintro _ ⟨x,rfl⟩))
      go_roundw
      case rel=>exact⟨k+1,r.Ready,by go_num,rfl,by omega,(nextW_cons hd.out HR.out HS.out).trans hfi.out,Later.of⟩
      case measure=>simp[intOf];omega
    ·have e:=lH (show max (t+1) r.Ready=(t+1)by omega)
     cases c3:decide (m2<0)
     ·cases c4:decide (t+1<m2)
      ·have HS:=lH (show nextStep (t+1) m2 r (r.Need - g)=m2 by rw[nextStep,if_neg e1.out,e.out,c3,c4];rfl)
       go_wp2_with (first|((with_reducible refine wp_region_later (by kernel_rfl) (by kernel_rfl) ?_);(repeat(first|go_big_quiet_step (first|fail)|simp only[c1]|simp only[c2]|simp only[c3]|simp only[c4]));refine wpQuiet_nil ?_;rintro _ ⟨x,rfl⟩))
       go_roundw
       case rel=>exact⟨k+1,m2,by go_num,rfl,by omega,(nextW_cons hd.out HR.out HS.out).trans hfi.out,Later.of⟩
       case measure=>simp[intOf];omega
      ·have HS:=lH (show nextStep (t+1) m2 r (r.Need - g)=(t+1)by rw[nextStep,if_neg e1.out,e.out,c3,c4];rfl)
       go_wp2_with (first|((with_reducible refine wp_region_later (by kernel_rfl) (by kernel_rfl) ?_);(repeat(first|go_big_quiet_step (first|fail)|simp only[c1]|simp only[c2]|simp only[c3]|simp only[c4]));refine wpQuiet_nil ?_;rintro _ ⟨x,rfl⟩))
       go_roundw
       case rel=>exact⟨k+1,(t+1),by go_num,rfl,by omega,(nextW_cons hd.out HR.out HS.out).trans hfi.out,Later.of⟩
       case measure=>simp[intOf];omega
     ·have HS:=lH (show nextStep (t+1) m2 r (r.Need - g)=(t+1)by rw[nextStep,if_neg e1.out,e.out,c3];rfl)
      go_wp2_with (first|((with_reducible refine wp_region_later (by kernel_rfl) (by kernel_rfl) ?_);(repeat(first|go_big_quiet_step (first|fail)|simp only[c1]|simp only[c2]|simp only[c3]));refine wpQuiet_nil ?_;rintro _ ⟨x,rfl⟩))
      go_roundw
      case rel=>exact⟨k+1,(t+1),by go_num,rfl,by omega,(nextW_cons hd.out HR.out HS.out).trans hfi.out,Later.of⟩
      case measure=>simp[intOf];omega
   ·have hfi':=hfi.out
    rw[nextW_nil (List.drop_of_length_le (by omega))]at hfi'
    subst hfi'
    clear hfi
    by_cases hN:m2<0
    ·go_wp2_with (first|((with_reducible refine wp_region_later (by kernel_rfl) (by kernel_rfl) ?_);(repeat(first|go_big_quiet_step (first|fail)));refine wpQuiet_nil ?_;rintro _ ⟨x,rfl⟩))
     go_ret
     have h9:=hf.out
     rw[TN.out.1,toCome,if_pos hN,List.append_nil]at h9
     subst h9
     exact⟨sa,sc,by rw[hpl];rfl,(hown.to inferInstance).mono (by simp),Later.of⟩
    ·have hN1:t+1≤m2:=by rcases TN.out.2.1 with h|h<;>omega
     have hN2:m2≤1000000:=TN.out.2.2
     have HV4:=lH (show planFrom p s l list (1000001 - (t+1)).toNat (t+1) (restOf list gots)=planFrom p s l list (1000001 - m2).toNat m2 (restOf list gots)by rw[TN.out.1,toCome,if_neg hN])
     go_wp2_with (first|((with_reducible refine wp_region_later (by kernel_rfl) (by kernel_rfl) ?_);(repeat(first|go_big_quiet_step (first|fail)));refine wpQuiet_nil ?_;rintro _ ⟨x,rfl⟩))
     refine(c_sl08Best (hs.to inferInstance) (hown2.to inferInstance).sl hn hgl hg0.out hm).mono ?_
     rintro _ _ ⟨rfl,y2,rfl⟩
     go_wp2_with (first|((with_reducible refine wp_region_later (by kernel_rfl) (by kernel_rfl) ?_);(repeat(first|go_big_quiet_step (first|fail)));refine wpQuiet_nil ?_;rintro _ ⟨x,rfl⟩))
     refine(c_sVisible).mono ?_
     rintro _ _ ⟨rfl,y3,rfl⟩
     have hS:=hown.to (inferInstance:Grows x2.w y3.w)
     have hG:=hown2.to (inferInstance:Grows x2.w y3.w)
     obtain⟨Y,hY⟩:=Later.of (w:=(w.alloc (.cells #[.int .i64 p,.int .i64 s,.int .i64 l] 63))) (W:=y3.w)
     rw[hY]at hS hG ⊢
     clear hY y3 y2 hown hown2 hsg
     cases hv:visible p s l m2
     ·have HV:=lH hv;clear hv
      go_wp2_with (first|((with_reducible refine wp_region_later (by kernel_rfl) (by kernel_rfl) ?_);(repeat(first|go_big_quiet_step (first|fail)));refine wpQuiet_nil ?_;rintro _ ⟨x,rfl⟩))
      go_roundw
      case rel =>
       refine⟨m2,pl,m,sa,sc,gots,rfl,rfl,hpl,⟨by omega,hN2⟩,by omega,hgl,hg0,?_,hS.to inferInstance,hG.to inferInstance,Later.of⟩
       rw[← planFrom_miss (.inl HV.out) hN2,← HV4.out];exact hf.out
      case measure=>simp[intOf];omega
     ·cases hp:best m2 none 0 list (restOf list gots)with
      | none =>
       have HV:=lH hv;have HP:=lH hp;clear hv hp
       simp only[idxOf]
       go_wp2_with (first|((with_reducible refine wp_region_later (by kernel_rfl) (by kernel_rfl) ?_);(repeat(first|go_big_quiet_step (first|fail)));refine wpQuiet_nil ?_;rintro _ ⟨x,rfl⟩))
       go_roundw
       case rel =>
        refine⟨m2,pl,m,sa,sc,gots,rfl,rfl,hpl,⟨by omega,hN2⟩,by omega,hgl,hg0,?_,hS.to inferInstance,hG.to inferInstance,Later.of⟩
        rw[← planFrom_miss (.inr HP.out) hN2,← HV4.out];exact hf.out
       case measure=>simp[intOf];omega
      | some kr =>
       obtain⟨k1,r⟩:=kr
       obtain⟨g',hk1,hk2,hk3⟩:=best_some hp
       have hkl:=(List.getElem?_eq_some_iff.1 hk1).1
       have hkn:k1<n:=by omega
       obtain⟨b4,off4,g,hbo4,hb4,hd4,i0⟩:=hG.sl.int (k:=k1) (by omega)
       simp only[Option.some.injEq,Addr.mk.injEq,and_true]at hbo4
       obtain⟨rfl,rfl⟩:=hbo4
       simp only[Nat.zero_add]at i0
       have i1:=i0 Y.w
       have hat:=at_of_drop hd4.out
       have hge:r.Need - g=g':=by have:=rest_at hk1 hat;rw[hk2]at this;exact(Option.some.inj this).symm
       have hgk:=hg0.out k1 r g hk1 hat
       have hrn:=(HM.out r (List.mem_of_getElem? hk1)).2.2.2
       have hg1:=(wants_iff.1 hk3).1
       have i2:=hG.free k1
       have PUT:=hG.put1 (j:=k1) (y:=g+1) (by omega) rfl
       have hL2:=PUT.1
       have hS2:=hS.keepT hG (by decide) (n':=n) (by simpa[Value.ownBlock]using PUT.2)
       have hL3:Own encInt 3 1 (w.alloc (.cells #[.int .i64 p,.int .i64 s,.int .i64 l] 63)).heap.size (Y.set ⟨gb,k1,none⟩ (.int .i64 (g+1))).w (some ⟨gb,0,none⟩) n (gots.set k1 (g+1)):=hL2
       have hS3:Own encSlot 201 2 (w.alloc (.cells #[.int .i64 p,.int .i64 s,.int .i64 l] 63)).heap.size (Y.set ⟨gb,k1,none⟩ (.int .i64 (g+1))).w sa sc pl:=hS2
       have HP:=lH hp;have HK1:=lH hk1;have HK2:=lH hk2;have HV:=lH hv;have HAT:=lH hat;have HGE:=lH hge
       obtain⟨b3,off3,r',rfl,hb3,hd3,e0,e1,e2,e3⟩:=hs.request hkl
       obtain rfl:r=r':=by have:=at_of_drop hd3.out;rw[hk1]at this;exact Option.some.inj this
       clear hp hk1 hk2 hk3 hd3 hkl hv hat hge hd4 i0 PUT hL2 hS2 hS hG
       simp only[idxOf]
       go_wp2_with (first|((with_reducible refine wp_region_later (by kernel_rfl) (by kernel_rfl) ?_);(repeat(first|go_big_quiet_step (first|fail)));refine wpQuiet_nil ?_;rintro _ ⟨x,rfl⟩)|((at_builtin;refine wpList_app1 (enc:=encSlot) (w0:=_) (z:=.agg #[.int .i64 0,.int .i64 0]) (size:=2) (bytes:=16) (⟨m2,r.Id⟩:Slot) rfl (.tmp 83) (.tmp 91) rfl Tryz.underlying64 (by kernel_rfl) rfl (by decide) (by decide) rfl rfl hpl (Own.to hS3 inferInstance) rfl (encSlot_one _) (by omega) ?_;intro sa1 sc1 x1 hown1 hgr1);have hl1:=(Own.to hL3 inferInstance).keepT (Own.to hS3 inferInstance) (by decide) hgr1))
       go_roundw
       case rel =>
        refine⟨m2,pl++[⟨m2,r.Id⟩],m+1,sa1,sc1,gots.set k1 (g+1),rfl,rfl,by simp[hpl],⟨by omega,hN2⟩,by omega,by simpa using hgl,?_,?_,hown1,hl1,Later.of⟩
        ·intro i q x h1 h2
         by_cases hik:k1=i
         ·subst hik
          rw[HK1.out]at h1;cases h1
          rw[List.getElem?_set_self (by omega)]at h2;cases h2
          have:=HGE.out;omega
         ·rw[List.getElem?_set_ne hik]at h2
          exact hg0.out i q x h1 h2
        ·rw[rest_set _ HK1.out HAT.out,show r.Need - (g+1)=g' - 1 by have:=HGE.out;omega]
         show(_++_)++_=_
         rw[List.append_assoc,List.singleton_append,← planFrom_got HV.out HP.out HK2.out hN2,← HV4.out];exact hf.out
       case measure=>simp[intOf];omega
end Go.Proofs.YtdinhfeflobafaaGreat
