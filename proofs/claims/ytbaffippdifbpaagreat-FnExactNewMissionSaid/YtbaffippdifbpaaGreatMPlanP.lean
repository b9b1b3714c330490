/- The contracts of PlanPasses, and of the reference's own best. No condition but on lengths. -/
import Derived.Test.YtbaffippdifbpaaGreatMPlanW
import Derived.Test.YtbaffippdifbpaaGreatMM8
import Derived.Test.YtbaffippdifbpaaGreatMReg
namespace Go.Proofs.YtbaffippdifbpaaGreat
set_option linter.unusedVariables false
open Go.ChangeShapes Go.WideShapes Go.ChangeAt Go.RowKit
theorem encSlot_one(x:Slot):∀ u∈encSlot x,u.oneCell'=true:=by
 intro u hu
 simp only[encSlot,List.mem_cons,List.not_mem_nil,or_false]at hu
 rcases hu with rfl|rfl<;>rfl
/-! ### Two slices of the call's own, of different types, lie apart -/
theorem Own.apart{α β:Type}{enc:α→List Value}{enc':β→List Value}{T T' size size' B B' n n':Nat}{w:World}{a a':Option Addr}{c c':Nat}{l:List α}{l':List β}(h:Own enc T size B w a c l)(h':Own enc' T' size' B' w a' c' l')(hT:T≠T') :
  Value.ownBlock (.slice a n c)=none∨Value.ownBlock (.slice a n c)≠Value.ownBlock (.slice a' n' c'):=by
 obtain⟨-,-,⟨h1,-⟩|⟨g,cap,cur,hv,-,hh,-⟩⟩:=h
 ·simp only[Value.slice.injEq]at h1;obtain⟨rfl,-⟩:=h1;exact .inl rfl
 ·simp only[Value.slice.injEq]at hv;obtain⟨rfl,-⟩:=hv
  obtain⟨-,-,⟨h1,-⟩|⟨g',cap',cur',hv',-,hh',-⟩⟩:=h'
  ·simp only[Value.slice.injEq]at h1;obtain⟨rfl,-⟩:=h1;right;simp[Value.ownBlock]
  ·simp only[Value.slice.injEq]at hv';obtain⟨rfl,-⟩:=hv'
   right
   simp only[Value.ownBlock,ne_eq,Option.some.injEq]
   rintro rfl
   rw[hh]at hh'
   simp only[Option.some.injEq,Obj.cells.injEq]at hh'
   exact hT hh'.2.1
theorem Own.keepT{α β:Type}{enc:α→List Value}{enc':β→List Value}{T T' size size' B B' n':Nat}{w w':World}{a a':Option Addr}{c c':Nat}{l:List α}{l':List β}(h:Own enc T size B w a c l)(h':Own enc' T' size' B' w a' c' l')(hT:T≠T')
  (hg:w.grownBy w' (Value.ownBlock (.slice a' n' c'))):Own enc T size B w' a c l :=
 ⟨h.1,h.2.kept hg (h.apart h' hT)⟩
def timeLeft(t:Int):Nat:=if t<0 then 0 else(1000001 - t).toNat
theorem timeLeft_lt{t u:Int}(h:0≤t)(h':t≤1000000)(hu:u=-1∨t<u):timeLeft u<timeLeft t:=by
 unfold timeLeft
 rw[if_neg (show ¬ t<0 by omega)]
 split<;>omega
/-! ### What is to come -/
def toCome(p s l:Int)(list:List Request)(t:Int)(gs:List Int):List Slot:=if t<0 then[]else planFrom p s l list (1000001 - t).toNat t gs
theorem toCome_next{p s l u:Int}{list:List Request}{gs:List Int}(hm:∀ r∈list,r.Ready≤1000000∧r.Deadline≤1000000)(hu:0≤u)(hu':u≤1000001) :
  planFrom p s l list (1000001 - u).toNat u gs=toCome p s l list (nextW u (-1) list gs) gs∧(nextW u (-1) list gs=-1∨u≤nextW u (-1) list gs)∧nextW u (-1) list gs≤1000000:=by
 rcases nextW_spec hu (rs:=list) (gs:=gs) (n:=-1) (.inl rfl)with⟨h1,-,h3⟩|⟨h1,-,h3,h4⟩
 ·rw[h1]
  exact⟨by rw[toCome,if_pos (by omega)];exact planFrom_none _ (fun v hv _=>.inr (h3 v hv)),.inl rfl,by omega⟩
 ·have hle:nextW u (-1) list gs≤1000000:=by
   obtain⟨r,hr,hr2⟩:=h4 (by omega)
   have:=hm r hr;omega
  refine⟨?_,.inr h1,hle⟩
  rw[toCome,if_neg (by omega)]
  have:=planFrom_skip (p:=p) (s:=s) (l:=l) (list:=list) (gs:=gs) (nextW u (-1) list gs - u).toNat (1000001 - nextW u (-1) list gs).toNat (t:=u) (fun v hv hv'=>.inr (h3 v hv (by omega)))
  rw[show(1000001 - nextW u (-1) list gs).toNat+(nextW u (-1) list gs - u).toNat=(1000001 - u).toNat by omega,show u+((nextW u (-1) list gs - u).toNat:Int)=nextW u (-1) list gs by omega]at this
  exact this
theorem toCome_visible{p s l t:Int}{list:List Request}{gs:List Int}(ok:orbitOk p s l=true)(ht:0≤t)(ht':t≤1000000) :
  (nextVis p s l t=-1∧toCome p s l list t gs=[])∨(t≤nextVis p s l t∧nextVis p s l t≤1000000∧visible p s l (nextVis p s l t)=true∧toCome p s l list t gs=planFrom p s l list (1000001 - nextVis p s l t).toNat (nextVis p s l t) gs):=by
 obtain⟨⟨k1,k2⟩,-⟩:=orbitOk_iff.1 ok
 have hge:=nextAt_ge (p:=p) (s:=s) (l:=l) (t:=t) k1
 have hno:∀ u,t≤u→u<nextAt p s l t→visible p s l u=false:=fun u h1 h2=>nextAt_not ok h1 h2
 rw[toCome,if_neg (by omega)]
 by_cases h:nextAt p s l t≤1000000
 ·have e:nextVis p s l t=nextAt p s l t:=by rw[nextVis,if_pos];simp[ok,ht,ht',h]
  rw[e]
  refine .inr ⟨hge,h,nextAt_yes ok h,?_⟩
  have:=planFrom_skip (p:=p) (s:=s) (l:=l) (list:=list) (gs:=gs) (nextAt p s l t - t).toNat (1000001 - nextAt p s l t).toNat (t:=t) (fun v hv hv'=>.inl (hno v hv (by omega)))
  rw[show(1000001 - nextAt p s l t).toNat+(nextAt p s l t - t).toNat=(1000001 - t).toNat by omega,show t+((nextAt p s l t - t).toNat:Int)=nextAt p s l t by omega]at this
  exact this
 ·have e:nextVis p s l t=-1:=by rw[nextVis,if_neg];simp[h]
  exact .inl ⟨e,planFrom_none _ (fun v hv hv'=>.inl (hno v hv (by omega)))⟩
theorem planFrom_miss{p s l v:Int}{list:List Request}{gs:List Int}(h:visible p s l v=false∨best v none 0 list gs=none)(hv:v≤1000000) :
  planFrom p s l list (1000001 - v).toNat v gs=planFrom p s l list (1000001 - (v+1)).toNat (v+1) gs:=by
 rw[show(1000001 - v).toNat=(1000001 - (v+1)).toNat+1 by omega,planFrom]
 rcases h with h|h
 ·rw[if_neg (by rw[h];simp)]
 ·rw[h];split<;>rfl
theorem planFrom_got{p s l v:Int}{list:List Request}{gs:List Int}{k:Nat}{r:Request}{g:Int}(hv:visible p s l v=true)(hp:best v none 0 list gs=some (k,r))(hg:gs[k]?=some g)(hv':v≤1000000) :
  planFrom p s l list (1000001 - v).toNat v gs=⟨v,r.Id⟩::planFrom p s l list (1000001 - (v+1)).toNat (v+1) (gs.set k (g - 1)):=by
 rw[show(1000001 - v).toNat=(1000001 - (v+1)).toNat+1 by omega,planFrom_hit hv hp,lowered,hg];rfl
theorem drop_map_needs{list:List Request}{k:Nat}{s:Request}(h:list.drop k=s::list.drop (k+1)):(list.map (·.Need)).drop k=s.Need::(list.map (·.Need)).drop (k+1):=by
 rw[← List.map_drop,h,List.map_cons,List.map_drop]
set_option maxRecDepth 100000 in
set_option maxHeartbeats 2000000 in
theorem c_iPlanPasses{a:Option Addr}{n c:Nat}{p s l:Int}{list:List Request}{w:World}(hs:Sl encRequest w a list)(hn:list.length=n)(hnc:n≤c)(hm:n≤1048576) :
  Calls Tryz.prog 50 #[.agg #[.int .i64 p,.int .i64 s,.int .i64 l],.slice a n c] w (GivesSl encSlot 205 2 w (planAll p s l list)):=by
 cases q1:orbitOk p s l
 ·go_enter Tryz.func50,Tryz.ntmps50
  go_wp2_with (first|((with_reducible refine wp_region_later (by kernel_rfl) (by kernel_rfl) ?_);(repeat(first|go_big_quiet_step (first|(go_at_call 129;exact Gives.quiet (c_iOrbitOk)))|simp only[q1]));refine wpQuiet_nil ?_;rintro _ ⟨x,rfl⟩)|(go_at_call 129;refine(c_iOrbitOk).mono ?_;rintro _ _ ⟨rfl,x,rfl⟩))
  go_ret
  exact GivesSl.nilOf encSlot_len (by simp[planAll,q1])
 cases q2:requestsOk list
 ·go_enter Tryz.func50,Tryz.ntmps50
  go_wp2_with (first|((with_reducible refine wp_region_later (by kernel_rfl) (by kernel_rfl) ?_);(repeat(first|go_big_quiet_step (first|(go_at_call 129;exact Gives.quiet (c_iOrbitOk))|(go_at_call 130;exact Gives.quiet (c_iRequestsOk)))|simp only[q1]|simp only[q2]));refine wpQuiet_nil ?_;rintro _ ⟨x,rfl⟩)|(go_at_call 129;refine(c_iOrbitOk).mono ?_;rintro _ _ ⟨rfl,x,rfl⟩)|(go_at_call 130;refine(c_iRequestsOk).mono ?_;rintro _ _ ⟨rfl,x,rfl⟩))
  go_ret
  exact GivesSl.nilOf encSlot_len (by simp[planAll,q2])
 have HF:=lH (show planAll p s l list=planFrom p s l list (1000001 - 0:Int).toNat 0 (list.map (·.Need))by rw[planAll,q1,q2];rfl)
 have hl:=(requestsOk_mem q2).1
 have HM:=lH (requestsOk_mem q2).2
 have HB:=lH (show ∀ r∈list,r.Ready≤1000000∧r.Deadline≤1000000 from fun r hr=>by have:=HM.out r hr;omega)
 obtain⟨C,hC,hmk⟩:=run_mk (P:=Tryz.prog) Tryz.underlying48 (e:=3) (z:=.int .i64 0) (size:=1) (bytes:=8) (by kernel_rfl) n (by omega) (by omega)
 have hCz:C.size=n:=by rw[hC,size_madeCells,Nat.mul_one]
 clear hC
 go_enter Tryz.func50,Tryz.ntmps50
 go_wp2_with (first|((with_reducible refine wp_region_later (by kernel_rfl) (by kernel_rfl) ?_);(repeat(first|go_big_quiet_step (first|fail)));refine wpQuiet_nil ?_;rintro _ ⟨x,rfl⟩))
 refine c_iOrbitOk.mono ?_
 rintro _ _ ⟨rfl,x0,rfl⟩
 go_wp2_with (first|((with_reducible refine wp_region_later (by kernel_rfl) (by kernel_rfl) ?_);(repeat(first|go_big_quiet_step (first|fail)|simp only[q1]));refine wpQuiet_nil ?_;rintro _ ⟨x,rfl⟩))
 refine(c_iRequestsOk (hs.to inferInstance) hn hnc (by omega)).mono ?_
 rintro _ _ ⟨rfl,x1,rfl⟩
 go_wp2_with (first|((with_reducible refine wp_region_later (by kernel_rfl) (by kernel_rfl) ?_);(repeat(first|go_big_quiet_step (first|fail)|simp only[q1]|simp only[q2]));refine wpQuiet_nil ?_;rintro _ ⟨x,rfl⟩))
 clear hmk
 go_loopw [24] (fun v wr=>∃ k:Nat,v=.int .i64 k∧k≤n∧∃ D:Array Value,D.size=n∧Hid (D.toList.take k=((list.map (·.Need)).take k).flatMap encInt)∧∃ x:Later ((x0.andThen x1).w.alloc (.cells D 3)),wr=x.w) (fun v _=>(n - intOf v).toNat)
 case atStart=>exact⟨0,rfl,by omega,C,hCz,by simp[Hid],Later.here _,rfl⟩
 case round =>
  obtain⟨k,rfl,hk,D,hDz,hf,x,rfl⟩:=hrel
  by_cases h:k<n
  ·obtain⟨b,off,s1,rfl,hb,hd,h10,h11,h12,h13⟩:=hs.request (show k<list.length by omega)
   obtain⟨o0,g0⟩:=getD_lt hDz (show k<n by omega)
   go_wp2_with (first|((with_reducible refine wp_region_later (by kernel_rfl) (by kernel_rfl) ?_);(repeat(first|go_big_quiet_step (first|fail)));refine wpQuiet_nil ?_;rintro _ ⟨x,rfl⟩))
   go_roundw
   case rel =>
    refine⟨k+1,by go_num,by omega,_,by simpa using hDz,fill1 hf.out hDz h (drop_map_needs hd.out) rfl,?_⟩
    obtain⟨y,hy⟩:=Later.set1_at x k (.int .i64 s1.Need)
    rw[hy];exact Later.of
   case measure=>simp[intOf];omega
  ·obtain rfl:n=k:=by omega
   have hf':D.toList=(list.map (·.Need)).flatMap encInt:=by
    have:=hf.out
    rwa[List.take_of_length_le (by simp;omega),List.take_of_length_le (by simp;omega)]at this
   clear hf hk h
   have hgb:w.heap.size+1≤(x0.andThen x1).w.heap.size:=LeN.out
   have hO1:Own encInt 3 1 (w.alloc (.cells #[.int .i64 p,.int .i64 s,.int .i64 l] 27)).heap.size x.w (some ⟨(x0.andThen x1).w.heap.size,0,none⟩) n (list.map (·.Need)):=own_block encInt_len (by simpa using hn) (by omega) LeN.out (by rw[Nat.mul_one];exact hDz) hf' x
   clear hf' hDz
   obtain⟨gb,hge⟩:∃ g,(x0.andThen x1).w.heap.size=g:=⟨_,rfl⟩
   rw[hge]at hgb hO1
   obtain⟨z,hz⟩:=Later.of (w:=w.alloc (.cells #[.int .i64 p,.int .i64 s,.int .i64 l] 27)) (W:=x.w)
   rw[hz]at hO1 ⊢
   simp only[hge]
   have hgi:LeN (w.alloc (.cells #[.int .i64 p,.int .i64 s,.int .i64 l] 27)).heap.size gb:=⟨by simp;omega⟩
   clear hz hge
   have hN:=okLeft_needs q2
   have HN:=lH (show ∀ g∈list.map (·.Need),0≤g∧g≤100 from fun g hg=>by
    obtain⟨r,hr,rfl⟩:=List.mem_map.1 hg
    have:=(HM.out r hr).2.2.2;omega)
   clear hN
   have T0:=lH (toCome_next (p:=p) (s:=s) (l:=l) (gs:=list.map (·.Need)) HB.out (show(0:Int)≤0 by omega) (by omega))
   go_wp2_with (first|((with_reducible refine wp_region_later (by kernel_rfl) (by kernel_rfl) ?_);(repeat(first|go_big_quiet_step (first|fail)));refine wpQuiet_nil ?_;rintro _ ⟨x,rfl⟩))
   refine(c_inextWanted (hs.to inferInstance) hO1.sl hn (by simpa using hn) hm (by omega) (by omega)).mono ?_
   rintro _ _ ⟨rfl,y0,rfl⟩
   go_wp2_with (first|((with_reducible refine wp_region_later (by kernel_rfl) (by kernel_rfl) ?_);(repeat(first|go_big_quiet_step (first|fail)));refine wpQuiet_nil ?_;rintro _ ⟨x,rfl⟩))
   go_loopw [5,9] (fun vp vt wr=>∃ (t:Int) (pl:List Slot) (m:Nat) (sa:Option Addr) (sc:Nat) (gs:List Int),vt=.int .i64 t∧vp=.slice sa m sc∧pl.length=m∧(-1≤t∧t≤1000000)∧(t=-1∨(m:Int)≤t)∧m≤1000001∧gs.length=n∧Hid (∀ g∈gs,0≤g∧g≤100)∧Hid (pl++toCome p s l list t gs=planAll p s l list)∧Own encSlot 205 2 (w.alloc (.cells #[.int .i64 p,.int .i64 s,.int .i64 l] 27)).heap.size wr sa sc pl∧Own encInt 3 1 (w.alloc (.cells #[.int .i64 p,.int .i64 s,.int .i64 l] 27)).heap.size wr (some ⟨gb,0,none⟩) n gs∧∃ x:Later (w.alloc (.cells #[.int .i64 p,.int .i64 s,.int .i64 l] 27)),wr=x.w) (fun _ v _=>timeLeft (intOf v))
   case atStart =>
    refine⟨_,[],0,none,0,list.map (·.Need),rfl,rfl,rfl,⟨?_,T0.out.2.2⟩,?_,by omega,by simpa using hn,HN,?_,Own.nil encSlot_len,hO1.to inferInstance,Later.of⟩
    ·rcases T0.out.2.1 with h|h<;>omega
    ·rcases T0.out.2.1 with h|h
     ·exact .inl h
     ·exact .inr (by simpa using h)
    ·show[]++_=_
     rw[HF.out,T0.out.1];rfl
   case round =>
    obtain⟨t,pl,m,sa,sc,gs,rfl,rfl,hpl,⟨ht1,ht2⟩,hmt,hmm,hgl,hg0,hf,hown,hown2,x2,rfl⟩:=hrel
    by_cases ht:t<0
    ·go_wp2_with (first|((with_reducible refine wp_region_later (by kernel_rfl) (by kernel_rfl) ?_);(repeat(first|go_big_quiet_step (first|fail)));refine wpQuiet_nil ?_;rintro _ ⟨x,rfl⟩))
     go_ret
     have h9:=hf.out
     rw[toCome,if_pos ht,List.append_nil]at h9
     subst h9
     exact⟨sa,sc,by rw[hpl];rfl,hown.mono (by simp),Later.of⟩
    ·have hmt':(m:Int)≤t:=by omega
     clear hmt
     obtain⟨v,hv⟩:∃ v,v=nextVis p s l t:=⟨_,rfl⟩
     have TV:=lH (toCome_visible (p:=p) (s:=s) (l:=l) (list:=list) (gs:=gs) q1 (show 0≤t by omega) ht2)
     have HV:=lH hv
     rw[← hv]at TV
     clear hv
     go_wp2_with (first|((with_reducible refine wp_region_later (by kernel_rfl) (by kernel_rfl) ?_);(repeat(first|go_big_quiet_step (first|fail)));refine wpQuiet_nil ?_;rintro _ ⟨x,rfl⟩))
     refine c_iNextVisible.mono ?_
     rintro _ _ ⟨rfl,y,rfl⟩
     rw[← HV.out]
     rcases TV.out with⟨hv1,hv2⟩|⟨hv1,hv2,hv3,hv4⟩
     ·have hv0:v<0:=by omega
      have HV2:=lH hv2
      clear hv1 hv2
      go_wp2_with (first|((with_reducible refine wp_region_later (by kernel_rfl) (by kernel_rfl) ?_);(repeat(first|go_big_quiet_step (first|fail)));refine wpQuiet_nil ?_;rintro _ ⟨x,rfl⟩))
      go_ret
      have h9:=hf.out
      rw[HV2.out,List.append_nil]at h9
      subst h9
      exact⟨sa,sc,by rw[hpl];rfl,(hown.to inferInstance).mono (by simp),Later.of⟩
     ·have HV3:=lH hv3;have HV4:=lH hv4
      clear hv3 hv4
      go_wp2_with (first|((with_reducible refine wp_region_later (by kernel_rfl) (by kernel_rfl) ?_);(repeat(first|go_big_quiet_step (first|fail)));refine wpQuiet_nil ?_;rintro _ ⟨x,rfl⟩))
      refine(c_imostUrgent (hs.to inferInstance) (hown2.to inferInstance).sl hn hgl hm).mono ?_
      rintro _ _ ⟨rfl,y2,rfl⟩
      cases hp:best v none 0 list gs with
      | none =>
       have TN:=lH (toCome_next (p:=p) (s:=s) (l:=l) (gs:=gs) HB.out (show 0≤v+1 by omega) (by omega))
       have HP:=lH hp;clear hp
       simp only[idxOf]
       go_wp2_with (first|((with_reducible refine wp_region_later (by kernel_rfl) (by kernel_rfl) ?_);(repeat(first|go_big_quiet_step (first|fail)));refine wpQuiet_nil ?_;rintro _ ⟨x,rfl⟩))
       refine(c_inextWanted (hs.to inferInstance) (hown2.to inferInstance).sl hn hgl hm (by omega) (by omega)).mono ?_
       rintro _ _ ⟨rfl,y3,rfl⟩
       go_wp2_with (first|((with_reducible refine wp_region_later (by kernel_rfl) (by kernel_rfl) ?_);(repeat(first|go_big_quiet_step (first|fail)));refine wpQuiet_nil ?_;rintro _ ⟨x,rfl⟩))
       go_roundw
       case rel =>
        refine⟨_,pl,m,sa,sc,gs,rfl,rfl,hpl,⟨?_,TN.out.2.2⟩,?_,hmm,hgl,hg0,?_,hown.to inferInstance,hown2.to inferInstance,Later.of⟩
        ·rcases TN.out.2.1 with h|h<;>omega
        ·rcases TN.out.2.1 with h|h
         ·exact .inl h
         ·exact .inr (by omega)
        ·show _++_=_
         rw[← TN.out.1,← planFrom_miss (.inr HP.out) hv2,← HV4.out];exact hf.out
       case measure =>
        have h8:=TN.out.2.1
        exact timeLeft_lt (by simpa[intOf]using ht) (by simpa[intOf]using ht2) (by simp only[intOf];omega)
      | some kr =>
       obtain⟨k,r⟩:=kr
       obtain⟨g,hk1,hk2,hk3⟩:=best_some hp
       have hgk:=hg0.out g (List.mem_of_getElem? hk2)
       have hg1:=(wants_iff.1 hk3).1
       have TN:=lH (toCome_next (p:=p) (s:=s) (l:=l) (gs:=gs.set k (g - 1)) HB.out (show 0≤v+1 by omega) (by omega))
       have HP:=lH hp;have HK1:=lH hk1;have HK2:=lH hk2
       have hkl:=(List.getElem?_eq_some_iff.1 hk1).1
       have hkn:k<n:=by omega
       obtain⟨b3,off3,r',rfl,hb3,hd3,e0,e1,e2,e3⟩:=hs.request hkl
       obtain rfl:r=r':=by have:=at_of_drop hd3.out;rw[hk1]at this;exact Option.some.inj this
       clear hp hk1 hk2 hk3 hd3 hkl
       simp only[idxOf]
       go_wp2_with (first|((with_reducible refine wp_region_later (by kernel_rfl) (by kernel_rfl) ?_);(repeat(first|go_big_quiet_step (first|fail)));refine wpQuiet_nil ?_;rintro _ ⟨x,rfl⟩)|((at_builtin;refine wpList_app1 (enc:=encSlot) (w0:=_) (z:=.agg #[.int .i64 0,.int .i64 0]) (size:=2) (bytes:=16) (⟨v,r.Id⟩:Slot) rfl (.tmp 51) (.tmp 59) rfl Tryz.underlying28 (by kernel_rfl) rfl (by decide) (by decide) rfl rfl hpl (Own.to hown inferInstance) rfl (encSlot_one _) (by omega) ?_;intro sa1 sc1 x1 hown1 hgr1);have hl1:=(Own.to hown2 inferInstance).keepT (Own.to hown inferInstance) (by decide) hgr1;obtain⟨b4,off4,g4,hbo4,hb4,hd4,i0⟩:=hl1.sl.int (k:=k) (by omega);obtain rfl:g=g4:=Option.some.inj (HK2.out.symm.trans (at_of_drop hd4.out));simp only[Option.some.injEq,Addr.mk.injEq,and_true]at hbo4;obtain⟨rfl,rfl⟩:=hbo4;simp only[Nat.zero_add]at i0;have i1:=i0 x1.w;clear i0 hd4;have i2:=hl1.free k;have HL1:=lH hl1;have HOW1:=lH hown1;clear hl1 hown1 hgr1))
       have PUT:=HL1.out.put1 (j:=k) (y:=g - 1) (by omega) rfl
       obtain⟨z2,hz2⟩:=Later.of (w:=w.alloc (.cells #[.int .i64 p,.int .i64 s,.int .i64 l] 27)) (W:=x1.w.setCell ⟨gb,k,none⟩ (.int .i64 (g - 1)))
       have hL2:=PUT.1
       have hS2:=HOW1.out.keepT HL1.out (by decide) (n':=n) (by simpa[Value.ownBlock]using PUT.2)
       have hz3:(x1.set ⟨gb,k,none⟩ (.int .i64 (g - 1))).w=z2.w:=hz2
       rw[hz2]at hL2 hS2
       rw[hz3]
       clear hz2 hz3 PUT HL1 HOW1
       refine(c_inextWanted (hs.to inferInstance) hL2.sl hn (by simpa using hgl) hm (by omega) (by omega)).mono ?_
       rintro _ _ ⟨rfl,y3,rfl⟩
       go_wp2_with (first|((with_reducible refine wp_region_later (by kernel_rfl) (by kernel_rfl) ?_);(repeat(first|go_big_quiet_step (first|fail)));refine wpQuiet_nil ?_;rintro _ ⟨x,rfl⟩))
       go_roundw
       case rel =>
        refine⟨_,pl++[⟨v,r.Id⟩],m+1,sa1,sc1,gs.set k (g - 1),rfl,rfl,by simp[hpl],⟨?_,TN.out.2.2⟩,?_,by omega,by simpa using hgl,?_,?_,hS2.to inferInstance,hL2.to inferInstance,Later.of⟩
        ·rcases TN.out.2.1 with h|h<;>omega
        ·rcases TN.out.2.1 with h|h
         ·exact .inl h
         ·exact .inr (by omega)
        ·intro q hq
         rcases List.mem_or_eq_of_mem_set hq with hq|hq
         ·exact hg0.out q hq
         ·omega
        ·show(_++_)++_=_
         rw[← TN.out.1,List.append_assoc,List.singleton_append,← planFrom_got HV3.out HP.out HK2.out hv2,← HV4.out];exact hf.out
       case measure =>
        have h8:=TN.out.2.1
        exact timeLeft_lt (by simpa[intOf]using ht) (by simpa[intOf]using ht2) (by simp only[intOf];omega)
end Go.Proofs.YtbaffippdifbpaaGreat
