/- The contracts on requests: RequestsOk and DemandOf. No condition but on lengths. -/
import Derived.Test.YtbaffippdifbpaaGreatMM0
namespace Go.Proofs.YtbaffippdifbpaaGreat
set_option linter.unusedVariables false
open Go.ChangeShapes Go.WideShapes Go.ChangeAt Go.RowKit
structure Request where
  Id:Int
  Ready:Int
  Deadline:Int
  Need:Int
def encRequest(s:Request):List Value:=[.int .i64 s.Id,.int .i64 s.Ready,.int .i64 s.Deadline,.int .i64 s.Need]
theorem encRequest_len(s:Request):(encRequest s).length=4:=rfl
theorem Sl.request{w:World}{a:Option Addr}{l:List Request}(h:Sl encRequest w a l){k:Nat}(hk:k<l.length) :
    ∃ b off s,a=some ⟨b,off,none⟩∧LtN b w.heap.size∧Hid (l.drop k=s::l.drop (k+1))∧(∀ (W:World) [Grows w W],W.cell? ⟨b,off+k*4,none⟩=some (.int .i64 s.Id))∧(∀ (W:World) [Grows w W],W.cell? ⟨b,off+k*4+1,none⟩=some (.int .i64 s.Ready))∧(∀ (W:World) [Grows w W],W.cell? ⟨b,off+k*4+2,none⟩=some (.int .i64 s.Deadline))∧(∀ (W:World) [Grows w W],W.cell? ⟨b,off+k*4+3,none⟩=some (.int .i64 s.Need)):=by
  obtain⟨s,hs,hd⟩:=drop_at hk
  obtain⟨b,off,ha,hb,hc⟩:=h k s hs
  exact⟨b,off,s,ha,⟨hb⟩,hd,cell_grown hb (hc 0 _ rfl),cell_grown hb (hc 1 _ rfl),cell_grown hb (hc 2 _ rfl),cell_grown hb (hc 3 _ rfl)⟩
def eqRequest(s t:Request):Bool:=(s.Id == t.Id) && (s.Ready == t.Ready) && (s.Deadline == t.Deadline) && (s.Need == t.Need)
theorem eqRequest_self(s:Request):eqRequest s s=true:=by simp[eqRequest]
def okRequest(s:Request):Prop:=i64 s.Id∧i64 s.Ready∧i64 s.Deadline∧i64 s.Need∧True
theorem flatRequest{w:World}{cs:List Value}(hl:cs.length=4)(h:RdL w [.int,.int,.int,.int] cs):∃ s:Request,encRequest s=cs∧okRequest s:=by
  obtain⟨u0,g0,r0⟩:=h.at (j:=0) rfl
  obtain⟨x0,rfl,p0⟩:=r0.int_inv
  obtain⟨u1,g1,r1⟩:=h.at (j:=1) rfl
  obtain⟨x1,rfl,p1⟩:=r1.int_inv
  obtain⟨u2,g2,r2⟩:=h.at (j:=2) rfl
  obtain⟨x2,rfl,p2⟩:=r2.int_inv
  obtain⟨u3,g3,r3⟩:=h.at (j:=3) rfl
  obtain⟨x3,rfl,p3⟩:=r3.int_inv
  refine⟨⟨x0,x1,x2,x3⟩,(list_all hl ?_).symm,p0,p1,p2,p3,trivial⟩
  intro j y hy
  match j,hy with
  | 0,hy=>cases hy;exact g0
  | 1,hy=>cases hy;exact g1
  | 2,hy=>cases hy;exact g2
  | 3,hy=>cases hy;exact g3
theorem c_ltoRequest{s:Request}{w:World}:Calls Tryz.prog 68 #[.agg #[.int .i64 s.Id,.int .i64 s.Ready,.int .i64 s.Deadline,.int .i64 s.Need]] w (Gives w (.agg #[.int .i64 s.Id,.int .i64 s.Ready,.int .i64 s.Deadline,.int .i64 s.Need])):=by
  go_enter Tryz.func68,Tryz.ntmps68
  go_wp2
  exact bodyPost_ret (v:=.agg #[.int .i64 s.Id,.int .i64 s.Ready,.int .i64 s.Deadline,.int .i64 s.Need]) (by simp[results,Tryz.results68,go_sem]) rfl (Gives.mk rfl)
set_option maxRecDepth 100000 in
set_option maxHeartbeats 2000000 in
theorem c_ltoRequestS{a:Option Addr}{n c:Nat}{l:List Request}{w:World}(hs:Sl encRequest w a l)(hn:l.length=n)(hm:n≤1048576) :
    Calls Tryz.prog 20 #[.slice a n c] w (GivesSl encRequest 145 4 w l):=by
  obtain⟨C,hC,hmk⟩:=run_mk (P:=Tryz.prog) Tryz.underlying80 (e:=145) (z:=.agg #[.int .i64 0,.int .i64 0,.int .i64 0,.int .i64 0]) (size:=4) (bytes:=32) (by kernel_rfl) n (by omega) (by omega)
  have hCz:C.size=n*4:=by rw[hC,size_madeCells]
  clear hC
  go_enter Tryz.func20,Tryz.ntmps20
  go_wp2_with (first|((with_reducible refine wp_region_later (by kernel_rfl) (by kernel_rfl) ?_);(repeat(first|go_big_quiet_step (first|fail)));refine wpQuiet_nil ?_;rintro _ ⟨x,rfl⟩))
  clear hmk
  go_loopw [4] (fun v wr=>∃ k:Nat,v=.int .i64 k∧k≤n∧∃ D:Array Value,D.size=n*4∧Hid (D.toList.take (k*4)=(l.take k).flatMap encRequest)∧∃ x:Later (w.alloc (.cells D 145)),wr=x.w) (fun v _=>(n - intOf v).toNat)
  case atStart=>exact⟨0,rfl,by omega,C,hCz,by simp[Hid],Later.here _,rfl⟩
  case round =>
    obtain⟨k,rfl,hk,D,hDz,hf,x,rfl⟩:=hrel
    by_cases h:k<n
    · obtain⟨b,off,s,rfl,hb,hd,h10,h11,h12,h13⟩:=hs.request (show k<l.length by omega)
      obtain⟨o0,g0⟩:=getD_lt hDz (show k*4<n*4 by omega)
      obtain⟨o1,g1⟩:=getD_lt hDz (show k*4+1<n*4 by omega)
      obtain⟨o2,g2⟩:=getD_lt hDz (show k*4+2<n*4 by omega)
      obtain⟨o3,g3⟩:=getD_lt hDz (show k*4+3<n*4 by omega)
      go_wp2_with (first|((with_reducible refine wp_region_later (by kernel_rfl) (by kernel_rfl) ?_);(repeat(first|go_big_quiet_step (first|(go_at_call 68;exact Gives.quiet (c_ltoRequest)))));refine wpQuiet_nil ?_;rintro _ ⟨x,rfl⟩)|(go_at_call 68;refine(c_ltoRequest).mono ?_;rintro _ _ ⟨rfl,x,rfl⟩))
      go_roundw
      case rel =>
        exact⟨k+1,by go_num,by omega,_,by simpa using hDz,fill4 hf.out hDz h hd.out rfl,Later.set4_at _ _ _ _ _ _ _ _ _⟩
      case measure=>simp[intOf];omega
    · go_wp2_with (first|((with_reducible refine wp_region_later (by kernel_rfl) (by kernel_rfl) ?_);(repeat(first|go_big_quiet_step (first|fail)));refine wpQuiet_nil ?_;rintro _ ⟨x,rfl⟩))
      go_ret
      refine⟨_,_,by rw[hn];rfl,own_block encRequest_len hn (by omega) (Nat.le_refl _) hDz ?_ x,⟨x.w,Grows.out⟩,rfl⟩
      have hf':=hf.out
      rw[List.take_of_length_le (by simp;omega),List.take_of_length_le (by omega)]at hf'
      exact hf'
set_option maxRecDepth 100000 in
set_option maxHeartbeats 2000000 in
theorem c_leqRequest{s t:Request}{w:World}:Calls Tryz.prog 77 #[.agg #[.int .i64 s.Id,.int .i64 s.Ready,.int .i64 s.Deadline,.int .i64 s.Need],.agg #[.int .i64 t.Id,.int .i64 t.Ready,.int .i64 t.Deadline,.int .i64 t.Need]] w (Gives w (.bool (eqRequest s t))):=by
  cases h0:(s.Id == t.Id)
  · have k0:(s.Id != t.Id)=true:=by simp[bne,h0]
    go_enter Tryz.func77,Tryz.ntmps77
    go_wp2_with (first|((with_reducible refine wp_region_later (by kernel_rfl) (by kernel_rfl) ?_);(repeat(first|go_big_quiet_step (first|fail)|simp only[k0]));refine wpQuiet_nil ?_;rintro _ ⟨x,rfl⟩))
    go_ret
    exact Gives.mk (by simp[eqRequest,h0])
  · have k0:(s.Id != t.Id)=false:=by simp[bne,h0]
    cases h1:(s.Ready == t.Ready)
    · have k1:(s.Ready != t.Ready)=true:=by simp[bne,h1]
      go_enter Tryz.func77,Tryz.ntmps77
      go_wp2_with (first|((with_reducible refine wp_region_later (by kernel_rfl) (by kernel_rfl) ?_);(repeat(first|go_big_quiet_step (first|fail)|simp only[k0]|simp only[k1]));refine wpQuiet_nil ?_;rintro _ ⟨x,rfl⟩))
      go_ret
      exact Gives.mk (by simp[eqRequest,h0,h1])
    · have k1:(s.Ready != t.Ready)=false:=by simp[bne,h1]
      cases h2:(s.Deadline == t.Deadline)
      · have k2:(s.Deadline != t.Deadline)=true:=by simp[bne,h2]
        go_enter Tryz.func77,Tryz.ntmps77
        go_wp2_with (first|((with_reducible refine wp_region_later (by kernel_rfl) (by kernel_rfl) ?_);(repeat(first|go_big_quiet_step (first|fail)|simp only[k0]|simp only[k1]|simp only[k2]));refine wpQuiet_nil ?_;rintro _ ⟨x,rfl⟩))
        go_ret
        exact Gives.mk (by simp[eqRequest,h0,h1,h2])
      · have k2:(s.Deadline != t.Deadline)=false:=by simp[bne,h2]
        cases h3:(s.Need == t.Need)
        · have k3:(s.Need != t.Need)=true:=by simp[bne,h3]
          go_enter Tryz.func77,Tryz.ntmps77
          go_wp2_with (first|((with_reducible refine wp_region_later (by kernel_rfl) (by kernel_rfl) ?_);(repeat(first|go_big_quiet_step (first|fail)|simp only[k0]|simp only[k1]|simp only[k2]|simp only[k3]));refine wpQuiet_nil ?_;rintro _ ⟨x,rfl⟩))
          go_ret
          exact Gives.mk (by simp[eqRequest,h0,h1,h2,h3])
        · have k3:(s.Need != t.Need)=false:=by simp[bne,h3]
          go_enter Tryz.func77,Tryz.ntmps77
          go_wp2_with (first|((with_reducible refine wp_region_later (by kernel_rfl) (by kernel_rfl) ?_);(repeat(first|go_big_quiet_step (first|fail)|simp only[k0]|simp only[k1]|simp only[k2]|simp only[k3]));refine wpQuiet_nil ?_;rintro _ ⟨x,rfl⟩))
          go_ret
          exact Gives.mk (by simp[eqRequest,h0,h1,h2,h3])
set_option maxRecDepth 100000 in
set_option maxHeartbeats 2000000 in
theorem c_leqRequestS{a a':Option Addr}{n n' c c':Nat}{l l':List Request}{w:World}(hs:Sl encRequest w a l)(hs':Sl encRequest w a' l')(hn:l.length=n)(hn':l'.length=n')(hm:n≤4611686018427387904)(hm':n'≤4611686018427387904) :
    Calls Tryz.prog 25 #[.slice a n c,.slice a' n' c'] w (Gives w (.bool ((n == n') && eqAll eqRequest l l'))):=by
  by_cases hnn:n=n'
  · subst hnn
    have kn:((n:Int) != (n:Int))=false:=by simp
    go_enter Tryz.func25,Tryz.ntmps25
    go_wp2_with (first|((with_reducible refine wp_region_later (by kernel_rfl) (by kernel_rfl) ?_);(repeat(first|go_big_quiet_step (first|fail)|simp only[kn]));refine wpQuiet_nil ?_;rintro _ ⟨x,rfl⟩))
    go_loopw [5] (fun v wr=>∃ k:Nat,v=.int .i64 k∧k≤n∧Hid (eqAll eqRequest (l.drop k) (l'.drop k)=eqAll eqRequest l l')∧∃ x:Later w,wr=x.w) (fun v _=>(n - intOf v).toNat)
    case atStart=>exact⟨0,rfl,by omega,rfl,Later.here w,rfl⟩
    case round =>
      obtain⟨k,rfl,hk,hf,x,rfl⟩:=hrel
      by_cases h:k<n
      · obtain⟨b,off,s,rfl,hb,hd,h10,h11,h12,h13⟩:=hs.request (show k<l.length by omega)
        obtain⟨b',off',s',rfl,hb',hd',h30,h31,h32,h33⟩:=hs'.request (show k<l'.length by omega)
        cases he:eqRequest s s'
        · go_wp2_with (first|((with_reducible refine wp_region_later (by kernel_rfl) (by kernel_rfl) ?_);(repeat(first|go_big_quiet_step (first|(go_at_call 77;exact Gives.quiet (c_leqRequest)))|simp only[he]));refine wpQuiet_nil ?_;rintro _ ⟨x,rfl⟩)|(go_at_call 77;refine(c_leqRequest).mono ?_;rintro _ _ ⟨rfl,x,rfl⟩))
          go_ret
          exact Gives.mk (by have:=hf.out;rw[hd.out,hd'.out,eqAll,he]at this;simp[← this])
        · go_wp2_with (first|((with_reducible refine wp_region_later (by kernel_rfl) (by kernel_rfl) ?_);(repeat(first|go_big_quiet_step (first|(go_at_call 77;exact Gives.quiet (c_leqRequest)))|simp only[he]));refine wpQuiet_nil ?_;rintro _ ⟨x,rfl⟩)|(go_at_call 77;refine(c_leqRequest).mono ?_;rintro _ _ ⟨rfl,x,rfl⟩))
          go_roundw
          case rel=>exact⟨k+1,by go_num,by omega,by have:=hf.out;rw[hd.out,hd'.out,eqAll,he,Bool.true_and]at this;exact this,_,rfl⟩
          case measure=>simp[intOf];omega
      · go_wp2_with (first|((with_reducible refine wp_region_later (by kernel_rfl) (by kernel_rfl) ?_);(repeat(first|go_big_quiet_step (first|fail)));refine wpQuiet_nil ?_;rintro _ ⟨x,rfl⟩))
        go_ret
        exact Gives.mk (by have:=hf.out;rw[List.drop_of_length_le (by omega),List.drop_of_length_le (by omega)]at this;simp[← this,eqAll])
  · have kn:((n:Int) != (n':Int))=true:=by simp;omega
    go_enter Tryz.func25,Tryz.ntmps25
    go_wp2_with (first|((with_reducible refine wp_region_later (by kernel_rfl) (by kernel_rfl) ?_);(repeat(first|go_big_quiet_step (first|fail)|simp only[kn]));refine wpQuiet_nil ?_;rintro _ ⟨x,rfl⟩))
    go_ret
    exact Gives.mk (by simp[hnn])
theorem c_lszRequestS{a:Option Addr}{n c:Nat}{left:Int}{w:World}(hl:0≤left)(hl':left≤1048576)(hm:n≤9223372036854775807) :
    Calls Tryz.prog 14 #[.slice a n c,.int .i64 left] w (Gives w (.int .i64 (if left - n<0 then -1 else left - n))):=by
  by_cases h:left - n<0
  · rw[if_pos h]
    go_enter Tryz.func14,Tryz.ntmps14
    go_wp2_with (first|((with_reducible refine wp_region_later (by kernel_rfl) (by kernel_rfl) ?_);(repeat(first|go_big_quiet_step (first|fail)));refine wpQuiet_nil ?_;rintro _ ⟨x,rfl⟩))
    go_ret
    exact Gives.mk rfl
  · rw[if_neg h]
    go_enter Tryz.func14,Tryz.ntmps14
    go_wp2_with (first|((with_reducible refine wp_region_later (by kernel_rfl) (by kernel_rfl) ?_);(repeat(first|go_big_quiet_step (first|fail)));refine wpQuiet_nil ?_;rintro _ ⟨x,rfl⟩))
    go_ret
    exact Gives.mk rfl
def idFree(id:Int):List Request→Bool
  | []=>true
  | s::r=>!(s.Id == id) && idFree id r
def dueOk(s:Request):Bool:=inB s.Deadline s.Ready (min 1000000 (s.Ready+2000))
def reqsFrom:List Request→List Request→Bool
  | _,[]=>true
  | b,s::r=>inB s.Id 0 255 && (inB s.Ready 0 1000000 && (dueOk s && (inB s.Need 1 100 && (idFree s.Id b && reqsFrom (b++[s]) r))))
def requestsOk(l:List Request):Bool:=decide (l.length≤12) && reqsFrom [] l
theorem drop_take_at{α:Type}{l:List α}{s:α}{j k:Nat}(hj:j<k)(h:l.drop j=s::l.drop (j+1)):(l.take k).drop j=s::(l.take k).drop (j+1):=by
  have h1:l[j]?=some s:=by have:=congrArg (fun m=>m[0]?) h;simpa using this
  have h2:(l.take k)[j]?=some s:=by rw[List.getElem?_take,if_pos hj,h1]
  obtain⟨h3,h4⟩:=List.getElem?_eq_some_iff.1 h2
  rw[List.drop_eq_getElem_cons h3,h4]
theorem due_cases(R:Int):∃ M,min 1000000 (R+2000)=M∧(M=R+2000∧R+2000<1000000∨M=1000000∧1000000≤R+2000) :=
  ⟨_,rfl,by omega⟩
set_option maxRecDepth 100000 in
set_option maxHeartbeats 2000000 in
theorem c_sRequestsOk{a:Option Addr}{n c:Nat}{l:List Request}{w:World}(hs:Sl encRequest w a l:=by first|assumption|(apply Sl.to<;>first|assumption|infer_instance)|omega)(hn:l.length=n:=by first|assumption|(apply Sl.to<;>first|assumption|infer_instance)|omega)(hm:n≤4611686018427387904:=by first|assumption|(apply Sl.to<;>first|assumption|infer_instance)|omega) :
    Calls Tryz.prog 146 #[.slice a n c] w (Gives w (.bool (requestsOk l))):=by
  have HP:=lH (show requestsOk l=(decide (n≤12) && reqsFrom [] l)by rw[requestsOk,hn])
  go_enter Tryz.func146,Tryz.ntmps146
  go_wp2_with (first|((with_reducible refine wp_region_later (by kernel_rfl) (by kernel_rfl) ?_);(repeat(first|go_big_quiet_step (first|fail)));refine wpQuiet_nil ?_;rintro _ ⟨x,rfl⟩))
  go_loopw [3] (fun v wr=>∃ k:Nat,v=.int .i64 k∧k≤n∧Hid (reqsFrom (l.take k) (l.drop k)=reqsFrom [] l)∧∃ x:Later w,wr=x.w) (fun v _=>(n - intOf v).toNat)
  case atStart=>exact⟨0,rfl,by omega,rfl,Later.here w,rfl⟩
  case round =>
    obtain⟨k,rfl,hk,hf,x0,rfl⟩:=hrel
    by_cases h:k<n
    · obtain⟨b,off,s,rfl,hb,hd,h0,h1,h2,h3⟩:=hs.request (show k<l.length by omega)
      cases c1:inB s.Id 0 255
      · go_wp2_with (first|((with_reducible refine wp_region_later (by kernel_rfl) (by kernel_rfl) ?_);(repeat(first|go_big_quiet_step (first|(go_at_call 151;exact Gives.quiet (c_sl01In)))|simp only[c1]));refine wpQuiet_nil ?_;rintro _ ⟨x,rfl⟩)|(go_at_call 151;refine(c_sl01In).mono ?_;rintro _ _ ⟨rfl,x,rfl⟩))
        go_ret
        exact Gives.mk (by have:=hf.out;rw[hd.out,reqsFrom,c1]at this;rw[HP.out,← this];simp)
      cases c2:inB s.Ready 0 1000000
      · go_wp2_with (first|((with_reducible refine wp_region_later (by kernel_rfl) (by kernel_rfl) ?_);(repeat(first|go_big_quiet_step (first|(go_at_call 151;exact Gives.quiet (c_sl01In)))|simp only[c1]|simp only[c2]));refine wpQuiet_nil ?_;rintro _ ⟨x,rfl⟩)|(go_at_call 151;refine(c_sl01In).mono ?_;rintro _ _ ⟨rfl,x,rfl⟩))
        go_ret
        exact Gives.mk (by have:=hf.out;rw[hd.out,reqsFrom,c2]at this;rw[HP.out,← this];simp)
      have hR:=inB_iff.1 c2
      obtain⟨M,hM,hmm⟩:=due_cases s.Ready
      have HM:=lH hM;clear hM
      cases c3:inB s.Deadline s.Ready M
      · have hdue:dueOk s=false:=by rw[dueOk,HM.out,c3]
        have HD:=lH hdue;clear hdue HM
        rcases hmm with⟨rfl,hmm⟩|⟨rfl,hmm⟩
        all_goals
          go_wp2_with (first|((with_reducible refine wp_region_later (by kernel_rfl) (by kernel_rfl) ?_);(repeat(first|go_big_quiet_step (first|(go_at_call 151;exact Gives.quiet (c_sl01In)))|simp only[c1]|simp only[c2]|simp only[c3]));refine wpQuiet_nil ?_;rintro _ ⟨x,rfl⟩)|(go_at_call 151;refine(c_sl01In).mono ?_;rintro _ _ ⟨rfl,x,rfl⟩))
          go_ret
          exact Gives.mk (by have:=hf.out;rw[hd.out,reqsFrom,HD.out]at this;rw[HP.out,← this];simp)
      have hdue:dueOk s=true:=by rw[dueOk,HM.out,c3]
      have HD:=lH hdue;clear hdue HM
      cases c4:inB s.Need 1 100
      · rcases hmm with⟨rfl,hmm⟩|⟨rfl,hmm⟩
        all_goals
          go_wp2_with (first|((with_reducible refine wp_region_later (by kernel_rfl) (by kernel_rfl) ?_);(repeat(first|go_big_quiet_step (first|(go_at_call 151;exact Gives.quiet (c_sl01In)))|simp only[c1]|simp only[c2]|simp only[c3]|simp only[c4]));refine wpQuiet_nil ?_;rintro _ ⟨x,rfl⟩)|(go_at_call 151;refine(c_sl01In).mono ?_;rintro _ _ ⟨rfl,x,rfl⟩))
          go_ret
          exact Gives.mk (by have:=hf.out;rw[hd.out,reqsFrom,c4]at this;rw[HP.out,← this];simp)
      rcases hmm with⟨rfl,hmm⟩|⟨rfl,hmm⟩
      all_goals
        go_wp2_with (first|((with_reducible refine wp_region_later (by kernel_rfl) (by kernel_rfl) ?_);(repeat(first|go_big_quiet_step (first|(go_at_call 151;exact Gives.quiet (c_sl01In)))|simp only[c1]|simp only[c2]|simp only[c3]|simp only[c4]));refine wpQuiet_nil ?_;rintro _ ⟨x,rfl⟩)|(go_at_call 151;refine(c_sl01In).mono ?_;rintro _ _ ⟨rfl,x,rfl⟩))
        go_loopw [5] (fun v wi=>∃ j:Nat,v=.int .i64 j∧j≤k∧Hid (idFree s.Id ((l.take k).drop j)=idFree s.Id (l.take k))∧∃ y:Later (x0.w.alloc (.cells #[.int .i64 s.Id,.int .i64 s.Ready,.int .i64 s.Deadline,.int .i64 s.Need] 145)),wi=y.w) (fun v _=>(k - intOf v).toNat)
        case atStart=>exact⟨0,rfl,by omega,rfl,Later.of⟩
        case round =>
          obtain⟨j,rfl,hj,hg,y,rfl⟩:=hrel
          by_cases hjk:j<k
          · obtain⟨b',off',s',hbo,hb',hd',g0,g1,g2,g3⟩:=hs.request (show j<l.length by omega)
            simp only[Option.some.injEq,Addr.mk.injEq,and_true]at hbo
            obtain⟨rfl,rfl⟩:=hbo
            cases c5:(s'.Id == s.Id)
            · go_wp2_with (first|((with_reducible refine wp_region_later (by kernel_rfl) (by kernel_rfl) ?_);(repeat(first|go_big_quiet_step (first|fail)|simp only[c5]));refine wpQuiet_nil ?_;rintro _ ⟨x,rfl⟩))
              go_roundw
              case rel=>exact⟨j+1,by go_num,by omega,by have:=hg.out;rw[drop_take_at hjk hd'.out,idFree,c5]at this;exact this,Later.of⟩
              case measure=>simp[intOf];omega
            · go_wp2_with (first|((with_reducible refine wp_region_later (by kernel_rfl) (by kernel_rfl) ?_);(repeat(first|go_big_quiet_step (first|fail)|simp only[c5]));refine wpQuiet_nil ?_;rintro _ ⟨x,rfl⟩))
              go_ret
              exact Gives.mk (by have:=hf.out;have h9:=hg.out;rw[drop_take_at hjk hd'.out,idFree,c5]at h9;rw[hd.out,reqsFrom,← h9]at this;rw[HP.out,← this];simp)
          · go_wp2_with (first|((with_reducible refine wp_region_later (by kernel_rfl) (by kernel_rfl) ?_);(repeat(first|go_big_quiet_step (first|fail)));refine wpQuiet_nil ?_;rintro _ ⟨x,rfl⟩))
            go_roundw
            case rel =>
              have h9:=hg.out
              rw[List.drop_of_length_le (by simp;omega)]at h9
              exact⟨k+1,by go_num,by omega,by have:=hf.out;rw[hd.out,reqsFrom,c1,c2,HD.out,c4,← h9,idFree]at this;rw[take_snoc' hd.out];exact this,Later.of⟩
            case measure=>simp[intOf];omega
    · go_wp2_with (first|((with_reducible refine wp_region_later (by kernel_rfl) (by kernel_rfl) ?_);(repeat(first|go_big_quiet_step (first|fail)));refine wpQuiet_nil ?_;rintro _ ⟨x,rfl⟩))
      go_ret
      exact Gives.mk (by have:=hf.out;rw[List.drop_of_length_le (by omega),reqsFrom]at this;rw[HP.out,← this];simp;omega)
set_option maxRecDepth 100000 in
set_option maxHeartbeats 2000000 in
theorem c_iRequestsOk{a:Option Addr}{n c:Nat}{l:List Request}{w:World}(hs:Sl encRequest w a l:=by first|assumption|(apply Sl.to<;>first|assumption|infer_instance)|omega)(hn:l.length=n:=by first|assumption|(apply Sl.to<;>first|assumption|infer_instance)|omega)(hnc:n≤c:=by first|assumption|(apply Sl.to<;>first|assumption|infer_instance)|omega)(hm:n≤4611686018427387904:=by first|assumption|(apply Sl.to<;>first|assumption|infer_instance)|omega) :
    Calls Tryz.prog 130 #[.slice a n c] w (Gives w (.bool (requestsOk l))):=by
  have HP:=lH (show requestsOk l=(decide (n≤12) && reqsFrom [] l)by rw[requestsOk,hn])
  by_cases hc:12<n
  · go_enter Tryz.func130,Tryz.ntmps130
    go_wp2_with (first|((with_reducible refine wp_region_later (by kernel_rfl) (by kernel_rfl) ?_);(repeat(first|go_big_quiet_step (first|fail)));refine wpQuiet_nil ?_;rintro _ ⟨x,rfl⟩))
    go_ret
    exact Gives.mk (by rw[HP.out];have:decide (n≤12)=false:=by simp;omega
                       rw[this];rfl)
  have hcc:decide (n≤12)=true:=by simp;omega
  go_enter Tryz.func130,Tryz.ntmps130
  go_wp2_with (first|((with_reducible refine wp_region_later (by kernel_rfl) (by kernel_rfl) ?_);(repeat(first|go_big_quiet_step (first|fail)));refine wpQuiet_nil ?_;rintro _ ⟨x,rfl⟩))
  go_loopw [12] (fun v wr=>∃ k:Nat,v=.int .i64 k∧k≤n∧Hid (reqsFrom (l.take k) (l.drop k)=reqsFrom [] l)∧∃ x:Later w,wr=x.w) (fun v _=>(n - intOf v).toNat)
  case atStart=>exact⟨0,rfl,by omega,rfl,Later.here w,rfl⟩
  case round =>
    obtain⟨k,rfl,hk,hf,x0,rfl⟩:=hrel
    by_cases h:k<n
    · obtain⟨b,off,s,rfl,hb,hd,h0,h1,h2,h3⟩:=hs.request (show k<l.length by omega)
      cases c1:inB s.Id 0 255
      · go_wp2_with (first|((with_reducible refine wp_region_later (by kernel_rfl) (by kernel_rfl) ?_);(repeat(first|go_big_quiet_step (first|(go_at_call 127;exact Gives.quiet (c_ibetween)))|simp only[c1]));refine wpQuiet_nil ?_;rintro _ ⟨x,rfl⟩)|(go_at_call 127;refine(c_ibetween).mono ?_;rintro _ _ ⟨rfl,x,rfl⟩))
        go_ret
        exact Gives.mk (by have:=hf.out;rw[hd.out,reqsFrom,c1]at this;rw[HP.out,← this];simp)
      cases c2:inB s.Ready 0 1000000
      · go_wp2_with (first|((with_reducible refine wp_region_later (by kernel_rfl) (by kernel_rfl) ?_);(repeat(first|go_big_quiet_step (first|(go_at_call 127;exact Gives.quiet (c_ibetween)))|simp only[c1]|simp only[c2]));refine wpQuiet_nil ?_;rintro _ ⟨x,rfl⟩)|(go_at_call 127;refine(c_ibetween).mono ?_;rintro _ _ ⟨rfl,x,rfl⟩))
        go_ret
        exact Gives.mk (by have:=hf.out;rw[hd.out,reqsFrom,c2]at this;rw[HP.out,← this];simp)
      cases c4:inB s.Need 1 100
      · go_wp2_with (first|((with_reducible refine wp_region_later (by kernel_rfl) (by kernel_rfl) ?_);(repeat(first|go_big_quiet_step (first|(go_at_call 127;exact Gives.quiet (c_ibetween)))|simp only[c1]|simp only[c2]|simp only[c4]));refine wpQuiet_nil ?_;rintro _ ⟨x,rfl⟩)|(go_at_call 127;refine(c_ibetween).mono ?_;rintro _ _ ⟨rfl,x,rfl⟩))
        go_ret
        exact Gives.mk (by have:=hf.out;rw[hd.out,reqsFrom,c4]at this;rw[HP.out,← this];simp)
      have hR:=inB_iff.1 c2
      obtain⟨M,hM,hmm⟩:=due_cases s.Ready
      have HM:=lH hM;clear hM
      cases c3:inB s.Deadline s.Ready M
      · have hdue:dueOk s=false:=by rw[dueOk,HM.out,c3]
        have HD:=lH hdue;clear hdue HM
        rcases hmm with⟨rfl,hmm⟩|⟨rfl,hmm⟩
        all_goals
          go_wp2_with (first|((with_reducible refine wp_region_later (by kernel_rfl) (by kernel_rfl) ?_);(repeat(first|go_big_quiet_step (first|(go_at_call 127;exact Gives.quiet (c_ibetween)))|simp only[c1]|simp only[c2]|simp only[c4]|simp only[c3]));refine wpQuiet_nil ?_;rintro _ ⟨x,rfl⟩)|(go_at_call 127;refine(c_ibetween).mono ?_;rintro _ _ ⟨rfl,x,rfl⟩))
          go_ret
          exact Gives.mk (by have:=hf.out;rw[hd.out,reqsFrom,HD.out]at this;rw[HP.out,← this];simp)
      have hdue:dueOk s=true:=by rw[dueOk,HM.out,c3]
      have HD:=lH hdue;clear hdue HM
      rcases hmm with⟨rfl,hmm⟩|⟨rfl,hmm⟩
      all_goals
        go_wp2_with (first|((with_reducible refine wp_region_later (by kernel_rfl) (by kernel_rfl) ?_);(repeat(first|go_big_quiet_step (first|(go_at_call 127;exact Gives.quiet (c_ibetween)))|simp only[c1]|simp only[c2]|simp only[c3]|simp only[c4]));refine wpQuiet_nil ?_;rintro _ ⟨x,rfl⟩)|(go_at_call 127;refine(c_ibetween).mono ?_;rintro _ _ ⟨rfl,x,rfl⟩))
        go_loopw [47] (fun v wi=>∃ j:Nat,v=.int .i64 j∧j≤k∧Hid (idFree s.Id ((l.take k).drop j)=idFree s.Id (l.take k))∧∃ y:Later (x0.w.alloc (.cells #[.int .i64 s.Id,.int .i64 s.Ready,.int .i64 s.Deadline,.int .i64 s.Need] 145)),wi=y.w) (fun v _=>(k - intOf v).toNat)
        case atStart=>exact⟨0,rfl,by omega,rfl,Later.of⟩
        case round =>
          obtain⟨j,rfl,hj,hg,y,rfl⟩:=hrel
          by_cases hjk:j<k
          · obtain⟨b',off',s',hbo,hb',hd',g0,g1,g2,g3⟩:=hs.request (show j<l.length by omega)
            simp only[Option.some.injEq,Addr.mk.injEq,and_true]at hbo
            obtain⟨rfl,rfl⟩:=hbo
            cases c5:(s'.Id == s.Id)
            · go_wp2_with (first|((with_reducible refine wp_region_later (by kernel_rfl) (by kernel_rfl) ?_);(repeat(first|go_big_quiet_step (first|fail)|simp only[c5]));refine wpQuiet_nil ?_;rintro _ ⟨x,rfl⟩))
              go_roundw
              case rel=>exact⟨j+1,by go_num,by omega,by have:=hg.out;rw[drop_take_at hjk hd'.out,idFree,c5]at this;exact this,Later.of⟩
              case measure=>simp[intOf];omega
            · go_wp2_with (first|((with_reducible refine wp_region_later (by kernel_rfl) (by kernel_rfl) ?_);(repeat(first|go_big_quiet_step (first|fail)|simp only[c5]));refine wpQuiet_nil ?_;rintro _ ⟨x,rfl⟩))
              go_ret
              exact Gives.mk (by have:=hf.out;have h9:=hg.out;rw[drop_take_at hjk hd'.out,idFree,c5]at h9;rw[hd.out,reqsFrom,← h9]at this;rw[HP.out,← this];simp)
          · go_wp2_with (first|((with_reducible refine wp_region_later (by kernel_rfl) (by kernel_rfl) ?_);(repeat(first|go_big_quiet_step (first|fail)));refine wpQuiet_nil ?_;rintro _ ⟨x,rfl⟩))
            go_roundw
            case rel =>
              have h9:=hg.out
              rw[List.drop_of_length_le (by simp;omega)]at h9
              exact⟨k+1,by go_num,by omega,by have:=hf.out;rw[hd.out,reqsFrom,c1,c2,HD.out,c4,← h9,idFree]at this;rw[take_snoc' hd.out];exact this,Later.of⟩
            case measure=>simp[intOf];omega
    · go_wp2_with (first|((with_reducible refine wp_region_later (by kernel_rfl) (by kernel_rfl) ?_);(repeat(first|go_big_quiet_step (first|fail)));refine wpQuiet_nil ?_;rintro _ ⟨x,rfl⟩))
      go_ret
      exact Gives.mk (by have:=hf.out;rw[List.drop_of_length_le (by omega),reqsFrom]at this;rw[HP.out,← this,hcc];rfl)
end Go.Proofs.YtbaffippdifbpaaGreat
