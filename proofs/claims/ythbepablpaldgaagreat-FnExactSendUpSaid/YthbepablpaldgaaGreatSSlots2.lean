/- The contracts of SlotAt, SlotsOf and PairsOk. No condition but on sizes. -/
import Derived.Test.YthbepablpaldgaaGreatSM0
namespace Go.Proofs.YthbepablpaldgaaGreat
set_option maxRecDepth 100000
set_option maxHeartbeats 2000000
set_option linter.unusedVariables false
open Go.ChangeShapes Go.WideShapes Go.ChangeAt Go.RowKit
def pairStep(o:Option Pair)(p:Pair):Bool:=match o with|none=>true|some q=>decide (q.Board<p.Board) && decide (q.True<p.True)
def pairsFrom:Option Pair→List Pair→Bool
  | _,[]=>true
  | o,p::r=>(inB p.Board 0 2000000 && inB p.True 0 1000000) && pairStep o p && pairsFrom (some p) r
def pairsOk(l:List Pair):Bool:=decide (l.length≤200) && pairsFrom none l
def prevAt{α:Type}(l:List α)(k:Nat):Option α:=if k=0 then none else l[k - 1]?
theorem prevAt_succ{α:Type}{l r:List α}{k:Nat}{s:α}(h:l.drop k=s::r):prevAt l (k+1)=some s:=by
  have:=congrArg (fun m=>m[0]?) h
  simpa[prevAt]using this
theorem c_sPairsOk{a:Option Addr}{n c:Nat}{l:List Pair}{w:World}(hs:Sl encPair w a l)(hn:l.length=n)(hm:n≤4611686018427387904) :
    Calls Tryz.prog 186 #[.slice a n c] w (Gives w (.bool (pairsOk l))):=by
  have HP:=lH (show pairsOk l=(decide (n≤200) && pairsFrom none l)by rw[pairsOk,hn])
  go_enter Tryz.func186,Tryz.ntmps186
  go_wp2_with (first|((with_reducible refine rl ?_);refine rq ?_;intro x))
  go_loopw [3] (fun v wr=>∃ k:Nat,v=.int .i64 k∧k≤n∧Hid (pairsFrom (prevAt l k) (l.drop k)=pairsFrom none l)∧∃ x:Later w,wr=x.w) (fun v _=>(n - intOf v).toNat)
  case atStart=>exact⟨0,rfl,by omega,rfl,Later.here w,rfl⟩
  case round =>
    obtain⟨k,rfl,hk,hf,x,rfl⟩:=hrel
    by_cases h:k<n
    · obtain⟨b,off,s,rfl,hb,hd,h0,h1⟩:=hs.pair (show k<l.length by omega)
      cases c1:inB s.Board 0 2000000
      · go_wp2_with (first|((with_reducible refine rl ?_);(repeat(first|go_big_quiet_step (first|(go_at_call 82;exact Gives.quiet (c_sl01In)))|simp only[c1]));refine wpQuiet_nil ?_;intro x)|(go_at_call 82;refine gm (c_sl01In) ?_;intro x))
        go_ret
        exact Gives.mk (by have:=hf.out;rw[hd.out,pairsFrom,c1]at this;rw[HP.out,← this];simp)
      · cases c2:inB s.True 0 1000000
        · go_wp2_with (first|((with_reducible refine rl ?_);(repeat(first|go_big_quiet_step (first|(go_at_call 82;exact Gives.quiet (c_sl01In)))|simp only[c1]|simp only[c2]));refine wpQuiet_nil ?_;intro x)|(go_at_call 82;refine gm (c_sl01In) ?_;intro x))
          go_ret
          exact Gives.mk (by have:=hf.out;rw[hd.out,pairsFrom,c1,c2]at this;rw[HP.out,← this];simp)
        · by_cases hz:k=0
          · have hz':decide (0<(k:Int))=false:=by simp;omega
            have hz2:decide (0<k)=false:=by simp;omega
            have HZ:=lH hz;clear hz
            go_wp2_with (first|((with_reducible refine rl ?_);(repeat(first|go_big_quiet_step (first|(go_at_call 82;exact Gives.quiet (c_sl01In)))|simp only[c1]|simp only[c2]|simp only[hz']|simp only[hz2]));refine wpQuiet_nil ?_;intro x)|(go_at_call 82;refine gm (c_sl01In) ?_;intro x))
            go_roundw
            case rel =>
              have:=hf.out
              rw[hd.out,pairsFrom,c1,c2,HZ.out]at this
              exact⟨k+1,by go_num,by omega,by rw[prevAt_succ hd.out,Hid,← this];simp[prevAt,pairStep,HZ.out],Later.of⟩
            case measure=>simp[intOf];omega
          · obtain⟨b',off',q,hbo,hb',hd',h2,h3⟩:=hs.pair (show k - 1<l.length by omega)
            simp only[Option.some.injEq,Addr.mk.injEq,and_true]at hbo
            obtain⟨rfl,rfl⟩:=hbo
            have hz':decide (0<(k:Int))=true:=by simp;omega
            have hz2:decide (0<k)=true:=by simp;omega
            have hp:prevAt l k=some q:=by have:=prevAt_succ hd'.out;rwa[show k - 1+1=k from by omega]at this
            cases c3:decide (s.Board≤q.Board)
            · cases c4:decide (s.True≤q.True)
              · go_wp2_with (first|((with_reducible refine rl ?_);(repeat(first|go_big_quiet_step (first|(go_at_call 82;exact Gives.quiet (c_sl01In)))|simp only[c1]|simp only[c2]|simp only[hz']|simp only[hz2]|simp only[c3]|simp only[c4]));refine wpQuiet_nil ?_;intro x)|(go_at_call 82;refine gm (c_sl01In) ?_;intro x))
                go_roundw
                case rel =>
                  refine⟨k+1,by go_num,by omega,?_,Later.of⟩
                  have:=hf.out
                  rw[hd.out,pairsFrom,c1,c2,hp]at this
                  rw[prevAt_succ hd.out,Hid,← this]
                  simp at c3 c4
                  simp[pairStep,c3,c4]
                case measure=>simp[intOf];omega
              · go_wp2_with (first|((with_reducible refine rl ?_);(repeat(first|go_big_quiet_step (first|(go_at_call 82;exact Gives.quiet (c_sl01In)))|simp only[c1]|simp only[c2]|simp only[hz']|simp only[hz2]|simp only[c3]|simp only[c4]));refine wpQuiet_nil ?_;intro x)|(go_at_call 82;refine gm (c_sl01In) ?_;intro x))
                go_ret
                exact Gives.mk (by have:=hf.out;rw[hd.out,pairsFrom,hp]at this;rw[HP.out,← this];simp at c4;simp[pairStep];omega)
            · go_wp2_with (first|((with_reducible refine rl ?_);(repeat(first|go_big_quiet_step (first|(go_at_call 82;exact Gives.quiet (c_sl01In)))|simp only[c1]|simp only[c2]|simp only[hz']|simp only[hz2]|simp only[c3]));refine wpQuiet_nil ?_;intro x)|(go_at_call 82;refine gm (c_sl01In) ?_;intro x))
              go_ret
              exact Gives.mk (by have:=hf.out;rw[hd.out,pairsFrom,hp]at this;rw[HP.out,← this];simp at c3;simp[pairStep];omega)
    · go_wp2_with (first|((with_reducible refine rl ?_);refine rq ?_;intro x))
      go_ret
      exact Gives.mk (by have:=hf.out;rw[List.drop_of_length_le (by omega),pairsFrom]at this;rw[HP.out,← this];simp;omega)
theorem c_iPairsOk{a:Option Addr}{n c:Nat}{l:List Pair}{w:World}(hs:Sl encPair w a l)(hn:l.length=n)(hm:n≤4611686018427387904) :
    Calls Tryz.prog 214 #[.slice a n c] w (Gives w (.bool (pairsOk l))):=by
  have HP:=lH (show pairsOk l=(decide (n≤200) && pairsFrom none l)by rw[pairsOk,hn])
  by_cases hc:200<n
  · go_enter Tryz.func214,Tryz.ntmps214
    go_wp2_with (first|((with_reducible refine rl ?_);refine rq ?_;intro x))
    go_ret
    exact Gives.mk (by rw[HP.out];have:decide (n≤200)=false:=by simp;omega
                       rw[this];rfl)
  have hcc:decide (n≤200)=true:=by simp;omega
  go_enter Tryz.func214,Tryz.ntmps214
  go_wp2_with (first|((with_reducible refine rl ?_);refine rq ?_;intro x))
  go_loopw [10] (fun v wr=>∃ k:Nat,v=.int .i64 k∧k≤n∧Hid (pairsFrom (prevAt l k) (l.drop k)=pairsFrom none l)∧∃ x:Later w,wr=x.w) (fun v _=>(n - intOf v).toNat)
  case atStart=>exact⟨0,rfl,by omega,rfl,Later.here w,rfl⟩
  case round =>
    obtain⟨k,rfl,hk,hf,x,rfl⟩:=hrel
    by_cases h:k<n
    · obtain⟨b,off,s,rfl,hb,hd,h0,h1⟩:=hs.pair (show k<l.length by omega)
      cases c1:inB s.Board 0 2000000
      · go_wp2_with (first|((with_reducible refine rl ?_);(repeat(first|go_big_quiet_step (first|(go_at_call 120;exact Gives.quiet (c_ibetween)))|simp only[c1]));refine wpQuiet_nil ?_;intro x)|(go_at_call 120;refine gm (c_ibetween) ?_;intro x))
        go_ret
        exact Gives.mk (by have:=hf.out;rw[hd.out,pairsFrom,c1]at this;rw[HP.out,← this];simp)
      · cases c2:inB s.True 0 1000000
        · go_wp2_with (first|((with_reducible refine rl ?_);(repeat(first|go_big_quiet_step (first|(go_at_call 120;exact Gives.quiet (c_ibetween)))|simp only[c1]|simp only[c2]));refine wpQuiet_nil ?_;intro x)|(go_at_call 120;refine gm (c_ibetween) ?_;intro x))
          go_ret
          exact Gives.mk (by have:=hf.out;rw[hd.out,pairsFrom,c1,c2]at this;rw[HP.out,← this];simp)
        · by_cases hz:k=0
          · have hz':decide (0<(k:Int))=false:=by simp;omega
            have hz2:decide (0<k)=false:=by simp;omega
            have HZ:=lH hz;clear hz
            go_wp2_with (first|((with_reducible refine rl ?_);(repeat(first|go_big_quiet_step (first|(go_at_call 120;exact Gives.quiet (c_ibetween)))|simp only[c1]|simp only[c2]|simp only[hz']|simp only[hz2]));refine wpQuiet_nil ?_;intro x)|(go_at_call 120;refine gm (c_ibetween) ?_;intro x))
            go_roundw
            case rel =>
              have:=hf.out
              rw[hd.out,pairsFrom,c1,c2,HZ.out]at this
              exact⟨k+1,by go_num,by omega,by rw[prevAt_succ hd.out,Hid,← this];simp[prevAt,pairStep,HZ.out],Later.of⟩
            case measure=>simp[intOf];omega
          · obtain⟨b',off',q,hbo,hb',hd',h2,h3⟩:=hs.pair (show k - 1<l.length by omega)
            simp only[Option.some.injEq,Addr.mk.injEq,and_true]at hbo
            obtain⟨rfl,rfl⟩:=hbo
            have hz':decide (0<(k:Int))=true:=by simp;omega
            have hz2:decide (0<k)=true:=by simp;omega
            have hp:prevAt l k=some q:=by have:=prevAt_succ hd'.out;rwa[show k - 1+1=k from by omega]at this
            cases c3:decide (s.Board≤q.Board)
            · cases c4:decide (s.True≤q.True)
              · go_wp2_with (first|((with_reducible refine rl ?_);(repeat(first|go_big_quiet_step (first|(go_at_call 120;exact Gives.quiet (c_ibetween)))|simp only[c1]|simp only[c2]|simp only[hz']|simp only[hz2]|simp only[c3]|simp only[c4]));refine wpQuiet_nil ?_;intro x)|(go_at_call 120;refine gm (c_ibetween) ?_;intro x))
                go_roundw
                case rel =>
                  refine⟨k+1,by go_num,by omega,?_,Later.of⟩
                  have:=hf.out
                  rw[hd.out,pairsFrom,c1,c2,hp]at this
                  rw[prevAt_succ hd.out,Hid,← this]
                  simp at c3 c4
                  simp[pairStep,c3,c4]
                case measure=>simp[intOf];omega
              · go_wp2_with (first|((with_reducible refine rl ?_);(repeat(first|go_big_quiet_step (first|(go_at_call 120;exact Gives.quiet (c_ibetween)))|simp only[c1]|simp only[c2]|simp only[hz']|simp only[hz2]|simp only[c3]|simp only[c4]));refine wpQuiet_nil ?_;intro x)|(go_at_call 120;refine gm (c_ibetween) ?_;intro x))
                go_ret
                exact Gives.mk (by have:=hf.out;rw[hd.out,pairsFrom,hp]at this;rw[HP.out,← this];simp at c4;simp[pairStep];omega)
            · go_wp2_with (first|((with_reducible refine rl ?_);(repeat(first|go_big_quiet_step (first|(go_at_call 120;exact Gives.quiet (c_ibetween)))|simp only[c1]|simp only[c2]|simp only[hz']|simp only[hz2]|simp only[c3]));refine wpQuiet_nil ?_;intro x)|(go_at_call 120;refine gm (c_ibetween) ?_;intro x))
              go_ret
              exact Gives.mk (by have:=hf.out;rw[hd.out,pairsFrom,hp]at this;rw[HP.out,← this];simp at c3;simp[pairStep];omega)
    · go_wp2_with (first|((with_reducible refine rl ?_);refine rq ?_;intro x))
      go_ret
      exact Gives.mk (by have:=hf.out;rw[List.drop_of_length_le (by omega),pairsFrom]at this;rw[HP.out,← this,hcc];rfl)
