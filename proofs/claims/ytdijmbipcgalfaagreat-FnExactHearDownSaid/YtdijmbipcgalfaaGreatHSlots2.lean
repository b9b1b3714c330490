/- The contracts of SlotAt, SlotsOf and PairsOk. No condition but on sizes. -/
import Derived.Test.YtdijmbipcgalfaaGreatHM0
namespace Go.Proofs.YtdijmbipcgalfaaGreat
set_option maxRecDepth 100000
set_option maxHeartbeats 2000000
set_option linter.unusedVariables false
open Go.ChangeShapes Go.WideShapes Go.ChangeAt Go.RowKit
def ao8(o:Option X1)(p:X1):Bool:=match o with|none=>true|some q=>decide (q.Board<p.Board) && decide (q.True<p.True)
def L9:Option X1→List X1→Bool
  | _,[]=>true
  | o,p::r=>(inB p.Board 0 2000000 && inB p.True 0 1000000) && ao8 o p && L9 (some p) r
def Z9(l:List X1):Bool:=decide (l.length≤200) && L9 none l
def aE7{α:Type}(l:List α)(k:Nat):Option α:=if k=0 then none else l[k - 1]?
theorem an2{α:Type}{l r:List α}{k:Nat}{s:α}(h:l.drop k=s::r):aE7 l (k+1)=some s:=by
  have:=congrArg (fun m=>m[0]?) h
  simpa[aE7]using this
theorem aK4{a:Option Addr}{n c:Nat}{l:List X1}{w:World}(hs:Sl M4 w a l)(hn:l.length=n)(hm:n≤4611686018427387904) :
    Calls Tryz.prog 232 #[.slice a n c] w (b5 w (.bool (Z9 l))):=by
  have HP:=lH (show Z9 l=(decide (n≤200) && L9 none l)by rw[Z9,hn])
  go_enter Tryz.func232,Tryz.ntmps232
  go_wp2_with (first|((with_reducible refine rl ?_);refine rq ?_;intro x))
  go_loopw [3] (fun v wr=>∃ k:Nat,v=I k∧k≤n∧Hid (L9 (aE7 l k) (l.drop k)=L9 none l)∧∃ x:b7 w,wr=x.w) (fun v _=>(n - intOf v).toNat)
  case atStart=>exact⟨0,rfl,by omega,rfl,b7.here w,rfl⟩
  case round =>
    obtain⟨k,rfl,hk,hf,x,rfl⟩:=hrel
    by_cases h:k<n
    · obtain⟨b,off,s,rfl,hb,hd,h0,h1⟩:=hs.pair (show k<l.length by omega)
      cases c1:inB s.Board 0 2000000
      · go_wp2_with (first|((with_reducible refine rl ?_);(repeat(first|go_big_quiet_step (first|(go_at_call 101;exact b5.quiet (f5)))|simp only[c1]));refine wpQuiet_nil ?_;intro x)|(go_at_call 101;refine gm (f5) ?_;intro x))
        go_ret
        exact b5.mk (by have:=hf.out;rw[hd.out,L9,c1]at this;rw[HP.out,← this];simp)
      · cases c2:inB s.True 0 1000000
        · go_wp2_with (first|((with_reducible refine rl ?_);(repeat(first|go_big_quiet_step (first|(go_at_call 101;exact b5.quiet (f5)))|simp only[c1]|simp only[c2]));refine wpQuiet_nil ?_;intro x)|(go_at_call 101;refine gm (f5) ?_;intro x))
          go_ret
          exact b5.mk (by have:=hf.out;rw[hd.out,L9,c1,c2]at this;rw[HP.out,← this];simp)
        · by_cases hz:k=0
          · have hz':decide (0<(k:Int))=false:=by simp;omega
            have hz2:decide (0<k)=false:=by simp;omega
            have HZ:=lH hz;clear hz
            go_wp2_with (first|((with_reducible refine rl ?_);(repeat(first|go_big_quiet_step (first|(go_at_call 101;exact b5.quiet (f5)))|simp only[c1]|simp only[c2]|simp only[hz']|simp only[hz2]));refine wpQuiet_nil ?_;intro x)|(go_at_call 101;refine gm (f5) ?_;intro x))
            go_roundw
            case rel =>
              have:=hf.out
              rw[hd.out,L9,c1,c2,HZ.out]at this
              exact⟨k+1,by go_num,by omega,by rw[an2 hd.out,Hid,← this];simp[aE7,ao8,HZ.out],b7.of⟩
            case measure=>simp[intOf];omega
          · obtain⟨b',off',q,hbo,hb',hd',h2,h3⟩:=hs.pair (show k - 1<l.length by omega)
            simp only[Option.some.injEq,Addr.mk.injEq,and_true]at hbo
            obtain⟨rfl,rfl⟩:=hbo
            have hz':decide (0<(k:Int))=true:=by simp;omega
            have hz2:decide (0<k)=true:=by simp;omega
            have hp:aE7 l k=some q:=by have:=an2 hd'.out;rwa[show k - 1+1=k from by omega]at this
            cases c3:decide (s.Board≤q.Board)
            · cases c4:decide (s.True≤q.True)
              · go_wp2_with (first|((with_reducible refine rl ?_);(repeat(first|go_big_quiet_step (first|(go_at_call 101;exact b5.quiet (f5)))|simp only[c1]|simp only[c2]|simp only[hz']|simp only[hz2]|simp only[c3]|simp only[c4]));refine wpQuiet_nil ?_;intro x)|(go_at_call 101;refine gm (f5) ?_;intro x))
                go_roundw
                case rel =>
                  refine⟨k+1,by go_num,by omega,?_,b7.of⟩
                  have:=hf.out
                  rw[hd.out,L9,c1,c2,hp]at this
                  rw[an2 hd.out,Hid,← this]
                  simp at c3 c4
                  simp[ao8,c3,c4]
                case measure=>simp[intOf];omega
              · go_wp2_with (first|((with_reducible refine rl ?_);(repeat(first|go_big_quiet_step (first|(go_at_call 101;exact b5.quiet (f5)))|simp only[c1]|simp only[c2]|simp only[hz']|simp only[hz2]|simp only[c3]|simp only[c4]));refine wpQuiet_nil ?_;intro x)|(go_at_call 101;refine gm (f5) ?_;intro x))
                go_ret
                exact b5.mk (by have:=hf.out;rw[hd.out,L9,hp]at this;rw[HP.out,← this];simp at c4;simp[ao8];omega)
            · go_wp2_with (first|((with_reducible refine rl ?_);(repeat(first|go_big_quiet_step (first|(go_at_call 101;exact b5.quiet (f5)))|simp only[c1]|simp only[c2]|simp only[hz']|simp only[hz2]|simp only[c3]));refine wpQuiet_nil ?_;intro x)|(go_at_call 101;refine gm (f5) ?_;intro x))
              go_ret
              exact b5.mk (by have:=hf.out;rw[hd.out,L9,hp]at this;rw[HP.out,← this];simp at c3;simp[ao8];omega)
    · go_wp2_with (first|((with_reducible refine rl ?_);refine rq ?_;intro x))
      go_ret
      exact b5.mk (by have:=hf.out;rw[List.drop_of_length_le om,L9]at this;rw[HP.out,← this];simp;omega)
theorem aK3{a:Option Addr}{n c:Nat}{l:List X1}{w:World}(hs:Sl M4 w a l)(hn:l.length=n)(hm:n≤4611686018427387904) :
    Calls Tryz.prog 260 #[.slice a n c] w (b5 w (.bool (Z9 l))):=by
  have HP:=lH (show Z9 l=(decide (n≤200) && L9 none l)by rw[Z9,hn])
  by_cases hc:200<n
  · go_enter Tryz.func260,Tryz.ntmps260
    go_wp2_with (first|((with_reducible refine rl ?_);refine rq ?_;intro x))
    go_ret
    exact b5.mk (by rw[HP.out];have:decide (n≤200)=false:=by simp;omega
                    rw[this];rfl)
  have hcc:decide (n≤200)=true:=by simp;omega
  go_enter Tryz.func260,Tryz.ntmps260
  go_wp2_with (first|((with_reducible refine rl ?_);refine rq ?_;intro x))
  go_loopw [10] (fun v wr=>∃ k:Nat,v=I k∧k≤n∧Hid (L9 (aE7 l k) (l.drop k)=L9 none l)∧∃ x:b7 w,wr=x.w) (fun v _=>(n - intOf v).toNat)
  case atStart=>exact⟨0,rfl,by omega,rfl,b7.here w,rfl⟩
  case round =>
    obtain⟨k,rfl,hk,hf,x,rfl⟩:=hrel
    by_cases h:k<n
    · obtain⟨b,off,s,rfl,hb,hd,h0,h1⟩:=hs.pair (show k<l.length by omega)
      cases c1:inB s.Board 0 2000000
      · go_wp2_with (first|((with_reducible refine rl ?_);(repeat(first|go_big_quiet_step (first|(go_at_call 146;exact b5.quiet (d8)))|simp only[c1]));refine wpQuiet_nil ?_;intro x)|(go_at_call 146;refine gm (d8) ?_;intro x))
        go_ret
        exact b5.mk (by have:=hf.out;rw[hd.out,L9,c1]at this;rw[HP.out,← this];simp)
      · cases c2:inB s.True 0 1000000
        · go_wp2_with (first|((with_reducible refine rl ?_);(repeat(first|go_big_quiet_step (first|(go_at_call 146;exact b5.quiet (d8)))|simp only[c1]|simp only[c2]));refine wpQuiet_nil ?_;intro x)|(go_at_call 146;refine gm (d8) ?_;intro x))
          go_ret
          exact b5.mk (by have:=hf.out;rw[hd.out,L9,c1,c2]at this;rw[HP.out,← this];simp)
        · by_cases hz:k=0
          · have hz':decide (0<(k:Int))=false:=by simp;omega
            have hz2:decide (0<k)=false:=by simp;omega
            have HZ:=lH hz;clear hz
            go_wp2_with (first|((with_reducible refine rl ?_);(repeat(first|go_big_quiet_step (first|(go_at_call 146;exact b5.quiet (d8)))|simp only[c1]|simp only[c2]|simp only[hz']|simp only[hz2]));refine wpQuiet_nil ?_;intro x)|(go_at_call 146;refine gm (d8) ?_;intro x))
            go_roundw
            case rel =>
              have:=hf.out
              rw[hd.out,L9,c1,c2,HZ.out]at this
              exact⟨k+1,by go_num,by omega,by rw[an2 hd.out,Hid,← this];simp[aE7,ao8,HZ.out],b7.of⟩
            case measure=>simp[intOf];omega
          · obtain⟨b',off',q,hbo,hb',hd',h2,h3⟩:=hs.pair (show k - 1<l.length by omega)
            simp only[Option.some.injEq,Addr.mk.injEq,and_true]at hbo
            obtain⟨rfl,rfl⟩:=hbo
            have hz':decide (0<(k:Int))=true:=by simp;omega
            have hz2:decide (0<k)=true:=by simp;omega
            have hp:aE7 l k=some q:=by have:=an2 hd'.out;rwa[show k - 1+1=k from by omega]at this
            cases c3:decide (s.Board≤q.Board)
            · cases c4:decide (s.True≤q.True)
              · go_wp2_with (first|((with_reducible refine rl ?_);(repeat(first|go_big_quiet_step (first|(go_at_call 146;exact b5.quiet (d8)))|simp only[c1]|simp only[c2]|simp only[hz']|simp only[hz2]|simp only[c3]|simp only[c4]));refine wpQuiet_nil ?_;intro x)|(go_at_call 146;refine gm (d8) ?_;intro x))
                go_roundw
                case rel =>
                  refine⟨k+1,by go_num,by omega,?_,b7.of⟩
                  have:=hf.out
                  rw[hd.out,L9,c1,c2,hp]at this
                  rw[an2 hd.out,Hid,← this]
                  simp at c3 c4
                  simp[ao8,c3,c4]
                case measure=>simp[intOf];omega
              · go_wp2_with (first|((with_reducible refine rl ?_);(repeat(first|go_big_quiet_step (first|(go_at_call 146;exact b5.quiet (d8)))|simp only[c1]|simp only[c2]|simp only[hz']|simp only[hz2]|simp only[c3]|simp only[c4]));refine wpQuiet_nil ?_;intro x)|(go_at_call 146;refine gm (d8) ?_;intro x))
                go_ret
                exact b5.mk (by have:=hf.out;rw[hd.out,L9,hp]at this;rw[HP.out,← this];simp at c4;simp[ao8];omega)
            · go_wp2_with (first|((with_reducible refine rl ?_);(repeat(first|go_big_quiet_step (first|(go_at_call 146;exact b5.quiet (d8)))|simp only[c1]|simp only[c2]|simp only[hz']|simp only[hz2]|simp only[c3]));refine wpQuiet_nil ?_;intro x)|(go_at_call 146;refine gm (d8) ?_;intro x))
              go_ret
              exact b5.mk (by have:=hf.out;rw[hd.out,L9,hp]at this;rw[HP.out,← this];simp at c3;simp[ao8];omega)
    · go_wp2_with (first|((with_reducible refine rl ?_);refine rq ?_;intro x))
      go_ret
      exact b5.mk (by have:=hf.out;rw[List.drop_of_length_le om,L9]at this;rw[HP.out,← this,hcc];rfl)
