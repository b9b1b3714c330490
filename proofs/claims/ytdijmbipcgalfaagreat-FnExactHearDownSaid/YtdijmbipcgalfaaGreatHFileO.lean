/- The contracts on senders of files: their mirrors, their equality, their marks. No condition but on sizes. -/
import Derived.Test.YtdijmbipcgalfaaGreatHM0
namespace Go.Proofs.YtdijmbipcgalfaaGreat
set_option maxRecDepth 100000
set_option maxHeartbeats 2000000
set_option linter.unusedVariables false
open Go.ChangeShapes Go.WideShapes Go.ChangeAt Go.RowKit
variable {c n:Nat}{a:Option Addr}{w:World}
def X7(n:Int):Int:=if inB n 0 600=true then(n+23) / 24 else 0
theorem aU3(n:Int):0≤X7 n∧X7 n≤25:=by
  unfold X7
  split
  · rename_i h;have:=D8.1 h;omega
  · omega
def X2(lo hi:Int):List Int→Bool
  | []=>true
  | x::r=>inB x lo hi && X2 lo hi r
def am8(f:Int)(size:Int)(q:List Int):Bool:=inB f 0 7 && (decide (size≤600) && (decide ((q.length:Int)≤1000) && X2 (-1) (X7 size - 1) q))
theorem ax2{n:Int}:Calls Tryz.prog 327 #[I n] w (b5 w (I (X7 n))):=by
  cases h:inB n 0 600
  · go_enter Tryz.func327,Tryz.ntmps327
    go_wp2_with (first|(go_at_call 146;refine gm (d8) ?_;intro x))
    go_ret
    exact b5.mk (by simp[X7,h])
  · have⟨h1,h2⟩:=D8.1 h
    go_enter Tryz.func327,Tryz.ntmps327
    go_wp2_with (first|(go_at_call 146;refine gm (d8) ?_;intro x))
    go_ret
    exact b5.mk (by simp[X7,h];omega)
theorem ak4{n:Int}:Calls Tryz.prog 319 #[I n] w (b5 w (I (X7 n))):=by
  cases h:inB n 0 600
  · go_enter Tryz.func319,Tryz.ntmps319
    go_wp2_with (first|(go_at_call 101;refine gm (f5) ?_;intro x))
    go_ret
    exact b5.mk (by simp[X7,h])
  · have⟨h1,h2⟩:=D8.1 h
    go_enter Tryz.func319,Tryz.ntmps319
    go_wp2_with (first|(go_at_call 101;refine gm (f5) ?_;intro x))
    go_ret
    exact b5.mk (by simp[X7,h];omega)
theorem ac7{lo hi:Int}{l:List Int}(hs:Sl ae0 w a l:=by exact sd)(hn:l.length=n:=by exact sd)(hm:n≤4611686018427387904:=by exact sd) :
    Calls Tryz.prog 325 #[.slice a n c,I lo,I hi] w (b5 w (.bool (X2 lo hi l))):=by
  go_enter Tryz.func325,Tryz.ntmps325
  go_wp2_with (fail)
  go_loopw [11] (fun v wr=>∃ k:Nat,v=I k∧k≤n∧Hid (X2 lo hi (l.drop k)=X2 lo hi l)∧∃ x:b7 w,wr=x.w) (fun v _=>(n - intOf v).toNat)
  case atStart=>exact⟨0,rfl,by omega,rfl,b7.of⟩
  case round =>
    obtain⟨k,rfl,hk,hf,x,rfl⟩:=hrel
    by_cases h:k<n
    · obtain⟨b,off,s,rfl,hb,hd,h0⟩:=hs.int (show k<l.length by omega)
      cases c1:inB s lo hi
      · go_wp2_with (first|(go_at_call 146;refine gm (d8) ?_;intro x))
        go_ret
        exact b5.mk (by have:=hf.out;rw[hd.out,X2,c1]at this;rw[← this];rfl)
      · go_wp2_with (first|(go_at_call 146;refine gm (d8) ?_;intro x))
        go_roundw
        case rel=>exact⟨k+1,by go_num,by omega,by have:=hf.out;rw[hd.out,X2,c1]at this;exact this,b7.of⟩
        case measure=>simp[intOf];omega
    · go_wp2_with (fail)
      go_ret
      exact b5.mk (by have:=hf.out;rw[List.drop_of_length_le om,X2]at this;rw[← this];rfl)
theorem bo2{f:Int}{s:ByteArray}{d:Bool}{q:List Int}(hs:Sl ae0 w a q)(hn:q.length=n)(hm:n≤4611686018427387904)(hsz:s.size≤100000000) :
    Calls Tryz.prog 265 #[.agg #[I f,.string s,.slice a n c,.bool d]] w (b5 w (.bool (am8 f s.size q))):=by
  have HF:=lH (show am8 f s.size q=(inB f 0 7 && (decide ((s.size:Int)≤600) && (decide ((n:Int)≤1000) && X2 (-1) (X7 s.size - 1) q)))by rw[am8,hn])
  have hc:=aU3 s.size
  cases c1:inB f 0 7
  · go_enter Tryz.func265,Tryz.ntmps265
    go_wp2_with (first|((with_reducible refine rl ?_);(repeat(first|go_big_quiet_step (first|(go_at_call 146;exact b5.quiet (d8)))|simp only[c1]));refine wpQuiet_nil ?_;intro x)|(go_at_call 146;refine gm (d8) ?_;intro x))
    go_ret
    exact b5.mk (by rw[HF.out,c1];rfl)
  by_cases h2:600<s.size
  · go_enter Tryz.func265,Tryz.ntmps265
    go_wp2_with (first|((with_reducible refine rl ?_);(repeat(first|go_big_quiet_step (first|(go_at_call 146;exact b5.quiet (d8)))|simp only[c1]));refine wpQuiet_nil ?_;intro x)|(go_at_call 146;refine gm (d8) ?_;intro x))
    go_ret
    exact b5.mk (by rw[HF.out];have:decide ((s.size:Int)≤600)=false:=by simp;omega
                    simp[this])
  by_cases h3:1000<n
  · go_enter Tryz.func265,Tryz.ntmps265
    go_wp2_with (first|((with_reducible refine rl ?_);(repeat(first|go_big_quiet_step (first|(go_at_call 146;exact b5.quiet (d8)))|simp only[c1]));refine wpQuiet_nil ?_;intro x)|(go_at_call 146;refine gm (d8) ?_;intro x))
    go_ret
    exact b5.mk (by rw[HF.out];have:decide ((n:Int)≤1000)=false:=by simp;omega
                    simp[this])
  · have d2:decide ((s.size:Int)≤600)=true:=by simp;omega
    have d3:decide ((n:Int)≤1000)=true:=by simp;omega
    have HD:=lH (And.intro d2 d3);clear d2 d3
    go_enter Tryz.func265,Tryz.ntmps265
    go_wp2_with (first|((with_reducible refine rl ?_);(repeat(first|go_big_quiet_step (first|(go_at_call 146;exact b5.quiet (d8))|(go_at_call 327;exact b5.quiet (ax2))|(go_at_call 325;exact b5.quiet (ac7)))|simp only[c1]));refine wpQuiet_nil ?_;intro x)|(go_at_call 146;refine gm (d8) ?_;intro x)|(go_at_call 327;refine gm (ax2) ?_;intro x)|(go_at_call 325;refine gm (ac7) ?_;intro x))
    go_ret
    exact b5.mk (by rw[HF.out,c1,HD.out.1,HD.out.2];rfl)
theorem bp2{f:Int}{s:ByteArray}{d:Bool}{q:List Int}(hs:Sl ae0 w a q)(hn:q.length=n)(hm:n≤4611686018427387904)(hsz:s.size≤100000000) :
    Calls Tryz.prog 237 #[.agg #[I f,.string s,.slice a n c,.bool d]] w (b5 w (.bool (am8 f s.size q))):=by
  have HF:=lH (show am8 f s.size q=(inB f 0 7 && (decide ((s.size:Int)≤600) && (decide ((n:Int)≤1000) && X2 (-1) (X7 s.size - 1) q)))by rw[am8,hn])
  have hc:=aU3 s.size
  go_enter Tryz.func237,Tryz.ntmps237
  go_wp2_with (first|((with_reducible refine rl ?_);refine rq ?_;intro x))
  go_loopw [3] (fun v wr=>∃ k:Nat,v=I k∧k≤n∧Hid (X2 (-1) (X7 s.size - 1) (q.drop k)=X2 (-1) (X7 s.size - 1) q)∧∃ x:b7 (w.alloc (.cells #[I f,.string s,.slice a n c,.bool d] 183)),wr=x.w) (fun v _=>(n - intOf v).toNat)
  case atStart=>exact⟨0,rfl,by omega,rfl,b7.of⟩
  case round =>
    obtain⟨k,rfl,hk,hf,x,rfl⟩:=hrel
    by_cases h:k<n
    · obtain⟨b,off,y,rfl,hb,hd,h0⟩:=hs.int (show k<q.length by omega)
      cases c1:inB y (-1) (X7 s.size - 1)
      · go_wp2_with (first|((with_reducible refine rl ?_);(repeat(first|go_big_quiet_step (first|(go_at_call 319;exact b5.quiet (ak4))|(go_at_call 101;exact b5.quiet (f5)))|simp only[c1]));refine wpQuiet_nil ?_;intro x)|(go_at_call 319;refine gm (ak4) ?_;intro x)|(go_at_call 101;refine gm (f5) ?_;intro x))
        go_ret
        exact b5.mk (by have:=hf.out;rw[hd.out,X2,c1]at this;rw[HF.out,← this];simp)
      · go_wp2_with (first|((with_reducible refine rl ?_);(repeat(first|go_big_quiet_step (first|(go_at_call 319;exact b5.quiet (ak4))|(go_at_call 101;exact b5.quiet (f5)))|simp only[c1]));refine wpQuiet_nil ?_;intro x)|(go_at_call 319;refine gm (ak4) ?_;intro x)|(go_at_call 101;refine gm (f5) ?_;intro x))
        go_roundw
        case rel=>exact⟨k+1,by go_num,by omega,by have:=hf.out;rw[hd.out,X2,c1]at this;exact this,b7.of⟩
        case measure=>simp[intOf];omega
    · have hf':=hf.out
      rw[List.drop_of_length_le om,X2]at hf'
      have HA:=lH hf';clear hf hf'
      cases c1:inB f 0 7
      · go_wp2_with (first|((with_reducible refine rl ?_);(repeat(first|go_big_quiet_step (first|(go_at_call 101;exact b5.quiet (f5)))|simp only[c1]));refine wpQuiet_nil ?_;intro x)|(go_at_call 101;refine gm (f5) ?_;intro x))
        go_ret
        exact b5.mk (by rw[HF.out,c1];rfl)
      by_cases h2:600<s.size
      · go_wp2_with (first|((with_reducible refine rl ?_);(repeat(first|go_big_quiet_step (first|(go_at_call 101;exact b5.quiet (f5)))|simp only[c1]));refine wpQuiet_nil ?_;intro x)|(go_at_call 101;refine gm (f5) ?_;intro x))
        go_ret
        exact b5.mk (by rw[HF.out];have:decide ((s.size:Int)≤600)=false:=by simp;omega
                        simp[this])
      by_cases h3:1000<n
      · go_wp2_with (first|((with_reducible refine rl ?_);(repeat(first|go_big_quiet_step (first|(go_at_call 101;exact b5.quiet (f5)))|simp only[c1]));refine wpQuiet_nil ?_;intro x)|(go_at_call 101;refine gm (f5) ?_;intro x))
        go_ret
        exact b5.mk (by rw[HF.out];have:decide ((n:Int)≤1000)=false:=by simp;omega
                        simp[this])
      · go_wp2_with (first|((with_reducible refine rl ?_);(repeat(first|go_big_quiet_step (first|(go_at_call 101;exact b5.quiet (f5)))|simp only[c1]));refine wpQuiet_nil ?_;intro x)|(go_at_call 101;refine gm (f5) ?_;intro x))
        go_ret
        exact b5.mk (by rw[HF.out,c1,← HA.out];simp;omega)
