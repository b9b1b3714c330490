/- The contracts on senders of files: their mirrors, their equality, their marks. No condition but on sizes. -/
import Derived.Test.YtdoilejecjaldaaGreatHM0
namespace Go.Proofs.YtdoilejecjaldaaGreat
set_option maxRecDepth 100000
set_option maxHeartbeats 2000000
set_option linter.unusedVariables false
open Go.ChangeShapes Go.WideShapes Go.ChangeAt Go.RowKit
def aX2(w:World)(f:Int)(s:ByteArray)(q:List Int)(d:Bool):Ending→World→Prop:=fun e w' =>
  ∃ a c,e=.returned (.agg #[.int .i64 f,.string s,.slice a q.length c,.bool d])∧Own K0 3 1 w.heap.size w' a c q∧∃ x:b5 w,w'=x.w
def L7(n:Int):Int:=if inB n 0 600=true then(n+23) / 24 else 0
theorem ap9(n:Int):0≤L7 n∧L7 n≤25:=by
  unfold L7
  split
  · rename_i h;have:=D6.1 h;omega
  · omega
def N1(lo hi:Int):List Int→Bool
  | []=>true
  | x::r=>inB x lo hi && N1 lo hi r
def L8(f:Int)(size:Int)(q:List Int):Bool:=inB f 0 7 && (decide (size≤600) && (decide ((q.length:Int)≤1000) && N1 (-1) (L7 size - 1) q))
theorem ai6{n:Int}{w:World}:Calls Tryz.prog 218 #[.int .i64 n] w (b4 w (.int .i64 (L7 n))):=by
  cases h:inB n 0 600
  · go_enter Tryz.func218,Tryz.ntmps218
    go_wp2_with (first|(go_at_call 114;refine gm (d6) ?_;intro x))
    go_ret
    exact b4.mk (by simp[L7,h])
  · have⟨h1,h2⟩:=D6.1 h
    go_enter Tryz.func218,Tryz.ntmps218
    go_wp2_with (first|(go_at_call 114;refine gm (d6) ?_;intro x))
    go_ret
    exact b4.mk (by simp[L7,h];omega)
theorem S8{n:Int}{w:World}:Calls Tryz.prog 185 #[.int .i64 n] w (b4 w (.int .i64 (L7 n))):=by
  cases h:inB n 0 600
  · go_enter Tryz.func185,Tryz.ntmps185
    go_wp2_with (first|(go_at_call 73;refine gm (d8) ?_;intro x))
    go_ret
    exact b4.mk (by simp[L7,h])
  · have⟨h1,h2⟩:=D6.1 h
    go_enter Tryz.func185,Tryz.ntmps185
    go_wp2_with (first|(go_at_call 73;refine gm (d8) ?_;intro x))
    go_ret
    exact b4.mk (by simp[L7,h];omega)
theorem ac6{a:Option Addr}{n c:Nat}{lo hi:Int}{l:List Int}{w:World}(hs:Sl K0 w a l:=by exact sd)(hn:l.length=n:=by exact sd)(hm:n≤4611686018427387904:=by exact sd) :
    Calls Tryz.prog 252 #[.slice a n c,.int .i64 lo,.int .i64 hi] w (b4 w (.bool (N1 lo hi l))):=by
  go_enter Tryz.func252,Tryz.ntmps252
  go_wp2_with (fail)
  go_loopw [11] (fun v wr=>∃ k:Nat,v=.int .i64 k∧k≤n∧Hid (N1 lo hi (l.drop k)=N1 lo hi l)∧∃ x:b5 w,wr=x.w) (fun v _=>(n - intOf v).toNat)
  case atStart=>exact⟨0,rfl,by omega,rfl,b5.of⟩
  case round =>
    obtain⟨k,rfl,hk,hf,x,rfl⟩:=hrel
    by_cases h:k<n
    · obtain⟨b,off,s,rfl,hb,hd,h0⟩:=hs.int (show k<l.length by omega)
      cases c1:inB s lo hi
      · go_wp2_with (first|(go_at_call 114;refine gm (d6) ?_;intro x))
        go_ret
        exact b4.mk (by have:=hf.out;rw[hd.out,N1,c1]at this;rw[← this];rfl)
      · go_wp2_with (first|(go_at_call 114;refine gm (d6) ?_;intro x))
        go_roundw
        case rel=>exact⟨k+1,by go_num,by omega,by have:=hf.out;rw[hd.out,N1,c1]at this;exact this,b5.of⟩
        case measure=>simp[intOf];omega
    · go_wp2_with (fail)
      go_ret
      exact b4.mk (by have:=hf.out;rw[List.drop_of_length_le (by omega),N1]at this;rw[← this];rfl)
theorem ax4{a:Option Addr}{n c:Nat}{f:Int}{s:ByteArray}{d:Bool}{q:List Int}{w:World}(hs:Sl K0 w a q)(hn:q.length=n)(hm:n≤4611686018427387904)(hsz:s.size≤100000000) :
    Calls Tryz.prog 209 #[.agg #[.int .i64 f,.string s,.slice a n c,.bool d]] w (b4 w (.bool (L8 f s.size q))):=by
  have HF:=lH (show L8 f s.size q=(inB f 0 7 && (decide ((s.size:Int)≤600) && (decide ((n:Int)≤1000) && N1 (-1) (L7 s.size - 1) q)))by rw[L8,hn])
  have hc:=ap9 s.size
  cases c1:inB f 0 7
  · go_enter Tryz.func209,Tryz.ntmps209
    go_wp2_with (first|((with_reducible refine rl ?_);(repeat(first|go_big_quiet_step (first|(go_at_call 114;exact b4.quiet (d6)))|simp only[c1]));refine wpQuiet_nil ?_;intro x)|(go_at_call 114;refine gm (d6) ?_;intro x))
    go_ret
    exact b4.mk (by rw[HF.out,c1];rfl)
  by_cases h2:600<s.size
  · go_enter Tryz.func209,Tryz.ntmps209
    go_wp2_with (first|((with_reducible refine rl ?_);(repeat(first|go_big_quiet_step (first|(go_at_call 114;exact b4.quiet (d6)))|simp only[c1]));refine wpQuiet_nil ?_;intro x)|(go_at_call 114;refine gm (d6) ?_;intro x))
    go_ret
    exact b4.mk (by rw[HF.out];have:decide ((s.size:Int)≤600)=false:=by simp;omega
                    simp[this])
  by_cases h3:1000<n
  · go_enter Tryz.func209,Tryz.ntmps209
    go_wp2_with (first|((with_reducible refine rl ?_);(repeat(first|go_big_quiet_step (first|(go_at_call 114;exact b4.quiet (d6)))|simp only[c1]));refine wpQuiet_nil ?_;intro x)|(go_at_call 114;refine gm (d6) ?_;intro x))
    go_ret
    exact b4.mk (by rw[HF.out];have:decide ((n:Int)≤1000)=false:=by simp;omega
                    simp[this])
  · have d2:decide ((s.size:Int)≤600)=true:=by simp;omega
    have d3:decide ((n:Int)≤1000)=true:=by simp;omega
    have HD:=lH (And.intro d2 d3);clear d2 d3
    go_enter Tryz.func209,Tryz.ntmps209
    go_wp2_with (first|((with_reducible refine rl ?_);(repeat(first|go_big_quiet_step (first|(go_at_call 114;exact b4.quiet (d6))|(go_at_call 218;exact b4.quiet (ai6))|(go_at_call 252;exact b4.quiet (ac6)))|simp only[c1]));refine wpQuiet_nil ?_;intro x)|(go_at_call 114;refine gm (d6) ?_;intro x)|(go_at_call 218;refine gm (ai6) ?_;intro x)|(go_at_call 252;refine gm (ac6) ?_;intro x))
    go_ret
    exact b4.mk (by rw[HF.out,c1,HD.out.1,HD.out.2];rfl)
theorem ax6{a:Option Addr}{n c:Nat}{f:Int}{s:ByteArray}{d:Bool}{q:List Int}{w:World}(hs:Sl K0 w a q)(hn:q.length=n)(hm:n≤4611686018427387904)(hsz:s.size≤100000000) :
    Calls Tryz.prog 176 #[.agg #[.int .i64 f,.string s,.slice a n c,.bool d]] w (b4 w (.bool (L8 f s.size q))):=by
  have HF:=lH (show L8 f s.size q=(inB f 0 7 && (decide ((s.size:Int)≤600) && (decide ((n:Int)≤1000) && N1 (-1) (L7 s.size - 1) q)))by rw[L8,hn])
  have hc:=ap9 s.size
  go_enter Tryz.func176,Tryz.ntmps176
  go_wp2_with (first|((with_reducible refine rl ?_);refine rq ?_;intro x))
  go_loopw [3] (fun v wr=>∃ k:Nat,v=.int .i64 k∧k≤n∧Hid (N1 (-1) (L7 s.size - 1) (q.drop k)=N1 (-1) (L7 s.size - 1) q)∧∃ x:b5 (w.alloc (.cells #[.int .i64 f,.string s,.slice a n c,.bool d] 155)),wr=x.w) (fun v _=>(n - intOf v).toNat)
  case atStart=>exact⟨0,rfl,by omega,rfl,b5.of⟩
  case round =>
    obtain⟨k,rfl,hk,hf,x,rfl⟩:=hrel
    by_cases h:k<n
    · obtain⟨b,off,y,rfl,hb,hd,h0⟩:=hs.int (show k<q.length by omega)
      cases c1:inB y (-1) (L7 s.size - 1)
      · go_wp2_with (first|((with_reducible refine rl ?_);(repeat(first|go_big_quiet_step (first|(go_at_call 185;exact b4.quiet (S8))|(go_at_call 73;exact b4.quiet (d8)))|simp only[c1]));refine wpQuiet_nil ?_;intro x)|(go_at_call 185;refine gm (S8) ?_;intro x)|(go_at_call 73;refine gm (d8) ?_;intro x))
        go_ret
        exact b4.mk (by have:=hf.out;rw[hd.out,N1,c1]at this;rw[HF.out,← this];simp)
      · go_wp2_with (first|((with_reducible refine rl ?_);(repeat(first|go_big_quiet_step (first|(go_at_call 185;exact b4.quiet (S8))|(go_at_call 73;exact b4.quiet (d8)))|simp only[c1]));refine wpQuiet_nil ?_;intro x)|(go_at_call 185;refine gm (S8) ?_;intro x)|(go_at_call 73;refine gm (d8) ?_;intro x))
        go_roundw
        case rel=>exact⟨k+1,by go_num,by omega,by have:=hf.out;rw[hd.out,N1,c1]at this;exact this,b5.of⟩
        case measure=>simp[intOf];omega
    · have hf':=hf.out
      rw[List.drop_of_length_le (by omega),N1]at hf'
      have HA:=lH hf';clear hf hf'
      cases c1:inB f 0 7
      · go_wp2_with (first|((with_reducible refine rl ?_);(repeat(first|go_big_quiet_step (first|(go_at_call 73;exact b4.quiet (d8)))|simp only[c1]));refine wpQuiet_nil ?_;intro x)|(go_at_call 73;refine gm (d8) ?_;intro x))
        go_ret
        exact b4.mk (by rw[HF.out,c1];rfl)
      by_cases h2:600<s.size
      · go_wp2_with (first|((with_reducible refine rl ?_);(repeat(first|go_big_quiet_step (first|(go_at_call 73;exact b4.quiet (d8)))|simp only[c1]));refine wpQuiet_nil ?_;intro x)|(go_at_call 73;refine gm (d8) ?_;intro x))
        go_ret
        exact b4.mk (by rw[HF.out];have:decide ((s.size:Int)≤600)=false:=by simp;omega
                        simp[this])
      by_cases h3:1000<n
      · go_wp2_with (first|((with_reducible refine rl ?_);(repeat(first|go_big_quiet_step (first|(go_at_call 73;exact b4.quiet (d8)))|simp only[c1]));refine wpQuiet_nil ?_;intro x)|(go_at_call 73;refine gm (d8) ?_;intro x))
        go_ret
        exact b4.mk (by rw[HF.out];have:decide ((n:Int)≤1000)=false:=by simp;omega
                        simp[this])
      · go_wp2_with (first|((with_reducible refine rl ?_);(repeat(first|go_big_quiet_step (first|(go_at_call 73;exact b4.quiet (d8)))|simp only[c1]));refine wpQuiet_nil ?_;intro x)|(go_at_call 73;refine gm (d8) ?_;intro x))
        go_ret
        exact b4.mk (by rw[HF.out,c1,← HA.out];simp;omega)
