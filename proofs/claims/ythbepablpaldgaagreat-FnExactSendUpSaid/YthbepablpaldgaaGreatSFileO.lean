/- The contracts on senders of files: their mirrors, their equality, their marks. No condition but on sizes. -/
import Derived.Test.YthbepablpaldgaaGreatSM0
namespace Go.Proofs.YthbepablpaldgaaGreat
set_option maxRecDepth 100000
set_option maxHeartbeats 2000000
set_option linter.unusedVariables false
open Go.ChangeShapes Go.WideShapes Go.ChangeAt Go.RowKit
def countSeg(n:Int):Int:=if inB n 0 600=true then(n+23) / 24 else 0
theorem countSeg_bd(n:Int):0≤countSeg n∧countSeg n≤25:=by
  unfold countSeg
  split
  · rename_i h;have:=inB_iff.1 h;omega
  · omega
def allB(lo hi:Int):List Int→Bool
  | []=>true
  | x::r=>inB x lo hi && allB lo hi r
def fileOutOk(f:Int)(size:Int)(q:List Int):Bool:=inB f 0 7 && (decide (size≤600) && (decide ((q.length:Int)≤1000) && allB (-1) (countSeg size - 1) q))
theorem c_iCountSegments{n:Int}{w:World}:Calls Tryz.prog 131 #[.int .i64 n] w (Gives w (.int .i64 (countSeg n))):=by
  cases h:inB n 0 600
  · go_enter Tryz.func131,Tryz.ntmps131
    go_wp2_with (first|(go_at_call 120;refine gm (c_ibetween) ?_;intro x))
    go_ret
    exact Gives.mk (by simp[countSeg,h])
  · have⟨h1,h2⟩:=inB_iff.1 h
    go_enter Tryz.func131,Tryz.ntmps131
    go_wp2_with (first|(go_at_call 120;refine gm (c_ibetween) ?_;intro x))
    go_ret
    exact Gives.mk (by simp[countSeg,h];omega)
theorem c_sCountSegments{n:Int}{w:World}:Calls Tryz.prog 92 #[.int .i64 n] w (Gives w (.int .i64 (countSeg n))):=by
  cases h:inB n 0 600
  · go_enter Tryz.func92,Tryz.ntmps92
    go_wp2_with (first|(go_at_call 82;refine gm (c_sl01In) ?_;intro x))
    go_ret
    exact Gives.mk (by simp[countSeg,h])
  · have⟨h1,h2⟩:=inB_iff.1 h
    go_enter Tryz.func92,Tryz.ntmps92
    go_wp2_with (first|(go_at_call 82;refine gm (c_sl01In) ?_;intro x))
    go_ret
    exact Gives.mk (by simp[countSeg,h];omega)
theorem c_iallBetween{a:Option Addr}{n c:Nat}{lo hi:Int}{l:List Int}{w:World}(hs:Sl encInt w a l:=by exact sd)(hn:l.length=n:=by exact sd)(hm:n≤4611686018427387904:=by exact sd) :
    Calls Tryz.prog 220 #[.slice a n c,.int .i64 lo,.int .i64 hi] w (Gives w (.bool (allB lo hi l))):=by
  go_enter Tryz.func220,Tryz.ntmps220
  go_wp2_with (fail)
  go_loopw [11] (fun v wr=>∃ k:Nat,v=.int .i64 k∧k≤n∧Hid (allB lo hi (l.drop k)=allB lo hi l)∧∃ x:Later w,wr=x.w) (fun v _=>(n - intOf v).toNat)
  case atStart=>exact⟨0,rfl,by omega,rfl,Later.of⟩
  case round =>
    obtain⟨k,rfl,hk,hf,x,rfl⟩:=hrel
    by_cases h:k<n
    · obtain⟨b,off,s,rfl,hb,hd,h0⟩:=hs.int (show k<l.length by omega)
      cases c1:inB s lo hi
      · go_wp2_with (first|(go_at_call 120;refine gm (c_ibetween) ?_;intro x))
        go_ret
        exact Gives.mk (by have:=hf.out;rw[hd.out,allB,c1]at this;rw[← this];rfl)
      · go_wp2_with (first|(go_at_call 120;refine gm (c_ibetween) ?_;intro x))
        go_roundw
        case rel=>exact⟨k+1,by go_num,by omega,by have:=hf.out;rw[hd.out,allB,c1]at this;exact this,Later.of⟩
        case measure=>simp[intOf];omega
    · go_wp2_with (fail)
      go_ret
      exact Gives.mk (by have:=hf.out;rw[List.drop_of_length_le (by omega),allB]at this;rw[← this];rfl)
theorem c_iFileOutOk{a:Option Addr}{n c:Nat}{f:Int}{s:ByteArray}{d:Bool}{q:List Int}{w:World}(hs:Sl encInt w a q)(hn:q.length=n)(hm:n≤4611686018427387904)(hsz:s.size≤100000000) :
    Calls Tryz.prog 132 #[.agg #[.int .i64 f,.string s,.slice a n c,.bool d]] w (Gives w (.bool (fileOutOk f s.size q))):=by
  have HF:=lH (show fileOutOk f s.size q=(inB f 0 7 && (decide ((s.size:Int)≤600) && (decide ((n:Int)≤1000) && allB (-1) (countSeg s.size - 1) q)))by rw[fileOutOk,hn])
  have hc:=countSeg_bd s.size
  cases c1:inB f 0 7
  · go_enter Tryz.func132,Tryz.ntmps132
    go_wp2_with (first|((with_reducible refine rl ?_);(repeat(first|go_big_quiet_step (first|(go_at_call 120;exact Gives.quiet (c_ibetween)))|simp only[c1]));refine wpQuiet_nil ?_;intro x)|(go_at_call 120;refine gm (c_ibetween) ?_;intro x))
    go_ret
    exact Gives.mk (by rw[HF.out,c1];rfl)
  by_cases h2:600<s.size
  · go_enter Tryz.func132,Tryz.ntmps132
    go_wp2_with (first|((with_reducible refine rl ?_);(repeat(first|go_big_quiet_step (first|(go_at_call 120;exact Gives.quiet (c_ibetween)))|simp only[c1]));refine wpQuiet_nil ?_;intro x)|(go_at_call 120;refine gm (c_ibetween) ?_;intro x))
    go_ret
    exact Gives.mk (by rw[HF.out];have:decide ((s.size:Int)≤600)=false:=by simp;omega
                       simp[this])
  by_cases h3:1000<n
  · go_enter Tryz.func132,Tryz.ntmps132
    go_wp2_with (first|((with_reducible refine rl ?_);(repeat(first|go_big_quiet_step (first|(go_at_call 120;exact Gives.quiet (c_ibetween)))|simp only[c1]));refine wpQuiet_nil ?_;intro x)|(go_at_call 120;refine gm (c_ibetween) ?_;intro x))
    go_ret
    exact Gives.mk (by rw[HF.out];have:decide ((n:Int)≤1000)=false:=by simp;omega
                       simp[this])
  · have d2:decide ((s.size:Int)≤600)=true:=by simp;omega
    have d3:decide ((n:Int)≤1000)=true:=by simp;omega
    have HD:=lH (And.intro d2 d3);clear d2 d3
    go_enter Tryz.func132,Tryz.ntmps132
    go_wp2_with (first|((with_reducible refine rl ?_);(repeat(first|go_big_quiet_step (first|(go_at_call 120;exact Gives.quiet (c_ibetween))|(go_at_call 131;exact Gives.quiet (c_iCountSegments))|(go_at_call 220;exact Gives.quiet (c_iallBetween)))|simp only[c1]));refine wpQuiet_nil ?_;intro x)|(go_at_call 120;refine gm (c_ibetween) ?_;intro x)|(go_at_call 131;refine gm (c_iCountSegments) ?_;intro x)|(go_at_call 220;refine gm (c_iallBetween) ?_;intro x))
    go_ret
    exact Gives.mk (by rw[HF.out,c1,HD.out.1,HD.out.2];rfl)
theorem c_sFileOutOk{a:Option Addr}{n c:Nat}{f:Int}{s:ByteArray}{d:Bool}{q:List Int}{w:World}(hs:Sl encInt w a q)(hn:q.length=n)(hm:n≤4611686018427387904)(hsz:s.size≤100000000) :
    Calls Tryz.prog 93 #[.agg #[.int .i64 f,.string s,.slice a n c,.bool d]] w (Gives w (.bool (fileOutOk f s.size q))):=by
  have HF:=lH (show fileOutOk f s.size q=(inB f 0 7 && (decide ((s.size:Int)≤600) && (decide ((n:Int)≤1000) && allB (-1) (countSeg s.size - 1) q)))by rw[fileOutOk,hn])
  have hc:=countSeg_bd s.size
  go_enter Tryz.func93,Tryz.ntmps93
  go_wp2_with (first|((with_reducible refine rl ?_);refine rq ?_;intro x))
  go_loopw [3] (fun v wr=>∃ k:Nat,v=.int .i64 k∧k≤n∧Hid (allB (-1) (countSeg s.size - 1) (q.drop k)=allB (-1) (countSeg s.size - 1) q)∧∃ x:Later (w.alloc (.cells #[.int .i64 f,.string s,.slice a n c,.bool d] 105)),wr=x.w) (fun v _=>(n - intOf v).toNat)
  case atStart=>exact⟨0,rfl,by omega,rfl,Later.of⟩
  case round =>
    obtain⟨k,rfl,hk,hf,x,rfl⟩:=hrel
    by_cases h:k<n
    · obtain⟨b,off,y,rfl,hb,hd,h0⟩:=hs.int (show k<q.length by omega)
      cases c1:inB y (-1) (countSeg s.size - 1)
      · go_wp2_with (first|((with_reducible refine rl ?_);(repeat(first|go_big_quiet_step (first|(go_at_call 92;exact Gives.quiet (c_sCountSegments))|(go_at_call 82;exact Gives.quiet (c_sl01In)))|simp only[c1]));refine wpQuiet_nil ?_;intro x)|(go_at_call 92;refine gm (c_sCountSegments) ?_;intro x)|(go_at_call 82;refine gm (c_sl01In) ?_;intro x))
        go_ret
        exact Gives.mk (by have:=hf.out;rw[hd.out,allB,c1]at this;rw[HF.out,← this];simp)
      · go_wp2_with (first|((with_reducible refine rl ?_);(repeat(first|go_big_quiet_step (first|(go_at_call 92;exact Gives.quiet (c_sCountSegments))|(go_at_call 82;exact Gives.quiet (c_sl01In)))|simp only[c1]));refine wpQuiet_nil ?_;intro x)|(go_at_call 92;refine gm (c_sCountSegments) ?_;intro x)|(go_at_call 82;refine gm (c_sl01In) ?_;intro x))
        go_roundw
        case rel=>exact⟨k+1,by go_num,by omega,by have:=hf.out;rw[hd.out,allB,c1]at this;exact this,Later.of⟩
        case measure=>simp[intOf];omega
    · have hf':=hf.out
      rw[List.drop_of_length_le (by omega),allB]at hf'
      have HA:=lH hf';clear hf hf'
      cases c1:inB f 0 7
      · go_wp2_with (first|((with_reducible refine rl ?_);(repeat(first|go_big_quiet_step (first|(go_at_call 82;exact Gives.quiet (c_sl01In)))|simp only[c1]));refine wpQuiet_nil ?_;intro x)|(go_at_call 82;refine gm (c_sl01In) ?_;intro x))
        go_ret
        exact Gives.mk (by rw[HF.out,c1];rfl)
      by_cases h2:600<s.size
      · go_wp2_with (first|((with_reducible refine rl ?_);(repeat(first|go_big_quiet_step (first|(go_at_call 82;exact Gives.quiet (c_sl01In)))|simp only[c1]));refine wpQuiet_nil ?_;intro x)|(go_at_call 82;refine gm (c_sl01In) ?_;intro x))
        go_ret
        exact Gives.mk (by rw[HF.out];have:decide ((s.size:Int)≤600)=false:=by simp;omega
                           simp[this])
      by_cases h3:1000<n
      · go_wp2_with (first|((with_reducible refine rl ?_);(repeat(first|go_big_quiet_step (first|(go_at_call 82;exact Gives.quiet (c_sl01In)))|simp only[c1]));refine wpQuiet_nil ?_;intro x)|(go_at_call 82;refine gm (c_sl01In) ?_;intro x))
        go_ret
        exact Gives.mk (by rw[HF.out];have:decide ((n:Int)≤1000)=false:=by simp;omega
                           simp[this])
      · go_wp2_with (first|((with_reducible refine rl ?_);(repeat(first|go_big_quiet_step (first|(go_at_call 82;exact Gives.quiet (c_sl01In)))|simp only[c1]));refine wpQuiet_nil ?_;intro x)|(go_at_call 82;refine gm (c_sl01In) ?_;intro x))
        go_ret
        exact Gives.mk (by rw[HF.out,c1,← HA.out];simp;omega)
