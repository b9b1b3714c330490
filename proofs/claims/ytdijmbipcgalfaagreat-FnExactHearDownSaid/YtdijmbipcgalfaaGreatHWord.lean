/- The contracts of PutWord and CheckOf. No condition but on sizes. -/
import Derived.Test.YtdijmbipcgalfaaGreatHM0
import Derived.Laws.BytesArg
namespace Go.Proofs.YtdijmbipcgalfaaGreat
set_option linter.unusedVariables false
open Go.ChangeShapes Go.WideShapes Go.ChangeAt Go.RowKit
variable {n:Int}{w:World}
private abbrev bQ9:=Tryz.underlying258
theorem ar5(n:Int):(Y1 n).length=1:=rfl
theorem am7(n:Int):∀ u∈Y1 n,u.oneCell'=true:=by intro u hu;simp[Y1]at hu;subst hu;rfl
theorem at7{P:Program}{W:World}{t e d:TypeId}(ht:P.underlying t=some (.slice e))(he:P.underlying e=some (.int .u8))(hd:P.underlying d=some .string){a:Option Addr}{n c:Nat}{l:List Int}(hs:Sl Y1 W a l)(hn:l.length=n)(h0:0<n) :
  ∀ W':World,[b8 W W']→(convert t d (.slice a n c)).run P W'=.ok (.string (strOfNums l)) W':=fun W' g=>by
 obtain⟨b,off,s,rfl,hb,-⟩:=hs.byte (k:=0) om
 refine run_convert_bytes_arg W' t e ht he b off n c l hn (fun i hi=>?_) d hd
 obtain⟨b2,off2,s2,hbo,hb2,hd2,g2⟩:=hs.byte (k:=i) om
 simp only[Option.some.injEq,Addr.mk.injEq,and_true]at hbo
 obtain⟨rfl,rfl⟩:=hbo
 have h1:l[i]?=some s2:=by
  have:=congrArg (fun m=>m[0]?) hd2.out
  simpa using this
 rw[g2 W',List.getD,h1];rfl
def aF3(n:Int):ByteArray:=strOfNums [n % 256]
theorem bx3(h0:0≤n)(h1:n<256) :
  Calls Tryz.prog 65 #[I n,I 1] w (b5 w (.string (aF3 n))):=by
 have g0:(n / 256 != 0)=false:=by simp;omega
 go_enter Tryz.func65,Tryz.ntmps65
 go_wp2_with (first|(go_at_call 101;refine gm (f5) ?_;intro x))
 refine wp_loop_rounds 2 ?_
 rw[rounds_succ]
 go_wp2_with (first|((at_builtin;refine ak7 (enc:=Y1) (w0:=w) (B:=w.heap.size) (z:=.int .u8 0) (size:=1) (bytes:=1) (n:Int) rfl (.tmp 28) (.tmp 34) rfl bQ9 kr rfl de de rfl rfl rfl (Own.to (Own.emptyAt (W:=x.w) ar5 LeN.out rfl) ii) bk rfl (am7 _) om LeN.out ii LeN.out ?_;intro sa1 sc1 x1 hown1 hgr1);have hown_0:=hown1;have sl_0:=hown1.sl;clear hown1 hgr1))
 have hcv:=at7 (P:=Tryz.prog) (n:=1) (c:=sc1) bQ9 Tryz.underlying5 Tryz.underlying9 sl_0 rfl si
 rw[rounds_succ]
 go_wp2_with fail
 go_ret
 exact b5.mk (by unfold aF3;rw[show n % 256=n by omega];rfl)
def aF4(n:Int):ByteArray:=strOfNums [n / 256 % 256,n % 256]
theorem bw6(h0:0≤n)(h1:n<65536) :
  Calls Tryz.prog 80 #[I n,I 2] w (b5 w (.string (aF4 n))):=by
 have g0:(n / 65536 != 0)=false:=by simp;omega
 have hmk:∀ w:World,(Instr.makeSlice 258 (I 2) (I 2)).run Tryz.prog w=.ok (.slice (some ⟨w.heap.size,0,none⟩) 2 2) (w.alloc (.cells #[.int .u8 0,.int .u8 0] 5)):=fun w=>by kernel_rfl
 have hcv:=at7 (P:=Tryz.prog) (n:=2) (c:=2) bQ9 Tryz.underlying5 Tryz.underlying9 (Sl.lit (enc:=Y1) (W:=w) (cs:=#[.int .u8 (n / 256 % 256),.int .u8 (n % 256)]) (T:=5) (l:=[n / 256 % 256,n % 256]) (fun _=>rfl) rfl) rfl si
 go_enter Tryz.func80,Tryz.ntmps80
 go_wp2_with fail
 refine wp_loop_rounds 3 ?_
 rw[rounds_succ]
 go_wp2_with fail
 rw[rounds_succ]
 go_wp2_with fail
 rw[rounds_succ]
 go_wp2_with fail
 go_ret
 exact b5.mk rfl
theorem aU0(h0:0≤n)(h1:n<65536) :
  Calls Tryz.prog 65 #[I n,I 2] w (b5 w (.string (aF4 n))):=by
 have g0:(n / 65536 != 0)=false:=by simp;omega
 go_enter Tryz.func65,Tryz.ntmps65
 go_wp2_with (first|(go_at_call 101;refine gm (f5) ?_;intro x))
 refine wp_loop_rounds 3 ?_
 rw[rounds_succ]
 go_wp2_with (first|((at_builtin;refine ak7 (enc:=Y1) (w0:=w) (B:=w.heap.size) (z:=.int .u8 0) (size:=1) (bytes:=1) (n / 256:Int) rfl (.tmp 28) (.tmp 34) rfl bQ9 kr rfl de de rfl rfl rfl (Own.to (Own.emptyAt (W:=x.w) ar5 LeN.out rfl) ii) bk rfl (am7 _) om LeN.out ii LeN.out ?_;intro sa1 sc1 x1 hown1 hgr1);have hown_0:=hown1;have sl_0:=hown1.sl;clear hown1 hgr1))
 rw[rounds_succ]
 go_wp2_with (first|((at_builtin;refine ak7 (enc:=Y1) (w0:=w) (B:=w.heap.size) (z:=.int .u8 0) (size:=1) (bytes:=1) (n % 256:Int) rfl (.tmp 28) (.tmp 34) rfl bQ9 kr rfl de de rfl rfl rfl (Own.to hown_0 ii) bk rfl (am7 _) om LeN.out ii LeN.out ?_;intro sa1 sc1 x1 hown1 hgr1);have hown_1:=hown1;have sl_1:=hown1.sl;clear hown1 hgr1))
 have hcv:=at7 (P:=Tryz.prog) (n:=2) (c:=sc1) bQ9 Tryz.underlying5 Tryz.underlying9 sl_1 rfl si
 rw[rounds_succ]
 go_wp2_with fail
 go_ret
 exact b5.mk (by unfold aF4;rw[show n / 256 % 256=n / 256 by omega];rfl)
def bV1(n:Int):ByteArray:=strOfNums [n / 256 / 256 % 256,n / 256 % 256,n % 256]
@[go_sem] theorem bV6(n:Int):bits .and .i64 n 65535=n % 65536:=by
 have h:(BitVec.ofInt 64 65535).toNat=2 ^ 16 - 1:=by decide
 have key:(BitVec.ofInt 64 n &&& BitVec.ofInt 64 65535).toNat=(n % ((2 ^ 64:Nat):Int)).toNat % 2 ^ 16:=by
  rw[BitVec.toNat_and,BitVec.toNat_ofInt,h,Nat.and_two_pow_sub_one_eq_mod]
 show IntKind.i64.wrap ((BitVec.ofInt 64 n &&& BitVec.ofInt 64 65535).toNat:Nat)=n % 65536
 rw[key,IntKind.wrap_i64]
 omega
theorem bL4(h0:0≤n)(h1:n≤65535):(bits .and .i64 n 32768 != 0)=decide (32768≤n):=by
 have h:(BitVec.ofInt 64 32768).toNat=2 ^ 15:=by decide
 have hn:(BitVec.ofInt 64 n).toNat=n.toNat:=by rw[BitVec.toNat_ofInt];omega
 have hlt:n.toNat<2 ^ 16:=by omega
 have key:(BitVec.ofInt 64 n &&& BitVec.ofInt 64 32768).toNat=if 2 ^ 15≤n.toNat then 2 ^ 15 else 0:=by
  rw[BitVec.toNat_and,hn,h]
  apply Nat.eq_of_testBit_eq
  intro i
  rw[Nat.testBit_and,Nat.testBit_two_pow]
  by_cases hc:2 ^ 15≤n.toNat
  ·rw[if_pos hc,Nat.testBit_two_pow]
   by_cases hi:15=i
   ·subst hi
    have h15:n.toNat.testBit 15=true:=by
     rw[Nat.testBit_eq_decide_div_mod_eq]
     have:n.toNat / 2 ^ 15 % 2=1:=by omega
     simp[this]
    simp[h15]
   ·simp[hi]
  ·rw[if_neg hc,Nat.zero_testBit]
   by_cases hi:15=i
   ·subst hi
    rw[Nat.testBit_lt_two_pow om];rfl
   ·simp[hi]
 have e:bits .and .i64 n 32768=(((if 2 ^ 15≤n.toNat then 2 ^ 15 else 0:Nat)):Int):=by
  show IntKind.i64.wrap ((BitVec.ofInt 64 n &&& BitVec.ofInt 64 32768).toNat:Nat)=_
  rw[key,IntKind.wrap_i64]
  split<;>omega
 rw[e]
 by_cases hc:32768≤n
 ·rw[if_pos om];simp[hc]
 ·rw[if_neg om];simp[hc]
theorem bv7{a b:Int}(h0:0≤a)(h1:a≤65535)(h2:0≤b)(h3:b≤65535):0≤bits .xor .i64 a b∧bits .xor .i64 a b≤65535:=by
 have ha:(BitVec.ofInt 64 a).toNat=a.toNat:=by rw[BitVec.toNat_ofInt];omega
 have hb:(BitVec.ofInt 64 b).toNat=b.toNat:=by rw[BitVec.toNat_ofInt];omega
 have key:(BitVec.ofInt 64 a ^^^ BitVec.ofInt 64 b).toNat=a.toNat ^^^ b.toNat:=by rw[BitVec.toNat_xor,ha,hb]
 have hlt:a.toNat ^^^ b.toNat<2 ^ 16:=Nat.xor_lt_two_pow om om
 have e:bits .xor .i64 a b=((a.toNat ^^^ b.toNat:Nat):Int):=by
  show IntKind.i64.wrap ((BitVec.ofInt 64 a ^^^ BitVec.ofInt 64 b).toNat:Nat)=_
  rw[key,IntKind.wrap_i64]
  omega
 rw[e]
 omega
def as4(n:Int):Int:=if 32768≤n then bits .xor .i64 (2*n % 65536) 4129 else 2*n
def ag0:Nat→Int→Int
 | 0,n=>n
 | k+1,n=>ag0 k (as4 n)
def crc:Int→List Int→Int
 | n,[]=>n
 | n,b::l=>crc (ag0 8 (bits .xor .i64 n (256*b))) l
theorem aF7(h0:0≤n)(h1:n≤65535):0≤as4 n∧as4 n≤65535:=by
 unfold as4
 split
 ·exact bv7 om om om om
 ·omega
