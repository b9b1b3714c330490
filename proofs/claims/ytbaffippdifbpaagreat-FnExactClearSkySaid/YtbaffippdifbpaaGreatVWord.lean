/- The contracts of PutWord and CheckOf. No condition but on numbers. -/
import Derived.Test.YtbaffippdifbpaaGreatVM0
import Derived.Test.YtbaffippdifbpaaGreatVNum
import Derived.Laws.BytesArg
namespace Go.Proofs.YtbaffippdifbpaaGreat
set_option linter.unusedVariables false
open Go.ChangeShapes Go.WideShapes Go.ChangeAt Go.RowKit
theorem conv_str {P : Program} {W : World} {t e d : TypeId} (ht : P.underlying t = some (.slice e)) (he : P.underlying e = some (.int .u8)) (hd : P.underlying d = some .string) {a : Option Addr} {n c : Nat} {l : List Int} (hs : Sl encByte W a l) (hn : l.length = n) (h0 : 0 < n) :
    ∀ W' : World, [Grows W W'] → (convert t d (.slice a n c)).run P W' = .ok (.string (strOfNums l)) W' := fun W' g => by
  obtain ⟨b, off, s, rfl, hb, -⟩ := hs.byte (k := 0) (by omega)
  refine run_convert_bytes_arg W' t e ht he b off n c l hn (fun i hi => ?_) d hd
  obtain ⟨b2, off2, s2, hbo, hb2, hd2, g2⟩ := hs.byte (k := i) (by omega)
  simp only [Option.some.injEq, Addr.mk.injEq, and_true] at hbo
  obtain ⟨rfl, rfl⟩ := hbo
  have h1 : l[i]? = some s2 := by
    have := congrArg (fun m => m[0]?) hd2.out
    simpa using this
  rw [g2 W', List.getD, h1]; rfl
@[go_sem] theorem i64_and65535 (n : Int) : bits .and .i64 n 65535 = n % 65536 := by
  have h : (BitVec.ofInt 64 65535).toNat = 2 ^ 16 - 1 := by decide
  have key : (BitVec.ofInt 64 n &&& BitVec.ofInt 64 65535).toNat = (n % ((2 ^ 64 : Nat) : Int)).toNat % 2 ^ 16 := by
    rw [BitVec.toNat_and, BitVec.toNat_ofInt, h, Nat.and_two_pow_sub_one_eq_mod]
  show IntKind.i64.wrap ((BitVec.ofInt 64 n &&& BitVec.ofInt 64 65535).toNat : Nat) = n % 65536
  rw [key, IntKind.wrap_i64]
  omega
end Go.Proofs.YtbaffippdifbpaaGreat
