/- Small lemmas on words of 64 bits, and what a taking function answers. -/

import Derived.Test.YthpklhkibcenoaaSpecA
set_option linter.unusedVariables false
set_option linter.unusedSimpArgs false
namespace Go.Proofs.Ythpklhkibcenoaa.Sw
open Go.RowKit Go.Proofs.Ythpklhkibcenoaa.Px Go.Proofs.YthpklhkibcenoaaW.PrintWords Go.Proofs.YthpklhkibcenoaaW.PrintLast Go.Proofs.YthpklhkibcenoaaW.PrintMore

/-- What a taking function answers. -/
def tri : Option (Nat × List Int) → Int × List Int × Int
  | some (n, r) => ((n : Int), r, 0)
  | none => (0, [], 2)
theorem u64_nat {n : Nat} (h : n < 18446744073709551616) : IntKind.u64.wrap (n : Int) = (n : Int) := by
  simp only [IntKind.wrap, IntKind.bits, IntKind.signed]
  simp
  omega
theorem or_u64 {t d : Nat} (ht : t < 18446744073709551616) (hd : d < 18446744073709551616) : Go.bits .or .u64 (t : Int) (d : Int) = ((t ||| d : Nat) : Int) := by
  show IntKind.u64.wrap (((BitVec.ofInt 64 (t : Int)) ||| (BitVec.ofInt 64 (d : Int))).toNat : Int) = _
  rw [BitVec.ofInt_natCast, BitVec.ofInt_natCast, BitVec.toNat_or, BitVec.toNat_ofNat, BitVec.toNat_ofNat, Nat.mod_eq_of_lt (by omega), Nat.mod_eq_of_lt (by omega)]
  exact u64_nat (Nat.or_lt_two_pow (n := 64) (by omega) (by omega))
theorem wrap_succ {i : Nat} (h : i < 140737488355328) : wrap64 ((i : Int) + 1) = ((i + 1 : Nat) : Int) := by rw [wrap_in (by omega) (by omega)]; rfl
end Go.Proofs.Ythpklhkibcenoaa.Sw
