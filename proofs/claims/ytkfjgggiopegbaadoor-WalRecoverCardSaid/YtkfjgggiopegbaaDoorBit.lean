/- Bits and remainders by two, as sums. No program in sight. -/
import Derived.Test.YtkfjgggiopegbaaDoorBd
namespace Go.Proofs.YtkfjgggiopegbaaDoor
theorem tm2 (n : Int) : n.tmod 2 = if 0 ≤ n then n % 2 else -((-n) % 2) := by
  split
  · exact Int.tmod_eq_emod_of_nonneg (by assumption)
  · rename_i h
    have : n = -(-n) := by omega
    rw [this, Int.neg_tmod, Int.tmod_eq_emod_of_nonneg (by omega)]
    simp
theorem td2 (n : Int) : n.tdiv 2 = if 0 ≤ n then n / 2 else -((-n) / 2) := by
  split
  · exact Int.tdiv_eq_ediv_of_nonneg (by assumption)
  · rename_i h
    have : n = -(-n) := by omega
    rw [this, Int.neg_tdiv, Int.tdiv_eq_ediv_of_nonneg (by omega)]
    simp
theorem band1 (n : Int) : IntKind.i64.wrap ((BitVec.ofInt IntKind.i64.bits n &&& BitVec.ofInt IntKind.i64.bits 1).toNat : Int) = n % 2 := by
  have h : (BitVec.ofInt IntKind.i64.bits n &&& BitVec.ofInt IntKind.i64.bits 1).toNat = (n % 2^64).toNat % 2 := by
    show (BitVec.ofInt 64 n &&& BitVec.ofInt 64 1).toNat = _
    rw [BitVec.toNat_and, BitVec.toNat_ofInt, BitVec.toNat_ofInt]
    exact Nat.and_one_is_mod _
  rw [h, w64_eq]; omega
theorem shr1 (n : Int) : n.fdiv (2 ^ min (Int.toNat 1) IntKind.i64.bits) = n / 2 := by
  show n.fdiv (2 ^ min 1 64) = n / 2
  rw [show (2 : Int) ^ min 1 64 = 2 from rfl]
  exact Int.fdiv_eq_ediv_of_nonneg _ (by omega)
theorem shl1 (n : Int) : IntKind.i64.wrap (n * 2 ^ min (Int.toNat 1) IntKind.i64.bits) = IntKind.i64.wrap (2 * n) := by
  show IntKind.i64.wrap (n * 2 ^ min 1 64) = _
  rw [show (2 : Int) ^ min 1 64 = 2 from rfl, Int.mul_comm]
end Go.Proofs.YtkfjgggiopegbaaDoor
