/- One bit of a number: in, with, without, by sums and quotients. No program in sight. -/
import Derived.Test.YtkfjgggiopegbaaDoorBit
namespace Go.Proofs.YtkfjgggiopegbaaDoor
theorem shr1n (n : Int) : n.fdiv (2 ^ min 1 IntKind.i64.bits) = n / 2 := shr1 n
theorem shl1n (n : Int) : IntKind.i64.wrap (n * 2 ^ min 1 IntKind.i64.bits) = IntKind.i64.wrap (2 * n) := shl1 n
/-- Bit t of a number. -/
def bitM (m : Int) (t : Nat) : Bool := decide (m / 2 ^ t % 2 = 1)
theorem ofInt_bit (m : Int) (t : Nat) (ht : t < 64) : (BitVec.ofInt 64 m).getLsbD t = bitM m t := by
  show (BitVec.ofInt 64 m).toNat.testBit t = _
  rw [Nat.testBit_eq_decide_div_mod_eq, BitVec.toNat_ofInt]
  unfold bitM
  congr 1
  have hp : (0 : Int) < 2 ^ t := Int.pow_pos (by omega)
  have e64 : ((2 ^ 64 : Nat) : Int) = 2 ^ t * (2 * 2 ^ (63 - t)) := by
    have : (2 : Nat) ^ 64 = 2 ^ t * (2 * 2 ^ (63 - t)) := by
      rw [← Nat.pow_succ', ← Nat.pow_add]; congr 1; omega
    rw [this]; simp
  have h0 : 0 ≤ m % ((2 ^ 64 : Nat) : Int) := Int.emod_nonneg _ (by omega)
  have key : (m % ((2 ^ 64 : Nat) : Int)) / 2 ^ t % 2 = m / 2 ^ t % 2 := by
    have : m % ((2 ^ 64 : Nat) : Int) = m + 2 ^ t * (-(2 * 2 ^ (63 - t)) * (m / ((2 ^ 64 : Nat) : Int))) := by
      have := Int.emod_def m ((2 ^ 64 : Nat) : Int)
      rw [this]
      conv => lhs; rw [e64]
      rw [← e64]
      rw [show (2 : Int) ^ t * (-(2 * 2 ^ (63 - t)) * (m / ((2 ^ 64 : Nat) : Int))) = -((2 ^ t * (2 * 2 ^ (63 - t))) * (m / ((2 ^ 64 : Nat) : Int))) by rw [Int.neg_mul, Int.mul_neg, Int.mul_assoc, Int.mul_assoc, Int.mul_assoc]]
      rw [← e64]
      omega
    rw [this, Int.add_mul_ediv_left _ _ (by omega)]
    rw [Int.neg_mul, Int.mul_assoc]
    omega
  have hc : (((m % ((2 ^ 64 : Nat) : Int)).toNat / 2 ^ t % 2 : Nat) : Int) = m / 2 ^ t % 2 := by
    rw [← key]
    have e : (((m % ((2 ^ 64 : Nat) : Int)).toNat : Nat) : Int) = m % ((2 ^ 64 : Nat) : Int) := Int.toNat_of_nonneg h0
    generalize (m % ((2 ^ 64 : Nat) : Int)).toNat = q at e ⊢
    rw [← e]
    simp
  exact propext ⟨fun h => by rw [h] at hc; simpa using hc.symm, fun h => by rw [h] at hc; omega⟩
theorem pow_lt (t : Nat) (ht : t ≤ 61) : (2 : Int) ^ t ≤ 2305843009213693952 ∧ 0 < (2 : Int) ^ t := by
  constructor
  · have : (2 : Nat) ^ t ≤ 2 ^ 61 := Nat.pow_le_pow_right (by omega) ht
    have h : ((2 ^ t : Nat) : Int) ≤ ((2 ^ 61 : Nat) : Int) := Int.ofNat_le.2 this
    simpa using h
  · exact Int.pow_pos (by omega)
theorem shl_one (t : Int) (h0 : 0 ≤ t) (h1 : t ≤ 61) : IntKind.i64.wrap (1 * 2 ^ min t.toNat IntKind.i64.bits) = 2 ^ t.toNat := by
  have : min t.toNat IntKind.i64.bits = t.toNat := by show min t.toNat 64 = _; omega
  rw [this, Int.one_mul]
  have := pow_lt t.toNat (by omega)
  exact w64 (by omega) (by omega)
theorem ofInt_pow (t : Nat) (_ : t ≤ 61) : BitVec.ofInt 64 ((2 : Int) ^ t) = BitVec.twoPow 64 t := by
  apply BitVec.eq_of_toNat_eq
  rw [BitVec.toNat_ofInt, BitVec.toNat_twoPow]
  have : (2 : Int) ^ t = ((2 ^ t : Nat) : Int) := by simp
  rw [this]
  omega
theorem toInt_mod (x : Nat) : IntKind.i64.wrap ((x : Int)) = IntKind.i64.wrap ((x % 2 ^ 64 : Nat) : Int) := by
  rw [w64_eq, w64_eq]
  have : ((x % 2 ^ 64 : Nat) : Int) = (x : Int) % 18446744073709551616 := by omega
  rw [this]; omega
theorem band_bit (m : Int) (t : Nat) (ht : t ≤ 61) : IntKind.i64.wrap ((BitVec.ofInt IntKind.i64.bits m &&& BitVec.ofInt IntKind.i64.bits ((2 : Int) ^ t)).toNat : Int) = if bitM m t = true then 2 ^ t else 0 := by
  show IntKind.i64.wrap ((BitVec.ofInt 64 m &&& BitVec.ofInt 64 ((2 : Int) ^ t)).toNat : Int) = _
  rw [ofInt_pow t ht, BitVec.and_twoPow, ofInt_bit m t (by omega)]
  split
  · rw [BitVec.toNat_twoPow]
    have h := pow_lt t ht
    have e : ((2 ^ t % 2 ^ 64 : Nat) : Int) = 2 ^ t := by
      have : (2 : Int) ^ t = ((2 ^ t : Nat) : Int) := by simp
      rw [this] at h ⊢
      omega
    rw [e]
    exact w64 (by omega) (by omega)
  · rfl
theorem wrap_ofInt (n : Int) : IntKind.i64.wrap ((BitVec.ofInt 64 n).toNat : Int) = IntKind.i64.wrap n := by
  rw [BitVec.toNat_ofInt, w64_eq, w64_eq]; omega
theorem or_ofInt (m : Int) (t : Nat) (ht : t ≤ 61) : BitVec.ofInt 64 m ||| BitVec.ofInt 64 ((2 : Int) ^ t) = BitVec.ofInt 64 (if bitM m t = true then m else m + 2 ^ t) := by
  have hb := ofInt_bit m t (by omega)
  split
  · rename_i h
    rw [h] at hb
    rw [ofInt_pow t ht]
    apply BitVec.eq_of_getLsbD_eq
    intro i hi
    rw [BitVec.getLsbD_or, BitVec.getLsbD_twoPow]
    by_cases e : t = i
    · subst e; simp [hb]
    · simp [e]
  · rename_i h
    have h : bitM m t = false := by simpa using h
    rw [h] at hb
    have : BitVec.ofInt 64 m &&& BitVec.ofInt 64 ((2 : Int) ^ t) = 0#64 := by
      rw [ofInt_pow t ht, BitVec.and_twoPow, hb]; rfl
    rw [← BitVec.add_eq_or_of_and_eq_zero _ _ this, ← BitVec.ofInt_add]
theorem bor_bit (m : Int) (t : Nat) (ht : t ≤ 61) : IntKind.i64.wrap ((BitVec.ofInt IntKind.i64.bits m ||| BitVec.ofInt IntKind.i64.bits ((2 : Int) ^ t)).toNat : Int) = IntKind.i64.wrap (if bitM m t = true then m else m + 2 ^ t) := by
  show IntKind.i64.wrap ((BitVec.ofInt 64 m ||| BitVec.ofInt 64 ((2 : Int) ^ t)).toNat : Int) = _
  rw [or_ofInt m t ht, wrap_ofInt]
theorem andn_ofInt (m : Int) (t : Nat) (ht : t ≤ 61) : BitVec.ofInt 64 m &&& ~~~ BitVec.ofInt 64 ((2 : Int) ^ t) = BitVec.ofInt 64 (if bitM m t = true then m - 2 ^ t else m) := by
  have hb := ofInt_bit m t (by omega)
  split
  · rename_i h
    rw [h] at hb
    have h1 : (BitVec.ofInt 64 m &&& ~~~ BitVec.ofInt 64 ((2 : Int) ^ t)) + BitVec.ofInt 64 ((2 : Int) ^ t) = BitVec.ofInt 64 m := by
      rw [BitVec.add_eq_or_of_and_eq_zero]
      · rw [ofInt_pow t ht]
        apply BitVec.eq_of_getLsbD_eq
        intro i hi
        rw [BitVec.getLsbD_or, BitVec.getLsbD_and, BitVec.getLsbD_not, BitVec.getLsbD_twoPow]
        by_cases e : t = i
        · subst e; simp [hb, hi]
        · simp [e, hi]
      · rw [BitVec.and_assoc, BitVec.and_comm (~~~ _), BitVec.and_not_self]; simp
    have : BitVec.ofInt 64 (m - 2 ^ t) + BitVec.ofInt 64 ((2 : Int) ^ t) = BitVec.ofInt 64 m := by rw [← BitVec.ofInt_add]; congr 1; omega
    have h1 := h1.trans this.symm
    exact (BitVec.add_left_inj _).1 h1
  · rename_i h
    have h : bitM m t = false := by simpa using h
    rw [h] at hb
    rw [ofInt_pow t ht]
    apply BitVec.eq_of_getLsbD_eq
    intro i hi
    rw [BitVec.getLsbD_and, BitVec.getLsbD_not, BitVec.getLsbD_twoPow]
    by_cases e : t = i
    · subst e; simp [hb]
    · simp [e, hi]
theorem bandn_bit (m : Int) (t : Nat) (ht : t ≤ 61) : IntKind.i64.wrap ((BitVec.ofInt IntKind.i64.bits m &&& ~~~ BitVec.ofInt IntKind.i64.bits ((2 : Int) ^ t)).toNat : Int) = IntKind.i64.wrap (if bitM m t = true then m - 2 ^ t else m) := by
  show IntKind.i64.wrap ((BitVec.ofInt 64 m &&& ~~~ BitVec.ofInt 64 ((2 : Int) ^ t)).toNat : Int) = _
  rw [andn_ofInt m t ht, wrap_ofInt]
theorem bit_with (m : Int) (a t : Nat) (ha : a ≤ 61) (ht : t < 64) : bitM (if bitM m a = true then m else m + 2 ^ a) t = (bitM m t || decide (a = t)) := by
  rw [← ofInt_bit _ t ht, ← or_ofInt m a ha, BitVec.getLsbD_or, ofInt_bit m t ht, ofInt_pow a ha, BitVec.getLsbD_twoPow]
  rw [show decide (a < 64) = true from decide_eq_true (by omega), Bool.true_and]
theorem bit_off (m : Int) (a t : Nat) (ha : a ≤ 61) (ht : t < 64) : bitM (if bitM m a = true then m - 2 ^ a else m) t = (bitM m t && !decide (a = t)) := by
  rw [← ofInt_bit _ t ht, ← andn_ofInt m a ha, BitVec.getLsbD_and, ofInt_bit m t ht, ofInt_pow a ha, BitVec.getLsbD_not, BitVec.getLsbD_twoPow]
  rw [show decide (a < 64) = true from decide_eq_true (by omega), Bool.true_and, show decide (t < 64) = true from decide_eq_true ht, Bool.true_and]
theorem bor1 (n : Int) : IntKind.i64.wrap ((BitVec.ofInt IntKind.i64.bits (IntKind.i64.wrap (2 * n)) ||| BitVec.ofInt IntKind.i64.bits 1).toNat : Int) = IntKind.i64.wrap (IntKind.i64.wrap (2 * n) + 1) := by
  have h := bor_bit (IntKind.i64.wrap (2 * n)) 0 (by omega)
  rw [show ((2 : Int) ^ 0) = 1 from rfl] at h
  rw [h, if_neg]
  unfold bitM
  simp only [decide_eq_true_eq, w64_eq]
  rw [show ((2 : Int) ^ 0) = 1 from rfl]
  omega
end Go.Proofs.YtkfjgggiopegbaaDoor
