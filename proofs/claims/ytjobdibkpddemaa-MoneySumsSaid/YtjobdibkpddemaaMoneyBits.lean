/- Plain laws of signs, masks and shifts of whole numbers of 64 bits: no program. -/
import Derived.Test.YtjobdibkpddemaaMoneyLaw
import Derived.Laws.BitsAllLaws
namespace Go.Proofs.Ytjobdibkpddemaa
open Go.RowKit
set_option linter.unusedVariables false

/-! ### Signs -/
theorem wrap_toInt (X : BitVec 64) : IntKind.i64.wrap (X.toNat : Int) = X.toInt := by
  have h := X.isLt
  rw [IntKind.wrap_i64, BitVec.toInt_eq_toNat_cond]
  split <;> omega
theorem neg_msb (X : BitVec 64) : X.toInt < 0 ↔ X.msb = true := by
  rw [BitVec.msb_eq_toInt, decide_eq_true_eq]
theorem ofInt_msb (a : Int) (a0 : -9223372036854775808 ≤ a) (a1 : a ≤ 9223372036854775807) : (BitVec.ofInt 64 a).msb = decide (a < 0) := by
  rw [BitVec.msb_eq_toInt, BitVec.toInt_ofInt]
  have e : a.bmod (2 ^ 64) = a := by
    rw [Int.bmod_def]
    split <;> omega
  rw [e]
theorem i64_bits_bd (X : BitVec 64) : -9223372036854775808 ≤ X.toInt ∧ X.toInt ≤ 9223372036854775807 := by
  rw [← wrap_toInt, IntKind.wrap_i64]
  omega
theorem xor_is (a b : Int) : bits .xor .i64 a b = (BitVec.ofInt 64 a ^^^ BitVec.ofInt 64 b).toInt := wrap_toInt _
theorem and_is (a b : Int) : bits .and .i64 a b = (BitVec.ofInt 64 a &&& BitVec.ofInt 64 b).toInt := wrap_toInt _
theorem xor_sign (a b : Int) (a0 : -9223372036854775808 ≤ a) (a1 : a ≤ 9223372036854775807) (b0 : -9223372036854775808 ≤ b) (b1 : b ≤ 9223372036854775807) :
    (-9223372036854775808 ≤ bits .xor .i64 a b ∧ bits .xor .i64 a b ≤ 9223372036854775807) ∧ (bits .xor .i64 a b < 0 ↔ ¬ (a < 0 ↔ b < 0)) := by
  rw [xor_is]
  refine ⟨i64_bits_bd _, ?_⟩
  rw [neg_msb, BitVec.msb_xor, ofInt_msb a a0 a1, ofInt_msb b b0 b1]
  by_cases h1 : a < 0 <;> by_cases h2 : b < 0 <;> simp [h1, h2]
theorem and_sign (a b : Int) (a0 : -9223372036854775808 ≤ a) (a1 : a ≤ 9223372036854775807) (b0 : -9223372036854775808 ≤ b) (b1 : b ≤ 9223372036854775807) :
    bits .and .i64 a b < 0 ↔ (a < 0 ∧ b < 0) := by
  rw [and_is, neg_msb, BitVec.msb_and, ofInt_msb a a0 a1, ofInt_msb b b0 b1]
  by_cases h1 : a < 0 <;> by_cases h2 : b < 0 <;> simp [h1, h2]
theorem sub_sign (a b : Int) (a0 : -9223372036854775808 ≤ a) (a1 : a ≤ 9223372036854775807) (b0 : -9223372036854775808 ≤ b) (b1 : b ≤ 9223372036854775807) :
    bits .and .i64 (bits .xor .i64 a b) (bits .xor .i64 a (wrap64 (a - b))) < 0 ↔ ¬ (-9223372036854775808 ≤ a - b ∧ a - b ≤ 9223372036854775807) := by
  have hw : -9223372036854775808 ≤ wrap64 (a - b) ∧ wrap64 (a - b) ≤ 9223372036854775807 := by unfold wrap64; omega
  obtain ⟨h1, h2⟩ := xor_sign a b a0 a1 b0 b1
  obtain ⟨h3, h4⟩ := xor_sign a (wrap64 (a - b)) a0 a1 hw.1 hw.2
  rw [and_sign _ _ h1.1 h1.2 h3.1 h3.2, h2, h4]
  unfold wrap64
  omega

/-! ### Masks -/
theorem ofInt_nat (a : Int) : ((BitVec.ofInt 64 a).toNat : Int) = a % 18446744073709551616 := by
  rw [BitVec.toNat_ofInt]
  omega
theorem pow_split (j k : Nat) (h : j ≤ k) : (2 : Int) ^ k = 2 ^ j * 2 ^ (k - j) := by
  rw [← Int.pow_add]; congr 1; omega
theorem pow_pos2 (k : Nat) : (0 : Int) < 2 ^ k := Int.pow_pos (by decide)
theorem pow_le62 (k : Nat) (h : k ≤ 62) : (2 : Int) ^ k ≤ 4611686018427387904 := by
  have h1 := pow_split k 62 h
  have h2 := pow_pos2 (62 - k)
  have h3 := pow_pos2 k
  have h4 : (2 : Int) ^ k * 1 ≤ 2 ^ k * 2 ^ (62 - k) := Int.mul_le_mul_of_nonneg_left (by omega) (by omega)
  omega
theorem mask_pow (a : Int) (k : Nat) (h : k ≤ 62) : bits .and .i64 a (2 ^ k - 1) = a % 2 ^ k := by
  have hp := pow_pos2 k
  have hl := pow_le62 k h
  show IntKind.i64.wrap ((BitVec.ofInt 64 a &&& BitVec.ofInt 64 (2 ^ k - 1)).toNat : Int) = _
  have e : (BitVec.ofInt 64 ((2 : Int) ^ k - 1)).toNat = 2 ^ k - 1 := by
    have h1 := ofInt_nat ((2 : Int) ^ k - 1)
    rw [Int.emod_eq_of_lt (by omega) (by omega)] at h1
    have h2 : ((2 ^ k : Nat) : Int) = (2 : Int) ^ k := by simp
    have h3 : 0 < 2 ^ k := Nat.two_pow_pos k
    omega
  rw [BitVec.toNat_and, e, Nat.and_two_pow_sub_one_eq_mod, Int.natCast_emod, ofInt_nat]
  have h2 : ((2 ^ k : Nat) : Int) = (2 : Int) ^ k := by simp
  rw [h2]
  have h3 : a % 18446744073709551616 % 2 ^ k = a % 2 ^ k := by
    apply Int.emod_emod_of_dvd
    exact ⟨2 ^ (64 - k), pow_split k 64 (by omega)⟩
  rw [h3]
  have h4 := Int.emod_nonneg a (show (2 : Int) ^ k ≠ 0 by omega)
  have h5 := Int.emod_lt_of_pos a hp
  rw [IntKind.wrap_i64]
  omega
theorem bit_pow (a : Int) (k : Nat) (h : k ≤ 62) : bits .and .i64 a (2 ^ k) = a / 2 ^ k % 2 * 2 ^ k := by
  have hp := pow_pos2 k
  have hl := pow_le62 k h
  show IntKind.i64.wrap ((BitVec.ofInt 64 a &&& BitVec.ofInt 64 (2 ^ k)).toNat : Int) = _
  have h2 : ((2 ^ k : Nat) : Int) = (2 : Int) ^ k := by simp
  have e : (BitVec.ofInt 64 ((2 : Int) ^ k)).toNat = 2 ^ k := by
    have h1 := ofInt_nat ((2 : Int) ^ k)
    rw [Int.emod_eq_of_lt (by omega) (by omega)] at h1
    omega
  rw [BitVec.toNat_and, e, nat_bit, Int.natCast_mul, Int.natCast_emod, Int.natCast_ediv, ofInt_nat, h2]
  have h3 : a % 18446744073709551616 / 2 ^ k % 2 = a / 2 ^ k % 2 := by
    have e1 := Int.emod_add_mul_ediv a 18446744073709551616
    have e2 : (18446744073709551616 : Int) = 2 ^ k * (2 * 2 ^ (63 - k)) := by
      have e3 := pow_split k 63 (by omega)
      have e4 : (2 : Int) ^ 63 = 9223372036854775808 := by decide
      have e5 : (2 : Int) ^ k * (2 * 2 ^ (63 - k)) = 2 * (2 ^ k * 2 ^ (63 - k)) := by
        rw [Int.mul_left_comm]
      rw [e5, ← e3, e4]
      decide
    have e6 : a / 2 ^ k = a % 18446744073709551616 / 2 ^ k + 2 * (2 ^ (63 - k) * (a / 18446744073709551616)) := by
      have e7 : a = a % 18446744073709551616 + 2 ^ k * (2 * (2 ^ (63 - k) * (a / 18446744073709551616))) := by
        have e8 : (2 : Int) ^ k * (2 * (2 ^ (63 - k) * (a / 18446744073709551616))) = 18446744073709551616 * (a / 18446744073709551616) := by
          rw [← Int.mul_assoc 2, ← Int.mul_assoc, ← e2]
        rw [e8]
        omega
      have e9 := congrArg (· / (2 : Int) ^ k) e7
      rw [Int.add_mul_ediv_left _ _ (by omega)] at e9
      exact e9
    rw [e6]
    omega
  rw [show ((2 : Nat) : Int) = 2 from rfl, h3]
  have h6 : a / 2 ^ k % 2 = 0 ∨ a / 2 ^ k % 2 = 1 := by omega
  rw [IntKind.wrap_i64]
  rcases h6 with h6 | h6
  · rw [h6, Int.zero_mul]; omega
  · rw [h6, Int.one_mul]; omega

/-! ### Narrow numbers -/
/-- What the lowest k + 1 bits say. -/
def narrowZ (a : Int) (k : Nat) : Int := (a + 2 ^ k) % 2 ^ (k + 1) - 2 ^ k
theorem narrow_bits (a : Int) (k : Nat) : narrowZ a k = a % 2 ^ k - (if a / 2 ^ k % 2 = 0 then 0 else 2 ^ k) := by
  have hp := pow_pos2 k
  have e1 := Int.emod_add_mul_ediv a (2 ^ k)
  have e2 := Int.emod_nonneg a (show (2 : Int) ^ k ≠ 0 by omega)
  have e3 := Int.emod_lt_of_pos a hp
  unfold narrowZ
  rw [Int.pow_succ]
  generalize (2 : Int) ^ k = p at *
  generalize a / p = q at *
  generalize a % p = r at *
  have e4 : q = q % 2 + 2 * (q / 2) := by omega
  have e5 : p * q = p * (q % 2) + p * 2 * (q / 2) := by
    have h := congrArg (fun x => p * x) e4
    rw [Int.mul_add, ← Int.mul_assoc] at h
    exact h
  have h6 : q % 2 = 0 ∨ q % 2 = 1 := by omega
  rcases h6 with h6 | h6
  · rw [h6, Int.mul_zero] at e5
    have e7 : a + p = (r + p) + p * 2 * (q / 2) := by omega
    rw [e7, Int.add_mul_emod_self_left, Int.emod_eq_of_lt (by omega) (by omega), h6, if_pos rfl]
    omega
  · rw [h6, Int.mul_one] at e5
    have e7 : a + p = r + p * 2 * (q / 2 + 1) := by
      rw [Int.mul_add, Int.mul_one]
      omega
    rw [e7, Int.add_mul_emod_self_left, Int.emod_eq_of_lt (by omega) (by omega), h6, if_neg (by omega)]
theorem narrow_shift (a : Int) (k : Nat) (h : k ≤ 63) : wrap64 (a * 2 ^ (63 - k)) / 2 ^ (63 - k) = narrowZ a k := by
  have hp := pow_pos2 (63 - k)
  have e1 : (9223372036854775808 : Int) = 2 ^ k * 2 ^ (63 - k) := by
    rw [← pow_split k 63 h]; decide
  have e2 : (18446744073709551616 : Int) = 2 ^ (k + 1) * 2 ^ (63 - k) := by
    rw [Int.pow_succ]
    have : (2 : Int) ^ k * 2 * 2 ^ (63 - k) = 2 * (2 ^ k * 2 ^ (63 - k)) := by
      rw [Int.mul_comm (2 ^ k) 2, Int.mul_assoc]
    rw [this, ← e1]
    decide
  unfold wrap64 narrowZ
  rw [e2, e1, ← Int.add_mul, Int.mul_comm (a + 2 ^ k), Int.mul_comm (2 ^ (k + 1)), Int.mul_emod_mul_of_pos _ _ hp, Int.mul_comm (2 ^ (63 - k)) ((a + 2 ^ k) % 2 ^ (k + 1)), ← Int.sub_mul, Int.mul_ediv_cancel _ (by omega)]
theorem narrow_fits (a : Int) (k : Nat) : narrowZ a k = a ↔ (-2 ^ k ≤ a ∧ a < 2 ^ k) := by
  have hp := pow_pos2 k
  unfold narrowZ
  rw [Int.pow_succ]
  generalize (2 : Int) ^ k = p at *
  have h1 := Int.emod_nonneg (a + p) (show p * 2 ≠ 0 by omega)
  have h2 := Int.emod_lt_of_pos (a + p) (show 0 < p * 2 by omega)
  constructor
  · intro h
    omega
  · intro h
    rw [Int.emod_eq_of_lt (by omega) (by omega)]
    omega
theorem narrow_bd (a : Int) (k : Nat) : -2 ^ k ≤ narrowZ a k ∧ narrowZ a k < 2 ^ k := by
  have hp := pow_pos2 k
  unfold narrowZ
  rw [Int.pow_succ]
  generalize (2 : Int) ^ k = p at *
  have h1 := Int.emod_nonneg (a + p) (show p * 2 ≠ 0 by omega)
  have h2 := Int.emod_lt_of_pos (a + p) (show 0 < p * 2 by omega)
  omega
theorem narrow_all (a : Int) (a0 : -9223372036854775808 ≤ a) (a1 : a ≤ 9223372036854775807) : narrowZ a 63 = a := by
  rw [narrow_fits]
  have : (2 : Int) ^ 63 = 9223372036854775808 := by decide
  omega
end Go.Proofs.Ytjobdibkpddemaa
