/- The numbers of package dice: what Mix, Next and Below compute, and what follows of them (Mix is one to one; what is drawn below a number is below it). No Go in sight. -/
import Derived.WalkKit
import Derived.Laws.BitsAllLaws
namespace Go.Proofs.Ytnmknpdbjolbpaa
open Go.RowKit

def m1 (a : Int) : Int := IntKind.u64.wrap (bits BinOp.xor IntKind.u64 a (a / 1073741824) * 13787848793156543929)
def m2 (a : Int) : Int := IntKind.u64.wrap (bits BinOp.xor IntKind.u64 a (a / 134217728) * 10723151780598845931)
def mixZ (a : Int) : Int := bits BinOp.xor IntKind.u64 (m2 (m1 a)) (m2 (m1 a) / 2147483648)
/-- Where dice that stand at s stand behind a draw. -/
def stepZ (s : Int) : Int := IntKind.u64.wrap (s + 11400714819323198485)
/-- What Below tells of a drawn number x, below n. -/
def belowZ (x n : Int) : Int := IntKind.u64.wrap (x / 4294967296 * n) / 4294967296

theorem wrap_bd (x : Int) : 0 ≤ IntKind.u64.wrap x ∧ IntKind.u64.wrap x ≤ 18446744073709551615 := by rw [IntKind.wrap_u64]; omega
theorem xor_bd (a b : Int) (ha : 0 ≤ a ∧ a ≤ 18446744073709551615) (hb : 0 ≤ b ∧ b ≤ 18446744073709551615) :
    0 ≤ bits BinOp.xor IntKind.u64 a b ∧ bits BinOp.xor IntKind.u64 a b ≤ 18446744073709551615 := by
  rw [u64_xor a b ha.1 (by omega) hb.1 (by omega)]
  have h : a.toNat ^^^ b.toNat < 2 ^ 64 := Nat.xor_lt_two_pow (by omega) (by omega)
  omega
theorem m1_bd (a : Int) : 0 ≤ m1 a ∧ m1 a ≤ 18446744073709551615 := wrap_bd _
theorem m2_bd (a : Int) : 0 ≤ m2 a ∧ m2 a ≤ 18446744073709551615 := wrap_bd _
theorem stepZ_bd (a : Int) : 0 ≤ stepZ a ∧ stepZ a ≤ 18446744073709551615 := wrap_bd _
theorem mixZ_bd (a : Int) : 0 ≤ mixZ a ∧ mixZ a ≤ 18446744073709551615 := by
  have h := m2_bd (m1 a)
  unfold mixZ
  generalize m2 (m1 a) = x at *
  exact xor_bd _ _ h ⟨by omega, by omega⟩

theorem xorshift_inj (k : Nat) (hk : 0 < k) (a b : Nat) (h : a ^^^ (a >>> k) = b ^^^ (b >>> k)) : a = b := by
  have e : (a ^^^ b) = (a ^^^ b) >>> k := by
    rw [Nat.shiftRight_xor_distrib]
    have h2 : a ^^^ (a >>> k) ^^^ (b ^^^ (a >>> k)) = b ^^^ (b >>> k) ^^^ (b ^^^ (a >>> k)) := by rw [h]
    have l : a ^^^ (a >>> k) ^^^ (b ^^^ (a >>> k)) = a ^^^ b := by
      rw [Nat.xor_comm b, ← Nat.xor_assoc, Nat.xor_assoc a, Nat.xor_self, Nat.xor_zero]
    have r : b ^^^ (b >>> k) ^^^ (b ^^^ (a >>> k)) = (a >>> k) ^^^ (b >>> k) := by
      rw [Nat.xor_comm b, Nat.xor_assoc, ← Nat.xor_assoc b, Nat.xor_self, Nat.zero_xor, Nat.xor_comm]
    rw [l, r] at h2
    exact h2
  have z : a ^^^ b = 0 := by
    have hlt : (a ^^^ b) >>> k = (a ^^^ b) / 2 ^ k := Nat.shiftRight_eq_div_pow _ _
    rw [hlt] at e
    have h2 : 2 ≤ 2 ^ k := by
      have := Nat.pow_le_pow_right (n := 2) (by omega) hk
      simpa using this
    generalize a ^^^ b = d at *
    rcases Nat.eq_zero_or_pos d with h0 | h0
    · exact h0
    · have := Nat.div_lt_self h0 h2
      omega
  have : a ^^^ b ^^^ b = b := by rw [z, Nat.zero_xor]
  rwa [Nat.xor_assoc, Nat.xor_self, Nat.xor_zero] at this

theorem xorshift_injZ (k : Nat) (hk : 0 < k) (q : Int) (hq : q = ((2 ^ k : Nat) : Int)) (a b : Int) (ha : 0 ≤ a ∧ a ≤ 18446744073709551615) (hb : 0 ≤ b ∧ b ≤ 18446744073709551615)
    (h : bits BinOp.xor IntKind.u64 a (a / q) = bits BinOp.xor IntKind.u64 b (b / q)) : a = b := by
  have hp : 0 < 2 ^ k := Nat.two_pow_pos k
  have bd : ∀ x : Int, 0 ≤ x → 0 ≤ x / q ∧ x / q ≤ x := fun x hx => ⟨Int.ediv_nonneg hx (by omega), Int.ediv_le_self _ hx⟩
  rw [u64_xor a _ ha.1 (by omega) (bd a ha.1).1 (by have := (bd a ha.1).2; omega), u64_xor b _ hb.1 (by omega) (bd b hb.1).1 (by have := (bd b hb.1).2; omega)] at h
  have cv : ∀ x : Int, 0 ≤ x → (x / q).toNat = x.toNat >>> k := fun x hx => by
    rw [Nat.shiftRight_eq_div_pow]
    obtain ⟨n, rfl⟩ := Int.eq_ofNat_of_zero_le hx
    rw [hq, Int.toNat_natCast, ← Int.natCast_ediv, Int.toNat_natCast]
  rw [cv a ha.1, cv b hb.1] at h
  have := xorshift_inj k hk a.toNat b.toNat (by omega)
  omega

theorem mul_inj (c i : Int) (hi : (c * i) % 18446744073709551616 = 1) (a b : Int) (ha : 0 ≤ a ∧ a ≤ 18446744073709551615) (hb : 0 ≤ b ∧ b ≤ 18446744073709551615)
    (h : IntKind.u64.wrap (a * c) = IntKind.u64.wrap (b * c)) : a = b := by
  rw [IntKind.wrap_u64, IntKind.wrap_u64] at h
  have k : ∀ x : Int, 0 ≤ x → x ≤ 18446744073709551615 → (x * c) % 18446744073709551616 * i % 18446744073709551616 = x := fun x h0 h1 => by
    rw [Int.mul_emod, Int.emod_emod_of_dvd _ (Int.dvd_refl _), ← Int.mul_emod, Int.mul_assoc, Int.mul_emod, hi]
    omega
  rw [← k a ha.1 ha.2, ← k b hb.1 hb.2, h]

theorem mix_inj (a b : Int) (ha : 0 ≤ a ∧ a ≤ 18446744073709551615) (hb : 0 ≤ b ∧ b ≤ 18446744073709551615) (h : mixZ a = mixZ b) : a = b := by
  have s1 := xorshift_injZ 31 (by omega) 2147483648 (by decide) _ _ (m2_bd (m1 a)) (m2_bd (m1 b)) h
  have q : ∀ x : Int, 0 ≤ x ∧ x ≤ 18446744073709551615 → ∀ d : Int, 1 ≤ d → 0 ≤ x / d ∧ x / d ≤ 18446744073709551615 := fun x hx d hd =>
    ⟨Int.ediv_nonneg hx.1 (by omega), by have := Int.ediv_le_self d hx.1; omega⟩
  have s2 := mul_inj 10723151780598845931 3573116690164977347 (by decide) _ _ (xor_bd _ _ (m1_bd a) (q _ (m1_bd a) 134217728 (by omega))) (xor_bd _ _ (m1_bd b) (q _ (m1_bd b) 134217728 (by omega))) s1
  have s3 := xorshift_injZ 27 (by omega) 134217728 (by decide) _ _ (m1_bd a) (m1_bd b) s2
  have s4 := mul_inj 13787848793156543929 10871156337175269513 (by decide) _ _ (xor_bd _ _ ha (q _ ha 1073741824 (by omega))) (xor_bd _ _ hb (q _ hb 1073741824 (by omega))) s3
  exact xorshift_injZ 30 (by omega) 1073741824 (by decide) _ _ ha hb s4

theorem step_inj (a b : Int) (ha : 0 ≤ a ∧ a ≤ 18446744073709551615) (hb : 0 ≤ b ∧ b ≤ 18446744073709551615) (h : stepZ a = stepZ b) : a = b := by
  unfold stepZ at h
  rw [IntKind.wrap_u64, IntKind.wrap_u64] at h
  omega

theorem mix_first : mixZ 11400714819323198485 = 16294208416658607535 := by decide +kernel
theorem mix_zero : mixZ 0 = 0 := by decide +kernel

theorem below_bd (x n : Int) (hx : 0 ≤ x ∧ x ≤ 18446744073709551615) (hn : 1 ≤ n ∧ n ≤ 2147483648) : 0 ≤ belowZ x n ∧ belowZ x n < n := by
  have h0 : 0 ≤ x / 4294967296 ∧ x / 4294967296 ≤ 4294967295 := by omega
  unfold belowZ
  generalize x / 4294967296 = y at *
  have h1 : 0 ≤ y * n := Int.mul_nonneg h0.1 (by omega)
  have h2 : y * n ≤ 4294967295 * n := Int.mul_le_mul_of_nonneg_right h0.2 (by omega)
  rw [IntKind.wrap_u64]
  generalize y * n = z at *
  omega
theorem mix_eq (a b : Int) (ha : 0 ≤ a ∧ a ≤ 18446744073709551615) (hb : 0 ≤ b ∧ b ≤ 18446744073709551615) : (mixZ a == mixZ b) = (a == b) := by
  by_cases h : a = b
  · subst h; rw [beq_self_eq_true, beq_self_eq_true]
  · have : mixZ a ≠ mixZ b := fun e => h (mix_inj a b ha hb e)
    rw [beq_eq_false_iff_ne.2 this, beq_eq_false_iff_ne.2 h]
theorem far_eq (a b : Int) (ha : 0 ≤ a ∧ a ≤ 18446744073709551615) (hb : 0 ≤ b ∧ b ≤ 18446744073709551615) : (mixZ (stepZ a) == mixZ (stepZ b)) = (a == b) := by
  rw [mix_eq _ _ (stepZ_bd a) (stepZ_bd b)]
  by_cases h : a = b
  · subst h; rw [beq_self_eq_true, beq_self_eq_true]
  · have : stepZ a ≠ stepZ b := fun e => h (step_inj a b ha hb e)
    rw [beq_eq_false_iff_ne.2 this, beq_eq_false_iff_ne.2 h]
/-- Where the dice of a draw stand: the seed's mix, turned by the round and the lot. -/
def seatZ (s r l : Int) : Int := bits BinOp.xor IntKind.u64 (mixZ s) (IntKind.u64.wrap (IntKind.u64.wrap (IntKind.u64.wrap r * 4294967296) + IntKind.u64.wrap l))
/-- What Draw tells. -/
def drawZ (s r l n : Int) : Int := if n < 1 ∨ 2147483648 < n then 0 else belowZ (mixZ (stepZ (seatZ s r l))) n
theorem mask_bd (n : Int) : 0 ≤ bits BinOp.and IntKind.i64 n 2147483647 ∧ bits BinOp.and IntKind.i64 n 2147483647 ≤ 2147483647 := by
  show 0 ≤ IntKind.i64.wrap ((BitVec.ofInt 64 n &&& BitVec.ofInt 64 2147483647).toNat : Int) ∧ IntKind.i64.wrap ((BitVec.ofInt 64 n &&& BitVec.ofInt 64 2147483647).toNat : Int) ≤ 2147483647
  rw [BitVec.toNat_and]
  have h : (BitVec.ofInt 64 n).toNat &&& (BitVec.ofInt 64 2147483647).toNat ≤ 2147483647 := Nat.and_le_right
  generalize (BitVec.ofInt 64 n).toNat &&& (BitVec.ofInt 64 2147483647).toNat = x at *
  rw [IntKind.wrap_i64]
  omega
/-- What Below(n) of dice at s tells, and where they stand behind it. -/
def tellZ (s n : Int) : Int := if n < 1 ∨ 2147483648 < n then 0 else belowZ (mixZ (stepZ s)) n
def afterZ (s n : Int) : Int := if n < 1 ∨ 2147483648 < n then s else stepZ s
end Go.Proofs.Ytnmknpdbjolbpaa
