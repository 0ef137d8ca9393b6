/- The contracts of package money's Sub, size, signed, Times and Narrow, and of math/bits.Mul64: what each call answers; memory is as it was. -/
import Derived.Test.YtjobdibkpddemaaMem
import Derived.Test.YtjobdibkpddemaaMoneyBits
import Derived.Test.YtjobdibkpddemaaRows
import Derived.Lib.Mul64
import Derived.Laws.Bits64b
import Derived.WalkKit
import Derived.WalkSpells
import Derived.WalkLawsBesides
import Derived.Lib.Hide
namespace Go.Proofs.Ytjobdibkpddemaa
open Go.RowKit
set_option linter.unusedVariables false

theorem sub_any (a b : Int) (w : World) (a0 : -9223372036854775808 ≤ a) (a1 : a ≤ 9223372036854775807) (b0 : -9223372036854775808 ≤ b) (b1 : b ≤ 9223372036854775807) :
    Calls Try.prog 23 #[.int .i64 a, .int .i64 b] w fun e w' => e = .returned (.tuple #[.int .i64 (fitV (a - b)), .int .i64 (fitE (a - b))]) ∧ w = w' := by
  have hs := sub_sign a b a0 a1 b0 b1
  by_cases hT : -9223372036854775808 ≤ a - b ∧ a - b ≤ 9223372036854775807
  · have HV := Lib.hid (fit_in hT)
    have e : wrap64 (a - b) = a - b := IntWalk.wrap64_in _ hT
    rw [e] at hs
    have hn : ¬ bits .and .i64 (bits .xor .i64 a b) (bits .xor .i64 a (a - b)) < 0 := fun h => hs.1 h hT
    obtain ⟨t0, t1⟩ := hT
    clear hs e
    go_enter Try.func23, Try.ntmps23
    go_wp2_with fail
    go_ret2
    exact ⟨by rw [HV.out.1, HV.out.2]; rfl, rfl⟩
  · have HV := Lib.hid (fit_out hT)
    have hn := hs.2 hT
    clear hs hT
    go_enter Try.func23, Try.ntmps23
    go_wp2_with fail
    go_ret2
    exact ⟨by rw [HV.out.1, HV.out.2]; rfl, rfl⟩

def sizeZ (a : Int) : Int := if a < 0 then -a else a
theorem size_any (a : Int) (w : World) (a0 : -9223372036854775808 ≤ a) (a1 : a ≤ 9223372036854775807) :
    Calls Try.prog 34 #[.int .i64 a] w fun e w' => e = .returned (.int .u64 (sizeZ a)) ∧ w = w' := by
  by_cases h : a < 0
  · have H := Lib.hid (show IntKind.u64.wrap (-IntKind.u64.wrap a) = sizeZ a by unfold sizeZ; rw [if_pos h, IntKind.wrap_u64, IntKind.wrap_u64]; omega)
    go_enter Try.func34, Try.ntmps34
    go_wp2_with fail
    go_ret
    exact ⟨by rw [← H.out]; rfl, rfl⟩
  · have H := Lib.hid (show sizeZ a = a by unfold sizeZ; rw [if_neg h])
    go_enter Try.func34, Try.ntmps34
    go_wp2_with fail
    go_ret
    exact ⟨by rw [H.out]; rfl, rfl⟩

/-- A size and a sign. -/
def sgZ (n : Int) (m : Bool) : Int := if m = true then -n else n
theorem signed_any (n : Int) (m : Bool) (w : World) (n0 : 0 ≤ n) (n1 : n ≤ 18446744073709551615) :
    Calls Try.prog 31 #[.int .u64 n, .bool m] w fun e w' => e = .returned (.tuple #[.int .i64 (fitV (sgZ n m)), .int .i64 (fitE (sgZ n m))]) ∧ w = w' := by
  cases m
  · have e : sgZ n false = n := rfl
    rw [e]
    by_cases h : n ≤ 9223372036854775807
    · have HV := Lib.hid (fit_in (x := n) (by omega))
      clear e
      go_enter Try.func31, Try.ntmps31
      go_wp2_with fail
      go_ret2
      exact ⟨by rw [HV.out.1, HV.out.2]; rfl, rfl⟩
    · have HV := Lib.hid (fit_out (x := n) (by omega))
      have hd : decide (n ≤ 9223372036854775807) = false := decide_eq_false h
      clear e
      go_enter Try.func31, Try.ntmps31
      go_wp2_with fail
      go_ret2
      exact ⟨by rw [HV.out.1, HV.out.2]; rfl, rfl⟩
  · have e : sgZ n true = -n := rfl
    rw [e]
    by_cases h : n ≤ 9223372036854775808
    · have HV := Lib.hid (fit_in (x := -n) (by omega))
      have H := Lib.hid (show wrap64 (IntKind.u64.wrap (-n)) = -n by unfold wrap64; rw [IntKind.wrap_u64]; omega)
      clear e
      go_enter Try.func31, Try.ntmps31
      go_wp2_with fail
      go_ret2
      exact ⟨by show Ending.returned (.tuple #[.int .i64 (wrap64 (IntKind.u64.wrap (-n))), .int .i64 0]) = _; rw [HV.out.1, HV.out.2, H.out], rfl⟩
    · have HV := Lib.hid (fit_out (x := -n) (by omega))
      have hd : decide (n ≤ 9223372036854775808) = false := decide_eq_false h
      clear e
      go_enter Try.func31, Try.ntmps31
      go_wp2_with fail
      go_ret2
      exact ⟨by rw [HV.out.1, HV.out.2]; rfl, rfl⟩

theorem mul_maskN (a : Nat) (ha : a < 18446744073709551616) : bits .and .u64 (a : Int) 4294967295 = ((a % 4294967296 : Nat) : Int) := by
  have h := bits_and_u64_nat a 4294967295 ha (by omega)
  have e : a &&& 4294967295 = a % 4294967296 := Nat.and_two_pow_sub_one_eq_mod a 32
  rw [e] at h
  exact h
theorem mul_divN (a : Nat) : (a : Int) / 4294967296 = ((a / 4294967296 : Nat) : Int) := by omega
theorem mul_mulN (a b : Nat) : (a : Int) * (b : Int) = ((a * b : Nat) : Int) := (Int.natCast_mul a b).symm
theorem mul_addN (a b : Nat) : (a : Int) + (b : Int) = ((a + b : Nat) : Int) := (Int.natCast_add a b).symm
theorem mul_wrapN (a : Nat) (ha : a < 18446744073709551616) : IntKind.u64.wrap (a : Int) = (a : Int) := by rw [IntKind.wrap_u64]; omega
theorem mul_wrapM (a : Nat) : IntKind.u64.wrap (a : Int) = ((a % 18446744073709551616 : Nat) : Int) := by rw [IntKind.wrap_u64]; omega
set_option maxHeartbeats 1000000 in
theorem mul64_nat (x y : Nat) (hx : x < 18446744073709551616) (hy : y < 18446744073709551616) (w : World) :
    Calls Try.prog 29 #[.int .u64 x, .int .u64 y] w fun e w' => e = .returned (.tuple #[.int .u64 ((x * y / 18446744073709551616 : Nat) : Int), .int .u64 ((x * y % 18446744073709551616 : Nat) : Int)]) ∧ w = w' := by
  obtain ⟨bd, bt, bw, hhi⟩ := Lib.mul64_hi x y hx hy
  have ba := Lib.half_mul_le (a := x / 4294967296) (b := y / 4294967296) (by omega) (by omega)
  have bb := Lib.half_mul_le (a := x / 4294967296) (b := y % 4294967296) (by omega) (by omega)
  have bc := Lib.half_mul_le (a := x % 4294967296) (b := y / 4294967296) (by omega) (by omega)
  have ba' : x / 4294967296 * (y / 4294967296) < 18446744073709551616 := by omega
  have bb' : x / 4294967296 * (y % 4294967296) < 18446744073709551616 := by omega
  have bc' : x % 4294967296 * (y / 4294967296) < 18446744073709551616 := by omega
  have bh1 : x / 4294967296 * (y / 4294967296) + (x / 4294967296 * (y % 4294967296) + x % 4294967296 * (y % 4294967296) / 4294967296) / 4294967296 < 18446744073709551616 := by omega
  have bh : x / 4294967296 * (y / 4294967296) + (x / 4294967296 * (y % 4294967296) + x % 4294967296 * (y % 4294967296) / 4294967296) / 4294967296 + ((x / 4294967296 * (y % 4294967296) + x % 4294967296 * (y % 4294967296) / 4294967296) % 4294967296 + x % 4294967296 * (y / 4294967296)) / 4294967296 < 18446744073709551616 := by omega
  go_enter Try.func29, Try.ntmps29
  go_wp2
  simp only [mul_maskN x hx, mul_maskN y hy, mul_divN, mul_mulN, mul_addN, mul_wrapN _ bd, mul_wrapN _ bb', mul_wrapN _ bt, mul_maskN _ bt, mul_wrapN _ bc', mul_wrapN _ bw, mul_wrapN _ ba', mul_wrapN _ bh1, mul_wrapN _ bh, mul_wrapM (x * y)]
  rw [hhi]
  go_ret2
  exact ⟨rfl, rfl⟩
theorem mul64_any (x y : Int) (w : World) (x0 : 0 ≤ x) (x1 : x ≤ 18446744073709551615) (y0 : 0 ≤ y) (y1 : y ≤ 18446744073709551615) :
    Calls Try.prog 29 #[.int .u64 x, .int .u64 y] w fun e w' => e = .returned (.tuple #[.int .u64 (x * y / 18446744073709551616), .int .u64 (x * y % 18446744073709551616)]) ∧ w = w' := by
  obtain ⟨X, rfl⟩ := Int.eq_ofNat_of_zero_le x0
  obtain ⟨Y, rfl⟩ := Int.eq_ofNat_of_zero_le y0
  refine (mul64_nat X Y (by omega) (by omega) w).mono fun e w' ⟨he, hw⟩ => ⟨?_, hw⟩
  rw [he, Int.natCast_ediv, Int.natCast_emod, Int.natCast_mul]
  rfl

/-! ### Times -/
theorem size_bd (a : Int) (a0 : -9223372036854775808 ≤ a) (a1 : a ≤ 9223372036854775807) : 0 ≤ sizeZ a ∧ sizeZ a ≤ 9223372036854775808 := by
  unfold sizeZ; split <;> omega
theorem times_sign (a n : Int) (a0 : -9223372036854775808 ≤ a) (a1 : a ≤ 9223372036854775807) (n0 : -9223372036854775808 ≤ n) (n1 : n ≤ 9223372036854775807) :
    sgZ (sizeZ a * sizeZ n) (!(decide (a < 0) == decide (n < 0))) = a * n := by
  unfold sizeZ sgZ
  by_cases h1 : a < 0 <;> by_cases h2 : n < 0
  · rw [if_pos h1, if_pos h2, decide_eq_true h1, decide_eq_true h2, if_neg (by simp), Int.neg_mul_neg]
  · rw [if_pos h1, if_neg h2, decide_eq_true h1, decide_eq_false h2, if_pos (by simp), Int.neg_mul, Int.neg_neg]
  · rw [if_neg h1, if_pos h2, decide_eq_false h1, decide_eq_true h2, if_pos (by simp), Int.mul_neg, Int.neg_neg]
  · rw [if_neg h1, if_neg h2, decide_eq_false h1, decide_eq_false h2, if_neg (by simp)]
theorem sg_out (n : Int) (m : Bool) (h : 9223372036854775808 < n) : ¬ (-9223372036854775808 ≤ sgZ n m ∧ sgZ n m ≤ 9223372036854775807) := by
  unfold sgZ
  split <;> omega
theorem times_any (a n : Int) (w : World) (a0 : -9223372036854775808 ≤ a) (a1 : a ≤ 9223372036854775807) (n0 : -9223372036854775808 ≤ n) (n1 : n ≤ 9223372036854775807) :
    Calls Try.prog 26 #[.int .i64 a, .int .i64 n] w fun e w' => e = .returned (.tuple #[.int .i64 (fitV (a * n)), .int .i64 (fitE (a * n))]) ∧ w = w' := by
  have hs := Lib.hid (times_sign a n a0 a1 n0 n1)
  obtain ⟨s0, s1⟩ := size_bd a a0 a1
  obtain ⟨t0, t1⟩ := size_bd n n0 n1
  have p0 : 0 ≤ sizeZ a * sizeZ n := Int.mul_nonneg s0 t0
  by_cases h : 0 < sizeZ a * sizeZ n / 18446744073709551616
  · have HV := Lib.hid (fit_out (x := a * n) (by rw [← hs.out]; exact sg_out _ _ (by omega)))
    clear hs
    go_enter Try.func26, Try.ntmps26
    go_wp2_with fail
    refine (size_any a _ a0 a1).mono ?_; rintro e w' ⟨rfl, rfl⟩
    go_wp2_with fail
    refine (size_any n _ n0 n1).mono ?_; rintro e w' ⟨rfl, rfl⟩
    go_wp2_with fail
    refine (mul64_any _ _ _ s0 (by omega) t0 (by omega)).mono ?_; rintro e w' ⟨rfl, rfl⟩
    go_wp2_with fail
    go_ret2
    exact ⟨by rw [HV.out.1, HV.out.2]; rfl, rfl⟩
  · have H := Lib.hid (show sizeZ a * sizeZ n % 18446744073709551616 = sizeZ a * sizeZ n by omega)
    go_enter Try.func26, Try.ntmps26
    go_wp2_with fail
    refine (size_any a _ a0 a1).mono ?_; rintro e w' ⟨rfl, rfl⟩
    go_wp2_with fail
    refine (size_any n _ n0 n1).mono ?_; rintro e w' ⟨rfl, rfl⟩
    go_wp2_with fail
    refine (mul64_any _ _ _ s0 (by omega) t0 (by omega)).mono ?_; rintro e w' ⟨rfl, rfl⟩
    rw [H.out]
    go_wp2_with fail
    refine (signed_any _ _ _ p0 (by omega)).mono ?_; rintro e w' ⟨rfl, rfl⟩
    rw [hs.out]
    go_wp2_with fail
    go_ret2
    exact ⟨rfl, rfl⟩

/-! ### Narrow -/
def narV (a n : Int) : Int := if n < 1 ∨ 64 < n then 0 else narrowZ a (n.toNat - 1)
def narB (a n : Int) : Bool := decide (¬ (n < 1 ∨ 64 < n) ∧ narrowZ a (n.toNat - 1) = a)
theorem narrow_any (a n : Int) (w : World) (a0 : -9223372036854775808 ≤ a) (a1 : a ≤ 9223372036854775807) :
    Calls Try.prog 19 #[.int .i64 a, .int .i64 n] w fun e w' => e = .returned (.tuple #[.int .i64 (narV a n), .bool (narB a n)]) ∧ w = w' := by
  by_cases h1 : n < 1
  · have HV := Lib.hid (show narV a n = 0 ∧ narB a n = false from ⟨by unfold narV; rw [if_pos (Or.inl h1)], decide_eq_false (fun h => h.1 (Or.inl h1))⟩)
    go_enter Try.func19, Try.ntmps19
    go_wp2_with fail
    go_ret2
    exact ⟨by rw [HV.out.1, HV.out.2]; rfl, rfl⟩
  · by_cases h2 : 64 < n
    · have HV := Lib.hid (show narV a n = 0 ∧ narB a n = false from ⟨by unfold narV; rw [if_pos (Or.inr h2)], decide_eq_false (fun h => h.1 (Or.inr h2))⟩)
      go_enter Try.func19, Try.ntmps19
      go_wp2_with fail
      go_ret2
      exact ⟨by rw [HV.out.1, HV.out.2]; rfl, rfl⟩
    · obtain ⟨k, hk, hkn⟩ : ∃ k : Nat, k ≤ 63 ∧ n = (k : Int) + 1 := ⟨n.toNat - 1, by omega, by omega⟩
      have e1 : n.toNat - 1 = k := by omega
      have HV := Lib.hid (show narV a n = narrowZ a k ∧ narB a n = (narrowZ a k == a) from ⟨by unfold narV; rw [if_neg (by omega), e1], by
        have hn : ¬ (n < 1 ∨ 64 < n) := by omega
        unfold narB
        rw [e1, Bool.eq_iff_iff, decide_eq_true_eq, beq_iff_eq]
        exact ⟨fun h => h.2, fun h => ⟨hn, h⟩⟩⟩)
      subst hkn
      have H := Lib.hid (narrow_shift a k hk)
      clear e1
      go_enter Try.func19, Try.ntmps19
      go_wp2_with fail
      rw [H.out]
      go_ret2
      exact ⟨by rw [HV.out.1, HV.out.2]; rfl, rfl⟩

end Go.Proofs.Ytjobdibkpddemaa
