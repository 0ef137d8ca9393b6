/- The contracts of math/bits.Div64 by 10000, and of package money's Share: what each call answers; memory is as it was. LeadingZeros64 by the shelf's contract, laid in plain words (the kit's lay-plain.mjs). -/
import Derived.Test.YtjobdibkpddemaaMoneyRef
import Derived.Shelf.Small.Bits
import Derived.Shelf.Strconv.Itoa0
import Derived.LoopN
import Derived.Deep.QuietTactic
import Derived.BigQuiet
import Derived.Outline
namespace Go.Proofs.Ytjobdibkpddemaa
open Go.RowKit Go.Shelf
set_option linter.unusedVariables false

def lays134_ren : Go.Shelf.Ren := ⟨fun | 134 => 36 | 129 => 37 | n => n, fun | 53 => 42 | 3 => 3 | 4 => 4 | 46 => 39 | 5 => 5 | 9 => 9 | n => n, fun | n => n⟩
theorem lays134 : Go.Proofs.Lays.n134 Try.prog lays134_ren := {
  mixed := by kernel_rfl
  f129 := Try.func37.trans (congrArg some (by kernel_rfl))
  f134 := Try.func36.trans (congrArg some (by kernel_rfl))
  t3 := Try.underlying3
  a3 := Try.isAgg3
  z3 := Try.sizeOf3
  v3 := Try.zeroValue3
  t4 := Try.underlying4
  a4 := Try.isAgg4
  z4 := Try.sizeOf4
  v4 := Try.zeroValue4
  t5 := Try.underlying5
  a5 := Try.isAgg5
  z5 := Try.sizeOf5
  v5 := Try.zeroValue5
  t9 := Try.underlying9
  a9 := Try.isAgg9
  z9 := Try.sizeOf9
  v9 := Try.zeroValue9
  t46 := Try.underlying39
  a46 := Try.isAgg39
  z46 := Try.sizeOf39
  v46 := Try.zeroValue39
  t53 := Try.underlying42
  a53 := Try.isAgg42
  z53 := Try.sizeOf42
  v53 := Try.zeroValue42 }
theorem zeros64 (x : Int) (w : World) (h0 : 0 ≤ x) (h1 : x ≤ 18446744073709551615) :
    Calls Try.prog 36 #[.int .u64 x] w fun e w' => e = .returned (.int .i64 (64 - (Lib.bitLen x.toNat : Int))) ∧ w' = w := Any.bits_LeadingZeros64 lays134 x w h0 h1
theorem zeros_10k (w : World) : Calls Try.prog 36 #[.int .u64 10000] w fun e w' => e = .returned (.int .i64 50) ∧ w = w' :=
  (zeros64 10000 w (by decide) (by decide)).mono fun e w' ⟨he, hw⟩ => ⟨he, hw.symm⟩

/-- What Div64 answers: the quotient, and some rest. -/
def DivPost (q : Int) (w : World) (e : Ending) (w' : World) : Prop := ∃ (r : Int) (n : Nat), e = .returned (.tuple #[.int .u64 q, .int .u64 r]) ∧ w.drewN n = w'

theorem or_join (hi lo : Int) (h0 : 0 ≤ hi) (h1 : hi < 10000) (l0 : 0 ≤ lo) (l1 : lo ≤ 18446744073709551615) :
    bits .or .u64 (hi * 1125899906842624) (lo / 16384) = hi * 1125899906842624 + lo / 16384 := by
  have h := u64_or (hi * 1125899906842624) (lo / 16384) (by omega) (by omega) (by omega) (by omega)
  rw [h, nat_join 50 _ _ (by omega) (by omega)]
  omega

theorem mask32 (z : Int) (h0 : 0 ≤ z) (h1 : z ≤ 18446744073709551615) : bits .and .u64 z 4294967295 = z % 4294967296 := by
  obtain ⟨Z, rfl⟩ := Int.eq_ofNat_of_zero_le h0
  rw [mul_maskN Z (by omega)]
  omega
set_option maxHeartbeats 2000000 in
theorem div64_10k (hi lo : Int) (w : World) (h0 : 0 ≤ hi) (h1 : hi < 10000) (l0 : 0 ≤ lo) (l1 : lo ≤ 18446744073709551615) :
    Calls Try.prog 30 #[.int .u64 hi, .int .u64 lo, .int .u64 10000] w fun e w' => DivPost ((hi * 18446744073709551616 + lo) / 10000) w e w' := by
  by_cases hz : hi = 0
  · subst hz
    have H := Lib.hid (show (0 * 18446744073709551616 + lo) / 10000 = lo / 10000 by omega)
    go_enter Try.func30, Try.ntmps30
    go_wp2_with fail
    go_quiet (fail)
    go_wp2_with fail
    refine bodyPost_ret (results_tmp2 rfl _ _ _) rfl ?_
    rw [H.out]
    exact ⟨_, _, rfl, rfl⟩
  · have hq : (hi == 0) = false := beq_eq_false_iff_ne.2 hz
    have hne : 0 < hi := by omega
    clear hz
    go_enter Try.func30, Try.ntmps30
    go_wp2_with fail
    refine (zeros_10k _).mono ?_; rintro e w' ⟨rfl, rfl⟩
    go_wp2_with fail
    have o1 := or_join hi lo h0 h1 l0 l1
    have o2 : bits .and .u64 11258999068426240000 4294967295 = 0 := by kernel_rfl
    obtain ⟨X, hX⟩ : ∃ X, X = hi * 1125899906842624 + lo / 16384 := ⟨_, rfl⟩
    obtain ⟨Y, hY⟩ : ∃ Y, Y = IntKind.u64.wrap (lo * 1125899906842624) := ⟨_, rfl⟩
    rw [← hX] at o1
    have y0 : 0 ≤ Y ∧ Y ≤ 18446744073709551615 ∧ Y = lo % 16384 * 1125899906842624 := by rw [hY, IntKind.wrap_u64]; omega
    obtain ⟨y0, y1, y2⟩ := y0
    have x0 : 0 ≤ X := by omega
    have x1 : X < 11258999068426240000 := by omega
    have o3 : bits .and .u64 Y 4294967295 = Y % 4294967296 := mask32 Y y0 y1
    obtain ⟨q, hq'⟩ : ∃ q, q = X / 2621440000 := ⟨_, rfl⟩
    obtain ⟨r, hr'⟩ : ∃ r, r = X % 2621440000 := ⟨_, rfl⟩
    have q0 : 0 ≤ q := by omega
    have q1 : q < 4294967296 := by omega
    have r0 : 0 ≤ r := by omega
    have r1 : r < 2621440000 := by omega
    have e1 : IntKind.u64.wrap (X.tdiv 2621440000) = q := by rw [Int.tdiv_eq_ediv_of_nonneg x0, ← hq', IntKind.wrap_u64]; omega
    have e2 : IntKind.u64.wrap (X - IntKind.u64.wrap (q * 2621440000)) = r := by rw [IntKind.wrap_u64, IntKind.wrap_u64]; omega
    have e3 : IntKind.u64.wrap (q * 2621440000) = q * 2621440000 := by rw [IntKind.wrap_u64]; omega
    rw [← hY, o1, o2, o3, e1, e2, e3]
    have HX := Lib.hid hX
    have HY := Lib.hid y2
    have HQ := Lib.hid hq'
    have HR := Lib.hid hr'
    clear hX hY y2 hq' hr' o1 o2 o3 e1 e2 e3
    refine wp_loop_rounds 1 ?_
    rw [rounds_succ]
    go_wp2_with fail
    obtain ⟨Z, hZ⟩ : ∃ Z, Z = r * 4294967296 + Y / 4294967296 := ⟨_, rfl⟩
    have z0 : 0 ≤ Z := by omega
    have z1 : Z < 11258999068426240000 := by omega
    have e4 : IntKind.u64.wrap (IntKind.u64.wrap (IntKind.u64.wrap (X * 4294967296) + Y / 4294967296) - IntKind.u64.wrap (q * 11258999068426240000)) = Z := by
      have a1 := HQ.out
      have a2 := HR.out
      rw [IntKind.wrap_u64, IntKind.wrap_u64, IntKind.wrap_u64, IntKind.wrap_u64]
      omega
    obtain ⟨q2, hq2⟩ : ∃ q2, q2 = Z / 2621440000 := ⟨_, rfl⟩
    obtain ⟨r2, hr2⟩ : ∃ r2, r2 = Z % 2621440000 := ⟨_, rfl⟩
    have q3 : 0 ≤ q2 := by omega
    have q4 : q2 < 4294967296 := by omega
    have r3 : 0 ≤ r2 := by omega
    have r4 : r2 < 2621440000 := by omega
    have e5 : IntKind.u64.wrap (Z.tdiv 2621440000) = q2 := by rw [Int.tdiv_eq_ediv_of_nonneg z0, ← hq2, IntKind.wrap_u64]; omega
    have e6 : IntKind.u64.wrap (q2 * 2621440000) = q2 * 2621440000 := by rw [IntKind.wrap_u64]; omega
    have e7 : IntKind.u64.wrap (Z - q2 * 2621440000) = r2 := by rw [IntKind.wrap_u64]; omega
    rw [e4, e5, e6, e7]
    have y3 : 0 ≤ Y % 4294967296 := by omega
    have y4 : Y % 4294967296 < 4294967296 := by omega
    have HA := Lib.hid (show (hi * 18446744073709551616 + lo) / 10000 = q * 4294967296 + q2 by
      have a1 := HQ.out
      have a2 := HR.out
      have a3 := HX.out
      have a4 := HY.out
      omega)
    clear hZ e4 hq2 hr2 e5 e6 e7
    refine wp_loop_rounds 1 ?_
    rw [rounds_succ]
    go_wp2_with fail
    refine bodyPost_ret (results_tmp2 rfl _ _ _) rfl ?_
    rw [HA.out]
    exact ⟨_, 0, rfl, rfl⟩

/-! ### Share -/
theorem share_any (a b : Int) (w : World) (a0 : -9223372036854775808 ≤ a) (a1 : a ≤ 9223372036854775807) (b0 : -9223372036854775808 ≤ b) (b1 : b ≤ 9223372036854775807) :
    Calls Try.prog 12 #[.int .i64 a, .int .i64 b] w fun e w' => e = .returned (.tuple #[.int .i64 (shareV a b), .int .i64 (shareE a b)]) ∧ Below w.heap.size w w' := by
  by_cases h : a < 0 ∨ b < 0 ∨ 1000000 < b
  · have HV := Lib.hid (show shareV a b = 0 ∧ shareE a b = 1 from ⟨by unfold shareV; rw [if_pos h], by unfold shareE; rw [if_pos h]⟩)
    by_cases h1 : a < 0
    · go_enter Try.func12, Try.ntmps12
      go_wp2_with fail
      go_ret2
      exact ⟨by rw [HV.out.1, HV.out.2]; rfl, Below.refl _ _⟩
    by_cases h2 : b < 0
    · go_enter Try.func12, Try.ntmps12
      go_wp2_with fail
      go_ret2
      exact ⟨by rw [HV.out.1, HV.out.2]; rfl, Below.refl _ _⟩
    have h3 : 1000000 < b := by omega
    go_enter Try.func12, Try.ntmps12
    go_wp2_with fail
    go_ret2
    exact ⟨by rw [HV.out.1, HV.out.2]; rfl, Below.refl _ _⟩
  · have HV := Lib.hid (show shareV a b = fitV (shareZ a b) ∧ shareE a b = fitE (shareZ a b) from ⟨by unfold shareV; rw [if_neg h], by unfold shareE; rw [if_neg h]⟩)
    obtain ⟨q0, q1, q2⟩ : 0 ≤ a ∧ 0 ≤ b ∧ b ≤ 1000000 := by omega
    clear h
    have hp : 0 ≤ a * b := Int.mul_nonneg q0 q1
    have hs : shareZ a b = a * b / 10000 := rfl
    have w1 : IntKind.u64.wrap a = a := by rw [IntKind.wrap_u64]; omega
    have w2 : IntKind.u64.wrap b = b := by rw [IntKind.wrap_u64]; omega
    by_cases ho : 10000 ≤ a * b / 18446744073709551616
    · have G := Lib.hid (fit_out (x := shareZ a b) (by rw [hs]; omega))
      clear hs w1 w2
      go_enter Try.func12, Try.ntmps12
      go_wp2_with fail
      refine (mul64_any a b _ q0 (by omega) q1 (by omega)).mono ?_; rintro e w' ⟨rfl, rfl⟩
      go_wp2_with fail
      go_ret2
      exact ⟨by rw [HV.out.1, HV.out.2, G.out.1, G.out.2]; rfl, Below.refl _ _⟩
    · have m0 : 0 ≤ a * b / 18446744073709551616 := by omega
      have m1 : a * b / 18446744073709551616 < 10000 := by omega
      have m2 : 0 ≤ a * b % 18446744073709551616 := by omega
      have m3 : a * b % 18446744073709551616 ≤ 18446744073709551615 := by omega
      have HQ := Lib.hid (show (a * b / 18446744073709551616 * 18446744073709551616 + a * b % 18446744073709551616) / 10000 = shareZ a b by rw [hs]; omega)
      have n0 : 0 ≤ shareZ a b := by rw [hs]; omega
      have n1 : shareZ a b ≤ 18446744073709551615 := by rw [hs]; omega
      clear hs w1 w2 ho
      go_enter Try.func12, Try.ntmps12
      go_wp2_with fail
      refine (mul64_any a b _ q0 (by omega) q1 (by omega)).mono ?_; rintro e w' ⟨rfl, rfl⟩
      go_wp2_with fail
      refine (div64_10k _ _ _ m0 m1 m2 m3).mono ?_; rintro e w' ⟨r, n, rfl, rfl⟩
      rw [HQ.out]
      go_wp2_with fail
      refine (signed_any _ false _ n0 n1).mono ?_; rintro e w' ⟨rfl, rfl⟩
      go_wp2_with fail
      go_ret2
      exact ⟨by rw [HV.out.1, HV.out.2]; rfl, below_drewN (Below.refl _ _) _⟩
end Go.Proofs.Ytjobdibkpddemaa
