/- The contracts of the reference's Add, Sub, Times, Narrow, halves, Share and Up (package vendueref01): what each call answers; memory is as it was, but for what is new. -/
import Derived.Test.YtjobdibkpddemaaMoneyOps
import Derived.Test.YtjobdibkpddemaaMoney
namespace Go.Proofs.Ytjobdibkpddemaa
open Go.RowKit
set_option linter.unusedVariables false

theorem refAdd_any (a b : Int) (w : World) (a0 : -9223372036854775808 ≤ a) (a1 : a ≤ 9223372036854775807) (b0 : -9223372036854775808 ≤ b) (b1 : b ≤ 9223372036854775807) :
    Calls Try.prog 24 #[.int .i64 a, .int .i64 b] w fun e w' => e = .returned (.tuple #[.int .i64 (fitV (a + b)), .int .i64 (fitE (a + b))]) ∧ w = w' := by
  by_cases hb : 0 < b
  · by_cases ho : 9223372036854775807 - b < a
    · have HV := Lib.hid (fit_out (x := a + b) (by omega))
      go_enter Try.func24, Try.ntmps24
      go_wp2_with fail
      go_ret2
      exact ⟨by rw [HV.out.1, HV.out.2]; rfl, rfl⟩
    · have HV := Lib.hid (fit_in (x := a + b) (by omega))
      go_enter Try.func24, Try.ntmps24
      go_wp2_with fail
      go_ret2
      exact ⟨by rw [HV.out.1, HV.out.2]; rfl, rfl⟩
  · by_cases hb2 : b < 0
    · by_cases ho : a < -9223372036854775808 - b
      · have HV := Lib.hid (fit_out (x := a + b) (by omega))
        go_enter Try.func24, Try.ntmps24
        go_wp2_with fail
        go_ret2
        exact ⟨by rw [HV.out.1, HV.out.2]; rfl, rfl⟩
      · have HV := Lib.hid (fit_in (x := a + b) (by omega))
        go_enter Try.func24, Try.ntmps24
        go_wp2_with fail
        go_ret2
        exact ⟨by rw [HV.out.1, HV.out.2]; rfl, rfl⟩
    · obtain rfl : b = 0 := by omega
      have HV := Lib.hid (fit_in (x := a) (by omega))
      go_enter Try.func24, Try.ntmps24
      go_wp2_with fail
      go_ret2
      exact ⟨by rw [HV.out.1, HV.out.2]; rfl, rfl⟩

theorem refSub_any (a b : Int) (w : World) (a0 : -9223372036854775808 ≤ a) (a1 : a ≤ 9223372036854775807) (b0 : -9223372036854775808 ≤ b) (b1 : b ≤ 9223372036854775807) :
    Calls Try.prog 25 #[.int .i64 a, .int .i64 b] w fun e w' => e = .returned (.tuple #[.int .i64 (fitV (a - b)), .int .i64 (fitE (a - b))]) ∧ w = w' := by
  by_cases hb : 0 < b
  · by_cases ho : a < -9223372036854775808 + b
    · have HV := Lib.hid (fit_out (x := a - b) (by omega))
      go_enter Try.func25, Try.ntmps25
      go_wp2_with fail
      go_ret2
      exact ⟨by rw [HV.out.1, HV.out.2]; rfl, rfl⟩
    · have HV := Lib.hid (fit_in (x := a - b) (by omega))
      go_enter Try.func25, Try.ntmps25
      go_wp2_with fail
      go_ret2
      exact ⟨by rw [HV.out.1, HV.out.2]; rfl, rfl⟩
  · by_cases hb2 : b < 0
    · by_cases ho : 9223372036854775807 + b < a
      · have HV := Lib.hid (fit_out (x := a - b) (by omega))
        go_enter Try.func25, Try.ntmps25
        go_wp2_with fail
        go_ret2
        exact ⟨by rw [HV.out.1, HV.out.2]; rfl, rfl⟩
      · have HV := Lib.hid (fit_in (x := a - b) (by omega))
        go_enter Try.func25, Try.ntmps25
        go_wp2_with fail
        go_ret2
        exact ⟨by rw [HV.out.1, HV.out.2]; rfl, rfl⟩
    · obtain rfl : b = 0 := by omega
      have HV := Lib.hid (fit_in (x := a) (by omega))
      go_enter Try.func25, Try.ntmps25
      go_wp2_with fail
      go_ret2
      exact ⟨by rw [HV.out.1, HV.out.2]; rfl, rfl⟩

theorem refTimes_any (a n : Int) (w : World) (a0 : -9223372036854775808 ≤ a) (a1 : a ≤ 9223372036854775807) (n0 : -9223372036854775808 ≤ n) (n1 : n ≤ 9223372036854775807) :
    Calls Try.prog 27 #[.int .i64 a, .int .i64 n] w fun e w' => e = .returned (.tuple #[.int .i64 (fitV (a * n)), .int .i64 (fitE (a * n))]) ∧ w = w' := by
  by_cases ha : a = 0
  · subst ha
    have HV := Lib.hid (fit_in (x := 0 * n) (by omega))
    have H0 := Lib.hid (Int.zero_mul n)
    go_enter Try.func27, Try.ntmps27
    go_wp2_with fail
    go_ret2
    exact ⟨by rw [HV.out.1, HV.out.2, H0.out]; rfl, rfl⟩
  by_cases hn : n = 0
  · subst hn
    have HV := Lib.hid (fit_in (x := a * 0) (by omega))
    have H0 := Lib.hid (Int.mul_zero a)
    have e1 : (a == 0) = false := beq_eq_false_iff_ne.2 ha
    clear ha
    go_enter Try.func27, Try.ntmps27
    go_wp2_with fail
    go_ret2
    exact ⟨by rw [HV.out.1, HV.out.2, H0.out]; rfl, rfl⟩
  have e1 : (a == 0) = false := beq_eq_false_iff_ne.2 ha
  have e2 : (n == 0) = false := beq_eq_false_iff_ne.2 hn
  by_cases hc : 0 < a ∧ 0 < n
  · obtain ⟨p, q⟩ := hc
    clear ha hn
    have hl := over_pp a n (by omega)
    have hm := mul_pp (a := a) (n := n) (by omega) (by omega)
    by_cases ho : 9223372036854775807 / n < a
    · have HV := Lib.hid (fit_out (x := a * n) (by omega))
      have ht : decide (9223372036854775807 / n < a) = true := decide_eq_true ho
      clear hl
      go_enter Try.func27, Try.ntmps27
      go_wp2_with fail
      go_ret2
      exact ⟨by rw [HV.out.1, HV.out.2]; rfl, rfl⟩
    · have HV := Lib.hid (fit_in (x := a * n) (by omega))
      have ht : decide (9223372036854775807 / n < a) = false := decide_eq_false ho
      obtain ⟨m0, m1⟩ : -9223372036854775808 ≤ a * n ∧ a * n ≤ 9223372036854775807 := by omega
      clear hl hm
      go_enter Try.func27, Try.ntmps27
      go_wp2_with fail
      go_ret2
      exact ⟨by rw [HV.out.1, HV.out.2]; rfl, rfl⟩
  by_cases hc : 0 < a ∧ n < 0
  · obtain ⟨p, q⟩ := hc
    clear ha hn
    have hl := over_pm2 a n (by omega)
    have hm := mul_pm (a := a) (n := n) (by omega) (by omega)
    by_cases ho : n < wrap64 (-Int.tdiv 9223372036854775808 a)
    · have HV := Lib.hid (fit_out (x := a * n) (by omega))
      have ht : decide (n < wrap64 (-Int.tdiv 9223372036854775808 a)) = true := decide_eq_true ho
      clear hl
      go_enter Try.func27, Try.ntmps27
      go_wp2_with fail
      go_ret2
      exact ⟨by rw [HV.out.1, HV.out.2]; rfl, rfl⟩
    · have HV := Lib.hid (fit_in (x := a * n) (by omega))
      have ht : decide (n < wrap64 (-Int.tdiv 9223372036854775808 a)) = false := decide_eq_false ho
      obtain ⟨m0, m1⟩ : -9223372036854775808 ≤ a * n ∧ a * n ≤ 9223372036854775807 := by omega
      clear hl hm
      go_enter Try.func27, Try.ntmps27
      go_wp2_with fail
      go_ret2
      exact ⟨by rw [HV.out.1, HV.out.2]; rfl, rfl⟩
  by_cases hc : a < 0 ∧ 0 < n
  · obtain ⟨p, q⟩ := hc
    clear ha hn
    have hl := over_mp2 a n (by omega)
    have hm := mul_mp (a := a) (n := n) (by omega) (by omega)
    by_cases ho : a < wrap64 (-Int.tdiv 9223372036854775808 n)
    · have HV := Lib.hid (fit_out (x := a * n) (by omega))
      have ht : decide (a < wrap64 (-Int.tdiv 9223372036854775808 n)) = true := decide_eq_true ho
      clear hl
      go_enter Try.func27, Try.ntmps27
      go_wp2_with fail
      go_ret2
      exact ⟨by rw [HV.out.1, HV.out.2]; rfl, rfl⟩
    · have HV := Lib.hid (fit_in (x := a * n) (by omega))
      have ht : decide (a < wrap64 (-Int.tdiv 9223372036854775808 n)) = false := decide_eq_false ho
      obtain ⟨m0, m1⟩ : -9223372036854775808 ≤ a * n ∧ a * n ≤ 9223372036854775807 := by omega
      clear hl hm
      go_enter Try.func27, Try.ntmps27
      go_wp2_with fail
      go_ret2
      exact ⟨by rw [HV.out.1, HV.out.2]; rfl, rfl⟩
  by_cases hc : a < 0 ∧ n < 0
  · obtain ⟨p, q⟩ := hc
    clear ha hn
    have hl := over_mm2 a n (by omega)
    have hm := mul_mm (a := a) (n := n) (by omega) (by omega)
    by_cases ho : a < wrap64 (Int.tdiv 9223372036854775807 n)
    · have HV := Lib.hid (fit_out (x := a * n) (by omega))
      have ht : decide (a < wrap64 (Int.tdiv 9223372036854775807 n)) = true := decide_eq_true ho
      clear hl
      go_enter Try.func27, Try.ntmps27
      go_wp2_with fail
      go_ret2
      exact ⟨by rw [HV.out.1, HV.out.2]; rfl, rfl⟩
    · have HV := Lib.hid (fit_in (x := a * n) (by omega))
      have ht : decide (a < wrap64 (Int.tdiv 9223372036854775807 n)) = false := decide_eq_false ho
      obtain ⟨m0, m1⟩ : -9223372036854775808 ≤ a * n ∧ a * n ≤ 9223372036854775807 := by omega
      clear hl hm
      go_enter Try.func27, Try.ntmps27
      go_wp2_with fail
      go_ret2
      exact ⟨by rw [HV.out.1, HV.out.2]; rfl, rfl⟩
  omega

theorem refNarrow_any (a n : Int) (w : World) (a0 : -9223372036854775808 ≤ a) (a1 : a ≤ 9223372036854775807) :
    Calls Try.prog 20 #[.int .i64 a, .int .i64 n] w fun e w' => e = .returned (.tuple #[.int .i64 (narV a n), .bool (narB a n)]) ∧ w = w' := by
  by_cases h1 : n < 1
  · have HV := Lib.hid (show narV a n = 0 ∧ narB a n = false from ⟨by unfold narV; rw [if_pos (Or.inl h1)], decide_eq_false (fun h => h.1 (Or.inl h1))⟩)
    go_enter Try.func20, Try.ntmps20
    go_wp2_with fail
    go_ret2
    exact ⟨by rw [HV.out.1, HV.out.2]; rfl, rfl⟩
  by_cases h2 : 64 < n
  · have HV := Lib.hid (show narV a n = 0 ∧ narB a n = false from ⟨by unfold narV; rw [if_pos (Or.inr h2)], decide_eq_false (fun h => h.1 (Or.inr h2))⟩)
    go_enter Try.func20, Try.ntmps20
    go_wp2_with fail
    go_ret2
    exact ⟨by rw [HV.out.1, HV.out.2]; rfl, rfl⟩
  by_cases h3 : n = 64
  · subst h3
    have e0 := narrow_all a a0 a1
    have HV := Lib.hid (show narV a 64 = a ∧ narB a 64 = true from ⟨by unfold narV; rw [if_neg (by omega)]; exact e0, decide_eq_true ⟨by omega, e0⟩⟩)
    clear e0
    go_enter Try.func20, Try.ntmps20
    go_wp2_with fail
    go_ret2
    exact ⟨by rw [HV.out.1, HV.out.2]; rfl, rfl⟩
  obtain ⟨k, hk, rfl⟩ : ∃ k : Nat, k ≤ 62 ∧ n = (k : Int) + 1 := ⟨n.toNat - 1, by omega, by omega⟩
  have e1 : ((k : Int) + 1).toNat - 1 = k := by omega
  have HV := Lib.hid (show narV a ((k : Int) + 1) = narrowZ a k ∧ narB a ((k : Int) + 1) = (narrowZ a k == a) from ⟨by unfold narV; rw [if_neg (by omega), e1], by
    have hn : ¬ ((k : Int) + 1 < 1 ∨ 64 < (k : Int) + 1) := by omega
    unfold narB
    rw [e1, Bool.eq_iff_iff, decide_eq_true_eq, beq_iff_eq]
    exact ⟨fun h => h.2, fun h => ⟨hn, h⟩⟩⟩)
  have hb := narrow_bits a k
  have p0 := pow_pos2 k
  have p1 := pow_le62 k hk
  have m0 := mask_pow a k hk
  have m1 := bit_pow a k hk
  have r0 := Int.emod_nonneg a (show (2 : Int) ^ k ≠ 0 by omega)
  have r1 := Int.emod_lt_of_pos a p0
  have hq : (((k : Int) + 1 == 64) = false) := beq_eq_false_iff_ne.2 h3
  have M0 := Lib.hid m0
  clear h3 e1 m0
  by_cases ht : a / 2 ^ k % 2 = 0
  · rw [if_pos ht, Int.sub_zero] at hb
    rw [ht, Int.zero_mul] at m1
    have z1 : (bits .and .i64 a (2 ^ k) != 0) = false := by rw [m1]; rfl
    have HB := Lib.hid hb
    clear m1 ht hb
    go_enter Try.func20, Try.ntmps20
    go_wp2_with fail
    go_ret2
    exact ⟨by rw [HV.out.1, HV.out.2, HB.out, ← M0.out]; rfl, rfl⟩
  · rw [if_neg ht] at hb
    have z1 : (bits .and .i64 a (2 ^ k) != 0) = true := by
      rw [m1, bne_iff_ne]
      have : a / 2 ^ k % 2 = 1 := by omega
      rw [this]
      omega
    have HB := Lib.hid hb
    have q0 : 0 ≤ bits .and .i64 a (2 ^ k - 1) := by rw [M0.out]; omega
    have q1 : bits .and .i64 a (2 ^ k - 1) < 2 ^ k := by rw [M0.out]; omega
    clear m1 ht hb
    go_enter Try.func20, Try.ntmps20
    go_wp2_with fail
    go_ret2
    exact ⟨by rw [HV.out.1, HV.out.2, HB.out, ← M0.out]; rfl, rfl⟩

/-! ### Share, Up -/
def shareV (a bp : Int) : Int := if a < 0 ∨ bp < 0 ∨ 1000000 < bp then 0 else fitV (shareZ a bp)
def shareE (a bp : Int) : Int := if a < 0 ∨ bp < 0 ∨ 1000000 < bp then 1 else fitE (shareZ a bp)
theorem refShare_any (a b : Int) (w : World) (a0 : -9223372036854775808 ≤ a) (a1 : a ≤ 9223372036854775807) (b0 : -9223372036854775808 ≤ b) (b1 : b ≤ 9223372036854775807) :
    Calls Try.prog 16 #[.int .i64 a, .int .i64 b] w fun e w' => e = .returned (.tuple #[.int .i64 (shareV a b), .int .i64 (shareE a b)]) ∧ w = w' := by
  by_cases h : a < 0 ∨ b < 0 ∨ 1000000 < b
  · have HV := Lib.hid (show shareV a b = 0 ∧ shareE a b = 1 from ⟨by unfold shareV; rw [if_pos h], by unfold shareE; rw [if_pos h]⟩)
    rcases h with h | h | h
    · go_enter Try.func16, Try.ntmps16
      go_wp2_with fail
      go_ret2
      exact ⟨by rw [HV.out.1, HV.out.2]; rfl, rfl⟩
    · by_cases ha : a < 0
      · go_enter Try.func16, Try.ntmps16
        go_wp2_with fail
        go_ret2
        exact ⟨by rw [HV.out.1, HV.out.2]; rfl, rfl⟩
      · go_enter Try.func16, Try.ntmps16
        go_wp2_with fail
        go_ret2
        exact ⟨by rw [HV.out.1, HV.out.2]; rfl, rfl⟩
    · by_cases ha : a < 0
      · go_enter Try.func16, Try.ntmps16
        go_wp2_with fail
        go_ret2
        exact ⟨by rw [HV.out.1, HV.out.2]; rfl, rfl⟩
      · go_enter Try.func16, Try.ntmps16
        go_wp2_with fail
        go_ret2
        exact ⟨by rw [HV.out.1, HV.out.2]; rfl, rfl⟩
  · have HV := Lib.hid (show shareV a b = fitV (shareZ a b) ∧ shareE a b = fitE (shareZ a b) from ⟨by unfold shareV; rw [if_neg h], by unfold shareE; rw [if_neg h]⟩)
    have hs := share_split a b
    obtain ⟨p0, p1⟩ := rest_bd a b (by omega)
    have hr : a % 10000 * b / 10000 ≤ 999900 := by omega
    have hr0 : 0 ≤ a % 10000 * b / 10000 := by omega
    have hx : 0 ≤ a / 10000 * b := Int.mul_nonneg (by omega) (by omega)
    obtain ⟨q0, q1, q2⟩ : 0 ≤ a ∧ 0 ≤ b ∧ b ≤ 1000000 := by omega
    clear h
    by_cases ho : a / 10000 * b ≤ 9223372036854775807
    · have F := Lib.hid (fit_in (x := a / 10000 * b) (by omega))
      have HS := Lib.hid hs
      clear hs
      go_enter Try.func16, Try.ntmps16
      go_wp2_with fail
      refine (refTimes_any (a / 10000) b _ (by omega) (by omega) b0 b1).mono ?_; rintro e w' ⟨rfl, rfl⟩
      rw [F.out.1, F.out.2]
      go_wp2_with fail
      refine (refAdd_any (a / 10000 * b) (a % 10000 * b / 10000) _ (by omega) (by omega) (by omega) (by omega)).mono ?_; rintro e w' ⟨rfl, rfl⟩
      rw [← HS.out]
      go_wp2_with fail
      go_ret2
      exact ⟨by rw [HV.out.1, HV.out.2]; rfl, rfl⟩
    · have F := Lib.hid (fit_out (x := a / 10000 * b) (by omega))
      have G := Lib.hid (fit_out (x := shareZ a b) (by omega))
      clear hs
      go_enter Try.func16, Try.ntmps16
      go_wp2_with fail
      refine (refTimes_any (a / 10000) b _ (by omega) (by omega) b0 b1).mono ?_; rintro e w' ⟨rfl, rfl⟩
      rw [F.out.1, F.out.2]
      go_wp2_with fail
      go_ret2
      exact ⟨by rw [HV.out.1, HV.out.2, G.out.1, G.out.2]; rfl, rfl⟩

theorem refUp_any (a s : Int) (w : World) (a0 : -9223372036854775808 ≤ a) (a1 : a ≤ 9223372036854775807) (s0 : -9223372036854775808 ≤ s) (s1 : s ≤ 9223372036854775807) :
    Calls Try.prog 17 #[.int .i64 a, .int .i64 s] w fun e w' => e = .returned (.tuple #[.int .i64 (upV a s), .int .i64 (upE a s)]) ∧ w = w' := by
  by_cases h1 : a < 0
  · have HV := Lib.hid (show upV a s = 0 ∧ upE a s = 1 from ⟨by unfold upV; rw [if_pos (Or.inl h1)], by unfold upE; rw [if_pos (Or.inl h1)]⟩)
    go_enter Try.func17, Try.ntmps17
    go_wp2_with fail
    go_ret2
    exact ⟨by rw [HV.out.1, HV.out.2]; rfl, rfl⟩
  by_cases h2 : s < 1
  · have HV := Lib.hid (show upV a s = 0 ∧ upE a s = 1 from ⟨by unfold upV; rw [if_pos (Or.inr h2)], by unfold upE; rw [if_pos (Or.inr h2)]⟩)
    go_enter Try.func17, Try.ntmps17
    go_wp2_with fail
    go_ret2
    exact ⟨by rw [HV.out.1, HV.out.2]; rfl, rfl⟩
  have hn : ¬ (a < 0 ∨ s < 1) := by omega
  have e1 := Int.emod_add_mul_ediv a s
  have r0 := Int.emod_nonneg a (show s ≠ 0 by omega)
  have r1 := Int.emod_lt_of_pos a (show 0 < s by omega)
  have d0 : 0 ≤ a / s := Int.ediv_nonneg (by omega) (by omega)
  have d1 : a / s ≤ a := Int.ediv_le_self _ (by omega)
  rw [Int.mul_comm] at e1
  have m0 : 0 ≤ a / s * s := Int.mul_nonneg d0 (by omega)
  by_cases h3 : a % s = 0
  · have f1 := fit_in (x := a / s * s) (by omega)
    have e2 : a / s * s = a := by omega
    have HV := Lib.hid (show upV a s = fitV (a / s * s) ∧ upE a s = fitE (a / s * s) from ⟨by unfold upV; rw [if_neg hn, if_pos h3, f1.1, e2], by unfold upE; rw [if_neg hn, if_pos h3, f1.2]⟩)
    have q : ¬ a / s * s < a := by omega
    have q2 : a / s * s ≤ a := by omega
    clear e1 e2 h3 f1 hn
    go_enter Try.func17, Try.ntmps17
    go_wp2_with fail
    refine (refTimes_any (a / s) s _ (by omega) (by omega) s0 s1).mono ?_; rintro e w' ⟨rfl, rfl⟩
    go_wp2_with fail
    go_ret2
    exact ⟨by rw [HV.out.1, HV.out.2]; rfl, rfl⟩
  · have q : a / s * s < a := by omega
    have e3 : a - a % s + s = (a / s + 1) * s := by rw [Int.add_mul, Int.one_mul]; omega
    have d2 : a / s < 9223372036854775807 := by
      by_cases hs : s = 1
      · subst hs; omega
      · have : a / s * 2 ≤ a / s * s := Int.mul_le_mul_of_nonneg_left (by omega) d0
        omega
    have HV := Lib.hid (show upV a s = fitV ((a / s + 1) * s) ∧ upE a s = fitE ((a / s + 1) * s) from ⟨by unfold upV; rw [if_neg hn, if_neg h3, ← e3]; rfl, by unfold upE; rw [if_neg hn, if_neg h3, ← e3]; rfl⟩)
    clear e1 e3 h3 hn
    go_enter Try.func17, Try.ntmps17
    go_wp2_with fail
    refine (refTimes_any (a / s + 1) s _ (by omega) (by omega) s0 s1).mono ?_; rintro e w' ⟨rfl, rfl⟩
    go_wp2_with fail
    go_ret2
    exact ⟨by rw [HV.out.1, HV.out.2]; rfl, rfl⟩

end Go.Proofs.Ytjobdibkpddemaa
